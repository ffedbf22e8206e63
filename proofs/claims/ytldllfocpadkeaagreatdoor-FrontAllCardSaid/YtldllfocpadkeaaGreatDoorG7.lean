/-
  Part of the proof. No condition.
-/
import Derived.Shelf.Strings.Search2
import Derived.Shelf.Strings.Cut
import Derived.Shelf.Strings.Split
import Derived.Shelf.LaysM
import Derived.Shelf.Strconv.Itoa3
import Derived.Shelf.Strconv.Itoa4
import Derived.Shelf.Strings.OnBuilder
import Derived.Shelf.Strings.Trim
import Derived.Shelf.Strings.Builder2
import Derived.Shelf.GgClosure.StringsIndexFunc
import Derived.Test.YtldllfocpadkeaaGreatDoorG6
import Derived.Shelf.Slices.Clone
import Derived.Test.YtldllfocpadkeaaGreatDoorBegC
noncomputable section
namespace Go.Proofs
open Go.Shelf
def Tryz.lays219_ren:Go.Shelf.Ren:=⟨λ|219=>262|217=>309|225=>310|224=>311|267=>312|266=>337|314=>338|n=>n,λ|9=>9|3=>3|4=>4|5=>5|46=>262|146=>371|51=>259|n=>n,λ|1=>1|n=>n⟩
theorem Tryz.lays219:Go.Proofs.Lays.n219 Tryz.prog Tryz.lays219_ren:={
 mixed:=by kernel_rfl
 f217:=Tryz.func309.trans (congrArg some (by kernel_rfl))
 f219:=Tryz.func262.trans (congrArg some (by kernel_rfl))
 f224:=Tryz.func311.trans (congrArg some (by kernel_rfl))
 f225:=Tryz.func310.trans (congrArg some (by kernel_rfl))
 f266:=Tryz.func337.trans (congrArg some (by kernel_rfl))
 f267:=Tryz.func312.trans (congrArg some (by kernel_rfl))
 f314:=Tryz.func338.trans (congrArg some (by kernel_rfl))
 t3:=Tryz.underlying3
 a3:=Tryz.isAgg3
 z3:=Tryz.sizeOf3
 v3:=Tryz.zeroValue3
 t4:=Tryz.underlying4
 a4:=Tryz.isAgg4
 z4:=Tryz.sizeOf4
 v4:=Tryz.zeroValue4
 t5:=Tryz.underlying5
 a5:=Tryz.isAgg5
 z5:=Tryz.sizeOf5
 v5:=Tryz.zeroValue5
 t9:=Tryz.underlying9
 a9:=Tryz.isAgg9
 z9:=Tryz.sizeOf9
 v9:=Tryz.zeroValue9
 t46:=Tryz.underlying262
 a46:=Tryz.isAgg262
 z46:=Tryz.sizeOf262
 v46:=Tryz.zeroValue262
 t51:=Tryz.underlying259
 a51:=Tryz.isAgg259
 z51:=Tryz.sizeOf259
 v51:=Tryz.zeroValue259
 t146:=Tryz.underlying371
 a146:=Tryz.isAgg371
 z146:=Tryz.sizeOf371
 v146:=Tryz.zeroValue371
 g1:=by kernel_rfl}
open Go.RowKit Go.Lib in
theorem Tryz.stringslite_Index (s sub:ByteArray) (m:Int) (w:World) (hs:s.size<4294967281) (hm:w.cell? ⟨1,0,none⟩=some (.int .i64 m)):
 Calls Tryz.prog 262 #[.string s,.string sub] w λe w'=>e=.returned (.int .i64 (Lib.index s.data.toList sub.data.toList))/\w'=w:=Any.stringslite_Index Tryz.lays219 s sub m w hs hm
open Go.Shelf
def Tryz.lays145_ren:Go.Shelf.Ren:=⟨λ|145=>133|220=>186|219=>262|217=>309|225=>310|224=>311|267=>312|266=>337|314=>338|n=>n,λ|9=>9|4=>4|59=>172|3=>3|5=>5|46=>262|146=>371|51=>259|n=>n,λ|1=>1|n=>n⟩
theorem Tryz.lays145:Go.Proofs.Lays.n145 Tryz.prog Tryz.lays145_ren:={
 mixed:=by kernel_rfl
 f145:=Tryz.func133.trans (congrArg some (by kernel_rfl))
 f217:=Tryz.func309.trans (congrArg some (by kernel_rfl))
 f219:=Tryz.func262.trans (congrArg some (by kernel_rfl))
 f220:=Tryz.func186.trans (congrArg some (by kernel_rfl))
 f224:=Tryz.func311.trans (congrArg some (by kernel_rfl))
 f225:=Tryz.func310.trans (congrArg some (by kernel_rfl))
 f266:=Tryz.func337.trans (congrArg some (by kernel_rfl))
 f267:=Tryz.func312.trans (congrArg some (by kernel_rfl))
 f314:=Tryz.func338.trans (congrArg some (by kernel_rfl))
 t3:=Tryz.underlying3
 a3:=Tryz.isAgg3
 z3:=Tryz.sizeOf3
 v3:=Tryz.zeroValue3
 t4:=Tryz.underlying4
 a4:=Tryz.isAgg4
 z4:=Tryz.sizeOf4
 v4:=Tryz.zeroValue4
 t5:=Tryz.underlying5
 a5:=Tryz.isAgg5
 z5:=Tryz.sizeOf5
 v5:=Tryz.zeroValue5
 t9:=Tryz.underlying9
 a9:=Tryz.isAgg9
 z9:=Tryz.sizeOf9
 v9:=Tryz.zeroValue9
 t46:=Tryz.underlying262
 a46:=Tryz.isAgg262
 z46:=Tryz.sizeOf262
 v46:=Tryz.zeroValue262
 t51:=Tryz.underlying259
 a51:=Tryz.isAgg259
 z51:=Tryz.sizeOf259
 v51:=Tryz.zeroValue259
 t59:=Tryz.underlying172
 a59:=Tryz.isAgg172
 z59:=Tryz.sizeOf172
 v59:=Tryz.zeroValue172
 t146:=Tryz.underlying371
 a146:=Tryz.isAgg371
 z146:=Tryz.sizeOf371
 v146:=Tryz.zeroValue371
 g1:=by kernel_rfl}
open Go.RowKit Go.Lib in
theorem Tryz.strings_Cut (s sep:ByteArray) (m:Int) (w:World) (hs:s.size<4294967281) (hm:w.cell? ⟨1,0,none⟩=some (.int .i64 m)):
 Calls Tryz.prog 133 #[.string s,.string sep] w λe w'=>e=.returned (.tuple #[.string ⟨(Lib.cut s.data.toList sep.data.toList).1.toArray⟩,.string ⟨(Lib.cut s.data.toList sep.data.toList).2.1.toArray⟩,.bool (Lib.cut s.data.toList sep.data.toList).2.2])/\∃n,w'=w.drewN n:=Any.strings_Cut Tryz.lays145 s sep m w hs hm
def Tryz.lays146_ren:Go.Shelf.Ren:=⟨λ|146=>132|221=>185|268=>259|138=>260|143=>261|195=>307|197=>212|218=>308|219=>262|260=>277|217=>309|225=>310|224=>311|267=>312|266=>337|314=>338|n=>n,λ|9=>9|31=>33|3=>3|4=>4|0=>0|105=>253|21=>21|5=>5|46=>262|119=>352|139=>355|138=>354|146=>371|51=>259|n=>n,λ|1=>1|3=>3|4=>4|n=>n⟩
theorem Tryz.lays146:Go.Proofs.Lays.n146 Tryz.prog Tryz.lays146_ren:={
 mixed:=by kernel_rfl
 f138:=Tryz.func260.trans (congrArg some (by kernel_rfl))
 f143:=Tryz.func261.trans (congrArg some (by kernel_rfl))
 f146:=Tryz.func132.trans (congrArg some (by kernel_rfl))
 f195:=Tryz.func307.trans (congrArg some (by kernel_rfl))
 f197:=Tryz.func212.trans (congrArg some (by kernel_rfl))
 f217:=Tryz.func309.trans (congrArg some (by kernel_rfl))
 f218:=Tryz.func308.trans (congrArg some (by kernel_rfl))
 f219:=Tryz.func262.trans (congrArg some (by kernel_rfl))
 f221:=Tryz.func185.trans (congrArg some (by kernel_rfl))
 f224:=Tryz.func311.trans (congrArg some (by kernel_rfl))
 f225:=Tryz.func310.trans (congrArg some (by kernel_rfl))
 f260:=Tryz.func277.trans (congrArg some (by kernel_rfl))
 f266:=Tryz.func337.trans (congrArg some (by kernel_rfl))
 f267:=Tryz.func312.trans (congrArg some (by kernel_rfl))
 f268:=Tryz.func259.trans (congrArg some (by kernel_rfl))
 f314:=Tryz.func338.trans (congrArg some (by kernel_rfl))
 t0:=Tryz.underlying0
 a0:=Tryz.isAgg0
 z0:=Tryz.sizeOf0
 v0:=Tryz.zeroValue0
 t3:=Tryz.underlying3
 a3:=Tryz.isAgg3
 z3:=Tryz.sizeOf3
 v3:=Tryz.zeroValue3
 t4:=Tryz.underlying4
 a4:=Tryz.isAgg4
 z4:=Tryz.sizeOf4
 v4:=Tryz.zeroValue4
 t5:=Tryz.underlying5
 a5:=Tryz.isAgg5
 z5:=Tryz.sizeOf5
 v5:=Tryz.zeroValue5
 t9:=Tryz.underlying9
 a9:=Tryz.isAgg9
 z9:=Tryz.sizeOf9
 v9:=Tryz.zeroValue9
 t21:=Tryz.underlying21
 a21:=Tryz.isAgg21
 z21:=Tryz.sizeOf21
 v21:=Tryz.zeroValue21
 t31:=Tryz.underlying33
 a31:=Tryz.isAgg33
 z31:=Tryz.sizeOf33
 v31:=Tryz.zeroValue33
 t46:=Tryz.underlying262
 a46:=Tryz.isAgg262
 z46:=Tryz.sizeOf262
 v46:=Tryz.zeroValue262
 t51:=Tryz.underlying259
 a51:=Tryz.isAgg259
 z51:=Tryz.sizeOf259
 v51:=Tryz.zeroValue259
 t105:=Tryz.underlying253
 a105:=Tryz.isAgg253
 z105:=Tryz.sizeOf253
 v105:=Tryz.zeroValue253
 t119:=Tryz.underlying352
 a119:=Tryz.isAgg352
 z119:=Tryz.sizeOf352
 t138:=Tryz.underlying354
 a138:=Tryz.isAgg354
 z138:=Tryz.sizeOf354
 v138:=Tryz.zeroValue354
 t139:=Tryz.underlying355
 a139:=Tryz.isAgg355
 z139:=Tryz.sizeOf355
 v139:=Tryz.zeroValue355
 t146:=Tryz.underlying371
 a146:=Tryz.isAgg371
 z146:=Tryz.sizeOf371
 v146:=Tryz.zeroValue371
 g1:=by kernel_rfl
 g3:=by kernel_rfl
 g4:=by kernel_rfl}
open Go.RowKit Go.Lib in
theorem Tryz.strings_Split (s sep:ByteArray) (m:Int) (w:World) (hs:s.size<4294967281) (hm:w.cell? ⟨1,0,none⟩=some (.int .i64 m)) (h1:1<=sep.size):
 Calls Tryz.prog 132 #[.string s,.string sep] w λe w'=>
  e=.returned (.slice (some ⟨w.heap.size,0,none⟩) (Lib.countB s sep+1) (Lib.countB s sep+1))/\w'=w.alloc (.cells ((Lib.splitB sep 0 (Lib.countB s sep) s).map Value.string).toArray 9):=Any.strings_Split Tryz.lays146 (by kernel_rfl) s sep m w hs hm h1
end Go.Proofs
namespace Go.Proofs.YtldllfocpadkeaaGreatDoor
open Go Go.Eng Nice Go.RowKit
set_option maxRecDepth 1000000
theorem rd_cons' {fz:Nat->Option (Array Value)} {t:Ty} {ts:List Ty} {x:DenL (t::ts)} {l:List Value} (ht:t.agg=false) (h:RdAll fz (t::ts) x l):∃v r,l=v::r/\RdC fz t x.1 [v]/\RdAll fz ts x.2 r:=by
 obtain⟨v,r,e,hv,hr⟩:=h;rcases hv with⟨h,_⟩|⟨_,hv⟩
 ·rw[ht] at h;cases h
 ·exact⟨v,r,e,hv,hr⟩
theorem glMax {w:World} (hgl:GlW glC w):∃m,w.cell? ⟨1,0,none⟩=some (.int .i64 m):=by
 obtain⟨u,hu,hg⟩:=hgl.1 (1,[ai .i64]) (by simp[glC]) 0 (ai .i64) rfl;rcases hg with⟨hp,_⟩|⟨b,he,_⟩|⟨k,m,he,h2⟩
 ·cases hp
 ·cases he
 ·cases he;exact⟨m,by rw[hu,h2]⟩
theorem cutE_c:PC 133 cutES:=pc_mk λfz w args x hgl hr hp=>by
 obtain⟨s,p,⟨⟩⟩:=x;simp only[cutES,Bool.and_eq_true,beq_iff_eq] at hp;obtain⟨hl,rfl⟩:=hp;have hl:s.length<4294967281:=of_decide_eq_true hl;obtain⟨_,_,e1,h1,hr1⟩:=rd_cons' rfl hr;obtain⟨_,r3,rfl,h2,hr2⟩:=rd_cons' rfl hr1;obtain rfl:r3=[]:=hr2;cases h1;cases h2;have ha:args=#[.string (bs s),.string (bs [61])]:=Array.toList_inj.1 e1
 subst ha;obtain⟨m,hm⟩:=glMax hgl;refine(Tryz.strings_Cut (bs s) (bs [61]) m w (by rw[bs_len];exact hl) hm).mono ?_;rintro e w' ⟨rfl,n,rfl⟩;rw[bs_data,bs_data];exact⟨[.string (bs (Lib.cut s [61]).1),.string (bs (Lib.cut s [61]).2.1),.bool (Lib.cut s [61]).2.2],rfl,⟨_,_,rfl,.inr ⟨rfl,rfl⟩,_,_,rfl,.inr ⟨rfl,rfl⟩,_,_,rfl,.inr ⟨rfl,rfl⟩,rfl⟩,⟨Nat.le_refl _,rfl,rfl,λ_ _=>rfl⟩⟩
theorem split_c:PC 132 splitS:=by
 intro fz w args x hfz hgl hr hp;obtain⟨s,p,⟨⟩⟩:=x;simp only[splitS,Bool.and_eq_true,beq_iff_eq] at hp;obtain⟨hl,rfl⟩:=hp;have hl:s.length<4294967281:=of_decide_eq_true hl;obtain⟨_,_,e1,h1,hr1⟩:=rd_cons' rfl hr;obtain⟨_,r3,rfl,h2,hr2⟩:=rd_cons' rfl hr1;obtain rfl:r3=[]:=hr2;cases h1;cases h2;have ha:args=#[.string (bs s),.string (bs [38])]:=Array.toList_inj.1 e1
 subst ha;obtain⟨m,hm⟩:=glMax hgl;refine(Tryz.strings_Split (bs s) (bs [38]) m w (by rw[bs_len];exact hl) hm (Nat.le_refl 1)).mono ?_;rintro e w' ⟨rfl,rfl⟩;have hd:=Lib.splitB_data (bs [38]) 0 (Lib.countB (bs s) (bs [38])) (bs s);have hn:=Lib.splitB_all (bs [38]) (Nat.le_refl 1) 0 (Lib.countB (bs s) (bs [38])) (bs s) rfl
 have hS:(Lib.splitB (bs [38]) 0 (Lib.countB (bs s) (bs [38])) (bs s)).map (·.data.toList)=splitN s:=hd;generalize Lib.splitB (bs [38]) 0 (Lib.countB (bs s) (bs [38])) (bs s)=L at hn hS;generalize Lib.countB (bs s) (bs [38])=k at hn;have hlen:(splitN s).length=k+1:=by rw[<-hS,List.length_map];exact hn
 have hlt:∀b c,fz b=some c->b<w.heap.size:=λb c hb=>by
  obtain⟨e,fr,h⟩:=hfz b c hb;exact(Array.getElem?_eq_some_iff.1 h).1
 have hold:∀b,b<w.heap.size->(w.alloc (.cells (L.map Value.string).toArray 9)).heap[b]?=w.heap[b]?:=λb hb=>by
  show(w.heap.push _)[b]?=_;rw[Array.getElem?_push,if_neg (by omega)]
 refine⟨[.slice (some ⟨w.heap.size,0,none⟩) (k+1) (k+1)],λb=>if b=w.heap.size then some (L.map Value.string).toArray else fz b,rfl,λb c h=> ?_,λb c h=> ?_,λb c h=> ?_,?_,?_⟩
 ·have:=hlt b c h;simp only[if_neg (by omega:¬b=w.heap.size)];exact h
 ·by_cases hb:b=w.heap.size
  ·subst hb;simp only[if_true,Option.some.injEq] at h;subst h;exact⟨_,_,by show(w.heap.push _)[w.heap.size]?=_;rw[Array.getElem?_push,if_pos rfl]⟩
  ·simp only[if_neg hb] at h;obtain⟨e,fr,h'⟩:=hfz b c h;exact⟨e,fr,by rw[hold b (hlt b c h)];exact h'⟩
 ·by_cases hb:b=w.heap.size
  ·exact .inr (by omega)
  ·simp only[if_neg hb] at h;exact .inl h
 ·refine⟨_,_,rfl,.inr ⟨rfl,_,rfl,.inr ⟨w.heap.size,0,k+1,(L.map Value.string).toArray,?_,by simp,?_,?_,?_⟩⟩,rfl⟩
  ·show _=Value.slice _ (splitN s).length _;rw[hlen]
  ·show 0+(splitN s).length*1<=_;rw[hlen];simp;omega
  ·show(splitN s).length<=_;rw[hlen];exact Nat.le_refl _
  ·intro i x hx;have hx:(splitN s)[i]?=some x:=hx;rw[<-hS,List.getElem?_map] at hx;obtain⟨y,hy,rfl⟩:=Option.map_eq_some_iff.1 hx;show((L.map Value.string).toArray.toList.drop (0+i*1)).take 1=[.string (bs y.data.toList)];have:(L.map Value.string)[i]?=some (.string y):=by rw[List.getElem?_map,hy];rfl
   rw[show 0+i*1=i by omega];show((L.map Value.string).drop i).take 1=_;obtain⟨hi,e⟩:=List.getElem?_eq_some_iff.1 this;rw[List.drop_eq_getElem_cons hi,e];have:bs y.data.toList=y:=bs_toL y;rw[this];rfl
 ·exact⟨by show w.heap.size<=(w.heap.push _).size;simp,rfl,rfl,hold⟩
end Go.Proofs.YtldllfocpadkeaaGreatDoor
namespace Go.Proofs
open Go.Shelf
def Tryz.laysM171_ren:Go.Shelf.Ren:=⟨λ|171=>79|243=>125|246=>126|283=>167|284=>168|285=>169|286=>170|129=>218|317=>217|318=>219|319=>220|320=>221|337=>280|338=>281|n=>n,λ|3=>3|9=>9|2=>2|4=>4|171=>199|0=>0|53=>144|37=>78|5=>5|173=>202|212=>258|51=>259|20=>20|213=>260|46=>262|232=>356|233=>357|n=>n,λ|17=>0|18=>5|19=>6|n=>n⟩
theorem Tryz.laysM171:Go.Proofs.LaysM.n171 Tryz.prog Tryz.laysM171_ren:={
 mixed:=by kernel_rfl
 f129:=Tryz.func218.trans (congrArg some (by kernel_rfl))
 f171:=Tryz.func79.trans (congrArg some (by kernel_rfl))
 f243:=Tryz.func125.trans (congrArg some (by kernel_rfl))
 f246:=Tryz.func126.trans (congrArg some (by kernel_rfl))
 f283:=Tryz.func167.trans (congrArg some (by kernel_rfl))
 f284:=Tryz.func168.trans (congrArg some (by kernel_rfl))
 f285:=Tryz.func169.trans (congrArg some (by kernel_rfl))
 f286:=Tryz.func170.trans (congrArg some (by kernel_rfl))
 f317:=Tryz.func217.trans (congrArg some (by kernel_rfl))
 f318:=Tryz.func219.trans (congrArg some (by kernel_rfl))
 f319:=Tryz.func220.trans (congrArg some (by kernel_rfl))
 f320:=Tryz.func221.trans (congrArg some (by kernel_rfl))
 f337:=Tryz.func280.trans (congrArg some (by kernel_rfl))
 f338:=Tryz.func281.trans (congrArg some (by kernel_rfl))
 t0:=Tryz.underlying0
 a0:=Tryz.isAgg0
 z0:=Tryz.sizeOf0
 v0:=Tryz.zeroValue0
 t2:=Tryz.underlying2
 a2:=Tryz.isAgg2
 z2:=Tryz.sizeOf2
 v2:=Tryz.zeroValue2
 t3:=Tryz.underlying3
 a3:=Tryz.isAgg3
 z3:=Tryz.sizeOf3
 v3:=Tryz.zeroValue3
 t4:=Tryz.underlying4
 a4:=Tryz.isAgg4
 z4:=Tryz.sizeOf4
 v4:=Tryz.zeroValue4
 t5:=Tryz.underlying5
 a5:=Tryz.isAgg5
 z5:=Tryz.sizeOf5
 v5:=Tryz.zeroValue5
 t9:=Tryz.underlying9
 a9:=Tryz.isAgg9
 z9:=Tryz.sizeOf9
 v9:=Tryz.zeroValue9
 t20:=Tryz.underlying20
 a20:=Tryz.isAgg20
 z20:=Tryz.sizeOf20
 v20:=Tryz.zeroValue20
 t37:=Tryz.underlying78
 a37:=Tryz.isAgg78
 z37:=Tryz.sizeOf78
 v37:=Tryz.zeroValue78
 t46:=Tryz.underlying262
 a46:=Tryz.isAgg262
 z46:=Tryz.sizeOf262
 v46:=Tryz.zeroValue262
 t51:=Tryz.underlying259
 a51:=Tryz.isAgg259
 z51:=Tryz.sizeOf259
 v51:=Tryz.zeroValue259
 t53:=Tryz.underlying144
 a53:=Tryz.isAgg144
 z53:=Tryz.sizeOf144
 v53:=Tryz.zeroValue144
 t171:=Tryz.underlying199
 a171:=Tryz.isAgg199
 z171:=Tryz.sizeOf199
 v171:=Tryz.zeroValue199
 t173:=Tryz.underlying202
 a173:=Tryz.isAgg202
 z173:=Tryz.sizeOf202
 v173:=Tryz.zeroValue202
 t212:=Tryz.underlying258
 a212:=Tryz.isAgg258
 z212:=Tryz.sizeOf258
 v212:=Tryz.zeroValue258
 t213:=Tryz.underlying260
 a213:=Tryz.isAgg260
 z213:=Tryz.sizeOf260
 t232:=Tryz.underlying356
 a232:=Tryz.isAgg356
 z232:=Tryz.sizeOf356
 v232:=Tryz.zeroValue356
 t233:=Tryz.underlying357
 a233:=Tryz.isAgg357
 z233:=Tryz.sizeOf357
 v233:=Tryz.zeroValue357
 g17:=by kernel_rfl
 g18:=by kernel_rfl
 g19:=by kernel_rfl
 i0:=by kernel_rfl
 i2:=by kernel_rfl
 i3:=by kernel_rfl
 i4:=by kernel_rfl
 i5:=by kernel_rfl
 i9:=by kernel_rfl
 i20:=by kernel_rfl
 i37:=by kernel_rfl
 i46:=by kernel_rfl
 i51:=by kernel_rfl
 i53:=by kernel_rfl
 i171:=by kernel_rfl
 i173:=by kernel_rfl
 i212:=by kernel_rfl
 i232:=by kernel_rfl
 i233:=by kernel_rfl
 m17:=by kernel_rfl
 m18:=by kernel_rfl
 m19:=by kernel_rfl}
open Go.RowKit Go.Sort Go.Lib in
theorem Tryz.strconv_Itoa (n:Int) (h0: -9223372036854775808<=n) (h1:n<=9223372036854775807) (w:World) (htab:Lib.TabIs Tryz.prog w "internal/strconv.uint64pow10" .u64 Lib.pow10Tab):
 Calls Tryz.prog 79 #[.int .i64 n] w λe w'=>e=.returned (.string ⟨(Lib.itoa n).toArray⟩)/\∃k os,w'=grow (w.drewN k) os:=Any.strconv_Itoa Tryz.laysM171 n h0 h1 w htab
end Go.Proofs
namespace Go.Proofs.YtldllfocpadkeaaGreatDoor
open Go Go.Eng Nice Go.RowKit Go.Sort
set_option maxRecDepth 1000000
theorem pow10C_eq:pow10C=Lib.pow10Tab.map λz=>Value.int .u64 z:=by kernel_rfl
theorem pow10_at:Tryz.prog.globalNamed "internal/strconv.uint64pow10" =some 0:=by kernel_rfl
theorem glTab {w:World} (hgl:GlW glC w):Lib.TabIs Tryz.prog w "internal/strconv.uint64pow10" .u64 Lib.pow10Tab:=by
 obtain⟨c,e,fr,h1,h2⟩:=hgl.2 (0,pow10C) (by simp[glC]);unfold Lib.TabIs World.var?;rw[pow10_at];simp only[Option.bind_some,h1];congr 1;rw[<-pow10C_eq];apply Array.ext
 ·simpa using h2
 ·intro i hi hj;have hj':i<pow10C.length:=by simpa using hj
  obtain⟨u,hu,hg⟩:=hgl.1 (0,pow10C) (by simp[glC]) i pow10C[i] (List.getElem?_eq_getElem hj');have hz:∃z,pow10C[i]=Value.int .u64 z:=by
   have hm:pow10C[i]∈Lib.pow10Tab.map λz=>Value.int .u64 z:=by rw[<-pow10C_eq];exact List.getElem_mem hj'
   obtain⟨z,_,hz⟩:=List.mem_map.1 hm;exact⟨z,hz.symm⟩
  obtain⟨z,hz⟩:=hz;have e:u=pow10C[i]:=by
   rcases hg with⟨_,h⟩|⟨b,he,_⟩|⟨k,m,he,_⟩
   ·exact h
   ·rw[hz] at he;cases he
   ·rw[hz] at he;cases he
  simp only[World.cell?,h1] at hu;have:c[i]?=some u:=by simpa using hu
  rw[Array.getElem?_eq_getElem hi] at this;rw[Option.some.inj this,e];simp
theorem same_grow (w:World) (k:Nat) (os:Array Obj):Same w (grow (w.drewN k) os):=by
 refine⟨?_,rfl,rfl,λb hb=> ?_⟩
 ·show w.heap.size<=(w.heap++os).size;simp
 ·show(w.heap++os)[b]?=w.heap[b]?;rw[Array.getElem?_append_left hb]
theorem i64P_iff {n:Int}:i64P n=true↔ -9223372036854775808<=n/\n<=9223372036854775807:=by
 unfold i64P;rw[Bool.and_eq_true,decide_eq_true_eq,decide_eq_true_eq]
theorem itoa_c:PC 79 itoaS:=pc_mk λfz w args x hgl hr hp=>by
 obtain⟨n,⟨⟩⟩:=x;obtain⟨h0,h1⟩:=i64P_iff.1 hp;obtain⟨_,r3,e1,g1,hr1⟩:=rd_cons' rfl hr;obtain rfl:r3=[]:=hr1;cases g1;have ha:args=#[.int .i64 n]:=Array.toList_inj.1 e1;subst ha;refine(Tryz.strconv_Itoa n h0 h1 w (glTab hgl)).mono ?_;rintro e w' ⟨rfl,k,os,rfl⟩;exact⟨[.string (bs (Lib.itoa n))],rfl,⟨_,_,rfl,.inr ⟨rfl,rfl⟩,rfl⟩,same_grow _ _ _⟩
end Go.Proofs.YtldllfocpadkeaaGreatDoor
namespace Go.Proofs
open Go.Shelf
def Tryz.lays159_ren:Go.Shelf.Ren:=⟨λ|159=>152|165=>171|166=>172|167=>208|169=>173|230=>209|204=>210|240=>222|241=>223|197=>212|118=>273|168=>274|270=>275|262=>276|276=>282|277=>283|260=>277|242=>320|313=>321|278=>346|274=>347|275=>348|n=>n,λ|9=>9|4=>4|3=>3|5=>5|72=>206|0=>0|76=>210|75=>209|107=>252|70=>204|20=>20|37=>78|127=>264|21=>21|105=>253|164=>318|162=>351|203=>349|119=>352|46=>262|139=>355|138=>354|51=>259|160=>374|208=>391|206=>389|80=>75|n=>n,λ|13=>2|3=>3|4=>4|n=>n⟩
theorem Tryz.lays159:Go.Proofs.Lays.n159 Tryz.prog Tryz.lays159_ren:={
 mixed:=by kernel_rfl
 f118:=Tryz.func273.trans (congrArg some (by kernel_rfl))
 f159:=Tryz.func152.trans (congrArg some (by kernel_rfl))
 f165:=Tryz.func171.trans (congrArg some (by kernel_rfl))
 f166:=Tryz.func172.trans (congrArg some (by kernel_rfl))
 f167:=Tryz.func208.trans (congrArg some (by kernel_rfl))
 f168:=Tryz.func274.trans (congrArg some (by kernel_rfl))
 f169:=Tryz.func173.trans (congrArg some (by kernel_rfl))
 f197:=Tryz.func212.trans (congrArg some (by kernel_rfl))
 f204:=Tryz.func210.trans (congrArg some (by kernel_rfl))
 f230:=Tryz.func209.trans (congrArg some (by kernel_rfl))
 f240:=Tryz.func222.trans (congrArg some (by kernel_rfl))
 f241:=Tryz.func223.trans (congrArg some (by kernel_rfl))
 f242:=Tryz.func320.trans (congrArg some (by kernel_rfl))
 f260:=Tryz.func277.trans (congrArg some (by kernel_rfl))
 f262:=Tryz.func276.trans (congrArg some (by kernel_rfl))
 f270:=Tryz.func275.trans (congrArg some (by kernel_rfl))
 f274:=Tryz.func347.trans (congrArg some (by kernel_rfl))
 f275:=Tryz.func348.trans (congrArg some (by kernel_rfl))
 f276:=Tryz.func282.trans (congrArg some (by kernel_rfl))
 f277:=Tryz.func283.trans (congrArg some (by kernel_rfl))
 f278:=Tryz.func346.trans (congrArg some (by kernel_rfl))
 f313:=Tryz.func321.trans (congrArg some (by kernel_rfl))
 t0:=Tryz.underlying0
 a0:=Tryz.isAgg0
 z0:=Tryz.sizeOf0
 v0:=Tryz.zeroValue0
 t3:=Tryz.underlying3
 a3:=Tryz.isAgg3
 z3:=Tryz.sizeOf3
 v3:=Tryz.zeroValue3
 t4:=Tryz.underlying4
 a4:=Tryz.isAgg4
 z4:=Tryz.sizeOf4
 v4:=Tryz.zeroValue4
 t5:=Tryz.underlying5
 a5:=Tryz.isAgg5
 z5:=Tryz.sizeOf5
 v5:=Tryz.zeroValue5
 t9:=Tryz.underlying9
 a9:=Tryz.isAgg9
 z9:=Tryz.sizeOf9
 v9:=Tryz.zeroValue9
 t20:=Tryz.underlying20
 a20:=Tryz.isAgg20
 z20:=Tryz.sizeOf20
 v20:=Tryz.zeroValue20
 t21:=Tryz.underlying21
 a21:=Tryz.isAgg21
 z21:=Tryz.sizeOf21
 v21:=Tryz.zeroValue21
 t37:=Tryz.underlying78
 a37:=Tryz.isAgg78
 z37:=Tryz.sizeOf78
 v37:=Tryz.zeroValue78
 t46:=Tryz.underlying262
 a46:=Tryz.isAgg262
 z46:=Tryz.sizeOf262
 v46:=Tryz.zeroValue262
 t51:=Tryz.underlying259
 a51:=Tryz.isAgg259
 z51:=Tryz.sizeOf259
 v51:=Tryz.zeroValue259
 t70:=Tryz.underlying204
 a70:=Tryz.isAgg204
 z70:=Tryz.sizeOf204
 v70:=Tryz.zeroValue204
 t72:=Tryz.underlying206
 a72:=Tryz.isAgg206
 z72:=Tryz.sizeOf206
 v72:=Tryz.zeroValue206
 t75:=Tryz.underlying209
 a75:=Tryz.isAgg209
 z75:=Tryz.sizeOf209
 v75:=Tryz.zeroValue209
 t76:=Tryz.underlying210
 a76:=Tryz.isAgg210
 z76:=Tryz.sizeOf210
 v76:=Tryz.zeroValue210
 t105:=Tryz.underlying253
 a105:=Tryz.isAgg253
 z105:=Tryz.sizeOf253
 v105:=Tryz.zeroValue253
 t107:=Tryz.underlying252
 a107:=Tryz.isAgg252
 z107:=Tryz.sizeOf252
 v107:=Tryz.zeroValue252
 t119:=Tryz.underlying352
 a119:=Tryz.isAgg352
 z119:=Tryz.sizeOf352
 t127:=Tryz.underlying264
 a127:=Tryz.isAgg264
 z127:=Tryz.sizeOf264
 v127:=Tryz.zeroValue264
 t138:=Tryz.underlying354
 a138:=Tryz.isAgg354
 z138:=Tryz.sizeOf354
 v138:=Tryz.zeroValue354
 t139:=Tryz.underlying355
 a139:=Tryz.isAgg355
 z139:=Tryz.sizeOf355
 v139:=Tryz.zeroValue355
 t160:=Tryz.underlying374
 a160:=Tryz.isAgg374
 z160:=Tryz.sizeOf374
 v160:=Tryz.zeroValue374
 t162:=Tryz.underlying351
 a162:=Tryz.isAgg351
 z162:=Tryz.sizeOf351
 v162:=Tryz.zeroValue351
 t164:=Tryz.underlying318
 a164:=Tryz.isAgg318
 z164:=Tryz.sizeOf318
 v164:=Tryz.zeroValue318
 t203:=Tryz.underlying349
 a203:=Tryz.isAgg349
 z203:=Tryz.sizeOf349
 v203:=Tryz.zeroValue349
 t206:=Tryz.underlying389
 a206:=Tryz.isAgg389
 z206:=Tryz.sizeOf389
 v206:=Tryz.zeroValue389
 t208:=Tryz.underlying391
 a208:=Tryz.isAgg391
 z208:=Tryz.sizeOf391
 v208:=Tryz.zeroValue391
 g3:=by kernel_rfl
 g4:=by kernel_rfl
 g13:=by kernel_rfl}
theorem Tryz.Builder_Extra_159:Builder.Extra Tryz.prog Tryz.lays159_ren:={
 sizeBuilder:=by kernel_rfl
 liesBuilder:=by kernel_rfl
 t5:=Tryz.underlying5
 a5:=Tryz.isAgg5
 z5:=Tryz.sizeOf5
 v5:=Tryz.zeroValue5
 infoByte:=by kernel_rfl
 cellsByte:=by kernel_rfl
 sizeByte:=by kernel_rfl
 neB5:=by decide}
open Go.RowKit in
theorem Tryz.strings_ToLower_ascii (s:ByteArray) (w:World) (hs:s.size<=140737488355328) (hascii:∀(j:Nat) (b:UInt8),s.data.toList[j]?=some b->b.toNat<128):
 Calls Tryz.prog 152 #[.string s] w λe w'=>e=.returned (.string ⟨(Lib.toLowerA s.data.toList).toArray⟩)/\Below w.heap.size w w':=Any.strings_ToLower_ascii Tryz.lays159 Tryz.Builder_Extra_159 s w hs hascii
def Tryz.lays160_ren:Go.Shelf.Ren:=⟨λ|160=>116|232=>154|231=>153|227=>155|234=>157|233=>156|236=>159|235=>158|228=>211|271=>214|151=>213|197=>212|120=>279|152=>278|260=>277|137=>286|119=>322|224=>311|225=>310|217=>309|266=>337|n=>n,λ|9=>9|4=>4|3=>3|5=>5|117=>195|116=>194|0=>0|124=>198|21=>21|105=>253|46=>262|119=>352|139=>355|138=>354|n=>n,λ|3=>3|4=>4|n=>n⟩
theorem Tryz.lays160:Go.Proofs.Lays.n160 Tryz.prog Tryz.lays160_ren:={
 mixed:=by kernel_rfl
 f119:=Tryz.func322.trans (congrArg some (by kernel_rfl))
 f120:=Tryz.func279.trans (congrArg some (by kernel_rfl))
 f137:=Tryz.func286.trans (congrArg some (by kernel_rfl))
 f151:=Tryz.func213.trans (congrArg some (by kernel_rfl))
 f152:=Tryz.func278.trans (congrArg some (by kernel_rfl))
 f160:=Tryz.func116.trans (congrArg some (by kernel_rfl))
 f197:=Tryz.func212.trans (congrArg some (by kernel_rfl))
 f217:=Tryz.func309.trans (congrArg some (by kernel_rfl))
 f224:=Tryz.func311.trans (congrArg some (by kernel_rfl))
 f225:=Tryz.func310.trans (congrArg some (by kernel_rfl))
 f227:=Tryz.func155.trans (congrArg some (by kernel_rfl))
 f228:=Tryz.func211.trans (congrArg some (by kernel_rfl))
 f231:=Tryz.func153.trans (congrArg some (by kernel_rfl))
 f232:=Tryz.func154.trans (congrArg some (by kernel_rfl))
 f233:=Tryz.func156.trans (congrArg some (by kernel_rfl))
 f234:=Tryz.func157.trans (congrArg some (by kernel_rfl))
 f235:=Tryz.func158.trans (congrArg some (by kernel_rfl))
 f236:=Tryz.func159.trans (congrArg some (by kernel_rfl))
 f260:=Tryz.func277.trans (congrArg some (by kernel_rfl))
 f266:=Tryz.func337.trans (congrArg some (by kernel_rfl))
 f271:=Tryz.func214.trans (congrArg some (by kernel_rfl))
 t0:=Tryz.underlying0
 a0:=Tryz.isAgg0
 z0:=Tryz.sizeOf0
 v0:=Tryz.zeroValue0
 t3:=Tryz.underlying3
 a3:=Tryz.isAgg3
 z3:=Tryz.sizeOf3
 v3:=Tryz.zeroValue3
 t4:=Tryz.underlying4
 a4:=Tryz.isAgg4
 z4:=Tryz.sizeOf4
 v4:=Tryz.zeroValue4
 t5:=Tryz.underlying5
 a5:=Tryz.isAgg5
 z5:=Tryz.sizeOf5
 v5:=Tryz.zeroValue5
 t9:=Tryz.underlying9
 a9:=Tryz.isAgg9
 z9:=Tryz.sizeOf9
 v9:=Tryz.zeroValue9
 t21:=Tryz.underlying21
 a21:=Tryz.isAgg21
 z21:=Tryz.sizeOf21
 v21:=Tryz.zeroValue21
 t46:=Tryz.underlying262
 a46:=Tryz.isAgg262
 z46:=Tryz.sizeOf262
 v46:=Tryz.zeroValue262
 t105:=Tryz.underlying253
 a105:=Tryz.isAgg253
 z105:=Tryz.sizeOf253
 v105:=Tryz.zeroValue253
 t116:=Tryz.underlying194
 a116:=Tryz.isAgg194
 z116:=Tryz.sizeOf194
 t117:=Tryz.underlying195
 a117:=Tryz.isAgg195
 z117:=Tryz.sizeOf195
 v117:=Tryz.zeroValue195
 t119:=Tryz.underlying352
 a119:=Tryz.isAgg352
 z119:=Tryz.sizeOf352
 t124:=Tryz.underlying198
 a124:=Tryz.isAgg198
 z124:=Tryz.sizeOf198
 v124:=Tryz.zeroValue198
 t138:=Tryz.underlying354
 a138:=Tryz.isAgg354
 z138:=Tryz.sizeOf354
 v138:=Tryz.zeroValue354
 t139:=Tryz.underlying355
 a139:=Tryz.isAgg355
 z139:=Tryz.sizeOf355
 v139:=Tryz.zeroValue355
 g3:=by kernel_rfl
 g4:=by kernel_rfl}
open Go.RowKit in
theorem Tryz.strings_Trim_one (s:ByteArray) (c:UInt8) (hc:c.toNat<128) (w:World) (hs:s.size<=9223372036854775807):
 Calls Tryz.prog 116 #[.string s,.string ⟨#[c]⟩] w λe w'=>e=.returned (.string ⟨(Lib.trimB s.data.toList c).toArray⟩)/\(w'=w\/w'=w.drew):=Any.strings_Trim_one Tryz.lays160 s c hc w hs
end Go.Proofs
namespace Go.Proofs.YtldllfocpadkeaaGreatDoor
open Go Go.Eng
def sumI (sum:FuncId->List Value->Option Value) (f:FuncId) (a:List Value):Option Value:=
 bif Nat.beq f 262 then match a with
  |[.string s,.string t]=>bif Nat.blt s.size 60 then some (.int .i64 (Lib.index s.data.toList t.data.toList)) else none
  |_=>none
 else sum f a
theorem env_idx {sum:FuncId->List Value->Option Value} {spec:FuncId->Option PSpec} (h:(envC sum spec).OK Tryz.prog):(envC (sumI sum) spec).OK Tryz.prog:=
 env_ok (λf a v hs=>by
  unfold sumI at hs;cases hb:Nat.beq f 262
  ·rw[hb,cond_false] at hs;exact h.sum f a v hs
  ·rw[hb,cond_true] at hs;rw[beq_eq hb]
   split at hs
   ·rename_i s t;cases hl:Nat.blt s.size 60
    ·rw[hl] at hs;cases hs
    ·rw[hl,cond_true] at hs;cases hs;have hl:s.size<60:=by simpa using hl
     refine⟨rfl,rfl,λw hw=> ?_⟩;obtain⟨u,hu,hr⟩:=hw.1 (1,[ai .i64]) (by simp[glC]) 0 (ai .i64) rfl;rcases hr with⟨hp,_⟩|⟨b,he,_⟩|⟨k,m,he,rfl⟩
     ·cases hp
     ·cases he
     ·cases he;refine(Tryz.stringslite_Index s t m w (by omega) hu).mono ?_;rintro e w' ⟨rfl,rfl⟩;exact⟨rfl,Nat.le_refl _,rfl,rfl,λ_ _=>rfl⟩
   ·cases hs) h.spec
end Go.Proofs.YtldllfocpadkeaaGreatDoor
namespace Go.Proofs
open Go.Shelf
def Tryz.laysC174_ren:Go.Shelf.Ren:=⟨λ|174=>191|247=>264|245=>258|287=>313|279=>303|280=>304|281=>305|282=>306|321=>339|322=>340|316=>335|171=>79|205=>336|243=>125|246=>126|283=>167|284=>168|285=>169|286=>170|129=>218|317=>217|318=>219|319=>220|320=>221|337=>280|338=>281|n=>n,λ|9=>9|3=>3|2=>2|75=>209|85=>230|4=>4|167=>337|5=>5|53=>144|175=>342|46=>262|168=>338|37=>78|0=>0|210=>369|21=>21|127=>264|145=>384|143=>382|171=>199|173=>202|212=>258|51=>259|20=>20|213=>260|232=>356|233=>357|80=>75|n=>n,λ|15=>7|16=>8|17=>0|18=>5|19=>6|n=>n⟩
theorem Tryz.laysC174:Go.Proofs.LaysC.n174 Tryz.prog Tryz.laysC174_ren:={
 mixed:=by kernel_rfl
 f129:=Tryz.func218.trans (congrArg some (by kernel_rfl))
 f171:=Tryz.func79.trans (congrArg some (by kernel_rfl))
 f174:=Tryz.func191.trans (congrArg some (by kernel_rfl))
 f205:=Tryz.func336.trans (congrArg some (by kernel_rfl))
 f243:=Tryz.func125.trans (congrArg some (by kernel_rfl))
 f245:=Tryz.func258.trans (congrArg some (by kernel_rfl))
 f246:=Tryz.func126.trans (congrArg some (by kernel_rfl))
 f247:=Tryz.func264.trans (congrArg some (by kernel_rfl))
 f279:=Tryz.func303.trans (congrArg some (by kernel_rfl))
 f280:=Tryz.func304.trans (congrArg some (by kernel_rfl))
 f281:=Tryz.func305.trans (congrArg some (by kernel_rfl))
 f282:=Tryz.func306.trans (congrArg some (by kernel_rfl))
 f283:=Tryz.func167.trans (congrArg some (by kernel_rfl))
 f284:=Tryz.func168.trans (congrArg some (by kernel_rfl))
 f285:=Tryz.func169.trans (congrArg some (by kernel_rfl))
 f286:=Tryz.func170.trans (congrArg some (by kernel_rfl))
 f287:=Tryz.func313.trans (congrArg some (by kernel_rfl))
 f316:=Tryz.func335.trans (congrArg some (by kernel_rfl))
 f317:=Tryz.func217.trans (congrArg some (by kernel_rfl))
 f318:=Tryz.func219.trans (congrArg some (by kernel_rfl))
 f319:=Tryz.func220.trans (congrArg some (by kernel_rfl))
 f320:=Tryz.func221.trans (congrArg some (by kernel_rfl))
 f321:=Tryz.func339.trans (congrArg some (by kernel_rfl))
 f322:=Tryz.func340.trans (congrArg some (by kernel_rfl))
 f337:=Tryz.func280.trans (congrArg some (by kernel_rfl))
 f338:=Tryz.func281.trans (congrArg some (by kernel_rfl))
 t0:=Tryz.underlying0
 a0:=Tryz.isAgg0
 z0:=Tryz.sizeOf0
 v0:=Tryz.zeroValue0
 t2:=Tryz.underlying2
 a2:=Tryz.isAgg2
 z2:=Tryz.sizeOf2
 v2:=Tryz.zeroValue2
 t3:=Tryz.underlying3
 a3:=Tryz.isAgg3
 z3:=Tryz.sizeOf3
 v3:=Tryz.zeroValue3
 t4:=Tryz.underlying4
 a4:=Tryz.isAgg4
 z4:=Tryz.sizeOf4
 v4:=Tryz.zeroValue4
 t5:=Tryz.underlying5
 a5:=Tryz.isAgg5
 z5:=Tryz.sizeOf5
 v5:=Tryz.zeroValue5
 t9:=Tryz.underlying9
 a9:=Tryz.isAgg9
 z9:=Tryz.sizeOf9
 v9:=Tryz.zeroValue9
 t20:=Tryz.underlying20
 a20:=Tryz.isAgg20
 z20:=Tryz.sizeOf20
 v20:=Tryz.zeroValue20
 t21:=Tryz.underlying21
 a21:=Tryz.isAgg21
 z21:=Tryz.sizeOf21
 v21:=Tryz.zeroValue21
 t37:=Tryz.underlying78
 a37:=Tryz.isAgg78
 z37:=Tryz.sizeOf78
 v37:=Tryz.zeroValue78
 t46:=Tryz.underlying262
 a46:=Tryz.isAgg262
 z46:=Tryz.sizeOf262
 v46:=Tryz.zeroValue262
 t51:=Tryz.underlying259
 a51:=Tryz.isAgg259
 z51:=Tryz.sizeOf259
 v51:=Tryz.zeroValue259
 t53:=Tryz.underlying144
 a53:=Tryz.isAgg144
 z53:=Tryz.sizeOf144
 v53:=Tryz.zeroValue144
 t75:=Tryz.underlying209
 a75:=Tryz.isAgg209
 z75:=Tryz.sizeOf209
 v75:=Tryz.zeroValue209
 t85:=Tryz.underlying230
 a85:=Tryz.isAgg230
 z85:=Tryz.sizeOf230
 v85:=Tryz.zeroValue230
 t127:=Tryz.underlying264
 a127:=Tryz.isAgg264
 z127:=Tryz.sizeOf264
 v127:=Tryz.zeroValue264
 t143:=Tryz.underlying382
 a143:=Tryz.isAgg382
 z143:=Tryz.sizeOf382
 v143:=Tryz.zeroValue382
 t145:=Tryz.underlying384
 a145:=Tryz.isAgg384
 z145:=Tryz.sizeOf384
 v145:=Tryz.zeroValue384
 t167:=Tryz.underlying337
 a167:=Tryz.isAgg337
 z167:=Tryz.sizeOf337
 v167:=Tryz.zeroValue337
 t168:=Tryz.underlying338
 a168:=Tryz.isAgg338
 z168:=Tryz.sizeOf338
 v168:=Tryz.zeroValue338
 t171:=Tryz.underlying199
 a171:=Tryz.isAgg199
 z171:=Tryz.sizeOf199
 v171:=Tryz.zeroValue199
 t173:=Tryz.underlying202
 a173:=Tryz.isAgg202
 z173:=Tryz.sizeOf202
 v173:=Tryz.zeroValue202
 t175:=Tryz.underlying342
 a175:=Tryz.isAgg342
 z175:=Tryz.sizeOf342
 v175:=Tryz.zeroValue342
 t210:=Tryz.underlying369
 a210:=Tryz.isAgg369
 z210:=Tryz.sizeOf369
 v210:=Tryz.zeroValue369
 t212:=Tryz.underlying258
 a212:=Tryz.isAgg258
 z212:=Tryz.sizeOf258
 v212:=Tryz.zeroValue258
 t213:=Tryz.underlying260
 a213:=Tryz.isAgg260
 z213:=Tryz.sizeOf260
 t232:=Tryz.underlying356
 a232:=Tryz.isAgg356
 z232:=Tryz.sizeOf356
 v232:=Tryz.zeroValue356
 t233:=Tryz.underlying357
 a233:=Tryz.isAgg357
 z233:=Tryz.sizeOf357
 v233:=Tryz.zeroValue357
 g15:=by kernel_rfl
 g16:=by kernel_rfl
 g17:=by kernel_rfl
 g18:=by kernel_rfl
 g19:=by kernel_rfl
 t80:=Tryz.underlying75
 a80:=Tryz.isAgg75
 z80:=Tryz.sizeOf75
 v80:=Tryz.zeroValue75
 i0:=by kernel_rfl
 i2:=by kernel_rfl
 i3:=by kernel_rfl
 i4:=by kernel_rfl
 i5:=by kernel_rfl
 i9:=by kernel_rfl
 i20:=by kernel_rfl
 i21:=by kernel_rfl
 i37:=by kernel_rfl
 i46:=by kernel_rfl
 i51:=by kernel_rfl
 i53:=by kernel_rfl
 i75:=by kernel_rfl
 i80:=by kernel_rfl
 i85:=by kernel_rfl
 i127:=by kernel_rfl
 i143:=by kernel_rfl
 i145:=by kernel_rfl
 i167:=by kernel_rfl
 i168:=by kernel_rfl
 i171:=by kernel_rfl
 i173:=by kernel_rfl
 i175:=by kernel_rfl
 i210:=by kernel_rfl
 i212:=by kernel_rfl
 i232:=by kernel_rfl
 i233:=by kernel_rfl
 m15:=by kernel_rfl
 m16:=by kernel_rfl
 m17:=by kernel_rfl
 m18:=by kernel_rfl
 m19:=by kernel_rfl
 c0:=by kernel_rfl
 c2:=by kernel_rfl
 c3:=by kernel_rfl
 c4:=by kernel_rfl
 c5:=by kernel_rfl
 c9:=by kernel_rfl
 c20:=by kernel_rfl
 c21:=by kernel_rfl
 c37:=by kernel_rfl
 c46:=by kernel_rfl
 c51:=by kernel_rfl
 c53:=by kernel_rfl
 c75:=by kernel_rfl
 c80:=by kernel_rfl
 c85:=by kernel_rfl
 c127:=by kernel_rfl
 c143:=by kernel_rfl
 c145:=by kernel_rfl
 c167:=by kernel_rfl
 c168:=by kernel_rfl
 c171:=by kernel_rfl
 c173:=by kernel_rfl
 c175:=by kernel_rfl
 c210:=by kernel_rfl
 c212:=by kernel_rfl
 c213:=by kernel_rfl
 c232:=by kernel_rfl
 c233:=by kernel_rfl}
open Go.RowKit in
theorem Tryz.strconv_ParseInt_10_at64_ok (s:ByteArray) (hmax:s.size<=9223372036854775806) (v:Int) (h:Lib.parseIntB 64 s.data.toList=.ok v) (w:World):
 Calls Tryz.prog 191 #[.string s,.int .i64 10,.int .i64 64] w λe w'=>e=.returned (.tuple #[.int .i64 v,.nilIface])/\(w'=w\/∃t,w'=Lib.bytesWorld w 5 t):=Any.strconv_ParseInt_10_at64_ok Tryz.laysC174 s hmax v h w
open Go.RowKit in
theorem Tryz.strconv_ParseInt_10_at64_syntax (s:ByteArray) (hlim:s.size<=281474976710656) (h:Lib.parseIntB 64 s.data.toList=Lib.NumEnd.syntax) (ev:Value) (w:World) (hv:w.cell? ⟨7,0,none⟩=some ev) (hev:ev=.nilIface\/∃te pe,ev=.iface te pe):
 Calls Tryz.prog 191 #[.string s,.int .i64 10,.int .i64 64] w λe w'=>∃N,e=.returned (.tuple #[.int .i64 (0),.iface 338 (.pointer (some ⟨N,0,none⟩))])/\w.heap.size<=N/\w'.heap[N]?=some (.cells #[.string ⟨#[80,97,114,115,101,73,110,116]⟩,.string s,ev] 369 (0,0))/\Below w.heap.size w w':=Any.strconv_ParseInt_10_at64_syntax Tryz.laysC174 s hlim h ev w hv hev
open Go.RowKit in
theorem Tryz.strconv_ParseInt_10_at64_range (s:ByteArray) (hlim:s.size<=281474976710656) (h:Lib.parseIntB 64 s.data.toList=.range) (ev:Value) (w:World) (hv:w.cell? ⟨8,0,none⟩=some ev) (hev:ev=.nilIface\/∃te pe,ev=.iface te pe):
 Calls Tryz.prog 191 #[.string s,.int .i64 10,.int .i64 64] w λe w'=>∃N,e=.returned (.tuple #[.int .i64 (Lib.intSat 64 s.data.toList),.iface 338 (.pointer (some ⟨N,0,none⟩))])/\w.heap.size<=N/\w'.heap[N]?=some (.cells #[.string ⟨#[80,97,114,115,101,73,110,116]⟩,.string s,ev] 369 (0,0))/\Below w.heap.size w w':=Any.strconv_ParseInt_10_at64_range Tryz.laysC174 s hlim h ev w hv hev
def Tryz.laysGw15_ren:Go.Shelf.Ren:=⟨λ|15=>189|20=>263|n=>n,λ|9=>9|23=>229|3=>3|4=>4|0=>0|21=>21|n=>n,λ|n=>n⟩
theorem Tryz.laysGw15:Go.Proofs.LaysGw.n15 Tryz.prog Tryz.laysGw15_ren:={
 mixed:=by kernel_rfl
 f15:=Tryz.func189.trans (congrArg some (by kernel_rfl))
 f20:=Tryz.func263.trans (congrArg some (by kernel_rfl))
 t0:=Tryz.underlying0
 a0:=Tryz.isAgg0
 z0:=Tryz.sizeOf0
 v0:=Tryz.zeroValue0
 i0:=by kernel_rfl
 t3:=Tryz.underlying3
 a3:=Tryz.isAgg3
 z3:=Tryz.sizeOf3
 v3:=Tryz.zeroValue3
 i3:=by kernel_rfl
 t4:=Tryz.underlying4
 a4:=Tryz.isAgg4
 z4:=Tryz.sizeOf4
 v4:=Tryz.zeroValue4
 i4:=by kernel_rfl
 t9:=Tryz.underlying9
 a9:=Tryz.isAgg9
 z9:=Tryz.sizeOf9
 v9:=Tryz.zeroValue9
 i9:=by kernel_rfl
 t21:=Tryz.underlying21
 a21:=Tryz.isAgg21
 z21:=Tryz.sizeOf21
 v21:=Tryz.zeroValue21
 i21:=by kernel_rfl
 t23:=Tryz.underlying229
 a23:=Tryz.isAgg229
 z23:=Tryz.sizeOf229
 v23:=Tryz.zeroValue229
 i23:=by kernel_rfl}
open Go.RowKit Go.Lib in
theorem Tryz.strings_IndexFunc (g:Nat) (lb:Array Value) (eg:∀args w,(callFunc g args).run Tryz.prog w=.ok (.enter g args) w) (p:Nat->Bool) (s:ByteArray) (w:World) (hp:PredAt Tryz.prog g lb encR p w):
 Calls Tryz.prog 189 #[.string s,.func (.func g) #[] lb] w λe w'=>e=.returned (.int .i64 (Lib.idxFunc p true s))/\Below w.heap.size w w':=Any.strings_IndexFunc Tryz.laysGw15 g lb eg p s w hp
open Go.Shelf
open Go.RowKit Go.Lib in
theorem Tryz.notDig (w:World):PredAt Tryz.prog 190 #[] encR Nice.notDig w:=λW r _=>by
 unfold FnGives;by_cases h1:r<48<;>by_cases h2:57<r
 all_goals
  have z1:(r:Int)<(48:Int)↔r<48:=by omega
  have z2:(57:Int)<(r:Int)↔57<r:=by omega
  go_enter Tryz.func190,Tryz.ntmps115
  go_wp2
  all_goals first|(exfalso;omega)|(go_ret;exact⟨by simp[Nice.notDig,h1,h2],0,rfl⟩)
end Go.Proofs
namespace Go.Proofs.YtldllfocpadkeaaGreatDoor
open Go Go.Eng Nice Go.RowKit
set_option maxRecDepth 1000000
theorem parse_c:PC 191 parseS:=pc_mk λfz w args x hgl hr hp=>by
 obtain⟨s,b,c,⟨⟩⟩:=x;simp only[parseS,Bool.and_eq_true,decide_eq_true_eq] at hp;obtain⟨hl,rfl,rfl⟩:=hp;have hl:s.length<=140737488355328:=of_decide_eq_true hl;obtain⟨_,_,e1,h1,hr1⟩:=rd_cons rfl hr;obtain⟨_,_,rfl,h2,hr2⟩:=rd_cons rfl hr1;obtain⟨_,r3,rfl,h3,hr3⟩:=rd_cons rfl hr2;obtain rfl:r3=[]:=hr3;cases h1;cases h2;cases h3
 have ha:args=#[.string (bs s),.int .i64 10,.int .i64 64]:=Array.toList_inj.1 e1;subst ha;have fin:∀(n:Int) (ev:Value) (b:Bool) (w':World),isE b ev=true->Same w w'->intN s=(n,b)->∃vs,Ending.returned (.tuple #[.int .i64 n,ev])=.returned (resV vs)/\RdAll fz parseS.rs (parseS.g (s,10,64,())) vs/\Same w w':=by
  intro n ev b w' he hs hn;refine⟨[.int .i64 n,ev],rfl,⟨_,_,rfl,.inr ⟨rfl,?_⟩,_,_,rfl,.inr ⟨rfl,?_⟩,rfl⟩,hs⟩
  ·show [Value.int .i64 n]=[Value.int .i64 (intN s).1];rw[hn]
  ·exact⟨ev,rfl,by show isE (intN s).2 ev=true;rw[hn];exact he⟩
 have hb:∀(p:Nat),(p,[er false])∈glC->∃u,w.cell? ⟨p,0,none⟩=some u/\(u=.nilIface\/∃te pe,u=.iface te pe):=λp hm=>by
  obtain⟨u,hu,hg⟩:=hgl.1 _ hm 0 (er false) rfl;exact⟨u,hu,glE hg⟩
 rcases h:Lib.parseIntB 64 s with v|_|_
 ·refine(Tryz.strconv_ParseInt_10_at64_ok (bs s) (by rw[bs_len];omega) v (by rw[bs_data];exact h) w).mono ?_;rintro e w' ⟨rfl,hw⟩;refine fin v .nilIface true w' rfl ?_ (by unfold intN;rw[h]);rcases hw with rfl|⟨t,rfl⟩
  ·exact same_of (Below.refl _ _)
  ·exact same_of (Lib.bytesWorld_below _ _ _)
 ·obtain⟨u,hu,hi⟩:=hb 7 (by simp[glC]);refine(Tryz.strconv_ParseInt_10_at64_syntax (bs s) (by rw[bs_len];omega) (by rw[bs_data];exact h) u w hu hi).mono ?_;rintro e w' ⟨N,rfl,_,_,hbl⟩;exact fin 0 _ false w' rfl (same_of hbl) (by unfold intN;rw[h])
 ·obtain⟨u,hu,hi⟩:=hb 8 (by simp[glC]);refine(Tryz.strconv_ParseInt_10_at64_range (bs s) (by rw[bs_len];omega) (by rw[bs_data];exact h) u w hu hi).mono ?_;rintro e w' ⟨N,rfl,_,_,hbl⟩;rw[bs_data];exact fin _ _ false w' rfl (same_of hbl) (by unfold intN;rw[h])
theorem idxF_c:PC 189 (idxFS 190):=pc_mk λfz w args x hgl hr hp=>by
 obtain⟨s,u,⟨⟩⟩:=x;obtain⟨_,_,e1,h1,hr1⟩:=rd_cons rfl hr;obtain⟨_,r2,rfl,h2,hr2⟩:=rd_cons rfl hr1;obtain rfl:r2=[]:=hr2;cases h1;cases h2;have ha:args=#[.string (bs s),.func (.func 190) #[] #[]]:=Array.toList_inj.1 e1;subst ha;refine(Tryz.strings_IndexFunc 190 #[] (enters_of Tryz.func190 (by kernel_rfl) rfl) notDig (bs s) w (Tryz.notDig w)).mono ?_
 rintro e w' ⟨rfl,hb⟩;exact⟨[_],rfl,⟨_,_,rfl,.inr ⟨rfl,rfl⟩,rfl⟩,same_of hb⟩
open Go Go.Eng Nice
set_option maxRecDepth 1000000
theorem no_c (f:FuncId) (ts rs:List Ty):PC f (noS ts rs):=λfz w args x _ _ _ h=>by cases h
theorem keyCh_c:PC 188 keyChS:=(pureO (envS_ok (l:=[]) trivial) gl_ne Tryz.func188 (by kernel_rfl) (by decide)).nice λ⟨c,()⟩ _=>keyCh_n c
theorem dKey_c:PC 135 isKeyS:=(pureO (envS_ok (l:=[(188,keyChS)]) ⟨keyCh_c,trivial⟩) gl_ne Tryz.func135 (by kernel_rfl) (by decide)).nice λ⟨s,()⟩ h=>dKey_n s h
theorem rKey_c:PC 74 isKeyS:=(pureO (envS_ok (l:=[]) trivial) gl_ne Tryz.func74 (by kernel_rfl) (by decide)).nice λ⟨s,()⟩ h=>rKey_n s h
theorem anum_c:PC 136 numS:=(pureO (envS_ok (l:=[(189,idxFS 190),(191,parseS)]) ⟨idxF_c,parse_c,trivial⟩) gl_ne Tryz.func136 (by kernel_rfl) (by decide)).nice λ⟨s,a,b,c,()⟩ h=>anum_n s a b c h
theorem hp_c:PC 131 hasPreS:=(pureO (envS_ok (l:=[]) trivial) gl_ne Tryz.func131 (by kernel_rfl) (by decide)).nice λ⟨s,p,()⟩ _=>hp_n s p
theorem cp_c:PC 194 cutPreS:=(pureO (envS_ok (l:=[(131,hasPreS)]) ⟨hp_c,trivial⟩) gl_ne Tryz.func194 (by kernel_rfl) (by decide)).nice λ⟨s,p,()⟩ _=>cp_n s p
theorem digs_c:PC 105 digsS:=(pureO (envS_ok (l:=[]) trivial) gl_ne Tryz.func105 (by kernel_rfl) (by decide)).nice λ⟨u,()⟩ h=>rdigits_n u h
theorem digits_c:PC 61 digitsS:=(pureO (envS_ok (l:=[(105,digsS)]) ⟨digs_c,trivial⟩) gl_ne Tryz.func61 (by kernel_rfl) (by decide)).nice λ⟨n,()⟩ h=>rDigits_n n h
open Go Go.Eng Nice Go.RowKit
set_option maxRecDepth 1000000
theorem arch_run {x:Nat} (h:finW x=true) (w:World):(callFunc 343 #[.float .f64 x]).run Tryz.prog w=.ok (.value (.float .f64 (truncW x))) w:=by
 rw[run_callFunc_extern Tryz.func343 (by kernel_rfl) (by kernel_rfl) (by kernel_rfl) (by kernel_rfl:Extern.find Tryz.f343=some (Extern.MathFloor.toIntegral "math.archTrunc" .zero))];have e:Extern.MathFloor.toIntegral "math.archTrunc" .zero #[.float .f64 x]=Pure.pure (.float .f64 (truncW x)):=by
  show(match FloatKind.f64.decode x with
   | .nan s t=>_
   |d=>_)=_
  unfold finW at h;unfold truncW
  split
  ·rename_i hd;rw[hd] at h;cases h
  ·rfl
 rw[e];rfl
theorem trunc_c:PC 318 archS:=pc_mk λfz w args x hgl hr hp=>by
 obtain⟨x,⟨⟩⟩:=x;obtain⟨_,r3,e1,h1,hr1⟩:=rd_cons' rfl hr;obtain rfl:r3=[]:=hr1;cases h1;have ha:args=#[.float .f64 x]:=Array.toList_inj.1 e1;subst ha
 go_enter Tryz.func318,Tryz.ntmps318
 go_wp2
 rw[arch_run hp]
 go_wp2
 go_ret
 exact⟨[.float .f64 (truncW x)],rfl,⟨_,_,rfl,.inr ⟨rfl,rfl⟩,rfl⟩,⟨Nat.le_refl _,rfl,rfl,λ_ _=>rfl⟩⟩
theorem whole_c:PC 269 wholeS:=(pureO (envS_ok (l:=[(318,archS)]) ⟨trunc_c,trivial⟩) gl_ne Tryz.func269 (by kernel_rfl) (by decide)).nice λ⟨x,a,b,()⟩ h=>whole_nn x a b h
theorem may_c:PC 201 mayS:=(pureO (envS_ok (l:=[(269,wholeS)]) ⟨whole_c,trivial⟩) gl_ne Tryz.func201 (by kernel_rfl) (by decide)).nice λ⟨z,()⟩ h=>gmay_nn z h
theorem gread_c:PC 193 gReadS:=(pureO (envS_ok (l:=[(201,mayS)]) ⟨may_c,trivial⟩) gl_ne Tryz.func193 (by kernel_rfl) (by decide)).nice λ⟨s,()⟩ _=>gread_n s
theorem rread_c:PC 87 rReadS:=(pureO (envS_ok (l:=[]) trivial) gl_ne Tryz.func87 (by kernel_rfl) (by decide)).nice λ⟨s,()⟩ _=>rread_n s
theorem hsuf_c:PC 314 hasSufT:=(pureO (envS_ok (l:=[]) trivial) gl_ne Tryz.func314 (by kernel_rfl) (by decide)).nice λ⟨s,p,()⟩ h=>hsuf_n s p h
theorem csuf_c:PC 265 cutSufT:=(pureO (envS_ok (l:=[(314,hasSufT)]) ⟨hsuf_c,trivial⟩) gl_ne Tryz.func265 (by kernel_rfl) (by decide)).nice λ⟨s,p,()⟩ h=>csuf_n s p h
theorem sidx_c:PC 187 idxSS:=(pureO (envS_ok (l:=[]) trivial) gl_ne Tryz.func187 (by kernel_rfl) (by decide)).nice λ⟨l,x,()⟩ h=>sidx_n l x h
theorem shas_c:PC 134 hasSS:=(pureO (envS_ok (l:=[(187,idxSS)]) ⟨sidx_c,trivial⟩) gl_ne Tryz.func134 (by kernel_rfl) (by decide)).nice λ⟨l,x,()⟩ h=>shas_n l x h
theorem aconds_c:PC 137 condsS:=(pureO (envS_ok (l:=[(84,valueS),(194,cutPreS),(265,cutSufT),(193,gReadS)]) ⟨sval_c,cp_c,csuf_c,gread_c,trivial⟩) gl_ne Tryz.func137 (by kernel_rfl) (by decide)).nice λ⟨⟨m,p,q,hs,b,()⟩,()⟩ h=>aconds_n m p q hs b h
theorem rconds_c:PC 76 rcondsS:=(pureO (envS_ok (l:=[(124,valueS),(87,rReadS)]) ⟨rval_c,rread_c,trivial⟩) gl_ne Tryz.func76 (by kernel_rfl) (by decide)).nice λ⟨⟨m,p,q,hs,b,()⟩,a,()⟩ h=>rconds_n m p q hs b a h
theorem akeyed_c:PC 90 keyedGS:=(pureO (envS_ok (l:=[(135,isKeyS),(136,numS),(137,condsS),(194,cutPreS)]) ⟨dKey_c,anum_c,aconds_c,cp_c,trivial⟩) gl_ne Tryz.func90 (by kernel_rfl) (by decide)).nice λ⟨a,⟨m,p,q,hs,b,()⟩,()⟩ h=>akeyed_n a m p q hs b h
theorem listed_c:PC 89 listedS:=(pureO (envS_ok (l:=[(135,isKeyS),(132,splitS),(133,cutES),(134,hasSS),(136,numS)]) ⟨dKey_c,split_c,cutE_c,shas_c,anum_c,trivial⟩) gl_ne Tryz.func89 (by kernel_rfl) (by decide)).nice λ⟨a,q,()⟩ h=>listed_n a q h
theorem rkeyB_c:PC 122 keyBS:=(pureO (envS_ok (l:=[(74,isKeyS)]) ⟨rKey_c,trivial⟩) gl_ne Tryz.func122 (by kernel_rfl) (by decide)).nice λ⟨s,()⟩ h=>rkeyB_n s h
theorem rparts_c:PC 73 partsS:=(pureO (envS_ok (l:=[(75,refNumS),(122,keyBS)]) ⟨rnum_c,rkeyB_c,trivial⟩) gl_ne Tryz.func73 (by kernel_rfl) (by decide)).nice λ⟨q,a,()⟩ h=>rparts_n q a h
theorem pc_cases {f:FuncId} {ts rs:List Ty} {pre:DenL ts->Bool} {g:DenL ts->DenL rs} (h:∀x,pre x=true->∃p',PC f ⟨ts,rs,p',g⟩/\p' x=true):PC f ⟨ts,rs,pre,g⟩:=by
 intro fz w args x a b c d;obtain⟨p',h1,h2⟩:=h x d;exact h1 fz w args x a b c h2
def ofM (pm:L8->Bool):PSpec:=⟨[ReqT],[AskT,.int .i64],λx=>ofP x.1&&pm x.1.1,λx=>((ofN x.1).1,(ofN x.1).2,())⟩
theorem of_cases {f:FuncId} (h0:PC f (ofM λm=>m==getW)) (h1:PC f (ofM λm=>m==headW)) (h2:PC f (ofM λm=>m==putW)) (h3:PC f (ofM λm=>m==delW)) (h4:PC f (ofM λm=> !(m==getW)&&(!(m==headW)&&(!(m==putW)&& !(m==delW))))):PC f ofS:=by
 refine pc_cases (ts:=[ReqT]) (rs:=[AskT,.int .i64]) (pre:=λx=>ofP x.1) (g:=λx=>((ofN x.1).1,(ofN x.1).2,())) λ⟨⟨m,p,q,hs,b,()⟩,()⟩ hx=> ?_
 have hx:ofP (m,p,q,hs,b,())=true:=hx;cases c0:m==getW
 ·cases c1:m==headW
  ·cases c2:m==putW
   ·cases c3:m==delW
    ·exact⟨_,h4,by show(ofP (m,p,q,hs,b,())&&(!(m==getW)&&(!(m==headW)&&(!(m==putW)&& !(m==delW)))))=true;rw[hx,c0,c1,c2,c3];rfl⟩
    ·exact⟨_,h3,by show(ofP (m,p,q,hs,b,())&&m==delW)=true;rw[hx,c3];rfl⟩
   ·exact⟨_,h2,by show(ofP (m,p,q,hs,b,())&&m==putW)=true;rw[hx,c2];rfl⟩
  ·exact⟨_,h1,by show(ofP (m,p,q,hs,b,())&&m==headW)=true;rw[hx,c1];rfl⟩
 ·exact⟨_,h0,by show(ofP (m,p,q,hs,b,())&&m==getW)=true;rw[hx,c0];rfl⟩
theorem ofM_inv {m p q:L8} {hs:HeadL} {b:L8} {w:L8} (h:(ofP (m,p,q,hs,b,())&&m==w)=true):m=w/\ofP (w,p,q,hs,b,())=true:=by
 rw[Bool.and_eq_true,beq_iff_eq] at h;obtain⟨h,rfl⟩:=h;exact⟨rfl,h⟩
theorem ofM_oth {m p q:L8} {hs:HeadL} {b:L8} (h:(ofP (m,p,q,hs,b,())&&(!(m==getW)&&(!(m==headW)&&(!(m==putW)&& !(m==delW)))))=true):ofP (m,p,q,hs,b,())=true/\(m==getW)=false/\(m==headW)=false/\(m==putW)=false/\(m==delW)=false:=by
 rw[Bool.and_eq_true,Bool.and_eq_true,Bool.and_eq_true,Bool.and_eq_true,Bool.not_eq_true',Bool.not_eq_true',Bool.not_eq_true',Bool.not_eq_true'] at h;exact⟨h.1,h.2.1,h.2.2.1,h.2.2.2.1,h.2.2.2.2⟩
theorem aOfG_c:PC 47 ofS:=of_cases
 ((pureO (envS_ok (l:=[(131,hasPreS),(89,listedS),(90,keyedGS)]) ⟨hp_c,listed_c,akeyed_c,trivial⟩) gl_ne Tryz.func47 (by kernel_rfl) (by decide)).nice λ⟨⟨m,p,q,hs,b,()⟩,()⟩ h=>by obtain⟨rfl,k⟩:=ofM_inv h;exact aOfGet_n p q hs b k)
 ((pureO (envS_ok (l:=[(131,hasPreS),(89,listedS),(90,keyedGS)]) ⟨hp_c,listed_c,akeyed_c,trivial⟩) gl_ne Tryz.func47 (by kernel_rfl) (by decide)).nice λ⟨⟨m,p,q,hs,b,()⟩,()⟩ h=>by obtain⟨rfl,k⟩:=ofM_inv h;exact aOfHead_n p q hs b k)
 ((pureO (envS_ok (l:=[(131,hasPreS),(89,listedS),(90,keyedGS)]) ⟨hp_c,listed_c,akeyed_c,trivial⟩) gl_ne Tryz.func47 (by kernel_rfl) (by decide)).nice λ⟨⟨m,p,q,hs,b,()⟩,()⟩ h=>by obtain⟨rfl,k⟩:=ofM_inv h;exact aOfPut_n p q hs b k)
 ((pureO (envS_ok (l:=[(131,hasPreS),(89,listedS),(90,keyedGS)]) ⟨hp_c,listed_c,akeyed_c,trivial⟩) gl_ne Tryz.func47 (by kernel_rfl) (by decide)).nice λ⟨⟨m,p,q,hs,b,()⟩,()⟩ h=>by obtain⟨rfl,k⟩:=ofM_inv h;exact aOfDel_n p q hs b k)
 ((pureO (envS_ok (l:=[(131,hasPreS),(89,noS [AskT,.str] [AskT,.bool]),(90,noS [AskT,ReqT] [AskT,.bool])]) ⟨hp_c,no_c _ _ _,no_c _ _ _,trivial⟩) gl_ne Tryz.func47 (by kernel_rfl) (by decide)).nice λ⟨⟨m,p,q,hs,b,()⟩,()⟩ h=>by obtain⟨k,h0,h1,h2,h3⟩:=ofM_oth h;exact aOfO_n m p q hs b k h0 h1 h2 h3)
theorem rOfG_c:PC 32 ofS:=of_cases
 ((pureO (envS_ok (l:=[(74,isKeyS),(75,refNumS),(73,partsS),(76,rcondsS)]) ⟨rKey_c,rnum_c,rparts_c,rconds_c,trivial⟩) gl_ne Tryz.func32 (by kernel_rfl) (by decide)).nice λ⟨⟨m,p,q,hs,b,()⟩,()⟩ h=>by obtain⟨rfl,k⟩:=ofM_inv h;exact rOfGet_n p q hs b k)
 ((pureO (envS_ok (l:=[(74,isKeyS),(75,refNumS),(73,partsS),(76,rcondsS)]) ⟨rKey_c,rnum_c,rparts_c,rconds_c,trivial⟩) gl_ne Tryz.func32 (by kernel_rfl) (by decide)).nice λ⟨⟨m,p,q,hs,b,()⟩,()⟩ h=>by obtain⟨rfl,k⟩:=ofM_inv h;exact rOfHead_n p q hs b k)
 ((pureO (envS_ok (l:=[(74,isKeyS),(75,refNumS),(73,partsS),(76,rcondsS)]) ⟨rKey_c,rnum_c,rparts_c,rconds_c,trivial⟩) gl_ne Tryz.func32 (by kernel_rfl) (by decide)).nice λ⟨⟨m,p,q,hs,b,()⟩,()⟩ h=>by obtain⟨rfl,k⟩:=ofM_inv h;exact rOfPut_n p q hs b k)
 ((pureO (envS_ok (l:=[(74,isKeyS),(75,refNumS),(73,partsS),(76,rcondsS)]) ⟨rKey_c,rnum_c,rparts_c,rconds_c,trivial⟩) gl_ne Tryz.func32 (by kernel_rfl) (by decide)).nice λ⟨⟨m,p,q,hs,b,()⟩,()⟩ h=>by obtain⟨rfl,k⟩:=ofM_inv h;exact rOfDel_n p q hs b k)
 ((pureO (envS_ok (l:=[(74,noS [.str] [.bool]),(75,noS [.str,.int .i64] [.int .i64,.bool]),(73,noS [.str,AskT] [AskT,.bool]),(76,noS [ReqT,AskT] [AskT,.int .i64])]) ⟨no_c _ _ _,no_c _ _ _,no_c _ _ _,no_c _ _ _,trivial⟩) gl_ne Tryz.func32 (by kernel_rfl) (by decide)).nice λ⟨⟨m,p,q,hs,b,()⟩,()⟩ h=>by obtain⟨k,h0,h1,h2,h3⟩:=ofM_oth h;exact rOfO_n m p q hs b k h0 h1 h2 h3)
end Go.Proofs.YtldllfocpadkeaaGreatDoor
namespace Nice
open Go Go.Eng
def zOut:Option (DenL [ReqT,.bool]):=some (zReq,false,())
def eqB (x a:AskD):Bool:=x.1==a.1&&(x.2.1==a.2.1&&(x.2.2.1==a.2.2.1&&(x.2.2.2.1==a.2.2.2.1&&(x.2.2.2.2.1==a.2.2.2.2.1&&(x.2.2.2.2.2.1==a.2.2.2.2.2.1&&(x.2.2.2.2.2.2.1==a.2.2.2.2.2.2.1&&(x.2.2.2.2.2.2.2.1==a.2.2.2.2.2.2.2.1&&(x.2.2.2.2.2.2.2.2.1==a.2.2.2.2.2.2.2.2.1&&(x.2.2.2.2.2.2.2.2.2.1==a.2.2.2.2.2.2.2.2.2.1&&true)))))))))
open Go Go.Eng
theorem eqB_eq (x a:AskD):eqB x a=eqA x a:=by
 unfold eqB eqA;rw[Bool.and_true]
open Go Go.Eng
theorem eqB_refl (a:AskD):eqB a a=true:=by rw[eqB_eq];exact eqA_iff.2 rfl
end Nice
namespace Go.Proofs.YtldllfocpadkeaaGreatDoor
open Go Go.Eng Nice
set_option maxRecDepth 1000000
theorem hidP_of {ts rs:List Ty} {g:DenL ts->Option (DenL rs)} {x:DenL ts} {z:DenL rs} (h:g x=some z):(Nice.hid (λx=>(g x).isSome)) x=true/\(Nice.hid (λx=>(g x).getD (dfltL rs))) x=z:=by
 rw[hid_eq,hid_eq];simp only[h];exact⟨rfl,rfl⟩
theorem lineT_len (r:ReqW):(lineT r).length<=3000:=by
 obtain⟨m,p,q,hs,b,⟨⟩⟩:=r;have c1:(cut m 12).length<=12:=lcut m 12;have c2:(cut p 100).length<=100:=lcut p 100;have c3:(cut q 120).length<=120:=lcut q 120;have c4:(cut b 310).length<=310:=lcut b 310;have hT:∀l:List HeadD,(headsT l).length<=153*l.length:=by
  intro l
  induction l with
  |nil=>exact Nat.zero_le _
  |cons x l ih=>
   have a1:(cut x.1 40).length<=40:=lcut x.1 40;have a2:(cut x.2.1 110).length<=110:=lcut x.2.1 110;rw[headsT_cons,List.length_append,List.length_cons];unfold headT;simp only[List.length_append,List.length_cons,List.length_nil];omega
 have h1:=hT (hs.take 12);rw[List.length_take] at h1;have h2:(bif q==[] then([]:L8) else [63]++cut q 120).length<=121:=by
  cases q==[]
  ·rw[cF,List.length_append];show 1+_<=_;omega
  ·exact Nat.zero_le _
 unfold lineT lineH;dsimp only;simp only[List.length_append,List.length_cons,List.length_nil];omega

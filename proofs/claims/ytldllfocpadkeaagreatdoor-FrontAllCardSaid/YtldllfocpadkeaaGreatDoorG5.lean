/-
  Part of the proof. No condition.
-/
import Derived.Test.YtldllfocpadkeaaGreatDoorG4
import Derived.Lib.ItoaNum
import Derived.Lib.Join
import Derived.Shelf.LaysC
import Derived.Ground.GgwProg
import Derived.Lib.AtoiErrMem
import Derived.Tactics2
noncomputable section
namespace Nice
open Go Go.Eng
def zReq:ReqW:=([],[],[],[],[],())
def eqA (a b:AskD):Bool:=a.1==b.1&&(a.2.1==b.2.1&&(a.2.2.1==b.2.2.1&&(a.2.2.2.1==b.2.2.2.1&&(a.2.2.2.2.1==b.2.2.2.2.1&&(a.2.2.2.2.2.1==b.2.2.2.2.2.1&&(a.2.2.2.2.2.2.1==b.2.2.2.2.2.2.1&&(a.2.2.2.2.2.2.2.1==b.2.2.2.2.2.2.2.1&&(a.2.2.2.2.2.2.2.2.1==b.2.2.2.2.2.2.2.2.1&&a.2.2.2.2.2.2.2.2.2.1==b.2.2.2.2.2.2.2.2.2.1))))))))
theorem eqA_iff {a b:AskD}:eqA a b=true↔a=b:=by
 obtain⟨a0,a1,a2,a3,a4,a5,a6,a7,a8,a9,⟨⟩⟩:=a;obtain⟨b0,b1,b2,b3,b4,b5,b6,b7,b8,b9,⟨⟩⟩:=b;simp[eqA]
open Go Go.Eng
def i64P (n:Int):Bool:=decide (-9223372036854775808<=n)&&decide (n<=9223372036854775807)
def fmtN (n:Int):L8:=Lib.itoa n
def itoaS:PSpec:=⟨[.int .i64],[.str],λx=>i64P x.1,λx=>(fmtN x.1,())⟩
end Nice
namespace Go.Proofs
open Go.Shelf
def Tryz.laysC172_ren:Go.Shelf.Ren:=⟨λ|172=>184|244=>257|245=>258|247=>264|279=>303|280=>304|281=>305|282=>306|287=>313|316=>335|171=>79|205=>336|321=>339|322=>340|243=>125|246=>126|283=>167|284=>168|285=>169|286=>170|129=>218|317=>217|318=>219|319=>220|320=>221|337=>280|338=>281|n=>n,λ|9=>9|3=>3|75=>209|76=>210|4=>4|5=>5|167=>337|37=>78|0=>0|85=>230|2=>2|168=>338|53=>144|175=>342|46=>262|210=>369|127=>264|145=>384|143=>382|21=>21|171=>199|173=>202|212=>258|51=>259|20=>20|213=>260|232=>356|233=>357|80=>75|n=>n,λ|15=>7|16=>8|17=>0|18=>5|19=>6|n=>n⟩
theorem Tryz.laysC172:Go.Proofs.LaysC.n172 Tryz.prog Tryz.laysC172_ren:={
 mixed:=by kernel_rfl
 f129:=Tryz.func218.trans (congrArg some (by kernel_rfl))
 f171:=Tryz.func79.trans (congrArg some (by kernel_rfl))
 f172:=Tryz.func184.trans (congrArg some (by kernel_rfl))
 f205:=Tryz.func336.trans (congrArg some (by kernel_rfl))
 f243:=Tryz.func125.trans (congrArg some (by kernel_rfl))
 f244:=Tryz.func257.trans (congrArg some (by kernel_rfl))
 f245:=Tryz.func258.trans (congrArg some (by kernel_rfl))
 f246:=Tryz.func126.trans (congrArg some (by kernel_rfl))
 f247:=Tryz.func264.trans (congrArg some (by kernel_rfl))
 f279:=Tryz.func303.trans (congrArg some (by kernel_rfl))
 f280:=Tryz.func304.trans (congrArg some (by kernel_rfl))
 f281:=Tryz.func305.trans (congrArg some (by kernel_rfl))
 f282:=Tryz.func306.trans (congrArg some (by kernel_rfl))
 f283:=Tryz.func167.trans (congrArg some (by kernel_rfl))
 f284:=Tryz.func168.trans (congrArg some (by kernel_rfl))
 f285:=Tryz.func169.trans (congrArg some (by kernel_rfl))
 f286:=Tryz.func170.trans (congrArg some (by kernel_rfl))
 f287:=Tryz.func313.trans (congrArg some (by kernel_rfl))
 f316:=Tryz.func335.trans (congrArg some (by kernel_rfl))
 f317:=Tryz.func217.trans (congrArg some (by kernel_rfl))
 f318:=Tryz.func219.trans (congrArg some (by kernel_rfl))
 f319:=Tryz.func220.trans (congrArg some (by kernel_rfl))
 f320:=Tryz.func221.trans (congrArg some (by kernel_rfl))
 f321:=Tryz.func339.trans (congrArg some (by kernel_rfl))
 f322:=Tryz.func340.trans (congrArg some (by kernel_rfl))
 f337:=Tryz.func280.trans (congrArg some (by kernel_rfl))
 f338:=Tryz.func281.trans (congrArg some (by kernel_rfl))
 t0:=Tryz.underlying0
 a0:=Tryz.isAgg0
 z0:=Tryz.sizeOf0
 v0:=Tryz.zeroValue0
 t2:=Tryz.underlying2
 a2:=Tryz.isAgg2
 z2:=Tryz.sizeOf2
 v2:=Tryz.zeroValue2
 t3:=Tryz.underlying3
 a3:=Tryz.isAgg3
 z3:=Tryz.sizeOf3
 v3:=Tryz.zeroValue3
 t4:=Tryz.underlying4
 a4:=Tryz.isAgg4
 z4:=Tryz.sizeOf4
 v4:=Tryz.zeroValue4
 t5:=Tryz.underlying5
 a5:=Tryz.isAgg5
 z5:=Tryz.sizeOf5
 v5:=Tryz.zeroValue5
 t9:=Tryz.underlying9
 a9:=Tryz.isAgg9
 z9:=Tryz.sizeOf9
 v9:=Tryz.zeroValue9
 t20:=Tryz.underlying20
 a20:=Tryz.isAgg20
 z20:=Tryz.sizeOf20
 v20:=Tryz.zeroValue20
 t21:=Tryz.underlying21
 a21:=Tryz.isAgg21
 z21:=Tryz.sizeOf21
 v21:=Tryz.zeroValue21
 t37:=Tryz.underlying78
 a37:=Tryz.isAgg78
 z37:=Tryz.sizeOf78
 v37:=Tryz.zeroValue78
 t46:=Tryz.underlying262
 a46:=Tryz.isAgg262
 z46:=Tryz.sizeOf262
 v46:=Tryz.zeroValue262
 t51:=Tryz.underlying259
 a51:=Tryz.isAgg259
 z51:=Tryz.sizeOf259
 v51:=Tryz.zeroValue259
 t53:=Tryz.underlying144
 a53:=Tryz.isAgg144
 z53:=Tryz.sizeOf144
 v53:=Tryz.zeroValue144
 t75:=Tryz.underlying209
 a75:=Tryz.isAgg209
 z75:=Tryz.sizeOf209
 v75:=Tryz.zeroValue209
 t76:=Tryz.underlying210
 a76:=Tryz.isAgg210
 z76:=Tryz.sizeOf210
 v76:=Tryz.zeroValue210
 t85:=Tryz.underlying230
 a85:=Tryz.isAgg230
 z85:=Tryz.sizeOf230
 v85:=Tryz.zeroValue230
 t127:=Tryz.underlying264
 a127:=Tryz.isAgg264
 z127:=Tryz.sizeOf264
 v127:=Tryz.zeroValue264
 t143:=Tryz.underlying382
 a143:=Tryz.isAgg382
 z143:=Tryz.sizeOf382
 v143:=Tryz.zeroValue382
 t145:=Tryz.underlying384
 a145:=Tryz.isAgg384
 z145:=Tryz.sizeOf384
 v145:=Tryz.zeroValue384
 t167:=Tryz.underlying337
 a167:=Tryz.isAgg337
 z167:=Tryz.sizeOf337
 v167:=Tryz.zeroValue337
 t168:=Tryz.underlying338
 a168:=Tryz.isAgg338
 z168:=Tryz.sizeOf338
 v168:=Tryz.zeroValue338
 t171:=Tryz.underlying199
 a171:=Tryz.isAgg199
 z171:=Tryz.sizeOf199
 v171:=Tryz.zeroValue199
 t173:=Tryz.underlying202
 a173:=Tryz.isAgg202
 z173:=Tryz.sizeOf202
 v173:=Tryz.zeroValue202
 t175:=Tryz.underlying342
 a175:=Tryz.isAgg342
 z175:=Tryz.sizeOf342
 v175:=Tryz.zeroValue342
 t210:=Tryz.underlying369
 a210:=Tryz.isAgg369
 z210:=Tryz.sizeOf369
 v210:=Tryz.zeroValue369
 t212:=Tryz.underlying258
 a212:=Tryz.isAgg258
 z212:=Tryz.sizeOf258
 v212:=Tryz.zeroValue258
 t213:=Tryz.underlying260
 a213:=Tryz.isAgg260
 z213:=Tryz.sizeOf260
 t232:=Tryz.underlying356
 a232:=Tryz.isAgg356
 z232:=Tryz.sizeOf356
 v232:=Tryz.zeroValue356
 t233:=Tryz.underlying357
 a233:=Tryz.isAgg357
 z233:=Tryz.sizeOf357
 v233:=Tryz.zeroValue357
 g15:=by kernel_rfl
 g16:=by kernel_rfl
 g17:=by kernel_rfl
 g18:=by kernel_rfl
 g19:=by kernel_rfl
 t80:=Tryz.underlying75
 a80:=Tryz.isAgg75
 z80:=Tryz.sizeOf75
 v80:=Tryz.zeroValue75
 i0:=by kernel_rfl
 i2:=by kernel_rfl
 i3:=by kernel_rfl
 i4:=by kernel_rfl
 i5:=by kernel_rfl
 i9:=by kernel_rfl
 i20:=by kernel_rfl
 i21:=by kernel_rfl
 i37:=by kernel_rfl
 i46:=by kernel_rfl
 i51:=by kernel_rfl
 i53:=by kernel_rfl
 i75:=by kernel_rfl
 i76:=by kernel_rfl
 i80:=by kernel_rfl
 i85:=by kernel_rfl
 i127:=by kernel_rfl
 i143:=by kernel_rfl
 i145:=by kernel_rfl
 i167:=by kernel_rfl
 i168:=by kernel_rfl
 i171:=by kernel_rfl
 i173:=by kernel_rfl
 i175:=by kernel_rfl
 i210:=by kernel_rfl
 i212:=by kernel_rfl
 i232:=by kernel_rfl
 i233:=by kernel_rfl
 m15:=by kernel_rfl
 m16:=by kernel_rfl
 m17:=by kernel_rfl
 m18:=by kernel_rfl
 m19:=by kernel_rfl
 c0:=by kernel_rfl
 c2:=by kernel_rfl
 c3:=by kernel_rfl
 c4:=by kernel_rfl
 c5:=by kernel_rfl
 c9:=by kernel_rfl
 c20:=by kernel_rfl
 c21:=by kernel_rfl
 c37:=by kernel_rfl
 c46:=by kernel_rfl
 c51:=by kernel_rfl
 c53:=by kernel_rfl
 c75:=by kernel_rfl
 c76:=by kernel_rfl
 c80:=by kernel_rfl
 c85:=by kernel_rfl
 c127:=by kernel_rfl
 c143:=by kernel_rfl
 c145:=by kernel_rfl
 c167:=by kernel_rfl
 c168:=by kernel_rfl
 c171:=by kernel_rfl
 c173:=by kernel_rfl
 c175:=by kernel_rfl
 c210:=by kernel_rfl
 c212:=by kernel_rfl
 c213:=by kernel_rfl
 c232:=by kernel_rfl
 c233:=by kernel_rfl}
open Go.RowKit in
theorem Tryz.strconv_Atoi_ok (s:ByteArray) (hmax:s.size<=9223372036854775806) (v:Int) (h:Lib.atoiAll s.data.toList=.ok v) (w:World):
 Calls Tryz.prog 184 #[.string s] w λe w'=>e=.returned (.tuple #[.int .i64 v,.nilIface])/\(w'=w\/∃t,w'=Lib.bytesWorld w 5 t):=Any.strconv_Atoi_ok Tryz.laysC172 s hmax v h w
open Go.RowKit in
theorem Tryz.strconv_Atoi_syntax (s:ByteArray) (hlim:s.size<=281474976710656) (h:Lib.atoiAll s.data.toList=Lib.NumEnd.syntax) (ev:Value) (w:World) (hv:w.cell? ⟨7,0,none⟩=some ev) (hev:ev=.nilIface\/∃te pe,ev=.iface te pe):
 Calls Tryz.prog 184 #[.string s] w λe w'=>∃N,e=.returned (.tuple #[.int .i64 (0),.iface 338 (.pointer (some ⟨N,0,none⟩))])/\w.heap.size<=N/\w'.heap[N]?=some (.cells #[.string ⟨#[65,116,111,105]⟩,.string s,ev] 369 (0,0))/\Below w.heap.size w w':=Any.strconv_Atoi_syntax Tryz.laysC172 s hlim h ev w hv hev
open Go.RowKit in
theorem Tryz.strconv_Atoi_range (s:ByteArray) (hlim:s.size<=281474976710656) (h:Lib.atoiAll s.data.toList=.range) (ev:Value) (w:World) (hv:w.cell? ⟨8,0,none⟩=some ev) (hev:ev=.nilIface\/∃te pe,ev=.iface te pe):
 Calls Tryz.prog 184 #[.string s] w λe w'=>∃N,e=.returned (.tuple #[.int .i64 (Lib.atoiSat s.data.toList),.iface 338 (.pointer (some ⟨N,0,none⟩))])/\w.heap.size<=N/\w'.heap[N]?=some (.cells #[.string ⟨#[65,116,111,105]⟩,.string s,ev] 369 (0,0))/\Below w.heap.size w w':=Any.strconv_Atoi_range Tryz.laysC172 s hlim h ev w hv hev
end Go.Proofs
namespace Go.Proofs.YtldllfocpadkeaaGreatDoor
open Go Go.Eng Nice Go.RowKit
set_option maxRecDepth 1000000
theorem glE {v:Value} (h:glR (er false) v):v=.nilIface\/∃te pe,v=.iface te pe:=by
 rcases h with⟨hp,_⟩|⟨b,_,he⟩|⟨k,m,he,_⟩
 ·cases hp
 ·unfold isE at he
  split at he
  ·exact .inl rfl
  ·exact .inr ⟨_,_,rfl⟩
  ·cases he
 ·cases he
theorem same_of {w w':World} (h:Below w.heap.size w w'):Same w w':=⟨h.size,h.os,h.output,λb hb=>h.block b hb⟩
theorem bs_data (s:L8):(bs s).data.toList=s:=by simp[bs]
theorem bs_len (s:L8):(bs s).size=s.length:=by simp[bs,ByteArray.size]
theorem pc_mk {f:FuncId} {S:PSpec} (h:∀(fz:Nat->Option (Array Value)) (w:World) (args:Array Value) (x:DenL S.ts),GlW glC w->RdAll fz S.ts x args.toList->S.pre x=true->
  Calls Tryz.prog f args w λe w'=>∃vs,e=.returned (resV vs)/\RdAll fz S.rs (S.g x) vs/\Same w w'):PC f S:=by
 intro fz w args x hfz hgl hr hp;refine(h fz w args x hgl hr hp).mono ?_;rintro e w' ⟨vs,rfl,hv,hs⟩;have hlt:∀b c,fz b=some c->b<w.heap.size:=λb c hb=>by
  obtain⟨e,fr,h⟩:=hfz b c hb;exact(Array.getElem?_eq_some_iff.1 h).1
 exact⟨vs,fz,rfl,λ_ _ h=>h,hfz.keep λb c hb=>hs.2.2.2 b (hlt b c hb),λ_ _ h=>.inl h,hv,hs⟩
theorem rd_cons {fz:Nat->Option (Array Value)} {t:Ty} {ts:List Ty} {x:DenL (t::ts)} {l:List Value} (ht:t.agg=false) (h:RdAll fz (t::ts) x l):∃v r,l=v::r/\RdC fz t x.1 [v]/\RdAll fz ts x.2 r:=by
 obtain⟨v,r,e,hv,hr⟩:=h;rcases hv with⟨h,_⟩|⟨_,hv⟩
 ·rw[ht] at h;cases h
 ·exact⟨v,r,e,hv,hr⟩
theorem atoi_c:PC 184 atoiS:=by
 intro fz w args x hfz hgl hr hp;obtain⟨s,⟨⟩⟩:=x;have hl:s.length<=140737488355328:=of_decide_eq_true hp;have ha:args=#[.string (bs s)]:=by
  obtain⟨v,r,e1,hv,hr⟩:=hr;rcases hv with⟨h,_⟩|⟨_,hv⟩
  ·cases h
  ·cases hv;cases hr;exact Array.toList_inj.1 e1
 subst ha;have fin:∀(n:Int) (ev:Value) (b:Bool) (w':World),isE b ev=true->Same w w'->atoiN s=(n,b)->∃vs fz',(Ending.returned (.tuple #[.int .i64 n,ev])=.returned (resV vs))/\(∀b c,fz b=some c->fz' b=some c)/\FzOK fz' w'/\(∀b c,fz' b=some c->fz b=some c\/w.heap.size<=b)/\RdAll fz' atoiS.rs (atoiS.g (s,())) vs/\Same w w':=by
  intro n ev b w' he hs hn;have hlt:∀b c,fz b=some c->b<w.heap.size:=λb c hb=>by
   obtain⟨e,fr,h⟩:=hfz b c hb;exact(Array.getElem?_eq_some_iff.1 h).1
  refine⟨[.int .i64 n,ev],fz,rfl,λ_ _ h=>h,hfz.keep λb c hb=>hs.2.2.2 b (hlt b c hb),λ_ _ h=>.inl h,?_,hs⟩;refine⟨_,_,rfl,.inr ⟨rfl,?_⟩,_,_,rfl,.inr ⟨rfl,?_⟩,rfl⟩
  ·show [Value.int .i64 n]=[Value.int .i64 (atoiN s).1];rw[hn]
  ·exact⟨ev,rfl,by show isE (atoiN s).2 ev=true;rw[hn];exact he⟩
 have hb:∀(p:Nat),(p,[er false])∈glC->∃u,w.cell? ⟨p,0,none⟩=some u/\(u=.nilIface\/∃te pe,u=.iface te pe):=λp hm=>by
  obtain⟨u,hu,hg⟩:=hgl.1 _ hm 0 (er false) rfl;exact⟨u,hu,glE hg⟩
 rcases h:Lib.atoiAll s with v|_|_
 ·refine(Tryz.strconv_Atoi_ok (bs s) (by rw[bs_len];omega) v (by rw[bs_data];exact h) w).mono ?_;rintro e w' ⟨rfl,hw⟩;refine fin v .nilIface true w' rfl ?_ (by unfold atoiN;rw[h]);rcases hw with rfl|⟨t,rfl⟩
  ·exact same_of (Below.refl _ _)
  ·exact same_of (Lib.bytesWorld_below _ _ _)
 ·obtain⟨u,hu,hi⟩:=hb 7 (by simp[glC]);refine(Tryz.strconv_Atoi_syntax (bs s) (by rw[bs_len];omega) (by rw[bs_data];exact h) u w hu hi).mono ?_;rintro e w' ⟨N,rfl,_,_,hbl⟩;exact fin 0 _ false w' rfl (same_of hbl) (by unfold atoiN;rw[h])
 ·obtain⟨u,hu,hi⟩:=hb 8 (by simp[glC]);refine(Tryz.strconv_Atoi_range (bs s) (by rw[bs_len];omega) (by rw[bs_data];exact h) u w hu hi).mono ?_;rintro e w' ⟨N,rfl,_,_,hbl⟩;rw[bs_data];exact fin _ _ false w' rfl (same_of hbl) (by unfold atoiN;rw[h])
open Go Go.Eng Nice
set_option maxRecDepth 1000000
theorem cap_c:PC 163 capS:=(pureO (envS_ok (l:=[]) trivial) gl_ne Tryz.func163 (by kernel_rfl) (by decide)).nice λ⟨c,()⟩ _=>cap_n c
theorem dig_c:PC 123 digS:=(pureO (envS_ok (l:=[]) trivial) gl_ne Tryz.func123 (by kernel_rfl) (by decide)).nice λ⟨c,()⟩ _=>dig_n c
theorem slower_c:PC 128 lowerS:=(pureO (envS_ok (l:=[(163,capS)]) ⟨cap_c,trivial⟩) gl_ne Tryz.func128 (by kernel_rfl) (by decide)).nice λ⟨s,()⟩ h=>slower_n s h
theorem rlower_c:PC 78 lowerS:=(pureO (envS_ok (l:=[]) trivial) gl_ne Tryz.func78 (by kernel_rfl) (by decide)).nice λ⟨s,()⟩ h=>rlower_n s h
theorem rnum_c:PC 75 refNumS:=(pureO (envS_ok (l:=[(123,digS)]) ⟨dig_c,trivial⟩) gl_ne Tryz.func75 (by kernel_rfl) (by decide)).nice λ⟨s,n,()⟩ h=>rnum_n s n h
theorem sval_c:PC 84 valueS:=(pureO (envS_ok (l:=[(128,lowerS)]) ⟨slower_c,trivial⟩) gl_ne Tryz.func84 (by kernel_rfl) (by decide)).nice λ⟨r,s,()⟩ h=>sval_n r s h
theorem rval_c:PC 124 valueS:=(pureO (envS_ok (l:=[(78,lowerS)]) ⟨rlower_c,trivial⟩) gl_ne Tryz.func124 (by kernel_rfl) (by decide)).nice λ⟨r,s,()⟩ h=>rval_n r s h
theorem rlen_c:PC 120 refLenS:=(pureO (envS_ok (l:=[(78,lowerS),(75,refNumS)]) ⟨rlower_c,rnum_c,trivial⟩) gl_ne Tryz.func120 (by kernel_rfl) (by decide)).nice λ⟨r,()⟩ h=>rlen_n r h
theorem cut_c:PC 28 cutS:=(pureO (envS_ok (l:=[]) trivial) gl_ne Tryz.func28 (by kernel_rfl) (by decide)).nice λ⟨s,n,()⟩ h=>cut_n s n (of_decide_eq_true h)
theorem snum_of (h:PC 184 atoiS):PC 130 scanNumS:=(pureO (envS_ok (l:=[(184,atoiS)]) ⟨h,trivial⟩) gl_ne Tryz.func130 (by kernel_rfl) (by decide)).nice λ⟨s,()⟩ h=>snum_n s h
theorem slen_of (h:PC 184 atoiS):PC 86 scanLenS:=(pureO (envS_ok (l:=[(84,valueS),(130,scanNumS)]) ⟨sval_c,snum_of h,trivial⟩) gl_ne Tryz.func86 (by kernel_rfl) (by decide)).nice λ⟨r,()⟩ h=>slen_n r h
theorem snum_c:PC 130 scanNumS:=snum_of atoi_c
theorem slen_c:PC 86 scanLenS:=slen_of atoi_c
open Go Go.Eng Nice
set_option maxRecDepth 1000000
theorem u8_all {p:UInt8->Bool} (h:(List.range 256).all (λn=>p (UInt8.ofNat n))=true) (c:UInt8):p c=true:=by
 have:=List.all_eq_true.1 h c.toNat (List.mem_range.2 c.toNat_lt);simpa using this
def is1 (r:Option (DenL [.bool])) (b:Bool):Bool:=match r with
 |some (x,_)=>x==b
 |none=>false
theorem is1_eq {r:Option (DenL [.bool])} {b:Bool} (h:is1 r b=true):r=some (b,()):=by
 unfold is1 at h
 split at h
 ·rename_i x u;rw[beq_iff_eq] at h;subst h;rfl
 ·cases h
theorem vis_n (c:UInt8):ovis (c,())=some (isVis c,()):=is1_eq (u8_all (p:=λc=>is1 (ovis (c,())) (isVis c)) (by kernel_rfl) c)
def tokG (bb:Bool) (x0:UInt8):Option (DenL [.bool]):=
  (bif isCap (UInt8.ofNat (↑x0.toNat:Int).toNat) then
 (gd [bb] (some (true,())))
  else
 (bif decide ((↑x0.toNat:Int)>=(97:Int)) then
 (bif decide ((↑x0.toNat:Int)<=(122:Int)) then
 (gd [bb] (some (true,())))
 else
 (bif decide ((↑x0.toNat:Int)>=(48:Int)) then
 (bif decide ((↑x0.toNat:Int)<=(57:Int)) then
 (gd [bb] (some (true,())))
 else
 (bif (↑x0.toNat:Int)==(45:Int) then
 (gd [bb] (some (true,())))
 else
 (gd [bb] (some (false,())))))
 else
 (bif (↑x0.toNat:Int)==(45:Int) then
 (gd [bb] (some (true,())))
 else
 (gd [bb] (some (false,()))))))
 else
 (bif decide ((↑x0.toNat:Int)>=(48:Int)) then
 (bif decide ((↑x0.toNat:Int)<=(57:Int)) then
 (gd [bb] (some (true,())))
 else
 (bif (↑x0.toNat:Int)==(45:Int) then
 (gd [bb] (some (true,())))
 else
 (gd [bb] (some (false,())))))
 else
 (bif (↑x0.toNat:Int)==(45:Int) then
 (gd [bb] (some (true,())))
 else
 (gd [bb] (some (false,())))))))
theorem tok_n (c:UInt8):otok (c,())=some (isTok c,()):=by
 have hi:decide (inK .u8 (c.toNat:Int))=true:=decide_eq_true (inK_u8.2 (by have:=c.toNat_lt;omega));have e:otok (c,())=tokG (decide (inK .u8 (c.toNat:Int))) c:=by rw[otok_g,etok_g];rfl
 rw[e,hi];exact is1_eq (u8_all (p:=λc=>is1 (tokG true c) (isTok c)) (by kernel_rfl) c)
theorem let_n (c:UInt8):olet (c,())=some (isLet c,()):=is1_eq (u8_all (p:=λc=>is1 (olet (c,())) (isLet c)) (by kernel_rfl) c)
theorem vis_c:PC 165 visS:=(pureO (envS_ok (l:=[]) trivial) gl_ne Tryz.func165 (by kernel_rfl) (by decide)).nice λ⟨c,()⟩ _=>vis_n c
theorem tok_c:PC 215 tokS:=(pureO (envS_ok (l:=[(163,capS)]) ⟨cap_c,trivial⟩) gl_ne Tryz.func215 (by kernel_rfl) (by decide)).nice λ⟨c,()⟩ _=>tok_n c
theorem let_c:PC 160 letS:=(pureO (envS_ok (l:=[]) trivial) gl_ne Tryz.func160 (by kernel_rfl) (by decide)).nice λ⟨c,()⟩ _=>let_n c
def oasc (x:Unit) (y:UInt8×Unit):Option (Unit×Bool×Unit):=fOO Tryz.prog (envO [] []) (shOf []) Tryz.f211 sigAs x y
def is2 (r:Option (Unit×Bool×Unit)) (b:Bool):Bool:=match r with
 |some (_,x,_)=>x==b
 |none=>false
theorem is2_eq {r:Option (Unit×Bool×Unit)} {b:Bool} (h:is2 r b=true):r=some ((),b,()):=by
 unfold is2 at h
 split at h
 ·rename_i x u;rw[beq_iff_eq] at h;subst h;rfl
 ·cases h
theorem asc_n (c:UInt8):oasc () (c,())=some ((),isSp c,()):=is2_eq (u8_all (p:=λc=>is2 (oasc () (c,())) (isSp c)) (by kernel_rfl) c)
theorem asc_c:OC 211 isSpS:=(objO (S:=sigAs) (sh:=shOf []) (envO_ok (l:=[]) (o:=[]) trivial trivial) gl_ne Tryz.func211 (by kernel_rfl) (by decide)).nice λx ⟨c,()⟩ _=>asc_n c
theorem getD0 (c:UInt8) (r:L8):(c::r).getD 0 0=c:=by simp
theorem trL_l (t4:L8):∀(s:L8) (n:Nat),s.length<=140737488355328->s.length<n->htrL_0 n s t4=some ((),trimL s,())
 |[],n,hl,hn=>by
  obtain⟨m,rfl⟩:∃m,n=m+1:=⟨n-1,by omega⟩
  rw[etrL_0,cdF (by simp)];rfl
 |c::r,n,hl,hn=>by
  obtain⟨m,rfl⟩:∃m,n=m+1:=⟨n-1,by omega⟩
  simp only[List.length_cons] at hl hn;have hc:=c.toNat_lt;rw[etrL_0];simp only[List.length_cons,getD0,List.drop_succ_cons,List.drop_zero,UInt8.ofNat_toNat,Int.toNat_natCast];rw[cdT (by omega),trL_l t4 r m (by omega) (by omega)];cases hs:isSp c
  ·rw[cond_false,gdT (inK_u8.2 ⟨by omega,by omega⟩),gdT (by omega),gd_nil];simp only[trimL,List.dropWhile_cons,hs,Bool.false_eq_true,if_false]
  ·rw[cond_true,gdT (by omega),gdT (inK_u8.2 ⟨by omega,by omega⟩),gdT (by omega),gd_nil];simp only[trimL,List.dropWhile_cons,hs,if_true]
theorem trimR_snoc (r:L8) (c:UInt8):trimR (r++[c])=if isSp c then trimR r else r++[c]:=by
 simp only[trimR,List.reverse_append,List.reverse_cons,List.reverse_nil,List.nil_append,List.singleton_append,List.dropWhile_cons];cases isSp c<;>simp
theorem trR_l (t4:L8):∀(k:Nat) (s:L8) (n:Nat),s.length=k->k<=140737488355328->k<n->htrR_0 n s t4=some ((),trimR s,())
 |0,s,n,hk,hl,hn=>by
  obtain⟨m,rfl⟩:∃m,n=m+1:=⟨n-1,by omega⟩
  obtain rfl:=List.length_eq_zero_iff.1 hk;rw[etrR_0,cdF (by simp)];rfl
 |k+1,s,n,hk,hl,hn=>by
  obtain⟨m,rfl⟩:∃m,n=m+1:=⟨n-1,by omega⟩
  obtain⟨r,c,rfl⟩:∃r c,s=r++[c]:=by
   rcases List.eq_nil_or_concat s with h|⟨r,c,h⟩
   ·rw[h] at hk;simp at hk
   ·exact⟨r,c,by rw[h,List.concat_eq_append]⟩
  simp only[List.length_append,List.length_singleton] at hk;have hr:r.length=k:=by omega
  have hc:=c.toNat_lt;have e1:(((r++[c]).length:Int)-1).toNat=r.length:=by simp
  have e2:(r++[c]).getD r.length 0=c:=getD_mid r [] c 0;have e3:(r++[c]).take r.length=r:=by simp
  rw[etrR_0,e1,e2,e3];simp only[List.length_append,List.length_singleton,Int.toNat_natCast,UInt8.ofNat_toNat,Int.natCast_add,Int.natCast_one];rw[cdT (by omega),trR_l t4 k r m hr (by omega) (by omega)];cases hs:isSp c
  ·rw[cond_false,gdT (inK_u8.2 ⟨by omega,by omega⟩),gdT (by omega),gdT (by omega),gdT (inK_i64.2 ⟨by omega,by omega⟩),gd_nil];rw[trimR_snoc,hs];rfl
  ·rw[cond_true,gdT (by omega),gdT (by omega),gdT (inK_i64.2 ⟨by omega,by omega⟩),gdT (inK_u8.2 ⟨by omega,by omega⟩),gdT (by omega),gdT (by omega),gdT (inK_i64.2 ⟨by omega,by omega⟩),gd_nil];rw[trimR_snoc,hs];rfl
theorem trL_c:OC 156 trimLS:=(objO (S:=sigTr) (sh:=shOf shtrL) (envO_ok (l:=[]) (o:=[(211,isSpS)]) trivial ⟨asc_c,trivial⟩) gl_ne Tryz.func156 (by kernel_rfl) (by decide)).nice λx ⟨s,()⟩ h=>by
 have h:s.length<=140737488355328:=of_decide_eq_true h;show otrL () (s,())=_;rw[otrL_g,etrL_g,trL_l [] s heads0 h (by unfold heads0;omega)]
theorem trR_c:OC 157 trimRS:=(objO (S:=sigTr) (sh:=shOf shtrR) (envO_ok (l:=[]) (o:=[(211,isSpS)]) trivial ⟨asc_c,trivial⟩) gl_ne Tryz.func157 (by kernel_rfl) (by decide)).nice λx ⟨s,()⟩ h=>by
 have h:s.length<=140737488355328:=of_decide_eq_true h;show otrR () (s,())=_;rw[otrR_g,etrR_g,trR_l [] s.length s heads0 rfl h (by unfold heads0;omega)]
theorem trimR_len (s:L8):(trimR s).length<=s.length:=by
 unfold trimR;rw[List.length_reverse];have:=(List.dropWhile_sublist isSp (l:=s.reverse)).length_le;rwa[List.length_reverse] at this
theorem trim_c:PC 116 trimS:=(pureO (envO_ok (l:=[]) (o:=[(156,trimLS),(157,trimRS)]) trivial ⟨trL_c,trR_c,trivial⟩) gl_ne Tryz.func116 (by kernel_rfl) (by decide)).nice (g:=otrim) λ⟨s,c,()⟩ h=>by
 simp only[trimS,Bool.and_eq_true,beq_iff_eq] at h;obtain⟨rfl,h⟩:=h;have h:s.length<=140737488355328:=of_decide_eq_true h;have hr:=trimR_len s;rw[otrim_g,etrim_g];cases hs:s==[]
 ·rw[cond_false,gdT (by omega),gdT h,gd_nil]
 ·have:s=[]:=by simpa using hs
  subst this;rfl
theorem long_n (x:ScanD) (c:UInt8):olong x (c,())=some (x,longN x c,()):=by
 obtain⟨st,su,li,at',tx,⟨m,p,q,hs,b,⟨⟩⟩,le,ou,⟨⟩⟩:=x;rw[olong_g,elong_g];simp only[longN];by_cases h1:c.toNat=13
 ·rw[if_pos (.inl h1),show((↑c.toNat:Int)==13)=true by rw[h1];rfl];rfl
 rw[show((↑c.toNat:Int)==13)=false from beq_eq_false_iff_ne.2 (by omega),cond_false];by_cases h2:st>=7
 ·rw[if_pos (.inr (.inl h2)),cdT h2]
 rw[cdF h2];by_cases h3:st=4
 ·rw[if_pos (.inr (.inr h3)),show(st==4)=true from beq_iff_eq.2 h3];rfl
 rw[show(st==4)=false from beq_eq_false_iff_ne.2 h3,cond_false,if_neg (by omega)];by_cases h4:st<5
 ·rw[cdT h4];by_cases h5:li>=200
  ·rw[cdT h5,if_pos ⟨h4,h5⟩]
  ·rw[cdF h5,cdF (by omega),show(st==5)=false from beq_eq_false_iff_ne.2 (by omega),cond_false,if_neg (by omega),if_neg (by omega),if_neg (by omega)]
 ·rw[cdF h4,cdT (by omega),if_neg (by omega)];by_cases h6:li>=120
  ·rw[cdT h6,if_pos ⟨by omega,h6⟩]
  ·rw[cdF h6,if_neg (by omega)];by_cases h7:st=5
   ·rw[show(st==5)=true from beq_iff_eq.2 h7,cond_true];by_cases h8:li=0
    ·rw[show(li==0)=true from beq_iff_eq.2 h8,cond_true];by_cases h9:(hs.length:Int)>=10
     ·rw[cdT h9,if_pos ⟨h7,h8,h9⟩]
     ·rw[cdF h9,if_neg λh=>h9 h.2.2]
    ·rw[show(li==0)=false from beq_eq_false_iff_ne.2 h8,cond_false,if_neg λh=>h8 h.2.1]
   ·rw[show(st==5)=false from beq_eq_false_iff_ne.2 h7,cond_false,if_neg λh=>h7 h.1]
theorem long_c:OC 161 longS:=(objO (S:=sigB) (sh:=shOf shlong) (envO_ok (l:=[]) (o:=[]) trivial trivial) gl_ne Tryz.func161 (by kernel_rfl) (by decide)).nice λx ⟨c,()⟩ _=>long_n x c
open Go Go.Eng Nice
set_option maxRecDepth 1000000
theorem heads_c:OC 216 headsS:=hidO (objO (S:=sig0) (sh:=shOf shheads) (envO_ok (l:=[(128,lowerS),(130,scanNumS),(86,scanLenS)]) (o:=[]) ⟨slower_c,snum_c,slen_c,trivial⟩ trivial) gl_ne Tryz.func216 (by kernel_rfl) (by decide)) (g:=oheads) (hid_eq _) (hid_eq _)
theorem lines_c:OC 162 linesS:=hidO (objO (S:=sigB) (sh:=shOf shlines) (envO_ok (l:=[(215,tokS),(116,trimS)]) (o:=[(216,headsS)]) ⟨tok_c,trim_c,trivial⟩ ⟨heads_c,trivial⟩) gl_ne Tryz.func162 (by kernel_rfl) (by decide)) (g:=olines) (hid_eq _) (hid_eq _)
theorem step_c:OC 121 stepS:=hidO (objO (S:=sigB) (sh:=shOf shstep) (envO_ok (l:=[(163,capS),(165,visS)]) (o:=[(161,longS),(162,linesS)]) ⟨cap_c,vis_c,trivial⟩ ⟨long_c,lines_c,trivial⟩) gl_ne Tryz.func121 (by kernel_rfl) (by decide)) (g:=ostep) (hid_eq _) (hid_eq _)
theorem feed_c:OC 71 feedS:=hidO (objO (S:=sigF) (sh:=shOf shfeed) (envO_ok (l:=[]) (o:=[(121,stepS)]) trivial ⟨step_c,trivial⟩) gl_ne Tryz.func71 (by kernel_rfl) (by decide)) (g:=ofeed) (hid_eq _) (hid_eq _)
end Go.Proofs.YtldllfocpadkeaaGreatDoor
namespace Nice
open Go Go.Eng
theorem numV_snoc (s:L8) (c:UInt8):numV (s++[c])=numV s*10+(c.toNat-48):=by
 unfold numV;rw[List.foldl_append];rfl
theorem allDig_snoc (s:L8) (c:UInt8):allDig (s++[c])=(allDig s&&isDig c):=by
 unfold allDig;rw[List.all_append];simp
theorem itoa_nat (u:Nat):Lib.itoa (u:Int)=Lib.decDigits u:=by
 unfold Lib.itoa;rw[if_neg (by omega)];rfl
theorem nDig_le:∀(k u:Nat),u<10^(k+1)->Lib.nDigits u<=k+1
 |0,u,h=>by rw[Lib.nDigits_small (by simpa using h)];exact Nat.le_refl _
 |k+1,u,h=>by
  by_cases h1:u<10
  ·rw[Lib.nDigits_small h1];omega
  ·rw[Lib.nDigits_big h1];have:=nDig_le k (u/10) (by rw[Nat.pow_succ] at h;omega);omega
theorem itoa_len {k u:Nat} (h:u<10^(k+1)):(Lib.itoa (u:Int)).length<=k+1:=by
 rw[itoa_nat,Lib.decDigits_length];exact nDig_le k u h
end Nice
namespace Go.Proofs.YtldllfocpadkeaaGreatDoor
open Go Go.Eng Nice
set_option maxRecDepth 1000000
theorem value_le:∀(l:List HeadD) (n:L8),(∀h,h∈l->h.2.1.length<=1099511627776)->(valueN l n).1.length<=1099511627776
 |[],_,_=>by simp[valueN]
 |h::r,n,ha=>by
  simp only[valueN];cases lower h.1==lower n
  ·exact value_le r n λx hx=>ha x (List.mem_cons_of_mem _ hx)
  ·exact ha h (List.mem_cons_self ..)
theorem scanLenP_ok {hs:List HeadD} (h1:hs.length<=1000000) (h2:∀h,h∈hs->h.1.length<=1099511627776/\h.2.1.length<=1099511627776):scanLenP hs=true:=by
 unfold scanLenP valueP;have:=value_le hs clen λh hh=>(h2 h hh).2
 have a1:hs.all (λh=>lowerP h.1)=true:=List.all_eq_true.2 λh hh=>decide_eq_true (by have:=(h2 h hh).1;omega)
 rw[a1,decide_eq_true (show hs.length<=140737488355328 by omega),show lowerP clen=true by decide];exact decide_eq_true (by omega)
def hdO (st su li at':Int) (tx m p q:L8) (hs:List HeadD) (b:L8) (le:Int) (ou:List ReqD) (r:Option Nat):ScanD×Int×Unit:=
 match r with
 |none=>((st,su,li,at',tx,(m,p,q,hs,b,()),le,ou,()),400,())
 |some k=>
  if 1<k then((st,su,li,at',tx,(m,p,q,hs,b,()),le,ou,()),400,())
  else if scanLen hs>300 then((st,su,li,at',tx,(m,p,q,hs,b,()),scanLen hs,ou,()),413,())
  else if scanLen hs=0 then((0,su,li,at',tx,([],[],[],[],[],()),scanLen hs,ou++[(m,p,q,hs,b,())],()),0,())
  else((9,su,li,at',tx,(m,p,q,hs,b,()),scanLen hs,ou,()),0,())
theorem heads_l (st su li at':Int) (tx m p q:L8) (hs:List HeadD) (b:L8) (le:Int) (ou:List ReqD) (t2:Int) (h1:hs.length<=1000000) (h2:∀h,h∈hs->h.1.length<=1099511627776/\h.2.1.length<=1099511627776) (h3:ou.length<=1099511627776):
  ∀(rest done:List HeadD) (n k:Nat),hs=done++rest->k<=done.length->rest.length<n->hheads_0 n st su li at' tx m p q hs b le ou t2 (k:Int) (hs.length:Int) (done.length:Int)=some (hdO st su li at' tx m p q hs b le ou (mHeads rest k)):=by
 intro rest
 induction rest with
 |nil=>
  intro done n k he hk hn;obtain⟨n,rfl⟩:∃m,n=m+1:=⟨n-1,by omega⟩
  have hl:hs.length=done.length:=by rw[he,List.append_nil]
  rw[eheads_0,cdF (by omega)];simp only[mHeads,hdO];by_cases g1:1<k
  ·rw[cdT (by omega),if_pos g1]
  ·rw[cdF (by omega),if_neg g1,gdB (scanLenP_ok h1 h2),gd_nil];by_cases g2:scanLen hs>300
   ·rw[cdT g2,if_pos g2]
   ·rw[cdF g2,if_neg g2];by_cases g3:scanLen hs=0
    ·rw[ceT g3,if_pos g3,gdT (by omega),gd_nil]
    ·rw[ceF g3,if_neg g3]
 |cons h rest ihr=>
  intro done n k he hk hn;obtain⟨n,rfl⟩:∃m,n=m+1:=⟨n-1,by omega⟩
  simp only[List.length_cons] at hn;have hl:hs.length=done.length+rest.length+1:=by rw[he];simp only[List.length_append,List.length_cons];omega
  have hm:h∈hs:=by rw[he];simp
  obtain⟨m1,m2⟩:=h2 h hm;have hg:∀d:HeadD,hs.getD done.length d=h:=λd=>by rw[he];exact getD_mid _ _ _ _
  have ih:=λk' hk'=>ihr (done++[h]) n k' (by rw[he,List.append_assoc];rfl) (by simp only[List.length_append,List.length_singleton];exact hk') (by omega)
  simp only[List.length_append,List.length_singleton,Int.natCast_add,Int.natCast_one] at ih;have hp1:lowerP h.1=true:=decide_eq_true (show h.1.length<=140737488355328 by omega);have hp2:atoiP h.2.1=true:=decide_eq_true (show h.2.1.length<=140737488355328 by omega);rw[eheads_0,cdT (by omega)];simp only[Int.toNat_natCast,hg]
  rw[gdB hp1,gdT (by omega),gdT (by omega),gdT (by omega),gd_nil];simp only[mHeads];rw[show([116,114,97,110,115,102,101,114,45,101,110,99,111,100,105,110,103]:L8)=tenc from rfl,show([99,111,110,116,101,110,116,45,108,101,110,103,116,104]:L8)=clen from rfl];cases g1:lower h.1==tenc
  ·simp only[cF];cases g2:lower h.1==clen
   ·simp only[cF];rw[gdT (inK_i64.2 ⟨by omega,by omega⟩),gd_nil];exact ih k (by omega)
   ·simp only[cT];cases g3:(scanNum h.2.1).2
    ·simp only[cF];rw[gdB hp2,gd_nil];simp only[hdO]
    ·simp only[cT];rw[gdT (inK_i64.2 ⟨by omega,by omega⟩),gdT (inK_i64.2 ⟨by omega,by omega⟩),gdB hp2,gd_nil];have:=ih (k+1) (by omega);rw[Int.natCast_add,Int.natCast_one] at this;exact this
  ·simp only[cT,hdO]
theorem heads_n (su li at':Int) (tx m p q:L8) (hs:List HeadD) (b:L8) (le:Int) (ou:List ReqD) (h1:hs.length<=1000000) (h2:∀h,h∈hs->h.1.length<=1099511627776/\h.2.1.length<=1099511627776) (h3:ou.length<=1099511627776):
  oheads (8,su,li,at',tx,(m,p,q,hs,b,()),le,ou,()) ()=some ((Nice.hdN su li at' tx m p q hs b le ou).1,(Nice.hdN su li at' tx m p q hs b le ou).2,()):=by
 rw[oheads_g,eheads_g];have:=heads_l 8 su li at' tx m p q hs b le ou 0 h1 h2 h3 hs [] heads0 0 rfl (Nat.le_refl _) (by unfold heads0;omega);simp only[List.length_nil,Int.natCast_zero] at this;rw[this];unfold hdO Nice.hdN;cases mHeads hs 0 with
 |none=>rfl
 |some k=>
  simp only;by_cases g1:1<k
  ·rw[if_pos g1,if_pos g1]
  ·rw[if_neg g1,if_neg g1];by_cases g2:scanLen hs>300
   ·rw[if_pos g2,if_pos g2]
   ·rw[if_neg g2,if_neg g2];by_cases g3:scanLen hs=0
    ·rw[if_pos g3,if_pos g3]
    ·rw[if_neg g3,if_neg g3]
open Go Go.Eng Nice
set_option maxRecDepth 1000000
theorem tok13 {c:UInt8} (h:c.toNat=13\/c.toNat=58):isTok c=false:=decide_eq_false (by omega)
theorem lines_n (st su li at':Int) (tx m p q:L8) (hs:List HeadD) (b:L8) (le:Int) (ou:List ReqD) (c:UInt8) (ok:OkX st li at' tx hs le ou) (hst:st=4\/st=5\/st=6\/st=7\/st=8):
  olines (st,su,li,at',tx,(m,p,q,hs,b,()),le,ou,()) (c,())=some ((lnN st su li at' tx m p q hs b le ou c).1,(lnN st su li at' tx m p q hs b le ou c).2,()):=by
 obtain⟨li0,li1,at0,at1,tx1,hs1,hs2,hs6,le0,le1,ou1⟩:=ok;have hc:=c.toNat_lt;have ii:inK .i64 (li+1):=inK_i64.2 ⟨by omega,by omega⟩;have ic:inK .u8 (c.toNat:Int):=inK_u8.2 ⟨by omega,by omega⟩;rw[olines_g,elines_g];simp only[Int.toNat_natCast,UInt8.ofNat_toNat];by_cases h47:st=4\/st=7
 ·unfold lnN;rw[if_pos h47];by_cases h10:c.toNat=10
  ·rw[if_pos h10];rcases h47 with rfl|rfl
   ·rw[ceT rfl,cnF (by omega),ceF (by decide)]
   ·rw[ceF (by decide),ceT rfl,cnF (by omega),ceF (by decide)]
  ·rw[if_neg h10];rcases h47 with rfl|rfl
   ·rw[ceT rfl,cnT (by omega)]
   ·rw[ceF (by decide),ceT rfl,cnT (by omega)]
 ·rw[ceF (by omega),ceF (by omega)];by_cases h8:st=8
  ·subst h8;unfold lnN;rw[if_neg h47,if_pos rfl,ceT rfl];by_cases h10:c.toNat=10
   ·rw[if_pos h10,cnF (by omega),ceT rfl];obtain⟨hP,hN⟩:=heads_hid (heads_n su 0 at' tx m p q hs b le ou hs1 hs2 ou1);rw[gdB hP,gN,hN]
   ·rw[if_neg h10,cnT (by omega)]
  ·rw[ceF h8];by_cases h6:st=6
   ·subst h6;unfold lnN;rw[if_neg h47,if_neg h8,if_pos rfl,ceT rfl];have hl:=hs6 rfl;by_cases h13:c.toNat=13
    ·have e:((hs.length:Int)-1).toNat=hs.length-1:=by omega
     rw[if_pos h13,ceT (by omega),gdT (by omega),gdT (by omega),gdT (by omega),gdB (by rw[Bool.and_eq_true];exact⟨rfl,decide_eq_true (by omega)⟩),gdT (inK_i64.2 ⟨by omega,by omega⟩),gN,e];rfl
    ·rw[if_neg h13,ceF (by omega)];by_cases h9:c.toNat=9
     ·rw[if_pos (.inr h9),cdF (by omega),ceT (by omega),gdT ii,gdT (by omega),gdT ic,gN]
     ·by_cases h32:32<=c.toNat
      ·rw[cdT (by omega)];by_cases h126:c.toNat<=126
       ·rw[if_pos (.inl ⟨h32,h126⟩),cdT (by omega),gdT ii,gdT (by omega),gdT ic,gN]
       ·rw[if_neg (by omega),cdF (by omega),ceF (by omega)]
      ·rw[if_neg (by omega),cdF (by omega),ceF (by omega)]
   ·unfold lnN;rw[if_neg h47,if_neg h8,if_neg h6,ceF h6];by_cases h13:c.toNat=13
    ·rw[ceT (by omega)];by_cases hl:li=0
     ·rw[if_pos ⟨h13,hl⟩,ceT hl]
     ·rw[if_neg (λh=>hl h.2),if_neg (by omega),ceF hl,ceF (by omega),tok13 (.inl h13),cF,gdT ic,gN];rfl
    ·rw[if_neg (λh=>h13 h.1),ceF (by omega)];by_cases h58:c.toNat=58
     ·rw[ceT (by omega)];by_cases hl:li>0
      ·rw[if_pos ⟨h58,hl⟩,cdT hl,gdT ii,gdT (by omega),gN]
      ·rw[if_neg (λh=>hl h.2),cdF hl,tok13 (.inr h58),cF,gdT ic,gN];rfl
     ·rw[if_neg (λh=>h58 h.1),ceF (by omega)];cases ht:isTok c
      ·rw[cF,gdT ic,gN];rfl
      ·rw[cT,gdT ii,gdT (by omega),gdT ic,gdT ic,gN];rfl
theorem step_n (st su li at':Int) (tx m p q:L8) (hs:List HeadD) (b:L8) (le:Int) (ou:List ReqD) (c:UInt8) (ok:OkX st li at' tx hs le ou) (hst:0<=st/\st<=9):
  ostep (st,su,li,at',tx,(m,p,q,hs,b,()),le,ou,()) (c,())=some ((mst st su li at' tx m p q hs b le ou c).1,(mst st su li at' tx m p q hs b le ou c).2,()):=by
 have ok':=ok;obtain⟨li0,li1,at0,at1,tx1,hs1,hs2,hs6,le0,le1,ou1⟩:=ok;have hc:=c.toNat_lt;have ii:inK .i64 (li+1):=inK_i64.2 ⟨by omega,by omega⟩;have ic:inK .u8 (c.toNat:Int):=inK_u8.2 ⟨by omega,by omega⟩;rw[ostep_g,estep_g];simp only[Int.toNat_natCast,UInt8.ofNat_toNat];rw[gdT ic,gN];unfold mst;by_cases hl:longN (st,su,li,at',tx,(m,p,q,hs,b,()),le,ou,()) c≠0
 ·rw[if_pos hl,cnT hl]
 rw[if_neg hl,cnF (by simpa using hl)];by_cases h0:st=0
 ·subst h0;rw[if_pos rfl,ceT rfl];cases hcap:isCap c
  ·rw[cF,if_neg (by intro h;exact absurd h.1 (by decide)),gdT ic,gN];by_cases h32:c.toNat=32
   ·rw[ceT (by omega)];by_cases hp:li>0
    ·rw[if_pos ⟨h32,hp⟩,cdT hp,gdT ii,gN]
    ·rw[if_neg (λh=>hp h.2),cdF hp]
   ·rw[ceF (by omega),if_neg (λh=>h32 h.1)]
  ·rw[cT];by_cases h10:li<10
   ·rw[if_pos ⟨rfl,h10⟩,cdT h10,gdT ii,gdT (by omega),gdT ic,gdT ic,gN]
   ·have:=isCap_iff.1 hcap;rw[if_neg (λh=>h10 h.2),cdF h10,gdT ic,gN,ceF (by omega),if_neg (by omega)]
 rw[if_neg h0,ceF h0];by_cases h1:st=1
 ·subst h1;rw[if_pos rfl,ceT rfl];have tail:(bif (↑c.toNat:Int)==63 then gd [decide (inK IntKind.i64 (li+1))] (some (((2:Int),su,li+1,at',([]:L8),(m,tx,q,hs,b,()),le,ou,()),(0:Int),())) else
    (bif (↑c.toNat:Int)==32 then gd [decide (inK IntKind.i64 (li+1))] (some (((3:Int),su,li+1,at',([]:L8),(m,tx,q,hs,b,()),le,ou,()),(0:Int),())) else
     (bif isVis c then gd [decide (inK IntKind.i64 (li+1)),decide ((2*(tx.length+1)+400)*1<=281474976710656),decide (inK IntKind.u8 (c.toNat:Int)),decide (inK IntKind.u8 (c.toNat:Int))] (some (((1:Int),su,li+1,at',tx++[c],(m,p,q,hs,b,()),le,ou,()),(0:Int),()))
       else gd [decide (inK IntKind.u8 (c.toNat:Int))] (some (((1:Int),su,li,at',tx,(m,p,q,hs,b,()),le,ou,()),(400:Int),())))))
    =some ((if c.toNat=63 then(((2:Int),su,li+1,at',([]:L8),(m,tx,q,hs,b,()),le,ou,()),(0:Int))
      else if c.toNat=32 then((3,su,li+1,at',[],(m,tx,q,hs,b,()),le,ou,()),0)
      else if isVis c=true then((1,su,li+1,at',tx++[c],(m,p,q,hs,b,()),le,ou,()),0)
      else((1,su,li,at',tx,(m,p,q,hs,b,()),le,ou,()),400)).1,
     (if c.toNat=63 then(((2:Int),su,li+1,at',([]:L8),(m,tx,q,hs,b,()),le,ou,()),(0:Int))
      else if c.toNat=32 then((3,su,li+1,at',[],(m,tx,q,hs,b,()),le,ou,()),0)
      else if isVis c=true then((1,su,li+1,at',tx++[c],(m,p,q,hs,b,()),le,ou,()),0)
      else((1,su,li,at',tx,(m,p,q,hs,b,()),le,ou,()),400)).2,()):=by
   by_cases h63:c.toNat=63
   ·rw[ceT (by omega),if_pos h63,gdT ii,gN]
   ·rw[ceF (by omega),if_neg h63];by_cases h32:c.toNat=32
    ·rw[ceT (by omega),if_pos h32,gdT ii,gN]
    ·rw[ceF (by omega),if_neg h32];cases hv:isVis c
     ·rw[cF,gdT ic,gN];rfl
     ·rw[cT,gdT ii,gdT (by omega),gdT ic,gdT ic,gN];rfl
  by_cases hx:tx.length=0
  ·rw[ceT (by omega)];by_cases h47:c.toNat=47
   ·rw[cnF (by omega),if_neg (λh=>h.2 h47)];exact tail
   ·rw[cnT (by omega),if_pos ⟨hx,h47⟩]
  ·rw[ceF (by omega),if_neg (λh=>hx h.1)];exact tail
 rw[if_neg h1,ceF h1];by_cases h2:st=2
 ·subst h2;rw[if_pos rfl,ceT rfl];by_cases h32:c.toNat=32
  ·rw[ceT (by omega),if_pos h32,gdT ii,gN]
  ·rw[ceF (by omega),if_neg h32];cases hv:isVis c
   ·rw[cF,gdT ic,gN];rfl
   ·rw[cT,gdT ii,gdT (by omega),gdT ic,gdT ic,gN];rfl
 rw[if_neg h2,ceF h2];by_cases h3:st=3
 ·subst h3;rw[if_pos rfl,ceT rfl];by_cases h8:at'=8
  ·rw[ceT h8,if_pos h8];by_cases h13:c.toNat=13
   ·rw[ceT (by omega),if_pos h13]
   ·rw[ceF (by omega),if_neg h13,ceT h8]
  ·rw[ceF h8,if_neg h8,ceF h8];rw[show([72,84,84,80,47,49,46,49]:L8)=verB from rfl];by_cases hv:c.toNat=(verB.getD at'.toNat 0).toNat
   ·rw[if_pos hv,cnF (by omega),gdT ii,gdT (inK_i64.2 ⟨by omega,by omega⟩),gdT (by omega),gdT (by omega),gN]
   ·rw[if_neg hv,cnT (by omega),gdT (by omega),gdT (by omega),gN]
 rw[if_neg h3,ceF h3];by_cases h9:st=9
 ·subst h9;rw[if_pos rfl,ceT rfl,gdT (inK_i64.2 ⟨by omega,by omega⟩),gdT (by omega),gdT ic,gN];by_cases hle:le-1=0
  ·rw[if_pos hle,ceT hle,gdT (by omega),gN]
  ·rw[if_neg hle,ceF hle]
 rw[if_neg h9,ceF h9];obtain⟨hP,hN⟩:=lines_hid (lines_n st su li at' tx m p q hs b le ou c ok' (by omega));rw[gdB hP,gdT ic,gN,hN]
open Go Go.Eng Nice
set_option maxRecDepth 1000000
def clrX (x:ScanD):ScanD×List ReqD×Unit:=((x.1,x.2.1,x.2.2.1,x.2.2.2.1,x.2.2.2.2.1,x.2.2.2.2.2.1,x.2.2.2.2.2.2.1,[],()),x.2.2.2.2.2.2.2.1,())
theorem feed_l (s:L8):∀(rest done:L8) (n K:Nat) (st su li at':Int) (tx m p q:L8) (hs:List HeadD) (b:L8) (le:Int) (ou:List ReqD),s=done++rest->rest.length<n->K+rest.length<=1000000->done.length<=1000000->
  (su=0->InvX K (st,su,li,at',tx,(m,p,q,hs,b,()),le,ou,()))->done.length+rest.length<=1000000->
  hfeed_0 n st su li at' tx m p q hs b le ou s (done.length:Int)=some (clrX (mrun (st,su,li,at',tx,(m,p,q,hs,b,()),le,ou,()) rest)):=by
 intro rest
 induction rest with
 |nil=>
  intro done n K st su li at' tx m p q hs b le ou he hn hK hd hi hs';obtain⟨n,rfl⟩:∃m,n=m+1:=⟨n-1,by omega⟩
  have hl:s.length=done.length:=by rw[he,List.append_nil]
  rw[efeed_0,cdF (by omega)];rfl
 |cons c rest ihr=>
  intro done n K st su li at' tx m p q hs b le ou he hn hK hd hi hs';obtain⟨n,rfl⟩:∃m,n=m+1:=⟨n-1,by omega⟩
  simp only[List.length_cons] at hn hK hs';have hl:s.length=done.length+rest.length+1:=by rw[he];simp only[List.length_append,List.length_cons];omega
  have hg:s.getD done.length 0=c:=by rw[he];exact getD_mid _ _ _ _
  have hc:=c.toNat_lt;rw[efeed_0,cdT (by omega)];by_cases h0:su=0
  ·rw[ceT h0];have i:=hi h0;obtain⟨hP,hN⟩:=step_hid (step_n st su li at' tx m p q hs b le ou c (i.ok (by omega)) ⟨i.st0,i.st9⟩);simp only[Int.toNat_natCast,hg,UInt8.ofNat_toNat];rw[gdT (inK_i64.2 ⟨by omega,by omega⟩),gdB hP,gdT (inK_u8.2 ⟨by omega,by omega⟩),gdT (by omega),gdT (by omega),gN,hN];have e:mrun (st,su,li,at',tx,(m,p,q,hs,b,()),le,ou,()) (c::rest)=mrun (feed1 (st,su,li,at',tx,(m,p,q,hs,b,()),le,ou,()) c) rest:=if_pos h0
   rw[e];have ih:=ihr (done++[c]) n (K+1) (mst st su li at' tx m p q hs b le ou c).1.1 (mst st su li at' tx m p q hs b le ou c).2 (mst st su li at' tx m p q hs b le ou c).1.2.2.1 (mst st su li at' tx m p q hs b le ou c).1.2.2.2.1 (mst st su li at' tx m p q hs b le ou c).1.2.2.2.2.1
    (mst st su li at' tx m p q hs b le ou c).1.2.2.2.2.2.1.1 (mst st su li at' tx m p q hs b le ou c).1.2.2.2.2.2.1.2.1 (mst st su li at' tx m p q hs b le ou c).1.2.2.2.2.2.1.2.2.1 (mst st su li at' tx m p q hs b le ou c).1.2.2.2.2.2.1.2.2.2.1 (mst st su li at' tx m p q hs b le ou c).1.2.2.2.2.2.1.2.2.2.2.1
    (mst st su li at' tx m p q hs b le ou c).1.2.2.2.2.2.2.1 (mst st su li at' tx m p q hs b le ou c).1.2.2.2.2.2.2.2.1 (by rw[he,List.append_assoc];rfl) (by omega) (by omega) (by simp only[List.length_append,List.length_singleton];omega) (λhz=>inv_feed1 i c hz) (by simp only[List.length_append,List.length_singleton];omega)
   simp only[List.length_append,List.length_singleton,Int.natCast_add,Int.natCast_one] at ih;exact ih
  ·rw[ceF h0];have e:mrun (st,su,li,at',tx,(m,p,q,hs,b,()),le,ou,()) (c::rest)=(st,su,li,at',tx,(m,p,q,hs,b,()),le,ou,()):=if_neg h0;rw[e];rfl
theorem feed_n (st su li at':Int) (tx m p q:L8) (hs:List HeadD) (b:L8) (le:Int) (ou:List ReqD) (s:L8) (K:Nat) (hK:K+s.length<=1000000) (hi:su=0->InvX K (st,su,li,at',tx,(m,p,q,hs,b,()),le,ou,())):
  ofeed (st,su,li,at',tx,(m,p,q,hs,b,()),le,ou,()) (s,())=some (clrX (mrun (st,su,li,at',tx,(m,p,q,hs,b,()),le,ou,()) s)):=by
 rw[ofeed_g,efeed_g];exact feed_l s s [] heads0 K st su li at' tx m p q hs b le ou rfl (by unfold heads0;omega) hK (by simp) hi (by simp only[List.length_nil];omega)
open Go Go.Eng Nice
set_option maxRecDepth 1000000
theorem clrX_eq (x:ScanD):clrX x=(clX x,outX x,()):=rfl
theorem feedS_n (x:ScanD) (s:L8) (K:Nat) (hK:K+s.length<=1000000) (hi:x.2.1=0->InvX K x):ofeed x (s,())=some (clrX (mrun x s)):=by
 obtain⟨st,su,li,at',tx,⟨m,p,q,hs,b,⟨⟩⟩,le,ou,⟨⟩⟩:=x;exact feed_n st su li at' tx m p q hs b le ou s K hK hi
open Go Go.Eng Nice
set_option maxRecDepth 1000000
theorem hds_len:∀(k:Nat) (m p q:L8) (hs:List HeadD) (u:L8) (x:ReqD) (r:L8),hdsR k m p q hs u=.whole x r->x.2.2.2.1.length<=hs.length+u.length
 |0,m,p,q,hs,u,x,r,h=>by cases h
 |k+1,m,p,q,hs,u,x,r,h=>by
  have f:=run2 u hs.length 5 [] [] m p q hs 0 0 [] (.inl rfl) (λ_=>rfl) (λh=>by omega) rfl;unfold hdsR at h
  revert f h
  cases r2 hs.length 5 [] [] 0 u with
  |more=>intro f h;cases h
  |bad e=>intro f h;cases h
  |head hh rr=>
   intro f h;have:=hds_len k m p q (hs++[hh]) rr x r h;have:=f.2;simp only[List.length_append,List.length_singleton] at *;omega
  |fin rr=>
   intro f h;unfold bodyR at h;simp only at h
   split at h
   ·cases h
   ·split at h
    ·cases h
    ·cases h;exact Nat.le_add_right _ _
theorem one_len (s:L8) (x:ReqD) (r:L8) (h:oneR s=.whole x r):x.2.2.2.1.length<=s.length:=by
 by_cases hs:s=[]
 ·subst hs;cases h
 have f:=run1 s 0 0 [] [] [] [] 0 0 [] (.inl rfl) (by omega) (λ_=>rfl) (λh=>by omega) (λ_=>rfl) (.inl hs);unfold oneR at h
 revert f h
 cases r1 0 0 [] [] [] [] 0 s with
 |more=>intro h f;cases h
 |bad e=>intro h f;cases h
 |whole m p q rr=>
  intro h f;have:=hds_len (rr.length+1) m p q [] rr x r h;have:=f.2;simp only[List.length_nil] at *;omega
theorem scan_len:∀(k:Nat) (s:L8) (x:ReqD),x∈(scanR k s).1->x.2.2.2.1.length<=s.length
 |0,s,x,h=>by simp[scanR] at h
 |k+1,s,x,h=>by
  unfold scanR at h;by_cases hs:s=[]
  ·rw[if_pos hs] at h;simp at h
  rw[if_neg hs] at h;have fit:=run_one s [] hs;have ol:=λy r=>one_len s y r
  revert fit ol h
  cases oneR s with
  |more=>intro h fit ol;simp at h
  |bad e=>intro h fit ol;simp at h
  |whole y r=>
   intro h fit ol;rcases List.mem_cons.1 h with rfl|h
   ·exact ol _ _ rfl
   ·have:=scan_len k r x h;have:=fit.2;omega
theorem scan_outs (s:L8):(mrun (initX []) s).2.1=(scanR (s.length+1) s).2.1/\outX (mrun (initX []) s)=(scanR (s.length+1) s).1/\idleN (mrun (initX []) s)=((scanR (s.length+1) s).2.2||(scanR (s.length+1) s).2.1 !=0):=
 run_scan (s.length+1) s [] (Nat.lt_succ_self _)
end Go.Proofs.YtldllfocpadkeaaGreatDoor
namespace Nice
open Go Go.Eng
theorem a1_len {st at':Int} {tx m p q:L8} {c:UInt8} {st' at2:Int} {tx' m' p' q':L8} {B:Nat} (h:a1 st at' tx m p q c=some (st',at2,tx',m',p',q')) (ht:tx.length+1<=B) (hp:p.length<=B) (hq:q.length<=B):
  tx'.length<=tx.length+1/\p'.length<=B/\q'.length<=B:=by
 unfold a1 at h
 repeat' split at h
 all_goals first
  |cases h;done
  |(simp only[Option.some.injEq,Prod.mk.injEq] at h
    obtain⟨-, -,rfl,rfl,rfl,rfl⟩:=h;refine⟨?_,?_,?_⟩<;>(try simp only[List.length_append,List.length_cons,List.length_nil])<;>omega)
theorem r1_len:∀(s:L8) (st at':Int) (tx m p q:L8) (i:Nat) (B:Nat) {m' p' q' r:L8},r1 st at' tx m p q i s=.whole m' p' q' r->tx.length+s.length<=B->p.length<=B->q.length<=B->p'.length<=B/\q'.length<=B
 |[],st,at',tx,m,p,q,i,B,m',p',q',r,h,_,_,_=>by simp[r1] at h
 |c::r0,st,at',tx,m,p,q,i,B,m',p',q',r,h,ht,hp,hq=>by
  unfold r1 at h;simp only[List.length_cons] at ht
  split at h
  ·split at h
   ·split at h
    ·cases h
    ·split at h
     ·cases h;exact⟨hp,hq⟩
     ·cases h
   ·cases h
  ·split at h
   ·cases h
   ·split at h
    ·cases h
    ·next e=>
     obtain⟨h1,h2,h3⟩:=a1_len (B:=B) e (by omega) hp hq;exact r1_len r0 _ _ _ _ _ _ _ B h (by omega) h2 h3
theorem trim_len (s:L8):(trimL (trimR s)).length<=s.length:=Nat.le_trans (trimL_le _) (trimR_le _)
theorem a2_lenF {st:Int} {nm tx:L8} {c:UInt8} {st':Int} {nm' tx':L8} {B:Nat} (h:a2 st nm tx c=some (st',nm',tx')) (ht:tx.length+1<=B) (hn:nm.length<=B):tx'.length<=tx.length+1/\nm'.length<=B:=by
 unfold a2 at h
 repeat' split at h
 all_goals first
  |cases h;done
  |(simp only[Option.some.injEq,Prod.mk.injEq] at h
    obtain⟨-,rfl,rfl⟩:=h;refine⟨?_,?_⟩<;>(try simp only[List.length_append,List.length_cons,List.length_nil])<;>omega)
theorem r2_len:∀(s:L8) (nh:Nat) (st:Int) (nm tx:L8) (i:Nat) (B:Nat) {h:HeadD} {r:L8},r2 nh st nm tx i s=.head h r->tx.length+s.length<=B->nm.length<=B->h.1.length<=B/\h.2.1.length<=B
 |[],nh,st,nm,tx,i,B,hh,r,h,_,_=>by simp[r2] at h
 |c::r0,nh,st,nm,tx,i,B,hh,r,h,ht,hn=>by
  unfold r2 at h;simp only[List.length_cons] at ht
  split at h
  ·split at h
   ·split at h
    ·split at h
     ·cases h
     ·split at h<;>cases h
    ·cases h
   ·split at h
    ·cases h
    ·split at h
     ·cases h;exact⟨hn,Nat.le_trans (trim_len tx) (by omega)⟩
     ·cases h
  ·split at h
   ·cases h
   ·split at h
    ·cases h
    ·split at h
     ·cases h
     ·next e=>
      obtain⟨h1,h2⟩:=a2_lenF (B:=B) e (by omega) hn;exact r2_len r0 _ _ _ _ _ B h (by omega) h2
def SmR (B:Nat) (x:ReqD):Prop:=x.2.1.length<=B/\x.2.2.1.length<=B/\∀h,h∈x.2.2.2.1->h.1.length<=B/\h.2.1.length<=B
end Nice
namespace Go.Proofs.YtldllfocpadkeaaGreatDoor
open Go Go.Eng Nice
theorem hds_sm (B:Nat):∀(k:Nat) (m p q:L8) (hs:List HeadD) (u:L8) (x:ReqD) (r:L8),hdsR k m p q hs u=.whole x r->u.length<=B->p.length<=B->q.length<=B->(∀h,h∈hs->h.1.length<=B/\h.2.1.length<=B)->SmR B x
 |0,m,p,q,hs,u,x,r,h,_,_,_,_=>by cases h
 |k+1,m,p,q,hs,u,x,r,h,hu,hp,hq,hh=>by
  have f:=run2 u hs.length 5 [] [] m p q hs 0 0 [] (.inl rfl) (λ_=>rfl) (λh=>by omega) rfl;have g:=λh r (e:r2 hs.length 5 [] [] 0 u=.head h r)=>r2_len u hs.length 5 [] [] 0 B e (by simpa using hu) (Nat.zero_le _)
  unfold hdsR at h
  revert f h g
  cases r2 hs.length 5 [] [] 0 u with
  |more=>intro f g h;cases h
  |bad e=>intro f g h;cases h
  |head h0 rr=>
   intro f g h;refine hds_sm B k m p q (hs++[h0]) rr x r h (by have:=f.2;omega) hp hq λy hy=> ?_
   rcases List.mem_append.1 hy with hy|hy
   ·exact hh y hy
   ·rw[List.mem_singleton.1 hy];exact g _ _ rfl
  |fin rr=>
   intro f g h;unfold bodyR at h;simp only at h
   split at h
   ·cases h
   ·split at h
    ·cases h
    ·cases h;exact⟨hp,hq,hh⟩
theorem one_sm (s:L8) (x:ReqD) (r:L8) (h:oneR s=.whole x r):SmR s.length x:=by
 by_cases hs:s=[]
 ·subst hs;cases h
 have f:=run1 s 0 0 [] [] [] [] 0 0 [] (.inl rfl) (by omega) (λ_=>rfl) (λh=>by omega) (λ_=>rfl) (.inl hs);have g:=λm p q r (e:r1 0 0 [] [] [] [] 0 s=.whole m p q r)=>r1_len s 0 0 [] [] [] [] 0 s.length e (by simp) (Nat.zero_le _) (Nat.zero_le _)
 unfold oneR at h
 revert g f h
 cases r1 0 0 [] [] [] [] 0 s with
 |more=>intro f g h;cases f
 |bad e=>intro f g h;cases f
 |whole m p q rr=>
  intro h f g;obtain⟨g1,g2⟩:=g _ _ _ _ rfl;exact hds_sm s.length (rr.length+1) m p q [] rr x r h (by have:=f.2;omega) g1 g2 λy hy=>by cases hy
theorem scan_sm (B:Nat):∀(k:Nat) (s:L8) (x:ReqD),x∈(scanR k s).1->s.length<=B->SmR B x
 |0,s,x,h,_=>by simp[scanR] at h
 |k+1,s,x,h,hB=>by
  unfold scanR at h;by_cases hs:s=[]
  ·rw[if_pos hs] at h;simp at h
  rw[if_neg hs] at h;have fit:=run_one s [] hs;have ol:=λy r=>one_sm s y r
  revert fit ol h
  cases oneR s with
  |more=>intro h fit ol;simp at h
  |bad e=>intro h fit ol;simp at h
  |whole y r=>
   intro h fit ol;rcases List.mem_cons.1 h with rfl|h
   ·obtain⟨a,b,c⟩:=ol _ _ rfl;exact⟨by omega,by omega,λz hz=>⟨Nat.le_trans (c z hz).1 hB,Nat.le_trans (c z hz).2 hB⟩⟩
   ·exact scan_sm B k r x h (by have:=fit.2;omega)
end Go.Proofs.YtldllfocpadkeaaGreatDoor
namespace Nice
open Go Go.Eng
theorem valueN_le:∀(l:List HeadD) (n:L8) (B:Nat),(∀h,h∈l->h.2.1.length<=B)->(valueN l n).1.length<=B
 |[],n,B,_=>Nat.zero_le _
 |h::l,n,B,hh=>by
  unfold valueN;cases lower h.1==lower n
  ·exact valueN_le l n B λy hy=>hh y (List.mem_cons_of_mem _ hy)
  ·exact hh h (List.mem_cons_self ..)
theorem ofP_sm {x:ReqD} {B:Nat} (h:SmR B x) (hl:x.2.2.2.1.length<=B) (hB:B<=1000000):ofP x=true:=by
 obtain⟨m,p,q,hs,b,⟨⟩⟩:=x;obtain⟨h1,h2,h3⟩:=h;have h1:p.length<=B:=h1;have h2:q.length<=B:=h2;have h3:∀h,h∈hs->h.1.length<=B/\h.2.1.length<=B:=h3;have hl:hs.length<=B:=hl;have hv:(valueN hs imW).1.length<=B:=valueN_le hs imW B λh hh=>(h3 h hh).2
 have hlow:hs.all (λh=>lowerP h.1)=true:=List.all_eq_true.2 λh hh=>by
  have:=(h3 h hh).1;unfold lowerP;exact decide_eq_true (by omega)
 have e:valueP hs inmW=true/\valueP hs imW=true:=by
  unfold valueP;rw[hlow,decide_eq_true (by omega)];exact⟨by decide,by decide⟩
 show(((valueP hs inmW&&valueP hs imW)&&bndS (valueN hs imW).1)&&(shortS q&&bndS p))=true;unfold shortS bndS;rw[e.1,e.2,decide_eq_true (by omega),decide_eq_true (by omega),decide_eq_true (by omega)];rfl
end Nice
namespace Go.Proofs.YtldllfocpadkeaaGreatDoor
open Go Go.Eng Nice
set_option maxRecDepth 1000000
theorem first_c:OC 118 firstS:=hidO (objO (S:=sigFi) (sh:=shOf shfirst) (envS_ok (l:=[]) trivial) gl_ne Tryz.func118 (by kernel_rfl) (by decide)) (g:=ofirst) (hid_eq _) (hid_eq _)
theorem head_c:PC 119 headS:=hidP (pureO (sh:=shOf shhead) (envS_ok (l:=[(160,letS),(123,digS)]) ⟨let_c,dig_c,trivial⟩) gl_ne Tryz.func119 (by kernel_rfl) (by decide)) (g:=ohead) (hid_eq _) (hid_eq _)
theorem line_c:PC 117 lineS:=hidP (pureO (sh:=shOf shline) (envO_ok (l:=[(119,headS)]) (o:=[(118,firstS)]) ⟨head_c,trivial⟩ ⟨first_c,trivial⟩) gl_ne Tryz.func117 (by kernel_rfl) (by decide)) (g:=oline) (hid_eq _) (hid_eq _)
theorem one_c:OC 69 oneS:=hidO (objO (S:=sigOn) (sh:=shOf shone) (envO_ok (l:=[(117,lineS),(119,headS),(120,refLenS)]) (o:=[(118,firstS)]) ⟨line_c,head_c,rlen_c,trivial⟩ ⟨first_c,trivial⟩) gl_ne Tryz.func69 (by kernel_rfl) (by decide)) (g:=oone) (hid_eq _) (hid_eq _)
theorem rscan_c:PC 29 rscanS:=hidP (pureO (sh:=shOf shrscan) (envO_ok (l:=[]) (o:=[(69,oneS)]) trivial ⟨one_c,trivial⟩) gl_ne Tryz.func29 (by kernel_rfl) (by decide)) (g:=orscan) (hid_eq _) (hid_eq _)
end Go.Proofs.YtldllfocpadkeaaGreatDoor
namespace Nice
open Go Go.Eng
def headT (h:HeadD):L8:=cut h.1 40++[58]++cut h.2.1 110++[13,10]
def headsT (l:List HeadD):L8:=(l.map headT).flatten
def lineH (r:ReqD):L8:=cut r.1 12++[32]++cut r.2.1 100++(bif r.2.2.1==[] then [] else [63]++cut r.2.2.1 120)++[32,72,84,84,80,47,49,46,49,13,10]
def lineT (r:ReqD):L8:=lineH r++headsT (r.2.2.2.1.take 12)++[13,10]++cut r.2.2.2.2.1 310

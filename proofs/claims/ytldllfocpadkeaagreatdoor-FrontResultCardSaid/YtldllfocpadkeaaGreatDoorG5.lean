/-
  Part of the proof: ShelfI Shelf15B Lib15B LC CA ShelfS Lib15S LG CG ShTrP ShelfC ShTrQ ShelfJ Lib15J LRq LRr. No condition.
-/
import Derived.Shelf.SlicesQ.IndexFunc
import Derived.Test.YtldllfocpadkeaaGreatDoorProg
import Derived.Tactics2
import Derived.WalkKit
import Derived.Shelf.LaysC
import Derived.Ground.GgwProg
import Derived.Shelf.Strconv.ParseIntPublic10
import Derived.Shelf.GgClosure.StringsIndexFunc
import Derived.Shelf.GgClosure.StringsIndexFuncTop
import Derived.Test.YtldllfocpadkeaaGreatDoorG4
import Derived.Test.YtldllfocpadkeaaGreatDoorSym
import Derived.Test.YtldllfocpadkeaaGreatDoorG1
import Derived.Lib.AtoiErrMem
import Derived.Shelf.Strings.Cut
import Derived.Shelf.Strings.Split
import Derived.Test.YtldllfocpadkeaaGreatDoorG2
import Derived.Test.YtldllfocpadkeaaGreatDoorG3
import Derived.Shelf.Slices.Clone
import Derived.Shelf.LaysM
import Derived.Shelf.Strconv.Itoa3
import Derived.Shelf.Strconv.Itoa4
import Derived.Shelf.Strings.OnBuilder
set_option maxRecDepth 100000
namespace Go.Proofs
open Go.Shelf
def Tryz.idxV_ren:Go.Shelf.Ren:=⟨fun|6=>203|n=>n,fun|22=>42|23=>86|25=>183|n=>n,fun|n=>n⟩
theorem Tryz.laysIdxV:Go.Proofs.SlLaysH0.n6 Tryz.prog Tryz.idxV_ren:={
 mixed:=by kernel_rfl
 f6:=⟨Tryz.f203.name,by kernel_rfl,Tryz.func203.trans (congrArg some (by kernel_rfl))⟩
 t0:=Tryz.underlying0
 a0:=Tryz.isAgg0
 z0:=Tryz.sizeOf0
 v0:=Tryz.zeroValue0
 t3:=Tryz.underlying3
 a3:=Tryz.isAgg3
 z3:=Tryz.sizeOf3
 v3:=Tryz.zeroValue3
 t4:=Tryz.underlying4
 a4:=Tryz.isAgg4
 z4:=Tryz.sizeOf4
 v4:=Tryz.zeroValue4
 t22:=Tryz.underlying42
 a22:=Tryz.isAgg42
 z22:=Tryz.sizeOf42
 v22:=Tryz.zeroValue42
 t25:=Tryz.underlying183
 a25:=Tryz.isAgg183
 z25:=Tryz.sizeOf183
 v25:=Tryz.zeroValue183}
def Tryz.idxE_ren:Go.Shelf.Ren:=⟨fun|6=>100|n=>n,fun|22=>22|23=>44|25=>92|n=>n,fun|n=>n⟩
theorem Tryz.laysIdxE:Go.Proofs.SlLaysH0.n6 Tryz.prog Tryz.idxE_ren:={
 mixed:=by kernel_rfl
 f6:=⟨Tryz.f100.name,by kernel_rfl,Tryz.func100.trans (congrArg some (by kernel_rfl))⟩
 t0:=Tryz.underlying0
 a0:=Tryz.isAgg0
 z0:=Tryz.sizeOf0
 v0:=Tryz.zeroValue0
 t3:=Tryz.underlying3
 a3:=Tryz.isAgg3
 z3:=Tryz.sizeOf3
 v3:=Tryz.zeroValue3
 t4:=Tryz.underlying4
 a4:=Tryz.isAgg4
 z4:=Tryz.sizeOf4
 v4:=Tryz.zeroValue4
 t22:=Tryz.underlying22
 a22:=Tryz.isAgg22
 z22:=Tryz.sizeOf22
 v22:=Tryz.zeroValue22
 t25:=Tryz.underlying92
 a25:=Tryz.isAgg92
 z25:=Tryz.sizeOf92
 v25:=Tryz.zeroValue92}
def encV (x:Int×Bool×ByteArray):List Value:=[.int .i64 x.1,.bool x.2.1,.string x.2.2]
def encE (x:ByteArray×Value):List Value:=[.string x.1,x.2]
open Go.RowKit Go.Lib in
theorem Tryz.isVer (ver:Int) (B o:Nat) (w:World) (hB:B<w.heap.size) (hcell:w.cell? ⟨B,o,none⟩=some (.int .i64 ver)):
  PredBelow Tryz.prog 204 #[.pointer (some ⟨B,o,none⟩)] (fun x=>.agg (encV x).toArray) (fun x=>x.1==ver) w:=fun W x hb=>by
 have hc:W.cell? ⟨B,o,none⟩=some (.int .i64 ver):=(hb.cell (p:=⟨B,o,none⟩) hB).trans hcell;have hBW:B<W.heap.size:=Nat.lt_of_lt_of_le hB hb.size;have hne:B≠W.heap.size:=by omega
 show Calls Tryz.prog 204 #[.agg #[.int .i64 x.1,.bool x.2.1,.string x.2.2],.pointer (some ⟨B,o,none⟩)] W _
 go_enter Tryz.func204,Tryz.ntmps204
 go_wp2
 all_goals (go_ret;exact⟨by simp_all,hb.alloc hb.size _⟩)
open Go.RowKit Go.Lib in
theorem Tryz.isKey (key:ByteArray) (B o:Nat) (w:World) (hB:B<w.heap.size) (hcell:w.cell? ⟨B,o,none⟩=some (.string key)):
  PredBelow Tryz.prog 101 #[.pointer (some ⟨B,o,none⟩)] (fun x=>.agg (encE x).toArray) (fun x=>x.1.toList==key.toList) w:=fun W x hb=>by
 have hc:W.cell? ⟨B,o,none⟩=some (.string key):=(hb.cell (p:=⟨B,o,none⟩) hB).trans hcell;have hBW:B<W.heap.size:=Nat.lt_of_lt_of_le hB hb.size;have hne:B≠W.heap.size:=by omega
 show Calls Tryz.prog 101 #[.agg #[.string x.1,x.2],.pointer (some ⟨B,o,none⟩)] W _
 go_enter Tryz.func101,Tryz.ntmps101
 go_wp2
 all_goals (go_ret;exact⟨by simp_all,hb.alloc hb.size _⟩)
end Go.Proofs
namespace Go.Proofs
open Go.Shelf
def Tryz.laysC174_ren:Go.Shelf.Ren:=⟨fun|174=>191|247=>264|245=>258|287=>313|279=>303|280=>304|281=>305|282=>306|321=>339|322=>340|316=>335|171=>79|205=>336|243=>125|246=>126|283=>167|284=>168|285=>169|286=>170|129=>218|317=>217|318=>219|319=>220|320=>221|337=>280|338=>281|n=>n,fun|9=>9|3=>3|2=>2|75=>209|85=>230|4=>4|167=>337|5=>5|53=>144|175=>342|46=>262|168=>338|37=>78|0=>0|210=>369|21=>21|127=>264|145=>384|143=>382|171=>199|173=>202|212=>258|51=>259|20=>20|213=>260|232=>356|233=>357|80=>75|n=>n,fun|15=>7|16=>8|17=>0|18=>5|19=>6|n=>n⟩
theorem Tryz.laysC174:Go.Proofs.LaysC.n174 Tryz.prog Tryz.laysC174_ren:={
 mixed:=by kernel_rfl
 f129:=Tryz.func218.trans (congrArg some (by kernel_rfl))
 f171:=Tryz.func79.trans (congrArg some (by kernel_rfl))
 f174:=Tryz.func191.trans (congrArg some (by kernel_rfl))
 f205:=Tryz.func336.trans (congrArg some (by kernel_rfl))
 f243:=Tryz.func125.trans (congrArg some (by kernel_rfl))
 f245:=Tryz.func258.trans (congrArg some (by kernel_rfl))
 f246:=Tryz.func126.trans (congrArg some (by kernel_rfl))
 f247:=Tryz.func264.trans (congrArg some (by kernel_rfl))
 f279:=Tryz.func303.trans (congrArg some (by kernel_rfl))
 f280:=Tryz.func304.trans (congrArg some (by kernel_rfl))
 f281:=Tryz.func305.trans (congrArg some (by kernel_rfl))
 f282:=Tryz.func306.trans (congrArg some (by kernel_rfl))
 f283:=Tryz.func167.trans (congrArg some (by kernel_rfl))
 f284:=Tryz.func168.trans (congrArg some (by kernel_rfl))
 f285:=Tryz.func169.trans (congrArg some (by kernel_rfl))
 f286:=Tryz.func170.trans (congrArg some (by kernel_rfl))
 f287:=Tryz.func313.trans (congrArg some (by kernel_rfl))
 f316:=Tryz.func335.trans (congrArg some (by kernel_rfl))
 f317:=Tryz.func217.trans (congrArg some (by kernel_rfl))
 f318:=Tryz.func219.trans (congrArg some (by kernel_rfl))
 f319:=Tryz.func220.trans (congrArg some (by kernel_rfl))
 f320:=Tryz.func221.trans (congrArg some (by kernel_rfl))
 f321:=Tryz.func339.trans (congrArg some (by kernel_rfl))
 f322:=Tryz.func340.trans (congrArg some (by kernel_rfl))
 f337:=Tryz.func280.trans (congrArg some (by kernel_rfl))
 f338:=Tryz.func281.trans (congrArg some (by kernel_rfl))
 t0:=Tryz.underlying0
 a0:=Tryz.isAgg0
 z0:=Tryz.sizeOf0
 v0:=Tryz.zeroValue0
 t2:=Tryz.underlying2
 a2:=Tryz.isAgg2
 z2:=Tryz.sizeOf2
 v2:=Tryz.zeroValue2
 t3:=Tryz.underlying3
 a3:=Tryz.isAgg3
 z3:=Tryz.sizeOf3
 v3:=Tryz.zeroValue3
 t4:=Tryz.underlying4
 a4:=Tryz.isAgg4
 z4:=Tryz.sizeOf4
 v4:=Tryz.zeroValue4
 t5:=Tryz.underlying5
 a5:=Tryz.isAgg5
 z5:=Tryz.sizeOf5
 v5:=Tryz.zeroValue5
 t9:=Tryz.underlying9
 a9:=Tryz.isAgg9
 z9:=Tryz.sizeOf9
 v9:=Tryz.zeroValue9
 t20:=Tryz.underlying20
 a20:=Tryz.isAgg20
 z20:=Tryz.sizeOf20
 v20:=Tryz.zeroValue20
 t21:=Tryz.underlying21
 a21:=Tryz.isAgg21
 z21:=Tryz.sizeOf21
 v21:=Tryz.zeroValue21
 t37:=Tryz.underlying78
 a37:=Tryz.isAgg78
 z37:=Tryz.sizeOf78
 v37:=Tryz.zeroValue78
 t46:=Tryz.underlying262
 a46:=Tryz.isAgg262
 z46:=Tryz.sizeOf262
 v46:=Tryz.zeroValue262
 t51:=Tryz.underlying259
 a51:=Tryz.isAgg259
 z51:=Tryz.sizeOf259
 v51:=Tryz.zeroValue259
 t53:=Tryz.underlying144
 a53:=Tryz.isAgg144
 z53:=Tryz.sizeOf144
 v53:=Tryz.zeroValue144
 t75:=Tryz.underlying209
 a75:=Tryz.isAgg209
 z75:=Tryz.sizeOf209
 v75:=Tryz.zeroValue209
 t85:=Tryz.underlying230
 a85:=Tryz.isAgg230
 z85:=Tryz.sizeOf230
 v85:=Tryz.zeroValue230
 t127:=Tryz.underlying264
 a127:=Tryz.isAgg264
 z127:=Tryz.sizeOf264
 v127:=Tryz.zeroValue264
 t143:=Tryz.underlying382
 a143:=Tryz.isAgg382
 z143:=Tryz.sizeOf382
 v143:=Tryz.zeroValue382
 t145:=Tryz.underlying384
 a145:=Tryz.isAgg384
 z145:=Tryz.sizeOf384
 v145:=Tryz.zeroValue384
 t167:=Tryz.underlying337
 a167:=Tryz.isAgg337
 z167:=Tryz.sizeOf337
 v167:=Tryz.zeroValue337
 t168:=Tryz.underlying338
 a168:=Tryz.isAgg338
 z168:=Tryz.sizeOf338
 v168:=Tryz.zeroValue338
 t171:=Tryz.underlying199
 a171:=Tryz.isAgg199
 z171:=Tryz.sizeOf199
 v171:=Tryz.zeroValue199
 t173:=Tryz.underlying202
 a173:=Tryz.isAgg202
 z173:=Tryz.sizeOf202
 v173:=Tryz.zeroValue202
 t175:=Tryz.underlying342
 a175:=Tryz.isAgg342
 z175:=Tryz.sizeOf342
 v175:=Tryz.zeroValue342
 t210:=Tryz.underlying369
 a210:=Tryz.isAgg369
 z210:=Tryz.sizeOf369
 v210:=Tryz.zeroValue369
 t212:=Tryz.underlying258
 a212:=Tryz.isAgg258
 z212:=Tryz.sizeOf258
 v212:=Tryz.zeroValue258
 t213:=Tryz.underlying260
 a213:=Tryz.isAgg260
 z213:=Tryz.sizeOf260
 t232:=Tryz.underlying356
 a232:=Tryz.isAgg356
 z232:=Tryz.sizeOf356
 v232:=Tryz.zeroValue356
 t233:=Tryz.underlying357
 a233:=Tryz.isAgg357
 z233:=Tryz.sizeOf357
 v233:=Tryz.zeroValue357
 g15:=by kernel_rfl
 g16:=by kernel_rfl
 g17:=by kernel_rfl
 g18:=by kernel_rfl
 g19:=by kernel_rfl
 t80:=Tryz.underlying75
 a80:=Tryz.isAgg75
 z80:=Tryz.sizeOf75
 v80:=Tryz.zeroValue75
 i0:=by kernel_rfl
 i2:=by kernel_rfl
 i3:=by kernel_rfl
 i4:=by kernel_rfl
 i5:=by kernel_rfl
 i9:=by kernel_rfl
 i20:=by kernel_rfl
 i21:=by kernel_rfl
 i37:=by kernel_rfl
 i46:=by kernel_rfl
 i51:=by kernel_rfl
 i53:=by kernel_rfl
 i75:=by kernel_rfl
 i80:=by kernel_rfl
 i85:=by kernel_rfl
 i127:=by kernel_rfl
 i143:=by kernel_rfl
 i145:=by kernel_rfl
 i167:=by kernel_rfl
 i168:=by kernel_rfl
 i171:=by kernel_rfl
 i173:=by kernel_rfl
 i175:=by kernel_rfl
 i210:=by kernel_rfl
 i212:=by kernel_rfl
 i232:=by kernel_rfl
 i233:=by kernel_rfl
 m15:=by kernel_rfl
 m16:=by kernel_rfl
 m17:=by kernel_rfl
 m18:=by kernel_rfl
 m19:=by kernel_rfl
 c0:=by kernel_rfl
 c2:=by kernel_rfl
 c3:=by kernel_rfl
 c4:=by kernel_rfl
 c5:=by kernel_rfl
 c9:=by kernel_rfl
 c20:=by kernel_rfl
 c21:=by kernel_rfl
 c37:=by kernel_rfl
 c46:=by kernel_rfl
 c51:=by kernel_rfl
 c53:=by kernel_rfl
 c75:=by kernel_rfl
 c80:=by kernel_rfl
 c85:=by kernel_rfl
 c127:=by kernel_rfl
 c143:=by kernel_rfl
 c145:=by kernel_rfl
 c167:=by kernel_rfl
 c168:=by kernel_rfl
 c171:=by kernel_rfl
 c173:=by kernel_rfl
 c175:=by kernel_rfl
 c210:=by kernel_rfl
 c212:=by kernel_rfl
 c213:=by kernel_rfl
 c232:=by kernel_rfl
 c233:=by kernel_rfl}
open Go.RowKit in
theorem Tryz.strconv_ParseInt_10_at64_ok (s:ByteArray) (hmax:s.size≤9223372036854775806) (v:Int) (h:Lib.parseIntB 64 s.data.toList=.ok v) (w:World):
 Calls Tryz.prog 191 #[.string s,.int .i64 10,.int .i64 64] w fun e w'=>e=.returned (.tuple #[.int .i64 v,.nilIface])∧(w'=w∨∃t,w'=Lib.bytesWorld w 5 t):=Any.strconv_ParseInt_10_at64_ok Tryz.laysC174 s hmax v h w
open Go.RowKit in
theorem Tryz.strconv_ParseInt_10_at64_syntax (s:ByteArray) (hlim:s.size≤281474976710656) (h:Lib.parseIntB 64 s.data.toList=Lib.NumEnd.syntax) (ev:Value) (w:World) (hv:w.cell? ⟨7,0,none⟩=some ev) (hev:ev=.nilIface∨∃te pe,ev=.iface te pe):
 Calls Tryz.prog 191 #[.string s,.int .i64 10,.int .i64 64] w fun e w'=>∃N,e=.returned (.tuple #[.int .i64 (0),.iface 338 (.pointer (some ⟨N,0,none⟩))])∧w.heap.size≤N∧w'.heap[N]?=some (.cells #[.string ⟨#[80,97,114,115,101,73,110,116]⟩,.string s,ev] 369 (0,0))∧Below w.heap.size w w':=Any.strconv_ParseInt_10_at64_syntax Tryz.laysC174 s hlim h ev w hv hev
open Go.RowKit in
theorem Tryz.strconv_ParseInt_10_at64_range (s:ByteArray) (hlim:s.size≤281474976710656) (h:Lib.parseIntB 64 s.data.toList=.range) (ev:Value) (w:World) (hv:w.cell? ⟨8,0,none⟩=some ev) (hev:ev=.nilIface∨∃te pe,ev=.iface te pe):
 Calls Tryz.prog 191 #[.string s,.int .i64 10,.int .i64 64] w fun e w'=>∃N,e=.returned (.tuple #[.int .i64 (Lib.intSat 64 s.data.toList),.iface 338 (.pointer (some ⟨N,0,none⟩))])∧w.heap.size≤N∧w'.heap[N]?=some (.cells #[.string ⟨#[80,97,114,115,101,73,110,116]⟩,.string s,ev] 369 (0,0))∧Below w.heap.size w w':=Any.strconv_ParseInt_10_at64_range Tryz.laysC174 s hlim h ev w hv hev
def Tryz.laysGw15_ren:Go.Shelf.Ren:=⟨fun|15=>189|20=>263|n=>n,fun|9=>9|23=>229|3=>3|4=>4|0=>0|21=>21|n=>n,fun|n=>n⟩
theorem Tryz.laysGw15:Go.Proofs.LaysGw.n15 Tryz.prog Tryz.laysGw15_ren:={
 mixed:=by kernel_rfl
 f15:=Tryz.func189.trans (congrArg some (by kernel_rfl))
 f20:=Tryz.func263.trans (congrArg some (by kernel_rfl))
 t0:=Tryz.underlying0
 a0:=Tryz.isAgg0
 z0:=Tryz.sizeOf0
 v0:=Tryz.zeroValue0
 i0:=by kernel_rfl
 t3:=Tryz.underlying3
 a3:=Tryz.isAgg3
 z3:=Tryz.sizeOf3
 v3:=Tryz.zeroValue3
 i3:=by kernel_rfl
 t4:=Tryz.underlying4
 a4:=Tryz.isAgg4
 z4:=Tryz.sizeOf4
 v4:=Tryz.zeroValue4
 i4:=by kernel_rfl
 t9:=Tryz.underlying9
 a9:=Tryz.isAgg9
 z9:=Tryz.sizeOf9
 v9:=Tryz.zeroValue9
 i9:=by kernel_rfl
 t21:=Tryz.underlying21
 a21:=Tryz.isAgg21
 z21:=Tryz.sizeOf21
 v21:=Tryz.zeroValue21
 i21:=by kernel_rfl
 t23:=Tryz.underlying229
 a23:=Tryz.isAgg229
 z23:=Tryz.sizeOf229
 v23:=Tryz.zeroValue229
 i23:=by kernel_rfl}
open Go.RowKit Go.Lib in
theorem Tryz.strings_IndexFunc (g:Nat) (lb:Array Value) (eg:∀args w,(callFunc g args).run Tryz.prog w=.ok (.enter g args) w) (p:Nat→Bool) (s:ByteArray) (w:World) (hp:PredAt Tryz.prog g lb encR p w):
 Calls Tryz.prog 189 #[.string s,.func (.func g) #[] lb] w fun e w'=>e=.returned (.int .i64 (Lib.idxFunc p true s))∧Below w.heap.size w w':=Any.strings_IndexFunc Tryz.laysGw15 g lb eg p s w hp
end Go.Proofs
namespace Go.Proofs
open Go.Shelf
open Go.RowKit Go.Lib in
theorem Tryz.notDig (w:World):PredAt Tryz.prog 190 #[] encR Nice.notDig w:=fun W r _=>by
 unfold FnGives;by_cases h1:r<48<;>by_cases h2:57<r
 all_goals
  have z1:(r:Int)<(48:Int)↔r<48:=by omega
  have z2:(57:Int)<(r:Int)↔57<r:=by omega
  go_enter Tryz.func190,Tryz.ntmps115
  go_wp2
  all_goals first|(exfalso;omega)|(go_ret;exact⟨by simp[Nice.notDig,h1,h2],0,rfl⟩)
end Go.Proofs
namespace Go.Proofs.YtldllfocpadkeaaGreatDoor
open Go Go.Eng Nice Go.RowKit
set_option maxRecDepth 1000000
theorem parse_c:PC 191 parseS:=pc_mk fun fz w args x hgl hr hp=>by
 obtain⟨s,b,c,⟨⟩⟩:=x;simp only[parseS,Bool.and_eq_true,decide_eq_true_eq] at hp;obtain⟨hl,rfl,rfl⟩:=hp;have hl:s.length≤140737488355328:=of_decide_eq_true hl;obtain⟨_,_,e1,h1,hr1⟩:=rd_cons rfl hr;obtain⟨_,_,rfl,h2,hr2⟩:=rd_cons rfl hr1;obtain⟨_,r3,rfl,h3,hr3⟩:=rd_cons rfl hr2;obtain rfl:r3=[]:=hr3;cases h1;cases h2;cases h3
 have ha:args=#[.string (bs s),.int .i64 10,.int .i64 64]:=Array.toList_inj.1 e1;subst ha;have fin:∀(n:Int) (ev:Value) (b:Bool) (w':World),isE b ev=true→Same w w'→intN s=(n,b)→∃vs,Ending.returned (.tuple #[.int .i64 n,ev])=.returned (resV vs)∧RdAll fz parseS.rs (parseS.g (s,10,64,())) vs∧Same w w':=by
  intro n ev b w' he hs hn;refine⟨[.int .i64 n,ev],rfl,⟨_,_,rfl,.inr ⟨rfl,?_⟩,_,_,rfl,.inr ⟨rfl,?_⟩,rfl⟩,hs⟩
  ·show [Value.int .i64 n]=[Value.int .i64 (intN s).1];rw[hn]
  ·exact⟨ev,rfl,by show isE (intN s).2 ev=true;rw[hn];exact he⟩
 have hb:∀(p:Nat),(p,[er false])∈glC→∃u,w.cell? ⟨p,0,none⟩=some u∧(u=.nilIface∨∃te pe,u=.iface te pe):=fun p hm=>by
  obtain⟨u,hu,hg⟩:=hgl.1 _ hm 0 (er false) rfl;exact⟨u,hu,glE hg⟩
 rcases h:Lib.parseIntB 64 s with v|_|_
 ·refine(Tryz.strconv_ParseInt_10_at64_ok (bs s) (by rw[bs_len];omega) v (by rw[bs_data];exact h) w).mono ?_;rintro e w' ⟨rfl,hw⟩;refine fin v .nilIface true w' rfl ?_ (by unfold intN;rw[h]);rcases hw with rfl|⟨t,rfl⟩
  ·exact same_of (Below.refl _ _)
  ·exact same_of (Lib.bytesWorld_below _ _ _)
 ·obtain⟨u,hu,hi⟩:=hb 7 (by simp[glC]);refine(Tryz.strconv_ParseInt_10_at64_syntax (bs s) (by rw[bs_len];omega) (by rw[bs_data];exact h) u w hu hi).mono ?_;rintro e w' ⟨N,rfl,_,_,hbl⟩;exact fin 0 _ false w' rfl (same_of hbl) (by unfold intN;rw[h])
 ·obtain⟨u,hu,hi⟩:=hb 8 (by simp[glC]);refine(Tryz.strconv_ParseInt_10_at64_range (bs s) (by rw[bs_len];omega) (by rw[bs_data];exact h) u w hu hi).mono ?_;rintro e w' ⟨N,rfl,_,_,hbl⟩;rw[bs_data];exact fin _ _ false w' rfl (same_of hbl) (by unfold intN;rw[h])
theorem idxF_c:PC 189 (idxFS 190):=pc_mk fun fz w args x hgl hr hp=>by
 obtain⟨s,u,⟨⟩⟩:=x;obtain⟨_,_,e1,h1,hr1⟩:=rd_cons rfl hr;obtain⟨_,r2,rfl,h2,hr2⟩:=rd_cons rfl hr1;obtain rfl:r2=[]:=hr2;cases h1;cases h2;have ha:args=#[.string (bs s),.func (.func 190) #[] #[]]:=Array.toList_inj.1 e1;subst ha;refine(Tryz.strings_IndexFunc 190 #[] (enters_of Tryz.func190 (by kernel_rfl) rfl) notDig (bs s) w (Tryz.notDig w)).mono ?_
 rintro e w' ⟨rfl,hb⟩;exact⟨[_],rfl,⟨_,_,rfl,.inr ⟨rfl,rfl⟩,rfl⟩,same_of hb⟩
end Go.Proofs.YtldllfocpadkeaaGreatDoor
namespace Go.Proofs.YtldllfocpadkeaaGreatDoor
open Go Go.Eng Nice
set_option maxRecDepth 1000000
theorem no_c (f:FuncId) (ts rs:List Ty):PC f (noS ts rs):=fun fz w args x _ _ _ h=>by cases h
theorem keyCh_c:PC 188 keyChS:=(pureO (envS_ok (l:=[]) trivial) gl_ne Tryz.func188 (by kernel_rfl) (by decide)).nice fun⟨c,()⟩ _=>keyCh_n c
theorem dKey_c:PC 135 isKeyS:=(pureO (envS_ok (l:=[(188,keyChS)]) ⟨keyCh_c,trivial⟩) gl_ne Tryz.func135 (by kernel_rfl) (by decide)).nice fun⟨s,()⟩ h=>dKey_n s h
theorem rKey_c:PC 74 isKeyS:=(pureO (envS_ok (l:=[]) trivial) gl_ne Tryz.func74 (by kernel_rfl) (by decide)).nice fun⟨s,()⟩ h=>rKey_n s h
theorem anum_c:PC 136 numS:=(pureO (envS_ok (l:=[(189,idxFS 190),(191,parseS)]) ⟨idxF_c,parse_c,trivial⟩) gl_ne Tryz.func136 (by kernel_rfl) (by decide)).nice fun⟨s,a,b,c,()⟩ h=>anum_n s a b c h
theorem hp_c:PC 131 hasPreS:=(pureO (envS_ok (l:=[]) trivial) gl_ne Tryz.func131 (by kernel_rfl) (by decide)).nice fun⟨s,p,()⟩ _=>hp_n s p
theorem cp_c:PC 194 cutPreS:=(pureO (envS_ok (l:=[(131,hasPreS)]) ⟨hp_c,trivial⟩) gl_ne Tryz.func194 (by kernel_rfl) (by decide)).nice fun⟨s,p,()⟩ _=>cp_n s p
theorem digs_c:PC 105 digsS:=(pureO (envS_ok (l:=[]) trivial) gl_ne Tryz.func105 (by kernel_rfl) (by decide)).nice fun⟨u,()⟩ h=>rdigits_n u h
theorem digits_c:PC 61 digitsS:=(pureO (envS_ok (l:=[(105,digsS)]) ⟨digs_c,trivial⟩) gl_ne Tryz.func61 (by kernel_rfl) (by decide)).nice fun⟨n,()⟩ h=>rDigits_n n h
end Go.Proofs.YtldllfocpadkeaaGreatDoor
namespace Go.Proofs
open Go.Shelf
def Tryz.lays145_ren:Go.Shelf.Ren:=⟨fun|145=>133|220=>186|219=>262|217=>309|225=>310|224=>311|267=>312|266=>337|314=>338|n=>n,fun|9=>9|4=>4|59=>172|3=>3|5=>5|46=>262|146=>371|51=>259|n=>n,fun|1=>1|n=>n⟩
theorem Tryz.lays145:Go.Proofs.Lays.n145 Tryz.prog Tryz.lays145_ren:={
 mixed:=by kernel_rfl
 f145:=Tryz.func133.trans (congrArg some (by kernel_rfl))
 f217:=Tryz.func309.trans (congrArg some (by kernel_rfl))
 f219:=Tryz.func262.trans (congrArg some (by kernel_rfl))
 f220:=Tryz.func186.trans (congrArg some (by kernel_rfl))
 f224:=Tryz.func311.trans (congrArg some (by kernel_rfl))
 f225:=Tryz.func310.trans (congrArg some (by kernel_rfl))
 f266:=Tryz.func337.trans (congrArg some (by kernel_rfl))
 f267:=Tryz.func312.trans (congrArg some (by kernel_rfl))
 f314:=Tryz.func338.trans (congrArg some (by kernel_rfl))
 t3:=Tryz.underlying3
 a3:=Tryz.isAgg3
 z3:=Tryz.sizeOf3
 v3:=Tryz.zeroValue3
 t4:=Tryz.underlying4
 a4:=Tryz.isAgg4
 z4:=Tryz.sizeOf4
 v4:=Tryz.zeroValue4
 t5:=Tryz.underlying5
 a5:=Tryz.isAgg5
 z5:=Tryz.sizeOf5
 v5:=Tryz.zeroValue5
 t9:=Tryz.underlying9
 a9:=Tryz.isAgg9
 z9:=Tryz.sizeOf9
 v9:=Tryz.zeroValue9
 t46:=Tryz.underlying262
 a46:=Tryz.isAgg262
 z46:=Tryz.sizeOf262
 v46:=Tryz.zeroValue262
 t51:=Tryz.underlying259
 a51:=Tryz.isAgg259
 z51:=Tryz.sizeOf259
 v51:=Tryz.zeroValue259
 t59:=Tryz.underlying172
 a59:=Tryz.isAgg172
 z59:=Tryz.sizeOf172
 v59:=Tryz.zeroValue172
 t146:=Tryz.underlying371
 a146:=Tryz.isAgg371
 z146:=Tryz.sizeOf371
 v146:=Tryz.zeroValue371
 g1:=by kernel_rfl}
open Go.RowKit Go.Lib in
theorem Tryz.strings_Cut (s sep:ByteArray) (m:Int) (w:World) (hs:s.size<4294967281) (hm:w.cell? ⟨1,0,none⟩=some (.int .i64 m)):
 Calls Tryz.prog 133 #[.string s,.string sep] w fun e w'=>e=.returned (.tuple #[.string ⟨(Lib.cut s.data.toList sep.data.toList).1.toArray⟩,.string ⟨(Lib.cut s.data.toList sep.data.toList).2.1.toArray⟩,.bool (Lib.cut s.data.toList sep.data.toList).2.2])∧∃n,w'=w.drewN n:=Any.strings_Cut Tryz.lays145 s sep m w hs hm
def Tryz.lays146_ren:Go.Shelf.Ren:=⟨fun|146=>132|221=>185|268=>259|138=>260|143=>261|195=>307|197=>212|218=>308|219=>262|260=>277|217=>309|225=>310|224=>311|267=>312|266=>337|314=>338|n=>n,fun|9=>9|31=>33|3=>3|4=>4|0=>0|105=>253|21=>21|5=>5|46=>262|119=>352|139=>355|138=>354|146=>371|51=>259|n=>n,fun|1=>1|3=>3|4=>4|n=>n⟩
theorem Tryz.lays146:Go.Proofs.Lays.n146 Tryz.prog Tryz.lays146_ren:={
 mixed:=by kernel_rfl
 f138:=Tryz.func260.trans (congrArg some (by kernel_rfl))
 f143:=Tryz.func261.trans (congrArg some (by kernel_rfl))
 f146:=Tryz.func132.trans (congrArg some (by kernel_rfl))
 f195:=Tryz.func307.trans (congrArg some (by kernel_rfl))
 f197:=Tryz.func212.trans (congrArg some (by kernel_rfl))
 f217:=Tryz.func309.trans (congrArg some (by kernel_rfl))
 f218:=Tryz.func308.trans (congrArg some (by kernel_rfl))
 f219:=Tryz.func262.trans (congrArg some (by kernel_rfl))
 f221:=Tryz.func185.trans (congrArg some (by kernel_rfl))
 f224:=Tryz.func311.trans (congrArg some (by kernel_rfl))
 f225:=Tryz.func310.trans (congrArg some (by kernel_rfl))
 f260:=Tryz.func277.trans (congrArg some (by kernel_rfl))
 f266:=Tryz.func337.trans (congrArg some (by kernel_rfl))
 f267:=Tryz.func312.trans (congrArg some (by kernel_rfl))
 f268:=Tryz.func259.trans (congrArg some (by kernel_rfl))
 f314:=Tryz.func338.trans (congrArg some (by kernel_rfl))
 t0:=Tryz.underlying0
 a0:=Tryz.isAgg0
 z0:=Tryz.sizeOf0
 v0:=Tryz.zeroValue0
 t3:=Tryz.underlying3
 a3:=Tryz.isAgg3
 z3:=Tryz.sizeOf3
 v3:=Tryz.zeroValue3
 t4:=Tryz.underlying4
 a4:=Tryz.isAgg4
 z4:=Tryz.sizeOf4
 v4:=Tryz.zeroValue4
 t5:=Tryz.underlying5
 a5:=Tryz.isAgg5
 z5:=Tryz.sizeOf5
 v5:=Tryz.zeroValue5
 t9:=Tryz.underlying9
 a9:=Tryz.isAgg9
 z9:=Tryz.sizeOf9
 v9:=Tryz.zeroValue9
 t21:=Tryz.underlying21
 a21:=Tryz.isAgg21
 z21:=Tryz.sizeOf21
 v21:=Tryz.zeroValue21
 t31:=Tryz.underlying33
 a31:=Tryz.isAgg33
 z31:=Tryz.sizeOf33
 v31:=Tryz.zeroValue33
 t46:=Tryz.underlying262
 a46:=Tryz.isAgg262
 z46:=Tryz.sizeOf262
 v46:=Tryz.zeroValue262
 t51:=Tryz.underlying259
 a51:=Tryz.isAgg259
 z51:=Tryz.sizeOf259
 v51:=Tryz.zeroValue259
 t105:=Tryz.underlying253
 a105:=Tryz.isAgg253
 z105:=Tryz.sizeOf253
 v105:=Tryz.zeroValue253
 t119:=Tryz.underlying352
 a119:=Tryz.isAgg352
 z119:=Tryz.sizeOf352
 t138:=Tryz.underlying354
 a138:=Tryz.isAgg354
 z138:=Tryz.sizeOf354
 v138:=Tryz.zeroValue354
 t139:=Tryz.underlying355
 a139:=Tryz.isAgg355
 z139:=Tryz.sizeOf355
 v139:=Tryz.zeroValue355
 t146:=Tryz.underlying371
 a146:=Tryz.isAgg371
 z146:=Tryz.sizeOf371
 v146:=Tryz.zeroValue371
 g1:=by kernel_rfl
 g3:=by kernel_rfl
 g4:=by kernel_rfl}
open Go.RowKit Go.Lib in
theorem Tryz.strings_Split (s sep:ByteArray) (m:Int) (w:World) (hs:s.size<4294967281) (hm:w.cell? ⟨1,0,none⟩=some (.int .i64 m)) (h1:1≤sep.size):
 Calls Tryz.prog 132 #[.string s,.string sep] w fun e w'=>
  e=.returned (.slice (some ⟨w.heap.size,0,none⟩) (Lib.countB s sep+1) (Lib.countB s sep+1))∧w'=w.alloc (.cells ((Lib.splitB sep 0 (Lib.countB s sep) s).map Value.string).toArray 9):=Any.strings_Split Tryz.lays146 (by kernel_rfl) s sep m w hs hm h1
end Go.Proofs
namespace Go.Proofs.YtldllfocpadkeaaGreatDoor
open Go Go.Eng Nice Go.RowKit
set_option maxRecDepth 1000000
theorem rd_cons' {fz:Nat→Option (Array Value)} {t:Ty} {ts:List Ty} {x:DenL (t::ts)} {l:List Value} (ht:t.agg=false) (h:RdAll fz (t::ts) x l):∃v r,l=v::r∧RdC fz t x.1 [v]∧RdAll fz ts x.2 r:=by
 obtain⟨v,r,e,hv,hr⟩:=h;rcases hv with⟨h,_⟩|⟨_,hv⟩
 ·rw[ht] at h;cases h
 ·exact⟨v,r,e,hv,hr⟩
theorem glMax {w:World} (hgl:GlW glC w):∃m,w.cell? ⟨1,0,none⟩=some (.int .i64 m):=by
 obtain⟨u,hu,hg⟩:=hgl.1 (1,[ai .i64]) (by simp[glC]) 0 (ai .i64) rfl;rcases hg with⟨hp,_⟩|⟨b,he,_⟩|⟨k,m,he,h2⟩
 ·cases hp
 ·cases he
 ·cases he;exact⟨m,by rw[hu,h2]⟩
theorem cutE_c:PC 133 cutES:=pc_mk fun fz w args x hgl hr hp=>by
 obtain⟨s,p,⟨⟩⟩:=x;simp only[cutES,Bool.and_eq_true,beq_iff_eq] at hp;obtain⟨hl,rfl⟩:=hp;have hl:s.length<4294967281:=of_decide_eq_true hl;obtain⟨_,_,e1,h1,hr1⟩:=rd_cons' rfl hr;obtain⟨_,r3,rfl,h2,hr2⟩:=rd_cons' rfl hr1;obtain rfl:r3=[]:=hr2;cases h1;cases h2;have ha:args=#[.string (bs s),.string (bs [61])]:=Array.toList_inj.1 e1
 subst ha;obtain⟨m,hm⟩:=glMax hgl;refine(Tryz.strings_Cut (bs s) (bs [61]) m w (by rw[bs_len];exact hl) hm).mono ?_;rintro e w' ⟨rfl,n,rfl⟩;rw[bs_data,bs_data];exact⟨[.string (bs (Lib.cut s [61]).1),.string (bs (Lib.cut s [61]).2.1),.bool (Lib.cut s [61]).2.2],rfl,⟨_,_,rfl,.inr ⟨rfl,rfl⟩,_,_,rfl,.inr ⟨rfl,rfl⟩,_,_,rfl,.inr ⟨rfl,rfl⟩,rfl⟩,⟨Nat.le_refl _,rfl,rfl,fun _ _=>rfl⟩⟩
theorem split_c:PC 132 splitS:=by
 intro fz w args x hfz hgl hr hp;obtain⟨s,p,⟨⟩⟩:=x;simp only[splitS,Bool.and_eq_true,beq_iff_eq] at hp;obtain⟨hl,rfl⟩:=hp;have hl:s.length<4294967281:=of_decide_eq_true hl;obtain⟨_,_,e1,h1,hr1⟩:=rd_cons' rfl hr;obtain⟨_,r3,rfl,h2,hr2⟩:=rd_cons' rfl hr1;obtain rfl:r3=[]:=hr2;cases h1;cases h2;have ha:args=#[.string (bs s),.string (bs [38])]:=Array.toList_inj.1 e1
 subst ha;obtain⟨m,hm⟩:=glMax hgl;refine(Tryz.strings_Split (bs s) (bs [38]) m w (by rw[bs_len];exact hl) hm (Nat.le_refl 1)).mono ?_;rintro e w' ⟨rfl,rfl⟩;have hd:=Lib.splitB_data (bs [38]) 0 (Lib.countB (bs s) (bs [38])) (bs s);have hn:=Lib.splitB_all (bs [38]) (Nat.le_refl 1) 0 (Lib.countB (bs s) (bs [38])) (bs s) rfl
 have hS:(Lib.splitB (bs [38]) 0 (Lib.countB (bs s) (bs [38])) (bs s)).map (·.data.toList)=splitN s:=hd;generalize Lib.splitB (bs [38]) 0 (Lib.countB (bs s) (bs [38])) (bs s)=L at hn hS;generalize Lib.countB (bs s) (bs [38])=k at hn;have hlen:(splitN s).length=k+1:=by rw[←hS,List.length_map];exact hn
 have hlt:∀b c,fz b=some c→b<w.heap.size:=fun b c hb=>by
  obtain⟨e,fr,h⟩:=hfz b c hb;exact(Array.getElem?_eq_some_iff.1 h).1
 have hold:∀b,b<w.heap.size→(w.alloc (.cells (L.map Value.string).toArray 9)).heap[b]?=w.heap[b]?:=fun b hb=>by
  show(w.heap.push _)[b]?=_;rw[Array.getElem?_push,if_neg (by omega)]
 refine⟨[.slice (some ⟨w.heap.size,0,none⟩) (k+1) (k+1)],fun b=>if b=w.heap.size then some (L.map Value.string).toArray else fz b,rfl,fun b c h=> ?_,fun b c h=> ?_,fun b c h=> ?_,?_,?_⟩
 ·have:=hlt b c h;simp only[if_neg (by omega:¬b=w.heap.size)];exact h
 ·by_cases hb:b=w.heap.size
  ·subst hb;simp only[if_true,Option.some.injEq] at h;subst h;exact⟨_,_,by show(w.heap.push _)[w.heap.size]?=_;rw[Array.getElem?_push,if_pos rfl]⟩
  ·simp only[if_neg hb] at h;obtain⟨e,fr,h'⟩:=hfz b c h;exact⟨e,fr,by rw[hold b (hlt b c h)];exact h'⟩
 ·by_cases hb:b=w.heap.size
  ·exact .inr (by omega)
  ·simp only[if_neg hb] at h;exact .inl h
 ·refine⟨_,_,rfl,.inr ⟨rfl,_,rfl,.inr ⟨w.heap.size,0,k+1,(L.map Value.string).toArray,?_,by simp,?_,?_,?_⟩⟩,rfl⟩
  ·show _=Value.slice _ (splitN s).length _;rw[hlen]
  ·show 0+(splitN s).length*1≤_;rw[hlen];simp;omega
  ·show(splitN s).length≤_;rw[hlen];exact Nat.le_refl _
  ·intro i x hx;have hx:(splitN s)[i]?=some x:=hx;rw[←hS,List.getElem?_map] at hx;obtain⟨y,hy,rfl⟩:=Option.map_eq_some_iff.1 hx;show((L.map Value.string).toArray.toList.drop (0+i*1)).take 1=[.string (bs y.data.toList)];have:(L.map Value.string)[i]?=some (.string y):=by rw[List.getElem?_map,hy];rfl
   rw[show 0+i*1=i by omega];show((L.map Value.string).drop i).take 1=_;obtain⟨hi,e⟩:=List.getElem?_eq_some_iff.1 this;rw[List.drop_eq_getElem_cons hi,e];have:bs y.data.toList=y:=bs_toL y;rw[this];rfl
 ·exact⟨by show w.heap.size≤(w.heap.push _).size;simp,rfl,rfl,hold⟩
end Go.Proofs.YtldllfocpadkeaaGreatDoor
namespace Nice
open Go Go.Eng
theorem m00:(getW==getW)=true:=by decide
theorem m01:(getW==headW)=false:=by decide
theorem m02:(getW==putW)=false:=by decide
theorem m03:(getW==delW)=false:=by decide
theorem m10:(headW==getW)=false:=by decide
theorem m11:(headW==headW)=true:=by decide
theorem m12:(headW==putW)=false:=by decide
theorem m13:(headW==delW)=false:=by decide
theorem m20:(putW==getW)=false:=by decide
theorem m21:(putW==headW)=false:=by decide
theorem m22:(putW==putW)=true:=by decide
theorem m23:(putW==delW)=false:=by decide
theorem m30:(delW==getW)=false:=by decide
theorem m31:(delW==headW)=false:=by decide
theorem m32:(delW==putW)=false:=by decide
theorem m33:(delW==delW)=true:=by decide
theorem hasPre_len {p w:List UInt8} (h:hasPre p w=true):w.length≤p.length:=by
 unfold hasPre at h;rw[Bool.and_eq_true,decide_eq_true_eq] at h;exact h.1
theorem ofP_all {m p q:List UInt8} {hs:HeadL} {b:List UInt8} (h:ofP (m,p,q,hs,b,())=true):condsP hs=true∧shortS q=true∧bndS q=true∧bndS (p.drop 3)=true∧p.length≤140737488355328:=by
 unfold ofP at h;rw[Bool.and_eq_true,Bool.and_eq_true] at h;obtain⟨h1,h2,h3⟩:=h;have h3:p.length≤140737488355328:=of_decide_eq_true h3;have h4:q.length<4294967281:=of_decide_eq_true h2;exact⟨h1,h2,decide_eq_true (by omega),decide_eq_true (by rw[List.length_drop];omega),h3⟩
end Nice
namespace Go.Proofs.YtldllfocpadkeaaGreatDoor
open Go Go.Eng Nice
set_option maxRecDepth 100000
theorem aOfGet_n (p q:List UInt8) (hs:HeadL) (b:List UInt8) (h:ofP (getW,p,q,hs,b,())=true):oaOfGet ((getW,p,q,hs,b,()),())=some ((ofN (getW,p,q,hs,b,())).1,(ofN (getW,p,q,hs,b,())).2,()):=by
 obtain⟨hc,hq,hqb,hk,hp⟩:=ofP_all h;have hall:(condsP hs&&(bndS q&&bndS (p.drop 3)))=true:=by rw[hc,hqb,hk];rfl
 rw[oaOfGet_g,eaOfGet_g];unfold ofN listOut keyOut;simp only[m00,m01,m02,m03,Bool.or_true,Bool.true_or,Bool.or_false,Bool.false_or,kT,kF];have e1:bAsk false=((0:Int),[],(0:Int),[],(0:Int),[],[],[],(0:Int),false,()):=rfl;have e2:kAsk (p.drop 3) false=((0:Int),p.drop 3,(0:Int),[],(0:Int),[],[],[],(0:Int),false,()):=rfl
 have e3:zAsk=((0:Int),[],(0:Int),[],(0:Int),[],[],[],(0:Int),false,()):=rfl;simp only[e1,e2,e3];cases p==oW
 ·cases p==ooW
  ·simp only[kF,Bool.or_false];cases h3:hasPre p ooW
   ·simp only[Bool.not_false,kT,kF]
   ·have hl:3≤p.length:=hasPre_len h3;simp only[Bool.not_true,kT,kF];rw[gdT (by omega),kG];cases(keyedG ((0:Int),p.drop 3,(0:Int),[],(0:Int),[],[],[],(0:Int),false,()) getW q hs b).2<;>cases b==[]<;>simp only[kT,kF,Bool.not_true,Bool.not_false,Bool.and_true,Bool.and_false]<;>rw[gdB hall,kG]
  ·simp only[kT,kF,Bool.or_true];cases(listedN ((0:Int),[],(0:Int),[],(0:Int),[],[],[],(0:Int),false,()) q).2<;>cases b==[]<;>simp only[kT,kF,Bool.not_true,Bool.not_false,Bool.and_true,Bool.and_false]<;>rw[gdB hq,kG]
 ·simp only[kT,kF,Bool.true_or];cases(listedN ((0:Int),[],(0:Int),[],(0:Int),[],[],[],(0:Int),false,()) q).2<;>cases b==[]<;>simp only[kT,kF,Bool.not_true,Bool.not_false,Bool.and_true,Bool.and_false]<;>rw[gdB hq,kG]
theorem aOfHead_n (p q:List UInt8) (hs:HeadL) (b:List UInt8) (h:ofP (headW,p,q,hs,b,())=true):oaOfHead ((headW,p,q,hs,b,()),())=some ((ofN (headW,p,q,hs,b,())).1,(ofN (headW,p,q,hs,b,())).2,()):=by
 obtain⟨hc,hq,hqb,hk,hp⟩:=ofP_all h;have hall:(condsP hs&&(bndS q&&bndS (p.drop 3)))=true:=by rw[hc,hqb,hk];rfl
 rw[oaOfHead_g,eaOfHead_g];unfold ofN listOut keyOut;simp only[m10,m11,m12,m13,Bool.or_true,Bool.true_or,Bool.or_false,Bool.false_or,kT,kF];have e1:bAsk true=((0:Int),[],(0:Int),[],(0:Int),[],[],[],(0:Int),true,()):=rfl;have e2:kAsk (p.drop 3) true=((0:Int),p.drop 3,(0:Int),[],(0:Int),[],[],[],(0:Int),true,()):=rfl
 have e3:zAsk=((0:Int),[],(0:Int),[],(0:Int),[],[],[],(0:Int),false,()):=rfl;simp only[e1,e2,e3];cases p==oW
 ·cases p==ooW
  ·simp only[kF,Bool.or_false];cases h3:hasPre p ooW
   ·simp only[Bool.not_false,kT,kF]
   ·have hl:3≤p.length:=hasPre_len h3;simp only[Bool.not_true,kT,kF];rw[gdT (by omega),kG];cases(keyedG ((0:Int),p.drop 3,(0:Int),[],(0:Int),[],[],[],(0:Int),true,()) headW q hs b).2<;>cases b==[]<;>simp only[kT,kF,Bool.not_true,Bool.not_false,Bool.and_true,Bool.and_false]<;>rw[gdB hall,kG]
  ·simp only[kT,kF,Bool.or_true];cases(listedN ((0:Int),[],(0:Int),[],(0:Int),[],[],[],(0:Int),true,()) q).2<;>cases b==[]<;>simp only[kT,kF,Bool.not_true,Bool.not_false,Bool.and_true,Bool.and_false]<;>rw[gdB hq,kG]
 ·simp only[kT,kF,Bool.true_or];cases(listedN ((0:Int),[],(0:Int),[],(0:Int),[],[],[],(0:Int),true,()) q).2<;>cases b==[]<;>simp only[kT,kF,Bool.not_true,Bool.not_false,Bool.and_true,Bool.and_false]<;>rw[gdB hq,kG]
theorem aOfPut_n (p q:List UInt8) (hs:HeadL) (b:List UInt8) (h:ofP (putW,p,q,hs,b,())=true):oaOfPut ((putW,p,q,hs,b,()),())=some ((ofN (putW,p,q,hs,b,())).1,(ofN (putW,p,q,hs,b,())).2,()):=by
 obtain⟨hc,hq,hqb,hk,hp⟩:=ofP_all h;have hall:(condsP hs&&(bndS q&&bndS (p.drop 3)))=true:=by rw[hc,hqb,hk];rfl
 rw[oaOfPut_g,eaOfPut_g];unfold ofN listOut keyOut;simp only[m20,m21,m22,m23,Bool.or_true,Bool.true_or,Bool.or_false,Bool.false_or,kT,kF];have e1:bAsk false=((0:Int),[],(0:Int),[],(0:Int),[],[],[],(0:Int),false,()):=rfl;have e2:kAsk (p.drop 3) false=((0:Int),p.drop 3,(0:Int),[],(0:Int),[],[],[],(0:Int),false,()):=rfl
 have e3:zAsk=((0:Int),[],(0:Int),[],(0:Int),[],[],[],(0:Int),false,()):=rfl;simp only[e1,e2,e3];cases p==oW
 ·cases p==ooW
  ·simp only[kF,Bool.or_false];cases h3:hasPre p ooW
   ·simp only[Bool.not_false,kT,kF]
   ·have hl:3≤p.length:=hasPre_len h3;simp only[Bool.not_true,kT,kF];rw[gdT (by omega),kG];cases(keyedG ((0:Int),p.drop 3,(0:Int),[],(0:Int),[],[],[],(0:Int),false,()) putW q hs b).2<;>cases b==[]<;>simp only[kT,kF,Bool.not_true,Bool.not_false,Bool.and_true,Bool.and_false]<;>rw[gdB hall,kG]
  ·simp only[kT,kF,Bool.or_true]
   skip
 ·simp only[kT,kF,Bool.true_or]
  skip
theorem aOfDel_n (p q:List UInt8) (hs:HeadL) (b:List UInt8) (h:ofP (delW,p,q,hs,b,())=true):oaOfDel ((delW,p,q,hs,b,()),())=some ((ofN (delW,p,q,hs,b,())).1,(ofN (delW,p,q,hs,b,())).2,()):=by
 obtain⟨hc,hq,hqb,hk,hp⟩:=ofP_all h;have hall:(condsP hs&&(bndS q&&bndS (p.drop 3)))=true:=by rw[hc,hqb,hk];rfl
 rw[oaOfDel_g,eaOfDel_g];unfold ofN listOut keyOut;simp only[m30,m31,m32,m33,Bool.or_true,Bool.true_or,Bool.or_false,Bool.false_or,kT,kF];have e1:bAsk false=((0:Int),[],(0:Int),[],(0:Int),[],[],[],(0:Int),false,()):=rfl;have e2:kAsk (p.drop 3) false=((0:Int),p.drop 3,(0:Int),[],(0:Int),[],[],[],(0:Int),false,()):=rfl
 have e3:zAsk=((0:Int),[],(0:Int),[],(0:Int),[],[],[],(0:Int),false,()):=rfl;simp only[e1,e2,e3];cases p==oW
 ·cases p==ooW
  ·simp only[kF,Bool.or_false];cases h3:hasPre p ooW
   ·simp only[Bool.not_false,kT,kF]
   ·have hl:3≤p.length:=hasPre_len h3;simp only[Bool.not_true,kT,kF];rw[gdT (by omega),kG];cases(keyedG ((0:Int),p.drop 3,(0:Int),[],(0:Int),[],[],[],(0:Int),false,()) delW q hs b).2<;>cases b==[]<;>simp only[kT,kF,Bool.not_true,Bool.not_false,Bool.and_true,Bool.and_false]<;>rw[gdB hall,kG]
  ·simp only[kT,kF,Bool.or_true]
   skip
 ·simp only[kT,kF,Bool.true_or]
  skip
theorem aOfO_n (m p q:List UInt8) (hs:HeadL) (b:List UInt8) (h:ofP (m,p,q,hs,b,())=true) (h0:(m==getW)=false) (h1:(m==headW)=false) (h2:(m==putW)=false) (h3:(m==delW)=false):oaOfO ((m,p,q,hs,b,()),())=some ((ofN (m,p,q,hs,b,())).1,(ofN (m,p,q,hs,b,())).2,()):=by
 rw[oaOfO_g,eaOfO_g];unfold ofN;simp only[h0,h1,h2,h3,Bool.or_false,kT,kF,Bool.not_false,Bool.not_true];cases p==oW<;>cases p==ooW<;>simp only[kT,kF,Bool.or_true,Bool.or_false];cases hasPre p ooW<;>simp only[kT,kF,Bool.not_false,Bool.not_true]
end Go.Proofs.YtldllfocpadkeaaGreatDoor
namespace Go.Proofs.YtldllfocpadkeaaGreatDoor
open Go Go.Eng Nice Go.RowKit
set_option maxRecDepth 1000000
theorem arch_run {x:Nat} (h:finW x=true) (w:World):(callFunc 343 #[.float .f64 x]).run Tryz.prog w=.ok (.value (.float .f64 (truncW x))) w:=by
 rw[run_callFunc_extern Tryz.func343 (by kernel_rfl) (by kernel_rfl) (by kernel_rfl) (by kernel_rfl:Extern.find Tryz.f343=some (Extern.MathFloor.toIntegral "math.archTrunc" .zero))];have e:Extern.MathFloor.toIntegral "math.archTrunc" .zero #[.float .f64 x]=Pure.pure (.float .f64 (truncW x)):=by
  show(match FloatKind.f64.decode x with
   | .nan s t=>_
   |d=>_)=_
  unfold finW at h;unfold truncW
  split
  ·rename_i hd;rw[hd] at h;cases h
  ·rfl
 rw[e];rfl
theorem trunc_c:PC 318 archS:=pc_mk fun fz w args x hgl hr hp=>by
 obtain⟨x,⟨⟩⟩:=x;obtain⟨_,r3,e1,h1,hr1⟩:=rd_cons' rfl hr;obtain rfl:r3=[]:=hr1;cases h1;have ha:args=#[.float .f64 x]:=Array.toList_inj.1 e1;subst ha
 go_enter Tryz.func318,Tryz.ntmps318
 go_wp2
 rw[arch_run hp]
 go_wp2
 go_ret
 exact⟨[.float .f64 (truncW x)],rfl,⟨_,_,rfl,.inr ⟨rfl,rfl⟩,rfl⟩,⟨Nat.le_refl _,rfl,rfl,fun _ _=>rfl⟩⟩
theorem whole_c:PC 269 wholeS:=(pureO (envS_ok (l:=[(318,archS)]) ⟨trunc_c,trivial⟩) gl_ne Tryz.func269 (by kernel_rfl) (by decide)).nice fun⟨x,a,b,()⟩ h=>whole_nn x a b h
theorem may_c:PC 201 mayS:=(pureO (envS_ok (l:=[(269,wholeS)]) ⟨whole_c,trivial⟩) gl_ne Tryz.func201 (by kernel_rfl) (by decide)).nice fun⟨z,()⟩ h=>gmay_nn z h
theorem gread_c:PC 193 gReadS:=(pureO (envS_ok (l:=[(201,mayS)]) ⟨may_c,trivial⟩) gl_ne Tryz.func193 (by kernel_rfl) (by decide)).nice fun⟨s,()⟩ _=>gread_n s
theorem hsuf_c:PC 314 hasSufT:=(pureO (envS_ok (l:=[]) trivial) gl_ne Tryz.func314 (by kernel_rfl) (by decide)).nice fun⟨s,p,()⟩ h=>hsuf_n s p h
theorem csuf_c:PC 265 cutSufT:=(pureO (envS_ok (l:=[(314,hasSufT)]) ⟨hsuf_c,trivial⟩) gl_ne Tryz.func265 (by kernel_rfl) (by decide)).nice fun⟨s,p,()⟩ h=>csuf_n s p h
theorem sidx_c:PC 187 idxSS:=(pureO (envS_ok (l:=[]) trivial) gl_ne Tryz.func187 (by kernel_rfl) (by decide)).nice fun⟨l,x,()⟩ h=>sidx_n l x h
theorem shas_c:PC 134 hasSS:=(pureO (envS_ok (l:=[(187,idxSS)]) ⟨sidx_c,trivial⟩) gl_ne Tryz.func134 (by kernel_rfl) (by decide)).nice fun⟨l,x,()⟩ h=>shas_n l x h
theorem aconds_c:PC 137 condsS:=(pureO (envS_ok (l:=[(84,valueS),(194,cutPreS),(265,cutSufT),(193,gReadS)]) ⟨sval_c,cp_c,csuf_c,gread_c,trivial⟩) gl_ne Tryz.func137 (by kernel_rfl) (by decide)).nice fun⟨⟨m,p,q,hs,b,()⟩,()⟩ h=>aconds_n m p q hs b h
theorem akeyed_c:PC 90 keyedGS:=(pureO (envS_ok (l:=[(135,isKeyS),(136,numS),(137,condsS),(194,cutPreS)]) ⟨dKey_c,anum_c,aconds_c,cp_c,trivial⟩) gl_ne Tryz.func90 (by kernel_rfl) (by decide)).nice fun⟨a,⟨m,p,q,hs,b,()⟩,()⟩ h=>akeyed_n a m p q hs b h
theorem listed_c:PC 89 listedS:=(pureO (envS_ok (l:=[(135,isKeyS),(132,splitS),(133,cutES),(134,hasSS),(136,numS)]) ⟨dKey_c,split_c,cutE_c,shas_c,anum_c,trivial⟩) gl_ne Tryz.func89 (by kernel_rfl) (by decide)).nice fun⟨a,q,()⟩ h=>listed_n a q h
theorem pc_cases {f:FuncId} {ts rs:List Ty} {pre:DenL ts→Bool} {g:DenL ts→DenL rs} (h:∀x,pre x=true→∃p',PC f ⟨ts,rs,p',g⟩∧p' x=true):PC f ⟨ts,rs,pre,g⟩:=by
 intro fz w args x a b c d;obtain⟨p',h1,h2⟩:=h x d;exact h1 fz w args x a b c h2
noncomputable def ofM (pm:List UInt8→Bool):PSpec:=⟨[ReqT],[AskT,.int .i64],fun x=>ofP x.1&&pm x.1.1,fun x=>((ofN x.1).1,(ofN x.1).2,())⟩
theorem of_cases {f:FuncId} (h0:PC f (ofM fun m=>m==getW)) (h1:PC f (ofM fun m=>m==headW)) (h2:PC f (ofM fun m=>m==putW)) (h3:PC f (ofM fun m=>m==delW)) (h4:PC f (ofM fun m=> !(m==getW)&&(!(m==headW)&&(!(m==putW)&& !(m==delW))))):PC f ofS:=by
 refine pc_cases (ts:=[ReqT]) (rs:=[AskT,.int .i64]) (pre:=fun x=>ofP x.1) (g:=fun x=>((ofN x.1).1,(ofN x.1).2,())) fun⟨⟨m,p,q,hs,b,()⟩,()⟩ hx=> ?_
 have hx:ofP (m,p,q,hs,b,())=true:=hx;cases c0:m==getW
 ·cases c1:m==headW
  ·cases c2:m==putW
   ·cases c3:m==delW
    ·exact⟨_,h4,by show(ofP (m,p,q,hs,b,())&&(!(m==getW)&&(!(m==headW)&&(!(m==putW)&& !(m==delW)))))=true;rw[hx,c0,c1,c2,c3];rfl⟩
    ·exact⟨_,h3,by show(ofP (m,p,q,hs,b,())&&m==delW)=true;rw[hx,c3];rfl⟩
   ·exact⟨_,h2,by show(ofP (m,p,q,hs,b,())&&m==putW)=true;rw[hx,c2];rfl⟩
  ·exact⟨_,h1,by show(ofP (m,p,q,hs,b,())&&m==headW)=true;rw[hx,c1];rfl⟩
 ·exact⟨_,h0,by show(ofP (m,p,q,hs,b,())&&m==getW)=true;rw[hx,c0];rfl⟩
theorem ofM_inv {m p q:List UInt8} {hs:HeadL} {b:List UInt8} {w:List UInt8} (h:(ofP (m,p,q,hs,b,())&&m==w)=true):m=w∧ofP (w,p,q,hs,b,())=true:=by
 rw[Bool.and_eq_true,beq_iff_eq] at h;obtain⟨h,rfl⟩:=h;exact⟨rfl,h⟩
theorem ofM_oth {m p q:List UInt8} {hs:HeadL} {b:List UInt8} (h:(ofP (m,p,q,hs,b,())&&(!(m==getW)&&(!(m==headW)&&(!(m==putW)&& !(m==delW)))))=true):ofP (m,p,q,hs,b,())=true∧(m==getW)=false∧(m==headW)=false∧(m==putW)=false∧(m==delW)=false:=by
 rw[Bool.and_eq_true,Bool.and_eq_true,Bool.and_eq_true,Bool.and_eq_true,Bool.not_eq_true',Bool.not_eq_true',Bool.not_eq_true',Bool.not_eq_true'] at h;exact⟨h.1,h.2.1,h.2.2.1,h.2.2.2.1,h.2.2.2.2⟩
theorem aOfG_c:PC 47 ofS:=of_cases
 ((pureO (envS_ok (l:=[(131,hasPreS),(89,listedS),(90,keyedGS)]) ⟨hp_c,listed_c,akeyed_c,trivial⟩) gl_ne Tryz.func47 (by kernel_rfl) (by decide)).nice fun⟨⟨m,p,q,hs,b,()⟩,()⟩ h=>by obtain⟨rfl,k⟩:=ofM_inv h;exact aOfGet_n p q hs b k)
 ((pureO (envS_ok (l:=[(131,hasPreS),(89,listedS),(90,keyedGS)]) ⟨hp_c,listed_c,akeyed_c,trivial⟩) gl_ne Tryz.func47 (by kernel_rfl) (by decide)).nice fun⟨⟨m,p,q,hs,b,()⟩,()⟩ h=>by obtain⟨rfl,k⟩:=ofM_inv h;exact aOfHead_n p q hs b k)
 ((pureO (envS_ok (l:=[(131,hasPreS),(89,listedS),(90,keyedGS)]) ⟨hp_c,listed_c,akeyed_c,trivial⟩) gl_ne Tryz.func47 (by kernel_rfl) (by decide)).nice fun⟨⟨m,p,q,hs,b,()⟩,()⟩ h=>by obtain⟨rfl,k⟩:=ofM_inv h;exact aOfPut_n p q hs b k)
 ((pureO (envS_ok (l:=[(131,hasPreS),(89,listedS),(90,keyedGS)]) ⟨hp_c,listed_c,akeyed_c,trivial⟩) gl_ne Tryz.func47 (by kernel_rfl) (by decide)).nice fun⟨⟨m,p,q,hs,b,()⟩,()⟩ h=>by obtain⟨rfl,k⟩:=ofM_inv h;exact aOfDel_n p q hs b k)
 ((pureO (envS_ok (l:=[(131,hasPreS),(89,noS [AskT,.str] [AskT,.bool]),(90,noS [AskT,ReqT] [AskT,.bool])]) ⟨hp_c,no_c _ _ _,no_c _ _ _,trivial⟩) gl_ne Tryz.func47 (by kernel_rfl) (by decide)).nice fun⟨⟨m,p,q,hs,b,()⟩,()⟩ h=>by obtain⟨k,h0,h1,h2,h3⟩:=ofM_oth h;exact aOfO_n m p q hs b k h0 h1 h2 h3)
end Go.Proofs.YtldllfocpadkeaaGreatDoor
namespace Go.Proofs
open Go.Shelf
def Tryz.laysNm216_ren:Go.Shelf.Ren:=⟨fun|16=>205|n=>n,fun|24=>33|9=>9|4=>4|n=>n,fun|n=>n⟩
theorem Tryz.laysNm216:Go.Proofs.Lays2.n16 Tryz.prog Tryz.laysNm216_ren:={
 mixed:=by kernel_rfl
 f16:=Tryz.func205.trans (congrArg some (by kernel_rfl))
 t4:=Tryz.underlying4
 a4:=Tryz.isAgg4
 z4:=Tryz.sizeOf4
 v4:=Tryz.zeroValue4
 t9:=Tryz.underlying9
 a9:=Tryz.isAgg9
 z9:=Tryz.sizeOf9
 v9:=Tryz.zeroValue9
 t24:=Tryz.underlying33
 a24:=Tryz.isAgg33
 z24:=Tryz.sizeOf33
 v24:=Tryz.zeroValue33
 i9:=by kernel_rfl}
open Go.RowKit Go.Lib in
theorem Tryz.slices_Clone_string (b off n c:Nat) (zs:List ByteArray) (w:World) (hz:n≤zs.length) (hbig:n*16≤140737488355328) (hc:∀j,j<zs.length→w.cell? ⟨b,off+j,none⟩=some (.string (zs.getD j ByteArray.empty))):
 Calls Tryz.prog 205 #[.slice (some ⟨b,off,none⟩) n c] w fun e w'=>∃v',e=.returned v'∧w'.ownsRow w.heap.size 9 1 v' n ((zs.take n).map (Value.string))∧v'≠ .slice none 0 0∧Below w.heap.size w w':=Any.slices_Clone_string Tryz.laysNm216 b off n c zs w hz hbig hc
open Go.RowKit Go.Lib in
theorem Tryz.slices_Clone_string_nil (n c:Nat) (w:World):
 Calls Tryz.prog 205 #[.slice none n c] w fun e w'=>e=.returned (.slice none 0 0)∧w'=w:=Any.slices_Clone_string_nil Tryz.laysNm216 n c w
open Go.RowKit Go.Lib in
theorem Tryz.slices_Clone_string_zero (a:Addr) (c:Nat) (w:World):
 Calls Tryz.prog 205 #[.slice (some a) 0 c] w fun e w'=>∃v',e=.returned v'∧w'.ownsRow w.heap.size 9 1 v' 0 []∧v'≠ .slice none 0 0∧Below w.heap.size w w':=Any.slices_Clone_string_zero Tryz.laysNm216 a c w
end Go.Proofs
namespace Go.Proofs
open Go.Shelf
def Tryz.lays156_ren:Go.Shelf.Ren:=⟨fun|156=>127|165=>171|166=>172|169=>173|240=>222|241=>223|276=>282|277=>283|n=>n,fun|31=>33|9=>9|3=>3|4=>4|0=>0|20=>20|72=>206|76=>210|70=>204|37=>78|75=>209|127=>264|164=>318|5=>5|80=>75|n=>n,fun|n=>n⟩
theorem Tryz.lays156:Go.Proofs.Lays.n156 Tryz.prog Tryz.lays156_ren:={
 mixed:=by kernel_rfl
 f156:=Tryz.func127.trans (congrArg some (by kernel_rfl))
 f165:=Tryz.func171.trans (congrArg some (by kernel_rfl))
 f166:=Tryz.func172.trans (congrArg some (by kernel_rfl))
 f169:=Tryz.func173.trans (congrArg some (by kernel_rfl))
 f240:=Tryz.func222.trans (congrArg some (by kernel_rfl))
 f241:=Tryz.func223.trans (congrArg some (by kernel_rfl))
 f276:=Tryz.func282.trans (congrArg some (by kernel_rfl))
 f277:=Tryz.func283.trans (congrArg some (by kernel_rfl))
 t0:=Tryz.underlying0
 a0:=Tryz.isAgg0
 z0:=Tryz.sizeOf0
 v0:=Tryz.zeroValue0
 t3:=Tryz.underlying3
 a3:=Tryz.isAgg3
 z3:=Tryz.sizeOf3
 v3:=Tryz.zeroValue3
 t4:=Tryz.underlying4
 a4:=Tryz.isAgg4
 z4:=Tryz.sizeOf4
 v4:=Tryz.zeroValue4
 t9:=Tryz.underlying9
 a9:=Tryz.isAgg9
 z9:=Tryz.sizeOf9
 v9:=Tryz.zeroValue9
 t20:=Tryz.underlying20
 a20:=Tryz.isAgg20
 z20:=Tryz.sizeOf20
 v20:=Tryz.zeroValue20
 t31:=Tryz.underlying33
 a31:=Tryz.isAgg33
 z31:=Tryz.sizeOf33
 v31:=Tryz.zeroValue33
 t37:=Tryz.underlying78
 a37:=Tryz.isAgg78
 z37:=Tryz.sizeOf78
 v37:=Tryz.zeroValue78
 t70:=Tryz.underlying204
 a70:=Tryz.isAgg204
 z70:=Tryz.sizeOf204
 v70:=Tryz.zeroValue204
 t72:=Tryz.underlying206
 a72:=Tryz.isAgg206
 z72:=Tryz.sizeOf206
 v72:=Tryz.zeroValue206
 t75:=Tryz.underlying209
 a75:=Tryz.isAgg209
 z75:=Tryz.sizeOf209
 v75:=Tryz.zeroValue209
 t76:=Tryz.underlying210
 a76:=Tryz.isAgg210
 z76:=Tryz.sizeOf210
 v76:=Tryz.zeroValue210
 t127:=Tryz.underlying264
 a127:=Tryz.isAgg264
 z127:=Tryz.sizeOf264
 v127:=Tryz.zeroValue264
 t164:=Tryz.underlying318
 a164:=Tryz.isAgg318
 z164:=Tryz.sizeOf318
 v164:=Tryz.zeroValue318}
theorem Tryz.Builder_Extra_156:Builder.Extra Tryz.prog Tryz.lays156_ren:={
 sizeBuilder:=by kernel_rfl
 liesBuilder:=by kernel_rfl
 t5:=Tryz.underlying5
 a5:=Tryz.isAgg5
 z5:=Tryz.sizeOf5
 v5:=Tryz.zeroValue5
 infoByte:=by kernel_rfl
 cellsByte:=by kernel_rfl
 sizeByte:=by kernel_rfl
 neB5:=by decide}
open Go.RowKit in
theorem Tryz.strings_Join_none (a:Option Addr) (c:Nat) (sep:ByteArray) (w:World):
 Calls Tryz.prog 127 #[.slice a 0 c,.string sep] w fun e w'=>e=.returned (.string ⟨#[]⟩)∧w'=w:=Any.strings_Join_none Tryz.lays156 Tryz.Builder_Extra_156 a c sep w
open Go.RowKit in
theorem Tryz.strings_Join (bk o c:Nat) (xs:List ByteArray) (sep:ByteArray) (w:World) (hcells:∀(j:Nat) x,xs[j]?=some x→w.cell? ⟨bk,o+j,none⟩=some (.string x)) (hbk:bk<w.heap.size) (hN:xs.length≤140737488355328) (hcap:xs.length≤c) (hlen:(Lib.join (xs.map (·.data.toList)) sep.data.toList).length≤140737488355328):
 Calls Tryz.prog 127 #[.slice (some ⟨bk,o,none⟩) xs.length c,.string sep] w fun e w'=>e=.returned (.string ⟨(Lib.join (xs.map (·.data.toList)) sep.data.toList).toArray⟩)∧Below w.heap.size w w':=Any.strings_Join Tryz.lays156 Tryz.Builder_Extra_156 bk o c xs sep w hcells hbk hN hcap hlen
def Tryz.laysM171_ren:Go.Shelf.Ren:=⟨fun|171=>79|243=>125|246=>126|283=>167|284=>168|285=>169|286=>170|129=>218|317=>217|318=>219|319=>220|320=>221|337=>280|338=>281|n=>n,fun|3=>3|9=>9|2=>2|4=>4|171=>199|0=>0|53=>144|37=>78|5=>5|173=>202|212=>258|51=>259|20=>20|213=>260|46=>262|232=>356|233=>357|n=>n,fun|17=>0|18=>5|19=>6|n=>n⟩
theorem Tryz.laysM171:Go.Proofs.LaysM.n171 Tryz.prog Tryz.laysM171_ren:={
 mixed:=by kernel_rfl
 f129:=Tryz.func218.trans (congrArg some (by kernel_rfl))
 f171:=Tryz.func79.trans (congrArg some (by kernel_rfl))
 f243:=Tryz.func125.trans (congrArg some (by kernel_rfl))
 f246:=Tryz.func126.trans (congrArg some (by kernel_rfl))
 f283:=Tryz.func167.trans (congrArg some (by kernel_rfl))
 f284:=Tryz.func168.trans (congrArg some (by kernel_rfl))
 f285:=Tryz.func169.trans (congrArg some (by kernel_rfl))
 f286:=Tryz.func170.trans (congrArg some (by kernel_rfl))
 f317:=Tryz.func217.trans (congrArg some (by kernel_rfl))
 f318:=Tryz.func219.trans (congrArg some (by kernel_rfl))
 f319:=Tryz.func220.trans (congrArg some (by kernel_rfl))
 f320:=Tryz.func221.trans (congrArg some (by kernel_rfl))
 f337:=Tryz.func280.trans (congrArg some (by kernel_rfl))
 f338:=Tryz.func281.trans (congrArg some (by kernel_rfl))
 t0:=Tryz.underlying0
 a0:=Tryz.isAgg0
 z0:=Tryz.sizeOf0
 v0:=Tryz.zeroValue0
 t2:=Tryz.underlying2
 a2:=Tryz.isAgg2
 z2:=Tryz.sizeOf2
 v2:=Tryz.zeroValue2
 t3:=Tryz.underlying3
 a3:=Tryz.isAgg3
 z3:=Tryz.sizeOf3
 v3:=Tryz.zeroValue3
 t4:=Tryz.underlying4
 a4:=Tryz.isAgg4
 z4:=Tryz.sizeOf4
 v4:=Tryz.zeroValue4
 t5:=Tryz.underlying5
 a5:=Tryz.isAgg5
 z5:=Tryz.sizeOf5
 v5:=Tryz.zeroValue5
 t9:=Tryz.underlying9
 a9:=Tryz.isAgg9
 z9:=Tryz.sizeOf9
 v9:=Tryz.zeroValue9
 t20:=Tryz.underlying20
 a20:=Tryz.isAgg20
 z20:=Tryz.sizeOf20
 v20:=Tryz.zeroValue20
 t37:=Tryz.underlying78
 a37:=Tryz.isAgg78
 z37:=Tryz.sizeOf78
 v37:=Tryz.zeroValue78
 t46:=Tryz.underlying262
 a46:=Tryz.isAgg262
 z46:=Tryz.sizeOf262
 v46:=Tryz.zeroValue262
 t51:=Tryz.underlying259
 a51:=Tryz.isAgg259
 z51:=Tryz.sizeOf259
 v51:=Tryz.zeroValue259
 t53:=Tryz.underlying144
 a53:=Tryz.isAgg144
 z53:=Tryz.sizeOf144
 v53:=Tryz.zeroValue144
 t171:=Tryz.underlying199
 a171:=Tryz.isAgg199
 z171:=Tryz.sizeOf199
 v171:=Tryz.zeroValue199
 t173:=Tryz.underlying202
 a173:=Tryz.isAgg202
 z173:=Tryz.sizeOf202
 v173:=Tryz.zeroValue202
 t212:=Tryz.underlying258
 a212:=Tryz.isAgg258
 z212:=Tryz.sizeOf258
 v212:=Tryz.zeroValue258
 t213:=Tryz.underlying260
 a213:=Tryz.isAgg260
 z213:=Tryz.sizeOf260
 t232:=Tryz.underlying356
 a232:=Tryz.isAgg356
 z232:=Tryz.sizeOf356
 v232:=Tryz.zeroValue356
 t233:=Tryz.underlying357
 a233:=Tryz.isAgg357
 z233:=Tryz.sizeOf357
 v233:=Tryz.zeroValue357
 g17:=by kernel_rfl
 g18:=by kernel_rfl
 g19:=by kernel_rfl
 i0:=by kernel_rfl
 i2:=by kernel_rfl
 i3:=by kernel_rfl
 i4:=by kernel_rfl
 i5:=by kernel_rfl
 i9:=by kernel_rfl
 i20:=by kernel_rfl
 i37:=by kernel_rfl
 i46:=by kernel_rfl
 i51:=by kernel_rfl
 i53:=by kernel_rfl
 i171:=by kernel_rfl
 i173:=by kernel_rfl
 i212:=by kernel_rfl
 i232:=by kernel_rfl
 i233:=by kernel_rfl
 m17:=by kernel_rfl
 m18:=by kernel_rfl
 m19:=by kernel_rfl}
open Go.RowKit Go.Sort Go.Lib in
theorem Tryz.strconv_Itoa (n:Int) (h0: -9223372036854775808≤n) (h1:n≤9223372036854775807) (w:World) (htab:Lib.TabIs Tryz.prog w "internal/strconv.uint64pow10" .u64 Lib.pow10Tab):
 Calls Tryz.prog 79 #[.int .i64 n] w fun e w'=>e=.returned (.string ⟨(Lib.itoa n).toArray⟩)∧∃k os,w'=grow (w.drewN k) os:=Any.strconv_Itoa Tryz.laysM171 n h0 h1 w htab
def Tryz.laysM173_ren:Go.Shelf.Ren:=⟨fun|173=>80|246=>126|283=>167|284=>168|285=>169|286=>170|129=>218|317=>217|318=>219|319=>220|320=>221|337=>280|338=>281|n=>n,fun|2=>2|3=>3|9=>9|4=>4|171=>199|0=>0|53=>144|37=>78|5=>5|173=>202|212=>258|51=>259|20=>20|213=>260|46=>262|232=>356|233=>357|n=>n,fun|17=>0|18=>5|19=>6|n=>n⟩
theorem Tryz.laysM173:Go.Proofs.LaysM.n173 Tryz.prog Tryz.laysM173_ren:={
 mixed:=by kernel_rfl
 f129:=Tryz.func218.trans (congrArg some (by kernel_rfl))
 f173:=Tryz.func80.trans (congrArg some (by kernel_rfl))
 f246:=Tryz.func126.trans (congrArg some (by kernel_rfl))
 f283:=Tryz.func167.trans (congrArg some (by kernel_rfl))
 f284:=Tryz.func168.trans (congrArg some (by kernel_rfl))
 f285:=Tryz.func169.trans (congrArg some (by kernel_rfl))
 f286:=Tryz.func170.trans (congrArg some (by kernel_rfl))
 f317:=Tryz.func217.trans (congrArg some (by kernel_rfl))
 f318:=Tryz.func219.trans (congrArg some (by kernel_rfl))
 f319:=Tryz.func220.trans (congrArg some (by kernel_rfl))
 f320:=Tryz.func221.trans (congrArg some (by kernel_rfl))
 f337:=Tryz.func280.trans (congrArg some (by kernel_rfl))
 f338:=Tryz.func281.trans (congrArg some (by kernel_rfl))
 t0:=Tryz.underlying0
 a0:=Tryz.isAgg0
 z0:=Tryz.sizeOf0
 v0:=Tryz.zeroValue0
 t2:=Tryz.underlying2
 a2:=Tryz.isAgg2
 z2:=Tryz.sizeOf2
 v2:=Tryz.zeroValue2
 t3:=Tryz.underlying3
 a3:=Tryz.isAgg3
 z3:=Tryz.sizeOf3
 v3:=Tryz.zeroValue3
 t4:=Tryz.underlying4
 a4:=Tryz.isAgg4
 z4:=Tryz.sizeOf4
 v4:=Tryz.zeroValue4
 t5:=Tryz.underlying5
 a5:=Tryz.isAgg5
 z5:=Tryz.sizeOf5
 v5:=Tryz.zeroValue5
 t9:=Tryz.underlying9
 a9:=Tryz.isAgg9
 z9:=Tryz.sizeOf9
 v9:=Tryz.zeroValue9
 t20:=Tryz.underlying20
 a20:=Tryz.isAgg20
 z20:=Tryz.sizeOf20
 v20:=Tryz.zeroValue20
 t37:=Tryz.underlying78
 a37:=Tryz.isAgg78
 z37:=Tryz.sizeOf78
 v37:=Tryz.zeroValue78
 t46:=Tryz.underlying262
 a46:=Tryz.isAgg262
 z46:=Tryz.sizeOf262
 v46:=Tryz.zeroValue262
 t51:=Tryz.underlying259
 a51:=Tryz.isAgg259
 z51:=Tryz.sizeOf259
 v51:=Tryz.zeroValue259
 t53:=Tryz.underlying144
 a53:=Tryz.isAgg144
 z53:=Tryz.sizeOf144
 v53:=Tryz.zeroValue144
 t171:=Tryz.underlying199
 a171:=Tryz.isAgg199
 z171:=Tryz.sizeOf199
 v171:=Tryz.zeroValue199
 t173:=Tryz.underlying202
 a173:=Tryz.isAgg202
 z173:=Tryz.sizeOf202
 v173:=Tryz.zeroValue202
 t212:=Tryz.underlying258
 a212:=Tryz.isAgg258
 z212:=Tryz.sizeOf258
 v212:=Tryz.zeroValue258
 t213:=Tryz.underlying260
 a213:=Tryz.isAgg260
 z213:=Tryz.sizeOf260
 t232:=Tryz.underlying356
 a232:=Tryz.isAgg356
 z232:=Tryz.sizeOf356
 v232:=Tryz.zeroValue356
 t233:=Tryz.underlying357
 a233:=Tryz.isAgg357
 z233:=Tryz.sizeOf357
 v233:=Tryz.zeroValue357
 g17:=by kernel_rfl
 g18:=by kernel_rfl
 g19:=by kernel_rfl
 i0:=by kernel_rfl
 i2:=by kernel_rfl
 i3:=by kernel_rfl
 i4:=by kernel_rfl
 i5:=by kernel_rfl
 i9:=by kernel_rfl
 i20:=by kernel_rfl
 i37:=by kernel_rfl
 i46:=by kernel_rfl
 i51:=by kernel_rfl
 i53:=by kernel_rfl
 i171:=by kernel_rfl
 i173:=by kernel_rfl
 i212:=by kernel_rfl
 i232:=by kernel_rfl
 i233:=by kernel_rfl
 m17:=by kernel_rfl
 m18:=by kernel_rfl
 m19:=by kernel_rfl}
open Go.RowKit Go.Sort Go.Lib in
theorem Tryz.strconv_FormatInt_10 (n:Int) (h0: -9223372036854775808≤n) (h1:n≤9223372036854775807) (w:World) (htab:Lib.TabIs Tryz.prog w "internal/strconv.uint64pow10" .u64 Lib.pow10Tab):
 Calls Tryz.prog 80 #[.int .i64 n,.int .i64 10] w fun e w'=>e=.returned (.string ⟨(Lib.itoa n).toArray⟩)∧∃k os,w'=grow (w.drewN k) os:=Any.strconv_FormatInt_10 Tryz.laysM173 n h0 h1 w htab
end Go.Proofs
namespace Go.Proofs.YtldllfocpadkeaaGreatDoor
open Go Go.Eng Nice Go.RowKit Go.Sort
set_option maxRecDepth 1000000
theorem pow10C_eq:pow10C=Lib.pow10Tab.map fun z=>Value.int .u64 z:=by kernel_rfl
theorem pow10_at:Tryz.prog.globalNamed "internal/strconv.uint64pow10" =some 0:=by kernel_rfl
theorem glTab {w:World} (hgl:GlW glC w):Lib.TabIs Tryz.prog w "internal/strconv.uint64pow10" .u64 Lib.pow10Tab:=by
 obtain⟨c,e,fr,h1,h2⟩:=hgl.2 (0,pow10C) (by simp[glC]);unfold Lib.TabIs World.var?;rw[pow10_at];simp only[Option.bind_some,h1];congr 1;rw[←pow10C_eq];apply Array.ext
 ·simpa using h2
 ·intro i hi hj;have hj':i<pow10C.length:=by simpa using hj
  obtain⟨u,hu,hg⟩:=hgl.1 (0,pow10C) (by simp[glC]) i pow10C[i] (List.getElem?_eq_getElem hj');have hz:∃z,pow10C[i]=Value.int .u64 z:=by
   have hm:pow10C[i]∈Lib.pow10Tab.map fun z=>Value.int .u64 z:=by rw[←pow10C_eq];exact List.getElem_mem hj'
   obtain⟨z,_,hz⟩:=List.mem_map.1 hm;exact⟨z,hz.symm⟩
  obtain⟨z,hz⟩:=hz;have e:u=pow10C[i]:=by
   rcases hg with⟨_,h⟩|⟨b,he,_⟩|⟨k,m,he,_⟩
   ·exact h
   ·rw[hz] at he;cases he
   ·rw[hz] at he;cases he
  simp only[World.cell?,h1] at hu;have:c[i]?=some u:=by simpa using hu
  rw[Array.getElem?_eq_getElem hi] at this;rw[Option.some.inj this,e];simp
theorem same_grow (w:World) (k:Nat) (os:Array Obj):Same w (grow (w.drewN k) os):=by
 refine⟨?_,rfl,rfl,fun b hb=> ?_⟩
 ·show w.heap.size≤(w.heap++os).size;simp
 ·show(w.heap++os)[b]?=w.heap[b]?;rw[Array.getElem?_append_left hb]
theorem i64P_iff {n:Int}:i64P n=true↔ -9223372036854775808≤n∧n≤9223372036854775807:=by
 unfold i64P;rw[Bool.and_eq_true,decide_eq_true_eq,decide_eq_true_eq]
theorem itoa_c:PC 79 itoaS:=pc_mk fun fz w args x hgl hr hp=>by
 obtain⟨n,⟨⟩⟩:=x;obtain⟨h0,h1⟩:=i64P_iff.1 hp;obtain⟨_,r3,e1,g1,hr1⟩:=rd_cons' rfl hr;obtain rfl:r3=[]:=hr1;cases g1;have ha:args=#[.int .i64 n]:=Array.toList_inj.1 e1;subst ha;refine(Tryz.strconv_Itoa n h0 h1 w (glTab hgl)).mono ?_;rintro e w' ⟨rfl,k,os,rfl⟩;exact⟨[.string (bs (Lib.itoa n))],rfl,⟨_,_,rfl,.inr ⟨rfl,rfl⟩,rfl⟩,same_grow _ _ _⟩
theorem fmt_c:PC 80 fmtS:=pc_mk fun fz w args x hgl hr hp=>by
 obtain⟨n,m,⟨⟩⟩:=x;have hp':(i64P n&&m==(10:Int))=true:=hp;clear hp;rw[Bool.and_eq_true,beq_iff_eq] at hp';obtain⟨hp,rfl⟩:=hp';obtain⟨h0,h1⟩:=i64P_iff.1 hp;obtain⟨_,_,e1,g1,hr1⟩:=rd_cons' rfl hr;obtain⟨_,r3,rfl,g2,hr2⟩:=rd_cons' rfl hr1;obtain rfl:r3=[]:=hr2;cases g1;cases g2;have ha:args=#[.int .i64 n,.int .i64 10]:=Array.toList_inj.1 e1
 subst ha;refine(Tryz.strconv_FormatInt_10 n h0 h1 w (glTab hgl)).mono ?_;rintro e w' ⟨rfl,k,os,rfl⟩;exact⟨[.string (bs (Lib.itoa n))],rfl,⟨_,_,rfl,.inr ⟨rfl,rfl⟩,rfl⟩,same_grow _ _ _⟩
theorem join_c:PC 127 joinS:=by
 intro fz w args x hfz hgl hr hp;obtain⟨l,s,⟨⟩⟩:=x;have hp:joinP l s=true:=hp;unfold joinP at hp;rw[Bool.and_eq_true,decide_eq_true_eq,decide_eq_true_eq] at hp;obtain⟨_,_,e1,g1,hr1⟩:=rd_cons' rfl hr;obtain⟨_,r3,rfl,g2,hr2⟩:=rd_cons' rfl hr1;obtain rfl:r3=[]:=hr2;cases g2;have hlt:∀b c,fz b=some c→b<w.heap.size:=fun b c hb=>by
  obtain⟨e,fr,h⟩:=hfz b c hb;exact(Array.getElem?_eq_some_iff.1 h).1
 have fin:∀w',Same w w'→∃vs fz',(Ending.returned (.string (bs (Lib.join l s)))=.returned (resV vs))∧(∀b c,fz b=some c→fz' b=some c)∧FzOK fz' w'∧(∀b c,fz' b=some c→fz b=some c∨w.heap.size≤b)∧RdAll fz' joinS.rs (joinS.g (l,s,())) vs∧Same w w':=fun w' hs=>
  ⟨[.string (bs (Lib.join l s))],fz,rfl,fun _ _ h=>h,hfz.keep fun b c hb=>hs.2.2.2 b (hlt b c hb),fun _ _ h=>.inl h,⟨_,_,rfl,.inr ⟨rfl,rfl⟩,rfl⟩,hs⟩
 obtain⟨sv,hsv,hcase⟩:=g1;cases hsv;rcases hcase with⟨⟨q,c,rfl⟩,hl⟩|⟨b,o,c,arr,rfl,hb,hsz,hc,hx⟩
 ·have hl:l=[]:=hl;subst hl;have ha:args=#[.slice q 0 c,.string (bs s)]:=Array.toList_inj.1 e1;subst ha;refine(Tryz.strings_Join_none q c (bs s) w).mono ?_;rintro e w' ⟨rfl,rfl⟩;exact fin w' ⟨Nat.le_refl _,rfl,rfl,fun _ _=>rfl⟩
 ·have ha:args=#[.slice (some ⟨b,o,none⟩) l.length c,.string (bs s)]:=Array.toList_inj.1 e1;subst ha;obtain⟨te,fr,hh⟩:=hfz b arr hb;have hmap:(l.map bs).map (·.data.toList)=l:=by
   rw[List.map_map];have:((fun x:ByteArray=>x.data.toList)∘bs)=id:=by funext y;exact bs_data y
   rw[this,List.map_id]
  have:=Tryz.strings_Join b o c (l.map bs) (bs s) w (fun j x hj=>by
   rw[List.getElem?_map] at hj;obtain⟨y,hy,rfl⟩:=Option.map_eq_some_iff.1 hj;have h1:=hx j y hy;have h1:((arr.toList.drop (o+j*1)).take 1)=[.string (bs y)]:=h1;rw[Nat.mul_one] at h1;have h2:arr.toList[o+j]?=some (.string (bs y)):=by
    have:=congrArg (fun z=>z[0]?) h1;simpa[List.getElem?_take,List.getElem?_drop] using this
   show World.cell? w ⟨b,o+j,none⟩=_;simp only[World.cell?,hh];simpa using h2) (hlt b arr hb) (by rw[List.length_map];exact hp.1) (by rw[List.length_map];exact hc) (by rw[hmap,bs_data];exact hp.2)
  rw[List.length_map,hmap,bs_data] at this;refine this.mono ?_;rintro e w' ⟨rfl,hbl⟩;exact fin w' (same_of hbl)
end Go.Proofs.YtldllfocpadkeaaGreatDoor
namespace Nice
open Go Go.Eng
def wq3 (k:Int) (l:List (List UInt8)):Option (DenL [.str]):=bif k==(5:Int) then gd [joinP (l++[verW1]) [38]] (some (joinN (l++[verW1]) [38],())) else gd [joinP l [38]] (some (joinN l [38],()))
def wq2 (m k:Int) (l:List (List UInt8)):Option (DenL [.str]):=bif m !=(20:Int) then gd [decide (4+(fmtN m).length≤1099511627776),i64P m] (wq3 k (l++[eMax++fmtN m])) else wq3 k l
def wq1 (f:List UInt8) (m k:Int) (l:List (List UInt8)):Option (DenL [.str]):=bif !f==[] then gd [decide (6+f.length≤1099511627776)] (wq2 m k (l++[eAft++f])) else wq2 m k l
def wq0 (p f:List UInt8) (m k:Int):Option (DenL [.str]):=bif !p==[] then gd [decide (7+p.length≤1099511627776)] (wq1 f m k ([]++[ePre++p])) else wq1 f m k []
def zOut:Option (DenL [ReqT,.bool]):=some (zReq,false,())
def eqB (x a:AskD):Bool:=x.1==a.1&&(x.2.1==a.2.1&&(x.2.2.1==a.2.2.1&&(x.2.2.2.1==a.2.2.2.1&&(x.2.2.2.2.1==a.2.2.2.2.1&&(x.2.2.2.2.2.1==a.2.2.2.2.2.1&&(x.2.2.2.2.2.2.1==a.2.2.2.2.2.2.1&&(x.2.2.2.2.2.2.2.1==a.2.2.2.2.2.2.2.1&&(x.2.2.2.2.2.2.2.2.1==a.2.2.2.2.2.2.2.2.1&&(x.2.2.2.2.2.2.2.2.2.1==a.2.2.2.2.2.2.2.2.2.1&&true)))))))))
def wr5 (a:AskD) (g:List Bool) (r:ReqW):Option (DenL [ReqT,.bool]):=
 gd (ofP r::g) (bif (ofN r).2 !=(0:Int) then zOut else bif !eqB (ofN r).1 a then zOut else bif decide ((a.2.2.2.1.length:Int)>(300:Int)) then zOut else some (r,true,()))
def wr4 (a:AskD) (b:List UInt8) (mk:HeadL→ReqW) (hs:HeadL):Option (DenL [ReqT,.bool]):=
 bif !b==[] then wr5 a [i64P (b.length:Int)] (mk (hs++[(clW,fmtN (b.length:Int),())])) else wr5 a [] (mk hs)
def wr3 (a:AskD) (c:Int) (t b:List UInt8) (mk:HeadL→ReqW):Option (DenL [ReqT,.bool]):=
 bif c==(1:Int) then wr4 a b mk [(inmW,[42],())]
 else bif c==(2:Int) then gd [decide (([34]++t).length+1≤1099511627776),decide (1+t.length≤1099511627776)] (wr4 a b mk [(imW,[34]++t++[34],())])
 else wr4 a b mk []
def wr2 (a:AskD) (k:Int) (key:List UInt8) (c:Int) (t b:List UInt8) (me q:List UInt8):Option (DenL [ReqT,.bool]):=
 bif k==(2:Int) then wr3 a c t b fun hs=>(putW,ooW++key,q,hs,b,())
 else bif k==(3:Int) then wr3 a c t b fun hs=>(delW,ooW++key,q,hs,b,())
 else bif k==(4:Int) then gd [qryP a] (wr3 a c t b fun hs=>(me,oW,queryN a,hs,b,()))
 else bif k==(5:Int) then gd [qryP a] (wr3 a c t b fun hs=>(me,oW,queryN a,hs,b,()))
 else wr3 a c t b fun hs=>(me,ooW++key,q,hs,b,())
def wr1 (a:AskD) (k:Int) (key:List UInt8) (v:Int) (c:Int) (t b:List UInt8) (me:List UInt8):Option (DenL [ReqT,.bool]):=
 bif v !=(0:Int) then gd [decide (8+(fmtN v).length≤1099511627776),i64P v&&(10:Int)==(10:Int)] (wr2 a k key c t b me (vPre++fmtN v)) else wr2 a k key c t b me []
def wr0 (k:Int) (key:List UInt8) (v:Int) (b:List UInt8) (c:Int) (t p f:List UInt8) (m:Int) (br:Bool):Option (DenL [ReqT,.bool]):=
 gd [decide (3+key.length≤1099511627776)] (bif br then wr1 (k,key,v,b,c,t,p,f,m,br,()) k key v c t b headW else wr1 (k,key,v,b,c,t,p,f,m,br,()) k key v c t b getW)
end Nice
namespace Go.Proofs.YtldllfocpadkeaaGreatDoor
open Go Go.Eng Nice
set_option maxRecDepth 1000000
noncomputable def oquery (x:DenL [AskT]):Option (DenL [.str]):=fO Tryz.prog (envS [(79,itoaS),(127,joinS)]) (shOf []) Tryz.f81 [AskT] [.str] x
theorem equery (k:Int) (key:List UInt8) (v:Int) (b:List UInt8) (c:Int) (t p f:List UInt8) (m:Int) (br:Bool):oquery ((k,key,v,b,c,t,p,f,m,br,()),())=wq0 p f m k:=by kernel_rfl
noncomputable def orequest (x:DenL [AskT]):Option (DenL [ReqT,.bool]):=fO Tryz.prog (envS [(47,ofS),(80,fmtS),(81,queryS),(79,itoaS)]) (shOf []) Tryz.f41 [AskT] [ReqT,.bool] x
theorem erequest (k:Int) (key:List UInt8) (v:Int) (b:List UInt8) (c:Int) (t p f:List UInt8) (m:Int) (br:Bool):orequest ((k,key,v,b,c,t,p,f,m,br,()),())=wr0 k key v b c t p f m br:=by kernel_rfl
noncomputable def oamay (x:DenL [AskT]):Option (DenL [.bool]):=fO Tryz.prog (envS [(41,requestS)]) (shOf []) Tryz.f17 [AskT] [.bool] x
theorem eamay (k:Int) (key:List UInt8) (v:Int) (b:List UInt8) (c:Int) (t p f:List UInt8) (m:Int) (br:Bool):oamay ((k,key,v,b,c,t,p,f,m,br,()),())=
 (bif (requestN (k,key,v,b,c,t,p,f,m,br,())).2 then gd [askP (k,key,v,b,c,t,p,f,m,br,())] (some (true,())) else gd [askP (k,key,v,b,c,t,p,f,m,br,())] (some (false,()))):=by kernel_rfl
end Go.Proofs.YtldllfocpadkeaaGreatDoor
namespace Nice
open Go Go.Eng
theorem yT {α:Type} (a b:α):(bif true then a else b)=a:=Eq.trans (cond_true a b) rfl
theorem yF {α:Type} (a b:α):(bif false then a else b)=b:=Eq.trans (cond_false a b) rfl
theorem yG {α:Type} (r:Option α):gd [] r=r:=Eq.trans gd_nil rfl
theorem itoa_le {n:Int} (h:i64P n=true):(Lib.itoa n).length≤21:=by
 unfold i64P at h;rw[Bool.and_eq_true,decide_eq_true_eq,decide_eq_true_eq] at h;have key:∀u:Nat,u<10^20→(Lib.decDigits u).length≤20:=by
  intro u hu;have:=itoa_len (k:=19) (u:=u) (by simpa using hu);rw[itoa_nat] at this;exact this
 unfold Lib.itoa
 split
 ·have:=key n.natAbs (by omega);simp only[List.length_cons];omega
 ·have:=key n.toNat (by omega);omega
theorem sh1_le {s:List UInt8} (h:sh1 s=true):s.length≤1000:=of_decide_eq_true h
theorem joinT_len (s:List UInt8):∀(l:List (List UInt8)) (n:Nat),(∀x,x∈l→x.length≤n)→(Lib.joinTail s l).length≤l.length*(s.length+n)
 |[],_,_=>by simp[Lib.joinTail]
 |x::r,n,h=>by
  have:=joinT_len s r n fun y hy=>h y (List.mem_cons_of_mem _ hy)
  have h0:=h x (List.mem_cons_self ..);have e:(Lib.joinTail s (x::r)).length=s.length+x.length+(Lib.joinTail s r).length:=by
   show((s++x)++Lib.joinTail s r).length=_;rw[List.length_append,List.length_append]
  rw[e,List.length_cons,Nat.add_mul];omega
theorem join_len (s:List UInt8) (l:List (List UInt8)) (n:Nat) (h:∀x,x∈l→x.length≤n):(Lib.join l s).length≤l.length*(s.length+n):=by
 cases l with
 |nil=>simp[Lib.join]
 |cons x r=>
  have h0:=h x (List.mem_cons_self ..);have:=joinT_len s r n fun y hy=>h y (List.mem_cons_of_mem _ hy)
  rw[Lib.join_cons,List.length_append,List.length_cons,Nat.add_mul];omega
theorem qParts_len {p f:List UInt8} {m k:Int} (hp:p.length≤1000) (hf:f.length≤1000) (hm:i64P m=true):(qParts p f m k).length≤4∧∀x,x∈qParts p f m k→x.length≤1010:=by
 have hi:=itoa_le hm;refine⟨?_,fun x hx=> ?_⟩
 ·unfold qParts qPre qAft qMax qKind;cases p==[]<;>cases f==[]<;>cases m==20<;>cases k==5<;>simp
 ·rcases qParts_mem hx with rfl|rfl|rfl|rfl
  ·rw[List.length_append];show 7+_≤_;omega
  ·rw[List.length_append];show 6+_≤_;omega
  ·rw[List.length_append];show 4+_≤_;omega
  ·show 10≤1010;omega
theorem joinP_q {p f:List UInt8} {m k:Int} (hp:p.length≤1000) (hf:f.length≤1000) (hm:i64P m=true):joinP (qParts p f m k) [38]=true∧(Lib.join (qParts p f m k) [38]).length≤4044:=by
 obtain⟨h1,h2⟩:=qParts_len (k:=k) hp hf hm;have h3:=join_len [38] _ 1010 h2;have h4:(qParts p f m k).length*([38].length+1010)≤4*1011:=Nat.mul_le_mul_right 1011 h1;refine⟨?_,by omega⟩;unfold joinP;rw[Bool.and_eq_true,decide_eq_true_eq,decide_eq_true_eq];omega
theorem query_w {p f:List UInt8} {m k:Int} (hp:p.length≤1000) (hf:f.length≤1000) (hm:i64P m=true):wq0 p f m k=some (Lib.join (qParts p f m k) [38],()):=by
 obtain⟨hj, -⟩:=joinP_q (k:=k) hp hf hm;have hi:=itoa_le hm;have w3:∀l:List (List UInt8),joinP (l++qKind k) [38]=true→wq3 k l=some (Lib.join (l++qKind k) [38],()):=by
  intro l h;unfold wq3;unfold qKind at h⊢;cases hk:k==5
  ·rw[hk,yF,List.append_nil] at h;rw[yF,gdB h,yG,yF,List.append_nil];rfl
  ·rw[hk,yT] at h;rw[yT,gdB h,yG,yT];rfl
 have w2:∀l:List (List UInt8),joinP (l++(qMax m++qKind k)) [38]=true→wq2 m k l=some (Lib.join (l++(qMax m++qKind k)) [38],()):=by
  intro l h;unfold wq2 bne;unfold qMax at h⊢;cases hk:m==20
  ·rw[hk,yF,←List.append_assoc] at h;have:=w3 _ h;rw[Bool.not_false,yT,yF,gdT (show 4+(fmtN m).length≤1099511627776 by show 4+(Lib.itoa m).length≤_;omega),gdB hm,yG,←List.append_assoc];exact this
  ·rw[hk,yT,List.nil_append] at h;rw[Bool.not_true,yF,yT,List.nil_append];exact w3 _ h
 have w1:∀l:List (List UInt8),joinP (l++(qAft f++(qMax m++qKind k))) [38]=true→wq1 f m k l=some (Lib.join (l++(qAft f++(qMax m++qKind k))) [38],()):=by
  intro l h;unfold wq1;unfold qAft at h⊢;cases hk:f==[]
  ·rw[hk,yF,←List.append_assoc] at h;rw[Bool.not_false,yT,yF,gdT (by omega),yG,←List.append_assoc];exact w2 _ h
  ·rw[hk,yT,List.nil_append] at h;rw[Bool.not_true,yF,yT,List.nil_append];exact w2 _ h
 unfold wq0;unfold qParts at hj⊢;unfold qPre at hj⊢;cases hk:p==[]
 ·rw[hk,yF] at hj;rw[Bool.not_false,yT,yF,gdT (by omega),yG];exact w1 _ hj
 ·rw[hk,yT,List.nil_append] at hj;rw[Bool.not_true,yF,yT,List.nil_append];exact w1 [] hj
def outW (a:AskD) (r:ReqW):Option (DenL [ReqT,.bool]):=some ((outR a r).1,(outR a r).2,())
theorem eqB_eq (x a:AskD):eqB x a=eqA x a:=by
 unfold eqB eqA;rw[Bool.and_true]
theorem wr5_n {a:AskD} {g:List Bool} {r:ReqW} (h:ofP r=true) (hg:g=[]∨∃b,g=[b]∧b=true):wr5 a g r=outW a r:=by
 have e:wr5 a g r=(bif (ofN r).2 !=(0:Int) then zOut else bif !eqB (ofN r).1 a then zOut else bif decide ((a.2.2.2.1.length:Int)>(300:Int)) then zOut else some (r,true,())):=by
  unfold wr5;rcases hg with rfl|⟨b,rfl,rfl⟩
  ·rw[gdB h,yG]
  ·rw[gdB h,gdB rfl,yG]
 rw[e,eqB_eq];unfold outW outR zOut bne;cases(ofN r).2==0
 ·rfl
 ·cases eqA (ofN r).1 a
  ·rfl
  ·by_cases h3:(a.2.2.2.1.length:Int)≤300
   ·rw[decide_eq_true h3,decide_eq_false (by omega)];rfl
   ·rw[decide_eq_false h3,decide_eq_true (by omega)];rfl
theorem i64_len {b:List UInt8} (h:b.length≤1000):i64P (b.length:Int)=true:=by
 unfold i64P;rw[Bool.and_eq_true,decide_eq_true_eq,decide_eq_true_eq];omega
theorem wr4_n {a:AskD} {b:List UInt8} {mk:HeadL→ReqW} {hs:HeadL} (hb:b.length≤1000) (h:ofP (mk (hs++hdB b))=true):wr4 a b mk hs=outW a (mk (hs++hdB b)):=by
 unfold wr4;unfold hdB at h⊢;cases hk:b==[]
 ·rw[hk,yF] at h;rw[Bool.not_false,yT,yF];exact wr5_n h (.inr ⟨_,rfl,i64_len hb⟩)
 ·rw[hk,yT,List.append_nil] at h;rw[Bool.not_true,yF,yT,List.append_nil];exact wr5_n h (.inl rfl)
theorem wr3_n {a:AskD} {c:Int} {t b:List UInt8} {mk:HeadL→ReqW} (ht:t.length≤1000) (hb:b.length≤1000) (h:ofP (mk (hdC c t++hdB b))=true):wr3 a c t b mk=outW a (mk (hdC c t++hdB b)):=by
 unfold wr3;unfold hdC at h⊢;cases h1:c==1
 ·rw[h1,yF] at h;rw[yF,yF];cases h2:c==2
  ·rw[h2,yF] at h;rw[yF,yF];exact wr4_n hb h
  ·rw[h2,yT] at h;rw[yT,yT,gdT (by rw[List.length_append];show 1+_+1≤_;omega),gdT (by omega),yG];exact wr4_n hb h
 ·rw[h1,yT] at h;rw[yT,yT];exact wr4_n hb h
theorem condsP_req {c:Int} {t b:List UInt8} (ht:t.length≤1000):condsP (hdC c t++hdB b)=true:=by
 have hv:(valueN (hdC c t++hdB b) imW).1.length≤1002:=by
  unfold hdC;cases c==1
  ·cases c==2
   ·rw[yF,yF,List.nil_append,val_B2];exact Nat.zero_le _
   ·rw[yF,yT,List.cons_append,List.nil_append];have e:valueN ((imW,[34]++t++[34],())::hdB b) imW=([34]++t++[34],true):=by
     show(bif lower imW==lower imW then _ else _)=_;rw[low4,yT]
    rw[e];show([34]++t++[34]).length≤1002;simp only[List.length_append,List.length_cons,List.length_nil];omega
  ·rw[yT,List.cons_append,List.nil_append];have e:valueN ((inmW,[42],())::hdB b) imW=valueN (hdB b) imW:=by
    show(bif lower inmW==lower imW then _ else _)=_;rw[low2,yF]
   rw[e,val_B2];exact Nat.zero_le _
 have hm:∀h,h∈hdC c t++hdB b→lowerP h.1=true:=by
  intro h hh;rcases List.mem_append.1 hh with hh|hh
  ·unfold hdC at hh
   revert hh
   cases c==1
   ·cases c==2
    ·intro hh;cases hh
    ·intro hh;rw[List.mem_singleton.1 hh];rfl
   ·intro hh;rw[List.mem_singleton.1 hh];rfl
  ·unfold hdB at hh
   revert hh
   cases b==[]
   ·intro hh;rw[List.mem_singleton.1 hh];rfl
   ·intro hh;cases hh
 have hl:(hdC c t++hdB b).length≤2:=by
  unfold hdC hdB;cases c==1<;>cases c==2<;>cases b==[]<;>first|exact Nat.zero_le _|exact Nat.le_succ 1|exact Nat.le_refl 2
 have hp:∀n,lowerP n=true→valueP (hdC c t++hdB b) n=true:=by
  intro n hn;unfold valueP;rw[hn,decide_eq_true (by omega),List.all_eq_true.2 hm];rfl
 unfold condsP;rw[hp inmW rfl,hp imW rfl];exact decide_eq_true (by omega)
theorem ofP_req {m p q:List UInt8} {c:Int} {t b b2:List UInt8} (ht:t.length≤1000) (hp:p.length≤5000) (hq:q.length≤5000):ofP (m,p,q,hdC c t++hdB b,b2,())=true:=by
 unfold ofP;dsimp only;rw[condsP_req ht,show shortS q=true from decide_eq_true (by omega)];exact decide_eq_true (by omega)
theorem askP_all {k:Int} {key:List UInt8} {v:Int} {b:List UInt8} {c:Int} {t p f:List UInt8} {m:Int} {br:Bool} (h:askP (k,key,v,b,c,t,p,f,m,br,())=true):
  key.length≤1000∧b.length≤1000∧t.length≤1000∧i64P v=true∧p.length≤1000∧f.length≤1000∧i64P m=true∧qryP (k,key,v,b,c,t,p,f,m,br,())=true:=by
 unfold askP at h;simp only[Bool.and_eq_true] at h;obtain⟨⟨h1,h2,h3,h4⟩,h5⟩:=h;have h6:=h5;unfold qryP at h5;simp only[Bool.and_eq_true] at h5;exact⟨sh1_le h1,sh1_le h2,sh1_le h3,h4,sh1_le h5.1,sh1_le h5.2.1,h5.2.2,h6⟩
theorem request_w {k:Int} {key:List UInt8} {v:Int} {b:List UInt8} {c:Int} {t p f:List UInt8} {m:Int} {br:Bool} (h:askP (k,key,v,b,c,t,p,f,m,br,())=true):
  wr0 k key v b c t p f m br=outW (k,key,v,b,c,t,p,f,m,br,()) (reqR (k,key,v,b,c,t,p,f,m,br,())):=by
 obtain⟨hk,hb,ht,hv,hp,hf,hm,hq⟩:=askP_all h;have hi:=itoa_le hv;have hqn:(queryN (k,key,v,b,c,t,p,f,m,br,())).length≤4044:=(joinP_q hp hf hm).2;have w2:∀(me q:List UInt8),q.length≤100→wr2 (k,key,v,b,c,t,p,f,m,br,()) k key c t b me q=outW (k,key,v,b,c,t,p,f,m,br,()) (bif k==2 then putW else bif k==3 then delW else me,pathR k key,bif isL k then queryN (k,key,v,b,c,t,p,f,m,br,()) else q,hdC c t++hdB b,b,()):=by
  intro me q hql;have hpk:(ooW++key).length≤5000:=by rw[List.length_append];show 3+_≤_;omega
  unfold wr2 pathR isL;cases h2:k==2
  ·cases h3:k==3
   ·cases h4:k==4
    ·cases h5:k==5
     ·simp only[yF,Bool.or_self];exact wr3_n ht hb (ofP_req ht hpk (by omega))
     ·simp only[yF,yT,Bool.or_true,Bool.or_self];rw[gdB hq,yG];exact wr3_n ht hb (ofP_req ht (by decide) (by omega))
    ·simp only[yF,yT,Bool.true_or];rw[gdB hq,yG];exact wr3_n ht hb (ofP_req ht (by decide) (by omega))
   ·have:k=3:=beq_iff_eq.1 h3;subst this;exact wr3_n ht hb (ofP_req ht hpk (by omega))
  ·have:k=2:=beq_iff_eq.1 h2;subst this;exact wr3_n ht hb (ofP_req ht hpk (by omega))
 have w1:∀me:List UInt8,wr1 (k,key,v,b,c,t,p,f,m,br,()) k key v c t b me=outW (k,key,v,b,c,t,p,f,m,br,()) (bif k==2 then putW else bif k==3 then delW else me,pathR k key,qryR (k,key,v,b,c,t,p,f,m,br,()),hdC c t++hdB b,b,()):=by
  intro me;unfold wr1 qryR bne;dsimp only;cases hz:v==0
  ·rw[Bool.not_false,yT,yF,gdT (show 8+(fmtN v).length≤1099511627776 by show 8+(Lib.itoa v).length≤_;omega),gdB (by rw[hv];rfl),yG];exact w2 me _ (by rw[List.length_append];show 8+(Lib.itoa v).length≤_;omega)
  ·rw[Bool.not_true,yF,yT];exact w2 me [] (Nat.zero_le _)
 unfold wr0;rw[gdT (by omega),yG,w1,w1];unfold reqR methR;dsimp only;cases br<;>rfl
end Nice
namespace Go.Proofs.YtldllfocpadkeaaGreatDoor
open Go Go.Eng Nice
set_option maxRecDepth 1000000
theorem query_c:PC 81 queryS:=(pureO (envS_ok (l:=[(79,itoaS),(127,joinS)]) ⟨itoa_c,join_c,trivial⟩) gl_ne Tryz.func81 (by kernel_rfl) (by decide)).nice fun⟨⟨k,key,v,b,c,t,p,f,m,br,()⟩,()⟩ h=>by
 have h5:qryP (k,key,v,b,c,t,p,f,m,br,())=true:=h;unfold qryP at h5;simp only[Bool.and_eq_true] at h5;show oquery _=_;rw[equery,query_w (sh1_le h5.1) (sh1_le h5.2.1) h5.2.2];rfl
theorem request_c:PC 41 requestS:=(pureO (envS_ok (l:=[(47,ofS),(80,fmtS),(81,queryS),(79,itoaS)]) ⟨aOfG_c,fmt_c,query_c,itoa_c,trivial⟩) gl_ne Tryz.func41 (by kernel_rfl) (by decide)).nice fun⟨⟨k,key,v,b,c,t,p,f,m,br,()⟩,()⟩ h=>by
 show orequest _=_;rw[erequest,request_w h];rfl
theorem amay_c:PC 17 amayS:=(pureO (envS_ok (l:=[(41,requestS)]) ⟨request_c,trivial⟩) gl_ne Tryz.func17 (by kernel_rfl) (by decide)).nice fun⟨⟨k,key,v,b,c,t,p,f,m,br,()⟩,()⟩ h=>by
 have h:askP (k,key,v,b,c,t,p,f,m,br,())=true:=h;show oamay _=_;rw[eamay,gdB h,gdB h,yG,yG];show _=some ((requestN _).2,());cases(requestN (k,key,v,b,c,t,p,f,m,br,())).2<;>rfl
end Go.Proofs.YtldllfocpadkeaaGreatDoor

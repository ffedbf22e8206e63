/-
  Part of the proof: NiceR Shelf15 Lib15 CScan LS1 CS2 PReq PMay LS2 LS3 LS4 LS5 LS10 FpA CS3 PLine. No condition.
-/
import Derived.Test.YtldllfocpadkeaaGreatDoorG4
import Derived.Lib.ItoaNum
import Derived.Lib.Join
import Derived.Shelf.LaysC
import Derived.Ground.GgwProg
import Derived.Shelf.Strconv.AtoiAll
import Derived.Test.YtldllfocpadkeaaGreatDoorProg
import Derived.Test.YtldllfocpadkeaaGreatDoorSym
import Derived.Test.YtldllfocpadkeaaGreatDoorG1
import Derived.Lib.AtoiErrMem
import Derived.Tactics2
import Derived.WalkKit
import Derived.Test.YtldllfocpadkeaaGreatDoorG2
import Derived.Test.YtldllfocpadkeaaGreatDoorG3
namespace Nice
open Go Go.Eng
def clW:List UInt8:=[67,111,110,116,101,110,116,45,76,101,110,103,116,104]
def verW1:List UInt8:=[118,101,114,115,105,111,110,115,61,49]
def zReq:ReqW:=([],[],[],[],[],())
def qPre (p:List UInt8):List (List UInt8):=bif p==[] then [] else [ePre++p]
def qAft (p:List UInt8):List (List UInt8):=bif p==[] then [] else [eAft++p]
def qMax (m:Int):List (List UInt8):=bif m==20 then [] else [eMax++Lib.itoa m]
def qKind (k:Int):List (List UInt8):=bif k==5 then [verW1] else []
def qParts (p a:List UInt8) (m k:Int):List (List UInt8):=qPre p++(qAft a++(qMax m++qKind k))
def queryN (a:AskD):List UInt8:=Lib.join (qParts a.2.2.2.2.2.2.1 a.2.2.2.2.2.2.2.1 a.2.2.2.2.2.2.2.2.1 a.1) [38]
def isL (k:Int):Bool:=k==4||k==5
def methR (k:Int) (b:Bool):List UInt8:=bif k==2 then putW else bif k==3 then delW else bif b then headW else getW
def pathR (k:Int) (key:List UInt8):List UInt8:=bif isL k then oW else ooW++key
def qryR (a:AskD):List UInt8:=bif isL a.1 then queryN a else bif a.2.2.1==0 then [] else vPre++Lib.itoa a.2.2.1
def hdC (c:Int) (t:List UInt8):HeadL:=bif c==1 then [(inmW,[42],())] else bif c==2 then [(imW,[34]++t++[34],())] else []
def hdB (b:List UInt8):HeadL:=bif b==[] then [] else [(clW,Lib.itoa (b.length:Int),())]
def reqR (a:AskD):ReqW:=(methR a.1 a.2.2.2.2.2.2.2.2.2.1,pathR a.1 a.2.1,qryR a,hdC a.2.2.2.2.1 a.2.2.2.2.2.1++hdB a.2.2.2.1,a.2.2.2.1,())
def eqA (a b:AskD):Bool:=a.1==b.1&&(a.2.1==b.2.1&&(a.2.2.1==b.2.2.1&&(a.2.2.2.1==b.2.2.2.1&&(a.2.2.2.2.1==b.2.2.2.2.1&&(a.2.2.2.2.2.1==b.2.2.2.2.2.1&&(a.2.2.2.2.2.2.1==b.2.2.2.2.2.2.1&&(a.2.2.2.2.2.2.2.1==b.2.2.2.2.2.2.2.1&&(a.2.2.2.2.2.2.2.2.1==b.2.2.2.2.2.2.2.2.1&&a.2.2.2.2.2.2.2.2.2.1==b.2.2.2.2.2.2.2.2.2.1))))))))
theorem eqA_iff {a b:AskD}:eqA a b=true↔a=b:=by
 obtain⟨a0,a1,a2,a3,a4,a5,a6,a7,a8,a9,⟨⟩⟩:=a;obtain⟨b0,b1,b2,b3,b4,b5,b6,b7,b8,b9,⟨⟩⟩:=b;simp[eqA]
def outR (a:AskD) (r:ReqW):ReqW×Bool:=bif (ofN r).2==0&&(eqA (ofN r).1 a&&decide ((a.2.2.2.1.length:Int)≤300)) then(r,true) else(zReq,false)
def requestN (a:AskD):ReqW×Bool:=outR a (reqR a)
def mayL (a:AskD):Bool:=a.2.1==[]&&(a.2.2.1==0&&(a.2.2.2.1==[]&&(a.2.2.2.2.1==0&&(a.2.2.2.2.2.1==[]&&(keyB a.2.2.2.2.2.2.1&&(keyB a.2.2.2.2.2.2.2.1&&(decide (1≤a.2.2.2.2.2.2.2.2.1)&&decide (a.2.2.2.2.2.2.2.2.1≤20))))))))
def mayC (a:AskD):Bool:=a.2.2.2.2.2.2.1==[]&&(a.2.2.2.2.2.2.2.1==[]&&(a.2.2.2.2.2.2.2.2.1==0&&(isKey a.2.1&&(decide (0≤a.2.2.1)&&decide (a.2.2.1≤1099511627776)))))
def mayG (a:AskD):Bool:=a.2.2.2.1==[]&&(a.2.2.2.2.1==0&&a.2.2.2.2.2.1==[])
def mayP (a:AskD):Bool:=decide ((a.2.2.2.1.length:Int)≤300)&&(a.2.2.1==0&&(!a.2.2.2.2.2.2.2.2.2.1&&(decide (0≤a.2.2.2.2.1)&&(decide (a.2.2.2.2.1≤2)&&(bif a.2.2.2.2.1==2 then(rRead a.2.2.2.2.2.1).2 else a.2.2.2.2.2.1==[])))))
def mayN (a:AskD):Bool:=bif isL a.1 then mayL a else mayC a&&(bif a.1==1 then mayG a else bif a.1==3 then mayG a&& !a.2.2.2.2.2.2.2.2.2.1 else bif a.1==2 then mayP a else false)
end Nice
namespace Nice
open Go Go.Eng
def i64P (n:Int):Bool:=decide (-9223372036854775808≤n)&&decide (n≤9223372036854775807)
def fmtN (n:Int):List UInt8:=Lib.itoa n
def joinN (l:List (List UInt8)) (s:List UInt8):List UInt8:=Lib.join l s
def joinP (l:List (List UInt8)) (s:List UInt8):Bool:=decide (l.length≤140737488355328)&&decide ((Lib.join l s).length≤140737488355328)
def sh1 (s:List UInt8):Bool:=decide (s.length≤1000)
def qryP (a:AskD):Bool:=sh1 a.2.2.2.2.2.2.1&&(sh1 a.2.2.2.2.2.2.2.1&&i64P a.2.2.2.2.2.2.2.2.1)
def askP (a:AskD):Bool:=(sh1 a.2.1&&(sh1 a.2.2.2.1&&(sh1 a.2.2.2.2.2.1&&i64P a.2.2.1)))&&qryP a
noncomputable def itoaS:PSpec:=⟨[.int .i64],[.str],fun x=>i64P x.1,fun x=>(fmtN x.1,())⟩
noncomputable def fmtS:PSpec:=⟨[.int .i64,.int .i64],[.str],fun x=>i64P x.1&&x.2.1==(10:Int),fun x=>(fmtN x.1,())⟩
noncomputable def joinS:PSpec:=⟨[.slice .str,.str],[.str],fun x=>joinP x.1 x.2.1,fun x=>(joinN x.1 x.2.1,())⟩
noncomputable def queryS:PSpec:=⟨[AskT],[.str],fun x=>qryP x.1,fun x=>(queryN x.1,())⟩
noncomputable def requestS:PSpec:=⟨[AskT],[ReqT,.bool],fun x=>askP x.1,fun x=>((requestN x.1).1,(requestN x.1).2,())⟩
end Nice
namespace Go.Proofs
open Go.Shelf
def Tryz.laysC172_ren:Go.Shelf.Ren:=⟨fun|172=>184|244=>257|245=>258|247=>264|279=>303|280=>304|281=>305|282=>306|287=>313|316=>335|171=>79|205=>336|321=>339|322=>340|243=>125|246=>126|283=>167|284=>168|285=>169|286=>170|129=>218|317=>217|318=>219|319=>220|320=>221|337=>280|338=>281|n=>n,fun|9=>9|3=>3|75=>209|76=>210|4=>4|5=>5|167=>337|37=>78|0=>0|85=>230|2=>2|168=>338|53=>144|175=>342|46=>262|210=>369|127=>264|145=>384|143=>382|21=>21|171=>199|173=>202|212=>258|51=>259|20=>20|213=>260|232=>356|233=>357|80=>75|n=>n,fun|15=>7|16=>8|17=>0|18=>5|19=>6|n=>n⟩
theorem Tryz.laysC172:Go.Proofs.LaysC.n172 Tryz.prog Tryz.laysC172_ren:={
 mixed:=by kernel_rfl
 f129:=Tryz.func218.trans (congrArg some (by kernel_rfl))
 f171:=Tryz.func79.trans (congrArg some (by kernel_rfl))
 f172:=Tryz.func184.trans (congrArg some (by kernel_rfl))
 f205:=Tryz.func336.trans (congrArg some (by kernel_rfl))
 f243:=Tryz.func125.trans (congrArg some (by kernel_rfl))
 f244:=Tryz.func257.trans (congrArg some (by kernel_rfl))
 f245:=Tryz.func258.trans (congrArg some (by kernel_rfl))
 f246:=Tryz.func126.trans (congrArg some (by kernel_rfl))
 f247:=Tryz.func264.trans (congrArg some (by kernel_rfl))
 f279:=Tryz.func303.trans (congrArg some (by kernel_rfl))
 f280:=Tryz.func304.trans (congrArg some (by kernel_rfl))
 f281:=Tryz.func305.trans (congrArg some (by kernel_rfl))
 f282:=Tryz.func306.trans (congrArg some (by kernel_rfl))
 f283:=Tryz.func167.trans (congrArg some (by kernel_rfl))
 f284:=Tryz.func168.trans (congrArg some (by kernel_rfl))
 f285:=Tryz.func169.trans (congrArg some (by kernel_rfl))
 f286:=Tryz.func170.trans (congrArg some (by kernel_rfl))
 f287:=Tryz.func313.trans (congrArg some (by kernel_rfl))
 f316:=Tryz.func335.trans (congrArg some (by kernel_rfl))
 f317:=Tryz.func217.trans (congrArg some (by kernel_rfl))
 f318:=Tryz.func219.trans (congrArg some (by kernel_rfl))
 f319:=Tryz.func220.trans (congrArg some (by kernel_rfl))
 f320:=Tryz.func221.trans (congrArg some (by kernel_rfl))
 f321:=Tryz.func339.trans (congrArg some (by kernel_rfl))
 f322:=Tryz.func340.trans (congrArg some (by kernel_rfl))
 f337:=Tryz.func280.trans (congrArg some (by kernel_rfl))
 f338:=Tryz.func281.trans (congrArg some (by kernel_rfl))
 t0:=Tryz.underlying0
 a0:=Tryz.isAgg0
 z0:=Tryz.sizeOf0
 v0:=Tryz.zeroValue0
 t2:=Tryz.underlying2
 a2:=Tryz.isAgg2
 z2:=Tryz.sizeOf2
 v2:=Tryz.zeroValue2
 t3:=Tryz.underlying3
 a3:=Tryz.isAgg3
 z3:=Tryz.sizeOf3
 v3:=Tryz.zeroValue3
 t4:=Tryz.underlying4
 a4:=Tryz.isAgg4
 z4:=Tryz.sizeOf4
 v4:=Tryz.zeroValue4
 t5:=Tryz.underlying5
 a5:=Tryz.isAgg5
 z5:=Tryz.sizeOf5
 v5:=Tryz.zeroValue5
 t9:=Tryz.underlying9
 a9:=Tryz.isAgg9
 z9:=Tryz.sizeOf9
 v9:=Tryz.zeroValue9
 t20:=Tryz.underlying20
 a20:=Tryz.isAgg20
 z20:=Tryz.sizeOf20
 v20:=Tryz.zeroValue20
 t21:=Tryz.underlying21
 a21:=Tryz.isAgg21
 z21:=Tryz.sizeOf21
 v21:=Tryz.zeroValue21
 t37:=Tryz.underlying78
 a37:=Tryz.isAgg78
 z37:=Tryz.sizeOf78
 v37:=Tryz.zeroValue78
 t46:=Tryz.underlying262
 a46:=Tryz.isAgg262
 z46:=Tryz.sizeOf262
 v46:=Tryz.zeroValue262
 t51:=Tryz.underlying259
 a51:=Tryz.isAgg259
 z51:=Tryz.sizeOf259
 v51:=Tryz.zeroValue259
 t53:=Tryz.underlying144
 a53:=Tryz.isAgg144
 z53:=Tryz.sizeOf144
 v53:=Tryz.zeroValue144
 t75:=Tryz.underlying209
 a75:=Tryz.isAgg209
 z75:=Tryz.sizeOf209
 v75:=Tryz.zeroValue209
 t76:=Tryz.underlying210
 a76:=Tryz.isAgg210
 z76:=Tryz.sizeOf210
 v76:=Tryz.zeroValue210
 t85:=Tryz.underlying230
 a85:=Tryz.isAgg230
 z85:=Tryz.sizeOf230
 v85:=Tryz.zeroValue230
 t127:=Tryz.underlying264
 a127:=Tryz.isAgg264
 z127:=Tryz.sizeOf264
 v127:=Tryz.zeroValue264
 t143:=Tryz.underlying382
 a143:=Tryz.isAgg382
 z143:=Tryz.sizeOf382
 v143:=Tryz.zeroValue382
 t145:=Tryz.underlying384
 a145:=Tryz.isAgg384
 z145:=Tryz.sizeOf384
 v145:=Tryz.zeroValue384
 t167:=Tryz.underlying337
 a167:=Tryz.isAgg337
 z167:=Tryz.sizeOf337
 v167:=Tryz.zeroValue337
 t168:=Tryz.underlying338
 a168:=Tryz.isAgg338
 z168:=Tryz.sizeOf338
 v168:=Tryz.zeroValue338
 t171:=Tryz.underlying199
 a171:=Tryz.isAgg199
 z171:=Tryz.sizeOf199
 v171:=Tryz.zeroValue199
 t173:=Tryz.underlying202
 a173:=Tryz.isAgg202
 z173:=Tryz.sizeOf202
 v173:=Tryz.zeroValue202
 t175:=Tryz.underlying342
 a175:=Tryz.isAgg342
 z175:=Tryz.sizeOf342
 v175:=Tryz.zeroValue342
 t210:=Tryz.underlying369
 a210:=Tryz.isAgg369
 z210:=Tryz.sizeOf369
 v210:=Tryz.zeroValue369
 t212:=Tryz.underlying258
 a212:=Tryz.isAgg258
 z212:=Tryz.sizeOf258
 v212:=Tryz.zeroValue258
 t213:=Tryz.underlying260
 a213:=Tryz.isAgg260
 z213:=Tryz.sizeOf260
 t232:=Tryz.underlying356
 a232:=Tryz.isAgg356
 z232:=Tryz.sizeOf356
 v232:=Tryz.zeroValue356
 t233:=Tryz.underlying357
 a233:=Tryz.isAgg357
 z233:=Tryz.sizeOf357
 v233:=Tryz.zeroValue357
 g15:=by kernel_rfl
 g16:=by kernel_rfl
 g17:=by kernel_rfl
 g18:=by kernel_rfl
 g19:=by kernel_rfl
 t80:=Tryz.underlying75
 a80:=Tryz.isAgg75
 z80:=Tryz.sizeOf75
 v80:=Tryz.zeroValue75
 i0:=by kernel_rfl
 i2:=by kernel_rfl
 i3:=by kernel_rfl
 i4:=by kernel_rfl
 i5:=by kernel_rfl
 i9:=by kernel_rfl
 i20:=by kernel_rfl
 i21:=by kernel_rfl
 i37:=by kernel_rfl
 i46:=by kernel_rfl
 i51:=by kernel_rfl
 i53:=by kernel_rfl
 i75:=by kernel_rfl
 i76:=by kernel_rfl
 i80:=by kernel_rfl
 i85:=by kernel_rfl
 i127:=by kernel_rfl
 i143:=by kernel_rfl
 i145:=by kernel_rfl
 i167:=by kernel_rfl
 i168:=by kernel_rfl
 i171:=by kernel_rfl
 i173:=by kernel_rfl
 i175:=by kernel_rfl
 i210:=by kernel_rfl
 i212:=by kernel_rfl
 i232:=by kernel_rfl
 i233:=by kernel_rfl
 m15:=by kernel_rfl
 m16:=by kernel_rfl
 m17:=by kernel_rfl
 m18:=by kernel_rfl
 m19:=by kernel_rfl
 c0:=by kernel_rfl
 c2:=by kernel_rfl
 c3:=by kernel_rfl
 c4:=by kernel_rfl
 c5:=by kernel_rfl
 c9:=by kernel_rfl
 c20:=by kernel_rfl
 c21:=by kernel_rfl
 c37:=by kernel_rfl
 c46:=by kernel_rfl
 c51:=by kernel_rfl
 c53:=by kernel_rfl
 c75:=by kernel_rfl
 c76:=by kernel_rfl
 c80:=by kernel_rfl
 c85:=by kernel_rfl
 c127:=by kernel_rfl
 c143:=by kernel_rfl
 c145:=by kernel_rfl
 c167:=by kernel_rfl
 c168:=by kernel_rfl
 c171:=by kernel_rfl
 c173:=by kernel_rfl
 c175:=by kernel_rfl
 c210:=by kernel_rfl
 c212:=by kernel_rfl
 c213:=by kernel_rfl
 c232:=by kernel_rfl
 c233:=by kernel_rfl}
open Go.RowKit in
theorem Tryz.strconv_Atoi_ok (s:ByteArray) (hmax:s.size≤9223372036854775806) (v:Int) (h:Lib.atoiAll s.data.toList=.ok v) (w:World):
 Calls Tryz.prog 184 #[.string s] w fun e w'=>e=.returned (.tuple #[.int .i64 v,.nilIface])∧(w'=w∨∃t,w'=Lib.bytesWorld w 5 t):=Any.strconv_Atoi_ok Tryz.laysC172 s hmax v h w
open Go.RowKit in
theorem Tryz.strconv_Atoi_syntax (s:ByteArray) (hlim:s.size≤281474976710656) (h:Lib.atoiAll s.data.toList=Lib.NumEnd.syntax) (ev:Value) (w:World) (hv:w.cell? ⟨7,0,none⟩=some ev) (hev:ev=.nilIface∨∃te pe,ev=.iface te pe):
 Calls Tryz.prog 184 #[.string s] w fun e w'=>∃N,e=.returned (.tuple #[.int .i64 (0),.iface 338 (.pointer (some ⟨N,0,none⟩))])∧w.heap.size≤N∧w'.heap[N]?=some (.cells #[.string ⟨#[65,116,111,105]⟩,.string s,ev] 369 (0,0))∧Below w.heap.size w w':=Any.strconv_Atoi_syntax Tryz.laysC172 s hlim h ev w hv hev
open Go.RowKit in
theorem Tryz.strconv_Atoi_range (s:ByteArray) (hlim:s.size≤281474976710656) (h:Lib.atoiAll s.data.toList=.range) (ev:Value) (w:World) (hv:w.cell? ⟨8,0,none⟩=some ev) (hev:ev=.nilIface∨∃te pe,ev=.iface te pe):
 Calls Tryz.prog 184 #[.string s] w fun e w'=>∃N,e=.returned (.tuple #[.int .i64 (Lib.atoiSat s.data.toList),.iface 338 (.pointer (some ⟨N,0,none⟩))])∧w.heap.size≤N∧w'.heap[N]?=some (.cells #[.string ⟨#[65,116,111,105]⟩,.string s,ev] 369 (0,0))∧Below w.heap.size w w':=Any.strconv_Atoi_range Tryz.laysC172 s hlim h ev w hv hev
end Go.Proofs
namespace Go.Proofs.YtldllfocpadkeaaGreatDoor
open Go Go.Eng Nice Go.RowKit
set_option maxRecDepth 1000000
theorem glE {v:Value} (h:glR (er false) v):v=.nilIface∨∃te pe,v=.iface te pe:=by
 rcases h with⟨hp,_⟩|⟨b,_,he⟩|⟨k,m,he,_⟩
 ·cases hp
 ·unfold isE at he
  split at he
  ·exact .inl rfl
  ·exact .inr ⟨_,_,rfl⟩
  ·cases he
 ·cases he
theorem same_of {w w':World} (h:Below w.heap.size w w'):Same w w':=⟨h.size,h.os,h.output,fun b hb=>h.block b hb⟩
theorem bs_data (s:List UInt8):(bs s).data.toList=s:=by simp[bs]
theorem bs_len (s:List UInt8):(bs s).size=s.length:=by simp[bs,ByteArray.size]
theorem pc_mk {f:FuncId} {S:PSpec} (h:∀(fz:Nat→Option (Array Value)) (w:World) (args:Array Value) (x:DenL S.ts),GlW glC w→RdAll fz S.ts x args.toList→S.pre x=true→
  Calls Tryz.prog f args w fun e w'=>∃vs,e=.returned (resV vs)∧RdAll fz S.rs (S.g x) vs∧Same w w'):PC f S:=by
 intro fz w args x hfz hgl hr hp;refine(h fz w args x hgl hr hp).mono ?_;rintro e w' ⟨vs,rfl,hv,hs⟩;have hlt:∀b c,fz b=some c→b<w.heap.size:=fun b c hb=>by
  obtain⟨e,fr,h⟩:=hfz b c hb;exact(Array.getElem?_eq_some_iff.1 h).1
 exact⟨vs,fz,rfl,fun _ _ h=>h,hfz.keep fun b c hb=>hs.2.2.2 b (hlt b c hb),fun _ _ h=>.inl h,hv,hs⟩
theorem rd_cons {fz:Nat→Option (Array Value)} {t:Ty} {ts:List Ty} {x:DenL (t::ts)} {l:List Value} (ht:t.agg=false) (h:RdAll fz (t::ts) x l):∃v r,l=v::r∧RdC fz t x.1 [v]∧RdAll fz ts x.2 r:=by
 obtain⟨v,r,e,hv,hr⟩:=h;rcases hv with⟨h,_⟩|⟨_,hv⟩
 ·rw[ht] at h;cases h
 ·exact⟨v,r,e,hv,hr⟩
theorem atoi_c:PC 184 atoiS:=by
 intro fz w args x hfz hgl hr hp;obtain⟨s,⟨⟩⟩:=x;have hl:s.length≤140737488355328:=of_decide_eq_true hp;have ha:args=#[.string (bs s)]:=by
  obtain⟨v,r,e1,hv,hr⟩:=hr;rcases hv with⟨h,_⟩|⟨_,hv⟩
  ·cases h
  ·cases hv;cases hr;exact Array.toList_inj.1 e1
 subst ha;have fin:∀(n:Int) (ev:Value) (b:Bool) (w':World),isE b ev=true→Same w w'→atoiN s=(n,b)→∃vs fz',(Ending.returned (.tuple #[.int .i64 n,ev])=.returned (resV vs))∧(∀b c,fz b=some c→fz' b=some c)∧FzOK fz' w'∧(∀b c,fz' b=some c→fz b=some c∨w.heap.size≤b)∧RdAll fz' atoiS.rs (atoiS.g (s,())) vs∧Same w w':=by
  intro n ev b w' he hs hn;have hlt:∀b c,fz b=some c→b<w.heap.size:=fun b c hb=>by
   obtain⟨e,fr,h⟩:=hfz b c hb;exact(Array.getElem?_eq_some_iff.1 h).1
  refine⟨[.int .i64 n,ev],fz,rfl,fun _ _ h=>h,hfz.keep fun b c hb=>hs.2.2.2 b (hlt b c hb),fun _ _ h=>.inl h,?_,hs⟩;refine⟨_,_,rfl,.inr ⟨rfl,?_⟩,_,_,rfl,.inr ⟨rfl,?_⟩,rfl⟩
  ·show [Value.int .i64 n]=[Value.int .i64 (atoiN s).1];rw[hn]
  ·exact⟨ev,rfl,by show isE (atoiN s).2 ev=true;rw[hn];exact he⟩
 have hb:∀(p:Nat),(p,[er false])∈glC→∃u,w.cell? ⟨p,0,none⟩=some u∧(u=.nilIface∨∃te pe,u=.iface te pe):=fun p hm=>by
  obtain⟨u,hu,hg⟩:=hgl.1 _ hm 0 (er false) rfl;exact⟨u,hu,glE hg⟩
 rcases h:Lib.atoiAll s with v|_|_
 ·refine(Tryz.strconv_Atoi_ok (bs s) (by rw[bs_len];omega) v (by rw[bs_data];exact h) w).mono ?_;rintro e w' ⟨rfl,hw⟩;refine fin v .nilIface true w' rfl ?_ (by unfold atoiN;rw[h]);rcases hw with rfl|⟨t,rfl⟩
  ·exact same_of (Below.refl _ _)
  ·exact same_of (Lib.bytesWorld_below _ _ _)
 ·obtain⟨u,hu,hi⟩:=hb 7 (by simp[glC]);refine(Tryz.strconv_Atoi_syntax (bs s) (by rw[bs_len];omega) (by rw[bs_data];exact h) u w hu hi).mono ?_;rintro e w' ⟨N,rfl,_,_,hbl⟩;exact fin 0 _ false w' rfl (same_of hbl) (by unfold atoiN;rw[h])
 ·obtain⟨u,hu,hi⟩:=hb 8 (by simp[glC]);refine(Tryz.strconv_Atoi_range (bs s) (by rw[bs_len];omega) (by rw[bs_data];exact h) u w hu hi).mono ?_;rintro e w' ⟨N,rfl,_,_,hbl⟩;rw[bs_data];exact fin _ _ false w' rfl (same_of hbl) (by unfold atoiN;rw[h])
end Go.Proofs.YtldllfocpadkeaaGreatDoor
namespace Go.Proofs.YtldllfocpadkeaaGreatDoor
open Go Go.Eng Nice
set_option maxRecDepth 1000000
theorem cap_c:PC 163 capS:=(pureO (envS_ok (l:=[]) trivial) gl_ne Tryz.func163 (by kernel_rfl) (by decide)).nice fun⟨c,()⟩ _=>cap_n c
theorem slower_c:PC 128 lowerS:=(pureO (envS_ok (l:=[(163,capS)]) ⟨cap_c,trivial⟩) gl_ne Tryz.func128 (by kernel_rfl) (by decide)).nice fun⟨s,()⟩ h=>slower_n s h
theorem sval_c:PC 84 valueS:=(pureO (envS_ok (l:=[(128,lowerS)]) ⟨slower_c,trivial⟩) gl_ne Tryz.func84 (by kernel_rfl) (by decide)).nice fun⟨r,s,()⟩ h=>sval_n r s h
theorem cut_c:PC 28 cutS:=(pureO (envS_ok (l:=[]) trivial) gl_ne Tryz.func28 (by kernel_rfl) (by decide)).nice fun⟨s,n,()⟩ h=>cut_n s n (of_decide_eq_true h)
theorem snum_of (h:PC 184 atoiS):PC 130 scanNumS:=(pureO (envS_ok (l:=[(184,atoiS)]) ⟨h,trivial⟩) gl_ne Tryz.func130 (by kernel_rfl) (by decide)).nice fun⟨s,()⟩ h=>snum_n s h
theorem slen_of (h:PC 184 atoiS):PC 86 scanLenS:=(pureO (envS_ok (l:=[(84,valueS),(130,scanNumS)]) ⟨sval_c,snum_of h,trivial⟩) gl_ne Tryz.func86 (by kernel_rfl) (by decide)).nice fun⟨r,()⟩ h=>slen_n r h
theorem snum_c:PC 130 scanNumS:=snum_of atoi_c
theorem slen_c:PC 86 scanLenS:=slen_of atoi_c
end Go.Proofs.YtldllfocpadkeaaGreatDoor
namespace Go.Proofs.YtldllfocpadkeaaGreatDoor
open Go Go.Eng Nice
set_option maxRecDepth 1000000
theorem u8_all {p:UInt8→Bool} (h:(List.range 256).all (fun n=>p (UInt8.ofNat n))=true) (c:UInt8):p c=true:=by
 have:=List.all_eq_true.1 h c.toNat (List.mem_range.2 c.toNat_lt);simpa using this
def is1 (r:Option (DenL [.bool])) (b:Bool):Bool:=match r with
 |some (x,_)=>x==b
 |none=>false
theorem is1_eq {r:Option (DenL [.bool])} {b:Bool} (h:is1 r b=true):r=some (b,()):=by
 unfold is1 at h
 split at h
 ·rename_i x u;rw[beq_iff_eq] at h;subst h;rfl
 ·cases h
theorem vis_n (c:UInt8):ovis (c,())=some (isVis c,()):=is1_eq (u8_all (p:=fun c=>is1 (ovis (c,())) (isVis c)) (by kernel_rfl) c)
noncomputable def tokG (bb:Bool) (x0:UInt8):Option (DenL [.bool]):=
  (bif isCap (UInt8.ofNat (↑x0.toNat:Int).toNat) then
 (gd [bb] (some (true,())))
  else
 (bif decide ((↑x0.toNat:Int)≥(97:Int)) then
 (bif decide ((↑x0.toNat:Int)≤(122:Int)) then
 (gd [bb] (some (true,())))
 else
 (bif decide ((↑x0.toNat:Int)≥(48:Int)) then
 (bif decide ((↑x0.toNat:Int)≤(57:Int)) then
 (gd [bb] (some (true,())))
 else
 (bif (↑x0.toNat:Int)==(45:Int) then
 (gd [bb] (some (true,())))
 else
 (gd [bb] (some (false,())))))
 else
 (bif (↑x0.toNat:Int)==(45:Int) then
 (gd [bb] (some (true,())))
 else
 (gd [bb] (some (false,()))))))
 else
 (bif decide ((↑x0.toNat:Int)≥(48:Int)) then
 (bif decide ((↑x0.toNat:Int)≤(57:Int)) then
 (gd [bb] (some (true,())))
 else
 (bif (↑x0.toNat:Int)==(45:Int) then
 (gd [bb] (some (true,())))
 else
 (gd [bb] (some (false,())))))
 else
 (bif (↑x0.toNat:Int)==(45:Int) then
 (gd [bb] (some (true,())))
 else
 (gd [bb] (some (false,())))))))
theorem tok_n (c:UInt8):otok (c,())=some (isTok c,()):=by
 have hi:decide (inK .u8 (c.toNat:Int))=true:=decide_eq_true (inK_u8.2 (by have:=c.toNat_lt;omega));have e:otok (c,())=tokG (decide (inK .u8 (c.toNat:Int))) c:=by rw[otok_g,etok_g];rfl
 rw[e,hi];exact is1_eq (u8_all (p:=fun c=>is1 (tokG true c) (isTok c)) (by kernel_rfl) c)
theorem vis_c:PC 165 visS:=(pureO (envS_ok (l:=[]) trivial) gl_ne Tryz.func165 (by kernel_rfl) (by decide)).nice fun⟨c,()⟩ _=>vis_n c
theorem tok_c:PC 215 tokS:=(pureO (envS_ok (l:=[(163,capS)]) ⟨cap_c,trivial⟩) gl_ne Tryz.func215 (by kernel_rfl) (by decide)).nice fun⟨c,()⟩ _=>tok_n c
noncomputable def oasc (x:Unit) (y:UInt8×Unit):Option (Unit×Bool×Unit):=fOO Tryz.prog (envO [] []) (shOf []) Tryz.f211 sigAs x y
def is2 (r:Option (Unit×Bool×Unit)) (b:Bool):Bool:=match r with
 |some (_,x,_)=>x==b
 |none=>false
theorem is2_eq {r:Option (Unit×Bool×Unit)} {b:Bool} (h:is2 r b=true):r=some ((),b,()):=by
 unfold is2 at h
 split at h
 ·rename_i x u;rw[beq_iff_eq] at h;subst h;rfl
 ·cases h
theorem asc_n (c:UInt8):oasc () (c,())=some ((),isSp c,()):=is2_eq (u8_all (p:=fun c=>is2 (oasc () (c,())) (isSp c)) (by kernel_rfl) c)
theorem asc_c:OC 211 isSpS:=(objO (S:=sigAs) (sh:=shOf []) (envO_ok (l:=[]) (o:=[]) trivial trivial) gl_ne Tryz.func211 (by kernel_rfl) (by decide)).nice fun x ⟨c,()⟩ _=>asc_n c
theorem getD0 (c:UInt8) (r:List UInt8):(c::r).getD 0 0=c:=by simp
theorem trL_l (t4:List UInt8):∀(s:List UInt8) (n:Nat),s.length≤140737488355328→s.length<n→htrL_0 n s t4=some ((),trimL s,())
 |[],n,hl,hn=>by
  obtain⟨m,rfl⟩:∃m,n=m+1:=⟨n-1,by omega⟩
  rw[etrL_0,cdF (by simp)];rfl
 |c::r,n,hl,hn=>by
  obtain⟨m,rfl⟩:∃m,n=m+1:=⟨n-1,by omega⟩
  simp only[List.length_cons] at hl hn;have hc:=c.toNat_lt;rw[etrL_0];simp only[List.length_cons,getD0,List.drop_succ_cons,List.drop_zero,UInt8.ofNat_toNat,Int.toNat_natCast];rw[cdT (by omega),trL_l t4 r m (by omega) (by omega)];cases hs:isSp c
  ·rw[cond_false,gdT (inK_u8.2 ⟨by omega,by omega⟩),gdT (by omega),gd_nil];simp only[trimL,List.dropWhile_cons,hs,Bool.false_eq_true,if_false]
  ·rw[cond_true,gdT (by omega),gdT (inK_u8.2 ⟨by omega,by omega⟩),gdT (by omega),gd_nil];simp only[trimL,List.dropWhile_cons,hs,if_true]
theorem trimR_snoc (r:List UInt8) (c:UInt8):trimR (r++[c])=if isSp c then trimR r else r++[c]:=by
 simp only[trimR,List.reverse_append,List.reverse_cons,List.reverse_nil,List.nil_append,List.singleton_append,List.dropWhile_cons];cases isSp c<;>simp
theorem trR_l (t4:List UInt8):∀(k:Nat) (s:List UInt8) (n:Nat),s.length=k→k≤140737488355328→k<n→htrR_0 n s t4=some ((),trimR s,())
 |0,s,n,hk,hl,hn=>by
  obtain⟨m,rfl⟩:∃m,n=m+1:=⟨n-1,by omega⟩
  obtain rfl:=List.length_eq_zero_iff.1 hk;rw[etrR_0,cdF (by simp)];rfl
 |k+1,s,n,hk,hl,hn=>by
  obtain⟨m,rfl⟩:∃m,n=m+1:=⟨n-1,by omega⟩
  obtain⟨r,c,rfl⟩:∃r c,s=r++[c]:=by
   rcases List.eq_nil_or_concat s with h|⟨r,c,h⟩
   ·rw[h] at hk;simp at hk
   ·exact⟨r,c,by rw[h,List.concat_eq_append]⟩
  simp only[List.length_append,List.length_singleton] at hk;have hr:r.length=k:=by omega
  have hc:=c.toNat_lt;have e1:(((r++[c]).length:Int)-1).toNat=r.length:=by simp
  have e2:(r++[c]).getD r.length 0=c:=getD_mid r [] c 0;have e3:(r++[c]).take r.length=r:=by simp
  rw[etrR_0,e1,e2,e3];simp only[List.length_append,List.length_singleton,Int.toNat_natCast,UInt8.ofNat_toNat,Int.natCast_add,Int.natCast_one];rw[cdT (by omega),trR_l t4 k r m hr (by omega) (by omega)];cases hs:isSp c
  ·rw[cond_false,gdT (inK_u8.2 ⟨by omega,by omega⟩),gdT (by omega),gdT (by omega),gdT (inK_i64.2 ⟨by omega,by omega⟩),gd_nil];rw[trimR_snoc,hs];rfl
  ·rw[cond_true,gdT (by omega),gdT (by omega),gdT (inK_i64.2 ⟨by omega,by omega⟩),gdT (inK_u8.2 ⟨by omega,by omega⟩),gdT (by omega),gdT (by omega),gdT (inK_i64.2 ⟨by omega,by omega⟩),gd_nil];rw[trimR_snoc,hs];rfl
theorem trL_c:OC 156 trimLS:=(objO (S:=sigTr) (sh:=shOf shtrL) (envO_ok (l:=[]) (o:=[(211,isSpS)]) trivial ⟨asc_c,trivial⟩) gl_ne Tryz.func156 (by kernel_rfl) (by decide)).nice fun x ⟨s,()⟩ h=>by
 have h:s.length≤140737488355328:=of_decide_eq_true h;show otrL () (s,())=_;rw[otrL_g,etrL_g,trL_l [] s heads0 h (by unfold heads0;omega)]
theorem trR_c:OC 157 trimRS:=(objO (S:=sigTr) (sh:=shOf shtrR) (envO_ok (l:=[]) (o:=[(211,isSpS)]) trivial ⟨asc_c,trivial⟩) gl_ne Tryz.func157 (by kernel_rfl) (by decide)).nice fun x ⟨s,()⟩ h=>by
 have h:s.length≤140737488355328:=of_decide_eq_true h;show otrR () (s,())=_;rw[otrR_g,etrR_g,trR_l [] s.length s heads0 rfl h (by unfold heads0;omega)]
theorem trimR_len (s:List UInt8):(trimR s).length≤s.length:=by
 unfold trimR;rw[List.length_reverse];have:=(List.dropWhile_sublist isSp (l:=s.reverse)).length_le;rwa[List.length_reverse] at this
theorem trim_c:PC 116 trimS:=(pureO (envO_ok (l:=[]) (o:=[(156,trimLS),(157,trimRS)]) trivial ⟨trL_c,trR_c,trivial⟩) gl_ne Tryz.func116 (by kernel_rfl) (by decide)).nice (g:=otrim) fun⟨s,c,()⟩ h=>by
 simp only[trimS,Bool.and_eq_true,beq_iff_eq] at h;obtain⟨rfl,h⟩:=h;have h:s.length≤140737488355328:=of_decide_eq_true h;have hr:=trimR_len s;rw[otrim_g,etrim_g];cases hs:s==[]
 ·rw[cond_false,gdT (by omega),gdT h,gd_nil]
 ·have:s=[]:=by simpa using hs
  subst this;rfl
theorem long_n (x:ScanD) (c:UInt8):olong x (c,())=some (x,longN x c,()):=by
 obtain⟨st,su,li,at',tx,⟨m,p,q,hs,b,⟨⟩⟩,le,ou,⟨⟩⟩:=x;rw[olong_g,elong_g];simp only[longN];by_cases h1:c.toNat=13
 ·rw[if_pos (.inl h1),show((↑c.toNat:Int)==13)=true by rw[h1];rfl];rfl
 rw[show((↑c.toNat:Int)==13)=false from beq_eq_false_iff_ne.2 (by omega),cond_false];by_cases h2:st≥7
 ·rw[if_pos (.inr (.inl h2)),cdT h2]
 rw[cdF h2];by_cases h3:st=4
 ·rw[if_pos (.inr (.inr h3)),show(st==4)=true from beq_iff_eq.2 h3];rfl
 rw[show(st==4)=false from beq_eq_false_iff_ne.2 h3,cond_false,if_neg (by omega)];by_cases h4:st<5
 ·rw[cdT h4];by_cases h5:li≥200
  ·rw[cdT h5,if_pos ⟨h4,h5⟩]
  ·rw[cdF h5,cdF (by omega),show(st==5)=false from beq_eq_false_iff_ne.2 (by omega),cond_false,if_neg (by omega),if_neg (by omega),if_neg (by omega)]
 ·rw[cdF h4,cdT (by omega),if_neg (by omega)];by_cases h6:li≥120
  ·rw[cdT h6,if_pos ⟨by omega,h6⟩]
  ·rw[cdF h6,if_neg (by omega)];by_cases h7:st=5
   ·rw[show(st==5)=true from beq_iff_eq.2 h7,cond_true];by_cases h8:li=0
    ·rw[show(li==0)=true from beq_iff_eq.2 h8,cond_true];by_cases h9:(hs.length:Int)≥10
     ·rw[cdT h9,if_pos ⟨h7,h8,h9⟩]
     ·rw[cdF h9,if_neg fun h=>h9 h.2.2]
    ·rw[show(li==0)=false from beq_eq_false_iff_ne.2 h8,cond_false,if_neg fun h=>h8 h.2.1]
   ·rw[show(st==5)=false from beq_eq_false_iff_ne.2 h7,cond_false,if_neg fun h=>h7 h.1]
theorem long_c:OC 161 longS:=(objO (S:=sigB) (sh:=shOf shlong) (envO_ok (l:=[]) (o:=[]) trivial trivial) gl_ne Tryz.func161 (by kernel_rfl) (by decide)).nice fun x ⟨c,()⟩ _=>long_n x c
end Go.Proofs.YtldllfocpadkeaaGreatDoor
namespace Go.Proofs.YtldllfocpadkeaaGreatDoor
open Go Go.Eng Nice
set_option maxRecDepth 1000000
theorem heads_c:OC 216 headsS:=hidO (objO (S:=sig0) (sh:=shOf shheads) (envO_ok (l:=[(128,lowerS),(130,scanNumS),(86,scanLenS)]) (o:=[]) ⟨slower_c,snum_c,slen_c,trivial⟩ trivial) gl_ne Tryz.func216 (by kernel_rfl) (by decide)) (g:=oheads) (hid_eq _) (hid_eq _)
theorem lines_c:OC 162 linesS:=hidO (objO (S:=sigB) (sh:=shOf shlines) (envO_ok (l:=[(215,tokS),(116,trimS)]) (o:=[(216,headsS)]) ⟨tok_c,trim_c,trivial⟩ ⟨heads_c,trivial⟩) gl_ne Tryz.func162 (by kernel_rfl) (by decide)) (g:=olines) (hid_eq _) (hid_eq _)
theorem step_c:OC 121 stepS:=hidO (objO (S:=sigB) (sh:=shOf shstep) (envO_ok (l:=[(163,capS),(165,visS)]) (o:=[(161,longS),(162,linesS)]) ⟨cap_c,vis_c,trivial⟩ ⟨long_c,lines_c,trivial⟩) gl_ne Tryz.func121 (by kernel_rfl) (by decide)) (g:=ostep) (hid_eq _) (hid_eq _)
theorem feed_c:OC 71 feedS:=hidO (objO (S:=sigF) (sh:=shOf shfeed) (envO_ok (l:=[]) (o:=[(121,stepS)]) trivial ⟨step_c,trivial⟩) gl_ne Tryz.func71 (by kernel_rfl) (by decide)) (g:=ofeed) (hid_eq _) (hid_eq _)
end Go.Proofs.YtldllfocpadkeaaGreatDoor
namespace Nice
open Go Go.Eng
theorem numV_snoc (s:List UInt8) (c:UInt8):numV (s++[c])=numV s*10+(c.toNat-48):=by
 unfold numV;rw[List.foldl_append];rfl
theorem allDig_snoc (s:List UInt8) (c:UInt8):allDig (s++[c])=(allDig s&&isDig c):=by
 unfold allDig;rw[List.all_append];simp
theorem digOf {k:Nat} (h:k<10):(UInt8.ofNat (48+k)).toNat=48+k:=by
 rw[UInt8.toNat_ofNat'];omega
theorem isDig_of {k:Nat} (h:k<10):isDig (UInt8.ofNat (48+k))=true:=by
 rw[isDig_iff,digOf h];omega
theorem dec_ok (u:Nat):allDig (Lib.decDigits u)=true∧numV (Lib.decDigits u)=u∧Lib.decDigits u≠[]∧(1≤u→(Lib.decDigits u).getD 0 0≠48):=by
 induction u using Nat.strongRecOn with
 |_ u ih=>
  by_cases h:u<10
  ·rw[Lib.decDigits_one h];refine⟨?_,?_,by simp,fun h1 e=> ?_⟩
   ·show(isDig (UInt8.ofNat (48+u))&&true)=true;rw[isDig_of h];rfl
   ·show 0*10+((UInt8.ofNat (48+u)).toNat-48)=u;rw[digOf h];omega
   ·have:=congrArg UInt8.toNat (show UInt8.ofNat (48+u)=48 from e);rw[digOf h] at this;have e2:(48:UInt8).toNat=48:=rfl;omega
  ·obtain⟨i1,i2,i3,i4⟩:=ih (u/10) (by omega);rw[Lib.decDigits,dif_neg h];refine⟨?_,?_,by simp,fun _=> ?_⟩
   ·rw[allDig_snoc,i1,isDig_of (by omega)];rfl
   ·rw[numV_snoc,i2,digOf (by omega)];omega
   ·have:=i4 (by omega)
    revert this i3
    generalize Lib.decDigits (u/10)=d;intro i3 this;cases d with
    |nil=>exact absurd rfl i3
    |cons c r=>exact this
theorem itoa_nat (u:Nat):Lib.itoa (u:Int)=Lib.decDigits u:=by
 unfold Lib.itoa;rw[if_neg (by omega)];rfl
theorem intN_itoa {u:Nat} (h:u<9223372036854775808):intN (Lib.itoa (u:Int))=((u:Int),true):=by
 obtain⟨d1,d2,d3,_⟩:=dec_ok u;rw[itoa_nat,(intN_dig d1 d3).1 (by rw[d2];exact h),d2]
theorem numN_itoa {u:Nat} (most lo hi:Int) (h:u<9223372036854775808):numN (Lib.itoa (u:Int)) most lo hi=((u:Int),decide (((Lib.itoa (u:Int)).length:Int)≤most)&&(decide ((u:Int)≥lo)&&decide ((u:Int)≤hi))):=by
 unfold numN;rw[intN_itoa h];have:allDig (Lib.itoa (u:Int))=true:=by rw[itoa_nat];exact(dec_ok u).1
 rw[this,Bool.true_and,Bool.true_and]
theorem itoa_len2 {u:Nat} (h:u<100):(Lib.itoa (u:Int)).length≤2:=by
 rw[itoa_nat];by_cases h1:u<10
 ·rw[Lib.decDigits_one h1];exact Nat.le_succ 1
 ·rw[Lib.decDigits_two h1 h];exact Nat.le_refl 2
theorem ver_itoa {u:Nat} (h0:1≤u) (h1:u≤1099511627776):verN (vPre++Lib.itoa (u:Int))=((u:Int),true):=by
 have hc:cutPre (vPre++Lib.itoa (u:Int)) vPre=(Lib.itoa (u:Int),true):=by
  unfold cutPre;rw[hasPre_app,cond_true,List.drop_left]
 unfold verN;rw[hc];dsimp only;rw[numN_itoa _ _ _ (by omega)];have h48:((Lib.itoa (u:Int)).getD 0 0==48)=false:=by
  rw[itoa_nat];exact beq_eq_false_iff_ne.2 ((dec_ok u).2.2.2 h0)
 rw[h48,decide_eq_true (Int.le_refl _),decide_eq_true (show(u:Int)≥1 by omega),decide_eq_true (show(u:Int)≤1099511627776 by omega)];rfl
theorem max_itoa {u:Nat} (h0:1≤u) (h1:u≤20):numN (Lib.itoa (u:Int)) 2 1 20=((u:Int),true):=by
 have:=itoa_len2 (u:=u) (by omega);rw[numN_itoa _ _ _ (by omega),decide_eq_true (show((Lib.itoa (u:Int)).length:Int)≤2 by omega),decide_eq_true (show(u:Int)≥1 by omega),decide_eq_true (show(u:Int)≤20 by omega)];rfl
theorem split_app {x t:List UInt8} (h:hasB 38 x=false):splitN (x++38::t)=x::splitN t:=by
 have hy:hasB 38 (x++38::t)=true:=by rw[hasB_app];simp[hasB]
 have hu:upTo 38 (x++38::t)=x:=upTo_app h;unfold splitN;rw[split1_yes 38 _ hy,hu];congr 2;rw[show x++(38:UInt8)::t=(x++[38])++t by simp,show x.length+1=(x++[38]).length by simp,List.drop_left]
theorem split_join:∀(l:List (List UInt8)),l≠[]→(∀x,x∈l→hasB 38 x=false)→splitN (Lib.join l [38])=l
 |[],h,_=>absurd rfl h
 |[x],_,h=>by
  rw[Lib.join_one];exact split1_no 38 x (h x (by simp))
 |x::y::r,_,h=>by
  have e:Lib.join (x::y::r) [38]=x++38::Lib.join (y::r) [38]:=by
   rw[Lib.join_cons,Lib.join_cons];simp[Lib.joinTail]
  rw[e,split_app (h x (by simp)),split_join (y::r) (by simp) (fun z hz=>h z (by simp[hz]))]
theorem key_no {k:List UInt8} {c:UInt8} (hc:keyCh c=false) (h:isKey k=true):hasB c k=false:=by
 unfold isKey at h;rw[Bool.and_eq_true] at h;unfold hasB;rw[List.any_eq_false];intro x hx e;have:=List.all_eq_true.1 h.1 x hx;rw[beq_iff_eq.1 e,hc] at this;cases this
theorem keyB_no {k:List UInt8} {c:UInt8} (hc:keyCh c=false) (h:keyB k=true):hasB c k=false:=by
 unfold keyB at h;rw[Bool.or_eq_true,beq_iff_eq] at h;rcases h with rfl|h
 ·rfl
 ·exact key_no hc h
theorem dig_no {s:List UInt8} {c:UInt8} (hc:isDig c=false) (h:allDig s=true):hasB c s=false:=by
 unfold hasB;rw[List.any_eq_false];intro x hx e;have:=List.all_eq_true.1 h x hx;rw[beq_iff_eq.1 e,hc] at this;cases this
theorem cutE_app {w p:List UInt8} (hw:hasB 61 w=false):cutE ((w++[61])++p)=(w,p,true):=by
 have e:(w++[61])++p=w++(61:UInt8)::p:=by simp
 rw[cutE_eq];have hy:hasB 61 ((w++[61])++p)=true:=by rw[e,hasB_app];simp[hasB]
 have hu:upTo 61 ((w++[61])++p)=w:=by rw[e];exact upTo_app hw
 rw[hy,hu,cond_true];congr 2;rw[show w.length+1=(w++[61]).length by simp,List.drop_left]
theorem go_step {p n v:List UInt8} {r seen:List (List UInt8)} {a a':AskD} (hc:cutE p=(n,v,true)) (hs:hasS seen n=false) (hl:lset n v a=(a',true)):listedGo (p::r) seen a=listedGo r (seen++[n]) a':=by
 simp only[listedGo,hc,hs,hl,cond_true,cond_false]
theorem lset_pre (v:List UInt8) (a:AskD):lset wPre v a=(setPre a v,keyB v):=by
 unfold lset;rw[show(wPre==wPre)=true from beq_self_eq_true _];rfl
theorem lset_aft (v:List UInt8) (a:AskD):lset wAft v a=(setAft a v,keyB v):=by
 unfold lset;rw[d21,show(wAft==wAft)=true from beq_self_eq_true _];rfl
theorem lset_max (v:List UInt8) (a:AskD):lset wMax v a=(setMax a (numN v 2 1 20).1,(numN v 2 1 20).2):=by
 unfold lset;rw[d31,d32,show(wMax==wMax)=true from beq_self_eq_true _];rfl
theorem lset_ver (v:List UInt8) (a:AskD):lset wVer v a=(setKind a 5,v==[49]):=by
 unfold lset;rw[d41,d42,d43,show(wVer==wVer)=true from beq_self_eq_true _];rfl
def sIf (b:Bool) (w:List UInt8):List (List UInt8):=bif b then [] else [w]
theorem hasS_app (l r:List (List UInt8)) (x:List UInt8):hasS (l++r) x=(hasS l x||hasS r x):=by unfold hasS;rw[List.any_append]
theorem hasS_if (b:Bool) {w x:List UInt8} (h:(x==w)=false):hasS (sIf b w) x=false:=by
 cases b
 ·show((x==w)||false)=false;rw[h];rfl
 ·rfl
theorem go_pre {p:List UInt8} (hp:keyB p=true) (r seen:List (List UInt8)) (a:AskD) (he:a.2.2.2.2.2.2.1=[]) (hs:hasS seen wPre=false):
  listedGo (qPre p++r) seen a=listedGo r (seen++sIf (p==[]) wPre) (setPre a p):=by
 unfold qPre sIf;cases h:p==[]
 ·exact go_step (cutE_app (w:=wPre) (p:=p) (by decide)) hs (by rw[lset_pre,hp])
 ·rw[cond_true,cond_true,beq_iff_eq.1 h,List.append_nil];obtain⟨a0,a1,a2,a3,a4,a5,a6,a7,a8,a9,⟨⟩⟩:=a;dsimp only at he;subst he;rfl
theorem go_aft {p:List UInt8} (hp:keyB p=true) (r seen:List (List UInt8)) (a:AskD) (he:a.2.2.2.2.2.2.2.1=[]) (hs:hasS seen wAft=false):
  listedGo (qAft p++r) seen a=listedGo r (seen++sIf (p==[]) wAft) (setAft a p):=by
 unfold qAft sIf;cases h:p==[]
 ·exact go_step (cutE_app (w:=wAft) (p:=p) (by decide)) hs (by rw[lset_aft,hp])
 ·rw[cond_true,cond_true,beq_iff_eq.1 h,List.append_nil];obtain⟨a0,a1,a2,a3,a4,a5,a6,a7,a8,a9,⟨⟩⟩:=a;dsimp only at he;subst he;rfl
theorem go_max {m:Int} (h1:1≤m) (h2:m≤20) (r seen:List (List UInt8)) (a:AskD) (he:a.2.2.2.2.2.2.2.2.1=20) (hs:hasS seen wMax=false):
  listedGo (qMax m++r) seen a=listedGo r (seen++sIf (m==20) wMax) (setMax a m):=by
 unfold qMax sIf;cases h:m==20
 ·obtain⟨u,rfl⟩:∃u:Nat,m=(u:Int):=⟨m.toNat,by omega⟩
  exact go_step (cutE_app (w:=wMax) (p:=Lib.itoa (u:Int)) (by decide)) hs (by rw[lset_max,max_itoa (by omega) (by omega)])
 ·rw[cond_true,cond_true,beq_iff_eq.1 h,List.append_nil];obtain⟨a0,a1,a2,a3,a4,a5,a6,a7,a8,a9,⟨⟩⟩:=a;dsimp only at he;subst he;rfl
theorem go_kind {k:Int} (h1:isL k=true) (seen:List (List UInt8)) (a:AskD) (he:a.1=4) (hs:hasS seen wVer=false):
  listedGo (qKind k) seen a=(setKind a k,true):=by
 unfold qKind;cases h:k==5
 ·have:k=4:=by
   unfold isL at h1;rw[h,Bool.or_false] at h1;exact beq_iff_eq.1 h1
  subst this;obtain⟨a0,a1,a2,a3,a4,a5,a6,a7,a8,a9,⟨⟩⟩:=a;dsimp only at he;subst he;rfl
 ·rw[cond_true,beq_iff_eq.1 h,show([verW1]:List (List UInt8))=[wVer++[61]++[49]] from rfl];rw[go_step (r:=[]) (seen:=seen) (cutE_app (w:=wVer) (p:=[49]) (by decide)) hs (show lset wVer [49] a=(setKind a 5,true) by rw[lset_ver];rfl)];rfl
theorem mem_if {b:Bool} {x y:List UInt8} (h:x∈(bif b then [] else [y])):x=y:=by
 cases b
 ·exact List.mem_singleton.1 h
 ·cases h
theorem no_app {c:UInt8} {w p:List UInt8} (h1:hasB c w=false) (h2:hasB c p=false):hasB c (w++p)=false:=by rw[hasB_app,h1,h2];rfl
theorem listed_query {p f:List UInt8} {m k:Int} (b:Bool) (hp:keyB p=true) (hf:keyB f=true) (h1:1≤m) (h2:m≤20) (hk:isL k=true):
  listedN (bAsk b) (Lib.join (qParts p f m k) [38])=((k,[],0,[],0,[],p,f,m,b,()),true):=by
 have hgo:listedGo (qParts p f m k) [] (setMax (setKind (bAsk b) 4) 20)=((k,[],0,[],0,[],p,f,m,b,()),true):=by
  unfold qParts;rw[go_pre hp _ _ _ rfl rfl,go_aft hf _ _ _ rfl,go_max h1 h2 _ _ _ rfl,go_kind hk _ _ rfl]
  ·rfl
  ·rw[hasS_app,hasS_app,hasS_app,hasS_if _ d41,hasS_if _ d42,hasS_if _ d43];rfl
  ·rw[hasS_app,hasS_app,hasS_if _ d31,hasS_if _ d32];rfl
  ·rw[hasS_app,hasS_if _ d21];rfl
 have hno:∀x,x∈qParts p f m k→hasB 38 x=false:=by
  intro x hx;unfold qParts at hx;rw[List.mem_append,List.mem_append,List.mem_append] at hx;rcases hx with hx|hx|hx|hx
  ·rw[mem_if hx];exact no_app (by decide) (keyB_no (by decide) hp)
  ·rw[mem_if hx];exact no_app (by decide) (keyB_no (by decide) hf)
  ·rw[mem_if hx];obtain⟨u,rfl⟩:∃u:Nat,m=(u:Int):=⟨m.toNat,by omega⟩
   rw[itoa_nat];exact no_app (by decide) (dig_no (by decide) (dec_ok u).1)
  ·unfold qKind at hx;cases h:k==5
   ·rw[h] at hx;cases hx
   ·rw[h] at hx;rw[List.mem_singleton.1 hx];decide
 by_cases hl:qParts p f m k=[]
 ·rw[hl] at hgo⊢;rw[←hgo];rfl
 ·have hq:(Lib.join (qParts p f m k) [38]==[])=false:=by
   rw[beq_eq_false_iff_ne];intro e;have hs:=split_join _ hl hno;rw[e] at hs;have hs2:splitN []=[[]]:=split1_no 38 [] rfl;rw[hs2] at hs;have hm:([]:List UInt8)∈qParts p f m k:=by rw[←hs];simp
   unfold qParts at hm;rw[List.mem_append,List.mem_append,List.mem_append] at hm;rcases hm with hx|hx|hx|hx
   ·cases(mem_if hx)
   ·cases(mem_if hx)
   ·cases(mem_if hx)
   ·unfold qKind at hx;cases h:k==5
    ·rw[h] at hx;cases hx
    ·rw[h] at hx;cases(List.mem_singleton.1 hx)
  unfold listedN;rw[hq,cond_false,split_join _ hl hno];exact hgo
theorem hasSuf_app (w r:List UInt8):hasSuf (r++w) w=true:=by
 unfold hasSuf;rw[Bool.and_eq_true,decide_eq_true_eq,List.length_append,Nat.add_sub_cancel,List.drop_left];exact⟨by omega,beq_self_eq_true w⟩
theorem tagA_app (t:List UInt8):tagA ([34]++t++[34])=(t,(gRead t).2):=by
 have h1:cutPre ([34]++t++[34]) [34]=(t++[34],true):=by
  unfold cutPre;rw[List.append_assoc,hasPre_app,cond_true,List.drop_left]
 have h2:cutSuf (t++[34]) [34]=(t,true):=by
  unfold cutSuf;rw[hasSuf_app,cond_true,List.length_append,Nat.add_sub_cancel,List.take_left]
 unfold tagA;rw[h1];dsimp only;rw[h2];rfl
theorem low1:(lower inmW==lower inmW)=true:=by decide
theorem low2:(lower inmW==lower imW)=false:=by decide
theorem low3:(lower imW==lower inmW)=false:=by decide
theorem low4:(lower imW==lower imW)=true:=by decide
theorem low5:(lower clW==lower inmW)=false:=by decide
theorem low6:(lower clW==lower imW)=false:=by decide
theorem val_B1 (b:List UInt8):valueN (hdB b) inmW=([],false):=by
 unfold hdB;cases b==[]<;>simp[valueN,low5]
theorem val_B2 (b:List UInt8):valueN (hdB b) imW=([],false):=by
 unfold hdB;cases b==[]<;>simp[valueN,low6]
theorem conds_req {c:Int} {t:List UInt8} (b:List UInt8) (h0:0≤c) (h2:c≤2) (ht:(bif c==2 then(rRead t).2 else t==[])=true):condsN (hdC c t++hdB b)=(c,t,true):=by
 unfold hdC condsN;by_cases e1:c=1
 ·subst e1;have:t=[]:=beq_iff_eq.1 ht;subst this;simp[valueN,low1,low2,val_B2]
 by_cases e2:c=2
 ·subst e2;have ht:(rRead t).2=true:=ht;have hg:(gRead t).2=true:=by rw[read_eq];exact ht
  have hta:=tagA_app t;rw[hg] at hta;simp only[show((2:Int)==1)=false from rfl,show((2:Int)==2)=true from rfl,cond_true,cond_false,List.cons_append,List.nil_append,valueN,low3,low4,val_B1] at hta⊢;rw[hta]
 have e0:c=0:=by omega
 subst e0;have:t=[]:=beq_iff_eq.1 ht;subst this;simp[val_B1,val_B2]
theorem methGH (b:Bool):((bif b then headW else getW)==getW||(bif b then headW else getW)==headW)=true:=by cases b<;>decide
theorem methH (b:Bool):((bif b then headW else getW)==headW)=b:=by cases b<;>decide
theorem methP (b:Bool):((bif b then headW else getW)==putW)=false:=by cases b<;>decide
theorem methD (b:Bool):((bif b then headW else getW)==delW)=false:=by cases b<;>decide
theorem path_k {k:List UInt8} (h:isKey k=true):(ooW++k==oW||ooW++k==ooW)=false∧hasPre (ooW++k) ooW=true∧(ooW++k).drop 3=k:=by
 have hl:1≤k.length:=by
  unfold isKey at h;rw[Bool.and_eq_true,Bool.and_eq_true,decide_eq_true_eq] at h;exact h.2.1
 refine⟨?_,hasPre_app _ _,rfl⟩;rw[Bool.or_eq_false_iff,beq_eq_false_iff_ne,beq_eq_false_iff_ne];constructor
 ·intro e;have:=congrArg List.length e;rw[List.length_append] at this;have e3:ooW.length=3:=rfl;have e2:oW.length=2:=rfl;omega
 ·intro e;have:=congrArg List.length e;rw[List.length_append] at this;have e3:ooW.length=3:=rfl;omega
theorem ofN_req {a:AskD} (h:mayN a=true):ofN (reqR a)=(a,0)∧(a.2.2.2.1.length:Int)≤300:=by
 obtain⟨kd,k,v,b,c,t,p,f,m,br,⟨⟩⟩:=a;unfold mayN at h;dsimp only at h;cases hL:isL kd
 ·rw[hL,cond_false] at h;unfold mayC at h;simp only[Bool.and_eq_true,beq_iff_eq,decide_eq_true_eq] at h;obtain⟨⟨rfl,rfl,rfl,hk,hv0,hv1⟩,h⟩:=h;obtain⟨p1,p2,p3⟩:=path_k hk;have hver:∀kk:Int,kk=(kd:Int)→∀(b2:Bool),(bif (qryR (kd,k,v,b,c,t,[],[],0,br,()))==[] then(setKV (kAsk k b2) kk 0,true) else(setKV (kAsk k b2) kk (verN (qryR (kd,k,v,b,c,t,[],[],0,br,()))).1,(verN (qryR (kd,k,v,b,c,t,[],[],0,br,()))).2))=(setKV (kAsk k b2) kk v,true):=by
   intro kk _ b2;have e:qryR (kd,k,v,b,c,t,[],[],0,br,())=bif v==0 then [] else vPre++Lib.itoa v:=by
    unfold qryR;dsimp only;rw[hL];rfl
   rw[e];cases hv:v==0
   ·have hv:v≠0:=beq_eq_false_iff_ne.1 hv;obtain⟨u,rfl⟩:∃u:Nat,v=(u:Int):=⟨v.toNat,by omega⟩
    rw[cond_false,ver_itoa (by omega) (by omega)];have:(vPre++Lib.itoa (u:Int)==[])=false:=beq_eq_false_iff_ne.2 (by intro e;cases e);rw[this];rfl
   ·have hv:v=0:=beq_iff_eq.1 hv;subst hv;rfl
  by_cases k1:kd=1
  ·subst k1;rw[show((1:Int)==1)=true from rfl,cond_true] at h;unfold mayG at h;simp only[Bool.and_eq_true,beq_iff_eq] at h;obtain⟨rfl,rfl,rfl⟩:=h;refine⟨?_,by simp⟩;have:=hver 1 rfl br;unfold reqR ofN keyOut keyedG;dsimp only[pathR];rw[hL,cond_false,p1,cond_false,p2,cond_true,p3];have em:methR 1 br=bif br then headW else getW:=rfl
   rw[em,methGH,Bool.true_or,cond_true,methH,methP];have ek:(kAsk k br).2.1=k:=rfl;rw[ek,hk,cond_true,cond_false,methD,cond_false];have ev:(kAsk k br).2.2.1=0:=rfl;rw[ev,this];rfl
  rw[beq_eq_false_iff_ne.2 k1,cond_false] at h;by_cases k3:kd=3
  ·subst k3;rw[show((3:Int)==3)=true from rfl,cond_true,Bool.and_eq_true] at h;obtain⟨h,hbr⟩:=h;have hbr:br=false:=by cases br;rfl;cases hbr
   subst hbr;unfold mayG at h;simp only[Bool.and_eq_true,beq_iff_eq] at h;obtain⟨rfl,rfl,rfl⟩:=h;refine⟨?_,by simp⟩;have:=hver 3 rfl false;unfold reqR ofN keyOut keyedG;dsimp only[pathR];rw[hL,cond_false,p1,cond_false,p2,cond_true,p3];have em:methR 3 false=delW:=rfl;rw[em];have d0:(delW==getW||delW==headW||(delW==putW||delW==delW))=true:=by decide
   have d1:(delW==headW)=false:=by decide
   have d2:(delW==putW)=false:=by decide
   have d3:(delW==delW)=true:=by decide
   rw[d0,cond_true,d1,d2];have ek:(kAsk k false).2.1=k:=rfl;rw[ek,hk,cond_true,cond_false,d3,cond_true];have ev:(kAsk k false).2.2.1=0:=rfl;rw[ev,this];rfl
  rw[beq_eq_false_iff_ne.2 k3,cond_false] at h;by_cases k2:kd=2
  ·subst k2;rw[show((2:Int)==2)=true from rfl,cond_true] at h;unfold mayP at h;simp only[Bool.and_eq_true,beq_iff_eq,decide_eq_true_eq] at h;obtain⟨hb,rfl,hbr,hc0,hc2,ht⟩:=h;have hbr:br=false:=by cases br;rfl;cases hbr
   subst hbr;refine⟨?_,hb⟩;have hcn:=conds_req b hc0 hc2 ht;unfold reqR ofN keyOut keyedG;dsimp only[pathR];rw[hL,cond_false,p1,cond_false,p2,cond_true,p3];have em:methR 2 false=putW:=rfl;rw[em];have d0:(putW==getW||putW==headW||(putW==putW||putW==delW))=true:=by decide
   have d1:(putW==headW)=false:=by decide
   have d2:(putW==putW)=true:=by decide
   rw[d0,cond_true,d1,d2];have ek:(kAsk k false).2.1=k:=rfl;rw[ek,hk,cond_true,cond_true,hcn];have eq:qryR (2,k,0,b,c,t,[],[],0,false,())=[]:=rfl;rw[eq];rfl
  rw[beq_eq_false_iff_ne.2 k2,cond_false] at h;cases h
 ·rw[hL,cond_true] at h;unfold mayL at h;simp only[Bool.and_eq_true,beq_iff_eq,decide_eq_true_eq] at h;obtain⟨rfl,rfl,rfl,rfl,rfl,hp,hf,hm1,hm2⟩:=h;refine⟨?_,by simp⟩;have hq:=listed_query br hp hf hm1 hm2 hL;have eq:qryR (kd,[],0,[],0,[],p,f,m,br,())=Lib.join (qParts p f m kd) [38]:=by
   unfold qryR;dsimp only;rw[hL];rfl
  have em:methR kd br=bif br then headW else getW:=by
   unfold isL at hL;rw[Bool.or_eq_true,beq_iff_eq,beq_iff_eq] at hL;rcases hL with rfl|rfl<;>rfl
  unfold reqR ofN listOut;dsimp only[pathR];rw[hL,cond_true,em,eq];have d0:(oW==oW||oW==ooW)=true:=by decide
  rw[d0,cond_true,methGH,cond_true,methH,hq];rfl
theorem nDig_le:∀(k u:Nat),u<10^(k+1)→Lib.nDigits u≤k+1
 |0,u,h=>by rw[Lib.nDigits_small (by simpa using h)];exact Nat.le_refl _
 |k+1,u,h=>by
  by_cases h1:u<10
  ·rw[Lib.nDigits_small h1];omega
  ·rw[Lib.nDigits_big h1];have:=nDig_le k (u/10) (by rw[Nat.pow_succ] at h;omega);omega
theorem itoa_len {k u:Nat} (h:u<10^(k+1)):(Lib.itoa (u:Int)).length≤k+1:=by
 rw[itoa_nat,Lib.decDigits_length];exact nDig_le k u h
theorem qParts_mem {p f:List UInt8} {m k:Int} {x:List UInt8} (hx:x∈qParts p f m k):x=ePre++p∨x=eAft++f∨(x=eMax++Lib.itoa m)∨x=verW1:=by
 unfold qParts at hx;rw[List.mem_append,List.mem_append,List.mem_append] at hx;rcases hx with hx|hx|hx|hx
 ·exact .inl (mem_if hx)
 ·exact .inr (.inl (mem_if hx))
 ·exact .inr (.inr (.inl (mem_if hx)))
 ·unfold qKind at hx;cases h:k==5
  ·rw[h] at hx;cases hx
  ·rw[h] at hx;exact .inr (.inr (.inr (List.mem_singleton.1 hx)))
end Nice
namespace Nice
open Go Go.Eng
def linv (a:AskD):Prop:=isL a.1=true∧mayL a=true
theorem lset_inv {n v:List UInt8} {a:AskD} (h:linv a) (ok:(lset n v a).2=true):linv (lset n v a).1:=by
 obtain⟨kd,k,w,b,c,t,p,f,m,br,⟨⟩⟩:=a;obtain⟨h1,h2⟩:=h;unfold mayL at h2;simp only[Bool.and_eq_true,beq_iff_eq,decide_eq_true_eq] at h1 h2;obtain⟨rfl,rfl,rfl,rfl,rfl,hp,hf,hm1,hm2⟩:=h2;unfold lset at ok⊢;cases e1:n==wPre
 ·rw[e1,cond_false] at ok;rw[cond_false];cases e2:n==wAft
  ·rw[e2,cond_false] at ok;rw[cond_false];cases e3:n==wMax
   ·rw[e3,cond_false] at ok;rw[cond_false];cases e4:n==wVer
    ·rw[e4,cond_false] at ok;cases ok
    ·rw[cond_true];refine⟨rfl,?_⟩;unfold mayL setKind;simp[hp,hf,hm1,hm2]
   ·rw[e3,cond_true] at ok;rw[cond_true];refine⟨h1,?_⟩;have hb:1≤(numN v 2 1 20).1∧(numN v 2 1 20).1≤20:=by
     unfold numN at ok⊢;simp only[Bool.and_eq_true,decide_eq_true_eq] at ok;exact⟨ok.2.2.2.1,ok.2.2.2.2⟩
    unfold mayL setMax;simp[hp,hf,hb.1,hb.2]
  ·rw[e2,cond_true] at ok;rw[cond_true];refine⟨h1,?_⟩;unfold mayL setAft;have ok:keyB v=true:=ok;simp[hp,ok,hm1,hm2]
 ·rw[e1,cond_true] at ok;rw[cond_true];refine⟨h1,?_⟩;unfold mayL setPre;have ok:keyB v=true:=ok;simp[ok,hf,hm1,hm2]
theorem go_inv:∀(l seen:List (List UInt8)) (a:AskD),linv a→(listedGo l seen a).2=true→linv (listedGo l seen a).1
 |[],_,a,h,_=>h
 |p::r,seen,a,h,ok=>by
  simp only[listedGo] at ok⊢;cases e1:(cutE p).2.2
  ·rw[e1] at ok;cases ok
  ·rw[e1,cond_true] at ok;rw[cond_true];cases e2:hasS seen (cutE p).1
   ·rw[e2,cond_false] at ok;rw[cond_false];cases e3:(lset (cutE p).1 (cutE p).2.1 a).2
    ·rw[e3] at ok;cases ok
    ·rw[e3,cond_true] at ok;rw[cond_true];exact go_inv r _ _ (lset_inv h e3) ok
   ·rw[e2] at ok;cases ok
theorem listed_inv (b:Bool) (q:List UInt8) (ok:(listedN (bAsk b) q).2=true):linv (listedN (bAsk b) q).1:=by
 have h0:linv (setMax (setKind (bAsk b) 4) 20):=⟨rfl,rfl⟩
 unfold listedN at ok⊢;cases e:q==[]
 ·rw[e,cond_false] at ok;rw[cond_false];exact go_inv _ _ _ h0 ok
 ·rw[cond_true];exact h0
theorem condsN_may (hs:HeadL) (h:(condsN hs).2.2=true):0≤(condsN hs).1∧(condsN hs).1≤2∧(bif (condsN hs).1==2 then(rRead (condsN hs).2.1).2 else(condsN hs).2.1==[])=true:=by
 unfold condsN at h⊢;cases e1:(valueN hs inmW).2
 ·rw[e1,cond_false] at h;rw[cond_false];cases e2:(valueN hs imW).2
  ·exact⟨show(0:Int)≤0 by decide,show(0:Int)≤2 by decide,rfl⟩
  ·rw[e2,cond_true] at h;rw[cond_true];refine⟨show(0:Int)≤2 by decide,show(2:Int)≤2 by decide,?_⟩;show(rRead (tagA (valueN hs imW).1).1).2=true;rw[←read_eq];have h:(tagA (valueN hs imW).1).2=true:=h;unfold tagA at h⊢;simp only[Bool.and_eq_true] at h;exact h.2.2
 ·rw[e1,cond_true] at h;rw[cond_true];cases e2:(valueN hs imW).2
  ·exact⟨show(0:Int)≤1 by decide,show(1:Int)≤2 by decide,rfl⟩
  ·rw[e2] at h;cases h
theorem verN_may (q:List UInt8) (h:(verN q).2=true):0≤(verN q).1∧(verN q).1≤1099511627776:=by
 unfold verN numN at h⊢;simp only[Bool.and_eq_true,decide_eq_true_eq] at h⊢;obtain⟨⟨_,_,_,h1,h2⟩,_⟩:=h;exact⟨by omega,h2⟩
theorem ofN_may {r:ReqW} (h:(ofN r).2=0) (hb:((ofN r).1.2.2.2.1.length:Int)≤300):mayN (ofN r).1=true:=by
 obtain⟨m,p,q,hs,b,⟨⟩⟩:=r;unfold ofN at h hb⊢;dsimp only at h hb⊢;cases e1:p==oW||p==ooW
 ·rw[e1,cond_false] at h hb;rw[cond_false];cases e2:hasPre p ooW
  ·rw[e2] at h;cases h
  ·rw[e2,cond_true] at h hb;rw[cond_true];cases e3:(m==getW||m==headW)||(m==putW||m==delW)
   ·rw[e3] at h;cases h
   ·rw[e3,cond_true] at h hb;rw[cond_true];unfold keyOut at h hb⊢;cases e4:(keyedG (kAsk (p.drop 3) (m==headW)) m q hs b).2&&(m==putW||b==[])
    ·rw[e4] at h;cases h
    ·rw[e4,cond_true] at hb;rw[cond_true];dsimp only at hb⊢;rw[Bool.and_eq_true] at e4;obtain⟨ok,ob⟩:=e4;unfold keyedG at ok hb⊢;have ek:∀b2,(kAsk (p.drop 3) b2).2.1=p.drop 3:=fun _=>rfl
     rw[ek] at ok hb⊢;cases hk:isKey (p.drop 3)
     ·rw[hk] at ok;cases ok
     ·rw[hk,cond_true] at ok hb;rw[cond_true];cases hp:m==putW
      ·rw[hp,cond_false] at ok hb;rw[hp,Bool.false_or] at ob;rw[cond_false];have hm3:(bif m==delW then(3:Int) else 1)=1∨((bif m==delW then(3:Int) else 1)=3∧(m==headW)=false):=by
        cases hd:m==delW
        ·exact .inl rfl
        ·rw[beq_iff_eq.1 hd];exact .inr ⟨rfl,by decide⟩
       have fin:∀v:Int,0≤v→v≤1099511627776→mayN (setKV (kAsk (p.drop 3) (m==headW)) (bif m==delW then 3 else 1) v)=true:=by
        intro v h0 h1;generalize (bif m==delW then(3:Int) else 1)=kk at hm3;generalize (m==headW)=hh at hm3⊢;rcases hm3 with rfl|⟨rfl,rfl⟩
        ·unfold mayN mayC mayG setKV kAsk;simp[isL,hk,h0,h1]
        ·unfold mayN mayC mayG setKV kAsk;simp[isL,hk,h0,h1]
       cases hq:q==[]
       ·rw[hq,cond_false] at ok;rw[cond_false];obtain⟨v0,v1⟩:=verN_may q ok;exact fin _ v0 v1
       ·rw[cond_true];exact fin _ (by show(0:Int)≤0;omega) (by show(0:Int)≤_;decide)
      ·rw[hp,cond_true] at ok hb;rw[cond_true];have hm:=beq_iff_eq.1 hp;subst hm;rw[show(putW==headW)=false from by decide] at hb⊢;have hb:(b.length:Int)≤300:=hb;have ok:((condsN hs).2.2&&q==[])=true:=ok;rw[Bool.and_eq_true] at ok;obtain⟨c0,c2,ct⟩:=condsN_may hs ok.1;unfold mayN mayC mayP setPut kAsk;simp only[]
       generalize (condsN hs).1=c at c0 c2 ct⊢;generalize (condsN hs).2.1=t at ct⊢;rw[ct,hk,decide_eq_true hb,decide_eq_true c0,decide_eq_true c2];rfl
 ·rw[e1,cond_true] at h hb;rw[cond_true];cases e2:m==getW||m==headW
  ·rw[e2] at h;cases h
  ·rw[e2,cond_true] at h hb;rw[cond_true];unfold listOut at h hb⊢;cases e3:(listedN (bAsk (m==headW)) q).2&&b==[]
   ·rw[e3] at h;cases h
   ·rw[cond_true];rw[Bool.and_eq_true] at e3;obtain⟨l1,l2⟩:=listed_inv (m==headW) q e3.1;unfold mayN;dsimp only;rw[l1,cond_true,l2]
theorem request_ok (a:AskD):requestN a=bif mayN a then(reqR a,true) else(zReq,false):=by
 unfold requestN outR;cases h:mayN a
 ·rw[cond_false];cases h2:(ofN (reqR a)).2==0&&(eqA (ofN (reqR a)).1 a&&decide ((a.2.2.2.1.length:Int)≤300))
  ·rfl
  ·rw[Bool.and_eq_true,Bool.and_eq_true,beq_iff_eq,eqA_iff,decide_eq_true_eq] at h2;obtain⟨z,e,hb⟩:=h2;have:=ofN_may (r:=reqR a) z (by rw[e];exact hb);rw[e,h] at this;cases this
 ·obtain⟨e,hb⟩:=ofN_req h;rw[e,decide_eq_true hb];rw[show eqA a a=true from eqA_iff.2 rfl];rfl
end Nice
namespace Go.Proofs.YtldllfocpadkeaaGreatDoor
open Go Go.Eng Nice
set_option maxRecDepth 1000000
theorem value_le:∀(l:List HeadD) (n:List UInt8),(∀h,h∈l→h.2.1.length≤1099511627776)→(valueN l n).1.length≤1099511627776
 |[],_,_=>by simp[valueN]
 |h::r,n,ha=>by
  simp only[valueN];cases lower h.1==lower n
  ·exact value_le r n fun x hx=>ha x (List.mem_cons_of_mem _ hx)
  ·exact ha h (List.mem_cons_self ..)
theorem scanLenP_ok {hs:List HeadD} (h1:hs.length≤1000000) (h2:∀h,h∈hs→h.1.length≤1099511627776∧h.2.1.length≤1099511627776):scanLenP hs=true:=by
 unfold scanLenP valueP;have:=value_le hs clen fun h hh=>(h2 h hh).2
 have a1:hs.all (fun h=>lowerP h.1)=true:=List.all_eq_true.2 fun h hh=>decide_eq_true (by have:=(h2 h hh).1;omega)
 rw[a1,decide_eq_true (show hs.length≤140737488355328 by omega),show lowerP clen=true by decide];exact decide_eq_true (by omega)
def hdO (st su li at':Int) (tx m p q:List UInt8) (hs:List HeadD) (b:List UInt8) (le:Int) (ou:List ReqD) (r:Option Nat):ScanD×Int×Unit:=
 match r with
 |none=>((st,su,li,at',tx,(m,p,q,hs,b,()),le,ou,()),400,())
 |some k=>
  if 1<k then((st,su,li,at',tx,(m,p,q,hs,b,()),le,ou,()),400,())
  else if scanLen hs>300 then((st,su,li,at',tx,(m,p,q,hs,b,()),scanLen hs,ou,()),413,())
  else if scanLen hs=0 then((0,su,li,at',tx,([],[],[],[],[],()),scanLen hs,ou++[(m,p,q,hs,b,())],()),0,())
  else((9,su,li,at',tx,(m,p,q,hs,b,()),scanLen hs,ou,()),0,())
theorem heads_l (st su li at':Int) (tx m p q:List UInt8) (hs:List HeadD) (b:List UInt8) (le:Int) (ou:List ReqD) (t2:Int) (h1:hs.length≤1000000) (h2:∀h,h∈hs→h.1.length≤1099511627776∧h.2.1.length≤1099511627776) (h3:ou.length≤1099511627776):
  ∀(rest done:List HeadD) (n k:Nat),hs=done++rest→k≤done.length→rest.length<n→hheads_0 n st su li at' tx m p q hs b le ou t2 (k:Int) (hs.length:Int) (done.length:Int)=some (hdO st su li at' tx m p q hs b le ou (mHeads rest k)):=by
 intro rest
 induction rest with
 |nil=>
  intro done n k he hk hn;obtain⟨n,rfl⟩:∃m,n=m+1:=⟨n-1,by omega⟩
  have hl:hs.length=done.length:=by rw[he,List.append_nil]
  rw[eheads_0,cdF (by omega)];simp only[mHeads,hdO];by_cases g1:1<k
  ·rw[cdT (by omega),if_pos g1]
  ·rw[cdF (by omega),if_neg g1,gdB (scanLenP_ok h1 h2),gd_nil];by_cases g2:scanLen hs>300
   ·rw[cdT g2,if_pos g2]
   ·rw[cdF g2,if_neg g2];by_cases g3:scanLen hs=0
    ·rw[ceT g3,if_pos g3,gdT (by omega),gd_nil]
    ·rw[ceF g3,if_neg g3]
 |cons h rest ihr=>
  intro done n k he hk hn;obtain⟨n,rfl⟩:∃m,n=m+1:=⟨n-1,by omega⟩
  simp only[List.length_cons] at hn;have hl:hs.length=done.length+rest.length+1:=by rw[he];simp only[List.length_append,List.length_cons];omega
  have hm:h∈hs:=by rw[he];simp
  obtain⟨m1,m2⟩:=h2 h hm;have hg:∀d:HeadD,hs.getD done.length d=h:=fun d=>by rw[he];exact getD_mid _ _ _ _
  have ih:=fun k' hk'=>ihr (done++[h]) n k' (by rw[he,List.append_assoc];rfl) (by simp only[List.length_append,List.length_singleton];exact hk') (by omega)
  simp only[List.length_append,List.length_singleton,Int.natCast_add,Int.natCast_one] at ih;have hp1:lowerP h.1=true:=decide_eq_true (show h.1.length≤140737488355328 by omega);have hp2:atoiP h.2.1=true:=decide_eq_true (show h.2.1.length≤140737488355328 by omega);rw[eheads_0,cdT (by omega)];simp only[Int.toNat_natCast,hg]
  rw[gdB hp1,gdT (by omega),gdT (by omega),gdT (by omega),gd_nil];simp only[mHeads];rw[show([116,114,97,110,115,102,101,114,45,101,110,99,111,100,105,110,103]:List UInt8)=tenc from rfl,show([99,111,110,116,101,110,116,45,108,101,110,103,116,104]:List UInt8)=clen from rfl];cases g1:lower h.1==tenc
  ·simp only[cF];cases g2:lower h.1==clen
   ·simp only[cF];rw[gdT (inK_i64.2 ⟨by omega,by omega⟩),gd_nil];exact ih k (by omega)
   ·simp only[cT];cases g3:(scanNum h.2.1).2
    ·simp only[cF];rw[gdB hp2,gd_nil];simp only[hdO]
    ·simp only[cT];rw[gdT (inK_i64.2 ⟨by omega,by omega⟩),gdT (inK_i64.2 ⟨by omega,by omega⟩),gdB hp2,gd_nil];have:=ih (k+1) (by omega);rw[Int.natCast_add,Int.natCast_one] at this;exact this
  ·simp only[cT,hdO]
theorem heads_n (su li at':Int) (tx m p q:List UInt8) (hs:List HeadD) (b:List UInt8) (le:Int) (ou:List ReqD) (h1:hs.length≤1000000) (h2:∀h,h∈hs→h.1.length≤1099511627776∧h.2.1.length≤1099511627776) (h3:ou.length≤1099511627776):
  oheads (8,su,li,at',tx,(m,p,q,hs,b,()),le,ou,()) ()=some ((Nice.hdN su li at' tx m p q hs b le ou).1,(Nice.hdN su li at' tx m p q hs b le ou).2,()):=by
 rw[oheads_g,eheads_g];have:=heads_l 8 su li at' tx m p q hs b le ou 0 h1 h2 h3 hs [] heads0 0 rfl (Nat.le_refl _) (by unfold heads0;omega);simp only[List.length_nil,Int.natCast_zero] at this;rw[this];unfold hdO Nice.hdN;cases mHeads hs 0 with
 |none=>rfl
 |some k=>
  simp only;by_cases g1:1<k
  ·rw[if_pos g1,if_pos g1]
  ·rw[if_neg g1,if_neg g1];by_cases g2:scanLen hs>300
   ·rw[if_pos g2,if_pos g2]
   ·rw[if_neg g2,if_neg g2];by_cases g3:scanLen hs=0
    ·rw[if_pos g3,if_pos g3]
    ·rw[if_neg g3,if_neg g3]
end Go.Proofs.YtldllfocpadkeaaGreatDoor
namespace Go.Proofs.YtldllfocpadkeaaGreatDoor
open Go Go.Eng Nice
set_option maxRecDepth 1000000
theorem tok13 {c:UInt8} (h:c.toNat=13∨c.toNat=58):isTok c=false:=decide_eq_false (by omega)
theorem lines_n (st su li at':Int) (tx m p q:List UInt8) (hs:List HeadD) (b:List UInt8) (le:Int) (ou:List ReqD) (c:UInt8) (ok:OkX st li at' tx hs le ou) (hst:st=4∨st=5∨st=6∨st=7∨st=8):
  olines (st,su,li,at',tx,(m,p,q,hs,b,()),le,ou,()) (c,())=some ((lnN st su li at' tx m p q hs b le ou c).1,(lnN st su li at' tx m p q hs b le ou c).2,()):=by
 obtain⟨li0,li1,at0,at1,tx1,hs1,hs2,hs6,le0,le1,ou1⟩:=ok;have hc:=c.toNat_lt;have ii:inK .i64 (li+1):=inK_i64.2 ⟨by omega,by omega⟩;have ic:inK .u8 (c.toNat:Int):=inK_u8.2 ⟨by omega,by omega⟩;rw[olines_g,elines_g];simp only[Int.toNat_natCast,UInt8.ofNat_toNat];by_cases h47:st=4∨st=7
 ·unfold lnN;rw[if_pos h47];by_cases h10:c.toNat=10
  ·rw[if_pos h10];rcases h47 with rfl|rfl
   ·rw[ceT rfl,cnF (by omega),ceF (by decide)]
   ·rw[ceF (by decide),ceT rfl,cnF (by omega),ceF (by decide)]
  ·rw[if_neg h10];rcases h47 with rfl|rfl
   ·rw[ceT rfl,cnT (by omega)]
   ·rw[ceF (by decide),ceT rfl,cnT (by omega)]
 ·rw[ceF (by omega),ceF (by omega)];by_cases h8:st=8
  ·subst h8;unfold lnN;rw[if_neg h47,if_pos rfl,ceT rfl];by_cases h10:c.toNat=10
   ·rw[if_pos h10,cnF (by omega),ceT rfl];obtain⟨hP,hN⟩:=heads_hid (heads_n su 0 at' tx m p q hs b le ou hs1 hs2 ou1);rw[gdB hP,gN,hN]
   ·rw[if_neg h10,cnT (by omega)]
  ·rw[ceF h8];by_cases h6:st=6
   ·subst h6;unfold lnN;rw[if_neg h47,if_neg h8,if_pos rfl,ceT rfl];have hl:=hs6 rfl;by_cases h13:c.toNat=13
    ·have e:((hs.length:Int)-1).toNat=hs.length-1:=by omega
     rw[if_pos h13,ceT (by omega),gdT (by omega),gdT (by omega),gdT (by omega),gdB (by rw[Bool.and_eq_true];exact⟨rfl,decide_eq_true (by omega)⟩),gdT (inK_i64.2 ⟨by omega,by omega⟩),gN,e];rfl
    ·rw[if_neg h13,ceF (by omega)];by_cases h9:c.toNat=9
     ·rw[if_pos (.inr h9),cdF (by omega),ceT (by omega),gdT ii,gdT (by omega),gdT ic,gN]
     ·by_cases h32:32≤c.toNat
      ·rw[cdT (by omega)];by_cases h126:c.toNat≤126
       ·rw[if_pos (.inl ⟨h32,h126⟩),cdT (by omega),gdT ii,gdT (by omega),gdT ic,gN]
       ·rw[if_neg (by omega),cdF (by omega),ceF (by omega)]
      ·rw[if_neg (by omega),cdF (by omega),ceF (by omega)]
   ·unfold lnN;rw[if_neg h47,if_neg h8,if_neg h6,ceF h6];by_cases h13:c.toNat=13
    ·rw[ceT (by omega)];by_cases hl:li=0
     ·rw[if_pos ⟨h13,hl⟩,ceT hl]
     ·rw[if_neg (fun h=>hl h.2),if_neg (by omega),ceF hl,ceF (by omega),tok13 (.inl h13),cF,gdT ic,gN];rfl
    ·rw[if_neg (fun h=>h13 h.1),ceF (by omega)];by_cases h58:c.toNat=58
     ·rw[ceT (by omega)];by_cases hl:li>0
      ·rw[if_pos ⟨h58,hl⟩,cdT hl,gdT ii,gdT (by omega),gN]
      ·rw[if_neg (fun h=>hl h.2),cdF hl,tok13 (.inr h58),cF,gdT ic,gN];rfl
     ·rw[if_neg (fun h=>h58 h.1),ceF (by omega)];cases ht:isTok c
      ·rw[cF,gdT ic,gN];rfl
      ·rw[cT,gdT ii,gdT (by omega),gdT ic,gdT ic,gN];rfl
theorem step_n (st su li at':Int) (tx m p q:List UInt8) (hs:List HeadD) (b:List UInt8) (le:Int) (ou:List ReqD) (c:UInt8) (ok:OkX st li at' tx hs le ou) (hst:0≤st∧st≤9):
  ostep (st,su,li,at',tx,(m,p,q,hs,b,()),le,ou,()) (c,())=some ((mst st su li at' tx m p q hs b le ou c).1,(mst st su li at' tx m p q hs b le ou c).2,()):=by
 have ok':=ok;obtain⟨li0,li1,at0,at1,tx1,hs1,hs2,hs6,le0,le1,ou1⟩:=ok;have hc:=c.toNat_lt;have ii:inK .i64 (li+1):=inK_i64.2 ⟨by omega,by omega⟩;have ic:inK .u8 (c.toNat:Int):=inK_u8.2 ⟨by omega,by omega⟩;rw[ostep_g,estep_g];simp only[Int.toNat_natCast,UInt8.ofNat_toNat];rw[gdT ic,gN];unfold mst;by_cases hl:longN (st,su,li,at',tx,(m,p,q,hs,b,()),le,ou,()) c≠0
 ·rw[if_pos hl,cnT hl]
 rw[if_neg hl,cnF (by simpa using hl)];by_cases h0:st=0
 ·subst h0;rw[if_pos rfl,ceT rfl];cases hcap:isCap c
  ·rw[cF,if_neg (by intro h;exact absurd h.1 (by decide)),gdT ic,gN];by_cases h32:c.toNat=32
   ·rw[ceT (by omega)];by_cases hp:li>0
    ·rw[if_pos ⟨h32,hp⟩,cdT hp,gdT ii,gN]
    ·rw[if_neg (fun h=>hp h.2),cdF hp]
   ·rw[ceF (by omega),if_neg (fun h=>h32 h.1)]
  ·rw[cT];by_cases h10:li<10
   ·rw[if_pos ⟨rfl,h10⟩,cdT h10,gdT ii,gdT (by omega),gdT ic,gdT ic,gN]
   ·have:=isCap_iff.1 hcap;rw[if_neg (fun h=>h10 h.2),cdF h10,gdT ic,gN,ceF (by omega),if_neg (by omega)]
 rw[if_neg h0,ceF h0];by_cases h1:st=1
 ·subst h1;rw[if_pos rfl,ceT rfl];have tail:(bif (↑c.toNat:Int)==63 then gd [decide (inK IntKind.i64 (li+1))] (some (((2:Int),su,li+1,at',([]:List UInt8),(m,tx,q,hs,b,()),le,ou,()),(0:Int),())) else
    (bif (↑c.toNat:Int)==32 then gd [decide (inK IntKind.i64 (li+1))] (some (((3:Int),su,li+1,at',([]:List UInt8),(m,tx,q,hs,b,()),le,ou,()),(0:Int),())) else
     (bif isVis c then gd [decide (inK IntKind.i64 (li+1)),decide ((2*(tx.length+1)+400)*1≤281474976710656),decide (inK IntKind.u8 (c.toNat:Int)),decide (inK IntKind.u8 (c.toNat:Int))] (some (((1:Int),su,li+1,at',tx++[c],(m,p,q,hs,b,()),le,ou,()),(0:Int),()))
       else gd [decide (inK IntKind.u8 (c.toNat:Int))] (some (((1:Int),su,li,at',tx,(m,p,q,hs,b,()),le,ou,()),(400:Int),())))))
    =some ((if c.toNat=63 then(((2:Int),su,li+1,at',([]:List UInt8),(m,tx,q,hs,b,()),le,ou,()),(0:Int))
      else if c.toNat=32 then((3,su,li+1,at',[],(m,tx,q,hs,b,()),le,ou,()),0)
      else if isVis c=true then((1,su,li+1,at',tx++[c],(m,p,q,hs,b,()),le,ou,()),0)
      else((1,su,li,at',tx,(m,p,q,hs,b,()),le,ou,()),400)).1,
     (if c.toNat=63 then(((2:Int),su,li+1,at',([]:List UInt8),(m,tx,q,hs,b,()),le,ou,()),(0:Int))
      else if c.toNat=32 then((3,su,li+1,at',[],(m,tx,q,hs,b,()),le,ou,()),0)
      else if isVis c=true then((1,su,li+1,at',tx++[c],(m,p,q,hs,b,()),le,ou,()),0)
      else((1,su,li,at',tx,(m,p,q,hs,b,()),le,ou,()),400)).2,()):=by
   by_cases h63:c.toNat=63
   ·rw[ceT (by omega),if_pos h63,gdT ii,gN]
   ·rw[ceF (by omega),if_neg h63];by_cases h32:c.toNat=32
    ·rw[ceT (by omega),if_pos h32,gdT ii,gN]
    ·rw[ceF (by omega),if_neg h32];cases hv:isVis c
     ·rw[cF,gdT ic,gN];rfl
     ·rw[cT,gdT ii,gdT (by omega),gdT ic,gdT ic,gN];rfl
  by_cases hx:tx.length=0
  ·rw[ceT (by omega)];by_cases h47:c.toNat=47
   ·rw[cnF (by omega),if_neg (fun h=>h.2 h47)];exact tail
   ·rw[cnT (by omega),if_pos ⟨hx,h47⟩]
  ·rw[ceF (by omega),if_neg (fun h=>hx h.1)];exact tail
 rw[if_neg h1,ceF h1];by_cases h2:st=2
 ·subst h2;rw[if_pos rfl,ceT rfl];by_cases h32:c.toNat=32
  ·rw[ceT (by omega),if_pos h32,gdT ii,gN]
  ·rw[ceF (by omega),if_neg h32];cases hv:isVis c
   ·rw[cF,gdT ic,gN];rfl
   ·rw[cT,gdT ii,gdT (by omega),gdT ic,gdT ic,gN];rfl
 rw[if_neg h2,ceF h2];by_cases h3:st=3
 ·subst h3;rw[if_pos rfl,ceT rfl];by_cases h8:at'=8
  ·rw[ceT h8,if_pos h8];by_cases h13:c.toNat=13
   ·rw[ceT (by omega),if_pos h13]
   ·rw[ceF (by omega),if_neg h13,ceT h8]
  ·rw[ceF h8,if_neg h8,ceF h8];rw[show([72,84,84,80,47,49,46,49]:List UInt8)=verB from rfl];by_cases hv:c.toNat=(verB.getD at'.toNat 0).toNat
   ·rw[if_pos hv,cnF (by omega),gdT ii,gdT (inK_i64.2 ⟨by omega,by omega⟩),gdT (by omega),gdT (by omega),gN]
   ·rw[if_neg hv,cnT (by omega),gdT (by omega),gdT (by omega),gN]
 rw[if_neg h3,ceF h3];by_cases h9:st=9
 ·subst h9;rw[if_pos rfl,ceT rfl,gdT (inK_i64.2 ⟨by omega,by omega⟩),gdT (by omega),gdT ic,gN];by_cases hle:le-1=0
  ·rw[if_pos hle,ceT hle,gdT (by omega),gN]
  ·rw[if_neg hle,ceF hle]
 rw[if_neg h9,ceF h9];obtain⟨hP,hN⟩:=lines_hid (lines_n st su li at' tx m p q hs b le ou c ok' (by omega));rw[gdB hP,gdT ic,gN,hN]
end Go.Proofs.YtldllfocpadkeaaGreatDoor
namespace Go.Proofs.YtldllfocpadkeaaGreatDoor
open Go Go.Eng Nice
set_option maxRecDepth 1000000
def clrX (x:ScanD):ScanD×List ReqD×Unit:=((x.1,x.2.1,x.2.2.1,x.2.2.2.1,x.2.2.2.2.1,x.2.2.2.2.2.1,x.2.2.2.2.2.2.1,[],()),x.2.2.2.2.2.2.2.1,())
theorem feed_l (s:List UInt8):∀(rest done:List UInt8) (n K:Nat) (st su li at':Int) (tx m p q:List UInt8) (hs:List HeadD) (b:List UInt8) (le:Int) (ou:List ReqD),s=done++rest→rest.length<n→K+rest.length≤1000000→done.length≤1000000→
  (su=0→InvX K (st,su,li,at',tx,(m,p,q,hs,b,()),le,ou,()))→done.length+rest.length≤1000000→
  hfeed_0 n st su li at' tx m p q hs b le ou s (done.length:Int)=some (clrX (mrun (st,su,li,at',tx,(m,p,q,hs,b,()),le,ou,()) rest)):=by
 intro rest
 induction rest with
 |nil=>
  intro done n K st su li at' tx m p q hs b le ou he hn hK hd hi hs';obtain⟨n,rfl⟩:∃m,n=m+1:=⟨n-1,by omega⟩
  have hl:s.length=done.length:=by rw[he,List.append_nil]
  rw[efeed_0,cdF (by omega)];rfl
 |cons c rest ihr=>
  intro done n K st su li at' tx m p q hs b le ou he hn hK hd hi hs';obtain⟨n,rfl⟩:∃m,n=m+1:=⟨n-1,by omega⟩
  simp only[List.length_cons] at hn hK hs';have hl:s.length=done.length+rest.length+1:=by rw[he];simp only[List.length_append,List.length_cons];omega
  have hg:s.getD done.length 0=c:=by rw[he];exact getD_mid _ _ _ _
  have hc:=c.toNat_lt;rw[efeed_0,cdT (by omega)];by_cases h0:su=0
  ·rw[ceT h0];have i:=hi h0;obtain⟨hP,hN⟩:=step_hid (step_n st su li at' tx m p q hs b le ou c (i.ok (by omega)) ⟨i.st0,i.st9⟩);simp only[Int.toNat_natCast,hg,UInt8.ofNat_toNat];rw[gdT (inK_i64.2 ⟨by omega,by omega⟩),gdB hP,gdT (inK_u8.2 ⟨by omega,by omega⟩),gdT (by omega),gdT (by omega),gN,hN];have e:mrun (st,su,li,at',tx,(m,p,q,hs,b,()),le,ou,()) (c::rest)=mrun (feed1 (st,su,li,at',tx,(m,p,q,hs,b,()),le,ou,()) c) rest:=if_pos h0
   rw[e];have ih:=ihr (done++[c]) n (K+1) (mst st su li at' tx m p q hs b le ou c).1.1 (mst st su li at' tx m p q hs b le ou c).2 (mst st su li at' tx m p q hs b le ou c).1.2.2.1 (mst st su li at' tx m p q hs b le ou c).1.2.2.2.1 (mst st su li at' tx m p q hs b le ou c).1.2.2.2.2.1
    (mst st su li at' tx m p q hs b le ou c).1.2.2.2.2.2.1.1 (mst st su li at' tx m p q hs b le ou c).1.2.2.2.2.2.1.2.1 (mst st su li at' tx m p q hs b le ou c).1.2.2.2.2.2.1.2.2.1 (mst st su li at' tx m p q hs b le ou c).1.2.2.2.2.2.1.2.2.2.1 (mst st su li at' tx m p q hs b le ou c).1.2.2.2.2.2.1.2.2.2.2.1
    (mst st su li at' tx m p q hs b le ou c).1.2.2.2.2.2.2.1 (mst st su li at' tx m p q hs b le ou c).1.2.2.2.2.2.2.2.1 (by rw[he,List.append_assoc];rfl) (by omega) (by omega) (by simp only[List.length_append,List.length_singleton];omega) (fun hz=>inv_feed1 i c hz) (by simp only[List.length_append,List.length_singleton];omega)
   simp only[List.length_append,List.length_singleton,Int.natCast_add,Int.natCast_one] at ih;exact ih
  ·rw[ceF h0];have e:mrun (st,su,li,at',tx,(m,p,q,hs,b,()),le,ou,()) (c::rest)=(st,su,li,at',tx,(m,p,q,hs,b,()),le,ou,()):=if_neg h0;rw[e];rfl
theorem feed_n (st su li at':Int) (tx m p q:List UInt8) (hs:List HeadD) (b:List UInt8) (le:Int) (ou:List ReqD) (s:List UInt8) (K:Nat) (hK:K+s.length≤1000000) (hi:su=0→InvX K (st,su,li,at',tx,(m,p,q,hs,b,()),le,ou,())):
  ofeed (st,su,li,at',tx,(m,p,q,hs,b,()),le,ou,()) (s,())=some (clrX (mrun (st,su,li,at',tx,(m,p,q,hs,b,()),le,ou,()) s)):=by
 rw[ofeed_g,efeed_g];exact feed_l s s [] heads0 K st su li at' tx m p q hs b le ou rfl (by unfold heads0;omega) hK (by simp) hi (by simp only[List.length_nil];omega)
end Go.Proofs.YtldllfocpadkeaaGreatDoor
namespace Go.Proofs.YtldllfocpadkeaaGreatDoor
open Go Go.Eng Nice
set_option maxRecDepth 1000000
theorem clrX_eq (x:ScanD):clrX x=(clX x,outX x,()):=rfl
theorem feedS_n (x:ScanD) (s:List UInt8) (K:Nat) (hK:K+s.length≤1000000) (hi:x.2.1=0→InvX K x):ofeed x (s,())=some (clrX (mrun x s)):=by
 obtain⟨st,su,li,at',tx,⟨m,p,q,hs,b,⟨⟩⟩,le,ou,⟨⟩⟩:=x;exact feed_n st su li at' tx m p q hs b le ou s K hK hi
end Go.Proofs.YtldllfocpadkeaaGreatDoor
namespace Go.Proofs.YtldllfocpadkeaaGreatDoor
open Go Go.Eng Nice
set_option maxRecDepth 1000000
theorem hds_len:∀(k:Nat) (m p q:List UInt8) (hs:List HeadD) (u:List UInt8) (x:ReqD) (r:List UInt8),hdsR k m p q hs u=.whole x r→x.2.2.2.1.length≤hs.length+u.length
 |0,m,p,q,hs,u,x,r,h=>by cases h
 |k+1,m,p,q,hs,u,x,r,h=>by
  have f:=run2 u hs.length 5 [] [] m p q hs 0 0 [] (.inl rfl) (fun _=>rfl) (fun h=>by omega) rfl;unfold hdsR at h
  revert f h
  cases r2 hs.length 5 [] [] 0 u with
  |more=>intro f h;cases h
  |bad e=>intro f h;cases h
  |head hh rr=>
   intro f h;have:=hds_len k m p q (hs++[hh]) rr x r h;have:=f.2;simp only[List.length_append,List.length_singleton] at *;omega
  |fin rr=>
   intro f h;unfold bodyR at h;simp only at h
   split at h
   ·cases h
   ·split at h
    ·cases h
    ·cases h;exact Nat.le_add_right _ _
theorem one_len (s:List UInt8) (x:ReqD) (r:List UInt8) (h:oneR s=.whole x r):x.2.2.2.1.length≤s.length:=by
 by_cases hs:s=[]
 ·subst hs;cases h
 have f:=run1 s 0 0 [] [] [] [] 0 0 [] (.inl rfl) (by omega) (fun _=>rfl) (fun h=>by omega) (fun _=>rfl) (.inl hs);unfold oneR at h
 revert f h
 cases r1 0 0 [] [] [] [] 0 s with
 |more=>intro h f;cases h
 |bad e=>intro h f;cases h
 |whole m p q rr=>
  intro h f;have:=hds_len (rr.length+1) m p q [] rr x r h;have:=f.2;simp only[List.length_nil] at *;omega
theorem scan_len:∀(k:Nat) (s:List UInt8) (x:ReqD),x∈(scanR k s).1→x.2.2.2.1.length≤s.length
 |0,s,x,h=>by simp[scanR] at h
 |k+1,s,x,h=>by
  unfold scanR at h;by_cases hs:s=[]
  ·rw[if_pos hs] at h;simp at h
  rw[if_neg hs] at h;have fit:=run_one s [] hs;have ol:=fun y r=>one_len s y r
  revert fit ol h
  cases oneR s with
  |more=>intro h fit ol;simp at h
  |bad e=>intro h fit ol;simp at h
  |whole y r=>
   intro h fit ol;rcases List.mem_cons.1 h with rfl|h
   ·exact ol _ _ rfl
   ·have:=scan_len k r x h;have:=fit.2;omega
theorem scan_outs (s:List UInt8):(mrun (initX []) s).2.1=(scanR (s.length+1) s).2.1∧outX (mrun (initX []) s)=(scanR (s.length+1) s).1∧idleN (mrun (initX []) s)=((scanR (s.length+1) s).2.2||(scanR (s.length+1) s).2.1 !=0):=
 run_scan (s.length+1) s [] (Nat.lt_succ_self _)
end Go.Proofs.YtldllfocpadkeaaGreatDoor
namespace Nice
open Go Go.Eng
theorem a1_len {st at':Int} {tx m p q:List UInt8} {c:UInt8} {st' at2:Int} {tx' m' p' q':List UInt8} {B:Nat} (h:a1 st at' tx m p q c=some (st',at2,tx',m',p',q')) (ht:tx.length+1≤B) (hp:p.length≤B) (hq:q.length≤B):
  tx'.length≤tx.length+1∧p'.length≤B∧q'.length≤B:=by
 unfold a1 at h
 repeat' split at h
 all_goals first
  |cases h;done
  |(simp only[Option.some.injEq,Prod.mk.injEq] at h
    obtain⟨-, -,rfl,rfl,rfl,rfl⟩:=h;refine⟨?_,?_,?_⟩<;>(try simp only[List.length_append,List.length_cons,List.length_nil])<;>omega)
theorem r1_len:∀(s:List UInt8) (st at':Int) (tx m p q:List UInt8) (i:Nat) (B:Nat) {m' p' q' r:List UInt8},r1 st at' tx m p q i s=.whole m' p' q' r→tx.length+s.length≤B→p.length≤B→q.length≤B→p'.length≤B∧q'.length≤B
 |[],st,at',tx,m,p,q,i,B,m',p',q',r,h,_,_,_=>by simp[r1] at h
 |c::r0,st,at',tx,m,p,q,i,B,m',p',q',r,h,ht,hp,hq=>by
  unfold r1 at h;simp only[List.length_cons] at ht
  split at h
  ·split at h
   ·split at h
    ·cases h
    ·split at h
     ·cases h;exact⟨hp,hq⟩
     ·cases h
   ·cases h
  ·split at h
   ·cases h
   ·split at h
    ·cases h
    ·next e=>
     obtain⟨h1,h2,h3⟩:=a1_len (B:=B) e (by omega) hp hq;exact r1_len r0 _ _ _ _ _ _ _ B h (by omega) h2 h3
theorem trim_len (s:List UInt8):(trimL (trimR s)).length≤s.length:=Nat.le_trans (trimL_le _) (trimR_le _)
theorem a2_lenF {st:Int} {nm tx:List UInt8} {c:UInt8} {st':Int} {nm' tx':List UInt8} {B:Nat} (h:a2 st nm tx c=some (st',nm',tx')) (ht:tx.length+1≤B) (hn:nm.length≤B):tx'.length≤tx.length+1∧nm'.length≤B:=by
 unfold a2 at h
 repeat' split at h
 all_goals first
  |cases h;done
  |(simp only[Option.some.injEq,Prod.mk.injEq] at h
    obtain⟨-,rfl,rfl⟩:=h;refine⟨?_,?_⟩<;>(try simp only[List.length_append,List.length_cons,List.length_nil])<;>omega)
theorem r2_len:∀(s:List UInt8) (nh:Nat) (st:Int) (nm tx:List UInt8) (i:Nat) (B:Nat) {h:HeadD} {r:List UInt8},r2 nh st nm tx i s=.head h r→tx.length+s.length≤B→nm.length≤B→h.1.length≤B∧h.2.1.length≤B
 |[],nh,st,nm,tx,i,B,hh,r,h,_,_=>by simp[r2] at h
 |c::r0,nh,st,nm,tx,i,B,hh,r,h,ht,hn=>by
  unfold r2 at h;simp only[List.length_cons] at ht
  split at h
  ·split at h
   ·split at h
    ·split at h
     ·cases h
     ·split at h<;>cases h
    ·cases h
   ·split at h
    ·cases h
    ·split at h
     ·cases h;exact⟨hn,Nat.le_trans (trim_len tx) (by omega)⟩
     ·cases h
  ·split at h
   ·cases h
   ·split at h
    ·cases h
    ·split at h
     ·cases h
     ·next e=>
      obtain⟨h1,h2⟩:=a2_lenF (B:=B) e (by omega) hn;exact r2_len r0 _ _ _ _ _ B h (by omega) h2
def SmR (B:Nat) (x:ReqD):Prop:=x.2.1.length≤B∧x.2.2.1.length≤B∧∀h,h∈x.2.2.2.1→h.1.length≤B∧h.2.1.length≤B
end Nice
namespace Go.Proofs.YtldllfocpadkeaaGreatDoor
open Go Go.Eng Nice
theorem hds_sm (B:Nat):∀(k:Nat) (m p q:List UInt8) (hs:List HeadD) (u:List UInt8) (x:ReqD) (r:List UInt8),hdsR k m p q hs u=.whole x r→u.length≤B→p.length≤B→q.length≤B→(∀h,h∈hs→h.1.length≤B∧h.2.1.length≤B)→SmR B x
 |0,m,p,q,hs,u,x,r,h,_,_,_,_=>by cases h
 |k+1,m,p,q,hs,u,x,r,h,hu,hp,hq,hh=>by
  have f:=run2 u hs.length 5 [] [] m p q hs 0 0 [] (.inl rfl) (fun _=>rfl) (fun h=>by omega) rfl;have g:=fun h r (e:r2 hs.length 5 [] [] 0 u=.head h r)=>r2_len u hs.length 5 [] [] 0 B e (by simpa using hu) (Nat.zero_le _)
  unfold hdsR at h
  revert f h g
  cases r2 hs.length 5 [] [] 0 u with
  |more=>intro f g h;cases h
  |bad e=>intro f g h;cases h
  |head h0 rr=>
   intro f g h;refine hds_sm B k m p q (hs++[h0]) rr x r h (by have:=f.2;omega) hp hq fun y hy=> ?_
   rcases List.mem_append.1 hy with hy|hy
   ·exact hh y hy
   ·rw[List.mem_singleton.1 hy];exact g _ _ rfl
  |fin rr=>
   intro f g h;unfold bodyR at h;simp only at h
   split at h
   ·cases h
   ·split at h
    ·cases h
    ·cases h;exact⟨hp,hq,hh⟩
theorem one_sm (s:List UInt8) (x:ReqD) (r:List UInt8) (h:oneR s=.whole x r):SmR s.length x:=by
 by_cases hs:s=[]
 ·subst hs;cases h
 have f:=run1 s 0 0 [] [] [] [] 0 0 [] (.inl rfl) (by omega) (fun _=>rfl) (fun h=>by omega) (fun _=>rfl) (.inl hs);have g:=fun m p q r (e:r1 0 0 [] [] [] [] 0 s=.whole m p q r)=>r1_len s 0 0 [] [] [] [] 0 s.length e (by simp) (Nat.zero_le _) (Nat.zero_le _)
 unfold oneR at h
 revert g f h
 cases r1 0 0 [] [] [] [] 0 s with
 |more=>intro f g h;cases f
 |bad e=>intro f g h;cases f
 |whole m p q rr=>
  intro h f g;obtain⟨g1,g2⟩:=g _ _ _ _ rfl;exact hds_sm s.length (rr.length+1) m p q [] rr x r h (by have:=f.2;omega) g1 g2 fun y hy=>by cases hy
theorem scan_sm (B:Nat):∀(k:Nat) (s:List UInt8) (x:ReqD),x∈(scanR k s).1→s.length≤B→SmR B x
 |0,s,x,h,_=>by simp[scanR] at h
 |k+1,s,x,h,hB=>by
  unfold scanR at h;by_cases hs:s=[]
  ·rw[if_pos hs] at h;simp at h
  rw[if_neg hs] at h;have fit:=run_one s [] hs;have ol:=fun y r=>one_sm s y r
  revert fit ol h
  cases oneR s with
  |more=>intro h fit ol;simp at h
  |bad e=>intro h fit ol;simp at h
  |whole y r=>
   intro h fit ol;rcases List.mem_cons.1 h with rfl|h
   ·obtain⟨a,b,c⟩:=ol _ _ rfl;exact⟨by omega,by omega,fun z hz=>⟨Nat.le_trans (c z hz).1 hB,Nat.le_trans (c z hz).2 hB⟩⟩
   ·exact scan_sm B k r x h (by have:=fit.2;omega)
end Go.Proofs.YtldllfocpadkeaaGreatDoor
namespace Nice
open Go Go.Eng
theorem valueN_le:∀(l:List HeadD) (n:List UInt8) (B:Nat),(∀h,h∈l→h.2.1.length≤B)→(valueN l n).1.length≤B
 |[],n,B,_=>Nat.zero_le _
 |h::l,n,B,hh=>by
  unfold valueN;cases lower h.1==lower n
  ·exact valueN_le l n B fun y hy=>hh y (List.mem_cons_of_mem _ hy)
  ·exact hh h (List.mem_cons_self ..)
theorem ofP_sm {x:ReqD} {B:Nat} (h:SmR B x) (hl:x.2.2.2.1.length≤B) (hB:B≤1000000):ofP x=true:=by
 obtain⟨m,p,q,hs,b,⟨⟩⟩:=x;obtain⟨h1,h2,h3⟩:=h;have h1:p.length≤B:=h1;have h2:q.length≤B:=h2;have h3:∀h,h∈hs→h.1.length≤B∧h.2.1.length≤B:=h3;have hl:hs.length≤B:=hl;have hv:(valueN hs imW).1.length≤B:=valueN_le hs imW B fun h hh=>(h3 h hh).2
 have hlow:hs.all (fun h=>lowerP h.1)=true:=List.all_eq_true.2 fun h hh=>by
  have:=(h3 h hh).1;unfold lowerP;exact decide_eq_true (by omega)
 have e:valueP hs inmW=true∧valueP hs imW=true:=by
  unfold valueP;rw[hlow,decide_eq_true (by omega)];exact⟨by decide,by decide⟩
 show(((valueP hs inmW&&valueP hs imW)&&bndS (valueN hs imW).1)&&(shortS q&&bndS p))=true;unfold shortS bndS;rw[e.1,e.2,decide_eq_true (by omega),decide_eq_true (by omega),decide_eq_true (by omega)];rfl
end Nice
namespace Nice
open Go Go.Eng
def headT (h:HeadD):List UInt8:=cut h.1 40++[58]++cut h.2.1 110++[13,10]
def headsT (l:List HeadD):List UInt8:=(l.map headT).flatten
def lineH (r:ReqD):List UInt8:=cut r.1 12++[32]++cut r.2.1 100++(bif r.2.2.1==[] then [] else [63]++cut r.2.2.1 120)++[32,72,84,84,80,47,49,46,49,13,10]
def lineT (r:ReqD):List UInt8:=lineH r++headsT (r.2.2.2.1.take 12)++[13,10]++cut r.2.2.2.2.1 310
theorem cut_all {s:List UInt8} {n:Nat} (h:s.length≤n):cut s (n:Int)=s:=by
 unfold cut;exact List.take_of_length_le h
theorem r1_vis {st:Int} {m p q:List UInt8} (h0:st=1∨st=2) (R:List UInt8):∀(k tx:List UInt8) (i:Nat),(st=1→tx≠[])→i+k.length≤200→(∀c,c∈k→isVis c=true∧c.toNat≠63)→
  r1 st 0 tx m p q i (k++R)=r1 st 0 (tx++k) m p q (i+k.length) R
 |[],tx,i,_,_,_=>by rw[List.append_nil];rfl
 |c::k,tx,i,ht,hi,hv=>by
  obtain⟨v1,v2⟩:=hv c (List.mem_cons_self ..);have hv':=v1;unfold isVis at v1;have v1:=of_decide_eq_true v1;simp only[List.length_cons] at hi;show r1 st 0 tx m p q i (c::(k++R))=_
  conv=>lhs;unfold r1
  rw[if_neg (by omega),if_neg (by omega)];have ea:a1 st 0 tx m p q c=some (st,0,tx++[c],m,p,q):=by
   unfold a1;rcases h0 with rfl|rfl
   ·have hl:¬tx.length=0:=fun e=>ht rfl (List.length_eq_zero_iff.1 e)
    rw[if_neg (by decide),if_pos rfl,if_neg (fun h=>hl h.1),if_neg v2,if_neg (by omega),if_pos hv']
   ·rw[if_neg (by decide),if_neg (by decide),if_pos rfl,if_neg (by omega),if_pos hv']
  rw[ea];simp only;rw[r1_vis h0 R k (tx++[c]) (i+1) (fun _=>by simp) (by omega) (fun c' h'=>hv c' (List.mem_cons_of_mem _ h')),List.append_assoc];simp only[List.cons_append,List.nil_append,List.length_cons];rw[show i+1+k.length=i+(k.length+1) by omega]
theorem r1_v1 (k:Nat) (tx m p q:List UInt8) (i:Nat) (c:UInt8) (R:List UInt8) (hk:k<8) (hc:c.toNat=(verB.getD k 0).toNat) (hn:c.toNat≠13) (hi:i<200):
  r1 3 (k:Int) tx m p q i (c::R)=r1 3 ((k+1:Nat):Int) tx m p q (i+1) R:=by
 conv=>lhs;unfold r1
 rw[if_neg hn,if_neg (by omega)];have ea:a1 3 (k:Int) tx m p q c=some (3,(k:Int)+1,tx,m,p,q):=by
  unfold a1;rw[if_neg (by decide),if_neg (by decide),if_neg (by decide),if_neg (by omega),Int.toNat_natCast,if_pos hc]
 rw[ea];rfl
theorem r1_ver (tx m p q:List UInt8) (i:Nat) (R:List UInt8) (hi:i+8≤200):r1 3 0 tx m p q i ([72,84,84,80,47,49,46,49,13,10]++R)=.whole m p q R:=by
 show r1 3 ((0:Nat):Int) tx m p q i (72::84::84::80::47::49::46::49::13::10::R)=_;rw[r1_v1 0 _ _ _ _ _ _ _ (by decide) (by decide) (by decide) (by omega),r1_v1 1 _ _ _ _ _ _ _ (by decide) (by decide) (by decide) (by omega),r1_v1 2 _ _ _ _ _ _ _ (by decide) (by decide) (by decide) (by omega),r1_v1 3 _ _ _ _ _ _ _ (by decide) (by decide) (by decide) (by omega),
  r1_v1 4 _ _ _ _ _ _ _ (by decide) (by decide) (by decide) (by omega),r1_v1 5 _ _ _ _ _ _ _ (by decide) (by decide) (by decide) (by omega),r1_v1 6 _ _ _ _ _ _ _ (by decide) (by decide) (by decide) (by omega),r1_v1 7 _ _ _ _ _ _ _ (by decide) (by decide) (by decide) (by omega)]
 rfl
theorem r1_b1 (tx m p q:List UInt8) (i:Nat) (R:List UInt8) (ht:tx≠[]) (hi:i<200):r1 1 0 tx m p q i (32::R)=r1 3 0 [] m tx q (i+1) R:=by
 conv=>lhs;unfold r1
 rw[if_neg (by decide),if_neg (by omega)];have hl:¬tx.length=0:=fun e=>ht (List.length_eq_zero_iff.1 e)
 have ea:a1 1 0 tx m p q 32=some (3,0,[],m,tx,q):=by
  unfold a1;rw[if_neg (by decide),if_pos rfl,if_neg (fun h=>hl h.1),if_neg (by decide),if_pos (by decide)]
 rw[ea]
theorem r1_m1 (tx m p q:List UInt8) (i:Nat) (R:List UInt8) (ht:tx≠[]) (hi:i<200):r1 1 0 tx m p q i (63::R)=r1 2 0 [] m tx q (i+1) R:=by
 conv=>lhs;unfold r1
 rw[if_neg (by decide),if_neg (by omega)];have hl:¬tx.length=0:=fun e=>ht (List.length_eq_zero_iff.1 e)
 have ea:a1 1 0 tx m p q 63=some (2,0,[],m,tx,q):=by
  unfold a1;rw[if_neg (by decide),if_pos rfl,if_neg (fun h=>hl h.1),if_pos (by decide)]
 rw[ea]
theorem r1_b2 (tx m p q:List UInt8) (i:Nat) (R:List UInt8) (hi:i<200):r1 2 0 tx m p q i (32::R)=r1 3 0 [] m p tx (i+1) R:=by
 conv=>lhs;unfold r1
 rw[if_neg (by decide),if_neg (by omega)];have ea:a1 2 0 tx m p q 32=some (3,0,[],m,p,tx):=by
  unfold a1;rw[if_neg (by decide),if_neg (by decide),if_pos rfl,if_pos (by decide)]
 rw[ea]
theorem r1_meth {m:List UInt8} (hm:m=getW∨m=headW∨m=putW∨m=delW) (R:List UInt8):r1 0 0 [] [] [] [] 0 (m++32::47::111::R)=r1 1 0 [47,111] m [] [] (m.length+3) R:=by
 rcases hm with rfl|rfl|rfl|rfl<;>rfl
theorem r1_line {m p q:List UInt8} (hm:m=getW∨m=headW∨m=putW∨m=delW) (hp:∀c,c∈p→isVis c=true∧c.toNat≠63) (hq:∀c,c∈q→isVis c=true∧c.toNat≠63) (hl:p.length+q.length≤170) (R:List UInt8):
  r1 0 0 [] [] [] [] 0 (m++[32]++([47,111]++p)++(bif q==[] then [] else [63]++q)++[32,72,84,84,80,47,49,46,49,13,10]++R)=.whole m ([47,111]++p) q R:=by
 have hml:m.length≤6:=by rcases hm with rfl|rfl|rfl|rfl<;>decide
 have e:m++[32]++([47,111]++p)++(bif q==[] then [] else [63]++q)++[32,72,84,84,80,47,49,46,49,13,10]++R=m++32::47::111::(p++((bif q==[] then [] else [63]++q)++(32::([72,84,84,80,47,49,46,49,13,10]++R)))):=by
  simp only[List.append_assoc,List.cons_append,List.nil_append]
 rw[e,r1_meth hm,r1_vis (.inl rfl) _ p [47,111] _ (fun _=>by simp) (by omega) hp];cases h:q==[]
 ·rw[cond_false];show r1 1 0 _ m [] [] _ (63::(q++_))=_;rw[r1_m1 _ _ _ _ _ _ (by simp) (by omega),r1_vis (.inr rfl) _ q [] _ (fun h=>by cases h) (by omega) hq,r1_b2 _ _ _ _ _ _ (by omega),r1_ver _ _ _ _ _ _ (by omega)];rfl
 ·have:=beq_iff_eq.1 h;subst this;rw[cond_true,List.nil_append,r1_b1 _ _ _ _ _ _ (by simp) (by omega),r1_ver _ _ _ _ _ _ (by omega)]
theorem r2_valP (nh:Nat) (nm:List UInt8) (R:List UInt8):∀(ds tx:List UInt8) (i:Nat),0<i→i+ds.length≤119→(∀c,c∈ds→33≤c.toNat∧c.toNat≤126)→r2 nh 6 nm tx i (ds++13::10::R)=.head (nm,trimL (trimR (tx++ds)),()) R
 |[],tx,i,h0,hi,hd=>by rw[List.append_nil];rfl
 |c::ds,tx,i,h0,hi,hd=>by
  have hc:=hd c (List.mem_cons_self ..);simp only[List.length_cons] at hi;show r2 nh 6 nm tx i (c::(ds++13::10::R))=_;unfold r2;rw[if_neg (by omega),if_neg (by omega),if_neg (by omega)];have ea:a2 6 nm tx c=some (6,nm,tx++[c]):=by unfold a2;rw[if_neg (by decide),if_pos (by omega)]
  rw[ea];simp only;rw[r2_valP nh nm R ds (tx++[c]) (i+1) (by omega) (by omega) (fun c' h'=>hd c' (List.mem_cons_of_mem _ h')),List.append_assoc];rfl
theorem drop_none {p:UInt8→Bool}:∀{s:List UInt8},(∀c,c∈s→p c=false)→s.dropWhile p=s
 |[],_=>rfl
 |c::r,h=>by rw[List.dropWhile_cons,h c (List.mem_cons_self ..)];rfl
theorem trim_none {s:List UInt8} (h:∀c,c∈s→33≤c.toNat∧c.toNat≤126):trimL (trimR s)=s:=by
 have hs:∀c,c∈s→isSp c=false:=by
  intro c hc;have:=h c hc;unfold isSp;rw[Bool.or_eq_false_iff,beq_eq_false_iff_ne,beq_eq_false_iff_ne];constructor
  ·rintro rfl;exact absurd this.1 (by decide)
  ·rintro rfl;exact absurd this.1 (by decide)
 have hr:trimR s=s:=by
  unfold trimR;rw[drop_none (fun c hc=>hs c (List.mem_reverse.1 hc)),List.reverse_reverse]
 rw[hr];unfold trimL;exact drop_none hs
theorem r2_name {nm:List UInt8} {nh:Nat} (hn:nh=0∨nh=1) (hm:nm=inmW∨nm=imW∨nm=clW) (R:List UInt8):r2 nh 5 [] [] 0 (nm++58::R)=r2 nh 6 nm [] (nm.length+1) R:=by
 rcases hn with rfl|rfl<;>rcases hm with rfl|rfl|rfl<;>rfl
theorem r2_head {nm v:List UInt8} {nh:Nat} (hn:nh=0∨nh=1) (hm:nm=inmW∨nm=imW∨nm=clW) (hv:∀c,c∈v→33≤c.toNat∧c.toNat≤126) (hl:v.length≤100) (R:List UInt8):
  r2 nh 5 [] [] 0 (headT (nm,v,())++R)=.head (nm,v,()) R:=by
 have hml:nm.length≤14:=by rcases hm with rfl|rfl|rfl<;>decide
 have e:headT (nm,v,())++R=nm++58::(v++13::10::R):=by
  unfold headT;rw[show cut nm 40=nm from cut_all (n:=40) (by omega),show cut v 110=v from cut_all (n:=110) (by omega)];simp only[List.append_assoc,List.cons_append,List.nil_append]
 rw[e,r2_name hn hm,r2_valP _ _ _ _ _ _ (by omega) (by omega) hv,List.nil_append,trim_none hv]
def okH (h:HeadD):Prop:=(h.1=inmW∨h.1=imW∨h.1=clW)∧(∀c,c∈h.2.1→33≤c.toNat∧c.toNat≤126)∧h.2.1.length≤100
theorem hds_all (m p q:List UInt8) (B:List UInt8):∀(l pre:List HeadD) (n:Nat),l.length<n→pre.length+l.length≤2→(∀h,h∈l→okH h)→hdsR n m p q pre (headsT l++(13::10::B))=bodyR m p q (pre++l) B
 |[],pre,n,hn,hp,_=>by
  obtain⟨n,rfl⟩:∃k,n=k+1:=⟨n-1,by omega⟩
  rw[List.append_nil];rfl
 |h::l,pre,n,hn,hp,ho=>by
  obtain⟨n,rfl⟩:∃k,n=k+1:=⟨n-1,by omega⟩
  simp only[List.length_cons] at hn hp;obtain⟨nm,v,⟨⟩⟩:=h;obtain⟨o1,o2,o3⟩:=ho _ (List.mem_cons_self ..);have e:headsT ((nm,v,())::l)++(13::10::B)=headT (nm,v,())++(headsT l++(13::10::B)):=by
   unfold headsT;simp only[List.map_cons,List.flatten_cons,List.append_assoc]
  rw[e];unfold hdsR;rw[r2_head (by omega) o1 o2 o3];simp only;rw[hds_all m p q B l (pre++[(nm,v,())]) n (by omega) (by simp only[List.length_append,List.length_singleton];omega) (fun h' hh=>ho h' (List.mem_cons_of_mem _ hh)),List.append_assoc];rfl
theorem key_vis {c:UInt8} (h:keyCh c=true):isVis c=true∧c.toNat≠63:=by
 unfold keyCh at h;have h:=of_decide_eq_true h;exact⟨decide_eq_true (by omega),by omega⟩
theorem isKey_vis {k:List UInt8} (h:isKey k=true):∀c,c∈k→isVis c=true∧c.toNat≠63:=by
 unfold isKey at h;rw[Bool.and_eq_true] at h;exact fun c hc=>key_vis (List.all_eq_true.1 h.1 c hc)
theorem keyB_vis {k:List UInt8} (h:keyB k=true):∀c,c∈k→isVis c=true∧c.toNat≠63:=by
 unfold keyB at h;rw[Bool.or_eq_true,beq_iff_eq] at h;rcases h with rfl|h
 ·intro c hc;cases hc
 ·exact isKey_vis h
theorem keyB_len {k:List UInt8} (h:keyB k=true):k.length≤40:=by
 unfold keyB at h;rw[Bool.or_eq_true,beq_iff_eq] at h;rcases h with rfl|h
 ·simp
 ·unfold isKey at h;rw[Bool.and_eq_true,Bool.and_eq_true,decide_eq_true_eq,decide_eq_true_eq] at h;exact h.2.2
theorem itoa_dig (u:Nat):∀c,c∈Lib.itoa (u:Int)→48≤c.toNat∧c.toNat≤57:=by
 intro c hc;rw[itoa_nat] at hc;exact isDig_iff.1 (List.all_eq_true.1 (dec_ok u).1 c hc)
theorem dig_vis {c:UInt8} (h:48≤c.toNat∧c.toNat≤57):isVis c=true∧c.toNat≠63:=⟨decide_eq_true (by omega),by omega⟩
theorem vis_app {a b:List UInt8} (h1:∀c,c∈a→isVis c=true∧c.toNat≠63) (h2:∀c,c∈b→isVis c=true∧c.toNat≠63):∀c,c∈a++b→isVis c=true∧c.toNat≠63:=by
 intro c hc;rcases List.mem_append.1 hc with hc|hc
 ·exact h1 c hc
 ·exact h2 c hc
theorem vis_list (l:List UInt8) (h:l.all (fun c=>isVis c&& !(c.toNat==63))=true):∀c,c∈l→isVis c=true∧c.toNat≠63:=by
 intro c hc;have:=List.all_eq_true.1 h c hc;rw[Bool.and_eq_true,Bool.not_eq_true',beq_eq_false_iff_ne] at this;exact this
theorem join_vis:∀(l:List (List UInt8)) (x:List UInt8),(∀y,y∈x::l→∀c,c∈y→isVis c=true∧c.toNat≠63)→∀c,c∈x++Lib.joinTail [38] l→isVis c=true∧c.toNat≠63
 |[],x,h=>by
  intro c hc;have e:x++Lib.joinTail [38] []=x:=by simp[Lib.joinTail]
  rw[e] at hc;exact h x (List.mem_cons_self ..) c hc
 |y::l,x,h=>by
  have e:x++Lib.joinTail [38] (y::l)=x++([38]++(y++Lib.joinTail [38] l)):=by simp[Lib.joinTail]
  rw[e];refine vis_app (h x (List.mem_cons_self ..)) (vis_app (vis_list _ (by decide)) (join_vis l y fun z hz=>h z (List.mem_cons_of_mem _ hz)))
theorem query_ok {p f:List UInt8} {m k:Int} (hp:keyB p=true) (hf:keyB f=true) (h1:1≤m) (h2:m≤20):
  (∀c,c∈Lib.join (qParts p f m k) [38]→isVis c=true∧c.toNat≠63)∧(Lib.join (qParts p f m k) [38]).length≤120:=by
 obtain⟨u,rfl⟩:∃u:Nat,m=(u:Int):=⟨m.toNat,by omega⟩
 have hall:∀y,y∈qParts p f (u:Int) k→∀c,c∈y→isVis c=true∧c.toNat≠63:=by
  intro y hy;rcases qParts_mem hy with rfl|rfl|rfl|rfl
  ·exact vis_app (vis_list _ (by decide)) (keyB_vis hp)
  ·exact vis_app (vis_list _ (by decide)) (keyB_vis hf)
  ·exact vis_app (vis_list _ (by decide)) (fun c hc=>dig_vis (itoa_dig u c hc))
  ·exact vis_list _ (by decide)
 constructor
 ·intro c hc
  revert hall hc
  generalize qParts p f (u:Int) k=l;intro hall hc;cases l with
  |nil=>cases hc
  |cons x r=>rw[Lib.join_cons] at hc;exact join_vis r x hall c hc
 ·have lp:=keyB_len hp;have lf:=keyB_len hf;have lm:=itoa_len2 (u:=u) (by omega);have l1:ePre.length=7:=rfl;have l2:eAft.length=6:=rfl;have l3:eMax.length=4:=rfl;have l4:verW1.length=10:=rfl;have a1:Lib.lens (qPre p)≤47∧(qPre p).length≤1:=by
   unfold qPre;cases p==[]<;>simp[Lib.lens]<;>omega
  have a2:Lib.lens (qAft f)≤46∧(qAft f).length≤1:=by
   unfold qAft;cases f==[]<;>simp[Lib.lens]<;>omega
  have a3:Lib.lens (qMax (u:Int))≤6∧(qMax (u:Int)).length≤1:=by
   unfold qMax;cases(u:Int)==20<;>simp[Lib.lens]<;>omega
  have a4:Lib.lens (qKind k)≤10∧(qKind k).length≤1:=by
   unfold qKind;cases k==5<;>simp[Lib.lens]<;>omega
  have hl:Lib.lens (qParts p f (u:Int) k)≤109∧(qParts p f (u:Int) k).length≤4:=by
   unfold qParts;have happ:∀a b:List (List UInt8),Lib.lens (a++b)=Lib.lens a+Lib.lens b:=by intro a b;simp[Lib.lens]
   rw[happ,happ,happ,List.length_append,List.length_append,List.length_append];omega
  revert hl
  generalize qParts p f (u:Int) k=l;intro hl;cases l with
  |nil=>exact Nat.zero_le _
  |cons x r=>
   rw[Lib.join_length];simp only[List.length_cons,List.length_nil] at hl⊢;omega
theorem read_hex {t:List UInt8} (h:(rRead t).2=true):t.length=8∧∀c,c∈t→33≤c.toNat∧c.toNat≤126:=by
 have hl:t.length=8:=by rw[←read_eq] at h;exact gRead_len h
 refine⟨hl,?_⟩;have key:∀(s:List UInt8) (i:Nat) (a b:Int),rdF s i a b≠none→∀c,c∈s→isHx c=true:=by
  intro s
  induction s with
  |nil=>intro i a b _ c hc;cases hc
  |cons d r ih=>
   intro i a b hn c hc;unfold rdF at hn;cases hd:isHx d
   ·rw[hd] at hn;exact absurd rfl hn
   ·rw[hd,cond_true] at hn;rcases List.mem_cons.1 hc with rfl|hc
    ·exact hd
    ·cases h4:decide (i<4)
     ·rw[h4,cond_false] at hn;exact ih _ _ _ hn c hc
     ·rw[h4,cond_true] at hn;exact ih _ _ _ hn c hc
 have hne:rdF t 0 0 0≠none:=by
  intro e;unfold rRead rdZ at h;rw[decide_eq_true hl,e] at h;cases h
 intro c hc;have:=key t 0 0 0 hne c hc;unfold isHx at this;have:=of_decide_eq_true this;omega
theorem low_ct:(lower clW==tenc)=false∧(lower clW==clen)=true∧(lower inmW==clen)=false∧(lower inmW==tenc)=false∧(lower imW==clen)=false∧(lower imW==tenc)=false:=by decide
theorem refNum_itoa {u:Nat} (h:u≤300):refNum (Lib.itoa (u:Int)) 6=((u:Int),true):=by
 have hl:=itoa_len (k:=2) (u:=u) (by omega);unfold refNum;obtain⟨d1,d2,d3,_⟩:=dec_ok u;have hp:1≤(Lib.itoa (u:Int)).length:=by
  rw[itoa_nat];exact List.length_pos_iff.2 d3
 rw[decide_eq_true (show((Lib.itoa (u:Int)).length:Int)≤6 by omega),decide_eq_true hp,itoa_nat,d1,d2];rfl
theorem refLen_req {c:Int} {t b:List UInt8} (hb:b.length≤300):refLen (hdC c t++hdB b)=((b.length:Int),0):=by
 obtain⟨w1,w2,w3,w4,w5,w6⟩:=low_ct;have hB:∀n k,refHeads (hdB b) n k=bif b==[] then some (n,k) else some (Lib.itoa (b.length:Int),k+1):=by
  intro n k;unfold hdB;cases b==[]
  ·simp only[cond_false,refHeads,w2,cond_true]
  ·rfl
 have hC:refHeads (hdC c t++hdB b) [] 0=refHeads (hdB b) [] 0:=by
  unfold hdC;cases c==1
  ·cases c==2
   ·rfl
   ·simp only[cond_true,cond_false,List.cons_append,List.nil_append,refHeads,w5,w6]
  ·simp only[cond_true,List.cons_append,List.nil_append,refHeads,w3,w4,cond_false]
 unfold refLen;rw[hC,hB];cases h:b==[]
 ·rw[cond_false];unfold refLenOut;show(if 0+1=0 then((0:Int),(0:Int)) else if 1<0+1∨(refNum (Lib.itoa (b.length:Int)) 6).2=false then((0:Int),(400:Int)) else if(refNum (Lib.itoa (b.length:Int)) 6).1>300 then((refNum (Lib.itoa (b.length:Int)) 6).1,(413:Int)) else((refNum (Lib.itoa (b.length:Int)) 6).1,(0:Int)))=_
  rw[refNum_itoa hb,if_neg (by omega),if_neg (by simp),if_neg (show ¬((b.length:Int)>300) by omega)]
 ·rw[beq_iff_eq.1 h];rfl
theorem hdC_ok {c:Int} {t b:List UInt8} (hb:b.length≤300) (ht:(bif c==2 then(rRead t).2 else t==[])=true):(∀h,h∈hdC c t++hdB b→okH h)∧(hdC c t++hdB b).length≤2:=by
 have hB:(∀h,h∈hdB b→okH h)∧(hdB b).length≤1:=by
  unfold hdB;cases b==[]
  ·refine⟨fun h hh=> ?_,Nat.le_refl 1⟩;rw[cond_false] at hh;rw[List.mem_singleton.1 hh];refine⟨.inr (.inr rfl),fun c hc=> ?_,?_⟩
   ·have:=itoa_dig b.length c hc;omega
   ·have:=itoa_len (k:=2) (u:=b.length) (by omega);show(Lib.itoa (b.length:Int)).length≤100;omega
  ·exact⟨fun h hh=>(by cases hh),Nat.zero_le _⟩
 have hC:(∀h,h∈hdC c t→okH h)∧(hdC c t).length≤1:=by
  unfold hdC;cases c1:c==1
  ·cases c2:c==2
   ·exact⟨fun h hh=>(by cases hh),Nat.zero_le _⟩
   ·rw[c2] at ht;have ht:(rRead t).2=true:=ht;obtain⟨l8,hx⟩:=read_hex ht;refine⟨fun h hh=> ?_,by rw[cond_false,cond_true];exact Nat.le_refl _⟩;rw[cond_false,cond_true] at hh;rw[List.mem_singleton.1 hh];refine⟨.inr (.inl rfl),fun c hc=> ?_,?_⟩
    ·have hc:c∈[34]++t++[34]:=hc;rw[List.mem_append,List.mem_append,List.mem_singleton] at hc;rcases hc with(rfl|hc)|rfl
     ·decide
     ·exact hx c hc
     ·decide
    ·show([34]++t++[34]).length≤100;simp only[List.length_append,List.length_cons,List.length_nil];omega
  ·refine⟨fun h hh=> ?_,by rw[cond_true];exact Nat.le_refl _⟩;rw[cond_true] at hh;rw[List.mem_singleton.1 hh];refine⟨.inl rfl,fun c hc=> ?_,by decide⟩;have hc:c∈([42]:List UInt8):=hc;rw[List.mem_singleton.1 hc];decide
 refine⟨fun h hh=> ?_,by rw[List.length_append];omega⟩;rcases List.mem_append.1 hh with hh|hh
 ·exact hC.1 h hh
 ·exact hB.1 h hh
theorem req_parts {a:AskD} (h:mayN a=true):(methR a.1 a.2.2.2.2.2.2.2.2.2.1=getW∨methR a.1 a.2.2.2.2.2.2.2.2.2.1=headW∨methR a.1 a.2.2.2.2.2.2.2.2.2.1=putW∨methR a.1 a.2.2.2.2.2.2.2.2.2.1=delW)∧
  (∃p,pathR a.1 a.2.1=[47,111]++p∧(∀c,c∈p→isVis c=true∧c.toNat≠63)∧p.length≤41∧p.length+(qryR a).length≤170)∧
  ((∀c,c∈qryR a→isVis c=true∧c.toNat≠63)∧(qryR a).length≤120)∧a.2.2.2.1.length≤300∧(bif a.2.2.2.2.1==2 then(rRead a.2.2.2.2.2.1).2 else a.2.2.2.2.2.1==[])=true:=by
 obtain⟨kd,k,v,b,c,t,p,f,m,br,⟨⟩⟩:=a;refine⟨?_,?_⟩
 ·dsimp only;unfold methR;cases kd==2
  ·cases kd==3
   ·cases br
    ·exact .inl rfl
    ·exact .inr (.inl rfl)
   ·exact .inr (.inr (.inr rfl))
  ·exact .inr (.inr (.inl rfl))
 unfold mayN at h;dsimp only at h⊢;cases hL:isL kd
 ·rw[hL,cond_false] at h;unfold mayC at h;simp only[Bool.and_eq_true,beq_iff_eq,decide_eq_true_eq] at h;obtain⟨⟨rfl,rfl,rfl,hk,hv0,hv1⟩,h⟩:=h;have hkl:k.length≤40:=keyB_len (show keyB k=true by unfold keyB;rw[hk,Bool.or_true]);have hq:(∀x,x∈qryR (kd,k,v,b,c,t,[],[],0,br,())→isVis x=true∧x.toNat≠63)∧(qryR (kd,k,v,b,c,t,[],[],0,br,())).length≤21:=by
   unfold qryR;dsimp only;rw[hL,cond_false];cases hz:v==0
   ·obtain⟨u,rfl⟩:∃u:Nat,v=(u:Int):=⟨v.toNat,by omega⟩
    rw[cond_false];have:=itoa_len (k:=12) (u:=u) (by omega);have l1:vPre.length=8:=rfl;exact⟨vis_app (vis_list _ (by decide)) (fun c hc=>dig_vis (itoa_dig u c hc)),by rw[List.length_append];omega⟩
   ·exact⟨fun x hx=>by(rw[cond_true] at hx;cases hx),Nat.zero_le _⟩
  refine⟨⟨[47]++k,?_,vis_app (vis_list _ (by decide)) (isKey_vis hk),?_,?_⟩,⟨hq.1,Nat.le_trans hq.2 (by omega)⟩,?_⟩
  ·unfold pathR;rw[hL];rfl
  ·rw[List.length_append];simp only[List.length_cons,List.length_nil];omega
  ·exact Nat.le_trans (Nat.add_le_add_left hq.2 _) (by rw[List.length_append];simp only[List.length_cons,List.length_nil];omega)
  ·by_cases k1:kd=1
   ·subst k1;rw[show((1:Int)==1)=true from rfl,cond_true] at h;unfold mayG at h;simp only[Bool.and_eq_true,beq_iff_eq] at h;obtain⟨rfl,rfl,rfl⟩:=h;exact⟨Nat.zero_le _,rfl⟩
   rw[beq_eq_false_iff_ne.2 k1,cond_false] at h;by_cases k3:kd=3
   ·subst k3;rw[show((3:Int)==3)=true from rfl,cond_true] at h;unfold mayG at h;simp only[Bool.and_eq_true,beq_iff_eq] at h;obtain⟨⟨rfl,rfl,rfl⟩,_⟩:=h;exact⟨Nat.zero_le _,rfl⟩
   rw[beq_eq_false_iff_ne.2 k3,cond_false] at h;by_cases k2:kd=2
   ·subst k2;rw[show((2:Int)==2)=true from rfl,cond_true] at h;unfold mayP at h;simp only[Bool.and_eq_true,decide_eq_true_eq] at h;obtain⟨hb,_,_,_,_,ht⟩:=h;exact⟨by omega,ht⟩
   rw[beq_eq_false_iff_ne.2 k2,cond_false] at h;cases h
 ·rw[hL,cond_true] at h;unfold mayL at h;simp only[Bool.and_eq_true,beq_iff_eq,decide_eq_true_eq] at h;obtain⟨rfl,rfl,rfl,rfl,rfl,hp,hf,hm1,hm2⟩:=h;have eq:qryR (kd,[],0,[],0,[],p,f,m,br,())=Lib.join (qParts p f m kd) [38]:=by
   unfold qryR;dsimp only;rw[hL];rfl
  obtain⟨q1,q2⟩:=query_ok (k:=kd) hp hf hm1 hm2;rw[eq];refine⟨⟨[],by unfold pathR;rw[hL];rfl,fun c hc=>(by cases hc),Nat.zero_le _,by simp only[List.length_nil];omega⟩,⟨q1,q2⟩,Nat.zero_le _,rfl⟩
theorem scan_req {a:AskD} (h:mayN a=true):scanR ((lineT (reqR a)).length+1) (lineT (reqR a))=([reqR a],0,true):=by
 obtain⟨hm,⟨p,hp,pv,pl,pq⟩,⟨qv,ql⟩,hb,ht⟩:=req_parts h;obtain⟨kd,k,v,b,c,t,pf,f,mx,br,⟨⟩⟩:=a;dsimp only at hm hp hb ht;obtain⟨ho,hl2⟩:=hdC_ok (c:=c) (t:=t) (b:=b) hb ht;have hrl:=refLen_req (c:=c) (t:=t) (b:=b) hb;have hr:reqR (kd,k,v,b,c,t,pf,f,mx,br,())=(methR kd br,[47,111]++p,qryR (kd,k,v,b,c,t,pf,f,mx,br,()),hdC c t++hdB b,b,()):=by
  unfold reqR;dsimp only;rw[hp]
 rw[hr];generalize qryR (kd,k,v,b,c,t,pf,f,mx,br,())=q at qv ql pq;generalize methR kd br=m at hm;generalize hdC c t++hdB b=hs at ho hl2 hrl;have hml:m.length≤6:=by rcases hm with rfl|rfl|rfl|rfl<;>decide
 have el:lineT (m,[47,111]++p,q,hs,b,())=m++[32]++([47,111]++p)++(bif q==[] then [] else [63]++q)++[32,72,84,84,80,47,49,46,49,13,10]++(headsT hs++(13::10::b)):=by
  unfold lineT lineH;dsimp only;rw[show cut m 12=m from cut_all (n:=12) (by omega),show cut ([47,111]++p) 100=[47,111]++p from cut_all (n:=100) (by simp only[List.length_append,List.length_cons,List.length_nil];omega),show cut q 120=q from cut_all (n:=120) ql,show cut b 310=b from cut_all (n:=310) (by omega),List.take_of_length_le (by omega:hs.length≤12)]
  simp only[List.append_assoc,List.cons_append,List.nil_append]
 have hone:oneR (lineT (m,[47,111]++p,q,hs,b,()))=.whole (m,[47,111]++p,q,hs,b,()) []:=by
  rw[el];unfold oneR;rw[r1_line hm pv qv pq];simp only;rw[hds_all _ _ _ b hs [] _ (by
   have:hs.length≤(headsT hs).length:=by
    clear ho hl2 hrl el
    induction hs with
    |nil=>exact Nat.zero_le _
    |cons x r ih=>
     have:headsT (x::r)=headT x++headsT r:=by unfold headsT;simp only[List.map_cons,List.flatten_cons]
     rw[this,List.length_append,List.length_cons];have h1:1≤(headT x).length:=by unfold headT;simp only[List.length_append,List.length_cons,List.length_nil];omega
     omega
   rw[List.length_append];omega) (by simpa using hl2) ho]
  unfold bodyR;rw[List.nil_append,hrl];dsimp only;rw[if_neg (by simp),if_neg (by omega),Int.toNat_natCast,List.take_length,List.drop_length]
 have hne:lineT (m,[47,111]++p,q,hs,b,())≠[]:=by
  rw[el];intro e;have:=congrArg List.length e;simp only[List.length_append,List.length_cons,List.length_nil] at this;omega
 conv=>lhs;unfold scanR
 rw[if_neg hne,hone];simp only;obtain⟨n,hn⟩:∃n,(lineT (m,[47,111]++p,q,hs,b,())).length=n+1:=⟨(lineT (m,[47,111]++p,q,hs,b,())).length-1,by have:=List.length_pos_iff.2 hne;omega⟩
 rw[hn];unfold scanR;rw[if_pos rfl]
end Nice

/-
  Part of the proof: Shelf15B QA LA LB LC LD LU LV LG. No condition.
-/
import Derived.Shelf.LaysC
import Derived.Ground.GgwProg
import Derived.Shelf.Strconv.ParseIntPublic10
import Derived.Shelf.GgClosure.StringsIndexFunc
import Derived.Shelf.GgClosure.StringsIndexFuncTop
import Derived.Test.YtldllfocpadkeaaGreatDoorProg
import Derived.Test.YtldllfocpadkeaaGreatDoorG5
import Derived.Test.YtldllfocpadkeaaGreatDoorG1
import Derived.Test.YtldllfocpadkeaaGreatDoorG4
namespace Go.Proofs
open Go.Shelf
def Tryz.laysC174_ren:Go.Shelf.Ren:=⟨fun|174=>191|247=>264|245=>258|287=>313|279=>303|280=>304|281=>305|282=>306|321=>339|322=>340|316=>335|171=>79|205=>336|243=>125|246=>126|283=>167|284=>168|285=>169|286=>170|129=>218|317=>217|318=>219|319=>220|320=>221|337=>280|338=>281|n=>n,fun|9=>9|3=>3|2=>2|75=>209|85=>230|4=>4|167=>337|5=>5|53=>144|175=>342|46=>262|168=>338|37=>78|0=>0|210=>369|21=>21|127=>264|145=>384|143=>382|171=>199|173=>202|212=>258|51=>259|20=>20|213=>260|232=>356|233=>357|80=>75|n=>n,fun|15=>7|16=>8|17=>0|18=>5|19=>6|n=>n⟩
theorem Tryz.laysC174:Go.Proofs.LaysC.n174 Tryz.prog Tryz.laysC174_ren:={
 mixed:=by kernel_rfl
 f129:=Tryz.func218.trans (congrArg some (by kernel_rfl))
 f171:=Tryz.func79.trans (congrArg some (by kernel_rfl))
 f174:=Tryz.func191.trans (congrArg some (by kernel_rfl))
 f205:=Tryz.func336.trans (congrArg some (by kernel_rfl))
 f243:=Tryz.func125.trans (congrArg some (by kernel_rfl))
 f245:=Tryz.func258.trans (congrArg some (by kernel_rfl))
 f246:=Tryz.func126.trans (congrArg some (by kernel_rfl))
 f247:=Tryz.func264.trans (congrArg some (by kernel_rfl))
 f279:=Tryz.func303.trans (congrArg some (by kernel_rfl))
 f280:=Tryz.func304.trans (congrArg some (by kernel_rfl))
 f281:=Tryz.func305.trans (congrArg some (by kernel_rfl))
 f282:=Tryz.func306.trans (congrArg some (by kernel_rfl))
 f283:=Tryz.func167.trans (congrArg some (by kernel_rfl))
 f284:=Tryz.func168.trans (congrArg some (by kernel_rfl))
 f285:=Tryz.func169.trans (congrArg some (by kernel_rfl))
 f286:=Tryz.func170.trans (congrArg some (by kernel_rfl))
 f287:=Tryz.func313.trans (congrArg some (by kernel_rfl))
 f316:=Tryz.func335.trans (congrArg some (by kernel_rfl))
 f317:=Tryz.func217.trans (congrArg some (by kernel_rfl))
 f318:=Tryz.func219.trans (congrArg some (by kernel_rfl))
 f319:=Tryz.func220.trans (congrArg some (by kernel_rfl))
 f320:=Tryz.func221.trans (congrArg some (by kernel_rfl))
 f321:=Tryz.func339.trans (congrArg some (by kernel_rfl))
 f322:=Tryz.func340.trans (congrArg some (by kernel_rfl))
 f337:=Tryz.func280.trans (congrArg some (by kernel_rfl))
 f338:=Tryz.func281.trans (congrArg some (by kernel_rfl))
 t0:=Tryz.underlying0
 a0:=Tryz.isAgg0
 z0:=Tryz.sizeOf0
 v0:=Tryz.zeroValue0
 t2:=Tryz.underlying2
 a2:=Tryz.isAgg2
 z2:=Tryz.sizeOf2
 v2:=Tryz.zeroValue2
 t3:=Tryz.underlying3
 a3:=Tryz.isAgg3
 z3:=Tryz.sizeOf3
 v3:=Tryz.zeroValue3
 t4:=Tryz.underlying4
 a4:=Tryz.isAgg4
 z4:=Tryz.sizeOf4
 v4:=Tryz.zeroValue4
 t5:=Tryz.underlying5
 a5:=Tryz.isAgg5
 z5:=Tryz.sizeOf5
 v5:=Tryz.zeroValue5
 t9:=Tryz.underlying9
 a9:=Tryz.isAgg9
 z9:=Tryz.sizeOf9
 v9:=Tryz.zeroValue9
 t20:=Tryz.underlying20
 a20:=Tryz.isAgg20
 z20:=Tryz.sizeOf20
 v20:=Tryz.zeroValue20
 t21:=Tryz.underlying21
 a21:=Tryz.isAgg21
 z21:=Tryz.sizeOf21
 v21:=Tryz.zeroValue21
 t37:=Tryz.underlying78
 a37:=Tryz.isAgg78
 z37:=Tryz.sizeOf78
 v37:=Tryz.zeroValue78
 t46:=Tryz.underlying262
 a46:=Tryz.isAgg262
 z46:=Tryz.sizeOf262
 v46:=Tryz.zeroValue262
 t51:=Tryz.underlying259
 a51:=Tryz.isAgg259
 z51:=Tryz.sizeOf259
 v51:=Tryz.zeroValue259
 t53:=Tryz.underlying144
 a53:=Tryz.isAgg144
 z53:=Tryz.sizeOf144
 v53:=Tryz.zeroValue144
 t75:=Tryz.underlying209
 a75:=Tryz.isAgg209
 z75:=Tryz.sizeOf209
 v75:=Tryz.zeroValue209
 t85:=Tryz.underlying230
 a85:=Tryz.isAgg230
 z85:=Tryz.sizeOf230
 v85:=Tryz.zeroValue230
 t127:=Tryz.underlying264
 a127:=Tryz.isAgg264
 z127:=Tryz.sizeOf264
 v127:=Tryz.zeroValue264
 t143:=Tryz.underlying382
 a143:=Tryz.isAgg382
 z143:=Tryz.sizeOf382
 v143:=Tryz.zeroValue382
 t145:=Tryz.underlying384
 a145:=Tryz.isAgg384
 z145:=Tryz.sizeOf384
 v145:=Tryz.zeroValue384
 t167:=Tryz.underlying337
 a167:=Tryz.isAgg337
 z167:=Tryz.sizeOf337
 v167:=Tryz.zeroValue337
 t168:=Tryz.underlying338
 a168:=Tryz.isAgg338
 z168:=Tryz.sizeOf338
 v168:=Tryz.zeroValue338
 t171:=Tryz.underlying199
 a171:=Tryz.isAgg199
 z171:=Tryz.sizeOf199
 v171:=Tryz.zeroValue199
 t173:=Tryz.underlying202
 a173:=Tryz.isAgg202
 z173:=Tryz.sizeOf202
 v173:=Tryz.zeroValue202
 t175:=Tryz.underlying342
 a175:=Tryz.isAgg342
 z175:=Tryz.sizeOf342
 v175:=Tryz.zeroValue342
 t210:=Tryz.underlying369
 a210:=Tryz.isAgg369
 z210:=Tryz.sizeOf369
 v210:=Tryz.zeroValue369
 t212:=Tryz.underlying258
 a212:=Tryz.isAgg258
 z212:=Tryz.sizeOf258
 v212:=Tryz.zeroValue258
 t213:=Tryz.underlying260
 a213:=Tryz.isAgg260
 z213:=Tryz.sizeOf260
 t232:=Tryz.underlying356
 a232:=Tryz.isAgg356
 z232:=Tryz.sizeOf356
 v232:=Tryz.zeroValue356
 t233:=Tryz.underlying357
 a233:=Tryz.isAgg357
 z233:=Tryz.sizeOf357
 v233:=Tryz.zeroValue357
 g15:=by kernel_rfl
 g16:=by kernel_rfl
 g17:=by kernel_rfl
 g18:=by kernel_rfl
 g19:=by kernel_rfl
 t80:=Tryz.underlying75
 a80:=Tryz.isAgg75
 z80:=Tryz.sizeOf75
 v80:=Tryz.zeroValue75
 i0:=by kernel_rfl
 i2:=by kernel_rfl
 i3:=by kernel_rfl
 i4:=by kernel_rfl
 i5:=by kernel_rfl
 i9:=by kernel_rfl
 i20:=by kernel_rfl
 i21:=by kernel_rfl
 i37:=by kernel_rfl
 i46:=by kernel_rfl
 i51:=by kernel_rfl
 i53:=by kernel_rfl
 i75:=by kernel_rfl
 i80:=by kernel_rfl
 i85:=by kernel_rfl
 i127:=by kernel_rfl
 i143:=by kernel_rfl
 i145:=by kernel_rfl
 i167:=by kernel_rfl
 i168:=by kernel_rfl
 i171:=by kernel_rfl
 i173:=by kernel_rfl
 i175:=by kernel_rfl
 i210:=by kernel_rfl
 i212:=by kernel_rfl
 i232:=by kernel_rfl
 i233:=by kernel_rfl
 m15:=by kernel_rfl
 m16:=by kernel_rfl
 m17:=by kernel_rfl
 m18:=by kernel_rfl
 m19:=by kernel_rfl
 c0:=by kernel_rfl
 c2:=by kernel_rfl
 c3:=by kernel_rfl
 c4:=by kernel_rfl
 c5:=by kernel_rfl
 c9:=by kernel_rfl
 c20:=by kernel_rfl
 c21:=by kernel_rfl
 c37:=by kernel_rfl
 c46:=by kernel_rfl
 c51:=by kernel_rfl
 c53:=by kernel_rfl
 c75:=by kernel_rfl
 c80:=by kernel_rfl
 c85:=by kernel_rfl
 c127:=by kernel_rfl
 c143:=by kernel_rfl
 c145:=by kernel_rfl
 c167:=by kernel_rfl
 c168:=by kernel_rfl
 c171:=by kernel_rfl
 c173:=by kernel_rfl
 c175:=by kernel_rfl
 c210:=by kernel_rfl
 c212:=by kernel_rfl
 c213:=by kernel_rfl
 c232:=by kernel_rfl
 c233:=by kernel_rfl}
open Go.RowKit in
theorem Tryz.strconv_ParseInt_10_at64_ok (s:ByteArray) (hmax:s.size≤9223372036854775806) (v:Int) (h:Lib.parseIntB 64 s.data.toList=.ok v) (w:World):
 Calls Tryz.prog 191 #[.string s,.int .i64 10,.int .i64 64] w fun e w'=>e=.returned (.tuple #[.int .i64 v,.nilIface])∧(w'=w∨∃t,w'=Lib.bytesWorld w 5 t):=Any.strconv_ParseInt_10_at64_ok Tryz.laysC174 s hmax v h w
open Go.RowKit in
theorem Tryz.strconv_ParseInt_10_at64_syntax (s:ByteArray) (hlim:s.size≤281474976710656) (h:Lib.parseIntB 64 s.data.toList=Lib.NumEnd.syntax) (ev:Value) (w:World) (hv:w.cell? ⟨7,0,none⟩=some ev) (hev:ev=.nilIface∨∃te pe,ev=.iface te pe):
 Calls Tryz.prog 191 #[.string s,.int .i64 10,.int .i64 64] w fun e w'=>∃N,e=.returned (.tuple #[.int .i64 (0),.iface 338 (.pointer (some ⟨N,0,none⟩))])∧w.heap.size≤N∧w'.heap[N]?=some (.cells #[.string ⟨#[80,97,114,115,101,73,110,116]⟩,.string s,ev] 369 (0,0))∧Below w.heap.size w w':=Any.strconv_ParseInt_10_at64_syntax Tryz.laysC174 s hlim h ev w hv hev
open Go.RowKit in
theorem Tryz.strconv_ParseInt_10_at64_range (s:ByteArray) (hlim:s.size≤281474976710656) (h:Lib.parseIntB 64 s.data.toList=.range) (ev:Value) (w:World) (hv:w.cell? ⟨8,0,none⟩=some ev) (hev:ev=.nilIface∨∃te pe,ev=.iface te pe):
 Calls Tryz.prog 191 #[.string s,.int .i64 10,.int .i64 64] w fun e w'=>∃N,e=.returned (.tuple #[.int .i64 (Lib.intSat 64 s.data.toList),.iface 338 (.pointer (some ⟨N,0,none⟩))])∧w.heap.size≤N∧w'.heap[N]?=some (.cells #[.string ⟨#[80,97,114,115,101,73,110,116]⟩,.string s,ev] 369 (0,0))∧Below w.heap.size w w':=Any.strconv_ParseInt_10_at64_range Tryz.laysC174 s hlim h ev w hv hev
def Tryz.laysGw15_ren:Go.Shelf.Ren:=⟨fun|15=>189|20=>263|n=>n,fun|9=>9|23=>229|3=>3|4=>4|0=>0|21=>21|n=>n,fun|n=>n⟩
theorem Tryz.laysGw15:Go.Proofs.LaysGw.n15 Tryz.prog Tryz.laysGw15_ren:={
 mixed:=by kernel_rfl
 f15:=Tryz.func189.trans (congrArg some (by kernel_rfl))
 f20:=Tryz.func263.trans (congrArg some (by kernel_rfl))
 t0:=Tryz.underlying0
 a0:=Tryz.isAgg0
 z0:=Tryz.sizeOf0
 v0:=Tryz.zeroValue0
 i0:=by kernel_rfl
 t3:=Tryz.underlying3
 a3:=Tryz.isAgg3
 z3:=Tryz.sizeOf3
 v3:=Tryz.zeroValue3
 i3:=by kernel_rfl
 t4:=Tryz.underlying4
 a4:=Tryz.isAgg4
 z4:=Tryz.sizeOf4
 v4:=Tryz.zeroValue4
 i4:=by kernel_rfl
 t9:=Tryz.underlying9
 a9:=Tryz.isAgg9
 z9:=Tryz.sizeOf9
 v9:=Tryz.zeroValue9
 i9:=by kernel_rfl
 t21:=Tryz.underlying21
 a21:=Tryz.isAgg21
 z21:=Tryz.sizeOf21
 v21:=Tryz.zeroValue21
 i21:=by kernel_rfl
 t23:=Tryz.underlying229
 a23:=Tryz.isAgg229
 z23:=Tryz.sizeOf229
 v23:=Tryz.zeroValue229
 i23:=by kernel_rfl}
open Go.RowKit Go.Lib in
theorem Tryz.strings_IndexFunc (g:Nat) (lb:Array Value) (eg:∀args w,(callFunc g args).run Tryz.prog w=.ok (.enter g args) w) (p:Nat→Bool) (s:ByteArray) (w:World) (hp:PredAt Tryz.prog g lb encR p w):
 Calls Tryz.prog 189 #[.string s,.func (.func g) #[] lb] w fun e w'=>e=.returned (.int .i64 (Lib.idxFunc p true s))∧Below w.heap.size w w':=Any.strings_IndexFunc Tryz.laysGw15 g lb eg p s w hp
end Go.Proofs
namespace Go.Proofs.YtldllfocpadkeaaGreatDoor
open Go Go.Eng Nice
set_option maxRecDepth 1000000
abbrev shkeyCh:List (Nat×List (Nat×Sh)):=[]
noncomputable def okeyCh (x:DenL [.byte]):Option (DenL [.bool]):=fO Tryz.prog (envS []) (shOf shkeyCh) Tryz.f188 [.byte] [.bool] x
theorem ekeyCh_g (N:Nat) (x0:UInt8):fON Tryz.prog (envS []) (shOf shkeyCh) Tryz.f188 [.byte] [.bool] N (x0,())=
 (bif decide ((↑x0.toNat:Int)≥(97:Int)) then
  (bif decide ((↑x0.toNat:Int)≤(122:Int)) then
   (some (true,PUnit.unit))
  else
   (bif decide ((↑x0.toNat:Int)≥(48:Int)) then
    (bif decide ((↑x0.toNat:Int)≤(57:Int)) then
     (some (true,PUnit.unit))
    else
     (bif (↑x0.toNat:Int)==(46:Int) then
      (some (true,PUnit.unit))
     else
      (bif (↑x0.toNat:Int)==(45:Int) then
       (some (true,PUnit.unit))
      else
       (bif (↑x0.toNat:Int)==(95:Int) then
        (some (true,PUnit.unit))
       else
        (bif (↑x0.toNat:Int)==(47:Int) then
         (some (true,PUnit.unit))
        else
         (some (false,PUnit.unit)))))))
   else
    (bif (↑x0.toNat:Int)==(46:Int) then
     (some (true,PUnit.unit))
    else
     (bif (↑x0.toNat:Int)==(45:Int) then
      (some (true,PUnit.unit))
     else
      (bif (↑x0.toNat:Int)==(95:Int) then
       (some (true,PUnit.unit))
      else
       (bif (↑x0.toNat:Int)==(47:Int) then
        (some (true,PUnit.unit))
       else
        (some (false,PUnit.unit))))))))
 else
  (bif decide ((↑x0.toNat:Int)≥(48:Int)) then
   (bif decide ((↑x0.toNat:Int)≤(57:Int)) then
    (some (true,PUnit.unit))
   else
    (bif (↑x0.toNat:Int)==(46:Int) then
     (some (true,PUnit.unit))
    else
     (bif (↑x0.toNat:Int)==(45:Int) then
      (some (true,PUnit.unit))
     else
      (bif (↑x0.toNat:Int)==(95:Int) then
       (some (true,PUnit.unit))
      else
       (bif (↑x0.toNat:Int)==(47:Int) then
        (some (true,PUnit.unit))
       else
        (some (false,PUnit.unit)))))))
  else
   (bif (↑x0.toNat:Int)==(46:Int) then
    (some (true,PUnit.unit))
   else
    (bif (↑x0.toNat:Int)==(45:Int) then
     (some (true,PUnit.unit))
    else
     (bif (↑x0.toNat:Int)==(95:Int) then
      (some (true,PUnit.unit))
     else
      (bif (↑x0.toNat:Int)==(47:Int) then
       (some (true,PUnit.unit))
      else
       (some (false,PUnit.unit)))))))):=by kernel_rfl
theorem ekeyCh (x0:UInt8):okeyCh (x0,())=
 (bif decide ((↑x0.toNat:Int)≥(97:Int)) then
  (bif decide ((↑x0.toNat:Int)≤(122:Int)) then
   (some (true,PUnit.unit))
  else
   (bif decide ((↑x0.toNat:Int)≥(48:Int)) then
    (bif decide ((↑x0.toNat:Int)≤(57:Int)) then
     (some (true,PUnit.unit))
    else
     (bif (↑x0.toNat:Int)==(46:Int) then
      (some (true,PUnit.unit))
     else
      (bif (↑x0.toNat:Int)==(45:Int) then
       (some (true,PUnit.unit))
      else
       (bif (↑x0.toNat:Int)==(95:Int) then
        (some (true,PUnit.unit))
       else
        (bif (↑x0.toNat:Int)==(47:Int) then
         (some (true,PUnit.unit))
        else
         (some (false,PUnit.unit)))))))
   else
    (bif (↑x0.toNat:Int)==(46:Int) then
     (some (true,PUnit.unit))
    else
     (bif (↑x0.toNat:Int)==(45:Int) then
      (some (true,PUnit.unit))
     else
      (bif (↑x0.toNat:Int)==(95:Int) then
       (some (true,PUnit.unit))
      else
       (bif (↑x0.toNat:Int)==(47:Int) then
        (some (true,PUnit.unit))
       else
        (some (false,PUnit.unit))))))))
 else
  (bif decide ((↑x0.toNat:Int)≥(48:Int)) then
   (bif decide ((↑x0.toNat:Int)≤(57:Int)) then
    (some (true,PUnit.unit))
   else
    (bif (↑x0.toNat:Int)==(46:Int) then
     (some (true,PUnit.unit))
    else
     (bif (↑x0.toNat:Int)==(45:Int) then
      (some (true,PUnit.unit))
     else
      (bif (↑x0.toNat:Int)==(95:Int) then
       (some (true,PUnit.unit))
      else
       (bif (↑x0.toNat:Int)==(47:Int) then
        (some (true,PUnit.unit))
       else
        (some (false,PUnit.unit)))))))
  else
   (bif (↑x0.toNat:Int)==(46:Int) then
    (some (true,PUnit.unit))
   else
    (bif (↑x0.toNat:Int)==(45:Int) then
     (some (true,PUnit.unit))
    else
     (bif (↑x0.toNat:Int)==(95:Int) then
      (some (true,PUnit.unit))
     else
      (bif (↑x0.toNat:Int)==(47:Int) then
       (some (true,PUnit.unit))
      else
       (some (false,PUnit.unit)))))))):=ekeyCh_g heads0 x0
abbrev shdKey:List (Nat×List (Nat×Sh)):=[(2,[(0,(.one .sym)),(2,(.one .sym)),(5,(.one .sym)),(6,(.one .sym))])]
noncomputable def hdKey_0 (n:Nat) (t0:List UInt8) (t2:Bool) (t5:Int) (t6:Int):Option (DenL [.bool]):=rH Tryz.prog (envS [(188,keyChS)]) (shOf shdKey) Tryz.f135 [.bool] n 0 [(0,sy (.string (bs t0))),(2,.bool t2),(5,sy (.int .i64 t5)),(6,sy (.int .i64 t6))] []
noncomputable def odKey (x:DenL [.str]):Option (DenL [.bool]):=fO Tryz.prog (envS [(188,keyChS)]) (shOf shdKey) Tryz.f135 [.str] [.bool] x
theorem edKey_g (N:Nat) (x0:List UInt8):fON Tryz.prog (envS [(188,keyChS)]) (shOf shdKey) Tryz.f135 [.str] [.bool] N (x0,())=
 (hdKey_0 N (x0) (false) ((↑x0.length:Int)) ((0:Int))):=by kernel_rfl
theorem edKey (x0:List UInt8):odKey (x0,())=
 (hdKey_0 heads0 (x0) (false) ((↑x0.length:Int)) ((0:Int))):=edKey_g heads0 x0
theorem edKey_0 (n:Nat) (t0:List UInt8) (t2:Bool) (t5:Int) (t6:Int):hdKey_0 (n+1) t0 t2 t5 t6=
 (bif decide (t6<t5) then
  (bif keyCh (UInt8.ofNat (↑(t0.getD t6.toNat 0).toNat:Int).toNat) then
   (gd [decide (inK IntKind.i64 (t6+(1:Int))),decide (inK IntKind.u8 (↑(t0.getD t6.toNat 0).toNat:Int)),decide ((0:Int)≤t6),decide (t6<(↑t0.length:Int))] (hdKey_0 n (t0) (t2) (t5) (t6+(1:Int))))
  else
   (gd [decide (inK IntKind.u8 (↑(t0.getD t6.toNat 0).toNat:Int)),decide ((0:Int)≤t6),decide (t6<(↑t0.length:Int))] (some (false,PUnit.unit))))
 else
  (bif decide ((↑t0.length:Int)≥(1:Int)) then
   (bif decide ((↑t0.length:Int)≤(40:Int)) then
    (some (true,PUnit.unit))
   else
    (some (false,PUnit.unit)))
  else
   (some (false,PUnit.unit)))):=by kernel_rfl
abbrev shanum:List (Nat×List (Nat×Sh)):=[]
noncomputable def oanum (x:DenL [.str,.int .i64,.int .i64,.int .i64]):Option (DenL [.int .i64,.bool]):=fO Tryz.prog (envS [(189,idxFS 190),(191,parseS)]) (shOf shanum) Tryz.f136 [.str,.int .i64,.int .i64,.int .i64] [.int .i64,.bool] x
theorem eanum_g (N:Nat) (x0:List UInt8) (x1 x2 x3:Int):fON Tryz.prog (envS [(189,idxFS 190),(191,parseS)]) (shOf shanum) Tryz.f136 [.str,.int .i64,.int .i64,.int .i64] [.int .i64,.bool] N (x0,x1,x2,x3,())=
 (bif decide (idxF x0≥(0:Int)) then
  (gd [bndS x0&&(decide ((10:Int)=(10:Int))&&decide ((64:Int)=(64:Int)))] (some ((intN x0).fst,false,PUnit.unit)))
 else
  (gd [bndS x0&&(decide ((10:Int)=(10:Int))&&decide ((64:Int)=(64:Int)))] (bif (intN x0).snd then
   (bif decide ((↑x0.length:Int)≤x1) then
    (bif decide ((intN x0).fst≥x2) then
     (bif decide ((intN x0).fst≤x3) then
      (some ((intN x0).fst,true,PUnit.unit))
     else
      (some ((intN x0).fst,false,PUnit.unit)))
    else
     (some ((intN x0).fst,false,PUnit.unit)))
   else
    (some ((intN x0).fst,false,PUnit.unit)))
  else
   (some ((intN x0).fst,false,PUnit.unit))))):=by kernel_rfl
theorem eanum (x0:List UInt8) (x1 x2 x3:Int):oanum (x0,x1,x2,x3,())=
 (bif decide (idxF x0≥(0:Int)) then
  (gd [bndS x0&&(decide ((10:Int)=(10:Int))&&decide ((64:Int)=(64:Int)))] (some ((intN x0).fst,false,PUnit.unit)))
 else
  (gd [bndS x0&&(decide ((10:Int)=(10:Int))&&decide ((64:Int)=(64:Int)))] (bif (intN x0).snd then
   (bif decide ((↑x0.length:Int)≤x1) then
    (bif decide ((intN x0).fst≥x2) then
     (bif decide ((intN x0).fst≤x3) then
      (some ((intN x0).fst,true,PUnit.unit))
     else
      (some ((intN x0).fst,false,PUnit.unit)))
    else
     (some ((intN x0).fst,false,PUnit.unit)))
   else
    (some ((intN x0).fst,false,PUnit.unit)))
  else
   (some ((intN x0).fst,false,PUnit.unit))))):=eanum_g heads0 x0 x1 x2 x3
abbrev shhp:List (Nat×List (Nat×Sh)):=[]
noncomputable def ohp (x:DenL [.str,.str]):Option (DenL [.bool]):=fO Tryz.prog (envS []) (shOf shhp) Tryz.f131 [.str,.str] [.bool] x
theorem ehp_g (N:Nat) (x0 x1:List UInt8):fON Tryz.prog (envS []) (shOf shhp) Tryz.f131 [.str,.str] [.bool] N (x0,x1,())=
 (bif decide ((↑x0.length:Int)≥(↑x1.length:Int)) then
  (bif List.take (↑x1.length:Int).toNat x0==x1 then
   (gd [decide ((↑x1.length:Int)≤(↑x0.length:Int))] (some (true,PUnit.unit)))
  else
   (gd [decide ((↑x1.length:Int)≤(↑x0.length:Int))] (some (false,PUnit.unit))))
 else
  (some (false,PUnit.unit))):=by kernel_rfl
theorem ehp (x0 x1:List UInt8):ohp (x0,x1,())=
 (bif decide ((↑x0.length:Int)≥(↑x1.length:Int)) then
  (bif List.take (↑x1.length:Int).toNat x0==x1 then
   (gd [decide ((↑x1.length:Int)≤(↑x0.length:Int))] (some (true,PUnit.unit)))
  else
   (gd [decide ((↑x1.length:Int)≤(↑x0.length:Int))] (some (false,PUnit.unit))))
 else
  (some (false,PUnit.unit))):=ehp_g heads0 x0 x1
abbrev shcp:List (Nat×List (Nat×Sh)):=[]
noncomputable def ocp (x:DenL [.str,.str]):Option (DenL [.str,.bool]):=fO Tryz.prog (envS [(131,hasPreS)]) (shOf shcp) Tryz.f194 [.str,.str] [.str,.bool] x
theorem ecp_g (N:Nat) (x0 x1:List UInt8):fON Tryz.prog (envS [(131,hasPreS)]) (shOf shcp) Tryz.f194 [.str,.str] [.str,.bool] N (x0,x1,())=
 (bif hasPre x0 x1 then
  (gd [decide ((↑x1.length:Int)≤(↑x0.length:Int))] (some (List.drop (↑x1.length:Int).toNat x0,true,PUnit.unit)))
 else
  (some (x0,false,PUnit.unit))):=by kernel_rfl
theorem ecp (x0 x1:List UInt8):ocp (x0,x1,())=
 (bif hasPre x0 x1 then
  (gd [decide ((↑x1.length:Int)≤(↑x0.length:Int))] (some (List.drop (↑x1.length:Int).toNat x0,true,PUnit.unit)))
 else
  (some (x0,false,PUnit.unit))):=ecp_g heads0 x0 x1
abbrev shrdigits:List (Nat×List (Nat×Sh)):=[(2,[(0,(.one .sym)),(2,(.one .sym)),(3,(.one .sym))])]
noncomputable def hrdigits_0 (n:Nat) (t0:Int) (t2:List UInt8) (t3:List UInt8):Option (DenL [.str]):=rH Tryz.prog (envS []) (shOf shrdigits) Tryz.f105 [.str] n 0 [(0,sy (.int .u64 t0)),(2,sy (.string (bs t2))),(3,sy (.string (bs t3)))] []
noncomputable def ordigits (x:DenL [.int .u64]):Option (DenL [.str]):=fO Tryz.prog (envS []) (shOf shrdigits) Tryz.f105 [.int .u64] [.str] x
theorem erdigits_g (N:Nat) (x0:Int):fON Tryz.prog (envS []) (shOf shrdigits) Tryz.f105 [.int .u64] [.str] N (x0,())=
 (hrdigits_0 N (x0) ([]) ([])):=by kernel_rfl
theorem erdigits (x0:Int):ordigits (x0,())=
 (hrdigits_0 heads0 (x0) ([]) ([])):=erdigits_g heads0 x0
theorem erdigits_0 (n:Nat) (t0:Int) (t2:List UInt8) (t3:List UInt8):hrdigits_0 (n+1) t0 t2 t3=
 (gd [decide ([UInt8.ofNat (IntKind.u8.wrap (IntKind.u64.wrap ((48:Int)+t0.tmod ((10:Int))))).toNat].length+t3.length≤1099511627776)] (bif IntKind.u64.wrap (t0.tdiv ((10:Int)))==(0:Int) then
  (some ([UInt8.ofNat (IntKind.u8.wrap (IntKind.u64.wrap ((48:Int)+t0.tmod ((10:Int))))).toNat]++t3,PUnit.unit))
 else
  (hrdigits_0 n (IntKind.u64.wrap (t0.tdiv ((10:Int)))) (t2) ([UInt8.ofNat (IntKind.u8.wrap (IntKind.u64.wrap ((48:Int)+t0.tmod ((10:Int))))).toNat]++t3)))):=by kernel_rfl
abbrev shrDigits:List (Nat×List (Nat×Sh)):=[]
noncomputable def orDigits (x:DenL [.int .i64]):Option (DenL [.str]):=fO Tryz.prog (envS [(105,digsS)]) (shOf shrDigits) Tryz.f61 [.int .i64] [.str] x
theorem erDigits_g (N:Nat) (x0:Int):fON Tryz.prog (envS [(105,digsS)]) (shOf shrDigits) Tryz.f61 [.int .i64] [.str] N (x0,())=
 (bif decide (x0<(0:Int)) then
  (gd [decide (1+(digs (IntKind.u64.wrap (IntKind.u64.wrap ((0:Int)-(x0+(1:Int)))+(1:Int)))).length≤1099511627776),decide ((0:Int)≤IntKind.u64.wrap (IntKind.u64.wrap ((0:Int)-(x0+(1:Int)))+(1:Int)))&&decide (IntKind.u64.wrap (IntKind.u64.wrap ((0:Int)-(x0+(1:Int)))+(1:Int))<(18446744073709551616:Int)),decide (inK IntKind.i64 ((0:Int)-(x0+(1:Int)))),decide (inK IntKind.i64 (x0+(1:Int)))] (some ([45]++digs (IntKind.u64.wrap (IntKind.u64.wrap ((0:Int)-(x0+(1:Int)))+(1:Int))),PUnit.unit)))
 else
  (gd [decide ((0:Int)≤IntKind.u64.wrap x0)&&decide (IntKind.u64.wrap x0<(18446744073709551616:Int))] (some (digs (IntKind.u64.wrap x0),PUnit.unit)))):=by kernel_rfl
theorem erDigits (x0:Int):orDigits (x0,())=
 (bif decide (x0<(0:Int)) then
  (gd [decide (1+(digs (IntKind.u64.wrap (IntKind.u64.wrap ((0:Int)-(x0+(1:Int)))+(1:Int)))).length≤1099511627776),decide ((0:Int)≤IntKind.u64.wrap (IntKind.u64.wrap ((0:Int)-(x0+(1:Int)))+(1:Int)))&&decide (IntKind.u64.wrap (IntKind.u64.wrap ((0:Int)-(x0+(1:Int)))+(1:Int))<(18446744073709551616:Int)),decide (inK IntKind.i64 ((0:Int)-(x0+(1:Int)))),decide (inK IntKind.i64 (x0+(1:Int)))] (some ([45]++digs (IntKind.u64.wrap (IntKind.u64.wrap ((0:Int)-(x0+(1:Int)))+(1:Int))),PUnit.unit)))
 else
  (gd [decide ((0:Int)≤IntKind.u64.wrap x0)&&decide (IntKind.u64.wrap x0<(18446744073709551616:Int))] (some (digs (IntKind.u64.wrap x0),PUnit.unit)))):=erDigits_g heads0 x0
end Go.Proofs.YtldllfocpadkeaaGreatDoor
namespace Go.Proofs.YtldllfocpadkeaaGreatDoor
open Go Go.Eng Nice
set_option maxRecDepth 100000
theorem keyCh_iff {c:UInt8}:keyCh c=true↔(97≤c.toNat∧c.toNat≤122∨48≤c.toNat∧c.toNat≤57∨c.toNat=46∨c.toNat=45∨c.toNat=95∨c.toNat=47):=by
 unfold keyCh;rw[decide_eq_true_iff]
theorem keyCh_not {c:UInt8}:keyCh c=false↔¬(97≤c.toNat∧c.toNat≤122∨48≤c.toNat∧c.toNat≤57∨c.toNat=46∨c.toNat=45∨c.toNat=95∨c.toNat=47):=by
 unfold keyCh;rw[decide_eq_false_iff_not]
theorem beT {α:Type} {n m:Int} {a b:α} (h:n=m):(bif n==m then a else b)=a:=by subst h;rw[show(n==n)=true from beq_self_eq_true n];rfl
theorem beF {α:Type} {n m:Int} {a b:α} (h:n≠m):(bif n==m then a else b)=b:=by rw[show(n==m)=false from beq_eq_false_iff_ne.2 h];rfl
theorem bnT {α:Type} {n m:Int} {a b:α} (h:n≠m):(bif n !=m then a else b)=a:=by rw[show(n !=m)=true from bne_iff_ne.2 h];rfl
theorem key_cases (c:UInt8):(c.toNat=45∧keyCh c=true)∨(c.toNat=46∧keyCh c=true)∨(c.toNat=47∧keyCh c=true)∨((48≤c.toNat∧c.toNat≤57)∧keyCh c=true)∨(c.toNat=95∧keyCh c=true)∨((97≤c.toNat∧c.toNat≤122)∧keyCh c=true)∨
  (c.toNat<45∧keyCh c=false)∨((57<c.toNat∧c.toNat<97∧c.toNat≠95)∧keyCh c=false)∨(122<c.toNat∧keyCh c=false):=by
 by_cases h:keyCh c=true
 ·have:=keyCh_iff.1 h;rw[h];simp only[and_true,reduceCtorEq,and_false,or_false];omega
 ·have h:keyCh c=false:=by simpa using h
  have:=keyCh_not.1 h;rw[h];simp only[and_true,reduceCtorEq,and_false,false_or];omega
theorem keyCh_n (c:UInt8):okeyCh (c,())=some (keyCh c,()):=by
 rw[ekeyCh];rcases key_cases c with⟨h,e⟩|⟨h,e⟩|⟨h,e⟩|⟨h,e⟩|⟨h,e⟩|⟨h,e⟩|⟨h,e⟩|⟨h,e⟩|⟨h,e⟩<;>rw[e]<;>simp(disch:=omega) only[cdT,cdF,beT,beF]
theorem dKey_l (t2:Bool) (s:List UInt8) (hl:s.length≤140737488355328):∀(rest done:List UInt8) (n:Nat),s=done++rest→rest.length<n→hdKey_0 n s t2 (s.length:Int) (done.length:Int)=some (rest.all keyCh&&(decide (1≤s.length)&&decide (s.length≤40)),())
 |[],done,n,hs,hn=>by
  obtain⟨m,rfl⟩:∃m,n=m+1:=⟨n-1,by omega⟩
  have:s.length=done.length:=by rw[hs];simp
  rw[edKey_0,cdF (by omega)];simp only[List.all_nil,Bool.true_and];by_cases h1:1≤s.length
  ·rw[cdT (by omega)];by_cases h2:s.length≤40
   ·rw[cdT (by omega)];simp[h1,h2]
   ·rw[cdF (by omega)];simp[h1,h2]
  ·rw[cdF (by omega)];simp[h1]
 |c::rest,done,n,hs,hn=>by
  obtain⟨m,rfl⟩:∃m,n=m+1:=⟨n-1,by omega⟩
  have hsl:s.length=done.length+(rest.length+1):=by rw[hs];simp
  simp only[List.length_cons] at hn;have ih:=dKey_l t2 s hl rest (done++[c]) m (by simp[hs]) (by omega);simp only[List.length_append,List.length_singleton,Int.natCast_add] at ih;have hg:s.getD done.length 0=c:=by rw[hs,getD_mid]
  have hc:=c.toNat_lt;rw[edKey_0];simp only[Int.toNat_natCast,hg,UInt8.ofNat_toNat];rw[cdT (by omega)];cases hb:keyCh c
  ·rw[cond_false];simp(disch:=omega) only[gdT,gd_nil,inK_u8];simp[hb]
  ·rw[cond_true];simp(disch:=omega) only[gdT,gd_nil,inK_u8,inK_i64];simp only[List.all_cons,hb,Bool.true_and];exact ih
theorem dKey_n (s:List UInt8) (h:bndS s=true):odKey (s,())=some (isKey s,()):=by
 have h:s.length≤140737488355328:=of_decide_eq_true h;rw[edKey];exact dKey_l false s h s [] heads0 rfl (by unfold heads0;omega)
theorem anum_n (s:List UInt8) (most lo hi:Int) (h:bndS s=true):oanum (s,most,lo,hi,())=some ((numN s most lo hi).1,(numN s most lo hi).2,()):=by
 rw[eanum];have hp:(bndS s&&(decide True&&decide True))=true:=by rw[h];rfl
 simp only[gdB hp,gd_nil,idxF_ge,numN];cases allDig s
 ·simp only[Bool.not_false,cond_true,Bool.false_and]
 ·simp only[Bool.not_true,cond_false,Bool.true_and];cases(intN s).2
  ·simp only[cond_false,Bool.false_and]
  ·simp only[cond_true,Bool.true_and];by_cases h1:(s.length:Int)≤most
   ·rw[cdT h1,decide_eq_true h1,Bool.true_and];by_cases h2:(intN s).1≥lo
    ·rw[cdT h2,decide_eq_true h2,Bool.true_and];by_cases h3:(intN s).1≤hi
     ·rw[cdT h3,decide_eq_true h3]
     ·rw[cdF h3,decide_eq_false h3]
    ·rw[cdF h2,decide_eq_false h2,Bool.false_and]
   ·rw[cdF h1,decide_eq_false h1,Bool.false_and]
theorem hp_n (s p:List UInt8):ohp (s,p,())=some (hasPre s p,()):=by
 rw[ehp];unfold hasPre;by_cases h:p.length≤s.length
 ·rw[cdT (by omega),decide_eq_true h,Bool.true_and,gdT (by omega),gdT (by omega),gd_nil,gd_nil,Int.toNat_natCast];cases(s.take p.length==p)<;>rfl
 ·rw[cdF (by omega),decide_eq_false h,Bool.false_and]
theorem hasPre_len {s p:List UInt8} (h:hasPre s p=true):p.length≤s.length:=by
 unfold hasPre at h;rw[Bool.and_eq_true,decide_eq_true_eq] at h;exact h.1
theorem cp_n (s p:List UInt8):ocp (s,p,())=some ((cutPre s p).1,(cutPre s p).2,()):=by
 rw[ecp];unfold cutPre;cases hb:hasPre s p
 ·rfl
 ·have:=hasPre_len hb;rw[cond_true,cond_true,gdT (by omega),gd_nil,Int.toNat_natCast]
end Go.Proofs.YtldllfocpadkeaaGreatDoor
namespace Go.Proofs.YtldllfocpadkeaaGreatDoor
open Go Go.Eng Nice
set_option maxRecDepth 100000
theorem numN_pos {s:List UInt8} {most lo hi:Int} (h:(numN s most lo hi).2=true):0<s.length:=by
 cases s with
 |nil=>simp[numN,intN,Lib.parseIntB] at h
 |cons c r=>simp
theorem cutPre_bnd {q p:List UInt8} (h:bndS q=true):bndS (cutPre q p).1=true:=by
 have h:q.length≤140737488355328:=of_decide_eq_true h;refine decide_eq_true ?_;unfold cutPre;cases hasPre q p
 ·exact h
 ·simp only[cond_true,List.length_drop];omega
theorem digsF_len:∀(f n:Nat) (acc:List UInt8),(digsF f n acc).length≤f+acc.length
 |0,n,acc=>by simp[digsF]
 |f+1,n,acc=>by
  simp only[digsF]
  split
  ·simp;omega
  ·have:=digsF_len f (n/10) (UInt8.ofNat (48+n%10)::acc);simp only[List.length_cons] at this;omega
theorem u64w {n:Int} (h0:0≤n) (h1:n<18446744073709551616):IntKind.u64.wrap n=n:=by
 show n%18446744073709551616=n;exact Int.emod_eq_of_lt h0 h1
theorem rdigits_l (t2:List UInt8):∀(f n:Nat) (u:Nat) (acc:List UInt8),u<18446744073709551616→u<10^f→acc.length≤100-f→f≤20→0<f→f<n→hrdigits_0 n (u:Int) t2 acc=some (digsF f u acc,())
 |0,n,u,acc,_,_,_,_,h0,_=>absurd h0 (Nat.lt_irrefl 0)
 |f+1,n,u,acc,hu,h10,hl,hf,_,hn=>by
  obtain⟨m,rfl⟩:∃m,n=m+1:=⟨n-1,by omega⟩
  have e1:(u:Int).tmod 10=((u%10:Nat):Int):=rfl;have e2:(u:Int).tdiv 10=((u/10:Nat):Int):=rfl;have e3:UInt8.ofNat (IntKind.u8.wrap (IntKind.u64.wrap ((48:Int)+((u%10:Nat):Int)))).toNat=UInt8.ofNat (48+u%10):=by
   rw[u64w (by omega) (by omega),wrap_u8];congr 1;omega
  rw[erdigits_0];simp only[e1,e2,e3,List.length_singleton];rw[gdT (by omega),gd_nil,u64w (by omega) (by omega)];simp only[digsF];by_cases h:u/10=0
  ·rw[if_pos h,beT (by omega)];rfl
  ·rw[if_neg h,beF (by omega)];have hf0:0<f:=by
    rcases Nat.eq_zero_or_pos f with h'|h'
    ·subst h';simp at h10;omega
    ·exact h'
   exact rdigits_l t2 f m (u/10) (UInt8.ofNat (48+u%10)::acc) (by omega) (by rw[Nat.pow_succ] at h10;omega) (by simp;omega) (by omega) hf0 (by omega)
theorem rdigits_n (u:Int) (h:(decide (0≤u)&&decide (u<18446744073709551616))=true):ordigits (u,())=some (digs u,()):=by
 rw[Bool.and_eq_true,decide_eq_true_eq,decide_eq_true_eq] at h;obtain⟨n,rfl⟩:∃n:Nat,u=(n:Int):=⟨u.toNat,by omega⟩
 rw[erdigits];have:=rdigits_l [] 20 heads0 n [] (by omega) (by omega) (by simp) (by omega) (by omega) (by unfold heads0;omega);simpa[digs] using this
theorem digs_len (u:Int):(digs u).length≤20:=by
 have:=digsF_len 20 u.toNat [];simpa[digs] using this
theorem rDigits_n (n:Int) (h:(decide (-9223372036854775808≤n)&&decide (n≤9223372036854775807))=true):orDigits (n,())=some (digits n,()):=by
 rw[Bool.and_eq_true,decide_eq_true_eq,decide_eq_true_eq] at h;rw[erDigits];unfold digits;by_cases h0:n<0
 ·rw[cdT h0,if_pos h0];have i1:IntKind.u64.wrap ((0:Int)-(n+1))=0-(n+1):=u64w (by omega) (by omega);have e:IntKind.u64.wrap (IntKind.u64.wrap ((0:Int)-(n+1))+1)= -n:=by
   rw[i1,u64w (by omega) (by omega)];omega
  rw[e];have hl:=digs_len (-n);rw[gdT (by omega),gdB (by rw[decide_eq_true (by omega),decide_eq_true (by omega)];rfl),gdT (by rw[inK_i64];omega),gdT (by rw[inK_i64];omega),gd_nil];rfl
 ·rw[cdF h0,if_neg h0,u64w (by omega) (by omega),gdB (by rw[decide_eq_true (by omega),decide_eq_true (by omega)];rfl),gd_nil]
end Go.Proofs.YtldllfocpadkeaaGreatDoor
namespace Go.Proofs.YtldllfocpadkeaaGreatDoor
open Go Go.Eng Nice
set_option maxRecDepth 100000
theorem kT {α:Type} (a b:α):(bif true then a else b)=a:=Eq.trans (cond_true a b) rfl
theorem kF {α:Type} (a b:α):(bif false then a else b)=b:=Eq.trans (cond_false a b) rfl
theorem kG {α:Type} (r:Option α):gd [] r=r:=Eq.trans gd_nil rfl
theorem i20:((2:Int)==0)=false:=by decide
theorem i21:((2:Int)==1)=false:=by decide
theorem i32:((3:Int)==2)=false:=by decide
end Go.Proofs.YtldllfocpadkeaaGreatDoor
namespace Go.Proofs.YtldllfocpadkeaaGreatDoor
open Go Go.Eng Nice
set_option maxRecDepth 100000
theorem hsuf_n (s p:List UInt8) (h:bndS s=true):ohsuf (s,p,())=some (hasSuf s p,()):=by
 have h:s.length≤140737488355328:=of_decide_eq_true h;rw[ohsuf_g,ehsuf_g];unfold hasSuf;by_cases hl:p.length≤s.length
 ·have e:((s.length:Int)-(p.length:Int)).toNat=s.length-p.length:=by omega
  rw[cdT (by omega),decide_eq_true hl,Bool.true_and,e];cases s.drop (s.length-p.length)==p
  ·rw[kF];simp(disch:=omega) only[gdT,kG,inK_i64]
  ·rw[kT];simp(disch:=omega) only[gdT,kG,inK_i64]
 ·rw[cdF (by omega),decide_eq_false hl,Bool.false_and]
theorem csuf_n (s p:List UInt8) (h:bndS s=true):ocsuf (s,p,())=some ((cutSuf s p).1,(cutSuf s p).2,()):=by
 have hb:s.length≤140737488355328:=of_decide_eq_true h;rw[ocsuf_g,ecsuf_g];unfold cutSuf;cases hs:hasSuf s p
 ·simp only[kF]
  try rw[gdB h,kG]
 ·have hl:p.length≤s.length:=by
   unfold hasSuf at hs;rw[Bool.and_eq_true,decide_eq_true_eq] at hs;exact hs.1
  have e:((s.length:Int)-(p.length:Int)).toNat=s.length-p.length:=by omega
  simp only[kT,e];simp(disch:=first|omega|exact h) only[gdT,gdB,kG,inK_i64]
theorem sidx_l (x:List UInt8) (t4:Int) (len:Nat):∀(rest done:List (List UInt8)) (n:Nat),len=done.length+rest.length→len≤1000→rest.length<n→
  hsidx_0 n (done++rest) x t4 (len:Int) (done.length:Int)=some (idxG x rest (done.length:Int),())
 |[],done,n,he,hl,hn=>by
  obtain⟨m,rfl⟩:∃m,n=m+1:=⟨n-1,by omega⟩
  simp only[List.length_nil] at he;rw[esidx_0,cdF (by omega)];rfl
 |c::rest,done,n,he,hl,hn=>by
  obtain⟨m,rfl⟩:∃m,n=m+1:=⟨n-1,by omega⟩
  simp only[List.length_cons] at he hn;have ih:=sidx_l x t4 len rest (done++[c]) m (by simp;omega) hl (by omega);simp only[List.append_assoc,List.singleton_append,List.length_append,List.length_singleton,Int.natCast_add] at ih;rw[esidx_0,cdT (by omega)];simp only[Int.toNat_natCast,getD_mid,List.length_append,List.length_cons,idxG]
  cases x==c
  ·simp only[kF];simp(disch:=omega) only[gdT,kG,inK_i64];exact ih
  ·simp only[kT];simp(disch:=omega) only[gdT,kG,inK_i64]
theorem sidx_n (l:List (List UInt8)) (x:List UInt8) (h:decide (l.length≤1000)=true):osidx (l,x,())=some (idxS l x,()):=by
 have h:=of_decide_eq_true h;rw[osidx_g,esidx_g];exact sidx_l x 0 l.length l [] heads0 (by simp) h (by unfold heads0;omega)
theorem idxG_ge (x:List UInt8):∀(l:List (List UInt8)) (k:Int),0≤k→decide (idxG x l k≥0)=hasS l x
 |[],k,h=>by rfl
 |c::r,k,h=>by
  have ih:=idxG_ge x r (k+1) (by omega);unfold idxG hasS;simp only[List.any_cons];cases x==c
  ·simp only[kF,Bool.false_or];exact ih
  ·simp only[kT,Bool.true_or];exact decide_eq_true h
theorem shas_n (l:List (List UInt8)) (x:List UInt8) (h:decide (l.length≤1000)=true):oshas (l,x,())=some (hasS l x,()):=by
 rw[oshas_g,eshas_g];have e:decide (idxS l x≥0)=hasS l x:=idxG_ge x l 0 (Int.le_refl 0);rw[e];cases hasS l x<;>simp only[kT,kF]<;>rw[gdB h,kG]
theorem aconds_n (m p q:List UInt8) (hs:HeadL) (b:List UInt8) (h:condsP hs=true):oaconds ((m,p,q,hs,b,()),())=some ((condsN hs).1,(condsN hs).2.1,(condsN hs).2.2,()):=by
 unfold condsP at h;rw[Bool.and_eq_true,Bool.and_eq_true] at h;obtain⟨⟨h1,h2⟩,h3⟩:=h;rw[oaconds_g,eaconds_g];unfold condsN;cases(valueN hs inmW).2
 ·simp only[kF];rw[gdB h1,kG];cases(valueN hs imW).2
  ·simp only[kF];rw[gdB h2,kG]
  ·simp only[kT];have hb:bndS (cutPre (valueN hs imW).1 [34]).1=true:=by
    have h3:(valueN hs imW).1.length≤140737488355328:=of_decide_eq_true h3;unfold cutPre;cases hasPre (valueN hs imW).1 [34]
    ·exact decide_eq_true h3
    ·exact decide_eq_true (by show((valueN hs imW).1.drop _).length≤_;rw[List.length_drop];omega)
   rw[gdB hb,gdB h2,kG];unfold tagA;cases(gRead (cutSuf (cutPre (valueN hs imW).1 [34]).1 [34]).1).2<;>cases(cutPre (valueN hs imW).1 [34]).2<;>cases(cutSuf (cutPre (valueN hs imW).1 [34]).1 [34]).2<;>simp only[kT,kF,Bool.and_true,Bool.and_false,Bool.true_and,Bool.false_and]
 ·simp only[kT];rw[gdB h1,kG];cases(valueN hs imW).2
  ·simp only[kF];rw[gdB h2,kG];cases(valueN hs inmW).1==[42]<;>simp only[kT,kF]
  ·simp only[kT];rw[gdB h2,kG]
theorem akeyed_n (a:AskD) (m p q:List UInt8) (hs:HeadL) (b:List UInt8) (h:(condsP hs&&(bndS q&&bndS a.2.1))=true):
  oakeyed (a,(m,p,q,hs,b,()),())=some ((keyedG a m q hs b).1,(keyedG a m q hs b).2,()):=by
 rw[Bool.and_eq_true,Bool.and_eq_true] at h;obtain⟨hc,hq,hk⟩:=h;obtain⟨a0,k,a2,a3,a4,a5,a6,a7,a8,a9,⟨⟩⟩:=a;dsimp only at hk;rw[oakeyed_g,eakeyed_g];have hcb:=cutPre_bnd (p:=vPre) hq;unfold keyedG;dsimp only;rw[gdB hk,gdB hk,kG,kG];cases isKey k
 ·simp only[kF]
 ·simp only[kT];cases m==putW
  ·simp only[kF];simp only[gdB hcb,kG];unfold verN;generalize hn:numN (cutPre q vPre).fst ((cutPre q vPre).fst.length:Int) 1 1099511627776=nn;have hpos:nn.2=true→0<(cutPre q vPre).1.length:=fun h=>numN_pos (by rw[hn];exact h)
   generalize hcc:cutPre q vPre=c at *;have h48:∀{α:Type} (x y:α),(bif ((c.1.getD 0 0).toNat:Int) !=48 then x else y)=bif c.1.getD 0 0==48 then y else x:=by
    intro α x y;by_cases h:c.1.getD 0 0=48
    ·rw[h];rfl
    ·rw[bnT (by intro e;exact h (UInt8.toNat.inj (show _=(48:UInt8).toNat by have:(48:UInt8).toNat=48:=rfl;omega))),show(c.1.getD 0 0==48)=false from by simpa using h];rfl
   simp only[h48];cases hd:(m==delW)<;>cases hqq:(q==[])<;>simp only[kT,kF]<;>
   ·cases h1:nn.2<;>cases h2:c.2<;>try simp only[kT,kF,Bool.true_and,Bool.false_and]
    all_goals first
     |rfl
     |(have:=hpos h1
       cases h3:(c.1.getD 0 0==48)<;>simp(disch:=omega) only[kT,kF,gdT,kG,Bool.not_true,Bool.not_false]<;>rfl)
  ·simp only[kT];rw[gdB hc,gdB hc,kG,kG];cases(condsN hs).2.2<;>cases q==[]<;>simp only[kT,kF,Bool.true_and,Bool.false_and]<;>rfl
end Go.Proofs.YtldllfocpadkeaaGreatDoor
namespace Nice
open Go Go.Eng
def cntS (s:List (List UInt8)):Nat:=(hasS s wPre).toNat+((hasS s wAft).toNat+((hasS s wMax).toNat+(hasS s wVer).toNat))
theorem cntS_le (s:List (List UInt8)):cntS s≤4:=by
 unfold cntS;cases hasS s wPre<;>cases hasS s wAft<;>cases hasS s wMax<;>cases hasS s wVer<;>decide
theorem hasS_add (s:List (List UInt8)) (x y:List UInt8):hasS (s++[x]) y=(hasS s y||y==x):=by
 unfold hasS;simp
theorem cntS_add {s:List (List UInt8)} {x:List UInt8} (hx:x=wPre∨x=wAft∨x=wMax∨x=wVer) (h:hasS s x=false):cntS s+1≤cntS (s++[x]):=by
 have key:∀y,(hasS s y).toNat≤(hasS (s++[x]) y).toNat:=fun y=>by
  rw[hasS_add];cases hasS s y<;>cases y==x<;>decide
 have hn:(hasS (s++[x]) x).toNat=1:=by
  rw[hasS_add,beq_self_eq_true,Bool.or_true];rfl
 have h0:(hasS s x).toNat=0:=by rw[h];rfl
 have k1:=key wPre;have k2:=key wAft;have k3:=key wMax;have k4:=key wVer;unfold cntS;rcases hx with rfl|rfl|rfl|rfl<;>omega
theorem split_bnd (c:UInt8):∀(n:Nat) (s:List UInt8),s.length≤n→(Lib.split s [c]).length≤s.length+1∧∀p,p∈Lib.split s [c]→p.length≤s.length
 |n,s,h=>by
  cases hb:hasB c s
  ·rw[split1_no c s hb];refine⟨by simp,fun p hp=> ?_⟩;rw[List.mem_singleton] at hp;subst hp;exact Nat.le_refl _
  ·have hl:=upTo_lt c s hb;rw[split1_yes c s hb];cases n with
   |zero=>omega
   |succ n=>
    obtain⟨i1,i2⟩:=split_bnd c n (s.drop ((upTo c s).length+1)) (by rw[List.length_drop];omega);rw[List.length_drop] at i1 i2;refine⟨by simp only[List.length_cons];omega,fun p hp=> ?_⟩;rcases List.mem_cons.1 hp with rfl|hp
    ·omega
    ·have:=i2 p hp;omega
theorem cut_bnd (c:UInt8) (s:List UInt8):(Lib.cut s [c]).1.length≤s.length∧(Lib.cut s [c]).2.1.length≤s.length:=by
 have:=upTo_len c s;rw[cut1];cases hasB c s
 ·exact⟨Nat.le_refl _,Nat.zero_le _⟩
 ·exact⟨this,by show(s.drop _).length≤_;rw[List.length_drop];omega⟩
end Nice
namespace Go.Proofs.YtldllfocpadkeaaGreatDoor
open Go Go.Eng Nice
set_option maxRecDepth 100000
noncomputable def L0 (n:Nat) (a z:AskD) (t5:Bool) (seen parts:List (List UInt8)) (len k:Int):Option (DenL [AskT,.bool]):=
 hlisted_0 n a.1 a.2.1 a.2.2.1 a.2.2.2.1 a.2.2.2.2.1 a.2.2.2.2.2.1 a.2.2.2.2.2.2.1 a.2.2.2.2.2.2.2.1 a.2.2.2.2.2.2.2.2.1 a.2.2.2.2.2.2.2.2.2.1 z.1 z.2.1 z.2.2.1 z.2.2.2.1 z.2.2.2.2.1 z.2.2.2.2.2.1 z.2.2.2.2.2.2.1 z.2.2.2.2.2.2.2.1 z.2.2.2.2.2.2.2.2.1 z.2.2.2.2.2.2.2.2.2.1 t5 seen parts len k
theorem listed_l (z:AskD) (t5:Bool) (parts:List (List UInt8)) (hlen:parts.length≤4294967296) (hsh:∀p,p∈parts→shortS p=true∧bndS (cutE p).2.1=true) (rest:List (List UInt8)):
  ∀(done:List (List UInt8)) (n:Nat) (a:AskD) (seen:List (List UInt8)),parts=done++rest→seen.length≤cntS seen→rest.length<n→
  L0 n a z t5 seen parts (parts.length:Int) (done.length:Int)=some ((listedGo rest seen a).1,(listedGo rest seen a).2,()):=by
 induction rest with
 |nil=>
  intro done n a seen hs hc hn;obtain⟨m,rfl⟩:∃m,n=m+1:=⟨n-1,by omega⟩
  have hl:parts.length=done.length:=by rw[hs];simp
  unfold L0;rw[elisted_0,cdF (by omega)];rfl
 |cons p rest ihr=>
  intro done n a seen hs hc hn;obtain⟨m,rfl⟩:∃m,n=m+1:=⟨n-1,by omega⟩
  simp only[List.length_cons] at hn;have hl:parts.length=done.length+(rest.length+1):=by rw[hs];simp
  have ih:=fun a' s' hc'=>ihr (done++[p]) m a' s' (by rw[hs];simp) hc' (by omega)
  simp only[List.length_append,List.length_singleton,Int.natCast_add] at ih;have hg:parts.getD done.length Ty.str.dflt=p:=by rw[hs];exact getD_mid _ _ _ _
  obtain⟨hp,hv⟩:=hsh p (by rw[hs];simp);have h4:=cntS_le seen;obtain⟨a0,a1,a2,a3,a4,a5,a6,a7,a8,a9,⟨⟩⟩:=a;unfold L0;rw[elisted_0,cdT (by omega)];have hq:(shortS p&&[61]==[61])=true:=by rw[hp];rfl
  simp only[Int.toNat_natCast,hg];simp(disch:=omega) only[gdT,kG];rw[gdB hq,gdB hq,kG,kG];unfold listedGo;have hd1:decide (seen.length≤1000)=true:=by rw[decide_eq_true_iff];omega
  have hd2:decide ((2*(seen.length+[(cutE p).1].length)+400)*16≤281474976710656)=true:=by
   rw[decide_eq_true_iff];simp only[List.length_singleton];omega
  try simp only[gdB hd1,kG]
  try simp only[gdB hd2,kG]
  try simp only[gdB hd1,kG]
  clear hd2;generalize cutE p=c at hv⊢
  try simp only[gdB hv,kG]
  have hi:decide (inK .i64 ((done.length:Int)+1))=true:=by
   rw[decide_eq_true_iff,inK_i64];omega
  try simp only[gdB hi,gdB hv,kG]
  have nx:∀{x:List UInt8},c.1=x→(x=wPre∨x=wAft∨x=wMax∨x=wVer)→hasS seen c.1=false→(seen++[c.1]).length≤cntS (seen++[c.1]):=by
   intro x hx hm hh;have:=cntS_add (s:=seen) (x:=c.1) (by rw[hx];exact hm) hh;simp only[List.length_append,List.length_singleton];omega
  cases c.2.2
  ·simp only[kF]
  ·simp only[kT];cases hh:hasS seen c.1
   ·simp only[kF];unfold lset keyB;cases h1:c.1==wPre
    ·simp only[kF];cases h2:c.1==wAft
     ·simp only[kF];cases h3:c.1==wMax
      ·simp only[kF];cases h4:c.1==wVer
       ·cases c.2.1==[]<;>cases isKey c.2.1<;>simp only[kT,kF]
       ·have e:=nx (beq_iff_eq.1 h4) (.inr (.inr (.inr rfl))) hh;cases h5:c.2.1==[49]<;>cases c.2.1==[]<;>cases isKey c.2.1<;>simp only[kT,kF]
        all_goals first
         |rfl
         |exact ih (setKind (a0,a1,a2,a3,a4,a5,a6,a7,a8,a9,()) 5) _ e
      ·have e:=nx (beq_iff_eq.1 h3) (.inr (.inr (.inl rfl))) hh;simp only[kT];cases h5:(numN c.2.1 2 1 20).2<;>cases c.2.1==[]<;>cases isKey c.2.1<;>simp only[kT,kF]
       all_goals first
        |rfl
        |exact ih (setMax (a0,a1,a2,a3,a4,a5,a6,a7,a8,a9,()) (numN c.2.1 2 1 20).1) _ e
     ·have e:=nx (beq_iff_eq.1 h2) (.inr (.inl rfl)) hh;simp only[kT];cases c.2.1==[]<;>cases isKey c.2.1<;>simp only[kT,kF,Bool.true_or,Bool.false_or]
      all_goals first
       |rfl
       |exact ih (setAft (a0,a1,a2,a3,a4,a5,a6,a7,a8,a9,()) c.2.1) _ e
    ·have e:=nx (beq_iff_eq.1 h1) (.inl rfl) hh;simp only[kT];cases c.2.1==[]<;>cases isKey c.2.1<;>simp only[kT,kF,Bool.true_or,Bool.false_or]
     all_goals first
      |rfl
      |exact ih (setPre (a0,a1,a2,a3,a4,a5,a6,a7,a8,a9,()) c.2.1) _ e
   ·simp only[kT]
theorem listed_n (a:AskD) (q:List UInt8) (h:shortS q=true):olisted (a,q,())=some ((listedN a q).1,(listedN a q).2,()):=by
 have hq:q.length<4294967281:=of_decide_eq_true h;rw[olisted_g,elisted_g];unfold listedN;cases q==[]
 ·simp only[kF];have hq2:(shortS q&&[38]==[38])=true:=by rw[h];rfl
  rw[gdB hq2,kG];obtain⟨b1,b2⟩:=split_bnd 38 q.length q (Nat.le_refl _);have:=listed_l zAsk false (splitN q) (by show(Lib.split q [38]).length≤_;omega) (fun p hp=>by
   have:=b2 p hp;have:=(cut_bnd 61 p).2;exact⟨decide_eq_true (by omega),decide_eq_true (by show(Lib.cut p [61]).2.1.length≤_;omega)⟩) (splitN q) [] heads0 (setMax (setKind a 4) 20) [] rfl (Nat.zero_le _) (by show(Lib.split q [38]).length<_;unfold heads0;omega)
  exact this
 ·rfl
end Go.Proofs.YtldllfocpadkeaaGreatDoor
namespace Nice
open Go Go.Eng
theorem m00:(getW==getW)=true:=by decide
theorem m01:(getW==headW)=false:=by decide
theorem m02:(getW==putW)=false:=by decide
theorem m03:(getW==delW)=false:=by decide
theorem m10:(headW==getW)=false:=by decide
theorem m11:(headW==headW)=true:=by decide
theorem m12:(headW==putW)=false:=by decide
theorem m13:(headW==delW)=false:=by decide
theorem m20:(putW==getW)=false:=by decide
theorem m21:(putW==headW)=false:=by decide
theorem m22:(putW==putW)=true:=by decide
theorem m23:(putW==delW)=false:=by decide
theorem m30:(delW==getW)=false:=by decide
theorem m31:(delW==headW)=false:=by decide
theorem m32:(delW==putW)=false:=by decide
theorem m33:(delW==delW)=true:=by decide
theorem hasPre_len {p w:List UInt8} (h:hasPre p w=true):w.length≤p.length:=by
 unfold hasPre at h;rw[Bool.and_eq_true,decide_eq_true_eq] at h;exact h.1
theorem ofP_all {m p q:List UInt8} {hs:HeadL} {b:List UInt8} (h:ofP (m,p,q,hs,b,())=true):condsP hs=true∧shortS q=true∧bndS q=true∧bndS (p.drop 3)=true∧p.length≤140737488355328:=by
 unfold ofP at h;rw[Bool.and_eq_true,Bool.and_eq_true] at h;obtain⟨h1,h2,h3⟩:=h;have h3:p.length≤140737488355328:=of_decide_eq_true h3;have h4:q.length<4294967281:=of_decide_eq_true h2;exact⟨h1,h2,decide_eq_true (by omega),decide_eq_true (by rw[List.length_drop];omega),h3⟩
end Nice
namespace Go.Proofs.YtldllfocpadkeaaGreatDoor
open Go Go.Eng Nice
set_option maxRecDepth 100000
theorem aOfGet_n (p q:List UInt8) (hs:HeadL) (b:List UInt8) (h:ofP (getW,p,q,hs,b,())=true):oaOfGet ((getW,p,q,hs,b,()),())=some ((ofN (getW,p,q,hs,b,())).1,(ofN (getW,p,q,hs,b,())).2,()):=by
 obtain⟨hc,hq,hqb,hk,hp⟩:=ofP_all h;have hall:(condsP hs&&(bndS q&&bndS (p.drop 3)))=true:=by rw[hc,hqb,hk];rfl
 rw[oaOfGet_g,eaOfGet_g];unfold ofN listOut keyOut;simp only[m00,m01,m02,m03,Bool.or_true,Bool.true_or,Bool.or_false,Bool.false_or,kT,kF];have e1:bAsk false=((0:Int),[],(0:Int),[],(0:Int),[],[],[],(0:Int),false,()):=rfl;have e2:kAsk (p.drop 3) false=((0:Int),p.drop 3,(0:Int),[],(0:Int),[],[],[],(0:Int),false,()):=rfl
 have e3:zAsk=((0:Int),[],(0:Int),[],(0:Int),[],[],[],(0:Int),false,()):=rfl;simp only[e1,e2,e3];cases p==oW
 ·cases p==ooW
  ·simp only[kF,Bool.or_false];cases h3:hasPre p ooW
   ·simp only[Bool.not_false,kT,kF]
   ·have hl:3≤p.length:=hasPre_len h3;simp only[Bool.not_true,kT,kF];rw[gdT (by omega),kG];cases(keyedG ((0:Int),p.drop 3,(0:Int),[],(0:Int),[],[],[],(0:Int),false,()) getW q hs b).2<;>cases b==[]<;>simp only[kT,kF,Bool.not_true,Bool.not_false,Bool.and_true,Bool.and_false]<;>rw[gdB hall,kG]
  ·simp only[kT,kF,Bool.or_true];cases(listedN ((0:Int),[],(0:Int),[],(0:Int),[],[],[],(0:Int),false,()) q).2<;>cases b==[]<;>simp only[kT,kF,Bool.not_true,Bool.not_false,Bool.and_true,Bool.and_false]<;>rw[gdB hq,kG]
 ·simp only[kT,kF,Bool.true_or];cases(listedN ((0:Int),[],(0:Int),[],(0:Int),[],[],[],(0:Int),false,()) q).2<;>cases b==[]<;>simp only[kT,kF,Bool.not_true,Bool.not_false,Bool.and_true,Bool.and_false]<;>rw[gdB hq,kG]
theorem aOfHead_n (p q:List UInt8) (hs:HeadL) (b:List UInt8) (h:ofP (headW,p,q,hs,b,())=true):oaOfHead ((headW,p,q,hs,b,()),())=some ((ofN (headW,p,q,hs,b,())).1,(ofN (headW,p,q,hs,b,())).2,()):=by
 obtain⟨hc,hq,hqb,hk,hp⟩:=ofP_all h;have hall:(condsP hs&&(bndS q&&bndS (p.drop 3)))=true:=by rw[hc,hqb,hk];rfl
 rw[oaOfHead_g,eaOfHead_g];unfold ofN listOut keyOut;simp only[m10,m11,m12,m13,Bool.or_true,Bool.true_or,Bool.or_false,Bool.false_or,kT,kF];have e1:bAsk true=((0:Int),[],(0:Int),[],(0:Int),[],[],[],(0:Int),true,()):=rfl;have e2:kAsk (p.drop 3) true=((0:Int),p.drop 3,(0:Int),[],(0:Int),[],[],[],(0:Int),true,()):=rfl
 have e3:zAsk=((0:Int),[],(0:Int),[],(0:Int),[],[],[],(0:Int),false,()):=rfl;simp only[e1,e2,e3];cases p==oW
 ·cases p==ooW
  ·simp only[kF,Bool.or_false];cases h3:hasPre p ooW
   ·simp only[Bool.not_false,kT,kF]
   ·have hl:3≤p.length:=hasPre_len h3;simp only[Bool.not_true,kT,kF];rw[gdT (by omega),kG];cases(keyedG ((0:Int),p.drop 3,(0:Int),[],(0:Int),[],[],[],(0:Int),true,()) headW q hs b).2<;>cases b==[]<;>simp only[kT,kF,Bool.not_true,Bool.not_false,Bool.and_true,Bool.and_false]<;>rw[gdB hall,kG]
  ·simp only[kT,kF,Bool.or_true];cases(listedN ((0:Int),[],(0:Int),[],(0:Int),[],[],[],(0:Int),true,()) q).2<;>cases b==[]<;>simp only[kT,kF,Bool.not_true,Bool.not_false,Bool.and_true,Bool.and_false]<;>rw[gdB hq,kG]
 ·simp only[kT,kF,Bool.true_or];cases(listedN ((0:Int),[],(0:Int),[],(0:Int),[],[],[],(0:Int),true,()) q).2<;>cases b==[]<;>simp only[kT,kF,Bool.not_true,Bool.not_false,Bool.and_true,Bool.and_false]<;>rw[gdB hq,kG]
theorem aOfPut_n (p q:List UInt8) (hs:HeadL) (b:List UInt8) (h:ofP (putW,p,q,hs,b,())=true):oaOfPut ((putW,p,q,hs,b,()),())=some ((ofN (putW,p,q,hs,b,())).1,(ofN (putW,p,q,hs,b,())).2,()):=by
 obtain⟨hc,hq,hqb,hk,hp⟩:=ofP_all h;have hall:(condsP hs&&(bndS q&&bndS (p.drop 3)))=true:=by rw[hc,hqb,hk];rfl
 rw[oaOfPut_g,eaOfPut_g];unfold ofN listOut keyOut;simp only[m20,m21,m22,m23,Bool.or_true,Bool.true_or,Bool.or_false,Bool.false_or,kT,kF];have e1:bAsk false=((0:Int),[],(0:Int),[],(0:Int),[],[],[],(0:Int),false,()):=rfl;have e2:kAsk (p.drop 3) false=((0:Int),p.drop 3,(0:Int),[],(0:Int),[],[],[],(0:Int),false,()):=rfl
 have e3:zAsk=((0:Int),[],(0:Int),[],(0:Int),[],[],[],(0:Int),false,()):=rfl;simp only[e1,e2,e3];cases p==oW
 ·cases p==ooW
  ·simp only[kF,Bool.or_false];cases h3:hasPre p ooW
   ·simp only[Bool.not_false,kT,kF]
   ·have hl:3≤p.length:=hasPre_len h3;simp only[Bool.not_true,kT,kF];rw[gdT (by omega),kG];cases(keyedG ((0:Int),p.drop 3,(0:Int),[],(0:Int),[],[],[],(0:Int),false,()) putW q hs b).2<;>cases b==[]<;>simp only[kT,kF,Bool.not_true,Bool.not_false,Bool.and_true,Bool.and_false]<;>rw[gdB hall,kG]
  ·simp only[kT,kF,Bool.or_true]
   skip
 ·simp only[kT,kF,Bool.true_or]
  skip
theorem aOfDel_n (p q:List UInt8) (hs:HeadL) (b:List UInt8) (h:ofP (delW,p,q,hs,b,())=true):oaOfDel ((delW,p,q,hs,b,()),())=some ((ofN (delW,p,q,hs,b,())).1,(ofN (delW,p,q,hs,b,())).2,()):=by
 obtain⟨hc,hq,hqb,hk,hp⟩:=ofP_all h;have hall:(condsP hs&&(bndS q&&bndS (p.drop 3)))=true:=by rw[hc,hqb,hk];rfl
 rw[oaOfDel_g,eaOfDel_g];unfold ofN listOut keyOut;simp only[m30,m31,m32,m33,Bool.or_true,Bool.true_or,Bool.or_false,Bool.false_or,kT,kF];have e1:bAsk false=((0:Int),[],(0:Int),[],(0:Int),[],[],[],(0:Int),false,()):=rfl;have e2:kAsk (p.drop 3) false=((0:Int),p.drop 3,(0:Int),[],(0:Int),[],[],[],(0:Int),false,()):=rfl
 have e3:zAsk=((0:Int),[],(0:Int),[],(0:Int),[],[],[],(0:Int),false,()):=rfl;simp only[e1,e2,e3];cases p==oW
 ·cases p==ooW
  ·simp only[kF,Bool.or_false];cases h3:hasPre p ooW
   ·simp only[Bool.not_false,kT,kF]
   ·have hl:3≤p.length:=hasPre_len h3;simp only[Bool.not_true,kT,kF];rw[gdT (by omega),kG];cases(keyedG ((0:Int),p.drop 3,(0:Int),[],(0:Int),[],[],[],(0:Int),false,()) delW q hs b).2<;>cases b==[]<;>simp only[kT,kF,Bool.not_true,Bool.not_false,Bool.and_true,Bool.and_false]<;>rw[gdB hall,kG]
  ·simp only[kT,kF,Bool.or_true]
   skip
 ·simp only[kT,kF,Bool.true_or]
  skip
theorem aOfO_n (m p q:List UInt8) (hs:HeadL) (b:List UInt8) (h:ofP (m,p,q,hs,b,())=true) (h0:(m==getW)=false) (h1:(m==headW)=false) (h2:(m==putW)=false) (h3:(m==delW)=false):oaOfO ((m,p,q,hs,b,()),())=some ((ofN (m,p,q,hs,b,())).1,(ofN (m,p,q,hs,b,())).2,()):=by
 rw[oaOfO_g,eaOfO_g];unfold ofN;simp only[h0,h1,h2,h3,Bool.or_false,kT,kF,Bool.not_false,Bool.not_true];cases p==oW<;>cases p==ooW<;>simp only[kT,kF,Bool.or_true,Bool.or_false];cases hasPre p ooW<;>simp only[kT,kF,Bool.not_false,Bool.not_true]
end Go.Proofs.YtldllfocpadkeaaGreatDoor

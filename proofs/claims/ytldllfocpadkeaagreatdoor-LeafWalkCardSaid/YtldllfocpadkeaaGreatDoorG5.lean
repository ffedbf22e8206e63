/-
  Part of the proof: ShelfW Idx ItoaW. No condition.
-/
import Derived.Shelf.Strings.Search2
import Derived.Test.YtldllfocpadkeaaGreatDoorProg
import Derived.Test.YtldllfocpadkeaaGreatDoorEnv
import Derived.Test.YtldllfocpadkeaaGreatDoorSym
import Derived.Test.YtldllfocpadkeaaGreatDoorG1
import Derived.Test.YtldllfocpadkeaaGreatDoorG2
import Derived.Test.YtldllfocpadkeaaGreatDoorG4
import Derived.Test.YtldllfocpadkeaaGreatDoorG3
namespace Go.Proofs
open Go.Shelf
def Tryz.lays219_ren:Go.Shelf.Ren:=⟨fun|219=>262|217=>309|225=>310|224=>311|267=>312|266=>337|314=>338|n=>n,fun|9=>9|3=>3|4=>4|5=>5|46=>262|146=>371|51=>259|n=>n,fun|1=>1|n=>n⟩
theorem Tryz.lays219:Go.Proofs.Lays.n219 Tryz.prog Tryz.lays219_ren:={
 mixed:=by kernel_rfl
 f217:=Tryz.func309.trans (congrArg some (by kernel_rfl))
 f219:=Tryz.func262.trans (congrArg some (by kernel_rfl))
 f224:=Tryz.func311.trans (congrArg some (by kernel_rfl))
 f225:=Tryz.func310.trans (congrArg some (by kernel_rfl))
 f266:=Tryz.func337.trans (congrArg some (by kernel_rfl))
 f267:=Tryz.func312.trans (congrArg some (by kernel_rfl))
 f314:=Tryz.func338.trans (congrArg some (by kernel_rfl))
 t3:=Tryz.underlying3
 a3:=Tryz.isAgg3
 z3:=Tryz.sizeOf3
 v3:=Tryz.zeroValue3
 t4:=Tryz.underlying4
 a4:=Tryz.isAgg4
 z4:=Tryz.sizeOf4
 v4:=Tryz.zeroValue4
 t5:=Tryz.underlying5
 a5:=Tryz.isAgg5
 z5:=Tryz.sizeOf5
 v5:=Tryz.zeroValue5
 t9:=Tryz.underlying9
 a9:=Tryz.isAgg9
 z9:=Tryz.sizeOf9
 v9:=Tryz.zeroValue9
 t46:=Tryz.underlying262
 a46:=Tryz.isAgg262
 z46:=Tryz.sizeOf262
 v46:=Tryz.zeroValue262
 t51:=Tryz.underlying259
 a51:=Tryz.isAgg259
 z51:=Tryz.sizeOf259
 v51:=Tryz.zeroValue259
 t146:=Tryz.underlying371
 a146:=Tryz.isAgg371
 z146:=Tryz.sizeOf371
 v146:=Tryz.zeroValue371
 g1:=by kernel_rfl}
open Go.RowKit Go.Lib in
theorem Tryz.stringslite_Index (s sub:ByteArray) (m:Int) (w:World) (hs:s.size<4294967281) (hm:w.cell? ⟨1,0,none⟩=some (.int .i64 m)):
 Calls Tryz.prog 262 #[.string s,.string sub] w fun e w'=>e=.returned (.int .i64 (Lib.index s.data.toList sub.data.toList))∧w'=w:=Any.stringslite_Index Tryz.lays219 s sub m w hs hm
end Go.Proofs
namespace Go.Proofs.YtldllfocpadkeaaGreatDoor
open Go Go.Eng
noncomputable def sumI (sum:FuncId→List Value→Option Value) (f:FuncId) (a:List Value):Option Value:=
 bif Nat.beq f 262 then match a with
  |[.string s,.string t]=>bif Nat.blt s.size 60 then some (.int .i64 (Lib.index s.data.toList t.data.toList)) else none
  |_=>none
 else sum f a
theorem env_idx {sum:FuncId→List Value→Option Value} {spec:FuncId→Option PSpec} (h:(envC sum spec).OK Tryz.prog):(envC (sumI sum) spec).OK Tryz.prog:=
 env_ok (fun f a v hs=>by
  unfold sumI at hs;cases hb:Nat.beq f 262
  ·rw[hb,cond_false] at hs;exact h.sum f a v hs
  ·rw[hb,cond_true] at hs;rw[beq_eq hb]
   split at hs
   ·rename_i s t;cases hl:Nat.blt s.size 60
    ·rw[hl] at hs;cases hs
    ·rw[hl,cond_true] at hs;cases hs;have hl:s.size<60:=by simpa using hl
     refine⟨rfl,rfl,fun w hw=> ?_⟩;obtain⟨u,hu,hr⟩:=hw.1 (1,[ai .i64]) (by simp[glC]) 0 (ai .i64) rfl;rcases hr with⟨hp,_⟩|⟨b,he,_⟩|⟨k,m,he,rfl⟩
     ·cases hp
     ·cases he
     ·cases he;refine(Tryz.stringslite_Index s t m w (by omega) hu).mono ?_;rintro e w' ⟨rfl,rfl⟩;exact⟨rfl,Nat.le_refl _,rfl,rfl,fun _ _=>rfl⟩
   ·cases hs) h.spec
end Go.Proofs.YtldllfocpadkeaaGreatDoor

/-
  A closed run, cut into calls that are run by themselves. No condition.
-/
import Derived.Test.YtdegbhgoldglaaaGreatDoorEA
namespace Go.Proofs.YtdegbhgoldglaaaGreatDoor
noncomputable section
open Go Go.Eng
set_option maxRecDepth 1000000
noncomputable def smB := (sumT 477 (sumI sum0))
theorem smB_ok : SumOK smB := (env_more (env_idx env0) A_run)
def Bq0 : AO := .row [.int .u64 1, .int .u64 10, .int .u64 100, .int .u64 1000, .int .u64 10000, .int .u64 100000, .int .u64 1000000, .int .u64 10000000, .int .u64 100000000, .int .u64 1000000000, .int .u64 10000000000, .int .u64 100000000000, .int .u64 1000000000000, .int .u64 10000000000000, .int .u64 100000000000000, .int .u64 1000000000000000, .int .u64 10000000000000000, .int .u64 100000000000000000, .int .u64 1000000000000000000, .int .u64 10000000000000000000] 0 true
def Bq1 : AO := oR [vI 1, vI 1, v0, .slice none 0 0, vI 1, vI 0, v0, .slice none 0 0, vI 2, vI 0, vB 1 0x76, .slice none 0 0] 170
def Bq2 : AO := oR [vI 1, vI 2, v0, .slice none 0 0, vI 1, vI 1, v0, .slice none 0 0, vI 2, vI 0, v0, .slice none 0 0] 170
def Bq3 : AO := oR [vI 3, vI 0, v0, vU 652 0 3, vI 3, vI 0, v0, vU 678 0 3] 170
def Bq4 : AO := oR [vI 2, vI 0, vB 1 0x6b, .slice none 0 0, vI 3, vI 0, v0, vU 681 0 2] 170
def Bq5 : AO := oR [vI 3, vI 0, v0, vU 684 0 2] 170
def Bq6 : AO := oR [vI 1, vI 4294967297, v0, .slice none 0 0, vI 1, vI 0, v0, .slice none 0 0, vI 1, vI 1, v0, .slice none 0 0] 170
def Bq7 : AO := oR [vI 1, vI 4294967298, v0, .slice none 0 0, vI 1, vI 0, v0, .slice none 0 0, vI 1, vI 2, v0, .slice none 0 0] 170
def Bq8 : AO := oR [vI 3, vI 0, v0, vU 720 0 3, vI 3, vI 0, v0, vU 749 0 3] 170
def Bq9 : AO := oR [vI 1, vI 0, v0, .slice none 0 0, vI 1, vI 0, v0, .slice none 0 0, vI 1, vI 0, v0, .slice none 0 0, vI 1, vI 0, v0, .slice none 0 0, vI 1, vI 0, v0, .slice none 0 0] 170
def Bq10 : AO := oR [vI 1, vI 2, v0, .slice none 0 0, vI 3, vI 0, v0, vU 687 0 1, vI 3, vI 0, v0, vU 752 0 2, vI 3, vI 0, v0, vU 794 0 5] 170
def Be0 : Ent := ⟨379, [vB 131 0x313a322334333a33393a313a6b2c33313a31323a313a3123313a3023313a762c5d31313a313a3223313a3123303a2c5d5d5d5d35323a32323a31303a3432393439363732393723313a3023313a31235d32323a31303a3432393439363732393823313a3023313a32235d5d32303a313a3023313a3023313a3023313a3023313a30235d, vI 1], 604, [(0, Bq0)], .tuple #[.agg #[vI 3, vI 0, v0, vU 797 0 4], vI 0], [(652, some Bq1), (678, some Bq2), (681, some Bq3), (684, some Bq4), (687, some Bq5), (720, some Bq6), (749, some Bq7), (752, some Bq8), (794, some Bq9), (797, some Bq10)], 798, [], true⟩
-- COST 9951
theorem Be0_k : chk smB [] Be0 = true := by kernel_rfl
theorem Be0_c : EO Be0 := eo (l := []) smB_ok trivial Be0_k
def Bq11 : AO := oR [vI 1, .bool false, vB 1 0x76, vI 2, .bool true, v0] 200
def Bq12 : AO := oR [vB 1 0x6b, vU 895 0 2] 216
def Bq13 : AO := oR [vI 4294967297, vI 0, vI 1, vI 4294967298, vI 0, vI 2] 241
def Be1 : Ent := ⟨110, [vB 136 0x3133313a313a322334333a33393a313a6b2c33313a31323a313a3123313a3023313a762c5d31313a313a3223313a3123303a2c5d5d5d5d35323a32323a31303a3432393439363732393723313a3023313a31235d32323a31303a3432393439363732393823313a3023313a32235d5d32303a313a3023313a3023313a3023313a3023313a30235d5d], 599, [(0, Bq0)], .tuple #[.agg #[vI 2, vU 897 0 1, vU 922 0 2, vI 0, vI 0, vI 0, vI 0, vI 0], vI 0], [(895, some Bq11), (897, some Bq12), (922, some Bq13)], 1185, [], true⟩
-- COST 8705
theorem Be1_k : chk smB [Be0] Be1 = true := by kernel_rfl
theorem Be1_c : EO Be1 := eo (l := [Be0]) smB_ok ⟨Be0_c, trivial⟩ Be1_k
-- COST 17267
theorem B_true : kTrue Tryz.prog (envT smB [Be1]) 100000 444 [] = true := by kernel_rfl
theorem B_run (w : World) (hw : GlW glC w) : Calls Tryz.prog 444 #[] w fun e w' => e = .returned (.bool true) ∧ Same w w' := true_of (envT_ok (l := [Be1]) smB_ok ⟨Be1_c, trivial⟩) gl_ne B_true rfl w hw
end
end Go.Proofs.YtdegbhgoldglaaaGreatDoor

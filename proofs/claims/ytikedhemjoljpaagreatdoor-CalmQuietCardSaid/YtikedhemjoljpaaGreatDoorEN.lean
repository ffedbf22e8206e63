/-
  A closed run, cut into calls that are run by themselves. No condition.
-/
import Derived.Test.YtikedhemjoljpaaGreatDoorEA
import Derived.Test.YtikedhemjoljpaaGreatDoorEB
import Derived.Test.YtikedhemjoljpaaGreatDoorEC
import Derived.Test.YtikedhemjoljpaaGreatDoorED
import Derived.Test.YtikedhemjoljpaaGreatDoorEG
import Derived.Test.YtikedhemjoljpaaGreatDoorEJ
import Derived.Test.YtikedhemjoljpaaGreatDoorEK
import Derived.Test.YtikedhemjoljpaaGreatDoorEL
import Derived.Test.YtikedhemjoljpaaGreatDoorEM
import Derived.Test.YtikedhemjoljpaaGreatDoorEM0
import Derived.Test.YtikedhemjoljpaaGreatDoorEM1
namespace Go.Proofs.YtikedhemjoljpaaGreatDoor
noncomputable section
open Go Go.Eng
set_option maxRecDepth 1000000
noncomputable def smN := (sumT 186 (sumT 185 (sumT 344 (sumT 454 (sumT 445 (sumT 507 (sumT 444 (sumT 506 (sumT 519 (sumI sum0))))))))))
theorem smN_ok : SumOK smN := (env_more (env_more (env_more (env_more (env_more (env_more (env_more (env_more (env_more (env_idx env0) A_truer) C_truer) D_truer) B_truer) G_truer) K_truer) L_truer) J_truer) M_truer)
def Nq0 : AO := .row [.int .u64 1, .int .u64 10, .int .u64 100, .int .u64 1000, .int .u64 10000, .int .u64 100000, .int .u64 1000000, .int .u64 10000000, .int .u64 100000000, .int .u64 1000000000, .int .u64 10000000000, .int .u64 100000000000, .int .u64 1000000000000, .int .u64 10000000000000, .int .u64 100000000000000, .int .u64 1000000000000000, .int .u64 10000000000000000, .int .u64 100000000000000000, .int .u64 1000000000000000000, .int .u64 10000000000000000000] 0 true
def Nq1 : AO := .row [.tuple #[.chan (some 4), vI 0]] 0 true
def Nq2 : AO := .row [.tuple #[.chan (some 3), .bool false]] 0 true
def Nq3 : AO := .mp [(vB 3 0x4c4f47, .agg #[vB 34 0x3030303030303031303a2c303933316233306631313a383a313a3323313a31235d2c, vI 34, .bool true])] (some ([0], 1))
def Nq4 : AO := oR [vI 1048542, .map (some 10)] 157
def Nq5 : AO := oR [vP 11 0, v0, vU 67 0 1, .bool false] 223
def Nq6 : AO := oR [vP 15 0, vI 0, .slice none 0 0, .slice none 0 0, vI 0, vI 0, vI 0, vI 0, vI 0, .slice none 0 0, vI 1, vI 0, .bool false] 174
def Nq7 : AO := oR [vI 2, vP 25 0, vI 1, vU 72 0 1, vI 0, vI 1073741824, .slice none 0 0] 170
def Nq8 : AO := oR [vI 2, vP 11 0, vP 28 0, vN, vN, vN, vN, vN, vN, vN, vN, vI 1] 134
def Nq9 : AO := oR [vB 11 0x383a313a3323313a31235d] 9
def Nq10 : AO := .mp [(vB 3 0x4c4f47, .agg #[vB 132 0x3030303030303031303a2c303933316233306631313a383a313a3323313a31235d2c663465353663373436333a35393a313a312335313a313a3123313a6b2c313a762c313a3023313a3023303a2c31303a383538393933343539332331303a38353839393334353933235d5d2c373036326332383731313a383a313a3223313a31235d2c, vI 109, .bool true]), (vB 3 0x524551, .agg #[vB 1 0x2e, vI 1, .bool true])] (some ([0, 1], 2))
def Nq11 : AO := oR [vI 1048443, .map (some 10)] 157
def Nq12 : AO := oR [vP 11 0, v0, vU 326 0 3, .bool false] 223
def Nq13 : AO := oR [vP 15 0, vI 1, vU 295 0 1, vU 298 0 1, vI 0, vI 8589934593, vI 0, vI 0, vI 0, .slice (some ⟨192, 8, some 0⟩) 0 9223372036854775808, vI 1, vI 0, .bool false] 174
def Nq14 : AO := oR [vI 2, vP 11 0, vP 28 0, vN, vN, vN, vP 81 0, vN, vN, vN, vN, vI 2] 134
def Nq15 : AO := oR [vI 0, vI 0, vI 0, vI 0, .slice none 0 0, v0, v0, v0, .slice none 0 0, v0, vI 0, .slice none 0 0] 267
def Nq16 : AO := oR [vP 79 0, .slice (some ⟨140, 5, some 0⟩) 0 9223372036854775808, vI 0, v0, vI 0, v0, vI 0, v0, v0, v0, vI 0, .bool false, .bool false, vB 68 0x485454502f312e3120323030204f4b0d0a56657273696f6e3a20310d0a455461673a20223030373230303033220d0a436f6e74656e742d4c656e6774683a20300d0a0d0a, .bool false] 207
def Nq17 : AO := oR [vP 80 0, vI 0, vI 0, v0, v0, vI 0, vI 0, v0, vI 0, vI 0, .bool true, vI 1] 140
def Nq18 : AO := oR [vB 14 0x436f6e74656e742d4c656e677468, vB 1 0x31] 202
def Nq19 : AO := oR [vB 3 0x505554, vB 4 0x2f6f2f6b, v0, vU 125 0 1, vB 1 0x76] 191
def Nq20 : AO := oR [vI 1, vB 1 0x6b, vB 1 0x76, vI 0, vI 0, v0, vI 8589934593, vI 8589934593] 138
def Nq21 : AO := oR [vI 1, .bool false, vB 1 0x76] 277
def Nq22 : AO := oR [vB 1 0x6b, vU 293 0 1] 304
def Nq23 : AO := oR [vI 8589934593, vI 0, vI 1] 309
def Nq24 : AO := oR [vB 11 0x383a313a3323313a31235d, vB 63 0x35393a313a312335313a313a3123313a6b2c313a762c313a3023313a3023303a2c31303a383538393933343539332331303a38353839393334353933235d5d, vB 11 0x383a313a3223313a31235d] 9
def Ne95 : Ent := ⟨39, [vP 29 0, vI 3, vB 41 0x505554202f6f2f6b20485454502f312e310d0a436f6e74656e742d4c656e6774683a20310d0a0d0a76, vI 1], 79, [(1, Nq0), (2, Nq1), (5, Nq2), (6, Nq2), (10, Nq3), (11, Nq4), (15, Nq5), (25, Nq6), (28, Nq7), (29, Nq8), (67, Nq9), (72, (oR [vI 2] 3))], .slice none 0 0, [(10, some Nq10), (11, some Nq11), (15, some Nq12), (25, some Nq13), (28, some Nq7), (29, some Nq14), (67, none), (79, some Nq15), (80, some Nq16), (81, some Nq17), (125, some Nq18), (140, some Nq19), (192, some Nq20), (293, some Nq21), (295, some Nq22), (298, some Nq23), (326, some Nq24)], 364, [10, 11, 15, 25, 28, 29, 67], true⟩
-- COST 12666
theorem Ne95_k : chk smN [Me87, Me78, Me76, Me75, Me77, Me88, Me1, Me73, Me5, Me4, Me3, Me2, Me89, Me24, Me13, Me15, Me35, Me90, Me94, Me92, Me82] Ne95 = true := by kernel_rfl
theorem Ne95_c : EO Ne95 := eo (l := [Me87, Me78, Me76, Me75, Me77, Me88, Me1, Me73, Me5, Me4, Me3, Me2, Me89, Me24, Me13, Me15, Me35, Me90, Me94, Me92, Me82]) smN_ok ⟨Me87_c, Me78_c, Me76_c, Me75_c, Me77_c, Me88_c, Me1_c, Me73_c, Me5_c, Me4_c, Me3_c, Me2_c, Me89_c, Me24_c, Me13_c, Me15_c, Me35_c, Me90_c, Me94_c, Me92_c, Me82_c, trivial⟩ Ne95_k
-- COST 16041
theorem N_true : kzTrue Tryz.prog (envT smN [Ne95, Me26, Me23, Me21, Me24, Me13, Me1, Me31, Me71, Me84, Me86, Me90, Me92, Me94, Me82, Me91, Me96, Me93, Me97, Me98, Me99, Me25, Me22, Me89, Me39, Me7, Me8, Me100, Me88, Me12, Me11, Me10]) 100000 69 [] = true := by kernel_rfl
theorem N_truer (w : World) (hw : GlW glC w) : Calls Tryz.prog 69 #[] w fun e w' => e = .returned (.bool true) ∧ Same w w' := kz_true (envT_ok (l := [Ne95, Me26, Me23, Me21, Me24, Me13, Me1, Me31, Me71, Me84, Me86, Me90, Me92, Me94, Me82, Me91, Me96, Me93, Me97, Me98, Me99, Me25, Me22, Me89, Me39, Me7, Me8, Me100, Me88, Me12, Me11, Me10]) smN_ok ⟨Ne95_c, Me26_c, Me23_c, Me21_c, Me24_c, Me13_c, Me1_c, Me31_c, Me71_c, Me84_c, Me86_c, Me90_c, Me92_c, Me94_c, Me82_c, Me91_c, Me96_c, Me93_c, Me97_c, Me98_c, Me99_c, Me25_c, Me22_c, Me89_c, Me39_c, Me7_c, Me8_c, Me100_c, Me88_c, Me12_c, Me11_c, Me10_c, trivial⟩) gl_ne N_true rfl w hw
end
end Go.Proofs.YtikedhemjoljpaaGreatDoor

/-
  A closed run, cut into calls that are run by themselves. No condition.
-/
import Derived.Test.YtikedhemjoljpaaGreatDoorEM0
namespace Go.Proofs.YtikedhemjoljpaaGreatDoor
noncomputable section
open Go Go.Eng
set_option maxRecDepth 1000000
def Me93 : Ent := ⟨339, [vB 4 0x45546167], 10, [], .bool false, [], 17, [], false⟩
-- COST 373
theorem Me93_k : chk smZ [Me79] Me93 = true := by kernel_rfl
theorem Me93_c : EO Me93 := eo (l := [Me79]) smZ_ok ⟨Me79_c, trivial⟩ Me93_k
def Me94 : Ent := ⟨297, [.agg #[vB 4 0x45546167, vB 10 0x22303037323030303322]], 10, [], .bool false, [], 12, [], false⟩
-- COST 470
theorem Me94_k : chk smZ [Me93] Me94 = true := by kernel_rfl
theorem Me94_c : EO Me94 := eo (l := [Me93]) smZ_ok ⟨Me93_c, trivial⟩ Me94_k
def Me96 : Ent := ⟨335, [vB 51 0x56657273696f6e3a20310d0a455461673a20223030373230303033220d0a436f6e74656e742d4c656e6774683a20300d0a0d0a, .func (.func 336) #[] #[]], 10, [], vI 7, [], 10, [], false⟩
-- COST 316
theorem Me96_k : chk smZ [] Me96 = true := by kernel_rfl
theorem Me96_c : EO Me96 := eo (l := []) smZ_ok trivial Me96_k
def Me97 : Ent := ⟨335, [vB 21 0x436f6e74656e742d4c656e6774683a20300d0a0d0a, .func (.func 336) #[] #[]], 10, [], vI 14, [], 10, [], false⟩
-- COST 589
theorem Me97_k : chk smZ [] Me97 = true := by kernel_rfl
theorem Me97_c : EO Me97 := eo (l := []) smZ_ok trivial Me97_k
def Me98 : Ent := ⟨335, [vB 34 0x56657273696f6e3a20310d0a436f6e74656e742d4c656e6774683a20310d0a0d0a76, .func (.func 336) #[] #[]], 10, [], vI 7, [], 10, [], false⟩
-- COST 316
theorem Me98_k : chk smZ [] Me98 = true := by kernel_rfl
theorem Me98_c : EO Me98 := eo (l := []) smZ_ok trivial Me98_k
def Me99 : Ent := ⟨335, [vB 22 0x436f6e74656e742d4c656e6774683a20310d0a0d0a76, .func (.func 336) #[] #[]], 10, [], vI 14, [], 10, [], false⟩
-- COST 589
theorem Me99_k : chk smZ [] Me99 = true := by kernel_rfl
theorem Me99_c : EO Me99 := eo (l := []) smZ_ok trivial Me99_k
def Me100 : Ent := ⟨313, [vB 10 0x38353839393334353933], 10, [(1, Mq0)], .tuple #[.agg #[vI 1, vI 8589934593, v0, .slice none 0 0], vI 0], [], 13, [], false⟩
-- COST 850
theorem Me100_k : chk smZ [] Me100 = true := by kernel_rfl
theorem Me100_c : EO Me100 := eo (l := []) smZ_ok trivial Me100_k
def Me101 : Ent := ⟨64, [.agg #[vI 1, vI 1, vI 0, vI 0, vI 0, vI 0, vI 0, vI 0, vI 0, vI 0, .slice none 0 0, vI 0, .slice none 0 0, vI 0, .slice none 0 0, .slice none 0 0, vI 0, vI 0, vI 0, vI 0, vI 0]], 10, [(1, Mq0), (2, Mq1), (5, Mq2), (6, Mq2)], vB 104 0x626538366139346239323a313a3123313a3123313a3023313a3023313a3023313a3023313a3023313a3023313a3023313a3023313a3023303a5d303a5d33383a33343a313a3023303a5d303a5d32303a313a3023313a3023313a3023313a3023313a30235d5d2c5d, [], 120, [], false⟩
-- COST 2035
theorem Me101_k : chk smZ [Me13, Me48, Me46, Me50, Me47, Me4, Me1] Me101 = true := by kernel_rfl
theorem Me101_c : EO Me101 := eo (l := [Me13, Me48, Me46, Me50, Me47, Me4, Me1]) smZ_ok ⟨Me13_c, Me48_c, Me46_c, Me50_c, Me47_c, Me4_c, Me1_c, trivial⟩ Me101_k
def Me102 : Ent := ⟨64, [.agg #[vI 1, vI 3, vI 0, vI 0, vI 0, vI 0, vI 0, vI 0, vI 0, vI 0, .slice none 0 0, vI 0, .slice none 0 0, vI 0, .slice none 0 0, .slice none 0 0, vI 0, vI 0, vI 0, vI 0, vI 0]], 10, [(1, Mq0), (2, Mq1), (5, Mq2), (6, Mq2)], vB 104 0x383266393437323639323a313a3123313a3323313a3023313a3023313a3023313a3023313a3023313a3023313a3023313a3023313a3023303a5d303a5d33383a33343a313a3023303a5d303a5d32303a313a3023313a3023313a3023313a3023313a30235d5d2c5d, [], 120, [], false⟩
-- COST 2032
theorem Me102_k : chk smZ [Me13, Me48, Me46, Me50, Me47, Me4, Me31, Me1] Me102 = true := by kernel_rfl
theorem Me102_c : EO Me102 := eo (l := [Me13, Me48, Me46, Me50, Me47, Me4, Me31, Me1]) smZ_ok ⟨Me13_c, Me48_c, Me46_c, Me50_c, Me47_c, Me4_c, Me31_c, Me1_c, trivial⟩ Me102_k
def Me103 : Ent := ⟨252, [.agg #[vI 1, vI 7, v0, .slice none 0 0]], 10, [], vB 4 0x313a3723, [], 11, [], false⟩
-- COST 77
theorem Me103_k : chk smZ [] Me103 = true := by kernel_rfl
theorem Me103_c : EO Me103 := eo (l := []) smZ_ok trivial Me103_k
def Me104 : Ent := ⟨178, [vI 105], 10, [(1, Mq0)], vB 3 0x313035, [], 11, [], false⟩
-- COST 119
theorem Me104_k : chk smZ [] Me104 = true := by kernel_rfl
theorem Me104_c : EO Me104 := eo (l := []) smZ_ok trivial Me104_k
def Me105 : Ent := ⟨110, [.complex .f64 4676000576704610304 4674622888635006976], 10, [], vB 8 0x6133656537653633, [], 26, [], false⟩
-- COST 251
theorem Me105_k : chk smZ [] Me105 = true := by kernel_rfl
theorem Me105_c : EO Me105 := eo (l := []) smZ_ok trivial Me105_k
def Me106 : Ent := ⟨110, [.complex .f64 4678427886061879296 4677779311640444928], 10, [], vB 8 0x6538656264363763, [], 26, [], false⟩
-- COST 252
theorem Me106_k : chk smZ [] Me106 = true := by kernel_rfl
theorem Me106_c : EO Me106 := eo (l := []) smZ_ok trivial Me106_k
def Me107 : Ent := ⟨226, [vB 93 0x313a3023313a3023313a3023313a3723313a3023313a3023313a3123313a302331323a313a3123313a3223313a33235d303a5d33383a33343a313a3023303a5d303a5d32303a313a3023313a3023313a3023313a3023313a30235d5d2c, vI 2], 10, [], .tuple #[.agg #[vI 1, vI 0, v0, .slice none 0 0], vI 4, vI 0], [], 12, [], false⟩
-- COST 128
theorem Me107_k : chk smZ [Me8] Me107 = true := by kernel_rfl
theorem Me107_c : EO Me107 := eo (l := [Me8]) smZ_ok ⟨Me8_c, trivial⟩ Me107_k
def Me108 : Ent := ⟨226, [vB 89 0x313a3023313a3023313a3723313a3023313a3023313a3123313a302331323a313a3123313a3223313a33235d303a5d33383a33343a313a3023303a5d303a5d32303a313a3023313a3023313a3023313a3023313a30235d5d2c, vI 2], 10, [], .tuple #[.agg #[vI 1, vI 0, v0, .slice none 0 0], vI 4, vI 0], [], 12, [], false⟩
-- COST 128
theorem Me108_k : chk smZ [Me8] Me108 = true := by kernel_rfl
theorem Me108_c : EO Me108 := eo (l := [Me8]) smZ_ok ⟨Me8_c, trivial⟩ Me108_k
def Me109 : Ent := ⟨226, [vB 85 0x313a3023313a3723313a3023313a3023313a3123313a302331323a313a3123313a3223313a33235d303a5d33383a33343a313a3023303a5d303a5d32303a313a3023313a3023313a3023313a3023313a30235d5d2c, vI 2], 10, [], .tuple #[.agg #[vI 1, vI 0, v0, .slice none 0 0], vI 4, vI 0], [], 12, [], false⟩
-- COST 128
theorem Me109_k : chk smZ [Me8] Me109 = true := by kernel_rfl
theorem Me109_c : EO Me109 := eo (l := [Me8]) smZ_ok ⟨Me8_c, trivial⟩ Me109_k
def Me110 : Ent := ⟨226, [vB 81 0x313a3723313a3023313a3023313a3123313a302331323a313a3123313a3223313a33235d303a5d33383a33343a313a3023303a5d303a5d32303a313a3023313a3023313a3023313a3023313a30235d5d2c, vI 2], 10, [], .tuple #[.agg #[vI 1, vI 7, v0, .slice none 0 0], vI 4, vI 0], [], 14, [], false⟩
-- COST 345
theorem Me110_k : chk smZ [] Me110 = true := by kernel_rfl
theorem Me110_c : EO Me110 := eo (l := []) smZ_ok trivial Me110_k
def Me111 : Ent := ⟨226, [vB 77 0x313a3023313a3023313a3123313a302331323a313a3123313a3223313a33235d303a5d33383a33343a313a3023303a5d303a5d32303a313a3023313a3023313a3023313a3023313a30235d5d2c, vI 2], 10, [], .tuple #[.agg #[vI 1, vI 0, v0, .slice none 0 0], vI 4, vI 0], [], 12, [], false⟩
-- COST 128
theorem Me111_k : chk smZ [Me8] Me111 = true := by kernel_rfl
theorem Me111_c : EO Me111 := eo (l := [Me8]) smZ_ok ⟨Me8_c, trivial⟩ Me111_k
def Me112 : Ent := ⟨226, [vB 73 0x313a3023313a3123313a302331323a313a3123313a3223313a33235d303a5d33383a33343a313a3023303a5d303a5d32303a313a3023313a3023313a3023313a3023313a30235d5d2c, vI 2], 10, [], .tuple #[.agg #[vI 1, vI 0, v0, .slice none 0 0], vI 4, vI 0], [], 12, [], false⟩
-- COST 128
theorem Me112_k : chk smZ [Me8] Me112 = true := by kernel_rfl
theorem Me112_c : EO Me112 := eo (l := [Me8]) smZ_ok ⟨Me8_c, trivial⟩ Me112_k
def Me113 : Ent := ⟨226, [vB 69 0x313a3123313a302331323a313a3123313a3223313a33235d303a5d33383a33343a313a3023303a5d303a5d32303a313a3023313a3023313a3023313a3023313a30235d5d2c, vI 2], 10, [], .tuple #[.agg #[vI 1, vI 1, v0, .slice none 0 0], vI 4, vI 0], [], 12, [], false⟩
-- COST 128
theorem Me113_k : chk smZ [Me7] Me113 = true := by kernel_rfl
theorem Me113_c : EO Me113 := eo (l := [Me7]) smZ_ok ⟨Me7_c, trivial⟩ Me113_k
def Me114 : Ent := ⟨226, [vB 65 0x313a302331323a313a3123313a3223313a33235d303a5d33383a33343a313a3023303a5d303a5d32303a313a3023313a3023313a3023313a3023313a30235d5d2c, vI 2], 10, [], .tuple #[.agg #[vI 1, vI 0, v0, .slice none 0 0], vI 4, vI 0], [], 12, [], false⟩
-- COST 128
theorem Me114_k : chk smZ [Me8] Me114 = true := by kernel_rfl
theorem Me114_c : EO Me114 := eo (l := [Me8]) smZ_ok ⟨Me8_c, trivial⟩ Me114_k
def Me115 : Ent := ⟨312, [vB 61 0x31323a313a3123313a3223313a33235d303a5d33383a33343a313a3023303a5d303a5d32303a313a3023313a3023313a3023313a3023313a30235d5d2c], 10, [], .tuple #[vI 12, vI 3, vI 0], [], 10, [], false⟩
-- COST 111
theorem Me115_k : chk smZ [] Me115 = true := by kernel_rfl
theorem Me115_c : EO Me115 := eo (l := []) smZ_ok trivial Me115_k
def Me116 : Ent := ⟨226, [vB 12 0x313a3123313a3223313a3323, vI 3], 10, [], .tuple #[.agg #[vI 1, vI 1, v0, .slice none 0 0], vI 4, vI 0], [], 12, [], false⟩
-- COST 128
theorem Me116_k : chk smZ [Me7] Me116 = true := by kernel_rfl
theorem Me116_c : EO Me116 := eo (l := [Me7]) smZ_ok ⟨Me7_c, trivial⟩ Me116_k
def Me117 : Ent := ⟨226, [vB 8 0x313a3223313a3323, vI 3], 10, [], .tuple #[.agg #[vI 1, vI 2, v0, .slice none 0 0], vI 4, vI 0], [], 12, [], false⟩
-- COST 128
theorem Me117_k : chk smZ [Me17] Me117 = true := by kernel_rfl
theorem Me117_c : EO Me117 := eo (l := [Me17]) smZ_ok ⟨Me17_c, trivial⟩ Me117_k
def Me118 : Ent := ⟨226, [vB 4 0x313a3323, vI 3], 10, [], .tuple #[.agg #[vI 1, vI 3, v0, .slice none 0 0], vI 4, vI 0], [], 12, [], false⟩
-- COST 128
theorem Me118_k : chk smZ [Me39] Me118 = true := by kernel_rfl
theorem Me118_c : EO Me118 := eo (l := [Me39]) smZ_ok ⟨Me39_c, trivial⟩ Me118_k
def Me121 : Ent := ⟨143, [.agg #[vI 1, vB 1 0x6b, vB 1 0x76, vI 0, vI 0, v0, vI 12884901889, vI 12884901889]], 10, [], .bool true, [], 11, [], false⟩
-- COST 140
theorem Me121_k : chk smZ [] Me121 = true := by kernel_rfl
theorem Me121_c : EO Me121 := eo (l := []) smZ_ok trivial Me121_k
def Me122 : Ent := ⟨252, [.agg #[vI 1, vI 12884901889, v0, .slice none 0 0]], 10, [(1, Mq0)], vB 15 0x31313a313238383439303138383923, [], 12, [], false⟩
-- COST 268
theorem Me122_k : chk smZ [] Me122 = true := by kernel_rfl
theorem Me122_c : EO Me122 := eo (l := []) smZ_ok trivial Me122_k
def Me123 : Ent := ⟨178, [vI 150], 10, [(1, Mq0)], vB 3 0x313530, [], 11, [], false⟩
-- COST 119
theorem Me123_k : chk smZ [] Me123 = true := by kernel_rfl
theorem Me123_c : EO Me123 := eo (l := []) smZ_ok trivial Me123_k
def Me141 : Ent := ⟨226, [vB 138 0x313a3123313a3023313a3023313a3023313a3023313a3023313a3023313a3023303a5d35373a35333a313a3123313a6b2c313a762c313a3023313a3023303a2c31313a31323838343930313838392331313a3132383834393031383839235d5d33383a33343a313a3023303a5d303a5d32303a313a3023313a3023313a3023313a3023313a30235d5d2c, vI 2], 10, [], .tuple #[.agg #[vI 1, vI 1, v0, .slice none 0 0], vI 4, vI 0], [], 12, [], false⟩
-- COST 128
theorem Me141_k : chk smZ [Me7] Me141 = true := by kernel_rfl
theorem Me141_c : EO Me141 := eo (l := [Me7]) smZ_ok ⟨Me7_c, trivial⟩ Me141_k
def Me142 : Ent := ⟨226, [vB 134 0x313a3023313a3023313a3023313a3023313a3023313a3023313a3023303a5d35373a35333a313a3123313a6b2c313a762c313a3023313a3023303a2c31313a31323838343930313838392331313a3132383834393031383839235d5d33383a33343a313a3023303a5d303a5d32303a313a3023313a3023313a3023313a3023313a30235d5d2c, vI 2], 10, [], .tuple #[.agg #[vI 1, vI 0, v0, .slice none 0 0], vI 4, vI 0], [], 12, [], false⟩
-- COST 128
theorem Me142_k : chk smZ [Me8] Me142 = true := by kernel_rfl
theorem Me142_c : EO Me142 := eo (l := [Me8]) smZ_ok ⟨Me8_c, trivial⟩ Me142_k
def Me143 : Ent := ⟨226, [vB 130 0x313a3023313a3023313a3023313a3023313a3023313a3023303a5d35373a35333a313a3123313a6b2c313a762c313a3023313a3023303a2c31313a31323838343930313838392331313a3132383834393031383839235d5d33383a33343a313a3023303a5d303a5d32303a313a3023313a3023313a3023313a3023313a30235d5d2c, vI 2], 10, [], .tuple #[.agg #[vI 1, vI 0, v0, .slice none 0 0], vI 4, vI 0], [], 12, [], false⟩
-- COST 128
theorem Me143_k : chk smZ [Me8] Me143 = true := by kernel_rfl
theorem Me143_c : EO Me143 := eo (l := [Me8]) smZ_ok ⟨Me8_c, trivial⟩ Me143_k
def Me144 : Ent := ⟨226, [vB 126 0x313a3023313a3023313a3023313a3023313a3023303a5d35373a35333a313a3123313a6b2c313a762c313a3023313a3023303a2c31313a31323838343930313838392331313a3132383834393031383839235d5d33383a33343a313a3023303a5d303a5d32303a313a3023313a3023313a3023313a3023313a30235d5d2c, vI 2], 10, [], .tuple #[.agg #[vI 1, vI 0, v0, .slice none 0 0], vI 4, vI 0], [], 12, [], false⟩
-- COST 128
theorem Me144_k : chk smZ [Me8] Me144 = true := by kernel_rfl
theorem Me144_c : EO Me144 := eo (l := [Me8]) smZ_ok ⟨Me8_c, trivial⟩ Me144_k
def Me145 : Ent := ⟨226, [vB 122 0x313a3023313a3023313a3023313a3023303a5d35373a35333a313a3123313a6b2c313a762c313a3023313a3023303a2c31313a31323838343930313838392331313a3132383834393031383839235d5d33383a33343a313a3023303a5d303a5d32303a313a3023313a3023313a3023313a3023313a30235d5d2c, vI 2], 10, [], .tuple #[.agg #[vI 1, vI 0, v0, .slice none 0 0], vI 4, vI 0], [], 12, [], false⟩
-- COST 128
theorem Me145_k : chk smZ [Me8] Me145 = true := by kernel_rfl
theorem Me145_c : EO Me145 := eo (l := [Me8]) smZ_ok ⟨Me8_c, trivial⟩ Me145_k
def Me146 : Ent := ⟨226, [vB 118 0x313a3023313a3023313a3023303a5d35373a35333a313a3123313a6b2c313a762c313a3023313a3023303a2c31313a31323838343930313838392331313a3132383834393031383839235d5d33383a33343a313a3023303a5d303a5d32303a313a3023313a3023313a3023313a3023313a30235d5d2c, vI 2], 10, [], .tuple #[.agg #[vI 1, vI 0, v0, .slice none 0 0], vI 4, vI 0], [], 12, [], false⟩
-- COST 128
theorem Me146_k : chk smZ [Me8] Me146 = true := by kernel_rfl
theorem Me146_c : EO Me146 := eo (l := [Me8]) smZ_ok ⟨Me8_c, trivial⟩ Me146_k
def Me147 : Ent := ⟨226, [vB 114 0x313a3023313a3023303a5d35373a35333a313a3123313a6b2c313a762c313a3023313a3023303a2c31313a31323838343930313838392331313a3132383834393031383839235d5d33383a33343a313a3023303a5d303a5d32303a313a3023313a3023313a3023313a3023313a30235d5d2c, vI 2], 10, [], .tuple #[.agg #[vI 1, vI 0, v0, .slice none 0 0], vI 4, vI 0], [], 12, [], false⟩
-- COST 128
theorem Me147_k : chk smZ [Me8] Me147 = true := by kernel_rfl
theorem Me147_c : EO Me147 := eo (l := [Me8]) smZ_ok ⟨Me8_c, trivial⟩ Me147_k
def Me148 : Ent := ⟨226, [vB 110 0x313a3023303a5d35373a35333a313a3123313a6b2c313a762c313a3023313a3023303a2c31313a31323838343930313838392331313a3132383834393031383839235d5d33383a33343a313a3023303a5d303a5d32303a313a3023313a3023313a3023313a3023313a30235d5d2c, vI 2], 10, [], .tuple #[.agg #[vI 1, vI 0, v0, .slice none 0 0], vI 4, vI 0], [], 12, [], false⟩
-- COST 128
theorem Me148_k : chk smZ [Me8] Me148 = true := by kernel_rfl
theorem Me148_c : EO Me148 := eo (l := [Me8]) smZ_ok ⟨Me8_c, trivial⟩ Me148_k
def Me149 : Ent := ⟨226, [vB 106 0x303a5d35373a35333a313a3123313a6b2c313a762c313a3023313a3023303a2c31313a31323838343930313838392331313a3132383834393031383839235d5d33383a33343a313a3023303a5d303a5d32303a313a3023313a3023313a3023313a3023313a30235d5d2c, vI 2], 10, [], .tuple #[.agg #[vI 3, vI 0, v0, .slice none 0 0], vI 3, vI 0], [], 14, [], false⟩
-- COST 151
theorem Me149_k : chk smZ [] Me149 = true := by kernel_rfl
theorem Me149_c : EO Me149 := eo (l := []) smZ_ok trivial Me149_k
def Me150 : Ent := ⟨226, [vB 53 0x313a3123313a6b2c313a762c313a3023313a3023303a2c31313a31323838343930313838392331313a313238383439303138383923, vI 4], 10, [], .tuple #[.agg #[vI 1, vI 1, v0, .slice none 0 0], vI 4, vI 0], [], 12, [], false⟩
-- COST 128
theorem Me150_k : chk smZ [Me7] Me150 = true := by kernel_rfl
theorem Me150_c : EO Me150 := eo (l := [Me7]) smZ_ok ⟨Me7_c, trivial⟩ Me150_k
def Me151 : Ent := ⟨226, [vB 41 0x313a3023313a3023303a2c31313a31323838343930313838392331313a313238383439303138383923, vI 4], 10, [], .tuple #[.agg #[vI 1, vI 0, v0, .slice none 0 0], vI 4, vI 0], [], 12, [], false⟩
-- COST 128
theorem Me151_k : chk smZ [Me8] Me151 = true := by kernel_rfl
theorem Me151_c : EO Me151 := eo (l := [Me8]) smZ_ok ⟨Me8_c, trivial⟩ Me151_k
def Me152 : Ent := ⟨226, [vB 37 0x313a3023303a2c31313a31323838343930313838392331313a313238383439303138383923, vI 4], 10, [], .tuple #[.agg #[vI 1, vI 0, v0, .slice none 0 0], vI 4, vI 0], [], 12, [], false⟩
-- COST 128
theorem Me152_k : chk smZ [Me8] Me152 = true := by kernel_rfl
theorem Me152_c : EO Me152 := eo (l := [Me8]) smZ_ok ⟨Me8_c, trivial⟩ Me152_k
def Me153 : Ent := ⟨313, [vB 11 0x3132383834393031383839], 10, [(1, Mq0)], .tuple #[.agg #[vI 1, vI 12884901889, v0, .slice none 0 0], vI 0], [], 13, [], false⟩
-- COST 906
theorem Me153_k : chk smZ [] Me153 = true := by kernel_rfl
theorem Me153_c : EO Me153 := eo (l := []) smZ_ok trivial Me153_k
def Me154 : Ent := ⟨226, [vB 30 0x31313a31323838343930313838392331313a313238383439303138383923, vI 4], 10, [(1, Mq0)], .tuple #[.agg #[vI 1, vI 12884901889, v0, .slice none 0 0], vI 15, vI 0], [], 12, [], false⟩
-- COST 171
theorem Me154_k : chk smZ [Me153] Me154 = true := by kernel_rfl
theorem Me154_c : EO Me154 := eo (l := [Me153]) smZ_ok ⟨Me153_c, trivial⟩ Me154_k
def Me155 : Ent := ⟨226, [vB 15 0x31313a313238383439303138383923, vI 4], 10, [(1, Mq0)], .tuple #[.agg #[vI 1, vI 12884901889, v0, .slice none 0 0], vI 15, vI 0], [], 12, [], false⟩
-- COST 170
theorem Me155_k : chk smZ [Me153] Me155 = true := by kernel_rfl
theorem Me155_c : EO Me155 := eo (l := [Me153]) smZ_ok ⟨Me153_c, trivial⟩ Me155_k
def Me156 : Ent := ⟨149, [vB 65 0x36313a313a312335333a313a3123313a6b2c313a762c313a3023313a3023303a2c31313a31323838343930313838392331313a3132383834393031383839235d5d], 10, [(1, Mq0), (2, Mq1), (5, Mq2), (6, Mq2)], vB 77 0x346435363638333036353a36313a313a312335333a313a3123313a6b2c313a762c313a3023313a3023303a2c31313a31323838343930313838392331313a3132383834393031383839235d5d2c, [], 31, [], false⟩
-- COST 382
theorem Me156_k : chk smZ [] Me156 = true := by kernel_rfl
theorem Me156_c : EO Me156 := eo (l := []) smZ_ok trivial Me156_k
def Me158 : Ent := ⟨110, [.complex .f64 4673434866321195008 4674554993791991808], 10, [], vB 8 0x3664383137643663, [], 26, [], false⟩
-- COST 250
theorem Me158_k : chk smZ [] Me158 = true := by kernel_rfl
theorem Me158_c : EO Me158 := eo (l := []) smZ_ok trivial Me158_k
def Me160 : Ent := ⟨108, [.agg #[vI 6, vI 3, vI 2, vI 1, vI 1, vI 0, vI 0, vI 0, vI 0, vI 0, .slice none 0 0, vI 0, .slice none 0 0, vI 0, .slice none 0 0, .slice none 0 0, vI 0, vI 0, vI 0, vI 0, vI 0]], 10, [], .bool true, [], 14, [], false⟩
-- COST 261
theorem Me160_k : chk smZ [Me13] Me160 = true := by kernel_rfl
theorem Me160_c : EO Me160 := eo (l := [Me13]) smZ_ok ⟨Me13_c, trivial⟩ Me160_k
def Me161 : Ent := ⟨64, [.agg #[vI 6, vI 3, vI 2, vI 1, vI 1, vI 0, vI 0, vI 0, vI 0, vI 0, .slice none 0 0, vI 0, .slice none 0 0, vI 0, .slice none 0 0, .slice none 0 0, vI 0, vI 0, vI 0, vI 0, vI 0]], 10, [(1, Mq0), (2, Mq1), (5, Mq2), (6, Mq2)], vB 104 0x386263363734666239323a313a3623313a3323313a3223313a3123313a3123313a3023313a3023313a3023313a3023313a3023313a3023303a5d303a5d33383a33343a313a3023303a5d303a5d32303a313a3023313a3023313a3023313a3023313a30235d5d2c5d, [], 117, [], false⟩
-- COST 1852
theorem Me161_k : chk smZ [Me160, Me48, Me46, Me50, Me47, Me4, Me1, Me15, Me31] Me161 = true := by kernel_rfl
theorem Me161_c : EO Me161 := eo (l := [Me160, Me48, Me46, Me50, Me47, Me4, Me1, Me15, Me31]) smZ_ok ⟨Me160_c, Me48_c, Me46_c, Me50_c, Me47_c, Me4_c, Me1_c, Me15_c, Me31_c, trivial⟩ Me161_k
def Me162 : Ent := ⟨63, [vB 104 0x386263363734666239323a313a3623313a3323313a3223313a3123313a3123313a3023313a3023313a3023313a3023313a3023313a3023303a5d303a5d33383a33343a313a3023303a5d303a5d32303a313a3023313a3023313a3023313a3023313a30235d5d2c5d], 10, [(1, Mq0), (2, Mq1), (5, Mq2), (6, Mq2)], .tuple #[.agg #[vI 6, vI 3, vI 2, vI 1, vI 1, vI 0, vI 0, vI 0, vI 0, vI 0, .slice none 0 0, vI 0, .slice none 0 0, vI 0, .slice none 0 0, .slice none 0 0, vI 0, vI 0, vI 0, vI 0, vI 0], vI 0], [], 106, [], false⟩
-- COST 2350
theorem Me162_k : chk smZ [Me161, Me55, Me68, Me67, Me66, Me65, Me64, Me63, Me62, Me61, Me39, Me17, Me7, Me46, Me56] Me162 = true := by kernel_rfl
theorem Me162_c : EO Me162 := eo (l := [Me161, Me55, Me68, Me67, Me66, Me65, Me64, Me63, Me62, Me61, Me39, Me17, Me7, Me46, Me56]) smZ_ok ⟨Me161_c, Me55_c, Me68_c, Me67_c, Me66_c, Me65_c, Me64_c, Me63_c, Me62_c, Me61_c, Me39_c, Me17_c, Me7_c, Me46_c, Me56_c, trivial⟩ Me162_k
def Me163 : Ent := ⟨108, [.agg #[vI 6, vI 2, vI 1, vI 1, vI 1, vI 0, vI 0, vI 0, vI 0, vI 0, .slice none 0 0, vI 0, .slice none 0 0, vI 0, .slice none 0 0, .slice none 0 0, vI 0, vI 0, vI 0, vI 0, vI 0]], 10, [], .bool true, [], 14, [], false⟩
-- COST 261
theorem Me163_k : chk smZ [Me13] Me163 = true := by kernel_rfl
theorem Me163_c : EO Me163 := eo (l := [Me13]) smZ_ok ⟨Me13_c, trivial⟩ Me163_k
def Me164 : Ent := ⟨64, [.agg #[vI 6, vI 2, vI 1, vI 1, vI 1, vI 0, vI 0, vI 0, vI 0, vI 0, .slice none 0 0, vI 0, .slice none 0 0, vI 0, .slice none 0 0, .slice none 0 0, vI 0, vI 0, vI 0, vI 0, vI 0]], 10, [(1, Mq0), (2, Mq1), (5, Mq2), (6, Mq2)], vB 104 0x396232656634643339323a313a3623313a3223313a3123313a3123313a3123313a3023313a3023313a3023313a3023313a3023313a3023303a5d303a5d33383a33343a313a3023303a5d303a5d32303a313a3023313a3023313a3023313a3023313a30235d5d2c5d, [], 117, [], false⟩
-- COST 1852
theorem Me164_k : chk smZ [Me163, Me48, Me46, Me50, Me47, Me4, Me1, Me15] Me164 = true := by kernel_rfl
theorem Me164_c : EO Me164 := eo (l := [Me163, Me48, Me46, Me50, Me47, Me4, Me1, Me15]) smZ_ok ⟨Me163_c, Me48_c, Me46_c, Me50_c, Me47_c, Me4_c, Me1_c, Me15_c, trivial⟩ Me164_k
def Me166 : Ent := ⟨64, [.agg #[vI 1, vI 1, vI 0, vI 1, vI 0, vI 0, vI 0, vI 0, vI 0, vI 0, .slice none 0 0, vI 0, .slice none 0 0, vI 0, .slice none 0 0, .slice none 0 0, vI 0, vI 0, vI 0, vI 0, vI 0]], 10, [(1, Mq0), (2, Mq1), (5, Mq2), (6, Mq2)], vB 104 0x316531333833363439323a313a3123313a3123313a3023313a3123313a3023313a3023313a3023313a3023313a3023313a3023313a3023303a5d303a5d33383a33343a313a3023303a5d303a5d32303a313a3023313a3023313a3023313a3023313a30235d5d2c5d, [], 120, [], false⟩
-- COST 2032
theorem Me166_k : chk smZ [Me13, Me48, Me46, Me50, Me47, Me4, Me1] Me166 = true := by kernel_rfl
theorem Me166_c : EO Me166 := eo (l := [Me13, Me48, Me46, Me50, Me47, Me4, Me1]) smZ_ok ⟨Me13_c, Me48_c, Me46_c, Me50_c, Me47_c, Me4_c, Me1_c, trivial⟩ Me166_k
def Me167 : Ent := ⟨64, [.agg #[vI 1, vI 2, vI 0, vI 1, vI 0, vI 0, vI 0, vI 0, vI 0, vI 0, .slice none 0 0, vI 0, .slice none 0 0, vI 0, .slice none 0 0, .slice none 0 0, vI 0, vI 0, vI 0, vI 0, vI 0]], 10, [(1, Mq0), (2, Mq1), (5, Mq2), (6, Mq2)], vB 104 0x383034356432346139323a313a3123313a3223313a3023313a3123313a3023313a3023313a3023313a3023313a3023313a3023313a3023303a5d303a5d33383a33343a313a3023303a5d303a5d32303a313a3023313a3023313a3023313a3023313a30235d5d2c5d, [], 120, [], false⟩
-- COST 2033
theorem Me167_k : chk smZ [Me13, Me48, Me46, Me50, Me47, Me4, Me15, Me1] Me167 = true := by kernel_rfl
theorem Me167_c : EO Me167 := eo (l := [Me13, Me48, Me46, Me50, Me47, Me4, Me15, Me1]) smZ_ok ⟨Me13_c, Me48_c, Me46_c, Me50_c, Me47_c, Me4_c, Me15_c, Me1_c, trivial⟩ Me167_k
def Me168 : Ent := ⟨64, [.agg #[vI 1, vI 3, vI 0, vI 1, vI 0, vI 0, vI 0, vI 0, vI 0, vI 0, .slice none 0 0, vI 0, .slice none 0 0, vI 0, .slice none 0 0, .slice none 0 0, vI 0, vI 0, vI 0, vI 0, vI 0]], 10, [(1, Mq0), (2, Mq1), (5, Mq2), (6, Mq2)], vB 104 0x653237373231336639323a313a3123313a3323313a3023313a3123313a3023313a3023313a3023313a3023313a3023313a3023313a3023303a5d303a5d33383a33343a313a3023303a5d303a5d32303a313a3023313a3023313a3023313a3023313a30235d5d2c5d, [], 120, [], false⟩
-- COST 2033
theorem Me168_k : chk smZ [Me13, Me48, Me46, Me50, Me47, Me4, Me31, Me1] Me168 = true := by kernel_rfl
theorem Me168_c : EO Me168 := eo (l := [Me13, Me48, Me46, Me50, Me47, Me4, Me31, Me1]) smZ_ok ⟨Me13_c, Me48_c, Me46_c, Me50_c, Me47_c, Me4_c, Me31_c, Me1_c, trivial⟩ Me168_k
def Me202 : Ent := ⟨226, [vB 84 0x313a3023313a3123313a3023313a3023313a3023313a3023313a3023313a3023313a3023303a5d303a5d33383a33343a313a3023303a5d303a5d32303a313a3023313a3023313a3023313a3023313a30235d5d2c, vI 2], 10, [], .tuple #[.agg #[vI 1, vI 0, v0, .slice none 0 0], vI 4, vI 0], [], 12, [], false⟩
-- COST 128
theorem Me202_k : chk smZ [Me8] Me202 = true := by kernel_rfl
theorem Me202_c : EO Me202 := eo (l := [Me8]) smZ_ok ⟨Me8_c, trivial⟩ Me202_k
def Me203 : Ent := ⟨226, [vB 80 0x313a3123313a3023313a3023313a3023313a3023313a3023313a3023313a3023303a5d303a5d33383a33343a313a3023303a5d303a5d32303a313a3023313a3023313a3023313a3023313a30235d5d2c, vI 2], 10, [], .tuple #[.agg #[vI 1, vI 1, v0, .slice none 0 0], vI 4, vI 0], [], 12, [], false⟩
-- COST 128
theorem Me203_k : chk smZ [Me7] Me203 = true := by kernel_rfl
theorem Me203_c : EO Me203 := eo (l := [Me7]) smZ_ok ⟨Me7_c, trivial⟩ Me203_k
def Me204 : Ent := ⟨252, [.agg #[vI 1, vI 8, v0, .slice none 0 0]], 10, [], vB 4 0x313a3823, [], 11, [], false⟩
-- COST 77
theorem Me204_k : chk smZ [] Me204 = true := by kernel_rfl
theorem Me204_c : EO Me204 := eo (l := []) smZ_ok trivial Me204_k
def Me205 : Ent := ⟨226, [vB 93 0x313a3023313a3023313a3023313a3823313a3023313a3023313a3123313a302331323a313a3123313a3223313a33235d303a5d33383a33343a313a3023303a5d303a5d32303a313a3023313a3023313a3023313a3023313a30235d5d2c, vI 2], 10, [], .tuple #[.agg #[vI 1, vI 0, v0, .slice none 0 0], vI 4, vI 0], [], 12, [], false⟩
-- COST 128
theorem Me205_k : chk smZ [Me8] Me205 = true := by kernel_rfl
theorem Me205_c : EO Me205 := eo (l := [Me8]) smZ_ok ⟨Me8_c, trivial⟩ Me205_k
def Me206 : Ent := ⟨226, [vB 89 0x313a3023313a3023313a3823313a3023313a3023313a3123313a302331323a313a3123313a3223313a33235d303a5d33383a33343a313a3023303a5d303a5d32303a313a3023313a3023313a3023313a3023313a30235d5d2c, vI 2], 10, [], .tuple #[.agg #[vI 1, vI 0, v0, .slice none 0 0], vI 4, vI 0], [], 12, [], false⟩
-- COST 128
theorem Me206_k : chk smZ [Me8] Me206 = true := by kernel_rfl
theorem Me206_c : EO Me206 := eo (l := [Me8]) smZ_ok ⟨Me8_c, trivial⟩ Me206_k
def Me207 : Ent := ⟨226, [vB 85 0x313a3023313a3823313a3023313a3023313a3123313a302331323a313a3123313a3223313a33235d303a5d33383a33343a313a3023303a5d303a5d32303a313a3023313a3023313a3023313a3023313a30235d5d2c, vI 2], 10, [], .tuple #[.agg #[vI 1, vI 0, v0, .slice none 0 0], vI 4, vI 0], [], 12, [], false⟩
-- COST 128
theorem Me207_k : chk smZ [Me8] Me207 = true := by kernel_rfl
theorem Me207_c : EO Me207 := eo (l := [Me8]) smZ_ok ⟨Me8_c, trivial⟩ Me207_k
def Me208 : Ent := ⟨226, [vB 81 0x313a3823313a3023313a3023313a3123313a302331323a313a3123313a3223313a33235d303a5d33383a33343a313a3023303a5d303a5d32303a313a3023313a3023313a3023313a3023313a30235d5d2c, vI 2], 10, [], .tuple #[.agg #[vI 1, vI 8, v0, .slice none 0 0], vI 4, vI 0], [], 14, [], false⟩
-- COST 345
theorem Me208_k : chk smZ [] Me208 = true := by kernel_rfl
theorem Me208_c : EO Me208 := eo (l := []) smZ_ok trivial Me208_k
end
end Go.Proofs.YtikedhemjoljpaaGreatDoor

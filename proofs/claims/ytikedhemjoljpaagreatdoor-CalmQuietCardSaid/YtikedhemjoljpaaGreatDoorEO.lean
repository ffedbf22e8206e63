/-
  A closed run, cut into calls that are run by themselves. No condition.
-/
import Derived.Test.YtikedhemjoljpaaGreatDoorEA
import Derived.Test.YtikedhemjoljpaaGreatDoorEB
import Derived.Test.YtikedhemjoljpaaGreatDoorEC
import Derived.Test.YtikedhemjoljpaaGreatDoorED
import Derived.Test.YtikedhemjoljpaaGreatDoorEG
import Derived.Test.YtikedhemjoljpaaGreatDoorEJ
import Derived.Test.YtikedhemjoljpaaGreatDoorEK
import Derived.Test.YtikedhemjoljpaaGreatDoorEL
import Derived.Test.YtikedhemjoljpaaGreatDoorEM
import Derived.Test.YtikedhemjoljpaaGreatDoorEM0
import Derived.Test.YtikedhemjoljpaaGreatDoorEM1
import Derived.Test.YtikedhemjoljpaaGreatDoorEN
import Derived.Test.YtikedhemjoljpaaGreatDoorEOp0
namespace Go.Proofs.YtikedhemjoljpaaGreatDoor
noncomputable section
open Go Go.Eng
set_option maxRecDepth 1000000
def Oq104 : AO := oR [vI 0, .slice none 0 0, .slice none 0 0, vI 0, vI 0, vI 0, vI 0, vI 0, vI 1, vU 4258 0 1, vU 4260 0 1, vI 0, vI 0, vI 12884901889, vI 0, vI 0] 60
def Oe184 : Ent := ⟨68, [vP 188 0], 4241, [(1, Oq0), (11, Oq4), (12, Oq94), (49, Oq37), (121, Oq20), (136, Oq81), (139, Oq41), (140, Oq29), (157, Oq83), (160, Oq44), (161, Oq33), (178, Oq85), (181, Oq18), (182, Oq50), (186, Oq95), (187, Oq46), (188, Oq102), (1092, Oq20), (1393, Oq20), (1678, Oq20), (1749, Oq98), (1753, Oq97), (1754, Oq87), (2035, Oq60), (3810, Oq88), (3812, Oq89), (3815, Oq90), (3947, Oq88), (3949, Oq92), (3952, Oq90), (4139, Oq88), (4141, Oq93), (4144, Oq90)], .tuple #[], [(186, some Oq95), (188, some Oq99), (1749, some Oq100), (1753, some Oq97), (2035, none), (4258, some Oq103), (4260, some Oq90), (4262, some Oq88), (4265, some Oq104), (4317, some Oq101)], 4320, [186, 188, 1749, 1753, 2035], true⟩
-- COST 25005
theorem Oe184_k : chk smO [Oe183, Oe182, Oe181, Oe180, Oe179, Oe178, Oe177, Oe176, Oe175, Oe174, Oe173, Oe172, Oe171, Oe170, Oe169] Oe184 = true := by kernel_rfl
theorem Oe184_c : EO Oe184 := eo (l := [Oe183, Oe182, Oe181, Oe180, Oe179, Oe178, Oe177, Oe176, Oe175, Oe174, Oe173, Oe172, Oe171, Oe170, Oe169]) smO_ok ⟨Oe183_c, Oe182_c, Oe181_c, Oe180_c, Oe179_c, Oe178_c, Oe177_c, Oe176_c, Oe175_c, Oe174_c, Oe173_c, Oe172_c, Oe171_c, Oe170_c, Oe169_c, trivial⟩ Oe184_k
def Oq105 : AO := oR [vI 2, vP 24 0, vP 160 0, vN, vP 4338 0, vN, vN, vN, vN, vN, vN, vI 1] 134
def Oq106 : AO := .mp [(.agg #[vI 1, vI 0], v0), (.agg #[vI 1, vI 1], v0), (.agg #[vI 1, vI 2], v0), (.agg #[vI 1, vI 3], v0), (.agg #[vI 1, vI 4], v0), (.agg #[vI 1, vI 5], v0), (.agg #[vI 1, vI 6], v0), (.agg #[vI 1, vI 7], v0), (.agg #[vI 2, vI 0], v0), (.agg #[vI 2, vI 1], vB 69 0x485454502f312e3120323030204f4b0d0a455461673a20223030373230303033220d0a56657273696f6e3a20310d0a436f6e74656e742d4c656e6774683a20310d0a0d0a76), (.agg #[vI 2, vI 2], v0), (.agg #[vI 2, vI 3], v0), (.agg #[vI 2, vI 4], v0), (.agg #[vI 2, vI 5], v0), (.agg #[vI 2, vI 6], v0), (.agg #[vI 2, vI 7], v0), (.agg #[vI 3, vI 0], vB 68 0x485454502f312e3120323030204f4b0d0a56657273696f6e3a20310d0a455461673a20223030373230303033220d0a436f6e74656e742d4c656e6774683a20300d0a0d0a), (.agg #[vI 3, vI 1], v0), (.agg #[vI 3, vI 2], v0), (.agg #[vI 3, vI 3], v0), (.agg #[vI 3, vI 4], v0), (.agg #[vI 3, vI 5], v0), (.agg #[vI 3, vI 6], v0), (.agg #[vI 3, vI 7], v0), (.agg #[vI 4, vI 0], v0), (.agg #[vI 4, vI 1], v0), (.agg #[vI 4, vI 2], v0), (.agg #[vI 4, vI 3], v0), (.agg #[vI 4, vI 4], v0), (.agg #[vI 4, vI 5], v0), (.agg #[vI 4, vI 6], v0), (.agg #[vI 4, vI 7], v0), (.agg #[vI 5, vI 0], v0), (.agg #[vI 5, vI 1], v0), (.agg #[vI 5, vI 2], v0), (.agg #[vI 5, vI 3], v0), (.agg #[vI 5, vI 4], v0), (.agg #[vI 5, vI 5], v0), (.agg #[vI 5, vI 6], v0), (.agg #[vI 5, vI 7], v0)] (some ([0, 1, 2, 3, 4, 5, 6, 7, 8, 9, 10, 11, 12, 13, 14, 15, 16, 17, 18, 19, 20, 21, 22, 23, 24, 25, 26, 27, 28, 29, 30, 31, 32, 33, 34, 35, 36, 37, 38, 39], 40))
def Oq107 : AO := oR [vP 187 0, vU 4333 0 2, vU 4265 0 2, vI 1, vI 2, .bool false, vI 0, vI 0, vI 0, vI 0, vI 0, vI 0, vI 0, vI 0, vI 0, vI 0, vI 0, vI 0, vI 0, vI 0, vI 0, vI 0, vI 0, vI 0, vI 0, vI 0, vI 0, vI 0, vI 0, vI 0, vI 68, vI 0, vI 0, vI 0, vI 0, vI 0, vI 0, vI 0, vI 0, vI 0, vI 0, vI 0, vI 0, vI 0, vI 0, vI 0, vI 0, vI 0, vI 0, vI 0, vI 0, vI 0, vI 0, vI 0] 76
def Oq108 : AO := oR [vI 3, vI 0, vI 2, vB 1 0x6b, vI 0, vB 1 0x76, vI 0, v0, v0, v0, vI 0, .bool false, vI 0, vI 1, vI 200, vU 4317 0 2, v0, vI 2, vI 1, vI 1, vB 1 0x6b, vI 0, v0, vI 0, v0, v0, v0, vI 0, .bool false, vI 2, vI (-1), vI 0, .slice none 0 0, v0] 86
def Oq109 : AO := oR [vP 4336 0, .slice (some ⟨4357, 5, some 0⟩) 0 9223372036854775808, vI 0, v0, vI 0, v0, vI 0, v0, v0, v0, vI 0, .bool false, .bool false, v0, .bool false] 207
def Oq110 : AO := oR [vP 4337 0, vI 0, vI 0, v0, v0, vI 0, vI 0, v0, vI 0, vI 0, .bool false, vI 0] 140
def Oq111 : AO := oR [vP 187 0, vU 4333 0 2, vU 4265 0 2, vI 1, vI 2, .bool false, vI 0, vI 0, vI 0, vI 0, vI 0, vI 0, vI 0, vI 0, vI 0, vI 0, vI 0, vI 0, vI 0, vI 0, vI 0, vI 0, vI 0, vI 69, vI 0, vI 0, vI 0, vI 0, vI 0, vI 0, vI 68, vI 0, vI 0, vI 0, vI 0, vI 0, vI 0, vI 0, vI 0, vI 0, vI 0, vI 0, vI 0, vI 0, vI 0, vI 0, vI 0, vI 0, vI 0, vI 0, vI 0, vI 0, vI 0, vI 0] 76
def Oq112 : AO := oR [vI 3, vI 0, vI 2, vB 1 0x6b, vI 0, vB 1 0x76, vI 0, v0, v0, v0, vI 0, .bool false, vI 0, vI 1, vI 200, vU 4317 0 2, v0, vI 2, vI 1, vI 1, vB 1 0x6b, vI 0, v0, vI 0, v0, v0, v0, vI 0, .bool false, vI 2, vI 2, vI 200, vU 4457 0 2, vB 1 0x76] 86
def Oq113 : AO := oR [vB 4 0x45546167, vB 10 0x22303037323030303322, vB 7 0x56657273696f6e, vB 1 0x31] 202
def Oe185 : Ent := ⟨118, [vP 188 0, vI 2, vI 1], 4452, [(1, Oq0), (11, Oq4), (12, Oq94), (140, Oq29), (161, Oq105), (182, Oq50), (186, Oq106), (187, Oq46), (188, Oq107), (1753, Oq97), (1754, Oq87), (4333, Oq108), (4337, Oq109), (4338, Oq110)], .tuple #[], [(186, some Oq106), (188, some Oq111), (1753, some Oq97), (4333, some Oq112), (4337, some Oq109), (4457, some Oq113)], 4460, [186, 188, 1753, 4333, 4337], true⟩
-- COST 4514
theorem Oe185_k : chk smO [Me82, Me93, Me91, Me98, Me99] Oe185 = true := by kernel_rfl
theorem Oe185_c : EO Oe185 := eo (l := [Me82, Me93, Me91, Me98, Me99]) smO_ok ⟨Me82_c, Me93_c, Me91_c, Me98_c, Me99_c, trivial⟩ Oe185_k
def Oe186 : Ent := ⟨118, [vP 188 0, vI 2, vI 2], 4460, [(11, Oq4), (12, Oq94), (140, Oq29), (161, Oq105), (182, Oq50), (186, Oq106), (187, Oq46), (188, Oq111), (1753, Oq97), (1754, Oq87), (4337, Oq109), (4338, Oq110)], .tuple #[], [(186, some Oq106), (1753, some Oq97), (4337, some Oq109)], 4460, [186, 1753, 4337], false⟩
-- COST 2599
theorem Oe186_k : chk smO [] Oe186 = true := by kernel_rfl
theorem Oe186_c : EO Oe186 := eo (l := []) smO_ok trivial Oe186_k
def Oe187 : Ent := ⟨118, [vP 188 0, vI 2, vI 3], 4460, [(11, Oq4), (12, Oq94), (140, Oq29), (161, Oq105), (182, Oq50), (186, Oq106), (187, Oq46), (188, Oq111), (1753, Oq97), (1754, Oq87), (4337, Oq109), (4338, Oq110)], .tuple #[], [(186, some Oq106), (1753, some Oq97), (4337, some Oq109)], 4460, [186, 1753, 4337], false⟩
-- COST 2599
theorem Oe187_k : chk smO [] Oe187 = true := by kernel_rfl
theorem Oe187_c : EO Oe187 := eo (l := []) smO_ok trivial Oe187_k
def Oe188 : Ent := ⟨118, [vP 188 0, vI 2, vI 4], 4460, [(11, Oq4), (12, Oq94), (140, Oq29), (161, Oq105), (182, Oq50), (186, Oq106), (187, Oq46), (188, Oq111), (1753, Oq97), (1754, Oq87), (4337, Oq109), (4338, Oq110)], .tuple #[], [(186, some Oq106), (1753, some Oq97), (4337, some Oq109)], 4460, [186, 1753, 4337], false⟩
-- COST 2599
theorem Oe188_k : chk smO [] Oe188 = true := by kernel_rfl
theorem Oe188_c : EO Oe188 := eo (l := []) smO_ok trivial Oe188_k
def Oe189 : Ent := ⟨118, [vP 188 0, vI 2, vI 5], 4460, [(11, Oq4), (12, Oq94), (140, Oq29), (161, Oq105), (182, Oq50), (186, Oq106), (187, Oq46), (188, Oq111), (1753, Oq97), (1754, Oq87), (4337, Oq109), (4338, Oq110)], .tuple #[], [(186, some Oq106), (1753, some Oq97), (4337, some Oq109)], 4460, [186, 1753, 4337], false⟩
-- COST 2599
theorem Oe189_k : chk smO [] Oe189 = true := by kernel_rfl
theorem Oe189_c : EO Oe189 := eo (l := []) smO_ok trivial Oe189_k
def Oe190 : Ent := ⟨118, [vP 188 0, vI 2, vI 6], 4460, [(11, Oq4), (12, Oq94), (140, Oq29), (161, Oq105), (182, Oq50), (186, Oq106), (187, Oq46), (188, Oq111), (1753, Oq97), (1754, Oq87), (4337, Oq109), (4338, Oq110)], .tuple #[], [(186, some Oq106), (1753, some Oq97), (4337, some Oq109)], 4460, [186, 1753, 4337], false⟩
-- COST 2599
theorem Oe190_k : chk smO [] Oe190 = true := by kernel_rfl
theorem Oe190_c : EO Oe190 := eo (l := []) smO_ok trivial Oe190_k
def Oe191 : Ent := ⟨118, [vP 188 0, vI 2, vI 7], 4460, [(11, Oq4), (12, Oq94), (140, Oq29), (161, Oq105), (182, Oq50), (186, Oq106), (187, Oq46), (188, Oq111), (1753, Oq97), (1754, Oq87), (4337, Oq109), (4338, Oq110)], .tuple #[], [(186, some Oq106), (1753, some Oq97), (4337, some Oq109)], 4460, [186, 1753, 4337], false⟩
-- COST 2599
theorem Oe191_k : chk smO [] Oe191 = true := by kernel_rfl
theorem Oe191_c : EO Oe191 := eo (l := []) smO_ok trivial Oe191_k
def Oe192 : Ent := ⟨118, [vP 188 0, vI 3, vI 0], 4483, [(11, Oq4), (12, Oq94), (140, Oq29), (161, Oq105), (182, Oq50), (186, Oq106), (187, Oq46), (188, Oq111), (1753, Oq97), (1754, Oq87), (4337, Oq109), (4338, Oq110)], .tuple #[], [(186, some Oq106), (1753, some Oq97), (4337, some Oq109)], 4483, [186, 1753, 4337], false⟩
-- COST 2599
theorem Oe192_k : chk smO [] Oe192 = true := by kernel_rfl
theorem Oe192_c : EO Oe192 := eo (l := []) smO_ok trivial Oe192_k
def Oe193 : Ent := ⟨118, [vP 188 0, vI 3, vI 1], 4483, [(11, Oq4), (12, Oq94), (140, Oq29), (161, Oq105), (182, Oq50), (186, Oq106), (187, Oq46), (188, Oq111), (1753, Oq97), (1754, Oq87), (4337, Oq109), (4338, Oq110)], .tuple #[], [(186, some Oq106), (1753, some Oq97), (4337, some Oq109)], 4483, [186, 1753, 4337], false⟩
-- COST 2599
theorem Oe193_k : chk smO [] Oe193 = true := by kernel_rfl
theorem Oe193_c : EO Oe193 := eo (l := []) smO_ok trivial Oe193_k
def Oe194 : Ent := ⟨118, [vP 188 0, vI 3, vI 2], 4483, [(11, Oq4), (12, Oq94), (140, Oq29), (161, Oq105), (182, Oq50), (186, Oq106), (187, Oq46), (188, Oq111), (1753, Oq97), (1754, Oq87), (4337, Oq109), (4338, Oq110)], .tuple #[], [(186, some Oq106), (1753, some Oq97), (4337, some Oq109)], 4483, [186, 1753, 4337], false⟩
-- COST 2599
theorem Oe194_k : chk smO [] Oe194 = true := by kernel_rfl
theorem Oe194_c : EO Oe194 := eo (l := []) smO_ok trivial Oe194_k
def Oe195 : Ent := ⟨118, [vP 188 0, vI 3, vI 3], 4483, [(11, Oq4), (12, Oq94), (140, Oq29), (161, Oq105), (182, Oq50), (186, Oq106), (187, Oq46), (188, Oq111), (1753, Oq97), (1754, Oq87), (4337, Oq109), (4338, Oq110)], .tuple #[], [(186, some Oq106), (1753, some Oq97), (4337, some Oq109)], 4483, [186, 1753, 4337], false⟩
-- COST 2599
theorem Oe195_k : chk smO [] Oe195 = true := by kernel_rfl
theorem Oe195_c : EO Oe195 := eo (l := []) smO_ok trivial Oe195_k
def Oe196 : Ent := ⟨118, [vP 188 0, vI 3, vI 4], 4483, [(11, Oq4), (12, Oq94), (140, Oq29), (161, Oq105), (182, Oq50), (186, Oq106), (187, Oq46), (188, Oq111), (1753, Oq97), (1754, Oq87), (4337, Oq109), (4338, Oq110)], .tuple #[], [(186, some Oq106), (1753, some Oq97), (4337, some Oq109)], 4483, [186, 1753, 4337], false⟩
-- COST 2599
theorem Oe196_k : chk smO [] Oe196 = true := by kernel_rfl
theorem Oe196_c : EO Oe196 := eo (l := []) smO_ok trivial Oe196_k
def Oe197 : Ent := ⟨118, [vP 188 0, vI 3, vI 5], 4483, [(11, Oq4), (12, Oq94), (140, Oq29), (161, Oq105), (182, Oq50), (186, Oq106), (187, Oq46), (188, Oq111), (1753, Oq97), (1754, Oq87), (4337, Oq109), (4338, Oq110)], .tuple #[], [(186, some Oq106), (1753, some Oq97), (4337, some Oq109)], 4483, [186, 1753, 4337], false⟩
-- COST 2599
theorem Oe197_k : chk smO [] Oe197 = true := by kernel_rfl
theorem Oe197_c : EO Oe197 := eo (l := []) smO_ok trivial Oe197_k
def Oe198 : Ent := ⟨118, [vP 188 0, vI 3, vI 6], 4483, [(11, Oq4), (12, Oq94), (140, Oq29), (161, Oq105), (182, Oq50), (186, Oq106), (187, Oq46), (188, Oq111), (1753, Oq97), (1754, Oq87), (4337, Oq109), (4338, Oq110)], .tuple #[], [(186, some Oq106), (1753, some Oq97), (4337, some Oq109)], 4483, [186, 1753, 4337], false⟩
-- COST 2599
theorem Oe198_k : chk smO [] Oe198 = true := by kernel_rfl
theorem Oe198_c : EO Oe198 := eo (l := []) smO_ok trivial Oe198_k
def Oe199 : Ent := ⟨118, [vP 188 0, vI 3, vI 7], 4483, [(11, Oq4), (12, Oq94), (140, Oq29), (161, Oq105), (182, Oq50), (186, Oq106), (187, Oq46), (188, Oq111), (1753, Oq97), (1754, Oq87), (4337, Oq109), (4338, Oq110)], .tuple #[], [(186, some Oq106), (1753, some Oq97), (4337, some Oq109)], 4483, [186, 1753, 4337], false⟩
-- COST 2599
theorem Oe199_k : chk smO [] Oe199 = true := by kernel_rfl
theorem Oe199_c : EO Oe199 := eo (l := []) smO_ok trivial Oe199_k
def Oe200 : Ent := ⟨68, [vP 188 0], 4402, [(1, Oq0), (11, Oq4), (12, Oq94), (49, Oq37), (121, Oq20), (136, Oq81), (139, Oq41), (140, Oq29), (157, Oq83), (160, Oq44), (161, Oq105), (178, Oq85), (181, Oq18), (182, Oq50), (186, Oq106), (187, Oq46), (188, Oq107), (1092, Oq20), (1393, Oq20), (1678, Oq20), (1753, Oq97), (1754, Oq87), (3810, Oq88), (3812, Oq89), (3815, Oq90), (3947, Oq88), (3949, Oq92), (3952, Oq90), (4139, Oq88), (4141, Oq93), (4144, Oq90), (4258, Oq103), (4260, Oq90), (4262, Oq88), (4265, Oq104), (4333, Oq108), (4337, Oq109), (4338, Oq110)], .tuple #[], [(186, some Oq106), (188, some Oq111), (1753, some Oq97), (4333, some Oq112), (4337, some Oq109), (4457, some Oq113)], 4483, [186, 188, 1753, 4333, 4337], true⟩
-- COST 25369
theorem Oe200_k : chk smO [Oe199, Oe198, Oe197, Oe196, Oe195, Oe194, Oe193, Oe192, Oe191, Oe190, Oe189, Oe188, Oe187, Oe186, Oe185] Oe200 = true := by kernel_rfl
theorem Oe200_c : EO Oe200 := eo (l := [Oe199, Oe198, Oe197, Oe196, Oe195, Oe194, Oe193, Oe192, Oe191, Oe190, Oe189, Oe188, Oe187, Oe186, Oe185]) smO_ok ⟨Oe199_c, Oe198_c, Oe197_c, Oe196_c, Oe195_c, Oe194_c, Oe193_c, Oe192_c, Oe191_c, Oe190_c, Oe189_c, Oe188_c, Oe187_c, Oe186_c, Oe185_c, trivial⟩ Oe200_k
def Oq114 : AO := oR [vP 187 0, vU 1749 0 1, vU 4265 0 2, vI 1, vI 2, .bool false, vI 0, vI 0, vI 0, vI 0, vI 0, vI 0, vI 0, vI 0, vI 0, vI 0, vI 0, vI 0, vI 0, vI 0, vI 0, vI 0, vI 0, vI 0, vI 0, vI 0, vI 0, vI 0, vI 0, vI 0, vI 68, vI 0, vI 0, vI 0, vI 0, vI 0, vI 0, vI 0, vI 0, vI 0, vI 0, vI 0, vI 0, vI 0, vI 0, vI 0, vI 0, vI 0, vI 0, vI 0, vI 0, vI 0, vI 0, vI 0] 76
def Oq115 : AO := oR [vP 187 0, vU 4333 0 2, vU 4265 0 2, vI 1, vI 3, .bool false, vI 0, vI 0, vI 0, vI 0, vI 0, vI 0, vI 0, vI 0, vI 0, vI 0, vI 0, vI 0, vI 0, vI 0, vI 0, vI 0, vI 0, vI 69, vI 0, vI 0, vI 0, vI 0, vI 0, vI 0, vI 68, vI 0, vI 0, vI 0, vI 0, vI 0, vI 0, vI 0, vI 0, vI 0, vI 0, vI 0, vI 0, vI 0, vI 0, vI 0, vI 0, vI 0, vI 0, vI 0, vI 0, vI 0, vI 0, vI 0] 76
def Oq116 : AO := oR [vB 3 0x474554, vB 4 0x2f6f2f6b, v0, .slice none 0 0, v0] 191
def Oe201 : Ent := ⟨35, [vP 188 0, .agg #[vI 0, vI 2, vI 1, vI 0, v0, vI 1, vB 1 0x6b, vI 0, v0, vI 0, v0, v0, v0, vI 0, .bool false, .bool true]], 4320, [(1, Oq0), (2, Oq1), (5, Oq2), (6, Oq2), (11, Oq4), (12, Oq94), (49, Oq37), (121, Oq20), (136, Oq81), (139, Oq41), (140, Oq29), (157, Oq83), (160, Oq44), (161, Oq33), (178, Oq85), (181, Oq18), (182, Oq50), (186, Oq95), (187, Oq46), (188, Oq114), (1092, Oq20), (1393, Oq20), (1678, Oq20), (1749, Oq100), (1753, Oq97), (1754, Oq87), (3810, Oq88), (3812, Oq89), (3815, Oq90), (3947, Oq88), (3949, Oq92), (3952, Oq90), (4139, Oq88), (4141, Oq93), (4144, Oq90), (4258, Oq103), (4260, Oq90), (4262, Oq88), (4265, Oq104)], .tuple #[], [(160, some Oq44), (161, some Oq105), (186, some Oq106), (188, some Oq115), (1749, none), (1753, some Oq97), (4333, some Oq112), (4336, some Oq52), (4337, some Oq109), (4338, some Oq110), (4357, some Oq116), (4457, some Oq113)], 4483, [160, 161, 186, 188, 1749, 1753], true⟩
-- COST 9944
theorem Oe201_k : chk smO [Oe200, Me86, Me84, Me90, Me92, Me94, Me82] Oe201 = true := by kernel_rfl
theorem Oe201_c : EO Oe201 := eo (l := [Oe200, Me86, Me84, Me90, Me92, Me94, Me82]) smO_ok ⟨Oe200_c, Me86_c, Me84_c, Me90_c, Me92_c, Me94_c, Me82_c, trivial⟩ Oe201_k
def Oq117 : AO := oR [vU 5494 0 2] 89
def Oq118 : AO := oR [vB 118 0x32323866393634373130353a313a3223313a3023313a3223313a3023313a3023313a3023313a3823313a3023313a3023313a3123313a302331323a313a3123313a3223313a33235d303a5d33383a33343a313a3023303a5d303a5d32303a313a3023313a3023313a3023313a3023313a30235d5d2c5d, vB 118 0x63353036343235623130353a313a3223313a3023313a3323313a3023313a3023313a3023313a3823313a3023313a3023313a3123313a302331323a313a3123313a3223313a33235d303a5d33383a33343a313a3023303a5d303a5d32303a313a3023313a3023313a3023313a3023313a30235d5d2c5d, v0] 9
def Oq119 : AO := oR [vU 5769 0 1] 89
def Oq120 : AO := oR [vI 2, vP 157 0, vI 1, vU 5783 0 3, vI 0, vI 8, .slice none 0 0] 170
def Oq121 : AO := oR [vB 118 0x63353036343235623130353a313a3223313a3023313a3323313a3023313a3023313a3023313a3823313a3023313a3023313a3123313a302331323a313a3123313a3223313a33235d303a5d33383a33343a313a3023303a5d303a5d32303a313a3023313a3023313a3023313a3023313a30235d5d2c5d, v0] 9
def Oe209 : Ent := ⟨18, [vP 12 0, vI 0, .bool false], 5512, [(1, Oq0), (2, Oq1), (5, Oq2), (6, Oq2), (10, Oq117), (11, Oq4), (12, Oq94), (157, Oq83), (160, Oq44), (161, Oq105), (4337, Oq109), (4338, Oq110), (5494, Oq118)], vI 0, [(10, some Oq119), (160, some Oq120), (5769, some Oq121), (5783, some Oq20)], 5789, [10, 160], true⟩
-- COST 5895
theorem Oe209_k : chk smO [Me55, Me68, Me114, Me113, Me112, Me111, Me208, Me207, Me206, Me205, Me17, Me8, Me115, Me118, Me117, Me116, Me46, Me56, Me13, Me48, Me104, Me50, Me47, Me1, Me204, Me4, Me15, Me31] Oe209 = true := by kernel_rfl
theorem Oe209_c : EO Oe209 := eo (l := [Me55, Me68, Me114, Me113, Me112, Me111, Me208, Me207, Me206, Me205, Me17, Me8, Me115, Me118, Me117, Me116, Me46, Me56, Me13, Me48, Me104, Me50, Me47, Me1, Me204, Me4, Me15, Me31]) smO_ok ⟨Me55_c, Me68_c, Me114_c, Me113_c, Me112_c, Me111_c, Me208_c, Me207_c, Me206_c, Me205_c, Me17_c, Me8_c, Me115_c, Me118_c, Me117_c, Me116_c, Me46_c, Me56_c, Me13_c, Me48_c, Me104_c, Me50_c, Me47_c, Me1_c, Me204_c, Me4_c, Me15_c, Me31_c, trivial⟩ Oe209_k
def Oq122 : AO := oR [vU 6046 0 0] 89
def Oq123 : AO := oR [vI 3, vP 178 0, vI 1, vU 6060 0 3, vI 0, vI 8, .slice none 0 0] 170
def Oe210 : Ent := ⟨18, [vP 12 0, vI 0, .bool false], 5789, [(1, Oq0), (2, Oq1), (5, Oq2), (6, Oq2), (10, Oq119), (11, Oq4), (12, Oq94), (178, Oq85), (181, Oq18), (182, Oq50), (1753, Oq97), (1754, Oq87), (5769, Oq121)], vI 0, [(10, some Oq122), (181, some Oq123), (6046, some (oR [v0] 9)), (6060, some Oq20)], 6070, [10, 181], true⟩
-- COST 6052
theorem Oe210_k : chk smO [Me55, Me68, Me114, Me113, Me112, Me111, Me208, Me207, Me206, Me205, Me17, Me8, Me39, Me115, Me118, Me117, Me116, Me46, Me56, Me13, Me48, Me104, Me50, Me47, Me1, Me204, Me31, Me4, Me15] Oe210 = true := by kernel_rfl
theorem Oe210_c : EO Oe210 := eo (l := [Me55, Me68, Me114, Me113, Me112, Me111, Me208, Me207, Me206, Me205, Me17, Me8, Me39, Me115, Me118, Me117, Me116, Me46, Me56, Me13, Me48, Me104, Me50, Me47, Me1, Me204, Me31, Me4, Me15]) smO_ok ⟨Me55_c, Me68_c, Me114_c, Me113_c, Me112_c, Me111_c, Me208_c, Me207_c, Me206_c, Me205_c, Me17_c, Me8_c, Me39_c, Me115_c, Me118_c, Me117_c, Me116_c, Me46_c, Me56_c, Me13_c, Me48_c, Me104_c, Me50_c, Me47_c, Me1_c, Me204_c, Me31_c, Me4_c, Me15_c, trivial⟩ Oe210_k
def Oq124 : AO := oR [vU 4240 0 4] 89
def Oq125 : AO := oR [vB 104 0x316531333833363439323a313a3123313a3123313a3023313a3123313a3023313a3023313a3023313a3023313a3023313a3023313a3023303a5d303a5d33383a33343a313a3023303a5d303a5d32303a313a3023313a3023313a3023313a3023313a30235d5d2c5d, vB 104 0x383034356432346139323a313a3123313a3223313a3023313a3123313a3023313a3023313a3023313a3023313a3023313a3023313a3023303a5d303a5d33383a33343a313a3023303a5d303a5d32303a313a3023313a3023313a3023313a3023313a30235d5d2c5d, vB 104 0x653237373231336639323a313a3123313a3323313a3023313a3123313a3023313a3023313a3023313a3023313a3023313a3023313a3023303a5d303a5d33383a33343a313a3023303a5d303a5d32303a313a3023313a3023313a3023313a3023313a30235d5d2c5d, vB 104 0x386263363734666239323a313a3623313a3323313a3223313a3123313a3123313a3023313a3023313a3023313a3023313a3023313a3023303a5d303a5d33383a33343a313a3023303a5d303a5d32303a313a3023313a3023313a3023313a3023313a30235d5d2c5d] 9
def Oq126 : AO := oR [vP 39 0, vI 1, vU 121 0 3, vI 0, vI 0, .slice none 0 0, vI 0, vI 8, .map (some 122), vI 0, .bool false, .bool false] 121
def Oq127 : AO := .mp [(vI 1, vI 2), (vI 2, vI 2), (vI 3, vI 2)] (some ([0, 1, 2], 3))
def Oq128 : AO := oR [vI 1, vP 136 0, vI 1, vU 5508 0 3, vI 0, vI 8, .slice none 0 0] 170
def Oe211 : Ent := ⟨22, [vP 12 0, vI 100], 4483, [(1, Oq0), (2, Oq1), (5, Oq2), (6, Oq2), (10, Oq124), (11, Oq4), (12, Oq94), (49, Oq37), (121, Oq20), (122, Oq38), (136, Oq81), (139, Oq41), (140, Oq29), (157, Oq83), (160, Oq44), (161, Oq105), (178, Oq85), (181, Oq18), (182, Oq50), (1393, Oq20), (1753, Oq97), (1754, Oq87), (3947, Oq88), (3949, Oq92), (3952, Oq90), (4240, Oq125), (4337, Oq109), (4338, Oq110)], .bool true, [(10, some Oq122), (49, some Oq126), (122, some Oq127), (139, some Oq128), (160, some Oq120), (181, some Oq123), (5508, some Oq20), (5783, some Oq20), (6046, some (oR [v0] 9)), (6060, some Oq20)], 6070, [10, 49, 122, 139, 160, 181], true⟩
-- COST 20737
theorem Oe211_k : chk smO [Oe210, Oe209, Me166, Me55, Me68, Me67, Me66, Me65, Me64, Me63, Me62, Me61, Me60, Me203, Me202, Me7, Me46, Me56, Me13, Me48, Me104, Me50, Me47, Me204, Me1, Me4, Me15, Me31, Me167, Me17, Me168, Me39, Me162, Me160, Me114, Me113, Me112, Me111, Me208, Me207, Me206, Me205, Me8, Me115, Me118, Me117, Me116] Oe211 = true := by kernel_rfl
theorem Oe211_c : EO Oe211 := eo (l := [Oe210, Oe209, Me166, Me55, Me68, Me67, Me66, Me65, Me64, Me63, Me62, Me61, Me60, Me203, Me202, Me7, Me46, Me56, Me13, Me48, Me104, Me50, Me47, Me204, Me1, Me4, Me15, Me31, Me167, Me17, Me168, Me39, Me162, Me160, Me114, Me113, Me112, Me111, Me208, Me207, Me206, Me205, Me8, Me115, Me118, Me117, Me116]) smO_ok ⟨Oe210_c, Oe209_c, Me166_c, Me55_c, Me68_c, Me67_c, Me66_c, Me65_c, Me64_c, Me63_c, Me62_c, Me61_c, Me60_c, Me203_c, Me202_c, Me7_c, Me46_c, Me56_c, Me13_c, Me48_c, Me104_c, Me50_c, Me47_c, Me204_c, Me1_c, Me4_c, Me15_c, Me31_c, Me167_c, Me17_c, Me168_c, Me39_c, Me162_c, Me160_c, Me114_c, Me113_c, Me112_c, Me111_c, Me208_c, Me207_c, Me206_c, Me205_c, Me8_c, Me115_c, Me118_c, Me117_c, Me116_c, trivial⟩ Oe211_k
def Oq129 : AO := oR [vP 10 0, vU 32 0 4, vI 1, vU 34 0 3, vI 0, vP 49 0, .map (some 11), vI 3] 93
def Oe212 : Ent := ⟨118, [vP 188 0, vI 2, vI 1], 6178, [(11, Oq4), (12, Oq129), (140, Oq29), (161, Oq105), (182, Oq50), (186, Oq106), (187, Oq46), (188, Oq115), (1753, Oq97), (1754, Oq87), (4337, Oq109), (4338, Oq110)], .tuple #[], [(186, some Oq106), (1753, some Oq97), (4337, some Oq109)], 6178, [186, 1753, 4337], false⟩
-- COST 2599
theorem Oe212_k : chk smO [] Oe212 = true := by kernel_rfl
theorem Oe212_c : EO Oe212 := eo (l := []) smO_ok trivial Oe212_k
def Oe213 : Ent := ⟨118, [vP 188 0, vI 2, vI 2], 6178, [(11, Oq4), (12, Oq129), (140, Oq29), (161, Oq105), (182, Oq50), (186, Oq106), (187, Oq46), (188, Oq115), (1753, Oq97), (1754, Oq87), (4337, Oq109), (4338, Oq110)], .tuple #[], [(186, some Oq106), (1753, some Oq97), (4337, some Oq109)], 6178, [186, 1753, 4337], false⟩
-- COST 2599
theorem Oe213_k : chk smO [] Oe213 = true := by kernel_rfl
theorem Oe213_c : EO Oe213 := eo (l := []) smO_ok trivial Oe213_k
def Oe214 : Ent := ⟨118, [vP 188 0, vI 2, vI 3], 6178, [(11, Oq4), (12, Oq129), (140, Oq29), (161, Oq105), (182, Oq50), (186, Oq106), (187, Oq46), (188, Oq115), (1753, Oq97), (1754, Oq87), (4337, Oq109), (4338, Oq110)], .tuple #[], [(186, some Oq106), (1753, some Oq97), (4337, some Oq109)], 6178, [186, 1753, 4337], false⟩
-- COST 2599
theorem Oe214_k : chk smO [] Oe214 = true := by kernel_rfl
theorem Oe214_c : EO Oe214 := eo (l := []) smO_ok trivial Oe214_k
def Oe215 : Ent := ⟨118, [vP 188 0, vI 2, vI 4], 6178, [(11, Oq4), (12, Oq129), (140, Oq29), (161, Oq105), (182, Oq50), (186, Oq106), (187, Oq46), (188, Oq115), (1753, Oq97), (1754, Oq87), (4337, Oq109), (4338, Oq110)], .tuple #[], [(186, some Oq106), (1753, some Oq97), (4337, some Oq109)], 6178, [186, 1753, 4337], false⟩
-- COST 2599
theorem Oe215_k : chk smO [] Oe215 = true := by kernel_rfl
theorem Oe215_c : EO Oe215 := eo (l := []) smO_ok trivial Oe215_k
def Oe216 : Ent := ⟨118, [vP 188 0, vI 2, vI 5], 6178, [(11, Oq4), (12, Oq129), (140, Oq29), (161, Oq105), (182, Oq50), (186, Oq106), (187, Oq46), (188, Oq115), (1753, Oq97), (1754, Oq87), (4337, Oq109), (4338, Oq110)], .tuple #[], [(186, some Oq106), (1753, some Oq97), (4337, some Oq109)], 6178, [186, 1753, 4337], false⟩
-- COST 2599
theorem Oe216_k : chk smO [] Oe216 = true := by kernel_rfl
theorem Oe216_c : EO Oe216 := eo (l := []) smO_ok trivial Oe216_k
def Oe217 : Ent := ⟨118, [vP 188 0, vI 2, vI 6], 6178, [(11, Oq4), (12, Oq129), (140, Oq29), (161, Oq105), (182, Oq50), (186, Oq106), (187, Oq46), (188, Oq115), (1753, Oq97), (1754, Oq87), (4337, Oq109), (4338, Oq110)], .tuple #[], [(186, some Oq106), (1753, some Oq97), (4337, some Oq109)], 6178, [186, 1753, 4337], false⟩
-- COST 2599
theorem Oe217_k : chk smO [] Oe217 = true := by kernel_rfl
theorem Oe217_c : EO Oe217 := eo (l := []) smO_ok trivial Oe217_k
def Oe218 : Ent := ⟨118, [vP 188 0, vI 2, vI 7], 6178, [(11, Oq4), (12, Oq129), (140, Oq29), (161, Oq105), (182, Oq50), (186, Oq106), (187, Oq46), (188, Oq115), (1753, Oq97), (1754, Oq87), (4337, Oq109), (4338, Oq110)], .tuple #[], [(186, some Oq106), (1753, some Oq97), (4337, some Oq109)], 6178, [186, 1753, 4337], false⟩
-- COST 2599
theorem Oe218_k : chk smO [] Oe218 = true := by kernel_rfl
theorem Oe218_c : EO Oe218 := eo (l := []) smO_ok trivial Oe218_k
def Oe219 : Ent := ⟨118, [vP 188 0, vI 3, vI 0], 6201, [(11, Oq4), (12, Oq129), (140, Oq29), (161, Oq105), (182, Oq50), (186, Oq106), (187, Oq46), (188, Oq115), (1753, Oq97), (1754, Oq87), (4337, Oq109), (4338, Oq110)], .tuple #[], [(186, some Oq106), (1753, some Oq97), (4337, some Oq109)], 6201, [186, 1753, 4337], false⟩
-- COST 2599
theorem Oe219_k : chk smO [] Oe219 = true := by kernel_rfl
theorem Oe219_c : EO Oe219 := eo (l := []) smO_ok trivial Oe219_k
def Oe220 : Ent := ⟨118, [vP 188 0, vI 3, vI 1], 6201, [(11, Oq4), (12, Oq129), (140, Oq29), (161, Oq105), (182, Oq50), (186, Oq106), (187, Oq46), (188, Oq115), (1753, Oq97), (1754, Oq87), (4337, Oq109), (4338, Oq110)], .tuple #[], [(186, some Oq106), (1753, some Oq97), (4337, some Oq109)], 6201, [186, 1753, 4337], false⟩
-- COST 2599
theorem Oe220_k : chk smO [] Oe220 = true := by kernel_rfl
theorem Oe220_c : EO Oe220 := eo (l := []) smO_ok trivial Oe220_k
def Oe221 : Ent := ⟨118, [vP 188 0, vI 3, vI 2], 6201, [(11, Oq4), (12, Oq129), (140, Oq29), (161, Oq105), (182, Oq50), (186, Oq106), (187, Oq46), (188, Oq115), (1753, Oq97), (1754, Oq87), (4337, Oq109), (4338, Oq110)], .tuple #[], [(186, some Oq106), (1753, some Oq97), (4337, some Oq109)], 6201, [186, 1753, 4337], false⟩
-- COST 2599
theorem Oe221_k : chk smO [] Oe221 = true := by kernel_rfl
theorem Oe221_c : EO Oe221 := eo (l := []) smO_ok trivial Oe221_k
def Oe222 : Ent := ⟨118, [vP 188 0, vI 3, vI 3], 6201, [(11, Oq4), (12, Oq129), (140, Oq29), (161, Oq105), (182, Oq50), (186, Oq106), (187, Oq46), (188, Oq115), (1753, Oq97), (1754, Oq87), (4337, Oq109), (4338, Oq110)], .tuple #[], [(186, some Oq106), (1753, some Oq97), (4337, some Oq109)], 6201, [186, 1753, 4337], false⟩
-- COST 2599
theorem Oe222_k : chk smO [] Oe222 = true := by kernel_rfl
theorem Oe222_c : EO Oe222 := eo (l := []) smO_ok trivial Oe222_k
def Oe223 : Ent := ⟨118, [vP 188 0, vI 3, vI 4], 6201, [(11, Oq4), (12, Oq129), (140, Oq29), (161, Oq105), (182, Oq50), (186, Oq106), (187, Oq46), (188, Oq115), (1753, Oq97), (1754, Oq87), (4337, Oq109), (4338, Oq110)], .tuple #[], [(186, some Oq106), (1753, some Oq97), (4337, some Oq109)], 6201, [186, 1753, 4337], false⟩
-- COST 2599
theorem Oe223_k : chk smO [] Oe223 = true := by kernel_rfl
theorem Oe223_c : EO Oe223 := eo (l := []) smO_ok trivial Oe223_k
def Oe224 : Ent := ⟨118, [vP 188 0, vI 3, vI 5], 6201, [(11, Oq4), (12, Oq129), (140, Oq29), (161, Oq105), (182, Oq50), (186, Oq106), (187, Oq46), (188, Oq115), (1753, Oq97), (1754, Oq87), (4337, Oq109), (4338, Oq110)], .tuple #[], [(186, some Oq106), (1753, some Oq97), (4337, some Oq109)], 6201, [186, 1753, 4337], false⟩
-- COST 2599
theorem Oe224_k : chk smO [] Oe224 = true := by kernel_rfl
theorem Oe224_c : EO Oe224 := eo (l := []) smO_ok trivial Oe224_k
def Oe225 : Ent := ⟨118, [vP 188 0, vI 3, vI 6], 6201, [(11, Oq4), (12, Oq129), (140, Oq29), (161, Oq105), (182, Oq50), (186, Oq106), (187, Oq46), (188, Oq115), (1753, Oq97), (1754, Oq87), (4337, Oq109), (4338, Oq110)], .tuple #[], [(186, some Oq106), (1753, some Oq97), (4337, some Oq109)], 6201, [186, 1753, 4337], false⟩
-- COST 2599
theorem Oe225_k : chk smO [] Oe225 = true := by kernel_rfl
theorem Oe225_c : EO Oe225 := eo (l := []) smO_ok trivial Oe225_k
def Oe226 : Ent := ⟨118, [vP 188 0, vI 3, vI 7], 6201, [(11, Oq4), (12, Oq129), (140, Oq29), (161, Oq105), (182, Oq50), (186, Oq106), (187, Oq46), (188, Oq115), (1753, Oq97), (1754, Oq87), (4337, Oq109), (4338, Oq110)], .tuple #[], [(186, some Oq106), (1753, some Oq97), (4337, some Oq109)], 6201, [186, 1753, 4337], false⟩
-- COST 2599
theorem Oe226_k : chk smO [] Oe226 = true := by kernel_rfl
theorem Oe226_c : EO Oe226 := eo (l := []) smO_ok trivial Oe226_k
def Oe227 : Ent := ⟨68, [vP 188 0], 6128, [(11, Oq4), (12, Oq129), (49, Oq126), (121, Oq20), (136, Oq81), (139, Oq128), (140, Oq29), (157, Oq83), (160, Oq120), (161, Oq105), (178, Oq85), (181, Oq123), (182, Oq50), (186, Oq106), (187, Oq46), (188, Oq115), (1753, Oq97), (1754, Oq87), (3810, Oq88), (3812, Oq89), (3815, Oq90), (3947, Oq88), (3949, Oq92), (3952, Oq90), (4139, Oq88), (4141, Oq93), (4144, Oq90), (4258, Oq103), (4260, Oq90), (4262, Oq88), (4265, Oq104), (4337, Oq109), (4338, Oq110), (5508, Oq20), (5783, Oq20), (6060, Oq20)], .tuple #[], [(186, some Oq106), (188, some Oq115), (1753, some Oq97), (4337, some Oq109)], 6201, [186, 188, 1753, 4337], false⟩
-- COST 25369
theorem Oe227_k : chk smO [Oe226, Oe225, Oe224, Oe223, Oe222, Oe221, Oe220, Oe219, Oe218, Oe217, Oe216, Oe215, Oe214, Oe213, Oe212] Oe227 = true := by kernel_rfl
theorem Oe227_c : EO Oe227 := eo (l := [Oe226, Oe225, Oe224, Oe223, Oe222, Oe221, Oe220, Oe219, Oe218, Oe217, Oe216, Oe215, Oe214, Oe213, Oe212]) smO_ok ⟨Oe226_c, Oe225_c, Oe224_c, Oe223_c, Oe222_c, Oe221_c, Oe220_c, Oe219_c, Oe218_c, Oe217_c, Oe216_c, Oe215_c, Oe214_c, Oe213_c, Oe212_c, trivial⟩ Oe227_k
def Oq130 : AO := oR [.slice none 0 0] 89
def Oq131 : AO := .mp [(vI 1, vP 6232 0)] (some ([0], 1))
def Oq132 : AO := oR [vP 6128 0, vU 6138 0 2, vI 1, vU 6140 0 1, vI 0, vP 6155 0, .map (some 6129), vI 0] 93
def Oq133 : AO := .mp [(vB 3 0x4c4f47, .agg #[vB 39 0x3030303030303031303a2c313266346665383431363a31323a313a3123313a3023313a31235d2c, vI 39, .bool true])] (some ([0], 1))
def Oq134 : AO := oR [vI 1048537, .map (some 6131)] 157
def Oq135 : AO := oR [vI 1048565, .map (some 6135)] 157
def Oq136 : AO := oR [vP 6132 0, vP 6136 0] 100
def Oq137 : AO := oR [vP 6132 0, v0, vU 6208 0 1, .bool false] 223
def Oq138 : AO := oR [vP 6145 0, vI 1, vU 6213 0 1, vI 0, vI 0, .slice none 0 0, vI 0, vI 0, .map (some 6214), vI 0, .bool false, .bool false] 121
def Oq139 : AO := oR [vB 16 0x31323a313a3123313a3023313a31235d] 9
def Oq140 : AO := .mp [(vI 1, vI 0)] (some ([0], 1))
def Oq141 : AO := oR [vP 6136 0, v0, .slice (some ⟨6227, 1, some 0⟩) 0 9223372036854775808, .bool false] 223
def Oq142 : AO := oR [vP 6218 0, vI 0, .slice none 0 0, .slice none 0 0, vI 0, vI 0, vI 0, vI 0, vI 0, .slice none 0 0, vI 0, vI 0, .bool false] 174
def Oq143 : AO := oR [vI 1, vP 6228 0, vI 0, .slice none 0 0, vI 0, vI 0, .slice none 0 0] 170
def Oq144 : AO := oR [vI 1, vP 6136 0, vP 6231 0, vN, vN, vN, vN, vN, vN, vN, vN, vI 1] 134
def Oe228 : Ent := ⟨29, [vI 0], 6128, [(1, Oq0), (2, Oq1), (5, Oq2), (6, Oq2)], vP 6130 0, [(6128, some Oq130), (6129, some Oq131), (6130, some Oq132), (6131, some Oq133), (6132, some Oq134), (6135, some Oq6), (6136, some Oq135), (6138, some Oq136), (6140, some (oR [vI 1] 3)), (6145, some Oq137), (6155, some Oq138), (6208, some Oq139), (6213, some (oR [vI 1] 3)), (6214, some Oq140), (6218, some Oq141), (6227, some (oR [v0] 9)), (6228, some Oq142), (6231, some Oq143), (6232, some Oq144)], 6236, [], true⟩
-- COST 2193
theorem Oe228_k : chk smO [Me26, Me23, Me21, Me24, Me4, Me1] Oe228 = true := by kernel_rfl
theorem Oe228_c : EO Oe228 := eo (l := [Me26, Me23, Me21, Me24, Me4, Me1]) smO_ok ⟨Me26_c, Me23_c, Me21_c, Me24_c, Me4_c, Me1_c, trivial⟩ Oe228_k
def Oe229 : Ent := ⟨26, [vP 187 0, .agg #[vI 0, vI 0, vI 0, vI 0, v0]], 6256, [(11, Oq4), (12, Oq129), (140, Oq29), (161, Oq105), (182, Oq50), (186, Oq106), (187, Oq46), (1753, Oq97), (1754, Oq87), (4337, Oq109), (4338, Oq110)], vI 1, [(186, some Oq106), (1753, some Oq97), (4337, some Oq109)], 6258, [186, 1753, 4337], false⟩
-- COST 5167
theorem Oe229_k : chk smO [] Oe229 = true := by kernel_rfl
theorem Oe229_c : EO Oe229 := eo (l := []) smO_ok trivial Oe229_k
-- COST 25045
theorem O_true : kzTrue Tryz.prog (envT smO [Oe229, Oe228, Oe211, Oe201, Oe165, Me26, Me23, Me21, Me24, Me31, Me15, Me4, Me1, Oe120, Me101, Me57, Me102, Oe140, Oe124, Me75, Me78, Me77, Oe184, Me166, Me167, Me168, Me161, Oe227]) 100000 9 [] = true := by kernel_rfl
theorem O_truer (w : World) (hw : GlW glC w) : Calls Tryz.prog 9 #[] w fun e w' => e = .returned (.bool true) ∧ Same w w' := kz_true (envT_ok (l := [Oe229, Oe228, Oe211, Oe201, Oe165, Me26, Me23, Me21, Me24, Me31, Me15, Me4, Me1, Oe120, Me101, Me57, Me102, Oe140, Oe124, Me75, Me78, Me77, Oe184, Me166, Me167, Me168, Me161, Oe227]) smO_ok ⟨Oe229_c, Oe228_c, Oe211_c, Oe201_c, Oe165_c, Me26_c, Me23_c, Me21_c, Me24_c, Me31_c, Me15_c, Me4_c, Me1_c, Oe120_c, Me101_c, Me57_c, Me102_c, Oe140_c, Oe124_c, Me75_c, Me78_c, Me77_c, Oe184_c, Me166_c, Me167_c, Me168_c, Me161_c, Oe227_c, trivial⟩) gl_ne O_true rfl w hw
end
end Go.Proofs.YtikedhemjoljpaaGreatDoor

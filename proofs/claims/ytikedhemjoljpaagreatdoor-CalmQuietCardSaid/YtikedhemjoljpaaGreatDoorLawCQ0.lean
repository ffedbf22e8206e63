/-
  armariumlaw22.CalmQuiet: what its runs are made of: words, calls, states, pieces of the law. No condition.
-/
import Derived.Test.YtikedhemjoljpaaGreatDoorLawS0
namespace Go.Proofs.YtikedhemjoljpaaGreatDoor
noncomputable section
open Go Go.Eng
set_option maxRecDepth 1000000
def Uq0 : AO := .row [.int .u64 1, .int .u64 10, .int .u64 100, .int .u64 1000, .int .u64 10000, .int .u64 100000, .int .u64 1000000, .int .u64 10000000, .int .u64 100000000, .int .u64 1000000000, .int .u64 10000000000, .int .u64 100000000000, .int .u64 1000000000000, .int .u64 10000000000000, .int .u64 100000000000000, .int .u64 1000000000000000, .int .u64 10000000000000000, .int .u64 100000000000000000, .int .u64 1000000000000000000, .int .u64 10000000000000000000] 0 true
def Uq1 : AO := .row [.tuple #[.chan (some 4), vI 0]] 0 true
def Uq2 : AO := .row [.tuple #[.chan (some 3), .bool false]] 0 true
def Uq3 : AO := oR [.slice none 0 0] 89
def Uq4 : AO := .mp [(vI 1, vP 106 0), (vI 2, vP 127 0)] (some ([0, 1], 2))
def Uq5 : AO := oR [vP 10 0, vU 26 0 3, vI 1, vU 28 0 2, vI 0, vP 43 0, .map (some 11), vI 0] 93
def Uq6 : AO := .mp [(vB 3 0x4c4f47, .agg #[vB 43 0x3030303030303031303a2c636433653737316432303a31363a313a3123313a3023313a3123313a32235d2c, vI 43, .bool true])] (some ([0], 1))
def Uq7 : AO := oR [vI 1048533, .map (some 13)] 157
def Uq8 : AO := .mp [(vB 3 0x4c4f47, .agg #[vB 11 0x3030303030303031303a2c, vI 11, .bool true])] (some ([0], 1))
def Uq9 : AO := oR [vI 1048565, .map (some 17)] 157
def Uq10 : AO := oR [vI 1048565, .map (some 23)] 157
def Uq11 : AO := oR [vP 14 0, vP 18 0, vP 24 0] 100
def Uq12 : AO := oR [vI 1, vI 2] 3
def Uq13 : AO := oR [vP 14 0, v0, vU 82 0 1, .bool false] 223
def Uq14 : AO := oR [vP 33 0, vI 1, vU 87 0 2, vI 0, vI 0, .slice none 0 0, vI 0, vI 0, .map (some 88), vI 0, .bool false, .bool false] 121
def Uq15 : AO := oR [vB 20 0x31363a313a3123313a3023313a3123313a32235d] 9
def Uq16 : AO := .mp [(vI 1, vI 0), (vI 2, vI 0)] (some ([0, 1], 2))
def Uq17 : AO := oR [vP 18 0, v0, .slice (some ⟨101, 1, some 0⟩) 0 9223372036854775808, .bool false] 223
def Uq18 : AO := oR [vP 92 0, vI 0, .slice none 0 0, .slice none 0 0, vI 0, vI 0, vI 0, vI 0, vI 0, .slice none 0 0, vI 0, vI 0, .bool false] 174
def Uq19 : AO := oR [vI 1, vP 102 0, vI 0, .slice none 0 0, vI 0, vI 0, .slice none 0 0] 170
def Uq20 : AO := oR [vI 1, vP 18 0, vP 105 0, vN, vN, vN, vN, vN, vN, vN, vN, vI 1] 134
def Uq21 : AO := oR [vP 24 0, v0, .slice (some ⟨122, 1, some 0⟩) 0 9223372036854775808, .bool false] 223
def Uq22 : AO := oR [vP 113 0, vI 0, .slice none 0 0, .slice none 0 0, vI 0, vI 0, vI 0, vI 0, vI 0, .slice none 0 0, vI 0, vI 0, .bool false] 174
def Uq23 : AO := oR [vI 2, vP 123 0, vI 0, .slice none 0 0, vI 0, vI 0, .slice none 0 0] 170
def Uq24 : AO := oR [vI 2, vP 24 0, vP 126 0, vN, vN, vN, vN, vN, vN, vN, vN, vI 1] 134
def Ue8 : Ent := ⟨29, [vI 2], 10, [(1, Uq0), (2, Uq1), (5, Uq2), (6, Uq2)], vP 12 0, [(10, some Uq3), (11, some Uq4), (12, some Uq5), (13, some Uq6), (14, some Uq7), (17, some Uq8), (18, some Uq9), (23, some Uq8), (24, some Uq10), (26, some Uq11), (28, some Uq12), (33, some Uq13), (43, some Uq14), (82, some Uq15), (87, some Uq12), (88, some Uq16), (92, some Uq17), (101, some (oR [v0] 9)), (102, some Uq18), (105, some Uq19), (106, some Uq20), (113, some Uq21), (122, some (oR [v0] 9)), (123, some Uq22), (126, some Uq23), (127, some Uq24)], 131, [], true⟩
theorem Ue8_k : chk smS [Me26, Me23, Me21, Me24, Me15, Me4, Me1, Me42] Ue8 = true := by kernel_rfl
theorem Ue8_c : EO Ue8 := eo (l := [Me26, Me23, Me21, Me24, Me15, Me4, Me1, Me42]) smS_ok ⟨Me26_c, Me23_c, Me21_c, Me24_c, Me15_c, Me4_c, Me1_c, Me42_c, trivial⟩ Ue8_k
def oN : List (Nat × AO) := [(11, Uq4), (12, Uq5), (13, Uq6), (14, Uq7), (17, Uq8), (18, Uq9), (23, Uq8), (24, Uq10), (26, Uq11), (28, Uq12), (33, Uq13), (43, Uq14), (82, Uq15), (87, Uq12), (88, Uq16), (92, Uq17), (101, (oR [v0] 9)), (102, Uq18), (105, Uq19), (106, Uq20), (113, Uq21), (122, (oR [v0] 9)), (123, Uq22), (126, Uq23), (127, Uq24)]
def txL : List Value := [vB 104 0x303063646666646139323a313a3723313a3123313a3223313a3023313a3023313a3023313a3023313a3023313a3023313a3023313a3023303a5d303a5d33383a33343a313a3023303a5d303a5d32303a313a3023313a3023313a3023313a3023313a30235d5d2c5d, vB 104 0x393837303464373139323a313a3723313a3123313a3223313a3023313a3023313a3123313a3023313a3023313a3023313a3023313a3023303a5d303a5d33383a33343a313a3023303a5d303a5d32303a313a3023313a3023313a3023313a3023313a30235d5d2c5d, vB 104 0x333032323961663939323a313a3723313a3123313a3223313a3023313a3023313a3223313a3023313a3023313a3023313a3023313a3023303a5d303a5d33383a33343a313a3023303a5d303a5d32303a313a3023313a3023313a3023313a3023313a30235d5d2c5d, vB 104 0x633763356538383139323a313a3723313a3123313a3223313a3023313a3023313a3323313a3023313a3023313a3023313a3023313a3023303a5d303a5d33383a33343a313a3023303a5d303a5d32303a313a3023313a3023313a3023313a3023313a30235d5d2c5d, vB 104 0x356637373336313839323a313a3723313a3123313a3223313a3023313a3023313a3423313a3023313a3023313a3023313a3023313a3023303a5d303a5d33383a33343a313a3023303a5d303a5d32303a313a3023313a3023313a3023313a3023313a30235d5d2c5d, vB 104 0x663731613833613039323a313a3723313a3123313a3223313a3023313a3023313a3523313a3023313a3023313a3023313a3023313a3023303a5d303a5d33383a33343a313a3023303a5d303a5d32303a313a3023313a3023313a3023313a3023313a30235d5d2c5d, vB 104 0x386563636431323839323a313a3723313a3123313a3223313a3023313a3023313a3623313a3023313a3023313a3023313a3023313a3023303a5d303a5d33383a33343a313a3023303a5d303a5d32303a313a3023313a3023313a3023313a3023313a30235d5d2c5d, vB 104 0x323637653165626639323a313a3723313a3123313a3223313a3023313a3023313a3723313a3023313a3023313a3023313a3023313a3023303a5d303a5d33383a33343a313a3023303a5d303a5d32303a313a3023313a3023313a3023313a3023313a30235d5d2c5d, vB 104 0x626532313663343739323a313a3723313a3123313a3223313a3023313a3023313a3823313a3023313a3023313a3023313a3023313a3023303a5d303a5d33383a33343a313a3023303a5d303a5d32303a313a3023313a3023313a3023313a3023313a30235d5d2c5d, vB 104 0x353564336239636639323a313a3723313a3123313a3223313a3023313a3023313a3923313a3023313a3023313a3023313a3023313a3023303a5d303a5d33383a33343a313a3023303a5d303a5d32303a313a3023313a3023313a3023313a3023313a30235d5d2c5d, vB 105 0x666232363737343739333a313a3723313a3123313a3223313a3023313a3023323a313023313a3023313a3023313a3023313a3023313a3023303a5d303a5d33383a33343a313a3023303a5d303a5d32303a313a3023313a3023313a3023313a3023313a30235d5d2c5d, vB 105 0x393264386334636639333a313a3723313a3123313a3223313a3023313a3023323a313123313a3023313a3023313a3023313a3023313a3023303a5d303a5d33383a33343a313a3023303a5d303a5d32303a313a3023313a3023313a3023313a3023313a30235d5d2c5d, vB 105 0x326138613132363639333a313a3723313a3123313a3223313a3023313a3023323a313223313a3023313a3023313a3023313a3023313a3023303a5d303a5d33383a33343a313a3023303a5d303a5d32303a313a3023313a3023313a3023313a3023313a30235d5d2c5d, vB 105 0x633232643566656539333a313a3723313a3123313a3223313a3023313a3023323a313323313a3023313a3023313a3023313a3023313a3023303a5d303a5d33383a33343a313a3023303a5d303a5d32303a313a3023313a3023313a3023313a3023313a30235d5d2c5d, vB 105 0x353964666164373639333a313a3723313a3123313a3223313a3023313a3023323a313423313a3023313a3023313a3023313a3023313a3023303a5d303a5d33383a33343a313a3023303a5d303a5d32303a313a3023313a3023313a3023313a3023313a30235d5d2c5d, vB 105 0x663138326661666539333a313a3723313a3123313a3223313a3023313a3023323a313523313a3023313a3023313a3023313a3023313a3023303a5d303a5d33383a33343a313a3023303a5d303a5d32303a313a3023313a3023313a3023313a3023313a30235d5d2c5d, vB 105 0x383933343438393539333a313a3723313a3123313a3223313a3023313a3023323a313623313a3023313a3023313a3023313a3023313a3023303a5d303a5d33383a33343a313a3023303a5d303a5d32303a313a3023313a3023313a3023313a3023313a30235d5d2c5d, vB 105 0x323065363936316439333a313a3723313a3123313a3223313a3023313a3023323a313723313a3023313a3023313a3023313a3023313a3023303a5d303a5d33383a33343a313a3023303a5d303a5d32303a313a3023313a3023313a3023313a3023313a30235d5d2c5d, vB 105 0x623838396533613539333a313a3723313a3123313a3223313a3023313a3023323a313823313a3023313a3023313a3023313a3023313a3023303a5d303a5d33383a33343a313a3023303a5d303a5d32303a313a3023313a3023313a3023313a3023313a30235d5d2c5d, vB 105 0x353033623331336339333a313a3723313a3123313a3223313a3023313a3023323a313923313a3023313a3023313a3023313a3023313a3023303a5d303a5d33383a33343a313a3023303a5d303a5d32303a313a3023313a3023313a3023313a3023313a30235d5d2c5d, vB 105 0x336537363536346139333a313a3723313a3123313a3223313a3023313a3023323a323023313a3023313a3023313a3023313a3023313a3023303a5d303a5d33383a33343a313a3023303a5d303a5d32303a313a3023313a3023313a3023313a3023313a30235d5d2c5d, vB 105 0x643631396133643239333a313a3723313a3123313a3223313a3023313a3023323a323123313a3023313a3023313a3023313a3023313a3023303a5d303a5d33383a33343a313a3023303a5d303a5d32303a313a3023313a3023313a3023313a3023313a30235d5d2c5d, vB 105 0x366463626631356139333a313a3723313a3123313a3223313a3023313a3023323a323223313a3023313a3023313a3023313a3023313a3023303a5d303a5d33383a33343a313a3023303a5d303a5d32303a313a3023313a3023313a3023313a3023313a30235d5d2c5d, vB 105 0x303537643365663139333a313a3723313a3123313a3223313a3023313a3023323a323323313a3023313a3023313a3023313a3023313a3023303a5d303a5d33383a33343a313a3023303a5d303a5d32303a313a3023313a3023313a3023313a3023313a30235d5d2c5d, vB 105 0x396432303863373939333a313a3723313a3123313a3223313a3023313a3023323a323423313a3023313a3023313a3023313a3023313a3023303a5d303a5d33383a33343a313a3023303a5d303a5d32303a313a3023313a3023313a3023313a3023313a30235d5d2c5d, vB 105 0x333464326461303139333a313a3723313a3123313a3223313a3023313a3023323a323523313a3023313a3023313a3023313a3023313a3023303a5d303a5d33383a33343a313a3023303a5d303a5d32303a313a3023313a3023313a3023313a3023313a30235d5d2c5d, vB 105 0x636337353237393839333a313a3723313a3123313a3223313a3023313a3023323a323623313a3023313a3023313a3023313a3023313a3023303a5d303a5d33383a33343a313a3023303a5d303a5d32303a313a3023313a3023313a3023313a3023313a30235d5d2c5d, vB 105 0x363432373735323039333a313a3723313a3123313a3223313a3023313a3023323a323723313a3023313a3023313a3023313a3023313a3023303a5d303a5d33383a33343a313a3023303a5d303a5d32303a313a3023313a3023313a3023313a3023313a30235d5d2c5d, vB 105 0x666263616332613839333a313a3723313a3123313a3223313a3023313a3023323a323823313a3023313a3023313a3023313a3023313a3023303a5d303a5d33383a33343a313a3023303a5d303a5d32303a313a3023313a3023313a3023313a3023313a30235d5d2c5d]
def tx (i : Nat) : Value := txL.getD i v0
def wV (i : Nat) : Value := .agg #[vI 7, vI 1, vI 2, vI 0, vI 0, vI i, vI 0, vI 0, vI 0, vI 0, .slice none 0 0, vI 0, .slice none 0 0, vI 0, .slice none 0 0, .slice none 0 0, vI 0, vI 0, vI 0, vI 0, vI 0]
def mayE (i : Nat) : Ent := ⟨108, [wV i], 10, [], .bool true, [], 14, [], false⟩
def putN : List Nat := [116, 116, 116, 117, 117, 117, 117, 116, 117, 117, 117, 117, 117, 117, 117, 117, 117, 117, 117, 117, 117, 117, 117, 117, 117, 117, 117, 117, 117]
def getN : List Nat := [108, 108, 108, 110, 110, 110, 110, 110, 110, 110, 110, 110, 110, 110, 110, 110, 110, 110, 110, 110, 110, 110, 110, 110, 110, 110, 110, 110, 110]
def putE (i : Nat) : Ent := ⟨64, [wV i], 10, [(1, Uq0), (2, Uq1), (5, Uq2), (6, Uq2)], tx i, [], putN.getD i 0, [], false⟩
def getE (i : Nat) : Ent := ⟨63, [tx i], 10, [(1, Uq0), (2, Uq1), (5, Uq2), (6, Uq2)], .tuple #[wV i, vI 0], [], getN.getD i 0, [], false⟩
def cP : List Ent := [Me48, Me46, Me50, Me47, Me4, Me15, Me1, Me103]
theorem cP_c : AllEO cP := ⟨Me48_c, Me46_c, Me50_c, Me47_c, Me4_c, Me15_c, Me1_c, Me103_c, trivial⟩
def cG : List Ent := [Me55, Me68, Me67, Me66, Me65, Me64, Me63, Me62, Me7, Me17, Me8, Me46, Me56]
theorem cG_c : AllEO cG := ⟨Me55_c, Me68_c, Me67_c, Me66_c, Me65_c, Me64_c, Me63_c, Me62_c, Me7_c, Me17_c, Me8_c, Me46_c, Me56_c, trivial⟩
def allB (f : Nat → Bool) : Nat → Nat → Bool
  | _, 0 => true
  | a, n + 1 => f a && allB f (a + 1) n
theorem allB_ok {f : Nat → Bool} : ∀ {n a : Nat}, allB f a n = true → ∀ i, a ≤ i → i < a + n → f i = true
  | 0, a, _, i, h1, h2 => by omega
  | n + 1, a, h, i, h1, h2 => by
    have h : (f a && allB f (a + 1) n) = true := h
    rw [Bool.and_eq_true] at h
    by_cases e : i = a
    · rw [e]; exact h.1
    · exact allB_ok h.2 i (by omega) (by omega)
def rN (n j : Nat) : Nat := bif Nat.beq j 0 then 130 + 3 * n else 125 + 3 * n + 11 * j
def cellsN (n j : Nat) : List Value := bif Nat.beq j 0 then txL.take n else (txL.take n).drop j ++ [v0]
def wayO (n j : Nat) : AO := oR [vU (rN n j) 0 (n - j)] 89
def oW (n j : Nat) : AO := oR (cellsN n j) 9
def sendE (n j : Nat) : Ent := ⟨18, [vP 12 0, vI 0, .bool false], 131 + 3 * n + 11 * j, [(1, Uq0), (2, Uq1), (5, Uq2), (6, Uq2), (10, wayO n j), (11, Uq4), (12, Uq5), (126, Uq23), (127, Uq24), (rN n j, oW n j)], vI 0, [(10, some (wayO n (j + 1))), (126, some Uq23), (rN n (j + 1), some (oW n (j + 1)))], 131 + 3 * n + 11 * (j + 1), [10, 126], true⟩
def sL (n : Nat) : Nat → List Ent
  | 0 => []
  | k + 1 => sendE n k :: sL n k
def pL : Nat → List Ent
  | 0 => []
  | k + 1 => putE k :: pL k
/-- a piece run by the evaluator that hands on; what is written is told by bits -/
noncomputable def segZ (P : Program) (E : Eng.Env) (n nt : Nat) (σb : St) (c : Code) (s : Tr Value) (σ : St) (m : Nat) (os : List (Nat × AO)) (keep : List Nat) : Option (Exit × Tr Value × List Bool) :=
  kzEv P E n none nt c s σ 0 0 fun x s' σ' _ w => Bool.rec none (Bool.rec none (some (x, regK keep s', σ'.pc)) (backB σb m os keep s' σ')) (Nat.beq (Nat.mod w (Nat.pow 2 σb.next)) 0)
theorem segZ_ok {P : Program} {E : Eng.Env} {n nt : Nat} {σb : St} {c : Code} {s : Tr Value} {σ : St} {m : Nat} {os : List (Nat × AO)} {keep : List Nat} {y : Exit × Tr Value × List Bool} (hc : E.conc = true) (h : segZ P E n nt σb c s σ m os keep = some y) : segX P E n nt σb c s σ m os keep = some y := by
  obtain ⟨x, s', σ', φ, r, w, h1, acc, h2⟩ := kzEv_ok hc n _ _ _ _ _ _ _ _ _ h
  unfold segX
  rw [kEv_eq, h1]
  have h2 : (Bool.rec none (Bool.rec none (some (x, regK keep s', σ'.pc)) (backB σb m os keep s' σ')) (Nat.beq (Nat.mod w (Nat.pow 2 σb.next)) 0) : Option (Exit × Tr Value × List Bool)) = some y := h2
  cases hb : Nat.beq (Nat.mod w (Nat.pow 2 σb.next)) 0
  · rw [hb] at h2; cases h2
  rw [hb] at h2
  cases hk : backB σb m os keep s' σ'
  · rw [hk] at h2; cases h2
  rw [hk] at h2
  have hz : w % 2 ^ σb.next = 0 := Nat.eq_of_beq_eq_true hb
  have hf : footB σb.next φ = true := by
    have key : ∀ id k, φ.Wc id k → Nat.ble σb.next id = true := fun id k hw => by
      cases hl : Nat.ble σb.next id
      · have hlt : id < σb.next := by
          rcases Nat.lt_or_ge id σb.next with h | h
          · exact h
          · rw [Nat.ble_eq_true_of_le h] at hl; cases hl
        have ht := acc.w1 id k hw
        have := mod_bit (n := σb.next) ht hlt
        have e : Nat.mod w (Nat.pow 2 σb.next) = 0 := hz
        rw [e, Nat.zero_testBit] at this
        cases this
      · rfl
    unfold footB
    rw [Bool.and_eq_true]
    exact ⟨List.all_eq_true.2 fun p hp => key p.1 p.2 (.inl hp), List.all_eq_true.2 fun i hi => key i 0 (.inr hi)⟩
  show (bif footB σb.next φ && backB σb m os keep s' σ' then _ else _) = _
  rw [hf, hk]
  exact h2
noncomputable abbrev SQ : PSpec := ⟨[.int .i64, .int .i64], [.bool], fun _ => true, fun _ => (true, ())⟩
noncomputable def Q1 : Eng.Env := envQ smS [Ue8]
noncomputable def Q2 : Eng.Env := envQ smS (pL 29)
noncomputable def Q3 (n : Nat) : Eng.Env := envQ smS (sL n n)
noncomputable abbrev sB (n t : Int) : St := entσ Q1 SQ (n, t, ()) []
def oN0 : List (Nat × AO) := (10, Uq3) :: oN
def osB (m : Nat) : List (Nat × AO) := bif Nat.beq m 0 then oN0 else (10, wayO m 0) :: (130 + 3 * m, oW m 0) :: oN
def rsA (m : Nat) (t : Int) : List (Nat × Value) := [(0, vI m), (1, sy (.int .i64 t)), (6, vP 12 0)]
noncomputable def LC : Code := (cutC 5 (bodyOf Tryz.f8)).2
noncomputable def cB : Code := match LC with | .seq a _ => a | _ => .skip
noncomputable def RC : Code := match LC with | .seq _ a => a | _ => .skip
noncomputable abbrev X1 (n t : Int) (k : Nat) : Option (Tr Value × List Bool) := segR Tryz.prog Q1 100000 48 (sB n t) (cutC 5 (bodyOf Tryz.f8)).1 (entS Q1 SQ (n, t, ()) []) ⟨(sB n t).heap, (sB n t).next, [], [k]⟩ 131 oN0 [0, 1, 6]
noncomputable abbrev R1 (n t r : Int) (m : Nat) : Option (Tr Value × List Bool) := some (regT (rsA m t), [decide ((30 : Int) ≠ 0), decide (n.tmod 30 = r)])
noncomputable abbrev X2 (n t : Int) (m : Nat) : Option (Exit × Tr Value × List Bool) := segX Tryz.prog Q2 100000 48 (sB n t) cB (regT (rsA m t)) ⟨(backS (sB n t) 131 oN0).heap, 131, [], []⟩ (131 + 3 * m) (osB m) [0, 1, 6]
noncomputable abbrev R2 (t : Int) (m : Nat) : Option (Exit × Tr Value × List Bool) := some (.normal, regT (rsA m t), [])
def pcR (e : Bool) : Nat → Int → List Bool → List Bool
  | 0, c, acc => (decide (c > 0) == e) :: acc
  | j + 1, c, acc => pcR e j (c - 1) (decide (inK .i64 (c - 1)) :: (decide (c > 0) == true) :: acc)
def pcQ (m j : Nat) (b e : Bool) (t : Int) : List Bool := ((((m - j : Nat) : Int) == max 0 ((m : Int) - max 0 (min t 3000))) == true) :: decide (inK .i64 ((m : Int) - max 0 (min t 3000))) :: (decide ((m : Int) ≤ max 0 (min t 3000)) == b) :: pcR e j (min t 3000) []
def orQ (j : Nat) (b e : Bool) : List Nat := List.replicate j 1 ++ [bif e then 1 else 0, bif b then 1 else 0, 1]
noncomputable def X3 (n t : Int) (m : Nat) (e : Bool) (j : Nat) : Option (Exit × Tr Value × List Bool) := segZ Tryz.prog (Q3 m) 100000 48 (sB n t) RC (regT (rsA m t)) ⟨(backS (sB n t) (131 + 3 * m) (osB m)).heap, 131 + 3 * m, [], orQ j (Nat.beq j m) e⟩ (131 + 3 * m) [] [4]
noncomputable def R3 (t : Int) (m : Nat) (e : Bool) (j : Nat) : Option (Exit × Tr Value × List Bool) := some (.ret, regT [(4, .bool true)], pcQ m j (Nat.beq j m) e t)
def tabF (f : Nat → Option (Exit × Tr Value × List Bool)) : Nat → Nat → List (Option (Exit × Tr Value × List Bool))
  | _, 0 => []
  | a, k + 1 => f a :: tabF f (a + 1) k
def tabG (f : Nat → Option (Exit × Tr Value × List Bool)) : Nat → Nat → List (Option (Exit × Tr Value × List Bool))
  | _, 0 => []
  | a, k + 1 => f a :: tabG f (a + 1) k
theorem tab_eq {f g : Nat → Option (Exit × Tr Value × List Bool)} : ∀ {k a : Nat}, tabF f a k = tabG g a k → ∀ j, a ≤ j → j < a + k → f j = g j
  | 0, a, _, j, h1, h2 => by omega
  | k + 1, a, h, j, h1, h2 => by
    have h : f a :: tabF f (a + 1) k = g a :: tabG g (a + 1) k := h
    by_cases e : j = a
    · rw [e]; exact (List.cons.inj h).1
    · exact tab_eq (List.cons.inj h).2 j (by omega) (by omega)
end
end Go.Proofs.YtikedhemjoljpaaGreatDoor

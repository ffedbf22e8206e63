/-
  Which answers may be (say), closed: the contract of May. No condition.
-/
import Derived.Test.YtnblkjapeiaedaaGreatDoorSayB
import Derived.Test.YtnblkjapeiaedaaGreatDoorWordsC
namespace Go.Proofs.YtnblkjapeiaedaaGreatDoor
open Go Go.Eng Nice Go.RowKit
set_option maxRecDepth 1000000
theorem idx_l (l : List HeadD) (hl : l.length ≤ 140737488355328) (hp : ∀ h, h ∈ l → headP h = true) : ∀ (r i n : Nat), l.length = i + r → r < n → hidxH n l 0 (l.length : Int) (i : Int) = some ((bif (l.drop i).any (fun h => !headB h) then (i : Int) + ((l.drop i).takeWhile headB).length else -1), ()) := by
  intro r
  induction r with
  | zero =>
    intro i n hi hn
    obtain ⟨n, rfl⟩ : ∃ k, n = k + 1 := ⟨n - 1, by omega⟩
    rw [eidxH_0]
    unfold stepI
    rw [cdF (by omega), List.drop_eq_nil_of_le (by omega)]; rfl
  | succ r ih =>
    intro i n hi hn
    obtain ⟨n, rfl⟩ : ∃ k, n = k + 1 := ⟨n - 1, by omega⟩
    have hlt : i < l.length := by omega
    have hd : l.drop i = l.getD i (HeadT).dflt :: l.drop (i + 1) := by
      rw [List.drop_eq_getElem_cons hlt, List.getD_eq_getElem?_getD, List.getElem?_eq_getElem hlt]; rfl
    have hh : headP (l.getD i (HeadT).dflt) = true := hp _ (by
      rw [List.getD_eq_getElem?_getD, List.getElem?_eq_getElem hlt]; exact List.getElem_mem hlt)
    rw [eidxH_0]
    unfold stepI
    rw [cdT (by omega), show (i : Int).toNat = i from rfl, hd, List.any_cons, List.takeWhile_cons]
    cases hb : headB (l.getD i (HeadT).dflt)
    · rw [Bool.not_false, xT, gdB hh, gdT (by omega), gdT (by omega), gdT (by omega), xG, Bool.true_or, xT]; simp
    · have := ih (i + 1) n (by omega) (by omega)
      simp only [Int.natCast_add, Int.natCast_one] at this
      rw [Bool.not_true, xF, gdT (inK_i64.2 ⟨by omega, by omega⟩), gdB hh, gdT (by omega), gdT (by omega), gdT (by omega), xG, this, Bool.false_or]
      cases (l.drop (i + 1)).any fun h => !headB h
      · rfl
      · simp only [xT, if_true, List.length_cons, Int.natCast_add, Int.natCast_one]
        congr 2; omega
theorem headsP_iff {l : List HeadD} : headsP l = true ↔ l.length ≤ 140737488355328 ∧ ∀ h, h ∈ l → headP h = true := by
  unfold headsP; rw [Bool.and_eq_true, decide_eq_true_eq, List.all_eq_true]
theorem idxH_c : PC 62 (idxHS 39) := (pureO (sh := shOf shidxH) (envS_ok (l := [(39, notHS)]) ⟨notH_c, trivial⟩) gl_ne Tryz.func62 (by kernel_rfl) (by decide)).nice fun ⟨l, (), ()⟩ h => by
  obtain ⟨h1, h2⟩ := headsP_iff.1 h
  have h1 : l.length ≤ 140737488355328 := h1
  show oidxH _ = some (idxHN l, ())
  rw [oidxH_g, eidxH_g]
  refine Eq.trans (idx_l l h1 h2 l.length 0 heads0 (by omega) (by unfold heads0; omega)) ?_
  unfold idxHN
  rw [List.drop_zero]
  cases l.any fun h => !headB h
  · rfl
  · simp
noncomputable def oanyH (x : DenL [.slice HeadT, .fn 39]) : Option (DenL [.bool]) := fO Tryz.prog (envS [(62, idxHS 39)]) (shOf []) Tryz.f38 [.slice HeadT, .fn 39] [.bool] x
theorem eanyH (l : List HeadD) : oanyH (l, (), ()) = wAny l := by kernel_rfl
theorem anyH_c : PC 38 (anyS 39) := (pureO (envS_ok (l := [(62, idxHS 39)]) ⟨idxH_c, trivial⟩) gl_ne Tryz.func38 (by kernel_rfl) (by decide)).nice fun ⟨l, (), ()⟩ h => by
  have h : headsP l = true := h
  show oanyH _ = some (anyN l, ())
  rw [eanyH]
  unfold wAny
  rw [anyN_eq, gdB h, gdB h, xG, xG]
  cases anyN l <;> rfl
noncomputable def oamay (x : DenL [AnsT]) : Option (DenL [.bool]) := fO Tryz.prog (envS [(20, wordsS), (38, anyS 39)]) (shOf []) Tryz.f17 [AnsT] [.bool] x
theorem eamay (n : Int) (hs : List HeadD) (b : List UInt8) : oamay ((n, hs, b, ()), ()) = wMay n hs b := by kernel_rfl
theorem amay_c : PC 17 amayAS := (pureO (envS_ok (l := [(20, wordsS), (38, anyS 39)]) ⟨words_c, anyH_c, trivial⟩) gl_ne Tryz.func17 (by kernel_rfl) (by decide)).nice fun ⟨⟨n, hs, b, ()⟩, ()⟩ h => by
  show oamay _ = _
  rw [eamay]; exact wMay_n h
end Go.Proofs.YtnblkjapeiaedaaGreatDoor

/-
  armariumlaw15.ScanValue: the plain law and the contract of the function. No condition.
-/
import Derived.Test.YtgchplamcnljaaaGreatDoorAtoi
import Derived.Test.YtgchplamcnljaaaGreatDoorPScan
import Derived.Test.YtgchplamcnljaaaGreatDoorEng11
import Derived.Test.YtgchplamcnljaaaGreatDoorBegC
namespace Go.Proofs.YtgchplamcnljaaaGreatDoor
open Go Go.Eng Nice
set_option maxRecDepth 1000000
theorem value_len : ∀ (l : List (List UInt8 × List UInt8 × Unit)) (n : List UInt8), (∀ h, h ∈ l → h.2.1.length ≤ 140737488355328) → (valueN l n).1.length ≤ 140737488355328
  | [], _, _ => by simp [valueN]
  | h :: r, n, ha => by
    simp only [valueN]
    cases lower h.1 == lower n
    · exact value_len r n fun x hx => ha x (List.mem_cons_of_mem _ hx)
    · exact ha h (List.mem_cons_self ..)
theorem law_n (x : DenL [ReqT, .str]) (hb : BdL [ReqT, .str] x) : olaw x = some (true, ()) := by
  obtain ⟨r, s, ⟨⟩⟩ := x
  obtain ⟨⟨-, -, -, ⟨hl, ha⟩, -⟩, hs, -⟩ := hb
  have hs : s.length ≤ 140737488355328 := hs
  have ha : ∀ h, h ∈ r.2.2.2.1 → h.1.length ≤ 140737488355328 ∧ h.2.1.length ≤ 140737488355328 := fun h hh => ⟨(ha h hh).1, (ha h hh).2.1⟩
  rw [elaw]
  generalize hL : cutL r.2.2.2.1 none (some (min (↑(List.length r.2.2.2.1) : Int) (12 : Int))) = l
  generalize hC : cut s 30 = c
  have hsub : ∀ h, h ∈ l → h ∈ r.2.2.2.1 := by
    subst hL
    intro h hh
    simp only [cutL] at hh
    first | exact List.mem_of_mem_take hh | exact List.mem_of_mem_drop (List.mem_of_mem_take hh) | exact List.mem_of_mem_take (List.mem_of_mem_drop hh)
  have hll : l.length ≤ 140737488355328 := by
    subst hL
    have : r.2.2.2.1.length ≤ 140737488355328 := hl
    simp only [cutL, List.length_take]
    omega
  have hc : lowerP c = true := by
    subst hC
    refine decide_eq_true ?_
    unfold cut
    rw [List.length_take]
    omega
  have hcl : lowerP (lower c) = true := by unfold lowerP at hc ⊢; rw [lower_len]; exact hc
  have h1 : l.all (fun h => lowerP h.1) = true := List.all_eq_true.2 fun h hh => decide_eq_true (ha h (hsub h hh)).1
  have h2 : l.all (fun h => lowerP h.1 && lowerP h.2.1) = true := List.all_eq_true.2 fun h hh => by
    rw [Bool.and_eq_true]; exact ⟨decide_eq_true (ha h (hsub h hh)).1, decide_eq_true (ha h (hsub h hh)).2⟩
  have hv : ∀ n, lowerP n = true → valueP l n = true := fun n hn => by
    unfold valueP; rw [hn, h1, decide_eq_true hll]; rfl
  have hr : refLenP l = true := by unfold refLenP; rw [h2, decide_eq_true hll]; rfl
  have hsl : scanLenP l = true := by
    unfold scanLenP
    rw [hv clen (by decide), Bool.true_and]
    exact decide_eq_true (value_len l clen fun h hh => (ha h (hsub h hh)).2)
  simp only [gdB hr, gdB hsl, gdB (hv c hc), gdB (hv _ hcl), gdB hc, gd_nil, valueN_lower, beq_self_eq_true, cond_true]
  rw [gdT (by omega), gdT (by omega), gd_nil]
  cases (valueN l c).2 <;> simp only [cond_true, cond_false]
  all_goals
    cases h4 : (refLen l).2 == (400 : Int)
    · have h5 : (refLen l).2 ≠ 400 := fun e => by rw [e] at h4; cases h4
      rw [cond_false, len_law l h5, beq_self_eq_true, cond_true]
    · rw [cond_true]
theorem begun_c : PC 4 trueS := pure_true begun15_run
theorem law_c : PC 3 (ofO [ReqT, .str] [.bool] olaw) := (pureO (envS_ok (l := [(4, trueS), (5, cutS), (6, valueS), (7, valueS), (8, lowerS), (9, refLenS), (10, scanLenS)]) ⟨begun_c, cut_c, sval_c, rval_c, rlower_c, rlen_c, slen_c, trivial⟩) gl_ne Tryz.func3 (by kernel_rfl) (by decide))
theorem law_run {w : World} (hgl : GlW glC w) {args : Array Value} {x : DenL [ReqT, .str]} (hx : RdAll (fzW w) [ReqT, .str] x args.toList) (hb : BdL [ReqT, .str] x) : Calls Tryz.prog 3 args w fun e w' => e = .returned (.bool true) ∧ Same w w' :=
  law_calls law_c (fun x hb => by
    have := law_n x hb
    exact ⟨by show (olaw x).isSome = true; rw [this]; rfl, by show (olaw x).getD _ = _; rw [this]; rfl⟩) hgl hx hb
end Go.Proofs.YtgchplamcnljaaaGreatDoor

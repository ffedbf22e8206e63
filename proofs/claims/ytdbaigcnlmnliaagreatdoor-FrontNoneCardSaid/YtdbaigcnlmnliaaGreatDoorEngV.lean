/-
  The engine, part V: the evaluator is sound, at any depth. No condition.
-/
import Derived.Test.YtdbaigcnlmnliaaGreatDoorEngU
noncomputable section
namespace Go.Eng
open Go
section
variable {P : Program} {E : Env} (hE : E.OK P)

theorem noLoop {c : Code} {Q : Code → Prop} (h : ∀ body, c ≠ .loop body) : ∀ body, c = .loop body → Q body := fun body e => absurd e (h body)

include hE
theorem ev_ok : ∀ n, EvOK P E n
  | 0 => ⟨fun nt c s σ x s' σ' φ h => by simp [ev] at h, fun body nt c s σ x s' σ' φ h => by simp [ev] at h⟩
  | n + 1 => by
    have ih := ev_ok n
    have hC := callBy_sound hE ih
    refine ⟨fun nt c s σ x s' σ' φ h => ?_, fun body nt c s σ x s' σ' φ h => ?_⟩
    · cases c with
      | skip =>
        simp only [ev, Option.some.injEq, Prod.mk.injEq] at h
        obtain ⟨rfl, rfl, rfl, rfl⟩ := h
        exact ⟨Abs3.refl _ _, Good.here fun Q a w h => wp_skip h, noLoop (by simp)⟩
      | label l =>
        simp only [ev, Option.some.injEq, Prod.mk.injEq] at h
        obtain ⟨rfl, rfl, rfl, rfl⟩ := h
        exact ⟨Abs3.refl _ _, Good.here fun Q a w h => wp_label h, noLoop (by simp)⟩
      | ret =>
        simp only [ev, Option.some.injEq, Prod.mk.injEq] at h
        obtain ⟨rfl, rfl, rfl, rfl⟩ := h
        exact ⟨Abs3.refl _ _, Good.here fun Q a w h => wp_ret h, noLoop (by simp)⟩
      | exit id =>
        simp only [ev, Option.some.injEq, Prod.mk.injEq] at h
        obtain ⟨rfl, rfl, rfl, rfl⟩ := h
        exact ⟨Abs3.refl _ _, Good.here fun Q a w h => wp_exit h, noLoop (by simp)⟩
      | goto l =>
        simp only [ev, Option.some.injEq, Prod.mk.injEq] at h
        obtain ⟨rfl, rfl, rfl, rfl⟩ := h
        exact ⟨Abs3.refl _ _, Good.here fun Q a w h => wp_goto h, noLoop (by simp)⟩
      | region id ops draw =>
        cases draw with
        | false =>
          simp only [ev] at h
          split at h
          · rename_i s1 σ1 φ1 h1
            simp only [Option.some.injEq, Prod.mk.injEq] at h
            obtain ⟨rfl, rfl, rfl, rfl⟩ := h
            obtain ⟨a1, a2, a3⟩ := evOps_sound hE hC ops.toList 0 _ _ _ _ _ h1 fun j _ => by simp
            refine ⟨⟨a1, a2⟩, fun hok D ι w a Q hwf hG hd hs ho hQ => wp_region ?_, noLoop (by simp)⟩
            have := a3 hwf hok D ι w a Q hwf hG hd hs ho hQ
            rw [List.range_eq_range']
            simpa using this
          · cases h
        | true =>
          simp only [ev] at h
          split at h
          · rename_i s1 σ1 recs h1
            cases hb : okAll ops ops.toList recs [] ops.toList recs
            · rw [hb] at h; cases h
            · rw [hb, cond_true] at h
              simp only [Option.some.injEq, Prod.mk.injEq] at h
              obtain ⟨rfl, rfl, rfl, rfl⟩ := h
              obtain ⟨a1, a2, a3⟩ := evDraw_sound hE hC h1 hb
              refine ⟨⟨a1, a2⟩, fun hok D ι w a Q hwf hG hd hs ho hQ => wp_region_any hE.mixed ?_, noLoop (by simp)⟩
              have hh : HOn P D ι σ.H (recsFoot recs) { w with drawn := w.drawn + 1 } := ⟨ho.hd, ho.ce, ho.inj⟩
              refine a3 hok D ι _ a Q hwf hG hd hs hh fun ι' w' a' h1 h2 h3 => hQ ι' w' a' h1 h2 ?_
              exact ⟨h3.io, h3.size, h3.os, h3.out, h3.hdr, h3.cel, h3.ahdr, h3.acel, h3.cfr, h3.fresh, h3.freshF, h3.dist, h3.nl, h3.wl, h3.wrm, h3.wrow⟩
          · cases h
      | seq u v =>
        simp only [ev] at h
        split at h
        · rename_i e s1 σ1 φ1 h1
          obtain ⟨a1, g1, -⟩ := ih.plain _ _ _ _ _ _ _ _ h1
          split at h
          · split at h
            · rename_i e2 s2 σ2 φ2 h2
              simp only [Option.some.injEq, Prod.mk.injEq] at h
              obtain ⟨rfl, rfl, rfl, rfl⟩ := h
              obtain ⟨b1, g2, -⟩ := ih.plain _ _ _ _ _ _ _ _ h2
              refine ⟨a1.trans b1, g1.seq g2 a1 b1 fun Q a w hw => wp_seq (wp_mono hw ?_), noLoop (by simp)⟩
              rintro e a w ⟨rfl, h⟩
              exact h
            · cases h
          · rename_i hno
            simp only [Option.some.injEq, Prod.mk.injEq] at h
            obtain ⟨rfl, rfl, rfl, rfl⟩ := h
            refine ⟨a1, g1.mono fun Q a w hw => wp_seq (wp_mono hw ?_), noLoop (by simp)⟩
            rintro e a w ⟨rfl, h⟩
            cases e <;> first | exact h | exact absurd rfl hno
        · cases h
      | cond cnd u v =>
        simp only [ev] at h
        have hc : ∀ b, av E.G s cnd = some (.bool b) → ∀ (D : Nat → Prop) (ι : Nat → Reg) (a : Act), GI E D ι → SRel nt D ι s a → a.eval cnd = .bool b := by
          intro b hb D ι a hG hs
          have hr : Rel E.G D ι s a.eval cnd := rel_of hG fun t _ v hv => (hs.2 t v hv).2
          have := hr _ hb
          generalize a.eval cnd = z at this
          cases this; rfl
        split at h
        · rename_i hb
          obtain ⟨a1, g1, -⟩ := ih.plain _ _ _ _ _ _ _ _ h
          exact ⟨a1, fun hok D ι w a Q hwf hG hd hs ho hQ => wp_cond_true (hc _ hb D ι a hG hs) (g1 hok D ι w a Q hwf hG hd hs ho hQ), noLoop (by simp)⟩
        · rename_i hb
          obtain ⟨a1, g1, -⟩ := ih.plain _ _ _ _ _ _ _ _ h
          exact ⟨a1, fun hok D ι w a Q hwf hG hd hs ho hQ => wp_cond_false (hc _ hb D ι a hG hs) (g1 hok D ι w a Q hwf hG hd hs ho hQ), noLoop (by simp)⟩
        · cases h
      | block id body =>
        simp only [ev] at h
        split at h
        · rename_i e s1 σ1 φ1 h1
          obtain ⟨a1, g1, -⟩ := ih.plain _ _ _ _ _ _ _ _ h1
          split at h
          · rename_i id'
            cases hb : Nat.beq id' id
            · rw [hb, cond_false] at h
              have hne : id' ≠ id := fun e => by rw [beq_t e] at hb; cases hb
              simp only [Option.some.injEq, Prod.mk.injEq] at h
              obtain ⟨rfl, rfl, rfl, rfl⟩ := h
              refine ⟨a1, g1.mono fun Q a w hw => wp_block (wp_mono hw ?_), noLoop (by simp)⟩
              rintro e a w ⟨rfl, h⟩
              simp only [Exit.inBlock, hne, if_false]
              exact h
            · rw [hb, cond_true] at h
              have he := Nat.eq_of_beq_eq_true hb
              simp only [Option.some.injEq, Prod.mk.injEq] at h
              obtain ⟨rfl, rfl, rfl, rfl⟩ := h
              refine ⟨a1, g1.mono fun Q a w hw => wp_block (wp_mono hw ?_), noLoop (by simp)⟩
              rintro e a w ⟨rfl, h⟩
              simp only [Exit.inBlock, he, if_true]
              exact h
          · rename_i hno
            simp only [Option.some.injEq, Prod.mk.injEq] at h
            obtain ⟨rfl, rfl, rfl, rfl⟩ := h
            refine ⟨a1, g1.mono fun Q a w hw => wp_block (wp_mono hw ?_), noLoop (by simp)⟩
            rintro e a w ⟨rfl, h⟩
            cases e <;> first | exact h | exact absurd rfl (hno _)
        · cases h
      | loop body =>
        have key : Abs3 σ σ' φ ∧ Good P E nt s s' σ σ' φ x (fun Q a w => wpL P body Q a w) := by
          simp only [ev] at h
          split at h
          · rename_i e s1 σ1 φ1 h1
            obtain ⟨a1, g1, -⟩ := ih.plain _ _ _ _ _ _ _ _ h1
            split at h
            · split at h
              · rename_i e2 s2 σ2 φ2 h2
                simp only [Option.some.injEq, Prod.mk.injEq] at h
                obtain ⟨rfl, rfl, rfl, rfl⟩ := h
                obtain ⟨b1, -, g2⟩ := ih.plain _ _ _ _ _ _ _ _ h2
                refine ⟨a1.trans b1, g1.seq (g2 body rfl) a1 b1 fun Q a w hw => wpL_of (wp_mono hw ?_)⟩
                rintro e a w ⟨rfl, h⟩
                exact h
              · cases h
            · rename_i hno
              simp only [Option.some.injEq, Prod.mk.injEq] at h
              obtain ⟨rfl, rfl, rfl, rfl⟩ := h
              refine ⟨a1, g1.mono fun Q a w hw => wpL_of (wp_mono hw ?_)⟩
              rintro e a w ⟨rfl, h⟩
              cases e <;> first | exact h | exact absurd rfl hno
          · cases h
        refine ⟨key.1, fun hok D ι w a Q hwf hG hd hs ho hQ => wp_loop_of (key.2 hok D ι w a Q hwf hG hd hs ho hQ), fun b e => ?_⟩
        cases e
        exact key.2
      | scope body =>
        simp only [ev] at h
        obtain ⟨a1, g1⟩ := ih.scope _ _ _ _ _ _ _ _ _ h
        exact ⟨a1, fun hok D ι w a Q hwf hG hd hs ho hQ => wp_scope_of (g1 hok D ι w a Q hwf hG hd hs ho hQ), noLoop (by simp)⟩
      | rangeFunc f ps as b => simp [ev] at h
      | refuse why => simp [ev] at h
    · simp only [ev] at h
      split at h
      · rename_i e s1 σ1 φ1 h1
        obtain ⟨a1, g1, -⟩ := ih.plain _ _ _ _ _ _ _ _ h1
        split at h
        · rename_i l
          split at h
          · rename_i rest hf
            split at h
            · rename_i y s2 σ2 φ2 h2
              simp only [Option.some.injEq, Prod.mk.injEq] at h
              obtain ⟨rfl, rfl, rfl, rfl⟩ := h
              obtain ⟨b1, g2⟩ := ih.scope _ _ _ _ _ _ _ _ _ h2
              refine ⟨a1.trans b1, g1.seq g2 a1 b1 fun Q a w hw => wpS_of (wp_mono hw ?_)⟩
              rintro e a w ⟨rfl, h⟩
              simp only [Exit.inScope, hf]
              exact h
            · cases h
          · rename_i hf
            simp only [Option.some.injEq, Prod.mk.injEq] at h
            obtain ⟨rfl, rfl, rfl, rfl⟩ := h
            refine ⟨a1, g1.mono fun Q a w hw => wpS_of (wp_mono hw ?_)⟩
            rintro e a w ⟨rfl, h⟩
            simp only [Exit.inScope, hf]
            exact h
        · rename_i hno
          simp only [Option.some.injEq, Prod.mk.injEq] at h
          obtain ⟨rfl, rfl, rfl, rfl⟩ := h
          refine ⟨a1, g1.mono fun Q a w hw => wpS_of (wp_mono hw ?_)⟩
          rintro e a w ⟨rfl, h⟩
          cases e <;> first | exact h | exact absurd rfl (hno _)
      · cases h

/-- a call of the evaluator -/
def evCall (P : Program) (E : Env) (n : Nat) : CallF := callBy E fun nt c s σ => ev P E n none nt c s σ
theorem evCall_sound (n : Nat) : CallSound P E (evCall P E n) := callBy_sound hE (ev_ok hE n)
end
end Go.Eng

/-
  The engine, part O: operations in the order of the text. No condition.
-/
import Derived.Test.YtdbaigcnlmnliaaGreatDoorEngN
noncomputable section
namespace Go.Eng
open Go

section
variable {P : Program} {E : Env} (hE : E.OK P) {call : CallF} (hC : CallSound P E call) {D : Nat → Prop} {ι : Nat → Reg} {σ σ1 σ2 : St} {w : World} {s s1 : Tr Value} {a : Act} {nt : Nat} {ops : Array Oper} {φ : Foot}

theorem rng_union (h1 : σ.next ≤ σ1.next) (h2 : σ1.next ≤ σ2.next) : (fun i => σ.rng σ1 i ∨ σ1.rng σ2 i) = σ.rng σ2 := by
  funext i
  apply propext
  simp only [St.rng]
  omega
theorem D_union (D : Nat → Prop) (h1 : σ.next ≤ σ1.next) (h2 : σ1.next ≤ σ2.next) : (fun i => (D i ∨ σ.rng σ1 i) ∨ σ1.rng σ2 i) = fun i => D i ∨ σ.rng σ2 i := by
  funext i
  have : σ.rng σ2 i = (σ.rng σ1 i ∨ σ1.rng σ2 i) := congrFun (rng_union h1 h2).symm i
  rw [this]
  apply propext
  exact or_assoc

theorem GI.next {ι' : Nat → Reg} {N : Nat → Prop} (h : GI E D ι) (hd : ∀ id, N id → ¬ D id) (hi : ∀ id, ¬ N id → ι' id = ι id) : GI E (fun i => D i ∨ N i) ι' := by
  intro g hg
  obtain ⟨h1, h2, h3⟩ := h g hg
  have : ι' g = ι g := hi g fun hn => hd g hn h1
  exact ⟨.inl h1, by rw [this]; exact h2, by rw [this]; exact h3⟩

theorem SRel.mono {D' : Nat → Prop} {ι' : Nat → Reg} (h : SRel nt D ι s a) (hD : ∀ i, D i → D' i) (hi : ∀ i, D i → ι' i = ι i) : SRel nt D' ι' s a :=
  ⟨h.1, fun t v e => ⟨(h.2 t v e).1, (h.2 t v e).2.mono hD hi⟩⟩

theorem put_size (a : Act) (dst : Option Tmp) (v : Value) : (a.put dst v).tmps.size = a.tmps.size := by
  cases dst <;> simp [Act.put]
theorem put_defers (a : Act) (dst : Option Tmp) (v : Value) : (a.put dst v).defers = a.defers := by
  cases dst <;> rfl
theorem put_get_ne (a : Act) (dst : Option Tmp) (v : Value) (t : Nat) (h : dst ≠ some t) : (a.put dst v).tmps.getD t undef = a.tmps.getD t undef := by
  cases dst with
  | none => rfl
  | some d =>
    have : d ≠ t := fun e => h (by rw [e])
    simp only [Act.put, Array.getD_eq_getD_getElem?, Array.getElem?_setIfInBounds_ne this]
theorem put_get_eq (a : Act) (d : Nat) (v : Value) (h : d < a.tmps.size) : (a.put (some d) v).tmps.getD d undef = v := by
  simp [Act.put, h]

theorem SRel.put {dst : Option Tmp} {v v' : Value} (h : SRel nt D ι s a) (hp : PutSpec nt s s1 dst v) (hv : VR D ι v v') : SRel nt D ι s1 (a.put dst v') := by
  refine ⟨(put_size a dst v').trans h.1, fun t u e => ?_⟩
  cases dst with
  | none => rw [hp.1 rfl] at e; exact h.2 t u e
  | some d =>
    obtain ⟨p1, p2⟩ := hp.2 d rfl
    rw [p2 t] at e
    split at e
    · rename_i ht
      subst ht
      simp only [Option.some.injEq] at e
      subst e
      exact ⟨p1, by rw [put_get_eq a t v' (by rw [h.1]; exact p1)]; exact hv⟩
    · rename_i ht
      rw [put_get_ne a (some d) v' t fun e => ht (Option.some.inj e).symm]
      exact h.2 t u e

include hE hC in
theorem evOps_sound : ∀ (os : List Oper) (k : Nat) (s s' : Tr Value) (σ σ' : St) (φ : Foot), evOps P E call nt ops.toList os s σ = some (s', σ', φ) → (∀ j, j < os.length → os[j]? = ops[k + j]?) →
    σ.next ≤ σ'.next ∧ (σ.wf → σ'.wf ∧ AFr σ σ' φ) ∧
    (σ.wf → σ'.Ok → ∀ (D : Nat → Prop) (ι : Nat → Reg) (w : World) (a : Act) (Q : Exit → Act → World → Prop), σ.wf → GI E D ι → (∀ id, σ.rng σ' id → ¬ D id) → SRel nt D ι s a → HOn P D ι σ.H φ w →
      (∀ ι' w' a', SRel nt (fun i => D i ∨ σ.rng σ' i) ι' s' a' → a'.defers = a.defers → Post P D (σ.rng σ') ι σ.H w φ ι' σ'.H w' → Q .normal a' w') → wpOps P ops Q (List.range' k os.length) a w)
  | [], k, s, s', σ, σ', φ, h, _ => by
    simp only [evOps, Option.some.injEq, Prod.mk.injEq] at h
    obtain ⟨rfl, rfl, rfl⟩ := h
    refine ⟨Nat.le_refl _, fun hw => ⟨hw, AFr.refl _ _⟩, fun _ _ D ι w a Q _ _ _ hs ho hQ => ?_⟩
    simp only [List.length_nil, List.range'_zero, wpOps]
    exact hQ ι w a (hs.mono (fun _ => .inl) fun _ _ => rfl) rfl (Post.refl _ _ _ _ _ _ (St.rng_self σ))
  | o :: os, k, s, s', σ, σ', φ, h, hk => by
    simp only [evOps] at h
    split at h
    · rename_i s1 σ1 φ1 h1
      split at h
      · rename_i s2 σ2 φ2 h2
        simp only [Option.some.injEq, Prod.mk.injEq] at h
        obtain ⟨rfl, rfl, rfl⟩ := h
        obtain ⟨a1, a2, v, a3, a4⟩ := aStep_sound hE hC h1
        obtain ⟨b1, b2, b3⟩ := evOps_sound os (k + 1) s1 s2 σ1 σ2 φ2 h2 fun j hj => by
          have := hk (j + 1) (by simp; omega)
          simp only [List.getElem?_cons_succ] at this
          rw [this]; congr 1; omega
        refine ⟨Nat.le_trans a1 b1, fun hw => ?_, ?_⟩
        · obtain ⟨w1, f1⟩ := a2 hw
          obtain ⟨w2, f2⟩ := b2 w1
          exact ⟨w2, f1.trans f2 a1 b1⟩
        · intro hwf0 hok D ι w a Q hwf hg hd hs ho hQ
          have hok1 : σ1.Ok := (b2 (a2 hwf0).1).2.ok hok
          have hi : ops[k]? = some o := by
            have := hk 0 (by simp)
            simpa using this.symm
          have hd1 : ∀ id, σ.rng σ1 id → ¬ D id := fun id hr => hd id (by simp only [St.rng] at hr ⊢; omega)
          rw [List.length_cons, List.range'_succ, wpOps_cons]
          refine a4 hok1 D ι w a k _ Q hi hwf hg hd1 hs.1 (fun t _ v hv => hs.2 t v hv) (ho.sub (fun id x => Foot.add_Fi.2 (.inl x)) fun id k x => Foot.add_Fc.2 (.inl x)) ?_
          intro v' ι' w' hv hp
          have hs1 : SRel nt (fun i => D i ∨ σ.rng σ1 i) ι' s1 (a.put o.dst v') :=
            (hs.mono (fun _ => .inl) fun i hi => hp.io i fun hn => hd1 i hn hi).put a3 hv
          have ho2 := hp.hon ho hd1
          have hd2 : ∀ id, σ1.rng σ2 id → ¬ (D id ∨ σ.rng σ1 id) := fun id hr hx => by
            rcases hx with hx | hx
            · exact hd id (by simp only [St.rng] at hr ⊢; omega) hx
            · simp only [St.rng] at hr hx; omega
          refine b3 (a2 hwf).1 hok _ ι' w' (a.put o.dst v') Q (a2 hwf).1 (hg.next hd1 hp.io) hd2 hs1 ho2 ?_
          intro ι2 w2 a2' hs2 hdf hp2
          have ht := Post.trans ho hp hp2 hd2 fun id hr => by
            have : σ.next ≤ id := by simp only [St.rng] at hr; omega
            simp only [St.H, hwf id this, Option.map_none]
          rw [rng_union a1 b1] at ht
          rw [D_union D a1 b1] at hs2
          exact hQ ι2 w2 a2' hs2 (hdf.trans (put_defers _ _ _)) ht
      · cases h
    · cases h
end
end Go.Eng

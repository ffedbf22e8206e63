/-
  The engine, part S: steps that touch nothing in common, in any order that the edges allow. No condition.
-/
import Derived.Test.YtdbaigcnlmnliaaGreatDoorEngR
noncomputable section
namespace Go.Eng
open Go

def recOf (Z : Nat → St) (F : Nat → Foot) (i : Nat) : Rec := ⟨(F i).trim (Z i).next, (Z i).next, (Z (i + 1)).next⟩

structure Run (P : Program) (E : Env) (call : CallF) (nt : Nat) (ops : Array Oper) (S : Nat → Tr Value) (Z : Nat → St) (F : Nat → Foot) : Prop where
  step : ∀ (i : Nat) o, ops[i]? = some o → aStep P E call nt ops.toList o (S i) (Z i) = some (S (i + 1), Z (i + 1), F i)
  back : ∀ (j : Nat) o, ops[j]? = some o → ∀ e ∈ o.after.toList, Region.binds .any e = true → e.on < j
  pair : ∀ (i j : Nat) x y, i < j → ops[i]? = some x → ops[j]? = some y → Ahead ops i j ∨ okPair ops x y (recOf Z F i) (recOf Z F j) = true
  wf0 : (Z 0).wf

section
variable {P : Program} {E : Env} (hE : E.OK P) {call : CallF} (hC : CallSound P E call) {nt : Nat} {ops : Array Oper} {S : Nat → Tr Value} {Z : Nat → St} {F : Nat → Foot} (hR : Run P E call nt ops S Z F)

theorem ops_some {i : Nat} (h : i < ops.size) : ∃ o, ops[i]? = some o := ⟨ops[i], Array.getElem?_eq_getElem h⟩
theorem ops_lt {i : Nat} {o : Oper} (h : ops[i]? = some o) : i < ops.size := by
  rcases Nat.lt_or_ge i ops.size with hl | hg
  · exact hl
  · rw [Array.getElem?_eq_none hg] at h; cases h

include hE hC hR
theorem Run.next {i : Nat} (h : i < ops.size) : (Z i).next ≤ (Z (i + 1)).next := by
  obtain ⟨o, ho⟩ := ops_some h
  exact (aStep_sound hE hC (hR.step i o ho)).1
theorem Run.le {i : Nat} : ∀ {j : Nat}, i ≤ j → j ≤ ops.size → (Z i).next ≤ (Z j).next := by
  intro j
  induction j with
  | zero => intro h _; have : i = 0 := by omega
            subst this; exact Nat.le_refl _
  | succ j ih =>
    intro h1 h2
    by_cases e : i = j + 1
    · subst e; exact Nat.le_refl _
    · exact Nat.le_trans (ih (by omega) (by omega)) (hR.next hE hC (by omega))
theorem Run.wf : ∀ {i : Nat}, i ≤ ops.size → (Z i).wf
  | 0, _ => hR.wf0
  | i + 1, h => by
    obtain ⟨o, ho⟩ := ops_some (ops := ops) (i := i) (by omega)
    exact ((aStep_sound hE hC (hR.step i o ho)).2.1 (Run.wf (by omega))).1
theorem Run.afr {i : Nat} (h : i < ops.size) : AFr (Z i) (Z (i + 1)) (recOf Z F i).φ := by
  obtain ⟨o, ho⟩ := ops_some h
  have hw := hR.wf hE hC (i := i) (by omega)
  have hw' := hR.wf hE hC (i := i + 1) (by omega)
  exact (((aStep_sound hE hC (hR.step i o ho)).2.1 hw).2).trim hw hw'
theorem Run.ok (hok : (Z ops.size).Ok) : ∀ (n i : Nat), i + n = ops.size → (Z i).Ok
  | 0, i, h => by rw [show i = ops.size by omega]; exact hok
  | n + 1, i, h => (hR.afr hE hC (i := i) (by omega)).ok (Run.ok hok n (i + 1) (by omega))
omit hE hC hR

def tH (Z : Nat → St) (F : Nat → Foot) (id j : Nat) : Prop := (recOf Z F j).φ.Wi id ∨ (Z j).rng (Z (j + 1)) id
def tC (Z : Nat → St) (F : Nat → Foot) (id k j : Nat) : Prop := (recOf Z F j).φ.Wc id k ∨ (Z j).rng (Z (j + 1)) id
def tS (ops : Array Oper) (t j : Nat) : Prop := ∃ o, ops[j]? = some o ∧ o.dst = some t

/-- the state of a run in which the steps dn have been made -/
structure DInv (P : Program) (nt : Nat) (ops : Array Oper) (S : Nat → Tr Value) (Z : Nat → St) (F : Nat → Foot) (D : Nat → Prop) (ι0 : Nat → Reg) (w0 : World) (ds : List Deferred) (dn : Nat → Prop)
    (ι : Nat → Reg) (g : H) (N : Nat → Prop) (φ : Foot) (a : Act) (w : World) : Prop where
  lt : ∀ j, dn j → j < ops.size
  hN : ∀ id, N id ↔ ∃ j, dn j ∧ (Z j).rng (Z (j + 1)) id
  post : Post P D N ι0 (Z 0).H w0 φ ι g w
  wi : ∀ id, φ.Wi id ↔ ∃ j, dn j ∧ (recOf Z F j).φ.Wi id
  wc : ∀ id k, φ.Wc id k ↔ ∃ j, dn j ∧ (recOf Z F j).φ.Wc id k
  fi : ∀ id, φ.Fi id → ∃ j, dn j ∧ (recOf Z F j).φ.Fi id
  fc : ∀ id k, φ.Fc id k → ∃ j, dn j ∧ (recOf Z F j).φ.Fc id k
  vh : ∀ id m, Last (tH Z F id) dn m → g.hdr id = (Z m).H.hdr id
  vc : ∀ id k m, Last (tC Z F id k) dn m → g.cell id k = (Z m).H.cell id k
  vs : ∀ t m, Last (tS ops t) dn m → ∀ v, (S m).get t = some v → t < nt ∧ VR (fun i => D i ∨ N i) ι v (a.tmps.getD t undef)
  sz : a.tmps.size = nt
  df : a.defers = ds

include hE hC hR
theorem Run.stepAny {D : Nat → Prop} {ι0 : Nat → Reg} {w0 : World} {ds : List Deferred} {dn : Nat → Prop} {ι : Nat → Reg} {g : H} {N : Nat → Prop} {φ : Foot} {a : Act} {w : World} {i : Nat} {o : Oper} {T : Foot}
    (hok : (Z ops.size).Ok) (hi : DInv P nt ops S Z F D ι0 w0 ds dn ι g N φ a w) (ho : ops[i]? = some o) (hni : ¬ dn i) (hcl : ClosedS ops dn) (hcl' : ∀ e ∈ o.after.toList, Region.binds .any e = true → dn e.on)
    (hT1 : ∀ j id, j < ops.size → (recOf Z F j).φ.Fi id → T.Fi id) (hT2 : ∀ j id k, j < ops.size → (recOf Z F j).φ.Fc id k → T.Fc id k) (h0 : HOn P D ι0 (Z 0).H T w0) (hG : GI E D ι0)
    (hD : ∀ j id, j < ops.size → (Z j).rng (Z (j + 1)) id → ¬ D id) {K : Act → World → Prop} {Q : Exit → Act → World → Prop}
    (hK : ∀ ι' g' N' φ' a' w', DInv P nt ops S Z F D ι0 w0 ds (fun j => dn j ∨ j = i) ι' g' N' φ' a' w' → K a' w') : wpOp P ops Q i K a w := by
  have hil := ops_lt ho
  -- the steps done, and this one, are closed under what must be ahead
  have hcl2 : ClosedS ops fun j => dn j ∨ j = i := by
    intro j o' e hj hd he hb
    rcases hd with hd | rfl
    · exact .inl (hcl j o' e hj hd he hb)
    · rw [ho] at hj; cases hj
      exact .inl (hcl' e he hb)
  have later : ∀ j y, dn j → ops[j]? = some y → i < j → okPair ops o y (recOf Z F i) (recOf Z F j) = true := by
    intro j y hj hy hlt
    rcases hR.pair i j o y hlt ho hy with h | h
    · exact absurd (h dn hcl hj) hni
    · exact h
  have earlier : ∀ j x, ¬ dn j → ops[j]? = some x → j < i → okPair ops x o (recOf Z F j) (recOf Z F i) = true := by
    intro j x hj hx hlt
    rcases hR.pair j i x o hlt hx ho with h | h
    · rcases h _ hcl2 (.inr rfl) with h | h
      · exact absurd h hj
      · omega
    · exact h
  have okp : ∀ x y a b, okPair ops x y a b = true → (x.apart ops y = true ∧ (∀ id k, a.φ.Wc id k → ¬ b.φ.Fc id k) ∧ (∀ id, a.φ.Wi id → ¬ b.φ.Fi id)) ∧ (∀ id k, b.φ.Wc id k → ¬ a.φ.Fc id k) ∧ (∀ id, b.φ.Wi id → ¬ a.φ.Fi id) ∧
      ∀ id, a.lo ≤ id → id < a.hi → ¬ b.φ.Fi id := by
    intro x y a b h
    simp only [okPair, Bool.and_eq_true] at h
    obtain ⟨⟨⟨h1, h2⟩, h3⟩, h4⟩ := h
    exact ⟨⟨h1, (freeOf_spec h2).1, (freeOf_spec h2).2⟩, (freeOf_spec h3).1, (freeOf_spec h3).2, farOf_spec h4⟩
  have fiLt : ∀ j id, (recOf Z F j).φ.Fi id → id < (Z j).next := fun j id h => (trim_Fi.1 h).2
  -- what of the done steps touches a place that this step looks at: just what is ahead of it in the text
  have eqH : ∀ id, (recOf Z F i).φ.Fi id → ∀ j, tH Z F id j → (dn j ↔ j < i) := by
    intro id hf j ht
    constructor
    · intro hj
      rcases Nat.lt_trichotomy j i with h | h | h
      · exact h
      · subst h; exact absurd hj hni
      · obtain ⟨y, hy⟩ := ops_some (hi.lt j hj)
        have hp := okp _ _ _ _ (later j y hj hy h)
        rcases ht with ht | ht
        · exact absurd hf (hp.2.2.1 id ht)
        · have h1 := fiLt i id hf
          have h2 := hR.le hE hC (i := i) (j := j) (by omega) (by have := hi.lt j hj; omega)
          simp only [St.rng] at ht; omega
    · intro hlt
      rcases Classical.em (dn j) with hj | hj
      · exact hj
      · obtain ⟨x, hx⟩ := ops_some (ops := ops) (i := j) (by omega)
        have hp := okp _ _ _ _ (earlier j x hj hx hlt)
        rcases ht with ht | ht
        · exact absurd hf (hp.1.2.2 id ht)
        · exact absurd hf (hp.2.2.2 id ht.1 ht.2)
  have eqC : ∀ id k, (recOf Z F i).φ.Fc id k → ∀ j, tC Z F id k j → (dn j ↔ j < i) := by
    intro id k hf j ht
    constructor
    · intro hj
      rcases Nat.lt_trichotomy j i with h | h | h
      · exact h
      · subst h; exact absurd hj hni
      · obtain ⟨y, hy⟩ := ops_some (hi.lt j hj)
        have hp := okp _ _ _ _ (later j y hj hy h)
        rcases ht with ht | ht
        · exact absurd hf (hp.2.1 id k ht)
        · have h1 := fiLt i id hf.fi
          have h2 := hR.le hE hC (i := i) (j := j) (by omega) (by have := hi.lt j hj; omega)
          simp only [St.rng] at ht; omega
    · intro hlt
      rcases Classical.em (dn j) with hj | hj
      · exact hj
      · obtain ⟨x, hx⟩ := ops_some (ops := ops) (i := j) (by omega)
        have hp := okp _ _ _ _ (earlier j x hj hx hlt)
        rcases ht with ht | ht
        · exact absurd hf (hp.1.2.1 id k ht)
        · exact absurd hf.fi (hp.2.2.2 id ht.1 ht.2)
  have eqS : ∀ t, t ∈ o.looksAt ops → ∀ j, tS ops t j → (dn j ↔ j < i) := by
    intro t hl j ht
    obtain ⟨x, hx, hxd⟩ := ht
    constructor
    · intro hj
      rcases Nat.lt_trichotomy j i with h | h | h
      · exact h
      · subst h; exact absurd hj hni
      · have hp := (okp _ _ _ _ (later j x hj hx h)).1.1
        exact absurd hl ((Oper.apart_spec hp).2.2 t hxd)
    · intro hlt
      rcases Classical.em (dn j) with hj | hj
      · exact hj
      · have hp := (okp _ _ _ _ (earlier j x hj hx hlt)).1.1
        exact absurd hl ((Oper.apart_spec hp).1 t hxd)
  -- what this step sees is what it saw in the text's order
  have ag1 : ∀ id, (recOf Z F i).φ.Fi id → g.hdr id = (Z i).H.hdr id := by
    intro id hf
    obtain ⟨m, h1, h2⟩ := last_text (tH Z F id) (fun j => (Z j).H.hdr id) i fun j hj hn =>
      (hR.afr hE hC (i := j) (by omega)).1 id (fun x => hn (.inr x)) fun x => hn (.inl x)
    rw [hi.vh id m (last_same h1 fun j hj => eqH id hf j hj), h2]
  have ag2 : ∀ id k, (recOf Z F i).φ.Fc id k → g.cell id k = (Z i).H.cell id k := by
    intro id k hf
    obtain ⟨m, h1, h2⟩ := last_text (tC Z F id k) (fun j => (Z j).H.cell id k) i fun j hj hn =>
      (hR.afr hE hC (i := j) (by omega)).2 id k (fun x => hn (.inr x)) fun x => hn (.inl x)
    rw [hi.vc id k m (last_same h1 fun j hj => eqC id k hf j hj), h2]
  have slotStep : ∀ j, j < ops.size → ∀ t, ¬ tS ops t j → (S (j + 1)).get t = (S j).get t := by
    intro j hj t hn
    obtain ⟨x, hx⟩ := ops_some hj
    obtain ⟨_, _, v, hp, _⟩ := aStep_sound hE hC (hR.step j x hx)
    cases hd : x.dst with
    | none => rw [hp.1 hd]
    | some d =>
      rw [(hp.2 d hd).2 t, if_neg]
      intro e
      exact hn ⟨x, hx, by rw [hd, e]⟩
  have ag3 : ∀ t, t ∈ o.looksAt ops → ∀ v, (S i).get t = some v → t < nt ∧ VR (fun i => D i ∨ N i) ι v (a.tmps.getD t undef) := by
    intro t hl v hv
    obtain ⟨m, h1, h2⟩ := last_text (tS ops t) (fun j => (S j).get t) i fun j hj hn => slotStep j (by omega) t hn
    have h2 : (S i).get t = (S m).get t := h2
    rw [h2] at hv
    exact hi.vs t m (last_same h1 fun j hj => eqS t hl j hj) v hv
  -- the step
  obtain ⟨hnx, _, v, hps, hst⟩ := aStep_sound hE hC (hR.step i o ho)
  have hwf := hR.wf hE hC (i := i) (by omega)
  have hNi : ∀ id, (Z i).rng (Z (i + 1)) id → ¬ N id := by
    intro id hr hn
    obtain ⟨j, hj, hr'⟩ := (hi.hN id).1 hn
    have hjl := hi.lt j hj
    rcases Nat.lt_trichotomy j i with h | h | h
    · have := hR.le hE hC (i := j + 1) (j := i) (by omega) (by omega)
      simp only [St.rng] at hr hr'; omega
    · subst h; exact hni hj
    · have := hR.le hE hC (i := i + 1) (j := j) (by omega) (by omega)
      simp only [St.rng] at hr hr'; omega
  have hDN : ∀ id, N id → ¬ D id := by
    intro id hn
    obtain ⟨j, hj, hr⟩ := (hi.hN id).1 hn
    exact hD j id (hi.lt j hj) hr
  have hDi : ∀ id, (Z i).rng (Z (i + 1)) id → ¬ (D id ∨ N id) := fun id hr hx => hx.elim (hD i id hil hr) (hNi id hr)
  have hT : HOn P D ι0 (Z 0).H (φ.add (recOf Z F i).φ) w0 := h0.sub
    (fun id hf => by
      rcases Foot.add_Fi.1 hf with hf | hf
      · obtain ⟨j, hj, hf⟩ := hi.fi id hf; exact hT1 j id (hi.lt j hj) hf
      · exact hT1 i id hil hf)
    (fun id k hf => by
      rcases Foot.add_Fc.1 hf with hf | hf
      · obtain ⟨j, hj, hf⟩ := hi.fc id k hf; exact hT2 j id k (hi.lt j hj) hf
      · exact hT2 i id k hil hf)
  have hon : HOn P (fun i => D i ∨ N i) ι g (recOf Z F i).φ w := hi.post.hon hT hDN
  have hon2 : HOn P (fun i => D i ∨ N i) ι (Z i).H (recOf Z F i).φ w := hon.congr (fun id hf => (ag1 id hf).symm) fun id k hf => (ag2 id k hf).symm
  have hon3 : HOn P (fun i => D i ∨ N i) ι (Z i).H (F i) w := hon2.untrim fun id hid => St.hdr_none hwf id hid
  refine hst (hR.ok hE hC hok (ops.size - (i + 1)) (i + 1) (by omega)) _ ι w a i K Q ho hwf (hG.next hDN hi.post.io) hDi hi.sz ag3 hon3 ?_
  intro v' ι' w' hv hp
  have hp2 : Post P (fun i => D i ∨ N i) ((Z i).rng (Z (i + 1))) ι (Z i).H w (recOf Z F i).φ ι' (Z (i + 1)).H w' := hp.trim fun id hid => St.hdr_none hwf id hid
  have hnone0 : ∀ id, (Z i).rng (Z (i + 1)) id → (Z 0).H.hdr id = none := fun id hr => St.hdr_none hR.wf0 id (by
    have := hR.le hE hC (i := 0) (j := i) (by omega) (by omega)
    simp only [St.rng] at hr; omega)
  -- new numbers are not there yet
  have hnone : ∀ id, (Z i).rng (Z (i + 1)) id → g.hdr id = none := by
    intro id hr
    obtain ⟨m, h1, h2⟩ : ∃ m, Last (tH Z F id) dn m ∧ m = 0 := by
      refine ⟨0, .inl ⟨rfl, fun j hj ht => ?_⟩, rfl⟩
      have hjl := hi.lt j hj
      rcases ht with ht | ht
      · -- a step touches the number: it is behind this one, and not free of it
        have hlt := fiLt j id ht.fi
        rcases Nat.lt_trichotomy j i with h | h | h
        · have := hR.le hE hC (i := j) (j := i) (by omega) (by omega)
          simp only [St.rng] at hr; omega
        · subst h; exact hni hj
        · obtain ⟨y, hy⟩ := ops_some hjl
          exact (okp _ _ _ _ (later j y hj hy h)).2.2.2 id hr.1 hr.2 ht.fi
      · exact hNi id hr ((hi.hN id).2 ⟨j, hj, ht⟩)
    rw [hi.vh id m h1, h2]
    exact hnone0 id hr
  have hmv := hp2.move ag1 hnone
  have htr := Post.trans hT hi.post hmv hDi hnone0
  refine hK ι' (updH g (recOf Z F i).φ ((Z i).rng (Z (i + 1))) (Z (i + 1)).H) (fun id => N id ∨ (Z i).rng (Z (i + 1)) id) (φ.add (recOf Z F i).φ) (a.put o.dst v') w' ?_
  refine { lt := ?_, hN := ?_, post := htr, wi := ?_, wc := ?_, fi := ?_, fc := ?_, vh := ?_, vc := ?_, vs := ?_, sz := (put_size _ _ _).trans hi.sz, df := (put_defers _ _ _).trans hi.df }
  · rintro j (hj | rfl)
    · exact hi.lt j hj
    · exact hil
  · intro id
    constructor
    · rintro (h | h)
      · obtain ⟨j, hj, hr⟩ := (hi.hN id).1 h
        exact ⟨j, .inl hj, hr⟩
      · exact ⟨i, .inr rfl, h⟩
    · rintro ⟨j, hj | rfl, hr⟩
      · exact .inl ((hi.hN id).2 ⟨j, hj, hr⟩)
      · exact .inr hr
  · intro id
    rw [Foot.add_Wi, hi.wi]
    constructor
    · rintro (⟨j, hj, h⟩ | h)
      · exact ⟨j, .inl hj, h⟩
      · exact ⟨i, .inr rfl, h⟩
    · rintro ⟨j, hj | rfl, h⟩
      · exact .inl ⟨j, hj, h⟩
      · exact .inr h
  · intro id k
    rw [Foot.add_Wc, hi.wc]
    constructor
    · rintro (⟨j, hj, h⟩ | h)
      · exact ⟨j, .inl hj, h⟩
      · exact ⟨i, .inr rfl, h⟩
    · rintro ⟨j, hj | rfl, h⟩
      · exact .inl ⟨j, hj, h⟩
      · exact .inr h
  · intro id hf
    rcases Foot.add_Fi.1 hf with hf | hf
    · obtain ⟨j, hj, h⟩ := hi.fi id hf; exact ⟨j, .inl hj, h⟩
    · exact ⟨i, .inr rfl, hf⟩
  · intro id k hf
    rcases Foot.add_Fc.1 hf with hf | hf
    · obtain ⟨j, hj, h⟩ := hi.fc id k hf; exact ⟨j, .inl hj, h⟩
    · exact ⟨i, .inr rfl, hf⟩
  · intro id m hm
    by_cases ht : tH Z F id i
    · have : m = i + 1 := last_hit hm ht fun j hj htj => by
        rcases ht with ht | ht
        · exact (eqH id ht.fi j htj).1 hj
        · -- a new number of this step
          exfalso
          rcases htj with htj | htj
          · have hlt := fiLt j id htj.fi
            rcases Nat.lt_trichotomy j i with h | h | h
            · have := hR.le hE hC (i := j) (j := i) (by omega) (by omega)
              simp only [St.rng] at ht; omega
            · subst h; exact hni hj
            · obtain ⟨y, hy⟩ := ops_some (hi.lt j hj)
              exact (okp _ _ _ _ (later j y hj hy h)).2.2.2 id ht.1 ht.2 htj.fi
          · exact hNi id ht ((hi.hN id).2 ⟨j, hj, htj⟩)
      rw [this]
      exact updH_hdr ht
    · have hm2 := last_miss hm ht
      rw [updH_hdr' ht]
      exact hi.vh id m hm2
  · intro id k m hm
    by_cases ht : tC Z F id k i
    · have : m = i + 1 := last_hit hm ht fun j hj htj => by
        rcases ht with ht | ht
        · exact (eqC id k ht.fc j htj).1 hj
        · exfalso
          rcases htj with htj | htj
          · have hlt := fiLt j id htj.fi
            rcases Nat.lt_trichotomy j i with h | h | h
            · have := hR.le hE hC (i := j) (j := i) (by omega) (by omega)
              simp only [St.rng] at ht; omega
            · subst h; exact hni hj
            · obtain ⟨y, hy⟩ := ops_some (hi.lt j hj)
              exact (okp _ _ _ _ (later j y hj hy h)).2.2.2 id ht.1 ht.2 htj.fi
          · exact hNi id ht ((hi.hN id).2 ⟨j, hj, htj⟩)
      rw [this]
      exact updH_cell ht
    · have hm2 := last_miss hm ht
      rw [updH_cell' ht]
      exact hi.vc id k m hm2
  · intro t m hm u hu
    have hDeq : ∀ j, (D j ∨ N j) ∨ (Z i).rng (Z (i + 1)) j → D j ∨ (N j ∨ (Z i).rng (Z (i + 1)) j) := fun j h => or_assoc.1 h
    by_cases ht : tS ops t i
    · obtain ⟨o', ho', hd⟩ := ht
      rw [ho] at ho'; cases ho'
      have : m = i + 1 := last_hit hm ⟨o, ho, hd⟩ fun j hj htj => by
        obtain ⟨y, hy, hyd⟩ := htj
        rcases Nat.lt_trichotomy j i with h | h | h
        · exact h
        · subst h; exact absurd hj hni
        · have hp := (okp _ _ _ _ (later j y hj hy h)).1.1
          exact absurd hyd ((Oper.apart_spec hp).2.1 t hd)
      subst this
      obtain ⟨p1, p2⟩ := hps.2 t hd
      rw [p2 t, if_pos rfl] at hu
      cases hu
      refine ⟨p1, ?_⟩
      rw [hd, put_get_eq a t v' (by rw [hi.sz]; exact p1)]
      exact hv.mono hDeq fun _ _ => rfl
    · have hm2 := last_miss hm ht
      obtain ⟨q1, q2⟩ := hi.vs t m hm2 u hu
      refine ⟨q1, ?_⟩
      have hne : o.dst ≠ some t := fun e => ht ⟨o, ho, e⟩
      rw [put_get_ne a o.dst v' t hne]
      exact q2.mono (fun j hj => hDeq j (.inl hj)) fun j hj => hp.io j fun hr => hDi j hr hj
omit hE hC hR
end
end Go.Eng

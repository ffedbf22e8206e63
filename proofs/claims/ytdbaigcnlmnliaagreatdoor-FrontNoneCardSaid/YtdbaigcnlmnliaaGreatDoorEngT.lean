/-
  The engine, part T: a region, whatever its order. No condition.
-/
import Derived.Test.YtdbaigcnlmnliaaGreatDoorEngS
noncomputable section
namespace Go.Eng
open Go

def recsFoot : List Rec → Foot
  | [] => .nil
  | r :: rs => r.φ.add (recsFoot rs)

def unl : Nat → Array Bool → Nat
  | 0, _ => 0
  | k + 1, l => unl k l + (bif l.getD k true then 0 else 1)
theorem unl_set {l : Array Bool} {i : Nat} (hi : i < l.size) : ∀ k, unl k (l.setIfInBounds i true) + (if i < k ∧ l.getD i true = false then 1 else 0) = unl k l
  | 0 => by simp [unl]
  | k + 1 => by
    have ih := unl_set hi k
    simp only [unl]
    by_cases e : k = i
    · subst e
      rw [if_neg (by omega)] at ih
      have h1 : (l.setIfInBounds k true).getD k true = true := by simp
      rw [h1]
      cases hb : l.getD k true
      · rw [if_pos ⟨by omega, rfl⟩]; simp only [cond_true, cond_false]; omega
      · rw [if_neg (by simp)]; simp only [cond_true]; omega
    · have h1 : (l.setIfInBounds i true).getD k true = l.getD k true := by
        simp only [Array.getD_eq_getD_getElem?, Array.getElem?_setIfInBounds_ne (Ne.symm e)]
      rw [h1]
      by_cases hlt : i < k ∧ l.getD i true = false
      · rw [if_pos hlt] at ih; rw [if_pos ⟨by omega, hlt.2⟩]; omega
      · rw [if_neg hlt] at ih
        rw [if_neg]
        · omega
        · intro h; exact hlt ⟨by omega, h.2⟩
theorem unl_zero {l : Array Bool} : ∀ k, unl k l = 0 → ∀ j, j < k → l.getD j true = true
  | 0, _, j, h => absurd h (Nat.not_lt_zero j)
  | k + 1, h, j, hj => by
    simp only [unl] at h
    by_cases e : j = k
    · subst e
      cases hb : l.getD j true
      · rw [hb] at h; simp at h
      · rfl
    · exact unl_zero k (by omega) j (by omega)
theorem unl_init (n : Nat) : ∀ k, k ≤ n → unl k (Array.replicate n false) = k
  | 0, _ => rfl
  | k + 1, h => by
    simp only [unl]
    rw [unl_init n k (by omega)]
    have : (Array.replicate n false).getD k true = false := by
      simp [Array.getD_eq_getD_getElem?, show k < n by omega]
    rw [this]; rfl

theorem unl_none {n : Nat} (j : Nat) : ¬ ((Array.replicate n false).getD j false = true) := by
  rw [Array.getD_eq_getD_getElem?, Array.getElem?_replicate]
  split <;> simp

section
variable {P : Program} {E : Env} (hE : E.OK P) {call : CallF} (hC : CallSound P E call) {nt : Nat} {ops : Array Oper} {S : Nat → Tr Value} {Z : Nat → St} {F : Nat → Foot} (hR : Run P E call nt ops S Z F)

theorem mem_ready {l : Array Bool} {i : Nat} : i ∈ Region.ready .any ops l ↔ i < ops.size ∧ l.getD i true = false ∧ ∃ o, ops[i]? = some o ∧ ∀ e ∈ o.after.toList, Region.binds .any e = true → l.getD e.on false = true := by
  unfold Region.ready
  simp only [List.mem_filter, List.mem_range, Bool.and_eq_true, Bool.not_eq_true']
  constructor
  · rintro ⟨h1, h2, h3⟩
    obtain ⟨o, ho⟩ := ops_some h1
    refine ⟨h1, h2, o, ho, fun e he hb => ?_⟩
    rw [ho] at h3
    simp only [Option.map_some, Option.getD_some] at h3
    rw [← Array.all_toList] at h3
    have := List.all_eq_true.1 h3 e he
    rw [hb] at this
    simpa using this
  · rintro ⟨h1, h2, o, ho, h3⟩
    refine ⟨h1, h2, ?_⟩
    rw [ho]
    simp only [Option.map_some, Option.getD_some]
    rw [← Array.all_toList, List.all_eq_true]
    intro e he
    cases hb : Region.binds .any e
    · rfl
    · simpa using h3 e he hb

include hR in
theorem ready_none {l : Array Bool} (h : Region.ready .any ops l = []) : ∀ j, j < ops.size → l.getD j true = true := by
  intro j
  induction j using Nat.strongRecOn with
  | _ j ih =>
    intro hj
    cases hb : l.getD j true
    · exfalso
      obtain ⟨o, ho⟩ := ops_some hj
      have : j ∈ Region.ready .any ops l := mem_ready.2 ⟨hj, hb, o, ho, fun e he hbn => by
        have hlt := hR.back j o ho e he hbn
        have h1 := ih e.on hlt (by omega)
        have : e.on < l.size := by
          rcases Nat.lt_or_ge j l.size with hl | hg
          · omega
          · rw [Array.getD_eq_getD_getElem?, Array.getElem?_eq_none hg] at hb; cases hb
        rw [Array.getD_eq_getD_getElem?, Array.getElem?_eq_getElem this] at h1 ⊢
        exact h1⟩
      rw [h] at this
      cases this
    · rfl

include hE hC hR
theorem Run.any (hok : (Z ops.size).Ok) {D : Nat → Prop} {ι0 : Nat → Reg} {w0 : World} {ds : List Deferred} {T : Foot} {Q : Exit → Act → World → Prop}
    (hT1 : ∀ j id, j < ops.size → (recOf Z F j).φ.Fi id → T.Fi id) (hT2 : ∀ j id k, j < ops.size → (recOf Z F j).φ.Fc id k → T.Fc id k) (h0 : HOn P D ι0 (Z 0).H T w0) (hG : GI E D ι0)
    (hD : ∀ j id, j < ops.size → (Z j).rng (Z (j + 1)) id → ¬ D id)
    (hQ : ∀ dn ι g N φ a w, (∀ j, j < ops.size → dn j) → DInv P nt ops S Z F D ι0 w0 ds dn ι g N φ a w → Q .normal a w) :
    ∀ (fuel : Nat) (l : Array Bool) (ι : Nat → Reg) (g : H) (N : Nat → Prop) (φ : Foot) (a : Act) (w : World), l.size = ops.size → unl ops.size l = fuel → ClosedS ops (fun j => l.getD j false = true) →
      DInv P nt ops S Z F D ι0 w0 ds (fun j => l.getD j false = true) ι g N φ a w → wpAny P .any ops Q fuel l a w := by
  have tf : ∀ (l : Array Bool) j, l.size = ops.size → j < ops.size → (l.getD j true = true ↔ l.getD j false = true) := by
    intro l j hl hj
    have : j < l.size := by omega
    simp only [Array.getD_eq_getD_getElem?, Array.getElem?_eq_getElem this, Option.getD_some]
  intro fuel
  induction fuel with
  | zero =>
    intro l ι g N φ a w hl hu hcl hi
    have hall := unl_zero _ hu
    refine ⟨?_, hQ _ ι g N φ a w (fun j hj => (tf l j hl hj).1 (hall j hj)) hi⟩
    rw [List.eq_nil_iff_forall_not_mem]
    intro i hm
    obtain ⟨h1, h2, _⟩ := mem_ready.1 hm
    rw [hall i h1] at h2; cases h2
  | succ fuel ih =>
    intro l ι g N φ a w hl hu hcl hi
    refine ⟨fun hr => hQ _ ι g N φ a w (fun j hj => (tf l j hl hj).1 (ready_none hR hr j hj)) hi, fun i hm => ?_⟩
    obtain ⟨h1, h2, o, ho, h3⟩ := mem_ready.1 hm
    have hni : ¬ (l.getD i false = true) := fun h => by
      rw [(tf l i hl h1).2 h] at h2; cases h2
    refine hR.stepAny hE hC hok hi ho hni hcl h3 hT1 hT2 h0 hG hD ?_
    intro ι' g' N' φ' a' w' hi'
    have hset : ∀ j, (l.getD j false = true ∨ j = i) = ((l.setIfInBounds i true).getD j false = true) := by
      intro j
      apply propext
      have hil : i < l.size := by omega
      by_cases e : j = i
      · subst e
        simp [Array.getD_eq_getD_getElem?, hil]
      · rw [Array.getD_eq_getD_getElem?, Array.getD_eq_getD_getElem?, Array.getElem?_setIfInBounds_ne (Ne.symm e)]
        simp [e]
    have hfun : (fun j => l.getD j false = true ∨ j = i) = fun j => (l.setIfInBounds i true).getD j false = true := funext hset
    rw [hfun] at hi'
    refine ih _ ι' g' N' φ' a' w' (by simp [hl]) ?_ ?_ hi'
    · have := unl_set (l := l) (i := i) (by omega) ops.size
      rw [if_pos ⟨h1, h2⟩] at this
      omega
    · rw [← hfun]
      intro j o' e hj hd he hb
      rcases hd with hd | rfl
      · exact .inl (hcl j o' e hj hd he hb)
      · rw [ho] at hj; cases hj
        exact .inl (h3 e he hb)
omit hE hC hR

theorem recsFoot_iff {recs : List Rec} : (∀ id, (recsFoot recs).Wi id ↔ ∃ r ∈ recs, r.φ.Wi id) ∧ (∀ id k, (recsFoot recs).Wc id k ↔ ∃ r ∈ recs, r.φ.Wc id k) ∧
    (∀ id, (recsFoot recs).Fi id ↔ ∃ r ∈ recs, r.φ.Fi id) ∧ ∀ id k, (recsFoot recs).Fc id k ↔ ∃ r ∈ recs, r.φ.Fc id k := by
  induction recs with
  | nil => simp [recsFoot, Foot.nil, Foot.Wi, Foot.Wc, Foot.Fi, Foot.Fc]
  | cons r rs ih =>
    obtain ⟨h1, h2, h3, h4⟩ := ih
    refine ⟨fun id => ?_, fun id k => ?_, fun id => ?_, fun id k => ?_⟩
    · rw [recsFoot, Foot.add_Wi, h1]; simp
    · rw [recsFoot, Foot.add_Wc, h2]; simp
    · rw [recsFoot, Foot.add_Fi, h3]; simp
    · rw [recsFoot, Foot.add_Fc, h4]; simp

include hE hC in
/-- a region whose order is open -/
theorem evDraw_sound {s s' : Tr Value} {σ σ' : St} {recs : List Rec} (h : evSteps P E call nt ops.toList ops.toList s σ = some (s', σ', recs)) (hok : okAll ops ops.toList recs [] ops.toList recs = true) :
    σ.next ≤ σ'.next ∧ (σ.wf → σ'.wf ∧ AFr σ σ' (recsFoot recs)) ∧
    (σ'.Ok → ∀ (D : Nat → Prop) (ι : Nat → Reg) (w : World) (a : Act) (Q : Exit → Act → World → Prop), σ.wf → GI E D ι → (∀ id, σ.rng σ' id → ¬ D id) → SRel nt D ι s a → HOn P D ι σ.H (recsFoot recs) w →
      (∀ ι' w' a', SRel nt (fun i => D i ∨ σ.rng σ' i) ι' s' a' → a'.defers = a.defers → Post P D (σ.rng σ') ι σ.H w (recsFoot recs) ι' σ'.H w' → Q .normal a' w') →
      wpAny P .any ops Q ops.size (Array.replicate ops.size false) a w) := by
  obtain ⟨S, Z, F, rfl, rfl, e3, e4, e5, e6, e7⟩ := evSteps_spec ops.toList ops.toList _ _ _ _ _ h
  rw [Array.length_toList] at e3 e4 e7
  have e5 : recs.length = ops.size := e5.trans Array.length_toList
  have hops : ∀ (i : Nat) o, ops[i]? = some o → aStep P E call nt ops.toList o (S i) (Z i) = some (S (i + 1), Z (i + 1), F i) := fun i o hi => e6 i o (by rw [Array.getElem?_toList]; exact hi)
  obtain ⟨k1, k2⟩ := okAll_spec ops.toList recs [] hok (by simp) (by simp) (by simp)
  have mkR : (Z 0).wf → Run P E call nt ops S Z F := fun hw =>
    { step := hops, back := fun j o ho => k1 j o (Nat.zero_le _) ho
      pair := fun i j x y hij hx hy => k2 i j x y _ _ (Nat.zero_le _) hij hx hy (e7 i (by have := ops_lt hy; omega)) (e7 j (ops_lt hy))
      wf0 := hw }
  have hmem : ∀ r, r ∈ recs ↔ ∃ j, j < ops.size ∧ r = recOf Z F j := by
    intro r
    rw [List.mem_iff_getElem?]
    constructor
    · rintro ⟨j, hj⟩
      have hlt : j < ops.size := by
        rcases Nat.lt_or_ge j recs.length with h | h
        · rw [e5] at h; exact h
        · rw [List.getElem?_eq_none h] at hj; cases hj
      rw [e7 j hlt] at hj
      cases hj
      exact ⟨j, hlt, rfl⟩
    · rintro ⟨j, hj, rfl⟩
      exact ⟨j, e7 j hj⟩
  obtain ⟨f1, f2, f3, f4⟩ := recsFoot_iff (recs := recs)
  have hafr : (hw : (Z 0).wf) → AFr (Z 0) σ' (recsFoot recs) := by
    intro hw
    have hR := mkR hw
    have le0 := fun j => hR.le hE hC (i := 0) (j := j)
    refine ⟨fun id hn hwi => ?_, fun id k hn hwc => ?_, fun hok => hR.ok hE hC (by rw [e4]; exact hok) ops.size 0 (by omega)⟩
    · have : ∀ j, j ≤ ops.size → (Z j).H.hdr id = (Z 0).H.hdr id := by
        intro j
        induction j with
        | zero => intro _; rfl
        | succ j ih =>
          intro hj
          rw [← ih (by omega)]
          refine (hR.afr hE hC (i := j) (by omega)).1 id (fun hr => hn ?_) fun hx => hwi ((f1 id).2 ⟨_, (hmem _).2 ⟨j, by omega, rfl⟩, hx⟩)
          have q1 := le0 j (by omega) (by omega)
          have q2 := hR.le hE hC (i := j + 1) (j := ops.size) (by omega) (Nat.le_refl _)
          rw [e4] at q2
          simp only [St.rng] at hr ⊢; omega
      rw [← e4]; exact this ops.size (Nat.le_refl _)
    · have : ∀ j, j ≤ ops.size → (Z j).H.cell id k = (Z 0).H.cell id k := by
        intro j
        induction j with
        | zero => intro _; rfl
        | succ j ih =>
          intro hj
          rw [← ih (by omega)]
          refine (hR.afr hE hC (i := j) (by omega)).2 id k (fun hr => hn ?_) fun hx => hwc ((f2 id k).2 ⟨_, (hmem _).2 ⟨j, by omega, rfl⟩, hx⟩)
          have q1 := le0 j (by omega) (by omega)
          have q2 := hR.le hE hC (i := j + 1) (j := ops.size) (by omega) (Nat.le_refl _)
          rw [e4] at q2
          simp only [St.rng] at hr ⊢; omega
      rw [← e4]; exact this ops.size (Nat.le_refl _)
  have hle : ∀ j, j ≤ ops.size → (Z 0).next ≤ (Z j).next := by
    intro j
    induction j with
    | zero => intro _; exact Nat.le_refl _
    | succ j ih =>
      intro hj
      obtain ⟨o, ho⟩ := ops_some (ops := ops) (i := j) (by omega)
      exact Nat.le_trans (ih (by omega)) (aStep_sound hE hC (hops j o ho)).1
  refine ⟨by rw [← e4]; exact hle _ (Nat.le_refl _), fun hw => ⟨?_, hafr hw⟩, ?_⟩
  · rw [← e4]; exact (mkR hw).wf hE hC (Nat.le_refl _)
  · intro hokf D ι w a Q hw hG hd hs ho hQ
    have hR := mkR hw
    have hrng : ∀ j id, j < ops.size → (Z j).rng (Z (j + 1)) id → (Z 0).rng σ' id := by
      intro j id hj hr
      have q1 := hR.le hE hC (i := 0) (j := j) (by omega) (by omega)
      have q2 := hR.le hE hC (i := j + 1) (j := ops.size) (by omega) (Nat.le_refl _)
      rw [e4] at q2
      simp only [St.rng] at hr ⊢; omega
    have hrng2 : ∀ id, (Z 0).rng σ' id → ∃ j, j < ops.size ∧ (Z j).rng (Z (j + 1)) id := by
      intro id hr
      have : ∀ n, n ≤ ops.size → (Z 0).next ≤ id → id < (Z n).next → ∃ j, j < n ∧ (Z j).rng (Z (j + 1)) id := by
        intro n
        induction n with
        | zero => intro _ h1 h2; omega
        | succ n ih =>
          intro hn h1 h2
          by_cases hlt : id < (Z n).next
          · obtain ⟨j, hj, hr⟩ := ih (by omega) h1 hlt
            exact ⟨j, by omega, hr⟩
          · exact ⟨n, by omega, by simp only [St.rng]; omega⟩
      exact this ops.size (Nat.le_refl _) hr.1 (by rw [e4]; exact hr.2)
    refine hR.any hE hC (by rw [e4]; exact hokf) (ds := a.defers) (ι0 := ι) (D := D) (w0 := w) (T := recsFoot recs) (fun j id hj hf => (f3 id).2 ⟨_, (hmem _).2 ⟨j, hj, rfl⟩, hf⟩) (fun j id k hj hf => (f4 id k).2 ⟨_, (hmem _).2 ⟨j, hj, rfl⟩, hf⟩)
      ho hG (fun j id hj hr => hd id (hrng j id hj hr)) ?_ ops.size _ ι (Z 0).H (fun _ => False) .nil a w (by simp) (unl_init _ _ (Nat.le_refl _)) ?_ ?_
    · intro dn ι' g N φ a' w' hall hi
      have hN : N = (Z 0).rng σ' := by
        funext id
        apply propext
        rw [hi.hN]
        constructor
        · rintro ⟨j, hj, hr⟩; exact hrng j id (hi.lt j hj) hr
        · intro hr
          obtain ⟨j, hj, hr'⟩ := hrng2 id hr
          exact ⟨j, hall j hj, hr'⟩
      subst hN
      have hlast : ∀ touch : Nat → Prop, ∀ m, Last touch (· < ops.size) m → Last touch dn m := fun touch m h =>
        last_same h fun j _ => ⟨fun hj => hi.lt j hj, fun hj => hall j hj⟩
      have hg1 : ∀ id, g.hdr id = σ'.H.hdr id := by
        intro id
        obtain ⟨m, h1, h2⟩ := last_text (tH Z F id) (fun j => (Z j).H.hdr id) ops.size fun j hj hn =>
          (hR.afr hE hC hj).1 id (fun x => hn (.inr x)) fun x => hn (.inl x)
        rw [hi.vh id m (hlast _ m h1), ← h2, e4]
      have hg2 : ∀ id k, g.cell id k = σ'.H.cell id k := by
        intro id k
        obtain ⟨m, h1, h2⟩ := last_text (tC Z F id k) (fun j => (Z j).H.cell id k) ops.size fun j hj hn =>
          (hR.afr hE hC hj).2 id k (fun x => hn (.inr x)) fun x => hn (.inl x)
        rw [hi.vc id k m (hlast _ m h1), ← h2, e4]
      refine hQ ι' w' a' ⟨hi.sz, fun t v hv => ?_⟩ hi.df ?_
      · obtain ⟨m, h1, h2⟩ := last_text (tS ops t) (fun j => (S j).get t) ops.size fun j hj hn => by
          obtain ⟨x, hx⟩ := ops_some hj
          obtain ⟨_, _, v, hp, _⟩ := aStep_sound hE hC (hR.step j x hx)
          cases hd : x.dst with
          | none => simp only [hp.1 hd]
          | some d =>
            show (S (j + 1)).get t = (S j).get t
            rw [(hp.2 d hd).2 t, if_neg]
            intro e
            exact hn ⟨x, hx, by rw [hd, e]⟩
        have h2 : (S ops.size).get t = (S m).get t := h2
        rw [← e3, h2] at hv
        exact hi.vs t m (hlast _ m h1) v hv
      · refine (hi.post.same_foot (fun id => ?_) (fun id k => ?_) fun id hf => by
          obtain ⟨j, hj, hx⟩ := hi.fi id hf
          exact (f3 id).2 ⟨_, (hmem _).2 ⟨j, hi.lt j hj, rfl⟩, hx⟩).same_heap (fun id => (hg1 id).symm) fun id k => (hg2 id k).symm
        · rw [f1, hi.wi]
          constructor
          · rintro ⟨r, hr, hx⟩
            obtain ⟨j, hj, rfl⟩ := (hmem r).1 hr
            exact ⟨j, hall j hj, hx⟩
          · rintro ⟨j, hj, hx⟩
            exact ⟨_, (hmem _).2 ⟨j, hi.lt j hj, rfl⟩, hx⟩
        · rw [f2, hi.wc]
          constructor
          · rintro ⟨r, hr, hx⟩
            obtain ⟨j, hj, rfl⟩ := (hmem r).1 hr
            exact ⟨j, hall j hj, hx⟩
          · rintro ⟨j, hj, hx⟩
            exact ⟨_, (hmem _).2 ⟨j, hi.lt j hj, rfl⟩, hx⟩
    · intro j o e _ hd
      exact absurd hd (unl_none j)
    · have hno : ∀ j, ¬ ((Array.replicate ops.size false).getD j false = true) := unl_none
      have hzero : ∀ (touch : Nat → Prop) m, Last touch (fun j => (Array.replicate ops.size false).getD j false = true) m → m = 0 := by
        intro touch m h
        rcases h with ⟨e, _⟩ | ⟨j, _, hj, _⟩
        · exact e
        · exact absurd hj (hno j)
      exact {
        lt := fun j hj => absurd hj (hno j)
        hN := fun id => ⟨fun h => h.elim, fun ⟨j, hj, _⟩ => absurd hj (hno j)⟩
        post := Post.refl _ _ _ _ _ _ fun _ => not_false
        wi := fun id => ⟨fun h => by simp [Foot.Wi, Foot.nil] at h, fun ⟨j, hj, _⟩ => absurd hj (hno j)⟩
        wc := fun id k => ⟨fun h => by simp [Foot.Wc, Foot.nil] at h, fun ⟨j, hj, _⟩ => absurd hj (hno j)⟩
        fi := fun id h => by simp [Foot.Fi, Foot.nil] at h
        fc := fun id k h => by simp [Foot.Fc, Foot.nil] at h
        vh := fun id m hm => by rw [hzero _ m hm]
        vc := fun id k m hm => by rw [hzero _ m hm]
        vs := fun t m hm v hv => by
          rw [hzero _ m hm] at hv
          exact ⟨(hs.2 t v hv).1, (hs.2 t v hv).2.mono (fun _ => .inl) fun _ _ => rfl⟩
        sz := hs.1
        df := rfl }
end
end Go.Eng

/-
  The engine, part M: what one operation gives on abstract memory, it gives. No condition.
-/
import Derived.Test.YtdbaigcnlmnliaaGreatDoorEngL
noncomputable section
namespace Go.Eng
open Go
section
variable {P : Program} {E : Env} (hE : E.OK P) {D : Nat → Prop} {ι : Nat → Reg} {σ : St} {w : World} {s : Tr Value} {ρ : Operand → Value}

theorem isU8_spec {d : Option TypeDesc} (h : isU8 d = true) : d = some (.int .u8) := by
  unfold isU8 at h
  split at h
  · rfl
  · cases h

theorem plain_arr {l : List Value} {a : Array Value} (h : l.all (plainN 8) = true) (hl : AR D ι l.toArray a) : a = l.toArray := by
  refine Array.ext (by rw [← hl.1]) fun i h1 h2 => ?_
  rw [List.all_eq_true] at h
  have hi : i < l.length := by simpa using h2
  exact plain_eq 8 _ _ (h l[i] (List.getElem_mem hi)) (hl.2 i l[i] a[i] (by simp) (Array.getElem?_eq_getElem h1))

theorem AR.two {x y : Value} {a : Array Value} (h : AR D ι [x, y].toArray a) : ∃ x' y', a = #[x', y'] ∧ VR D ι x x' ∧ VR D ι y y' := by
  obtain ⟨h1, h2⟩ := h
  have hs : a.size = 2 := by simpa using h1.symm
  refine ⟨a[0], a[1], ?_, h2 0 x a[0] rfl (Array.getElem?_eq_getElem (by omega)), h2 1 y a[1] rfl (Array.getElem?_eq_getElem (by omega))⟩
  apply Array.ext
  · simp [hs]
  · intro i g1 g2
    match i, g2 with
    | 0, _ => rfl
    | 1, _ => rfl
theorem AR.one {x : Value} {a : Array Value} (h : AR D ι [x].toArray a) : ∃ x', a = #[x'] ∧ VR D ι x x' := by
  obtain ⟨h1, h2⟩ := h
  have hs : a.size = 1 := by simpa using h1.symm
  refine ⟨a[0], ?_, h2 0 x a[0] rfl (Array.getElem?_eq_getElem (by omega))⟩
  apply Array.ext
  · simp [hs]
  · intro i g1 g2
    match i, g2 with
    | 0, _ => rfl

include hE
theorem aConv_sound {src dst : TypeId} {x x' : Value} {r : R} (h : aConv P E.T σ src dst x = some r) (hx : VR D ι x x') : Sound P D ι σ w (convert src dst x') r := by
  unfold aConv at h
  split at h
  · rename_i d k kk n h1 h2
    cases h; cases hx
    refine Sound.pure (v' := .int k (k.wrap n)) ?_ (.int _ _)
    simp only [convert, Sem.run_bind, run_und hE.T h1, run_und hE.T h2, Result.andThen_ok, Conv.intToInt, Sem.run_pure]
  · rename_i d s' h1 h2
    cases h; cases hx
    refine Sound.pure (v' := .string s') ?_ (.string _)
    simp only [convert, Sem.run_bind, run_und hE.T h1, run_und hE.T h2, Result.andThen_ok, Sem.run_pure]
  · rename_i d e s' h1 h2
    cases hx
    cases hb : isU8 (E.T.und e)
    · rw [hb] at h; cases h
    · rw [hb, cond_true] at h
      have hu := isU8_spec hb
      obtain ⟨g1, g2, g3⟩ := aStringToBytes_sound (w := w) (D := D) (ι := ι) hE.T h
      refine ⟨g1, g2, fun a b c => ?_⟩
      obtain ⟨v', ι', w', k1, k2, k3⟩ := g3 a b c
      refine ⟨v', ι', w', ?_, k2, k3⟩
      simp only [convert, Sem.run_bind, run_und hE.T h1, run_und hE.T h2, Result.andThen_ok, run_und hE.T hu]
      exact k1
  · rename_i e a l c h1 h2
    cases hb : isU8 (E.T.und e)
    · rw [hb] at h; cases h
    · rw [hb, cond_true] at h
      have hu := isU8_spec hb
      obtain ⟨g1, g2, g3⟩ := aBytesToString_sound (P := P) (w := w) (D := D) (ι := ι) h hx
      refine ⟨g1, g2, fun a b c => ?_⟩
      obtain ⟨v', ι', w', k1, k2, k3⟩ := g3 a b c
      refine ⟨v', ι', w', ?_, k2, k3⟩
      have hsl : ∃ a' l' c', x' = .slice a' l' c' := by cases hx <;> exact ⟨_, _, _, rfl⟩
      obtain ⟨a', l', c', rfl⟩ := hsl
      simp only [convert, Sem.run_bind, run_und hE.T h1, run_und hE.T h2, Result.andThen_ok, run_und hE.T hu]
      exact k1
  · rename_i t a h1 h2
    have e1 := hE.T.und _ _ h1
    have e2 := hE.T.und _ _ h2
    exact aToUns_sound hE.T e1 e2 h hx
  · rename_i t a h1 h2
    have e1 := hE.T.und _ _ h1
    have e2 := hE.T.und _ _ h2
    exact aFromUns_sound hE.T e1 e2 h hx
  · rename_i x _ _ _ _ _ _ _ _ _
    cases hp : plainN 8 x
    · rw [hp] at h; cases h
    · rw [hp, cond_true] at h
      have ex := plain_eq 8 x x' hp hx
      subst ex
      split at h
      · rename_i v hv
        cases h
        exact prunV_sound hv
      · cases h

theorem aBuiltin_sound {b : Builtin} {argTypes : Array TypeId} {ty : TypeId} {consts : Array Bool} {args : List Value} {args' : Array Value} {r : R}
    (h : aBuiltin P E.T σ b argTypes ty consts args = some r) (ha : AR D ι args.toArray args') : SoundN P D ι σ w (builtin b argTypes ty consts args') r := by
  have tl : ∀ t l, argTypes.toList = t :: l → argTypes[0]? = some t := fun t l e => by rw [← Array.getElem?_toList, e]; rfl
  unfold aBuiltin at h
  split at h
  · rename_i a n c
    obtain ⟨x', rfl, hx⟩ := ha.one
    split at h
    · rename_i t l ht
      split at h
      · rename_i e hu
        cases h
        have hsl : ∃ a' c', x' = .slice a' n c' := by cases hx <;> exact ⟨_, _, rfl⟩
        obtain ⟨a', c', rfl⟩ := hsl
        refine Sound.next (e := Builtin.len_ argTypes ty #[.slice a' n c']) (Sound.pure (v' := goInt n) ?_ (.int _ _))
        simp only [Builtin.len_, tl _ _ ht, List.getElem?_toArray, List.getElem?_cons_zero, Sem.run_bind, run_und hE.T hu, Result.andThen_ok, Sem.run_pure]
      · cases h
    · cases h
  · rename_i s'
    obtain ⟨x', rfl, hx⟩ := ha.one
    cases hx
    split at h
    · rename_i t l ht
      split at h
      · rename_i hu
        cases h
        refine Sound.next (e := Builtin.len_ argTypes ty #[.string s']) (Sound.pure (v' := goInt s'.size) ?_ (.int _ _))
        simp only [Builtin.len_, tl _ _ ht, List.getElem?_toArray, List.getElem?_cons_zero, Sem.run_bind, run_und hE.T hu, Result.andThen_ok, Sem.run_pure]
      · cases h
    · cases h
  · rename_i a n c
    obtain ⟨x', rfl, hx⟩ := ha.one
    split at h
    · rename_i t l ht
      split at h
      · rename_i e hu
        cases hb : Nat.beq c unk
        · rw [hb] at h
          cases h
          have hne : c ≠ unk := fun e => by rw [beq_t e] at hb; cases hb
          have hsl : ∃ a', x' = .slice a' n c := by
            cases hx with
            | slN _ _ => exact ⟨_, rfl⟩
            | slK _ _ _ _ _ _ => exact ⟨_, rfl⟩
            | slU _ _ _ _ _ _ _ => exact absurd rfl hne
            | slE _ _ _ _ _ _ _ => exact absurd rfl hne
          obtain ⟨a', rfl⟩ := hsl
          refine Sound.next (e := Builtin.cap_ argTypes ty #[.slice a' n c]) (Sound.pure (v' := goInt c) ?_ (.int _ _))
          simp only [Builtin.cap_, tl _ _ ht, List.getElem?_toArray, List.getElem?_cons_zero, Sem.run_bind, run_und hE.T hu, Result.andThen_ok, Sem.run_pure]
        · rw [hb] at h; cases h
      · cases h
    · cases h
  · obtain ⟨x', y', rfl, hx, hy⟩ := ha.two
    exact Sound.next (aAppend_sound hE.T h hx hy)
  · obtain ⟨x', y', rfl, hx, hy⟩ := ha.two
    exact Sound.next (aCopy_sound hE.T h hx hy)
  · obtain ⟨x', rfl, hx⟩ := ha.one
    split at h
    · rename_i v hv
      cases h
      exact Sound.next (aSliceData_sound hv hx)
    · cases h
  · obtain ⟨x', y', rfl, hx, hy⟩ := ha.two
    cases hy
    split at h
    · rename_i pt tl' ht
      exact Sound.next (aUString_sound hE.T ht h hx)
    · cases h
  · cases hp : args.all (plainN 8)
    · rw [hp] at h; cases h
    · rw [hp, cond_true] at h
      have e := plain_arr hp ha
      subst e
      split at h
      · rename_i v hv
        cases hq : plainN 8 v
        · rw [hq] at h; cases h
        · rw [hq, cond_true] at h
          cases h
          refine ⟨Nat.le_refl _, fun hw => ⟨hw, AFr.refl _ _⟩, fun _ _ _ => ⟨.value v, v, ι, w, prun_run P _ _ hv w, .inl rfl, (plain_refl 8 v hq).mono (fun _ => .inl) fun _ _ => rfl, Post.same (St.rng_self σ) rfl rfl rfl rfl rfl⟩⟩
      · cases h

omit hE
theorem pureV_spec {v : Option Value} {r : R} (h : pureV σ v = some (.val r)) : ∃ u, v = some u ∧ r = ⟨u, σ, .nil⟩ := by
  unfold pureV at h
  split at h
  · cases h; exact ⟨_, rfl, rfl⟩
  · cases h
theorem memV_spec {v : Option R} {r : R} (h : memV v = some (.val r)) : v = some r := by
  unfold memV at h
  split at h
  · cases h; rfl
  · cases h
theorem pureV_enter {v : Option Value} {f : FuncId} {a : List Value} : pureV σ v ≠ some (.enter f a) := by
  unfold pureV; split <;> simp
theorem memV_enter {v : Option R} {f : FuncId} {a : List Value} : memV v ≠ some (.enter f a) := by
  unfold memV; split <;> simp

theorem SoundN.value {v v' : Value} {e : Sem Next} (h : e.run P w = .ok (.value v') w) (hv : VR D ι v v') : SoundN P D ι σ w e ⟨v, σ, .nil⟩ :=
  ⟨Nat.le_refl _, fun hw => ⟨hw, AFr.refl _ _⟩, fun _ _ _ => ⟨.value v', v', ι, w, h, .inl rfl, hv.mono (fun _ => .inl) fun _ _ => rfl, Post.same (St.rng_self σ) rfl rfl rfl rfl rfl⟩⟩

theorem call_resolve {c : Call} {f : Operand} {ty : TypeId} {g : FuncId} {first captured : Array Value} (hc : c.callee = .value f) (hf : ρ f = .func (.func g) first captured) (w : World) :
    (do let d ← resolve ρ c ty; invoke d.target d.args : Sem Next).run P w = (callFunc g (first ++ c.args.map ρ ++ captured)).run P w := by
  simp only [resolve, hc, Deferred.ofValue, hf, Sem.run_bind, Sem.run_pure, Result.andThen_ok, invoke]

theorem AR.catN {a b c : List Value} {a' b' c' : Array Value} (h1 : AR D ι a.toArray a') (h2 : AR D ι b.toArray b') (h3 : AR D ι c.toArray c') : AR D ι (a ++ b ++ c).toArray (a' ++ b' ++ c') := by
  have l1 : a.length = a'.size := by simpa using h1.1
  have l2 : b.length = b'.size := by simpa using h2.1
  have l3 : c.length = c'.size := by simpa using h3.1
  refine ⟨by simp; omega, fun i v v' hv hv' => ?_⟩
  simp only [List.getElem?_toArray] at hv
  by_cases hi : i < (a ++ b).length
  · rw [List.getElem?_append_left hi] at hv
    obtain ⟨u, hu, hvu⟩ := AR.append h1 h2 c' i v hv
    rw [hu] at hv'; cases hv'
    exact hvu
  · rw [List.getElem?_append_right (by omega)] at hv
    rw [Array.getElem?_append_right (by simp at hi ⊢; omega)] at hv'
    refine h3.2 _ v v' (by simpa using hv) ?_
    rw [← hv']; congr 1; simp; omega

include hE
theorem aOp_val {o : Oper} {r : R} (h : aOp P E s σ o = some (.val r)) (_hok : r.σ.Ok) (hs : ∀ x, x ∈ o.op.operands → Rel E.G D ι s ρ x) : SoundN P D ι σ w (execOp ρ o) r := by
  have pv : ∀ (x : Operand) (r : R), pureV σ (av E.G s x) = some (.val r) → Rel E.G D ι s ρ x → SoundN P D ι σ w (Pure.pure (.value (ρ x))) r := by
    intro x r h hr
    obtain ⟨u, hu, rfl⟩ := pureV_spec h
    exact SoundN.value rfl (hr u hu)
  unfold aOp at h
  unfold execOp
  split at h
  · rename_i x ho
    simp only [ho, Op.operands] at hs ⊢
    exact pv x r h (hs x (by simp))
  · rename_i x ho
    simp only [ho, Op.operands] at hs ⊢
    exact pv x r h (hs x (by simp))
  · rename_i c a b ho
    simp only [ho, Op.operands] at hs ⊢
    split at h
    · rename_i hc
      have e := hs c (by simp) _ hc
      obtain ⟨u, hu, rfl⟩ := pureV_spec h
      refine SoundN.value (v' := ρ a) ?_ (hs a (by simp) u hu)
      generalize ρ c = rc at e
      cases e
      simp only [Sem.run_bind, asBool, Sem.run_pure, Result.andThen_ok, if_true]
    · rename_i hc
      have e := hs c (by simp) _ hc
      obtain ⟨u, hu, rfl⟩ := pureV_spec h
      refine SoundN.value (v' := ρ b) ?_ (hs b (by simp) u hu)
      generalize ρ c = rc at e
      cases e
      simp only [Sem.run_bind, asBool, Sem.run_pure, Result.andThen_ok, Bool.false_eq_true, if_false]
    · cases h
  · rename_i elem ho
    simp only [ho]
    exact Sound.next (aAlloc_sound hE.T (memV_spec h))
  · rename_i elem x ho
    simp only [ho, Op.operands] at hs ⊢
    split at h
    · rename_i v hv
      cases hj : notJ v
      · rw [hj] at h; cases h
      · rw [hj, cond_true] at h
        exact Sound.next (aBox_sound hE.T (memV_spec h) (hs x (by simp) v hv) hj)
    · cases h
  · rename_i t ps ho
    simp only [ho, Op.operands] at hs ⊢
    split at h
    · rename_i l hl
      obtain ⟨u, hu, rfl⟩ := pureV_spec h
      have hp := avp_rel _ _ hl fun x hx => hs x (by simpa using hx)
      exact Sound.next (aBuild_sound hE.T hu (by simpa using hp))
    · cases h
  · rename_i t n ps ho
    simp only [ho, Op.operands] at hs ⊢
    split at h
    · rename_i l hl
      have hp := avp_rel _ _ hl fun x hx => hs x (by simpa using hx)
      exact Sound.next (aBuildSlice_sound hE.T (memV_spec h) (by simpa using hp))
    · cases h
  · rename_i t a ho
    simp only [ho, Op.operands] at hs ⊢
    split at h
    · rename_i v hv
      exact Sound.next (aLoad_sound hE.T (memV_spec h) (hs a (by simp) v hv))
    · cases h
  · rename_i t a x ho
    simp only [ho, Op.operands] at hs ⊢
    split at h
    · rename_i v u hv hu
      exact Sound.nextU (aStore_sound hE.T (memV_spec h) (hs a (by simp) v hv) (hs x (by simp) u hu))
    · cases h
  · rename_i x ho
    simp only [ho, Op.operands] at hs ⊢
    split at h
    · rename_i a hv
      have e := hs x (by simp) _ hv
      obtain ⟨u, hu, rfl⟩ := pureV_spec h
      cases hu
      obtain ⟨a', ha'⟩ := e.ptr_shape
      rw [ha'] at e
      exact SoundN.value (v' := .pointer (some a')) (by rw [ha']; rfl) e
    · rename_i t v hv
      have e := hs x (by simp) _ hv
      obtain ⟨u, hu, rfl⟩ := pureV_spec h
      cases hu
      generalize ρ x = rx at e
      cases e with | iface _ _ v' h => exact SoundN.value (v' := .iface t v') rfl (.iface _ _ _ h)
    · rename_i f a b hv
      have e := hs x (by simp) _ hv
      obtain ⟨u, hu, rfl⟩ := pureV_spec h
      cases hu
      generalize ρ x = rx at e
      cases e with | func _ _ a' _ b' h1 h2 h3 h4 => exact SoundN.value (v' := .func (.func f) a' b') rfl (.func _ _ _ _ _ h1 h2 h3 h4)
    · cases h
  · rename_i op t x y ty ho
    simp only [ho, Op.operands] at hs ⊢
    split at h
    · rename_i a b ha hb
      obtain ⟨u, hu, rfl⟩ := pureV_spec h
      exact Sound.next (aBin_sound hE hu (hs x (by simp) a ha) (hs y (by simp) b hb))
    · cases h
  · rename_i op t x ho
    simp only [ho, Op.operands] at hs ⊢
    split at h
    · rename_i b hv
      split at h
      · have e := hs x (by simp) _ hv
        obtain ⟨u, hu, rfl⟩ := pureV_spec h
        cases hu
        generalize ρ x = rx at e
        cases e
        exact SoundN.value (v' := .bool (!b)) rfl (.bool _)
      · cases h
    · rename_i v hno hv
      obtain ⟨u, hu, rfl⟩ := pureV_spec h
      cases hp : plainN 8 v
      · rw [hp] at hu; cases hu
      · rw [hp, cond_true] at hu
        have e := plain_eq 8 _ _ hp (hs x (by simp) v hv)
        rw [e]
        exact Sound.next (prunV_sound hu)
    · cases h
  · rename_i src dst x ho
    simp only [ho, Op.operands] at hs ⊢
    split at h
    · rename_i v hv
      exact Sound.next (aConv_sound hE (memV_spec h) (hs x (by simp) v hv))
    · cases h
  · rename_i t x ho
    simp only [ho, Op.operands] at hs ⊢
    split at h
    · rename_i v d hv hd
      have hni : (∀ m, d ≠ .interface m) ∧ pureV σ (some (.iface t v)) = some (.val r) := by
        split at h
        · cases h
        · rename_i hn; exact ⟨fun m e => hn m e, h⟩
      obtain ⟨u, hu, rfl⟩ := pureV_spec hni.2
      cases hu
      refine Sound.next (Sound.pure (v' := .iface t (ρ x)) ?_ (.iface _ _ _ (hs x (by simp) v hv)))
      simp only [Instr.makeInterface, Sem.run_bind, run_und hE.T hd, Result.andThen_ok]
      split
      · rename_i m; exact absurd rfl (hni.1 m)
      · rfl
    · cases h
  · rename_i fn first captured ho
    simp only [ho, Op.operands] at hs ⊢
    split at h
    · rename_i l m hl hm
      obtain ⟨u, hu, rfl⟩ := pureV_spec h
      cases hu
      have e1 := avs_rel (ρ := ρ) _ _ hl fun x hx => hs x (by simp at hx ⊢; exact .inl hx)
      have e2 := avs_rel (ρ := ρ) _ _ hm fun x hx => hs x (by simp at hx ⊢; exact .inr hx)
      have q1 : (first.toList.map ρ).toArray = first.map ρ := by apply Array.ext'; simp
      have q2 : (captured.toList.map ρ).toArray = captured.map ρ := by apply Array.ext'; simp
      rw [q1] at e1; rw [q2] at e2
      exact Sound.next (Sound.pure (v' := .func fn (first.map ρ) (captured.map ρ)) rfl (.func _ _ _ _ _ e1.1 e2.1 e1.2 e2.2))
    · cases h
  · rename_i t l c ho
    simp only [ho, Op.operands] at hs ⊢
    split at h
    · rename_i a b ha hb
      exact Sound.next (aMakeSlice_sound hE.T (memV_spec h) (hs l (by simp) a ha) (hs c (by simp) b hb))
    · cases h
  · rename_i t x lo hi mx ho
    simp only [ho, Op.operands] at hs ⊢
    split at h
    · rename_i v l h' m hv hl hh hm
      exact Sound.next (aSlice_sound hE.T (memV_spec h) (hs x (by simp) v hv) (avo_rel hl fun y e => hs y (by subst e; simp)) (avo_rel hh fun y e => hs y (by subst e; simp)) (avo_rel hm fun y e => hs y (by subst e; simp)))
    · cases h
  · rename_i t x f ho
    simp only [ho, Op.operands] at hs ⊢
    split at h
    · rename_i v hv
      exact Sound.next (aFieldAddr_sound hE.T (memV_spec h) (hs x (by simp) v hv))
    · cases h
  · rename_i t x f ho
    simp only [ho, Op.operands] at hs ⊢
    split at h
    · rename_i v hv
      obtain ⟨u, hu, rfl⟩ := pureV_spec h
      exact Sound.next (aField_sound hE.T hu (hs x (by simp) v hv))
    · cases h
  · rename_i t x i ho
    simp only [ho, Op.operands] at hs ⊢
    split at h
    · rename_i v u hv hu
      exact Sound.next (aIndexAddr_sound hE.T (memV_spec h) (hs x (by simp) v hv) (hs i (by simp) u hu))
    · cases h
  · rename_i t x i ho
    simp only [ho, Op.operands] at hs ⊢
    split at h
    · rename_i v u hv hu
      obtain ⟨u', hu', rfl⟩ := pureV_spec h
      exact Sound.next (aIndex_sound hE.T hu' (hs x (by simp) v hv) (hs i (by simp) u hu))
    · cases h
  · rename_i t x ho
    simp only [ho, Op.operands] at hs ⊢
    split at h
    · rename_i v hv
      exact Sound.next (aRange_sound hE.T (memV_spec h) (hs x (by simp) v hv))
    · cases h
  · rename_i it isS ho
    simp only [ho, Op.operands] at hs ⊢
    split at h
    · rename_i v hv
      exact Sound.next (aNext_sound (memV_spec h) (hs it (by simp) v hv))
    · cases h
  · rename_i x i ho
    simp only [ho, Op.operands] at hs ⊢
    split at h
    · rename_i v hv
      obtain ⟨u, hu, rfl⟩ := pureV_spec h
      exact Sound.next (aExtract_sound hu (hs x (by simp) v hv))
    · cases h
  · rename_i c ho
    simp only [ho, Op.operands, Call.operands] at hs ⊢
    split at h
    · rename_i args hargs
      have ea := avs_rel (ρ := ρ) _ _ hargs fun x hx => hs x (by simp at hx ⊢; exact .inr hx)
      have q1 : (c.args.toList.map ρ).toArray = c.args.map ρ := by apply Array.ext'; simp
      rw [q1] at ea
      split at h
      · rename_i b hc
        have hb := aBuiltin_sound hE (w := w) (memV_spec h) ea
        have e : (do let d ← resolve ρ c o.type; invoke d.target d.args : Sem Next) = builtin b c.argTypes o.type (c.args.map fun | .const _ => true | _ => false) (c.args.map ρ) := by
          simp only [resolve, hc]; rfl
        rw [e]; exact hb
      · rename_i f hc
        split at h
        · rename_i g first captured hf
          split at h
          · cases h
          · obtain ⟨u, hu, rfl⟩ := pureV_spec h
            have ef := hs f (by simp [hc]) _ hf
            generalize hrf : ρ f = rf at ef
            cases ef with
            | func _ _ a' _ b' h1 h2 h3 h4 =>
              have hcat : AR D ι (first.toList ++ args ++ captured.toList).toArray (a' ++ c.args.map ρ ++ b') := AR.catN ⟨by simpa using h1, by simpa using h3⟩ ea ⟨by simpa using h2, by simpa using h4⟩
              obtain ⟨u', x1, x2⟩ := hE.ext _ _ _ hu D ι _ w hcat
              refine SoundN.value (v' := u') ?_ x1
              rw [call_resolve hc hrf]
              exact x2
        · cases h
      · cases h
    · cases h
  · cases h

theorem aOp_enter {o : Oper} {f : FuncId} {args : List Value} (h : aOp P E s σ o = some (.enter f args)) (hs : ∀ x, x ∈ o.op.operands → Rel E.G D ι s ρ x) :
    ∃ args' fn, AR D ι args.toArray args' ∧ E.fn f = some fn ∧ (execOp ρ o).run P w = .ok (.enter f args') w := by
  unfold aOp at h
  unfold execOp
  simp only [Bool.cond_eq_ite] at h
  split at h
  case h_25 c ho =>
    simp only [ho, Op.operands, Call.operands] at hs ⊢
    split at h
    · rename_i as hargs
      have ea := avs_rel (ρ := ρ) _ _ hargs fun x hx => hs x (by simp at hx ⊢; exact .inr hx)
      have q1 : (c.args.toList.map ρ).toArray = c.args.map ρ := by apply Array.ext'; simp
      rw [q1] at ea
      split at h
      · exact absurd h memV_enter
      · rename_i g hc
        split at h
        · rename_i g' first captured hf
          split at h
          · rename_i fn hfn
            cases h
            have ef := hs g (by simp [hc]) _ hf
            generalize hrf : ρ g = rf at ef
            cases ef with
            | func _ _ a' _ b' h1 h2 h3 h4 =>
              refine ⟨_, fn, AR.catN ⟨by simpa using h1, by simpa using h3⟩ ea ⟨by simpa using h2, by simpa using h4⟩, hfn, ?_⟩
              rw [call_resolve hc hrf]
              obtain ⟨y1, y2, y3⟩ := hE.fn _ _ hfn
              have y4 : fn.body.isNone = false := by cases hb : fn.body <;> simp_all
              simp only [callFunc, Sem.run_bind, run_program, Result.andThen_ok, y1, y3, Bool.false_eq_true, if_false, y4, Sem.run_pure]
          · exact absurd h pureV_enter
        · cases h
      · cases h
    · cases h
  all_goals (repeat' split at h) <;> first | exact absurd h pureV_enter | exact absurd h memV_enter | cases h
omit hE
end
end Go.Eng

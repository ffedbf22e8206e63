/-
  The engine, part X4: cuts of slices that read as data. No condition.
-/
import Derived.Test.YtdbaigcnlmnliaaGreatDoorEngX3
noncomputable section
namespace Go.Eng
open Go
section
variable {P : Program} {T : TE} (hT : T.OK P) {D : Nat → Prop} {ι ι' : Nat → Reg} {σ σ' : St} {w w' : World} {φ : Foot}

/-- the bounds of a cut: what they come to, what is taken to hold -/
def sBnds (len : Nat) (lo hi : Option Value) : Option (Option Int × Option Int × List Prop) :=
  match lo, hi with
  | none, none => some (none, none, [])
  | some l, none => match unsy l with
    | some (.int _ n) => some (some n, none, [0 ≤ n, n ≤ len])
    | _ => none
  | none, some h => match unsy h with
    | some (.int _ m) => some (none, some m, [0 ≤ m, m ≤ len])
    | _ => none
  | some l, some h => match unsy l, unsy h with
    | some (.int _ n), some (.int _ m) => some (some n, some m, [0 ≤ n, n ≤ m, m ≤ len])
    | _, _ => none
def cutL {α : Type} (xs : List α) (lo hi : Option Int) : List α :=
  match lo, hi with
  | none, none => xs
  | some n, none => xs.drop n.toNat
  | none, some m => xs.take m.toNat
  | some n, some m => (xs.take m.toNat).drop n.toNat
theorem sBnds_run {len cap : Nat} {lo hi lo' hi' : Option Value} {n m : Option Int} {ps : List Prop} {α : Type} (xs : List α) (hx : xs.length = len) (h : sBnds len lo hi = some (n, m, ps)) (hp : AllP ps) (hc : len ≤ cap) (h1 : OR D ι lo lo') (h2 : OR D ι hi hi') (w : World) :
    ∃ l h, (Instr.sliceBounds true len cap lo' hi' none).run P w = .ok (l, h, cap) w ∧ l ≤ h ∧ h ≤ len ∧ cutL xs n m = (xs.take h).drop l := by
  unfold sBnds at h
  split at h
  · cases h; cases h1; cases h2
    exact ⟨0, len, by simp [Instr.sliceBounds], Nat.zero_le _, Nat.le_refl _, by simp [cutL, ← hx]⟩
  · rename_i l
    split at h
    · rename_i k n0 hu
      cases h; cases h2
      cases h1 with
      | some _ b hb =>
        obtain ⟨rfl, _⟩ := unsy_spec hu hb
        have p0 : (0 : Int) ≤ n0 := hp.1
        have p1 : n0 ≤ len := hp.2.1
        have e := fun c => bound_run (P := P) (k := k) (code := c) p0 (y := len) p1 w
        exact ⟨n0.toNat, len, by simp [Instr.sliceBounds, e], by omega, Nat.le_refl _, by simp [cutL, ← hx]⟩
    · cases h
  · rename_i l
    split at h
    · rename_i k n0 hu
      cases h; cases h1
      cases h2 with
      | some _ b hb =>
        obtain ⟨rfl, _⟩ := unsy_spec hu hb
        have p0 : (0 : Int) ≤ n0 := hp.1
        have p1 : n0 ≤ len := hp.2.1
        have e := fun c => bound_run (P := P) (k := k) (code := c) p0 (y := cap) (by omega) w
        exact ⟨0, n0.toNat, by simp [Instr.sliceBounds, e], Nat.zero_le _, by omega, by simp [cutL]⟩
    · cases h
  · rename_i l h0
    split at h
    · rename_i k n0 k2 m0 hu hu2
      cases h
      cases h1 with
      | some _ b hb =>
        cases h2 with
        | some _ b2 hb2 =>
          obtain ⟨rfl, _⟩ := unsy_spec hu hb
          obtain ⟨rfl, _⟩ := unsy_spec hu2 hb2
          have p0 : (0 : Int) ≤ n0 := hp.1
          have p1 : n0 ≤ m0 := hp.2.1
          have p2 : m0 ≤ len := hp.2.2.1
          have e := fun c => bound_run (P := P) (k := k2) (code := c) (by omega : 0 ≤ m0) (y := cap) (by omega) w
          have e2 := fun c => bound_run (P := P) (k := k) (code := c) p0 (y := m0.toNat) (by omega) w
          exact ⟨n0.toNat, m0.toNat, by simp [Instr.sliceBounds, e, e2], by omega, by omega, by simp [cutL]⟩
    · cases h

def St.assumes (σ : St) (ps : List Prop) : St := ps.foldr (fun p σ => σ.assume p) σ
theorem assumes_ok : ∀ (ps : List Prop) (σ : St), (σ.assumes ps).Ok ↔ AllP ps ∧ σ.Ok
  | [], σ => by simp [St.assumes, AllP]
  | p :: ps, σ => by
    show ((σ.assumes ps).assume p).Ok ↔ _
    rw [St.assume_ok, assumes_ok ps σ, AllP, and_assoc]
theorem Sound.assumes {e : Sem Value} {v : Value} {φ : Foot} : ∀ (ps : List Prop) {σ' : St}, Sound P D ι σ w e ⟨v, σ', φ⟩ → Sound P D ι σ w e ⟨v, σ'.assumes ps, φ⟩
  | [], _, h => h
  | _ :: ps, _, h => (Sound.assumes ps h).assume

def sCutD (T : TE) (σ : St) (t : TypeId) (x : Value) (lo hi : Option Value) : Option R :=
  match x with
  | .tuple a => match a.toList with
    | [.chan (some 2), .pointer (some ⟨id, 0, none⟩)] => match σ.heap.get id, T.und t with
      | some (.dat te xs), some (.slice elem) => match T.inf elem with
        | some e => bif Nat.beq e.size te.sz then match sBnds xs.length lo hi with
            | some (n, m, ps) => some ⟨dt σ.next, (σ.new (.dat te (cutL xs n m))).assumes ps, ⟨[], [id], [], []⟩⟩
            | none => none
          else none
        | none => none
      | _, _ => none
    | _ => none
  | _ => none

include hT
theorem sCutD_sound {t : TypeId} {x x' : Value} {lo hi lo' hi' : Option Value} {r : R} (h : sCutD T σ t x lo hi = some r) (hok : r.σ.Ok) (hx : VR D ι x x') (h1 : OR D ι lo lo') (h2 : OR D ι hi hi') : Sound P D ι σ w (Instr.sliceAt t x' lo' hi' none) r := by
  have hsl : ∀ e, T.und t = some (.slice e) → ∀ w, (Instr.sliceAt t x' lo' hi' none).run P w = (Instr.slice t x' lo' hi' none).run P w := fun e hu w => by
    simp only [Instr.sliceAt, Sem.run_bind, run_und hT hu, Result.andThen_ok]
  unfold sCutD at h
  split at h
  · rename_i a
    split at h
    · rename_i id ha
      rw [tuple_eq ha] at hx
      obtain ⟨a, len, c, rfl, hD, hsv⟩ := dt_inv hx
      split at h
      · rename_i te xs elem hg hu
        split at h
        · rename_i e he
          cases hb : Nat.beq e.size te.sz
          · rw [hb] at h; cases h
          rw [hb, cond_true] at h
          have hb := Nat.eq_of_beq_eq_true hb
          split at h
          · rename_i n m ps hbn
            cases h
            obtain ⟨hp, -⟩ := (assumes_ok _ _).1 hok
            refine Sound.assumes ps ?_
            have hm : mat [.s te (cutL xs n m)] σ = ([dt σ.next], σ.new (.dat te (cutL xs n m))) := rfl
            refine ⟨(mat_sound (φ := .nil) hm).1, (mat_sound hm).2, fun hw hDn ho => ?_⟩
            have hF : (⟨[], [id], [], []⟩ : Foot).Fi id := .inr (.inl (by simp))
            have hmem := mem_of (show datOf (σ.heap.get id) = some ⟨te, xs⟩ by rw [hg]; rfl) hF ho
            obtain ⟨g1, -, -, g4⟩ := ho.hd id _ hF (St.hdr_of hg)
            -- the new slice, and that it reads as the part
            have key : ∃ u, (Instr.slice t (.slice a len c) lo' hi' none).run P w = .ok u w ∧ RdS (ι id).fz te (cutL xs n m) u := by
              rcases g1 with ⟨⟨q, c1, e1⟩, rfl⟩ | ⟨b, o, c', arr, e1, e2, e3, e4, e5⟩
              · rw [hsv] at e1
                cases e1
                obtain ⟨l, h, r1, r2, r3, r4⟩ := sBnds_run (P := P) (cap := c) ([] : List te.Den) rfl hbn hp (Nat.zero_le _) h1 h2 w
                have r3 : h ≤ 0 := r3
                have r1 : (Instr.sliceBounds true 0 c lo' hi' none).run P w = .ok (l, h, c) w := r1
                have : l = 0 := by omega
                have : h = 0 := by omega
                subst l h
                exact ⟨.slice (if c = 0 then a else a.map (·.add (0 * e.size))) (0 - 0) (c - 0), by simp only [Instr.slice, Sem.run_bind, run_und hT hu, Result.andThen_ok, r1, run_siz hT he, Sem.run_pure], .inl ⟨⟨_, _, rfl⟩, by rw [r4]; rfl⟩⟩
              · rw [hsv] at e1
                cases e1
                obtain ⟨l, h, r1, r2, r3, r4⟩ := sBnds_run (P := P) (cap := c) xs rfl hbn hp e4 h1 h2 w
                have hlen : (cutL xs n m).length = h - l := by rw [r4, List.length_drop, List.length_take]; omega
                refine ⟨.slice (if c = l then some ⟨b, o, none⟩ else (some ⟨b, o, none⟩ : Option Addr).map (·.add (l * e.size))) (h - l) (c - l), by simp only [Instr.slice, Sem.run_bind, run_und hT hu, Result.andThen_ok, r1, run_siz hT he, Sem.run_pure], ?_⟩
                by_cases hc : c = l
                · subst hc
                  refine .inr ⟨b, o, 0, arr, by rw [if_pos rfl, hlen]; simp, e2, by rw [hlen, show h - c = 0 by omega]; omega, by rw [hlen]; omega, fun i x hx => ?_⟩
                  rw [List.getElem?_eq_none (by omega)] at hx; cases hx
                · refine .inr ⟨b, o + l * te.sz, c - l, arr, by rw [if_neg hc, hlen, Option.map_some, add_none, hb], e2, ?_, by rw [hlen]; omega, fun i x hx => ?_⟩
                  · rw [hlen]
                    have : l * te.sz + (h - l) * te.sz = h * te.sz := by rw [← Nat.add_mul]; congr 1; omega
                    have : h * te.sz ≤ xs.length * te.sz := Nat.mul_le_mul_right _ r3
                    omega
                  · rw [r4, List.getElem?_drop, List.getElem?_take] at hx
                    split at hx
                    · have := e5 (l + i) x hx
                      rwa [Nat.add_mul, ← Nat.add_assoc] at this
                    · cases hx
            obtain ⟨u, hrun, hrd⟩ := key
            obtain ⟨ι', m1, m2, m3⟩ := mat_ok [.s te (cutL xs n m)] [u] D ι σ _ _ hm rfl fun k d u' hd hu' => by
              rcases k with _ | k
              · simp only [List.getElem?_cons_zero, Option.some.injEq] at hd hu'
                subst hd hu'; exact hrd
              · simp at hd
            exact ⟨u, ι', w, (hsl _ hu w).trans hrun, m3 0 _ u rfl rfl, Post.mats hw m1 (Nat.le_refl _) rfl rfl (fun _ _ => rfl) g4 (fun b c hb => fz_here (St.lv_of hg) hw hF b c hb) rfl rfl⟩
          · cases h
        · cases h
      · cases h
    · cases h
  · cases h
omit hT
end
end Go.Eng

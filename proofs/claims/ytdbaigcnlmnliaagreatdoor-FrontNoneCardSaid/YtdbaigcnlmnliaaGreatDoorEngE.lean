/-
  The engine, part E: values without memory, parts of values, comparisons, cuts of strings and slices. No condition.
-/
import Derived.Test.YtdbaigcnlmnliaaGreatDoorEngD
noncomputable section
namespace Go.Eng
open Go
section
variable {P : Program} {T : TE} (hT : T.OK P) {D : Nat → Prop} {ι : Nat → Reg} {σ : St} {w : World}

/-! ### what asks neither memory nor the tape -/
def prun {α : Type} (P : Program) : Sem α → Option α
  | .pure a => some a
  | .program k => prun P (k P)
  | .mark _ k => prun P k
  | .choose q k => bif q.forced then prun P (k 0) else none
  | _ => none
theorem prun_run {α : Type} (P : Program) (e : Sem α) : ∀ (a : α), prun P e = some a → ∀ w, e.run P w = .ok a w := by
  induction e with
  | pure x => intro a h w; simp [prun] at h; subst h; rfl
  | program k ih => intro a h w; simp only [prun] at h; simp only [Sem.run]; exact ih P a h w
  | mark m k ih => intro a h w; simp only [prun] at h; simp only [Sem.run]; exact ih a h w
  | choose q k ih =>
    intro a h w
    simp only [prun] at h
    cases hq : q.forced
    · rw [hq] at h; cases h
    · rw [hq, cond_true] at h
      simp only [Sem.run, hq, if_true]
      exact ih 0 a h w
  | _ => intro a h; simp [prun] at h

theorem prun_sound {e : Sem Value} {v : Value} (h : prun P e = some v) (hv : plainN 8 v = true) : Sound P D ι σ w e ⟨v, σ, .nil⟩ :=
  Sound.pure (prun_run P e v h w) (plain_refl 8 v hv)

/-! ### parts -/
def aExtract (x : Value) (i : Nat) : Option Value :=
  match x with
  | .tuple vs => bif isSyL vs.toList then none else lget vs.toList i
  | _ => none
theorem lget_arr (as : Array Value) (i : Nat) : lget as.toList i = as[i]? := by rw [lget_eq]; simp
theorem aExtract_sound {x x' v : Value} {i : Nat} (h : aExtract x i = some v) (hx : VR D ι x x') : Sound P D ι σ w (Instr.extract x' i) ⟨v, σ, .nil⟩ := by
  unfold aExtract at h
  split at h
  · rename_i vs
    cases hsy : isSyL vs.toList
    case true => rw [hsy] at h; cases h
    rw [hsy, cond_false, lget_arr] at h
    cases hx with
    | sym _ _ => cases hsy
    | err _ _ _ => cases hsy
    | aint _ _ => cases hsy
    | dat _ _ _ _ _ _ => cases hsy
    | tuple _ bs hs hh =>
      have hlt : i < bs.size := by
        rw [← hs]
        rcases Nat.lt_or_ge i vs.size with h' | h'
        · exact h'
        · rw [Array.getElem?_eq_none h'] at h; cases h
      refine Sound.pure (v' := bs[i]) ?_ (hh i v bs[i] h (Array.getElem?_eq_getElem hlt))
      simp [Instr.extract, Array.getElem?_eq_getElem hlt]
  · cases h

def aPart (T : TE) (t : TypeId) (cs : Array Value) (off : Nat) : Option Value :=
  match T.und t with
  | some d => bif isAggD d then
      match T.inf t with
      | some i => match lslice cs.toList off i.size with
        | some l => some (.agg l.toArray)
        | none => none
      | none => none
    else lget cs.toList off
  | none => none

include hT
theorem aPart_run {t : TypeId} {as bs : Array Value} {off : Nat} {v : Value} (h : aPart T t as off = some v) (ha : AR D ι as bs) (w : World) :
    ∃ v', (part t bs off).run P w = .ok v' w ∧ VR D ι v v' := by
  unfold aPart at h
  split at h
  · rename_i d hd
    cases hagg : isAggD d
    · rw [hagg, cond_false, lget_arr] at h
      have hlt : off < bs.size := by
        rw [← ha.1]
        rcases Nat.lt_or_ge off as.size with h' | h'
        · exact h'
        · rw [Array.getElem?_eq_none h'] at h; cases h
      refine ⟨bs[off], ?_, ha.2 off v bs[off] h (Array.getElem?_eq_getElem hlt)⟩
      simp only [part, Sem.run_bind, run_isAgg hT hd, hagg, Result.andThen_ok, Bool.false_eq_true, if_false, Array.getElem?_eq_getElem hlt, Sem.run_pure]
    · rw [hagg, cond_true] at h
      split at h
      · rename_i i hi
        split at h
        · rename_i l hl
          cases h
          obtain ⟨h1, h2, h3⟩ := lslice_spec _ _ _ _ hl
          simp only [Array.length_toList] at h2
          have hs := ha.1
          refine ⟨.agg (bs.extract off (off + i.size)), ?_, .agg _ _ ?_ fun k v v' hv hv' => ?_⟩
          · simp only [part, Sem.run_bind, run_isAgg hT hd, hagg, Result.andThen_ok, if_true, run_siz hT hi, Sem.run_pure]
          · simp only [List.size_toArray, h1, Array.size_extract]
            by_cases h0 : 0 < i.size
            · have := h2 h0; omega
            · omega
          · have hk : k < i.size := by
              rcases Nat.lt_or_ge k i.size with h' | h'
              · exact h'
              · simp only [List.getElem?_toArray] at hv
                rw [List.getElem?_eq_none (by omega)] at hv; cases hv
            simp only [List.getElem?_toArray] at hv
            rw [h3 k hk] at hv
            simp only [Array.getElem?_toList] at hv
            rw [Array.getElem?_extract] at hv'
            have := h2 (by omega)
            rw [if_pos (by omega)] at hv'
            exact ha.2 _ v v' hv hv'
        · cases h
      · cases h
  · cases h

def aField (T : TE) (t : TypeId) (x : Value) (f : Nat) : Option Value :=
  match x with
  | .agg cs => match T.und t with
    | some (.struct fs) => match fs[f]? with
      | some fd => aPart T fd.type cs fd.offset
      | none => none
    | _ => none
  | _ => none
theorem aField_sound {t : TypeId} {x x' v : Value} {f : Nat} (h : aField T t x f = some v) (hx : VR D ι x x') : Sound P D ι σ w (Instr.field t x' f) ⟨v, σ, .nil⟩ := by
  unfold aField at h
  split at h
  · rename_i cs
    split at h
    · rename_i fs hu
      split at h
      · rename_i fd hf
        cases hx with
        | agg _ bs hs hh =>
          obtain ⟨v', e, hv⟩ := aPart_run hT h ⟨hs, hh⟩ w
          refine Sound.pure (v' := v') ?_ hv
          simp only [Instr.field, Sem.run_bind, run_und hT hu, Result.andThen_ok, hf, asAgg, Sem.run_pure, e]
      · cases h
    · cases h
  · cases h

omit hT
def bget : List UInt8 → Nat → Option UInt8
  | [], _ => none
  | x :: _, 0 => some x
  | _ :: xs, n + 1 => bget xs n
theorem bget_eq : ∀ (l : List UInt8) (k : Nat), bget l k = l[k]?
  | [], k => by simp [bget]
  | x :: xs, 0 => by simp [bget]
  | x :: xs, k + 1 => by simp [bget, bget_eq xs k]
theorem bytes_get (s : ByteArray) (k : Nat) : s[k]? = s.data.toList[k]? := by
  rw [getElem?_def]
  by_cases h : k < s.size
  · rw [dif_pos h]
    have : k < s.data.toList.length := by simpa using h
    rw [List.getElem?_eq_getElem this]
    rfl
  · rw [dif_neg h, List.getElem?_eq_none (by simpa using h)]

def aIndex (T : TE) (t : TypeId) (x ix : Value) : Option Value :=
  match ix with
  | .int _ i => match x with
    | .string s => match T.und t with
      | some .string => match i with
        | .ofNat k => match bget s.data.toList k with
          | some b => some (.int .u8 b.toNat)
          | none => none
        | _ => none
      | _ => none
    | .agg cs => match T.und t with
      | some (.array len elem) => match T.inf elem with
        | some e => bif intOK i len then aPart T elem cs (i.toNat * e.size) else none
        | none => none
      | _ => none
    | _ => none
  | _ => none
include hT
theorem aIndex_sound {t : TypeId} {x x' ix ix' v : Value} (h : aIndex T t x ix = some v) (hx : VR D ι x x') (hi : VR D ι ix ix') : Sound P D ι σ w (Instr.index t x' ix') ⟨v, σ, .nil⟩ := by
  unfold aIndex at h
  split at h
  · rename_i k i
    cases hi
    split at h
    · rename_i s
      cases hx
      split at h
      · rename_i hu
        split at h
        · rename_i n
          rw [bget_eq] at h
          split at h
          · rename_i b hb
            cases h
            refine Sound.pure (v' := .int .u8 b.toNat) ?_ (.int _ _)
            have h0 : (0 : Int) ≤ (n : Int) := Int.natCast_nonneg n
            simp only [Instr.index, asIntOf, Sem.run_bind, Sem.run_pure, Result.andThen_ok, run_und hT hu, h0, if_true, Int.ofNat_eq_natCast, Int.toNat_natCast, bytes_get, hb]
          · cases h
        · cases h
      · cases h
    · rename_i cs
      split at h
      · rename_i len elem hu
        split at h
        · rename_i e he
          cases hb : intOK i len
          · rw [hb] at h; cases h
          · rw [hb, cond_true] at h
            obtain ⟨i1, i2, i3⟩ := intOK_spec hb
            cases hx with
            | agg _ bs hs hh =>
              obtain ⟨v', e', hv⟩ := aPart_run hT h ⟨hs, hh⟩ w
              refine Sound.pure (v' := v') ?_ hv
              simp only [Instr.index, asIntOf, Sem.run_bind, Sem.run_pure, Result.andThen_ok, run_und hT hu, i1, i2, and_self, if_true, run_siz hT he, e']
        · cases h
      · cases h
    · cases h
  · cases h

omit hT
/-! ### cuts -/
def bsub (s : List UInt8) (l h : Nat) : List UInt8 := (s.drop l).take (h - l)
theorem bsub_eq (s : ByteArray) (l h : Nat) : s.extract l h = ⟨(bsub s.data.toList l h).toArray⟩ := by
  apply ByteArray.ext
  rw [ByteArray.data_extract]
  apply Array.ext'
  simp [bsub, List.extract]

/-- a bound: its value, if it is one from lo to most -/
def aBound (v : Option Value) (dflt most : Nat) : Option Nat :=
  match v with
  | none => some dflt
  | some (.int _ (.ofNat k)) => bif Nat.ble k most then some k else none
  | _ => none

theorem aBound_run {x : Value} {y k : Nat} {code : BoundsCode} {dflt : Nat} (h : aBound (some x) dflt y = some k) {x' : Value} (hx : VR D ι x x') (w : World) :
    (Instr.sliceBound x' y code).run P w = .ok k w ∧ k ≤ y := by
  unfold aBound at h
  split at h
  · rename_i h'; cases h'
  · rename_i h'
    cases h'
    rename_i kk n
    cases hb : Nat.ble n y
    · rw [hb] at h; cases h
    · rw [hb] at h
      cases h
      cases hx
      have hle := Nat.le_of_ble_eq_true hb
      refine ⟨?_, hle⟩
      have h0 : (0 : Int) ≤ (k : Int) := Int.natCast_nonneg k
      have h1 : (k : Int) ≤ (y : Int) := by simpa using hle
      simp only [Instr.sliceBound, asIntOf, Sem.run_bind, Sem.run_pure, Result.andThen_ok, h0, h1, and_self, if_true, Int.ofNat_eq_natCast, Int.toNat_natCast]
  · cases h

inductive OR (D : Nat → Prop) (ι : Nat → Reg) : Option Value → Option Value → Prop where
  | none : OR D ι none none
  | some (a b) (h : VR D ι a b) : OR D ι (some a) (some b)

/-- the three bounds of a cut; no third one, or one not above what is known -/
def aBounds (len cap : Nat) (lo hi mx : Option Value) : Option (Nat × Nat × Nat) :=
  match aBound mx cap cap with
  | some m => match aBound hi len m with
    | some h => match aBound lo 0 h with
      | some l => match hi, mx with
        | none, some _ => none
        | _, _ => some (l, h, m)
      | none => none
    | none => none
  | none => none

theorem aBounds_run {isSl : Bool} {len cap cap' : Nat} {lo hi mx lo' hi' mx' : Option Value} {l h m : Nat} (hh : aBounds len cap lo hi mx = some (l, h, m)) (hc : cap ≤ cap') (hmx : mx = none → cap' = cap)
    (r1 : OR D ι lo lo') (r2 : OR D ι hi hi') (r3 : OR D ι mx mx') (hlc : len ≤ cap) (w : World) :
    (Instr.sliceBounds isSl len cap' lo' hi' mx').run P w = .ok (l, h, m) w ∧ l ≤ h ∧ h ≤ m ∧ m ≤ cap := by
  unfold aBounds at hh
  split at hh
  · rename_i m' hm
    split at hh
    · rename_i h' hh'
      split at hh
      · rename_i l' hl
        have up : ∀ a, aBound (some a) cap cap = some m' → aBound (some a) cap cap' = some m' := by
          intro a hm
          unfold aBound at hm ⊢
          split at hm
          · rename_i h; cases h
          · rename_i kk n e
            cases e
            cases hb : Nat.ble n cap
            · rw [hb] at hm; cases hm
            · rw [hb] at hm
              have : Nat.ble n cap' = true := Nat.ble_eq_true_of_le (Nat.le_trans (Nat.le_of_ble_eq_true hb) hc)
              simp only [this, cond_true]
              exact hm
          · cases hm
        split at hh
        · cases hh
        · rename_i hno
          cases hh
          cases r3 with
          | none =>
            simp only [aBound, Option.some.injEq] at hm
            subst hm
            have hcc := hmx rfl
            subst hcc
            cases r2 with
            | none =>
              simp only [aBound, Option.some.injEq] at hh'
              subst hh'
              cases r1 with
              | none =>
                simp only [aBound, Option.some.injEq] at hl
                subst hl
                exact ⟨by simp [Instr.sliceBounds], Nat.zero_le _, hlc, Nat.le_refl _⟩
              | some a b hab =>
                have e := fun c => aBound_run (P := P) (code := c) hl hab w
                exact ⟨by simp [Instr.sliceBounds, (e _).1], (e .index).2, hlc, Nat.le_refl _⟩
            | some c d hcd =>
              have eh := fun c => aBound_run (P := P) (code := c) hh' hcd w
              cases r1 with
              | none =>
                simp only [aBound, Option.some.injEq] at hl
                subst hl
                exact ⟨by simp [Instr.sliceBounds, (eh _).1], Nat.zero_le _, (eh .index).2, Nat.le_refl _⟩
              | some a b hab =>
                have e := fun c => aBound_run (P := P) (code := c) hl hab w
                exact ⟨by simp [Instr.sliceBounds, (e _).1, (eh _).1], (e .index).2, (eh .index).2, Nat.le_refl _⟩
          | some u v huv =>
            have em := fun c => aBound_run (P := P) (code := c) (up u hm) huv w
            have em2 := aBound_run (P := P) (code := .index) hm huv w
            cases r2 with
            | none => exact absurd rfl (hno u rfl)
            | some c d hcd =>
              have eh := fun c => aBound_run (P := P) (code := c) hh' hcd w
              cases r1 with
              | none =>
                simp only [aBound, Option.some.injEq] at hl
                subst hl
                exact ⟨by simp [Instr.sliceBounds, (em _).1, (eh _).1], Nat.zero_le _, (eh .index).2, em2.2⟩
              | some a b hab =>
                have e := fun c => aBound_run (P := P) (code := c) hl hab w
                exact ⟨by simp [Instr.sliceBounds, (e _).1, (em _).1, (eh _).1], (e .index).2, (eh .index).2, em2.2⟩
      · cases hh
    · cases hh
  · cases hh
end
end Go.Eng

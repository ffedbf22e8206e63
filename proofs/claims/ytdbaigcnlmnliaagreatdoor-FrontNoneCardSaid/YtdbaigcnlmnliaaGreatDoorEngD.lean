/-
  The engine, part D: what single operations give on abstract memory, and that they give it: new variables, loads, stores, addresses. No condition.
-/
import Derived.Test.YtdbaigcnlmnliaaGreatDoorEngC
import Derived.ChangeKeysEq
noncomputable section
namespace Go.Eng
open Go

/-- types, by tables -/
structure TE where
  und : TypeId → Option TypeDesc
  inf : TypeId → Option TypeInfo
structure TE.OK (T : TE) (P : Program) : Prop where
  und : ∀ t d, T.und t = some d → P.underlying t = some d
  inf : ∀ t i, T.inf t = some i → P.info? t = some i

section
variable {P : Program} {T : TE} (hT : T.OK P) {D : Nat → Prop} {ι : Nat → Reg} {σ : St} {w : World}

def notJ : Value → Bool
  | .chan (some _) => false
  | _ => true
theorem plain_notJ {n : Nat} {v : Value} (h : plainN n v = true) : notJ v = true := by
  cases n with
  | zero => simp [plainN] at h
  | succ n => cases v <;> first | rfl | (rename_i r; cases r <;> first | rfl | simp [plainN] at h)
theorem VR.cells {v v' : Value} (h : VR D ι v v') (hn : notJ v = true) : AR D ι v.cells v'.cells := by
  have one : ∀ x y : Value, VR D ι x y → AR D ι #[x] #[y] := fun x y hxy => ⟨rfl, fun i a b ha hb => by
    rcases i with _ | i
    · cases ha; cases hb; exact hxy
    · simp at ha⟩
  cases h with
  | junk v => cases hn
  | sym _ h => cases v' <;> first | exact one _ _ (.sym _ h) | cases h
  | err _ _ h => cases v' <;> first | exact one _ _ (.err _ _ h) | cases h
  | aint k n => exact one _ _ (.aint k n)
  | dat id a l c h e => exact one _ _ (.dat id a l c h e)
  | pel id i j b o l c h e => exact one _ _ (.pel id i j b o l c h e)
  | agg as bs hs hh => exact ⟨hs, hh⟩
  | tuple as bs hs hh => exact one _ _ (.tuple as bs hs hh)
  | bool b => exact one _ _ (.bool b)
  | int k n => exact one _ _ (.int k n)
  | float k n => exact one _ _ (.float k n)
  | complex k a b => exact one _ _ (.complex k a b)
  | string s => exact one _ _ (.string s)
  | ptrN => exact one _ _ .ptrN
  | ptr id off h => exact one _ _ (.ptr id off h)
  | slN l c => exact one _ _ (.slN l c)
  | slK id off l c h hc => exact one _ _ (.slK id off l c h hc)
  | slU id off l c h h1 h2 => exact one _ _ (.slU id off l c h h1 h2)
  | slE id off o' c h h1 h2 => exact one _ _ (.slE id off o' c h h1 h2)
  | mapN => exact one _ _ .mapN
  | chanN => exact one _ _ .chanN
  | nilFunc => exact one _ _ .nilFunc
  | nilIface => exact one _ _ .nilIface
  | iface t v v' h => exact one _ _ (.iface t v v' h)
  | func fn as bs cs ds hs hs' hh hh' => exact one _ _ (.func fn as bs cs ds hs hs' hh hh')

include hT
theorem run_und {t : TypeId} {d : TypeDesc} (h : T.und t = some d) (w : World) : (underlying t).run P w = .ok d w := run_underlying (hT.und t d h) w
theorem run_inf {t : TypeId} {i : TypeInfo} (h : T.inf t = some i) (w : World) : (typeInfo t).run P w = .ok i w := run_typeInfo w (hT.inf t i h)
theorem run_siz {t : TypeId} {i : TypeInfo} (h : T.inf t = some i) (w : World) : (sizeOf t).run P w = .ok i.size w := by
  simp [sizeOf, run_inf hT h]
theorem run_zero {t : TypeId} {i : TypeInfo} {z : Value} (h : T.inf t = some i) (hz : i.zero = some z) (w : World) : (zeroValue t).run P w = .ok z w := by
  simp [zeroValue, run_inf hT h, hz]

/-! ### new variables -/
def aNew (T : TE) (σ : St) (elem : TypeId) (cs : List Value) : Option R :=
  match T.inf elem with
  | some i => bif Nat.beq (Nat.mod cs.length i.size) 0 then some ⟨.pointer (some ⟨σ.next, 0, none⟩), σ.new (.row cs elem false), .nil⟩ else none
  | none => none

theorem aNew_sound {elem : TypeId} {cs : List Value} {c : Array Value} {r : R} (h : aNew T σ elem cs = some r) (hc : AR D ι cs.toArray c) :
    Sound P D ι σ w (do pure (.pointer (some (← newRow elem c)))) r := by
  unfold aNew at h
  split at h
  · rename_i i hi
    cases hmod : Nat.beq (Nat.mod cs.length i.size) 0
    · rw [hmod] at h; cases h
    rw [hmod, cond_true] at h
    have hmod : cs.length % i.size = 0 := Nat.eq_of_beq_eq_true hmod
    cases h
    refine ⟨by simp [St.new], fun hw => ⟨St.new_wf hw _, AFr.new _ _ _⟩, fun hw hD _ => ?_⟩
    have hDn : ¬ D σ.next := hD _ (by simp [St.rng, St.new])
    refine ⟨.pointer (some ⟨w.heap.size, 0, none⟩), upd ι σ.next (rg w.heap.size 0 c.size i.size), { w with heap := w.heap.push (.cells c elem (0, 0)) }, by simp [newRow], ?_, ?_⟩
    · have := VR.ptr (D := fun i => D i ∨ σ.rng (σ.new (.row cs elem false)) i) (ι := upd ι σ.next (rg w.heap.size 0 c.size i.size)) σ.next 0 (.inr (St.rng_new.2 rfl))
      rw [upd_eq] at this
      exact this
    · refine Post.new hw hDn ?_ ?_ ?_ ?_ rfl rfl rfl rfl rfl
      · have := hc.1; simp at this; omega
      · intro j hj
        have := hT.inf _ _ hi
        rw [this] at hj; cases hj
        have hl : cs.length = c.size := by simpa using hc.1
        exact ⟨rfl, by rw [← hl]; exact hmod⟩
      · intro o _ h; omega
      · intro k v hk
        have hlt : k < c.size := by
          have := hc.1
          simp at this
          have hk2 : k < cs.length := by
            rcases Nat.lt_or_ge k cs.length with h | h
            · exact h
            · rw [List.getElem?_eq_none h] at hk; cases hk
          omega
        exact ⟨c[k], Array.getElem?_eq_getElem hlt, hc.2 k v c[k] (by simpa using hk) (Array.getElem?_eq_getElem hlt)⟩
  · cases h

def aAlloc (T : TE) (σ : St) (elem : TypeId) : Option R :=
  match T.inf elem with
  | some i => match i.zero with
    | some z => bif plainN 8 z then aNew T σ elem z.cells.toList else none
    | none => none
  | none => none

theorem aAlloc_sound {elem : TypeId} {r : R} (h : aAlloc T σ elem = some r) : Sound P D ι σ w (Instr.alloc elem true (.tuple #[])) r := by
  unfold aAlloc at h
  split at h
  · rename_i i hi
    split at h
    · rename_i z hz
      cases hp : plainN 8 z
      · rw [hp] at h; cases h
      · rw [hp] at h
        have hv : VR D ι z z := plain_refl 8 z hp
        have := aNew_sound hT (w := w) (ι := ι) (D := D) (c := z.cells) h (by simpa using hv.cells (plain_notJ hp))
        have e : Instr.alloc elem true (.tuple #[]) = (do let zero ← zeroValue elem; pure (.pointer (some (← newVar elem zero)))) := by
          unfold Instr.alloc; rfl
        obtain ⟨h1, h2, h3⟩ := this
        refine ⟨h1, h2, fun a b c => ?_⟩
        obtain ⟨v', ι', w', g1, g2, g3⟩ := h3 a b c
        refine ⟨v', ι', w', ?_, g2, g3⟩
        rw [e, Sem.run_bind, run_zero hT hi hz, Result.andThen_ok]
        exact g1
    · cases h
  · cases h

theorem aBox_sound {elem : TypeId} {v v' : Value} {r : R} (h : aNew T σ elem v.cells.toList = some r) (hv : VR D ι v v') (hn : notJ v = true) : Sound P D ι σ w (Instr.box elem v') r := by
  have := aNew_sound hT (w := w) (ι := ι) (D := D) (c := v'.cells) h (by simpa using hv.cells hn)
  exact this

omit hT
/-! ### parts of lists -/
def ltake : List Value → Nat → Option (List Value)
  | _, 0 => some []
  | [], _ + 1 => none
  | x :: xs, n + 1 => match ltake xs n with
    | some l => some (x :: l)
    | none => none
def lslice : List Value → Nat → Nat → Option (List Value)
  | cs, 0, n => ltake cs n
  | [], _ + 1, n => ltake [] n
  | _ :: cs, o + 1, n => lslice cs o n
def lget : List Value → Nat → Option Value
  | [], _ => none
  | x :: _, 0 => some x
  | _ :: xs, n + 1 => lget xs n
theorem lget_eq : ∀ (l : List Value) (k : Nat), lget l k = l[k]?
  | [], k => by simp [lget]
  | x :: xs, 0 => by simp [lget]
  | x :: xs, k + 1 => by simp [lget, lget_eq xs k]
theorem ltake_spec : ∀ (cs : List Value) (n : Nat) (l : List Value), ltake cs n = some l → l.length = n ∧ n ≤ cs.length ∧ ∀ j, j < n → l[j]? = cs[j]?
  | _, 0, l, h => by simp [ltake] at h; subst h; simp
  | [], n + 1, l, h => by simp [ltake] at h
  | x :: xs, n + 1, l, h => by
    simp only [ltake] at h
    split at h
    · rename_i l' hl
      cases h
      obtain ⟨h1, h2, h3⟩ := ltake_spec xs n l' hl
      refine ⟨by simp [h1], by simp; omega, fun j hj => ?_⟩
      rcases j with _ | j
      · simp
      · simpa using h3 j (by omega)
    · cases h
theorem lslice_spec : ∀ (cs : List Value) (o n : Nat) (l : List Value), lslice cs o n = some l → l.length = n ∧ (0 < n → o + n ≤ cs.length) ∧ ∀ j, j < n → l[j]? = cs[o + j]?
  | cs, 0, n, l, h => by
    obtain ⟨h1, h2, h3⟩ := ltake_spec cs n l (by simpa [lslice] using h)
    exact ⟨h1, fun _ => by omega, fun j hj => by simpa using h3 j hj⟩
  | [], o + 1, n, l, h => by
    obtain ⟨h1, h2, h3⟩ := ltake_spec [] n l (by simpa [lslice] using h)
    simp at h2
    exact ⟨h1, fun h => by omega, fun j hj => by omega⟩
  | x :: xs, o + 1, n, l, h => by
    obtain ⟨h1, h2, h3⟩ := lslice_spec xs o n l (by simpa [lslice] using h)
    refine ⟨h1, fun h => by have := h2 h; simp; omega, fun j hj => ?_⟩
    rw [h3 j hj, show o + 1 + j = (o + j) + 1 by omega]; simp
def locs (id : Nat) : Nat → Nat → List (Nat × Nat)
  | _, 0 => []
  | o, n + 1 => (id, o) :: locs id (o + 1) n
theorem mem_locs {id : Nat} : ∀ {n o j k : Nat}, (j, k) ∈ locs id o n ↔ j = id ∧ o ≤ k ∧ k < o + n
  | 0, o, j, k => by simp only [locs, List.not_mem_nil, false_iff]; omega
  | n + 1, o, j, k => by
    simp only [locs, List.mem_cons, Prod.mk.injEq, mem_locs (n := n)]; omega

def isAggD : TypeDesc → Bool
  | .struct _ | .array _ _ => true
  | _ => false
include hT
theorem run_isAgg {t : TypeId} {d : TypeDesc} (h : T.und t = some d) (w : World) : (isAgg t).run P w = .ok (isAggD d) w := by
  simp only [isAgg, Sem.run_bind, run_und hT h, Result.andThen_ok]
  cases d <;> rfl
omit hT

theorem add_none (b o n : Nat) : (⟨b, o, none⟩ : Addr).add n = ⟨b, o + n, none⟩ := by
  unfold Addr.add; split
  · rename_i h0; subst h0; rfl
  · rfl

theorem cell_heap {w w' : World} (h : w'.heap = w.heap) (a : Addr) : w'.cell? a = w.cell? a := by simp only [World.cell?, h]

/-- cells that are read one after another -/
theorem loadCells_of {id off n : Nat} {cs l : List Value} {e : TypeId} {ro : Bool} {φ : Foot} (hg : σ.heap.get id = some (.row cs e ro)) (hl : lslice cs off n = some l)
    (ho : HOn P D ι σ.H φ w) (hf : ∀ j, j < n → φ.Fc id (off + j)) :
    ∃ c : Array Value, (∀ w' : World, w'.heap = w.heap → (loadCells ⟨(ι id).blk, (ι id).base + off, none⟩ n).run P w' = .ok c w') ∧ AR D ι l.toArray c := by
  obtain ⟨h1, h2, h3⟩ := lslice_spec cs off n l hl
  have hc : ∀ j, j < n → ∃ v v', l[j]? = some v ∧ w.cell? ⟨(ι id).blk, (ι id).base + off + j, none⟩ = some v' ∧ VR D ι v v' := by
    intro j hj
    have hlj : l[j]? = some l[j] := List.getElem?_eq_getElem (by omega)
    obtain ⟨-, v', e1, e2⟩ := ho.ce id (off + j) l[j] (hf j hj) (St.lv_of hg) (by rw [St.cell_of hg, ← h3 j hj, hlj])
    exact ⟨l[j], v', hlj, by rw [Nat.add_assoc]; exact e1, e2⟩
  refine ⟨_, fun w' hw' => run_loadCells w' _ n (fun j => (w.cell? ⟨(ι id).blk, (ι id).base + off + j, none⟩).getD undef) fun j hj => ?_, ?_, ?_⟩
  · obtain ⟨v, v', _, e, _⟩ := hc j hj
    rw [add_none, cell_heap hw', e]; rfl
  · simp [h1]
  · intro i v v' hi hi'
    have hin : i < n := by
      rcases Nat.lt_or_ge i n with h | h
      · exact h
      · simp only [List.getElem?_toArray] at hi
        rw [List.getElem?_eq_none (by omega)] at hi; cases hi
    obtain ⟨u, u', e1, e2, e3⟩ := hc i hin
    simp only [List.getElem?_toArray] at hi hi'
    rw [e1] at hi; cases hi
    simp [hin, e2] at hi'
    rw [← hi']; exact e3

def aLoad (T : TE) (σ : St) (t : TypeId) (a : Value) : Option R :=
  match a with
  | .pointer (some ⟨id, off, none⟩) => match σ.heap.get id with
    | some (.row cs _ _) => match T.und t with
      | some d => bif isAggD d then
          match T.inf t with
          | some i => match lslice cs off i.size with
            | some l => some ⟨.agg l.toArray, σ, ⟨locs id off i.size, [], [], []⟩⟩
            | none => none
          | none => none
        else match lget cs off with
          | some v => some ⟨v, σ, ⟨[(id, off)], [], [], []⟩⟩
          | none => none
      | none => none
    | _ => none
  | _ => none

theorem VR.ptr_inv {id off : Nat} {v' : Value} (h : VR D ι (.pointer (some ⟨id, off, none⟩)) v') : v' = .pointer (some ⟨(ι id).blk, (ι id).base + off, none⟩) ∧ D id := by
  cases h with | ptr _ _ h => exact ⟨rfl, h⟩

include hT
theorem aLoad_sound {t : TypeId} {a a' : Value} {r : R} (h : aLoad T σ t a = some r) (ha : VR D ι a a') : Sound P D ι σ w (Instr.loadAt t a') r := by
  unfold aLoad at h
  split at h
  · rename_i id off
    obtain ⟨rfl, hD⟩ := ha.ptr_inv
    split at h
    · rename_i cs e ro hg
      split at h
      · rename_i d hd
        cases hagg : isAggD d
        · rw [hagg, cond_false, lget_eq] at h
          split at h
          · rename_i v hv
            cases h
            refine Sound.same (w' := w) (v' := (w.cell? ⟨(ι id).blk, (ι id).base + off, none⟩).getD undef) (fun ho => ?_) rfl rfl
            obtain ⟨-, v', e1, e2⟩ := ho.ce id off v (.inl (by simp)) (St.lv_of hg) (by rw [St.cell_of hg]; exact hv)
            refine ⟨?_, by rw [e1]; exact e2, rfl, rfl, rfl⟩
            simp only [Instr.loadAt, Instr.sureAddr, loadVar, Sem.run_bind, Sem.run_pure, Result.andThen_ok, run_isAgg hT hd, hagg, Bool.false_eq_true, if_false, run_load, e1]
            rfl
          · cases h
        · rw [hagg, cond_true] at h
          split at h
          · rename_i i hi
            split at h
            · rename_i l hl
              cases h
              refine ⟨Nat.le_refl _, fun hw => ⟨hw, AFr.refl _ _⟩, fun _ _ ho => ?_⟩
              obtain ⟨c, e1, e2⟩ := loadCells_of hg hl ho fun j hj => .inl (mem_locs.2 ⟨rfl, by omega, by omega⟩)
              refine ⟨.agg c, ι, w, ?_, (VR.agg _ _ e2.1 e2.2).mono (fun _ => .inl) fun _ _ => rfl, Post.same (St.rng_self σ) rfl rfl rfl rfl rfl⟩
              simp only [Instr.loadAt, Instr.sureAddr, loadVar, Sem.run_bind, Sem.run_pure, Result.andThen_ok, run_isAgg hT hd, hagg, if_true, run_siz hT hi, e1 w rfl]
            · cases h
          · cases h
      · cases h
    · cases h
  · cases h
omit hT

/-! ### stores -/
def lputs : List Value → List Value → Option (List Value)
  | cs, [] => some cs
  | [], _ :: _ => none
  | _ :: cs, v :: vs => match lputs cs vs with
    | some l => some (v :: l)
    | none => none
def lput : List Value → Nat → List Value → Option (List Value)
  | cs, 0, vs => lputs cs vs
  | [], _ + 1, vs => lputs [] vs
  | c :: cs, o + 1, vs => match lput cs o vs with
    | some l => some (c :: l)
    | none => none
theorem lputs_spec : ∀ (cs vs cs' : List Value), lputs cs vs = some cs' → cs'.length = cs.length ∧ vs.length ≤ cs.length ∧ ∀ k, cs'[k]? = if k < vs.length then vs[k]? else cs[k]?
  | cs, [], cs', h => by simp [lputs] at h; subst h; simp
  | [], v :: vs, cs', h => by simp [lputs] at h
  | c :: cs, v :: vs, cs', h => by
    simp only [lputs] at h
    split at h
    · rename_i l hl
      cases h
      obtain ⟨h1, h2, h3⟩ := lputs_spec cs vs l hl
      refine ⟨by simp [h1], by simp; omega, fun k => ?_⟩
      rcases k with _ | k
      · simp
      · simpa using h3 k
    · cases h
theorem lput_spec : ∀ (cs : List Value) (o : Nat) (vs cs' : List Value), lput cs o vs = some cs' → cs'.length = cs.length ∧ (vs ≠ [] → o + vs.length ≤ cs.length) ∧
    ∀ k, cs'[k]? = if o ≤ k ∧ k < o + vs.length then vs[k - o]? else cs[k]?
  | cs, 0, vs, cs', h => by
    obtain ⟨h1, h2, h3⟩ := lputs_spec cs vs cs' (by simpa [lput] using h)
    exact ⟨h1, fun _ => by omega, fun k => by simpa using h3 k⟩
  | [], o + 1, vs, cs', h => by
    obtain ⟨h1, h2, h3⟩ := lputs_spec [] vs cs' (by simpa [lput] using h)
    have : vs = [] := by simpa using h2
    subst this
    exact ⟨h1, fun h => absurd rfl h, fun k => by have := h3 k; simp at this ⊢; exact this⟩
  | c :: cs, o + 1, vs, cs', h => by
    simp only [lput] at h
    split at h
    · rename_i l hl
      cases h
      obtain ⟨h1, h2, h3⟩ := lput_spec cs o vs l hl
      refine ⟨by simp [h1], fun h => by have := h2 h; simp; omega, fun k => ?_⟩
      rcases k with _ | k
      · rw [if_neg (by omega)]; simp
      · have := h3 k
        simp only [List.getElem?_cons_succ, this, show k + 1 - (o + 1) = k - o by omega]
        by_cases hk : o ≤ k ∧ k < o + vs.length
        · rw [if_pos hk, if_pos (by omega)]
        · rw [if_neg hk, if_neg (by omega)]
    · cases h

theorem AFr.lput {id off : Nat} {cs cs' vs : List Value} {elem : TypeId} {φ : Foot} (hg : σ.heap.get id = some (.row cs elem false)) (hl : lput cs off vs = some cs') (hw : φ.wc = locs id off vs.length) :
    AFr σ (σ.put id (some (.row cs' elem false))) φ := by
  obtain ⟨g1, _, g3⟩ := lput_spec cs off vs cs' hl
  refine AFr.put hg g1 fun k hk => ?_
  rw [g3, if_neg]
  intro hoo
  exact hk (by rw [hw]; exact mem_locs.2 ⟨rfl, hoo.1, hoo.2⟩)

/-- cells that are written one after another -/
theorem storeCells_of {id off : Nat} {cs cs' vs : List Value} {elem : TypeId} {rc : List (Nat × Nat)} {rh : List Nat} {vs' : List Value} (hg : σ.heap.get id = some (.row cs elem false)) (hl : lput cs off vs = some cs') (hne : vs ≠ [])
    (h1 : ∀ v ∈ vs, oneC v = true) (ho : HOn P D ι σ.H ⟨rc, rh, locs id off vs.length, []⟩ w) (hv : vs.length = vs'.length) (hvv : ∀ (k : Nat) v v', vs[k]? = some v → vs'[k]? = some v' → VR D ι v v') :
    ∃ w' : World, (storeCells ⟨(ι id).blk, (ι id).base + off, none⟩ vs').run P w = .ok () w' ∧
      Post P D (σ.rng (σ.put id (some (.row cs' elem false)))) ι σ.H w ⟨rc, rh, locs id off vs.length, []⟩ ι (σ.put id (some (.row cs' elem false))).H w' := by
  obtain ⟨g1, g2, g3⟩ := lput_spec cs off vs cs' hl
  have g2 := g2 hne
  have hpos : 0 < vs.length := List.length_pos_iff.2 hne
  have hfi : (⟨rc, rh, locs id off vs.length, []⟩ : Foot).Fi id := .inr (.inr (.inl ⟨off, mem_locs.2 ⟨rfl, by omega, by omega⟩⟩))
  have hd := ho.hd id _ hfi (St.hdr_of hg)
  obtain ⟨c, elem', fr, e1, e2, e3, eo, e45⟩ := hd
  obtain ⟨rfl, e4, e5⟩ := e45 rfl
  have hd : HdrOK P ι id w (.row cs.length elem' false) := ⟨c, elem', fr, e1, e2, e3, eo, e45⟩
  refine ⟨_, run_storeL P _ ((ι id).base + off) elem' fr vs' 0 c w e1 (by omega) (fun v' hv' => ?_) e5, ?_⟩
  · obtain ⟨k, hk, rfl⟩ := List.mem_iff_getElem.1 hv'
    exact (hvv k (vs[k]'(by omega)) _ (List.getElem?_eq_getElem (by omega)) (List.getElem?_eq_getElem hk)).oneC (h1 _ (List.getElem_mem _))
  · refine Post.write hg hd e1 rfl rfl rfl (setL_size _ _ _) g1 (fun p hp => (mem_locs (j := p.1) (k := p.2)).1 hp |>.1) (fun o hno => ?_) (fun k v hm hk => ?_) fun k hk => ?_
    · rw [setL_get _ _ _ _ (by omega), if_neg]
      intro hoo
      refine hno (o - (ι id).base) (mem_locs.2 ⟨rfl, by omega, by omega⟩) (by omega)
    · have hk2 := (mem_locs.1 hm).2
      rw [g3, if_pos (by omega)] at hk
      have hlt : k - off < vs'.length := by omega
      refine ⟨vs'[k - off], ?_, hvv (k - off) v _ hk (List.getElem?_eq_getElem hlt)⟩
      rw [setL_get _ _ _ _ (by omega), if_pos (by omega), show (ι id).base + k - ((ι id).base + off + 0) = k - off by omega]
      exact List.getElem?_eq_getElem hlt
    · rw [g3, if_neg]
      intro hoo
      exact hk (mem_locs.2 ⟨rfl, hoo.1, hoo.2⟩)

def aStore (T : TE) (σ : St) (t : TypeId) (a v : Value) : Option R :=
  match a with
  | .pointer (some ⟨id, off, none⟩) => match σ.heap.get id with
    | some (.row cs elem false) => match T.inf t with
      | some i => match v.cells.toList with
        | [] => none
        | x :: xs => bif Nat.beq i.size (xs.length + 1) && (x :: xs).all oneC then
            match lput cs off (x :: xs) with
            | some cs' => some ⟨undef, σ.put id (some (.row cs' elem false)), ⟨[], [], locs id off (xs.length + 1), []⟩⟩
            | none => none
          else none
      | none => none
    | _ => none
  | _ => none

include hT
theorem aStore_sound {t : TypeId} {a a' v v' : Value} {r : R} (h : aStore T σ t a v = some r) (ha : VR D ι a a') (hv : VR D ι v v') : Sound P D ι σ w (do Instr.storeAt t a' v'; pure undef) r := by
  unfold aStore at h
  split at h
  · rename_i id off
    obtain ⟨rfl, hD⟩ := ha.ptr_inv
    split at h
    · rename_i cs elem hg
      split at h
      · rename_i i hi
        split at h
        · cases h
        · rename_i x xs hx
          cases hb : (Nat.beq i.size (xs.length + 1) && (x :: xs).all oneC)
          · rw [hb] at h; cases h
          · rw [hb, cond_true] at h
            rw [Bool.and_eq_true] at hb
            split at h
            · rename_i cs' hl
              cases h
              refine ⟨Nat.le_refl _, fun hw => ⟨St.put_wf hw (St.lv_lt hw (St.lv_of hg)) _, AFr.lput hg hl (by simp)⟩, fun hw hDn ho => ?_⟩
              have hnj : notJ v = true := by
                cases v with
                | chan r => cases r with
                  | none => rfl
                  | some r =>
                    have e : [x] = [x] := rfl
                    have hx2 : [Value.chan (some r)] = x :: xs := hx
                    have hb2 := hb.2
                    rw [← hx2] at hb2
                    cases hb2
                | _ => rfl
              obtain ⟨c1, c2⟩ := hv.cells hnj
              have hlen : (x :: xs).length = v'.cells.toList.length := by rw [← hx]; simpa using c1
              obtain ⟨w', e1, e2⟩ := storeCells_of (vs' := v'.cells.toList) hg hl (by simp) (List.all_eq_true.1 hb.2) ho hlen fun k u u' hu hu' => c2 k u u' (by rw [← hx] at hu; simpa using hu) (by simpa using hu')
              refine ⟨undef, ι, w', ?_, .tuple #[] #[] rfl (by simp), e2⟩
              have hsz : ¬ v'.cells.size ≠ i.size := by
                have := Nat.eq_of_beq_eq_true hb.1
                simp at hlen; omega
              simp only [Instr.storeAt, Instr.sureAddr, storeVar, Sem.run_bind, Sem.run_pure, Result.andThen_ok, run_siz hT hi]
              rw [if_neg hsz, e1]
              rfl
            · cases h
      · cases h
    · cases h
  · cases h

/-! ### addresses -/
def aFieldAddr (T : TE) (σ : St) (s : TypeId) (a : Value) (f : Nat) : Option R :=
  match a with
  | .pointer (some ⟨id, off, none⟩) => match T.und s with
    | some (.struct fs) => match fs[f]? with
      | some fd => match T.inf fd.type with
        | some i => bif Nat.beq i.size 0 then none else some ⟨.pointer (some ⟨id, off + fd.offset, none⟩), σ, .nil⟩
        | none => none
      | none => none
    | _ => none
  | _ => none

theorem aFieldAddr_sound {s : TypeId} {a a' : Value} {f : Nat} {r : R} (h : aFieldAddr T σ s a f = some r) (ha : VR D ι a a') : Sound P D ι σ w (Instr.fieldAt s a' f) r := by
  unfold aFieldAddr at h
  split at h
  · rename_i id off
    obtain ⟨rfl, hD⟩ := ha.ptr_inv
    split at h
    · rename_i fs hs
      split at h
      · rename_i fd hf
        split at h
        · rename_i i hi
          cases hb : Nat.beq i.size 0
          · rw [hb] at h
            cases h
            have hz : i.size ≠ 0 := fun e => by rw [e] at hb; cases hb
            refine Sound.pure (v' := .pointer (some ⟨(ι id).blk, (ι id).base + off + fd.offset, none⟩)) ?_ (by rw [Nat.add_assoc]; exact .ptr id _ hD)
            simp only [Instr.fieldAt, Sem.run_bind, run_und hT hs, Result.andThen_ok, hf, Instr.sureAddr, Sem.run_pure, fieldPlace, run_siz hT hi, if_neg hz, add_none]
          · rw [hb] at h; cases h
        · cases h
      · cases h
    · cases h
  · cases h

def intOK (i : Int) (n : Nat) : Bool :=
  match i with
  | .ofNat k => Nat.blt k n
  | .negSucc _ => false
omit hT in
theorem intOK_spec {i : Int} {n : Nat} (h : intOK i n = true) : 0 ≤ i ∧ i < n ∧ i.toNat < n := by
  cases i with
  | ofNat k =>
    have : k < n := by simpa [intOK] using h
    exact ⟨Int.natCast_nonneg k, by simpa using this, by simpa using this⟩
  | negSucc k => cases h

def aIndexAddr (T : TE) (σ : St) (t : TypeId) (x ix : Value) : Option R :=
  match ix with
  | .int _ i => match T.und t with
    | some (.slice elem) => match x, T.inf elem with
      | .slice (some ⟨id, off, none⟩) len _, some e => bif intOK i len then some ⟨.pointer (some ⟨id, off + i.toNat * e.size, none⟩), σ, .nil⟩ else none
      | _, _ => none
    | some (.array len elem) => match x, T.inf elem with
      | .pointer (some ⟨id, off, none⟩), some e => bif intOK i len then some ⟨.pointer (some ⟨id, off + i.toNat * e.size, none⟩), σ, .nil⟩ else none
      | _, _ => none
    | _ => none
  | _ => none

omit hT in
theorem VR.sl_inv {id off l c : Nat} {v' : Value} (h : VR D ι (.slice (some ⟨id, off, none⟩) l c) v') :
    ∃ c', v' = .slice (some ⟨(ι id).blk, (ι id).base + off, none⟩) l c' ∧ D id ∧ (c ≠ unk → c' = c) ∧ (c = unk → l ≤ c' ∧ off + c' * (ι id).esz ≤ (ι id).room) := by
  cases h with
  | slK _ _ _ _ h hc => exact ⟨c, rfl, h, fun _ => rfl, fun e => absurd e hc⟩
  | slU _ _ _ c' h h1 h2 => exact ⟨c', rfl, h, fun e => absurd rfl e, fun _ => ⟨h1, h2⟩⟩

theorem aIndexAddr_sound {t : TypeId} {x x' ix ix' : Value} {r : R} (h : aIndexAddr T σ t x ix = some r) (hx : VR D ι x x') (hi : VR D ι ix ix') : Sound P D ι σ w (Instr.indexAt t x' ix') r := by
  unfold aIndexAddr at h
  split at h
  · rename_i k i
    cases hi
    split at h
    · rename_i elem hu
      split at h
      · rename_i id off len cap e he
        cases hb : intOK i len
        · rw [hb] at h; cases h
        · rw [hb, cond_true] at h
          cases h
          obtain ⟨c', rfl, hD, _, _⟩ := hx.sl_inv
          obtain ⟨i1, i2, i3⟩ := intOK_spec hb
          refine Sound.pure (v' := .pointer (some ⟨(ι id).blk, (ι id).base + off + i.toNat * e.size, none⟩)) ?_ (by rw [Nat.add_assoc]; exact .ptr id _ hD)
          simp only [Instr.indexAt, asIntOf, Sem.run_bind, Sem.run_pure, Result.andThen_ok, run_und hT hu, i1, i2, and_self, if_true, run_siz hT he, add_none]
      · cases h
    · rename_i len elem hu
      split at h
      · rename_i id off e he
        cases hb : intOK i len
        · rw [hb] at h; cases h
        · rw [hb, cond_true] at h
          cases h
          obtain ⟨rfl, hD⟩ := hx.ptr_inv
          obtain ⟨i1, i2, i3⟩ := intOK_spec hb
          refine Sound.pure (v' := .pointer (some ⟨(ι id).blk, (ι id).base + off + i.toNat * e.size, none⟩)) ?_ (by rw [Nat.add_assoc]; exact .ptr id _ hD)
          simp only [Instr.indexAt, asIntOf, Sem.run_bind, Sem.run_pure, Result.andThen_ok, run_und hT hu, Instr.sureAddr, i1, i2, and_self, if_true, run_siz hT he, add_none]
      · cases h
    · cases h
  · cases h
omit hT
end
end Go.Eng

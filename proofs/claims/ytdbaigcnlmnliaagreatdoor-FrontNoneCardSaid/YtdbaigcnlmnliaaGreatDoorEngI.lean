/-
  The engine, part I: copy, strings to bytes and back, new slices, structs built, iterators over strings. No condition.
-/
import Derived.Test.YtdbaigcnlmnliaaGreatDoorEngH
noncomputable section
namespace Go.Eng
open Go
section
variable {P : Program} {T : TE} (hT : T.OK P) {D : Nat → Prop} {ι : Nat → Reg} {σ : St} {w : World}

/-! ### copy -/
def lenV : Value → Option Nat
  | .slice _ n _ => some n
  | .string s => some s.size
  | _ => none
/-- as aCells, but of so many elements alone -/
def aFirst (σ : St) (size n : Nat) (x : Value) : Option (List Value × List (Nat × Nat)) :=
  match x with
  | .string s => bif Nat.beq size 1 then some (bytesV (s.data.toList.take n), []) else none
  | .slice none _ _ => some ([], [])
  | .slice (some ⟨id, off, none⟩) _ _ => match σ.heap.get id with
    | some (.row cs _ _) => match lslice cs off (n * size) with
      | some l => some (l, locs id off (n * size))
      | none => none
    | _ => none
  | _ => none

theorem aFirst_run {size n : Nat} {x x' : Value} {l : List Value} {rc : List (Nat × Nat)} {φ : Foot} (h : aFirst σ size n x = some (l, rc)) (hx : VR D ι x x') (ho : HOn P D ι σ.H φ w)
    (hf : ∀ p ∈ rc, φ.Fc p.1 p.2) : ∃ c : Array Value, (∀ w' : World, w'.heap = w.heap → (Builtin.firstCells size n x').run P w' = .ok c w') ∧ AR D ι l.toArray c := by
  unfold aFirst at h
  split at h
  · rename_i s
    cases hb : Nat.beq size 1
    · rw [hb] at h; cases h
    · rw [hb] at h
      cases h
      cases hx
      refine ⟨(bytesV (s.data.toList.take n)).toArray, fun w' _ => ?_, AR.refl_plain fun v hv => ?_⟩
      · simp only [Builtin.firstCells, Sem.run_pure]
        congr 1
        apply Array.ext'
        rw [bytesV_eq, bsub_eq]
        simp [bsub]
      · rw [bytesV_eq] at hv
        obtain ⟨b, _, rfl⟩ := List.mem_map.1 hv
        rfl
  · cases h
    cases hx
    exact ⟨#[], fun _ _ => rfl, rfl, by simp⟩
  · rename_i id off n' c'
    split at h
    · rename_i cs e ro hg
      split at h
      · rename_i l' hl
        cases h
        obtain ⟨c'', rfl, _⟩ := hx.sl_inv
        obtain ⟨c, e1, e2⟩ := loadCells_of hg hl ho fun j hj => hf _ (mem_locs.2 ⟨rfl, Nat.le_add_right _ _, by omega⟩)
        exact ⟨c, e1, e2⟩
      · cases h
    · cases h
  · cases h

def aCopy (T : TE) (σ : St) (args : Array TypeId) (d x : Value) : Option R :=
  match args.toList with
  | dT :: _ => match T.und dT with
    | some (.slice elem) => match T.inf elem, lenV x with
      | some e, some nx => match d with
        | .slice none 0 _ => some ⟨goInt 0, σ, .nil⟩
        | .slice (some ⟨id, off, none⟩) dLen _ => match aFirst σ e.size (Nat.min nx dLen) x with
          | some (l, rc) => match l with
            | [] => some ⟨goInt (Nat.min nx dLen), σ, ⟨rc, [], [], []⟩⟩
            | y :: ys => match σ.heap.get id with
              | some (.row cs elem' false) => bif (y :: ys).all oneC then match lput cs off (y :: ys) with
                  | some cs' => some ⟨goInt (Nat.min nx dLen), σ.put id (some (.row cs' elem' false)), ⟨rc, [], locs id off (ys.length + 1), []⟩⟩
                  | none => none
                else none
              | _ => none
          | none => none
        | _ => none
      | _, _ => none
    | _ => none
  | _ => none

theorem lenV_run {x x' : Value} {n : Nat} (h : lenV x = some n) (hx : VR D ι x x') (w : World) : (Builtin.lenOf x').run P w = .ok n w := by
  unfold lenV at h
  split at h
  · cases h; cases hx <;> rfl
  · cases h; cases hx; rfl
  · cases h

include hT
theorem aCopy_sound {args : Array TypeId} {ty : TypeId} {d d' x x' : Value} {r : R} (h : aCopy T σ args d x = some r) (hd : VR D ι d d') (hx : VR D ι x x') :
    Sound P D ι σ w (Builtin.copy_ args ty #[d', x']) r := by
  unfold aCopy at h
  split at h
  · rename_i dT rest hargs
    have h0 : args[0]? = some dT := by rw [← Array.getElem?_toList, hargs]; rfl
    split at h
    · rename_i elem hdT
      split at h
      · rename_i e nx he hnx
        split at h
        · rename_i cap
          cases h
          cases hd
          refine Sound.same (w' := { w with drawn := w.drawn }) (v' := goInt 0) (fun ho => ?_) rfl rfl
          refine ⟨?_, .int _ _, rfl, rfl, rfl⟩
          have hz : (Builtin.firstCells e.size 0 x').run P w = .ok #[] w := by
            have hx2 := hx
            unfold lenV at hnx
            split at hnx
            · cases hx2 with
              | slN l c => rfl
              | slK id off l c h hc => simp only [Builtin.firstCells, Nat.zero_mul]; rfl
              | slU id off l c h h1 h2 => simp only [Builtin.firstCells, Nat.zero_mul]; rfl
              | slE id off o' c h h1 h2 => simp only [Builtin.firstCells, Nat.zero_mul]; rfl
            · cases hx2
              simp only [Builtin.firstCells, Sem.run_pure]
              congr 1
              rw [bsub_eq]
              simp [bsub]
            · cases hnx
          have hmin : Nat.min nx 0 = 0 := Nat.min_zero nx
          unfold Builtin.copy_
          simp only [h0, List.getElem?_toArray, List.getElem?_cons_zero, List.getElem?_cons_succ, Sem.run_bind, run_und hT hdT, Result.andThen_ok, lenV_run hnx hx, run_siz hT he, hmin, hz, Sem.run_pure]
          rfl
        · rename_i id off dLen cap
          obtain ⟨c', rfl, hD, _, _⟩ := hd.sl_inv
          split at h
          · rename_i l rc hl
            have hrun : ∀ (c : Array Value) (w' : World), (Builtin.firstCells e.size (Nat.min nx dLen) x').run P w = .ok c w → (storeCells ⟨(ι id).blk, (ι id).base + off, none⟩ c.toList).run P w = .ok () w' →
                (Builtin.copy_ args ty #[.slice (some ⟨(ι id).blk, (ι id).base + off, none⟩) dLen c', x']).run P w = .ok (goInt (Nat.min nx dLen)) w' := by
              intro c w' hf hs
              unfold Builtin.copy_
              simp only [h0, List.getElem?_toArray, List.getElem?_cons_zero, List.getElem?_cons_succ, Sem.run_bind, run_und hT hdT, Result.andThen_ok, lenV_run hnx hx, run_siz hT he, hf, hs, Sem.run_pure]
            split at h
            · cases h
              refine Sound.same (w' := w) (v' := goInt (Nat.min nx dLen)) (fun ho => ?_) rfl rfl
              obtain ⟨c, g1, g2⟩ := aFirst_run (P := P) hl hx ho Foot.rc_fc
              refine ⟨hrun c w (g1 w rfl) ?_, .int _ _, rfl, rfl, rfl⟩
              have : c.toList = [] := by
                have := g2.1
                simp at this
                have h2 : c.size = 0 := by omega
                simpa using h2
              simp only [this, storeCells, Sem.run_pure]
            · rename_i y ys
              split at h
              · rename_i cs elem' hg
                cases hb : (y :: ys).all oneC
                · rw [hb] at h; cases h
                · rw [hb, cond_true] at h
                  split at h
                  · rename_i cs' hput
                    cases h
                    refine ⟨Nat.le_refl _, fun hw => ⟨St.put_wf hw (St.lv_lt hw (St.lv_of hg)) _, AFr.lput hg hput (by simp)⟩, fun hw hDn ho => ?_⟩
                    obtain ⟨c, g1, g2⟩ := aFirst_run (P := P) hl hx ho Foot.rc_fc
                    have hlen : (y :: ys).length = c.toList.length := by simpa using g2.1
                    obtain ⟨w', e1, e2⟩ := storeCells_of (vs' := c.toList) hg hput (by simp) (List.all_eq_true.1 hb) ho hlen fun k u u' hu hu' => g2.2 k u u' (by simpa using hu) (by simpa using hu')
                    exact ⟨goInt (Nat.min nx dLen), ι, w', hrun c w' (g1 w rfl) e1, .int _ _, e2⟩
                  · cases h
              · cases h
          · cases h
        · cases h
      · cases h
    · cases h
  · cases h
omit hT

/-! ### bytes to a string -/
def byteOfV : Value → Option UInt8
  | .int .u8 n => some (UInt8.ofNat n.toNat)
  | _ => none
def bytesOfV : List Value → Option (List UInt8)
  | [] => some []
  | v :: l => match byteOfV v with
    | some b => match bytesOfV l with
      | some r => some (b :: r)
      | none => none
    | none => none

def aBytesToString (σ : St) (x : Value) : Option R :=
  match x with
  | .slice none _ _ => some ⟨.string .empty, σ, .nil⟩
  | .slice (some ⟨id, off, none⟩) len _ => match σ.heap.get id with
    | some (.row cs _ _) => match lslice cs off len with
      | some l => match bytesOfV l with
        | some b => some ⟨.string ⟨b.toArray⟩, σ, ⟨locs id off len, [], [], []⟩⟩
        | none => none
      | none => none
    | _ => none
  | _ => none

theorem byteOfV_spec {v : Value} {b : UInt8} (h : byteOfV v = some b) : ∃ n, v = .int .u8 n ∧ b = UInt8.ofNat n.toNat := by
  unfold byteOfV at h
  split at h
  · cases h; exact ⟨_, rfl, rfl⟩
  · cases h

theorem b2s_loop (P : Program) (w : World) : ∀ (l l' : List Value) (b : List UInt8) (s : ByteArray), bytesOfV l = some b → l.length = l'.length → (∀ (k : Nat) v v', l[k]? = some v → l'[k]? = some v' → VR D ι v v') →
    (forIn l' s fun (c : Value) (s : ByteArray) => (do
      let .int .u8 n := c | stuck "bytesToString: byte expected"
      Pure.pure (ForInStep.yield (s.push (UInt8.ofNat n.toNat))) : Sem (ForInStep ByteArray))).run P w = .ok ⟨s.data ++ b.toArray⟩ w
  | [], l', b, s, hb, hl, _ => by
    have : l' = [] := List.length_eq_zero_iff.1 hl.symm
    subst this
    simp only [bytesOfV, Option.some.injEq] at hb
    subst hb
    simp only [List.forIn_nil, Sem.run_pure]
    congr 1
  | v :: l, l', b, s, hb, hl, hv => by
    match l', hl with
    | v' :: l', hl =>
      simp only [bytesOfV] at hb
      split at hb
      · rename_i b0 hb0
        split at hb
        · rename_i br hbr
          cases hb
          have hvv := hv 0 v v' rfl rfl
          obtain ⟨n, rfl, rfl⟩ := byteOfV_spec hb0
          cases hvv
          have := b2s_loop P w l l' br (s.push (UInt8.ofNat n.toNat)) hbr (by simpa using hl) (fun k x x' h1 h2 => hv (k + 1) x x' (by simpa using h1) (by simpa using h2))
          simp only [List.forIn_cons, Sem.run_bind, Sem.run_pure, Result.andThen_ok]
          rw [this]
          congr 1
          apply ByteArray.ext
          simp [ByteArray.data_push]
        · cases hb
      · cases hb

theorem aBytesToString_sound {x x' : Value} {r : R} (h : aBytesToString σ x = some r) (hx : VR D ι x x') : Sound P D ι σ w (Conv.bytesToString x') r := by
  unfold aBytesToString at h
  split at h
  · cases h
    cases hx
    exact Sound.pure rfl (.string _)
  · rename_i id off len cap
    split at h
    · rename_i cs e ro hg
      split at h
      · rename_i l hl
        split at h
        · rename_i b hb
          cases h
          obtain ⟨c', rfl, _⟩ := hx.sl_inv
          refine Sound.same (w' := w) (v' := .string ⟨b.toArray⟩) (fun ho => ?_) rfl rfl
          obtain ⟨c, e1, e2⟩ := loadCells_of hg hl ho fun j hj => .inl (mem_locs.2 ⟨rfl, Nat.le_add_right _ _, by omega⟩)
          refine ⟨?_, .string _, rfl, rfl, rfl⟩
          have hloop := b2s_loop P w l c.toList b .empty hb (by simpa using e2.1) fun k v v' h1 h2 => e2.2 k v v' (by simpa using h1) (by simpa using h2)
          have he : (⟨(ByteArray.empty).data ++ b.toArray⟩ : ByteArray) = ⟨b.toArray⟩ := by apply ByteArray.ext; simp
          rw [he] at hloop
          simp only [Conv.bytesToString, Sem.run_bind, e1 w rfl, Result.andThen_ok]
          rw [← Array.forIn_toList]
          have : ∀ z : Result ByteArray, z = .ok ⟨b.toArray⟩ w → (z.andThen fun a w' => (Pure.pure (Value.string a) : Sem Value).run P w') = .ok (.string ⟨b.toArray⟩) w := fun z hz => by rw [hz]; rfl
          exact this _ hloop
        · cases h
      · cases h
    · cases h
  · cases h
end
end Go.Eng

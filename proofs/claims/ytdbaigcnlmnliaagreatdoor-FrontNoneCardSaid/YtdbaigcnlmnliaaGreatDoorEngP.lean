/-
  The engine, part P: pointers to unsafe.Pointer and back, unsafe.SliceData, unsafe.String. No condition.
-/
import Derived.Test.YtdbaigcnlmnliaaGreatDoorEngK
import Derived.Lib.UnsafeStr
import Derived.Lib.Builder
noncomputable section
namespace Go.Eng
open Go
section
variable {P : Program} {T : TE} (hT : T.OK P) {D : Nat → Prop} {ι : Nat → Reg} {σ : St} {w : World}

def aToUns (T : TE) (σ : St) (t : TypeId) (x : Value) : Option R :=
  match x with
  | .pointer none => some ⟨.pointer none, σ, .nil⟩
  | .pointer (some ⟨id, off, none⟩) => match σ.heap.get id, T.inf t with
    | some (.row cs _ _), some j => bif Nat.ble (off + 1) cs.length && !Nat.beq j.size 0 then some ⟨.pointer (some ⟨id, off, none⟩), σ, ⟨[(id, off)], [], [], []⟩⟩ else none
    | _, _ => none
  | _ => none
def aFromUns (T : TE) (σ : St) (t : TypeId) (x : Value) : Option R :=
  match x with
  | .pointer none => some ⟨.pointer none, σ, .nil⟩
  | .pointer (some ⟨id, off, none⟩) => match σ.heap.get id, T.inf t with
    | some (.row cs e false), some j => bif Nat.beq e t && Nat.beq (Nat.mod off j.size) 0 && Nat.ble (off + j.size) cs.length && !Nat.beq j.size 0 then some ⟨.pointer (some ⟨id, off, none⟩), σ, ⟨[(id, off)], [], [], []⟩⟩ else none
    | _, _ => none
  | _ => none
def aSliceData (x : Value) : Option Value :=
  match x with
  | .slice none _ _ => some (.pointer none)
  | .slice (some ⟨id, off, none⟩) l c => bif Nat.beq c unk then bif Nat.beq l 0 then none else some (.pointer (some ⟨id, off, none⟩)) else bif Nat.beq c 0 then none else some (.pointer (some ⟨id, off, none⟩))
  | _ => none
def aUString (T : TE) (σ : St) (pt : TypeId) (x : Value) (n : Int) : Option R :=
  match n with
  | .ofNat 0 => match x with
    | .pointer _ => some ⟨.string .empty, σ, .nil⟩
    | _ => none
  | .ofNat n => match x, T.und pt with
    | .pointer (some ⟨id, off, none⟩), some (.pointer e) => match σ.heap.get id, T.inf e with
      | some (.row cs elem false), some j => bif Nat.beq e elem && Nat.beq j.size 1 && Nat.ble n 9223372036854775807 then
          match lslice cs off n with
          | some l => match bytesOfV l with
            | some b => some ⟨.string ⟨b.toArray⟩, σ.put id (some (.row cs elem true)), ⟨[], [], [], [id]⟩⟩
            | none => none
          | none => none
        else none
      | _, _ => none
    | _, _ => none
  | _ => none

theorem lies_self {p : Program} {u count off s n : Nat} (hs : p.cellsOf u = s) (h0 : s ≠ 0) (h1 : off % s = 0) (h2 : off / s + n ≤ count) : liesAt p p.depth u count off u n = true := by
  have hd : p.depth = (2 * (p.types.size + Made.depth) + 1) + 1 := rfl
  rw [hd]
  unfold liesAt
  rw [Bool.or_eq_true]
  refine .inl ?_
  rw [hd]
  unfold rowAt
  simp only [hs, if_neg h0]
  rw [Bool.or_eq_true]
  refine .inl ?_
  have : sameLayout p (2 * (p.types.size + Made.depth) + 1 + 1) u u = true := by
    unfold sameLayout
    rw [Bool.or_eq_true]
    exact .inl (by simp)
  simp only [h1, this, BEq.rfl, Bool.true_and, Bool.and_true, decide_eq_true_eq]
  exact h2

theorem run_load_of {w : World} {a : Addr} {v : Value} (h : w.cell? a = some v) : (load a).run P w = .ok v w := by
  simp [load, Sem.run, h]
theorem bytesOfV_int : ∀ {l : List Value} {b : List UInt8}, bytesOfV l = some b → ∀ {j : Nat} {v : Value}, l[j]? = some v → ∃ m, v = .int .u8 m
  | [], _, _, _, _, h => by simp at h
  | v :: l, b, hb, j, u, h => by
    simp only [bytesOfV] at hb
    split at hb
    · rename_i b0 hb0
      split at hb
      · rename_i br hbr
        obtain ⟨n, rfl, _⟩ := byteOfV_spec hb0
        rcases j with _ | j
        · simp at h; exact ⟨n, h.symm⟩
        · exact bytesOfV_int hbr (by simpa using h)
      · cases hb
    · cases hb
theorem shape_of {w : World} {b : Nat} {c : Array Value} {e : TypeId} {fr : Nat × Nat} (h : w.heap[b]? = some (.cells c e fr)) : w.shape? b = some (e, c.size) := by
  simp [World.shape?, h]

include hT
theorem aToUns_sound {src dst t : TypeId} {x x' : Value} {r : R} (hs : P.underlying src = some (.pointer t)) (hd : P.underlying dst = some .unsafePointer) (h : aToUns T σ t x = some r) (hx : VR D ι x x') :
    Sound P D ι σ w (convert src dst x') r := by
  unfold aToUns at h
  split at h
  · cases h; cases hx
    refine Sound.pure (v' := .pointer none) ?_ .ptrN
    simp only [convert, Sem.run_bind, run_underlying hs, run_underlying hd, Result.andThen_ok, Conv.unsafePointer, Sem.run_pure]
  · rename_i id off
    obtain ⟨rfl, hD⟩ := hx.ptr_inv
    split at h
    · rename_i cs e ro j hg hj
      cases hb : (Nat.ble (off + 1) cs.length && !Nat.beq j.size 0)
      · rw [hb] at h; cases h
      · rw [hb, cond_true] at h
        cases h
        rw [Bool.and_eq_true] at hb
        obtain ⟨b1, b2⟩ := hb
        have b1 := Nat.le_of_ble_eq_true b1
        have b2 : j.size ≠ 0 := fun e => by rw [beq_t e] at b2; cases b2
        refine Sound.same (w' := w) (v' := .pointer (some ⟨(ι id).blk, (ι id).base + off, none⟩)) (fun ho => ?_) rfl rfl
        obtain ⟨c, e', fr, e1, e2, e3, _⟩ := ho.hd id _ (.inl ⟨off, by simp⟩) (St.hdr_of hg)
        exact ⟨Lib.run_to_unsafe w _ hs hd (hT.inf _ _ hj) b2 (shape_of e1) (by simp only; omega), .ptr id off hD, rfl, rfl, rfl⟩
    · cases h
  · cases h
theorem aFromUns_sound {src dst t : TypeId} {x x' : Value} {r : R} (hs : P.underlying src = some .unsafePointer) (hd : P.underlying dst = some (.pointer t)) (h : aFromUns T σ t x = some r) (hx : VR D ι x x') :
    Sound P D ι σ w (convert src dst x') r := by
  unfold aFromUns at h
  split at h
  · cases h; cases hx
    refine Sound.pure (v' := .pointer none) ?_ .ptrN
    simp only [convert, Sem.run_bind, run_underlying hs, run_underlying hd, Result.andThen_ok, Conv.unsafePointer, Sem.run_pure]
  · rename_i id off
    obtain ⟨rfl, hD⟩ := hx.ptr_inv
    split at h
    · rename_i cs e j hg hj
      cases hb : (Nat.beq e t && Nat.beq (Nat.mod off j.size) 0 && Nat.ble (off + j.size) cs.length && !Nat.beq j.size 0)
      · rw [hb] at h; cases h
      · rw [hb, cond_true] at h
        cases h
        rw [Bool.and_eq_true, Bool.and_eq_true, Bool.and_eq_true] at hb
        obtain ⟨⟨⟨b0, b1⟩, b2⟩, b3⟩ := hb
        have b0 := Nat.eq_of_beq_eq_true b0
        have b1 : off % j.size = 0 := Nat.eq_of_beq_eq_true b1
        have b2 := Nat.le_of_ble_eq_true b2
        have b3 : j.size ≠ 0 := fun e => by rw [beq_t e] at b3; cases b3
        subst b0
        refine Sound.same (w' := w) (v' := .pointer (some ⟨(ι id).blk, (ι id).base + off, none⟩)) (fun ho => ?_) rfl rfl
        obtain ⟨c, e', fr, e1, e2, e3, eo, e45⟩ := ho.hd id _ (.inl ⟨off, by simp⟩) (St.hdr_of hg)
        obtain ⟨e0, e4, e5⟩ := e45 rfl
        obtain ⟨g1, g2, g3⟩ := e4 _ (hT.inf _ _ hj)
        rw [e0] at e1
        have hc : P.cellsOf e = j.size := by simp [Program.cellsOf, hT.inf _ _ hj]
        refine ⟨Lib.run_from_unsafe w _ hs hd (hT.inf _ _ hj) (shape_of e1) (lies_self hc b3 ?_ ?_), .ptr id off hD, rfl, rfl, rfl⟩
        · simp only; rw [Nat.add_mod, g2, b1]; simp
        · simp only
          rw [hc]
          have hle : (ι id).base + off + j.size ≤ c.size := by omega
          have : ((ι id).base + off + j.size) / j.size ≤ c.size / j.size := Nat.div_le_div_right hle
          rwa [Nat.add_div_right _ (Nat.pos_of_ne_zero b3)] at this
    · cases h
  · cases h
omit hT
theorem aSliceData_sound {ts : Array TypeId} {ty : TypeId} {x x' v : Value} (h : aSliceData x = some v) (hx : VR D ι x x') : Sound P D ι σ w (Builtin.unsafeSliceData_ ts ty #[x']) ⟨v, σ, .nil⟩ := by
  unfold aSliceData at h
  split at h
  · cases h; cases hx
    exact Sound.pure rfl .ptrN
  · rename_i id off l c
    have key : ∀ (a : Addr) (l c : Nat), c ≠ 0 → (Builtin.unsafeSliceData_ ts ty #[.slice (some a) l c]).run P w = .ok (.pointer (some a)) w := fun a l c hc => Lib.run_unsafeSliceData_row _ _ _ _ _ _ hc
    cases hb : Nat.beq c unk
    · rw [hb, cond_false] at h
      cases hc : Nat.beq c 0
      · rw [hc] at h; cases h
        have hne : c ≠ 0 := fun e => by rw [beq_t e] at hc; cases hc
        have hnu : c ≠ unk := fun e => by rw [beq_t e] at hb; cases hb
        cases hx with
        | slK _ _ _ _ hD _ => exact Sound.pure (key _ _ _ hne) (.ptr id off hD)
        | slU _ _ _ _ hD _ _ => exact absurd rfl hnu
      · rw [hc] at h; cases h
    · rw [hb, cond_true] at h
      cases hc : Nat.beq l 0
      · rw [hc] at h; cases h
        have hne : l ≠ 0 := fun e => by rw [beq_t e] at hc; cases hc
        have hu := Nat.eq_of_beq_eq_true hb
        cases hx with
        | slK _ _ _ _ hD hc => exact absurd hu hc
        | slU _ _ _ c' hD h1 _ => exact Sound.pure (key _ _ _ (by omega)) (.ptr id off hD)
      · rw [hc] at h; cases h
  · cases h

theorem Post.freeze {w w' : World} {id : Nat} {cs : List Value} {elem : TypeId} (hg : σ.heap.get id = some (.row cs elem false)) {φ : Foot} (hφ : φ.Fi id) (hall : ∀ k, φ.Fc id k) (ho : HOn P D ι σ.H φ w)
    {c : Array Value} {e : TypeId} {fr fr' : Nat × Nat} (h1 : w.heap[(ι id).blk]? = some (.cells c e fr)) (h2 : w'.heap[(ι id).blk]? = some (.cells c e fr')) (h3 : ∀ b, b ≠ (ι id).blk → w'.heap[b]? = w.heap[b]?)
    (h4 : w'.heap.size = w.heap.size) (h5 : w'.os = w.os) (h6 : w'.output = w.output) :
    Post P D (σ.rng (σ.put id (some (.row cs elem true)))) ι σ.H w ⟨[], [], [], [id]⟩ ι (σ.put id (some (.row cs elem true))).H w' where
  io := fun _ _ => rfl
  size := by omega
  os := h5
  out := h6
  hdr := by
    rintro j x (hx | hx) e
    · have : j = id := by simpa [Foot.Wi] using hx
      subst this
      rw [St.put_hdr, if_pos rfl] at e
      cases e
      obtain ⟨c0, e0, fr0, g1, g2, g3, g4, _⟩ := ho.hd j _ hφ (St.hdr_of hg)
      rw [h1] at g1; cases g1
      exact ⟨c, _, fr', h2, g2, g3, g4, fun h => by cases h⟩
    · simp only [St.rng, St.put] at hx; omega
  cel := by
    rintro j k v (hx | hx) lv e
    · have : j = id := by simpa [Foot.Wc] using hx
      subst this
      rw [St.put_cell, if_pos rfl] at e
      obtain ⟨hown, v', hv, hr⟩ := ho.ce j k v (hall k) (St.lv_of hg) (by rw [St.cell_of hg]; exact e)
      refine ⟨hown, v', ?_, hr.mono (fun _ => .inl) fun _ _ => rfl⟩
      simp only [World.cell?, h1, h2] at hv ⊢
      exact hv
    · simp only [St.rng, St.put] at hx; omega
  ahdr := fun j _ hx => by rw [St.put_hdr, if_neg fun e => hx (by simp [Foot.Wi, e])]
  acel := fun j k _ hx => by rw [St.put_cell, if_neg fun e => hx (by simp [Foot.Wc, e])]
  cfr := fun b hb hx => by
    have : (ι id).blk ≠ b := fun e => hx id (by simp [Foot.Wi]) ⟨_, St.hdr_of hg, rfl⟩ ⟨(ho.hd id _ hφ (St.hdr_of hg)).own_row.1, e⟩
    rw [h3 b (Ne.symm this)]
    exact ObjBut.refl _ _
  fresh := fun j hn => by simp only [St.rng, St.put] at hn; omega
  freshF := fun j hn => by simp only [St.rng, St.put] at hn; omega
  dist := fun i j hn => by simp only [St.rng, St.put] at hn; omega
  nl := fun j hn => by simp only [St.rng, St.put] at hn; omega
  wl := fun j k hx _ => by
    have : j = id := by simpa [Foot.Wc] using hx
    subst this; exact St.lv_of hg
  wrm := fun j _ hx => by
    by_cases e : j = id
    · subst e; exact ⟨_, St.hdr_of hg, rfl⟩
    · obtain ⟨y, hy, hw⟩ := hx
      rw [St.put_hdr, if_neg e] at hy
      exact ⟨y, hy, hw⟩
  wrow := fun j k hx hn => absurd (by rcases hx with hx | hx; cases hx; exact hx) hn

theorem loadBytes_run (g : Nat) : ∀ (l : List Value) (b : List UInt8) (o : Nat) (acc : ByteArray), bytesOfV l = some b → (∀ (j : Nat) v, l[j]? = some v → w.cell? ⟨g, o + j, none⟩ = some v) → (loadBytes ⟨g, o, none⟩ acc l.length).run P w = .ok ⟨acc.data ++ b.toArray⟩ w
  | [], b, o, acc, hb, _ => by
    simp only [bytesOfV, Option.some.injEq] at hb
    subst hb
    simp [loadBytes]
  | v :: l, b, o, acc, hb, hc => by
    simp only [bytesOfV] at hb
    split at hb
    · rename_i b0 hb0
      split at hb
      · rename_i br hbr
        cases hb
        obtain ⟨n, rfl, rfl⟩ := byteOfV_spec hb0
        have h0 := hc 0 _ rfl
        have ih := loadBytes_run g l br (o + 1) (acc.push n.toNat.toUInt8) hbr fun j u hu => by
          have := hc (j + 1) u (by simpa using hu)
          rw [← this]; congr 2; omega
        have e : (load ⟨g, o, none⟩).run P w = .ok (.int .u8 n) w := run_load_of h0
        simp only [List.length_cons, loadBytes, Sem.run_bind, e, Result.andThen_ok, add_none, ih]
        congr 1
        apply ByteArray.ext
        simp
      · cases hb
    · cases hb

theorem uString_def (ts : Array TypeId) (ty : TypeId) (a : Addr) (x : Value) : Builtin.unsafeString_ ts ty #[.pointer (some a), x] =
      (do
        let n ← asInt x
        let some pt := ts[0]? | stuck "unsafe.String: no argument types"
        if n < 0 then runtimePanic (.error "unsafe.String: len out of range")
        if n > IntKind.i64.max then unsupported (.unsafePointer "String: a length above the largest int")
        if n = 0 then Pure.pure (.string .empty)
        else if ← variablesAt a (← elemOf pt) n.toNat then do
          let s ← loadBytes a .empty n.toNat
          freeze a n.toNat
          Pure.pure (.string s)
        else unsupported (.unsafePointer "String: not so many bytes at ptr")) := rfl
theorem uString_nil (ts : Array TypeId) (ty : TypeId) (x : Value) : Builtin.unsafeString_ ts ty #[.pointer none, x] =
      (do
        let n ← asInt x
        let some _ := ts[0]? | stuck "unsafe.String: no argument types"
        if n < 0 then runtimePanic (.error "unsafe.String: len out of range")
        if n > IntKind.i64.max then unsupported (.unsafePointer "String: a length above the largest int")
        if n = 0 then Pure.pure (.string .empty)
        else runtimePanic (.error "unsafe.String: ptr is nil and len is not zero")) := rfl

include hT
theorem aUString_sound {ts : Array TypeId} {pt ty : TypeId} {tl : List TypeId} {x x' : Value} {k : IntKind} {n : Int} {r : R} (ht : ts.toList = pt :: tl) (h : aUString T σ pt x n = some r) (hx : VR D ι x x') :
    Sound P D ι σ w (Builtin.unsafeString_ ts ty #[x', .int k n]) r := by
  have ht : ts[0]? = some pt := by rw [← Array.getElem?_toList, ht]; rfl
  unfold aUString at h
  have hmax : IntKind.i64.max = 9223372036854775807 := rfl
  split at h
  · split at h
    · cases h
      have hp : ∃ a, x' = .pointer a := by cases hx <;> exact ⟨_, rfl⟩
      obtain ⟨a, rfl⟩ := hp
      refine Sound.pure (v' := .string .empty) ?_ (.string _)
      cases a <;> simp [uString_def, uString_nil, asInt, asIntOf, hmax, ht]
    · cases h
  · rename_i n hn0
    have hn0 : n ≠ 0 := fun e => hn0 (by rw [e])
    split at h
    · rename_i id off e hu
      obtain ⟨rfl, hD⟩ := hx.ptr_inv
      split at h
      · rename_i cs elem j hg hj
        cases hb : (Nat.beq e elem && Nat.beq j.size 1 && Nat.ble n 9223372036854775807)
        · rw [hb] at h; cases h
        · rw [hb, cond_true] at h
          rw [Bool.and_eq_true, Bool.and_eq_true] at hb
          obtain ⟨⟨b0, b1⟩, b2⟩ := hb
          have b0 := Nat.eq_of_beq_eq_true b0
          have b1 := Nat.eq_of_beq_eq_true b1
          have b2 := Nat.le_of_ble_eq_true b2
          split at h
          · rename_i l hl
            split at h
            · rename_i b hbv
              cases h
              refine ⟨Nat.le_refl _, fun hw => ⟨St.put_wf hw (St.lv_lt hw (St.lv_of hg)) _, AFr.whole (by simp)⟩, fun hw _ ho => ?_⟩
              have hall : ∀ k, (⟨[], [], [], [id]⟩ : Foot).Fc id k := fun k => .inr (.inr (.inr (by simp)))
              obtain ⟨c, e', fr, e1, e2, e3, eo, e45⟩ := ho.hd id _ (hall 0).fi (St.hdr_of hg)
              obtain ⟨e0, e4, e5⟩ := e45 rfl
              rw [e0] at e1
              obtain ⟨q1, q2, q3⟩ := lslice_spec _ _ _ _ hl
              have hcell : ∀ (j : Nat) v, l[j]? = some v → w.cell? ⟨(ι id).blk, (ι id).base + off + j, none⟩ = some v := by
                intro j v hv
                have hj : j < n := by
                  rcases Nat.lt_or_ge j l.length with h | h
                  · omega
                  · rw [List.getElem?_eq_none h] at hv; cases hv
                obtain ⟨-, v', hv', hr⟩ := ho.ce id (off + j) v (hall _) (St.lv_of hg) (by rw [St.cell_of hg, ← q3 j hj]; exact hv)
                have : v' = v := by
                  obtain ⟨m, rfl⟩ := bytesOfV_int hbv hv
                  cases hr; rfl
                rw [this] at hv'
                rw [← hv', Nat.add_assoc]
              have hlb := loadBytes_run (P := P) (w := w) _ l b _ .empty hbv hcell
              rw [q1] at hlb
              have hcs : P.cellsOf e = 1 := by simp [Program.cellsOf, hT.inf _ _ hj, b1]
              have hlies : liesAt P P.depth e (c.size / P.cellsOf e) ((ι id).base + off) e n = true := lies_self hcs (by decide) (Nat.mod_one _) (by simp only [hcs, Nat.div_one]; omega)
              refine ⟨.string ⟨b.toArray⟩, ι, w.freeze ⟨(ι id).blk, (ι id).base + off, none⟩ n, ?_, .string _, ?_⟩
              · have h63 : ¬ (9223372036854775807 : Int) < (n : Int) := by omega
                have hneg : ¬ (n : Int) < 0 := by omega
                have he : ((⟨(ByteArray.empty).data ++ b.toArray⟩ : ByteArray)) = ⟨b.toArray⟩ := by apply ByteArray.ext; simp
                rw [he] at hlb
                rw [← b0] at e1
                simp [uString_def, asInt, asIntOf, hmax, ht, h63, hneg, hn0, variablesAt, shape_of e1, elemOf, run_und hT hu, hlies, hlb]
              · have hlt : (ι id).blk < w.heap.size := by
                  rcases Nat.lt_or_ge (ι id).blk w.heap.size with h | h
                  · exact h
                  · rw [Array.getElem?_eq_none h] at e1; cases e1
                refine Post.freeze hg (hall 0).fi hall ho e1 (w' := w.freeze ⟨(ι id).blk, (ι id).base + off, none⟩ n) (fr' := if fr.1 == fr.2 then ((ι id).base + off, (ι id).base + off + n) else (min fr.1 ((ι id).base + off), max fr.2 ((ι id).base + off + n))) ?_ ?_ ?_ ?_ ?_
                · simp [World.freeze, hn0, Array.getElem?_modify, e1]
                · intro b hb
                  simp [World.freeze, hn0, Array.getElem?_modify, Ne.symm hb]
                · simp [World.freeze, hn0]
                · simp [World.freeze, hn0]
                · simp [World.freeze, hn0]
            · cases h
          · cases h
      · cases h
    · cases h
  · cases h
omit hT
end
end Go.Eng

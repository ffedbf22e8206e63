/-
  The engine, part C: the abstract state, and the kinds of steps: nothing changes, a new block, cells written, a block given up for another one. No condition.
-/
import Derived.Test.YtdbaigcnlmnliaaGreatDoorEngB
import Derived.Laws.Sem
import Derived.Laws.Cells
noncomputable section
namespace Go.Eng
open Go

inductive AO where
  | row (cells : List Value) (elem : TypeId) (ro : Bool)
  | iter (s : ByteArray) (pos : Nat)
  | dat (t : Ty) (xs : List t.Den)
  | vec (t : Ty) (xs : List t.Den) (elem : TypeId)
def AO.hd : AO → Hd
  | .row cs e ro => .row cs.length e ro
  | .iter s p => .iter s p
  | .dat t xs => .dat t xs
  | .vec t xs e => .vec t xs e
/-- heap, the next number; what is taken to hold; what is to be decided -/
structure St where
  heap : Tr AO
  next : Nat
  pc : List Prop
  ora : List Nat
def AllP : List Prop → Prop
  | [] => True
  | p :: ps => p ∧ AllP ps
def St.Ok (σ : St) : Prop := AllP σ.pc
def cellOf : Option AO → Nat → Option Value
  | some (.row cs _ _), k => cs[k]?
  | _, _ => none
def St.H (σ : St) : H := ⟨fun id => (σ.heap.get id).map AO.hd, fun id k => cellOf (σ.heap.get id) k⟩
def St.wf (σ : St) : Prop := ∀ id, σ.next ≤ id → σ.heap.get id = none
def St.rng (σ σ' : St) (id : Nat) : Prop := σ.next ≤ id ∧ id < σ'.next
def St.new (σ : St) (o : AO) : St := ⟨σ.heap.set σ.next (some o), σ.next + 1, σ.pc, σ.ora⟩
def St.put (σ : St) (id : Nat) (o : Option AO) : St := ⟨σ.heap.set id o, σ.next, σ.pc, σ.ora⟩

theorem St.lv_lt {σ : St} (hw : σ.wf) {id : Nat} (h : Lv σ.H id) : id < σ.next := by
  rcases Nat.lt_or_ge id σ.next with hl | hg
  · exact hl
  · obtain ⟨x, hx⟩ := h
    simp only [St.H] at hx
    rw [hw id hg] at hx; cases hx
theorem St.hdr_none {σ : St} (hw : σ.wf) (id : Nat) (hi : σ.next ≤ id) : σ.H.hdr id = none := by simp only [St.H, hw id hi, Option.map_none]
theorem St.new_wf {σ : St} (hw : σ.wf) (o : AO) : (σ.new o).wf := by
  intro id h
  simp only [St.new] at h ⊢
  rw [Tr.set_get, if_neg (by omega)]
  exact hw id (by omega)
theorem St.put_wf {σ : St} (hw : σ.wf) {id : Nat} (hi : id < σ.next) (o : Option AO) : (σ.put id o).wf := by
  intro j h
  simp only [St.put] at h ⊢
  rw [Tr.set_get, if_neg (by omega)]
  exact hw j (by omega)
theorem St.new_hdr (σ : St) (o : AO) (j : Nat) : (σ.new o).H.hdr j = if j = σ.next then some o.hd else σ.H.hdr j := by
  simp only [St.H, St.new, Tr.set_get]; split <;> rfl
theorem St.new_cell (σ : St) (o : AO) (j k : Nat) : (σ.new o).H.cell j k = if j = σ.next then cellOf (some o) k else σ.H.cell j k := by
  simp only [St.H, St.new, Tr.set_get]; split <;> rfl
theorem St.put_hdr (σ : St) (id : Nat) (o : Option AO) (j : Nat) : (σ.put id o).H.hdr j = if j = id then o.map AO.hd else σ.H.hdr j := by
  simp only [St.H, St.put, Tr.set_get]; split <;> rfl
theorem St.put_cell (σ : St) (id : Nat) (o : Option AO) (j k : Nat) : (σ.put id o).H.cell j k = if j = id then cellOf o k else σ.H.cell j k := by
  simp only [St.H, St.put, Tr.set_get]; split <;> rfl
theorem St.hdr_of {σ : St} {id : Nat} {o : AO} (h : σ.heap.get id = some o) : σ.H.hdr id = some o.hd := by simp [St.H, h]
theorem St.cell_of {σ : St} {id : Nat} {cs : List Value} {e : TypeId} {ro : Bool} (h : σ.heap.get id = some (.row cs e ro)) (k : Nat) : σ.H.cell id k = cs[k]? := by simp [St.H, h, cellOf]
theorem St.lv_of {σ : St} {id : Nat} {o : AO} (h : σ.heap.get id = some o) : Lv σ.H id := ⟨_, St.hdr_of h⟩

/-- what an operation gives -/
structure R where
  v : Value
  σ : St
  φ : Foot

/-- what an abstract step leaves alone; what it takes to hold stays -/
structure AFr (σ σ' : St) (φ : Foot) : Prop where
  h : ∀ id, ¬ σ.rng σ' id → ¬ φ.Wi id → σ'.H.hdr id = σ.H.hdr id
  c : ∀ id k, ¬ σ.rng σ' id → ¬ φ.Wc id k → σ'.H.cell id k = σ.H.cell id k
  ok : σ'.Ok → σ.Ok
theorem AFr.refl (σ : St) (φ : Foot) : AFr σ σ φ := ⟨fun _ _ _ => rfl, fun _ _ _ _ => rfl, fun h => h⟩
theorem AFr.new (σ : St) (o : AO) (φ : Foot) : AFr σ (σ.new o) φ :=
  ⟨fun id hn _ => by rw [St.new_hdr, if_neg fun e => hn (by subst e; simp [St.rng, St.new])], fun id k hn _ => by rw [St.new_cell, if_neg fun e => hn (by subst e; simp [St.rng, St.new])], fun h => h⟩
theorem AFr.put {σ : St} {id : Nat} {cs cs' : List Value} {elem : TypeId} {φ : Foot} (hg : σ.heap.get id = some (.row cs elem false)) (hl : cs'.length = cs.length) (hk : ∀ k, (id, k) ∉ φ.wc → cs'[k]? = cs[k]?) :
    AFr σ (σ.put id (some (.row cs' elem false))) φ :=
  ⟨fun j _ _ => by
    rw [St.put_hdr]
    split
    · rename_i e; subst e; rw [St.hdr_of hg]; simp [AO.hd, hl]
    · rfl,
   fun j k _ hx => by
    rw [St.put_cell]
    split
    · rename_i e; subst e
      rw [St.cell_of hg]
      exact hk k fun hm => hx (.inl hm)
    · rfl, fun h => h⟩
theorem AFr.whole {σ : St} {id : Nat} {o : Option AO} {φ : Foot} (hw : id ∈ φ.wh) : AFr σ (σ.put id o) φ :=
  ⟨fun j _ hx => by rw [St.put_hdr, if_neg fun e => hx (by subst e; exact hw)], fun j k _ hx => by rw [St.put_cell, if_neg fun e => hx (by subst e; exact .inr hw)], fun h => h⟩
theorem AFr.giveUp {σ : St} {id : Nat} {o : AO} {φ : Foot} (hw : id ∈ φ.wh) : AFr σ ((σ.put id none).new o) φ := by
  have a := AFr.whole (σ := σ) (o := none) (φ := φ) hw
  have b := AFr.new (σ.put id none) o φ
  have hr : ∀ j, ¬ σ.rng ((σ.put id none).new o) j → ¬ (σ.put id none).rng ((σ.put id none).new o) j := fun j hj => hj
  have hr2 : ∀ j, ¬ σ.rng (σ.put id none) j := fun j => by simp only [St.rng, St.put]; omega
  exact ⟨fun j hn hx => (b.h j (hr j hn) hx).trans (a.h j (hr2 j) hx), fun j k hn hx => (b.c j k (hr j hn) hx).trans (a.c j k (hr2 j) hx), fun h => h⟩
theorem AFr.trans {σ σ1 σ2 : St} {φ ψ : Foot} (h1 : AFr σ σ1 φ) (h2 : AFr σ1 σ2 ψ) (n1 : σ.next ≤ σ1.next) (n2 : σ1.next ≤ σ2.next) : AFr σ σ2 (φ.add ψ) := by
  have r1 : ∀ j, ¬ σ.rng σ2 j → ¬ σ.rng σ1 j := fun j => by simp only [St.rng]; omega
  have r2 : ∀ j, ¬ σ.rng σ2 j → ¬ σ1.rng σ2 j := fun j => by simp only [St.rng]; omega
  exact ⟨fun j hn hx => (h2.h j (r2 j hn) fun x => hx (Foot.add_Wi.2 (.inr x))).trans (h1.h j (r1 j hn) fun x => hx (Foot.add_Wi.2 (.inl x))),
    fun j k hn hx => (h2.c j k (r2 j hn) fun x => hx (Foot.add_Wc.2 (.inr x))).trans (h1.c j k (r1 j hn) fun x => hx (Foot.add_Wc.2 (.inl x))), fun h => h1.ok (h2.ok h)⟩

/-- to take something to hold -/
def St.assume (σ : St) (p : Prop) : St := ⟨σ.heap, σ.next, p :: σ.pc, σ.ora⟩
/-- to decide something -/
def St.decide (σ : St) (p : Prop) (ds : List Nat) : St := ⟨σ.heap, σ.next, p :: σ.pc, ds⟩
theorem St.assume_ok {σ : St} {p : Prop} : (σ.assume p).Ok ↔ p ∧ σ.Ok := Iff.rfl
theorem St.decide_ok {σ : St} {p : Prop} {ds : List Nat} : (σ.decide p ds).Ok ↔ p ∧ σ.Ok := Iff.rfl
theorem AFr.assume {σ σ' : St} {φ : Foot} (a : AFr σ σ' φ) (p : Prop) : AFr σ (σ'.assume p) φ := ⟨a.h, a.c, fun h => a.ok h.2⟩
theorem AFr.decide {σ σ' : St} {φ : Foot} (a : AFr σ σ' φ) (p : Prop) (ds : List Nat) : AFr σ (σ'.decide p ds) φ := ⟨a.h, a.c, fun h => a.ok h.2⟩

def Sound (P : Program) (D : Nat → Prop) (ι : Nat → Reg) (σ : St) (w : World) (e : Sem Value) (r : R) : Prop :=
  σ.next ≤ r.σ.next ∧ (σ.wf → r.σ.wf ∧ AFr σ r.σ r.φ) ∧ (σ.wf → (∀ id, σ.rng r.σ id → ¬ D id) → HOn P D ι σ.H r.φ w →
    ∃ v' ι' w', e.run P w = .ok v' w' ∧ VR (fun i => D i ∨ σ.rng r.σ i) ι' r.v v' ∧ Post P D (σ.rng r.σ) ι σ.H w r.φ ι' r.σ.H w')

theorem St.rng_self (σ : St) (id : Nat) : ¬ σ.rng σ id := by simp only [St.rng]; omega

/-- nothing changes but what a tape has been asked -/
theorem Post.same {P : Program} {D N : Nat → Prop} {ι : Nat → Reg} {h : H} {w w' : World} {φ : Foot} (hn : ∀ id, ¬ N id) (h1 : w'.heap = w.heap) (h2 : w'.os = w.os) (h3 : w'.output = w.output)
    (h4 : φ.wc = []) (h5 : φ.wh = []) : Post P D N ι h w φ ι h w' where
  io := fun _ _ => rfl
  size := by rw [h1]; exact Nat.le_refl _
  os := h2
  out := h3
  hdr := fun id x hx => by rcases hx with hx | hx; simp [Foot.Wi, h5] at hx; exact absurd hx (hn id)
  cel := fun id k v hx => by rcases hx with hx | hx; simp [Foot.Wc, h4, h5] at hx; exact absurd hx (hn id)
  ahdr := fun _ _ _ => rfl
  acel := fun _ _ _ _ => rfl
  cfr := fun b _ _ => by rw [h1]; exact ObjBut.refl _ _
  fresh := fun id hx => absurd hx (hn id)
  freshF := fun id hx => absurd hx (hn id)
  dist := fun i _ hx => absurd hx (hn i)
  nl := fun id hx => absurd hx (hn id)
  wl := fun id k hx => by simp [Foot.Wc, h4, h5] at hx
  wrm := fun _ _ hx => hx
  wrow := fun id k hx => by simp [Foot.Wc, h4, h5] at hx

theorem Sound.same {P : Program} {D : Nat → Prop} {ι : Nat → Reg} {σ : St} {w w' : World} {e : Sem Value} {v v' : Value} {φ : Foot}
    (h : HOn P D ι σ.H φ w → e.run P w = .ok v' w' ∧ VR D ι v v' ∧ w'.heap = w.heap ∧ w'.os = w.os ∧ w'.output = w.output) (h4 : φ.wc = []) (h5 : φ.wh = []) :
    Sound P D ι σ w e ⟨v, σ, φ⟩ := by
  refine ⟨Nat.le_refl _, fun hw => ⟨hw, AFr.refl _ _⟩, fun _ _ ho => ?_⟩
  obtain ⟨h1, h2, h3, h6, h7⟩ := h ho
  exact ⟨v', ι, w', h1, h2.mono (fun _ => .inl) fun _ _ => rfl, Post.same (St.rng_self σ) h3 h6 h7 h4 h5⟩

theorem Sound.pure {P : Program} {D : Nat → Prop} {ι : Nat → Reg} {σ : St} {w : World} {e : Sem Value} {v v' : Value}
    (h : e.run P w = .ok v' w) (hv : VR D ι v v') : Sound P D ι σ w e ⟨v, σ, .nil⟩ :=
  Sound.same (fun _ => ⟨h, hv, rfl, rfl, rfl⟩) rfl rfl

def upd (ι : Nat → Reg) (id : Nat) (r : Reg) : Nat → Reg := fun j => if j = id then r else ι j
theorem upd_eq (ι : Nat → Reg) (id : Nat) (r : Reg) : upd ι id r id = r := by simp [upd]
theorem upd_ne (ι : Nat → Reg) {id j : Nat} (r : Reg) (h : j ≠ id) : upd ι id r j = ι j := by simp [upd, h]

theorem rg_fz (a b c d : Nat) (x : Nat) : ¬ (rg a b c d).Fz x := by rintro ⟨c, h⟩; simp [rg] at h
theorem upd_own {ι : Nat → Reg} {id a b c d : Nat} : (upd ι id (rg a b c d) id).own = true ∧ ∀ x, ¬ (upd ι id (rg a b c d) id).Fz x := by rw [upd_eq]; exact ⟨rfl, rg_fz a b c d⟩
theorem St.rng_new {σ : St} {o : AO} {id : Nat} : σ.rng (σ.new o) id ↔ id = σ.next := by simp only [St.rng, St.new]; omega

theorem heap_push_old (w : World) (o : Obj) {b : Nat} (h : b < w.heap.size) : (w.heap.push o)[b]? = w.heap[b]? := by
  rw [Array.getElem?_push, if_neg (by omega)]
theorem heap_push_new (w : World) (o : Obj) : (w.heap.push o)[w.heap.size]? = some o := by
  rw [Array.getElem?_push, if_pos rfl]

/-- a new row -/
theorem Post.new {P : Program} {D : Nat → Prop} {ι : Nat → Reg} {σ : St} {w w' : World} {cs : List Value} {c : Array Value} {elem : TypeId} {fr : Nat × Nat} {esz : Nat} {φ : Foot} (hw : σ.wf)
    (hD : ¬ D σ.next) (hlen : cs.length ≤ c.size) (hz : ∀ i, P.info? elem = some i → esz = i.size ∧ c.size % i.size = 0) (hf : ∀ o, o < c.size → ¬ (fr.1 ≤ o ∧ o < fr.2))
    (hc : ∀ (k : Nat) v, cs[k]? = some v → ∃ v', c[k]? = some v' ∧ VR D ι v v') (h1 : w'.heap = w.heap.push (.cells c elem fr)) (h2 : w'.os = w.os) (h3 : w'.output = w.output)
    (h4 : φ.wc = []) (h5 : φ.wh = []) :
    Post P D (σ.rng (σ.new (.row cs elem false))) ι σ.H w φ (upd ι σ.next (rg w.heap.size 0 c.size esz)) (σ.new (.row cs elem false)).H w' where
  io := fun id hn => upd_ne _ _ fun e => hn (St.rng_new.2 e)
  size := by rw [h1]; simp
  os := h2
  out := h3
  hdr := by
    rintro id x (hx | hx) e
    · simp [Foot.Wi, h5] at hx
    · obtain rfl := St.rng_new.1 hx
      rw [St.new_hdr, if_pos rfl] at e
      cases e
      simp only [HdrOK, AO.hd, upd_eq]
      exact ⟨c, elem, fr, by rw [h1]; exact heap_push_new _ _, by simp [rg], hlen, ⟨rfl, fun b ⟨c, h⟩ => by simp [rg] at h⟩, fun _ => ⟨rfl, fun i hi => ⟨(hz i hi).1, by simp [rg], (hz i hi).2⟩, hf⟩⟩
  cel := by
    rintro id k v (hx | hx) lv e
    · simp [Foot.Wc, h4, h5] at hx
    · obtain rfl := St.rng_new.1 hx
      rw [St.new_cell, if_pos rfl] at e
      obtain ⟨v', e', hv⟩ := hc k v e
      refine ⟨by rw [upd_eq]; rfl, v', ?_, hv.mono (fun _ => .inl) fun i hi => upd_ne _ _ fun e => hD (e ▸ hi)⟩
      simp only [World.cell?, upd_eq, h1, rg, heap_push_new, Option.isSome_none, Bool.false_eq_true, if_false, Nat.zero_add]
      exact e'
  ahdr := fun id hn _ => by rw [St.new_hdr, if_neg fun e => hn (St.rng_new.2 e)]
  acel := fun id k hn _ => by rw [St.new_cell, if_neg fun e => hn (St.rng_new.2 e)]
  cfr := fun b hb _ => by rw [h1, heap_push_old _ _ hb]; exact ObjBut.refl _ _
  fresh := fun id hn _ b hb => by
    obtain rfl := St.rng_new.1 hn
    rw [upd_eq] at hb
    obtain ⟨_, rfl⟩ := hb
    left; rw [h1]; simp [rg]
  freshF := fun id hn _ b hb => by
    obtain rfl := St.rng_new.1 hn
    rw [upd_eq] at hb
    obtain ⟨_, hb⟩ := hb
    simp [rg] at hb
  dist := fun i j hi hj _ _ hij => by
    obtain rfl := St.rng_new.1 hi
    exact absurd (St.rng_new.1 hj).symm hij
  nl := fun id hn => by
    obtain rfl := St.rng_new.1 hn
    simp [St.H, hw σ.next (Nat.le_refl _)]
  wl := fun id k hx => by simp [Foot.Wc, h4, h5] at hx
  wrm := fun id hn hx => by
    refine hx.of_hdr ?_
    rw [St.new_hdr, if_neg fun e => hn (St.rng_new.2 e)]
  wrow := fun id k hx => by simp [Foot.Wc, h4, h5] at hx

/-- a new iterator -/
theorem Post.newIter {P : Program} {D : Nat → Prop} {ι : Nat → Reg} {σ : St} {w : World} {s : ByteArray} {pos : Nat} (hw : σ.wf) :
    Post P D (σ.rng (σ.new (.iter s pos))) ι σ.H w .nil (upd ι σ.next (rg w.heap.size 0 0 0)) (σ.new (.iter s pos)).H { w with heap := w.heap.push (.stringIter s pos) } where
  io := fun id hn => upd_ne _ _ fun e => hn (St.rng_new.2 e)
  size := by simp
  os := rfl
  out := rfl
  hdr := by
    rintro id x (hx | hx) e
    · cases hx
    · obtain rfl := St.rng_new.1 hx
      rw [St.new_hdr, if_pos rfl] at e
      cases e
      simp only [HdrOK, AO.hd, upd_eq]
      exact ⟨heap_push_new _ _, rfl, rfl, fun b ⟨c, h⟩ => by simp [rg] at h⟩
  cel := by
    rintro id k v (hx | hx) lv e
    · rcases hx with hx | hx <;> cases hx
    · obtain rfl := St.rng_new.1 hx
      rw [St.new_cell, if_pos rfl] at e
      cases e
  ahdr := fun id hn _ => by rw [St.new_hdr, if_neg fun e => hn (St.rng_new.2 e)]
  acel := fun id k hn _ => by rw [St.new_cell, if_neg fun e => hn (St.rng_new.2 e)]
  cfr := fun b hb _ => by rw [heap_push_old _ _ hb]; exact ObjBut.refl _ _
  fresh := fun id hn _ b hb => by
    obtain rfl := St.rng_new.1 hn
    rw [upd_eq] at hb
    obtain ⟨_, rfl⟩ := hb
    left; simp [rg]
  freshF := fun id hn _ b hb => by
    obtain rfl := St.rng_new.1 hn
    rw [upd_eq] at hb
    obtain ⟨_, hb⟩ := hb
    simp [rg] at hb
  dist := fun i j hi hj _ _ hij => by
    obtain rfl := St.rng_new.1 hi
    exact absurd (St.rng_new.1 hj).symm hij
  nl := fun id hn => by
    obtain rfl := St.rng_new.1 hn
    simp [St.H, hw σ.next (Nat.le_refl _)]
  wl := fun id k hx => by rcases hx with hx | hx <;> cases hx
  wrm := fun id hn hx => by
    refine hx.of_hdr ?_
    rw [St.new_hdr, if_neg fun e => hn (St.rng_new.2 e)]
  wrow := fun id k hx => by rcases hx with hx | hx <;> cases hx

/-- an iterator that goes on -/
theorem Post.setIter {P : Program} {D : Nat → Prop} {ι : Nat → Reg} {σ : St} {w : World} {s : ByteArray} {pos pos' id : Nat} (hg : σ.heap.get id = some (.iter s pos)) (hd : HdrOK P ι id w (.iter s pos)) :
    Post P D (σ.rng (σ.put id (some (.iter s pos')))) ι σ.H w ⟨[], [], [], [id]⟩ ι (σ.put id (some (.iter s pos'))).H { w with heap := w.heap.setIfInBounds (ι id).blk (.stringIter s pos') } where
  io := fun _ _ => rfl
  size := by simp
  os := rfl
  out := rfl
  hdr := by
    rintro j x (hx | hx) e
    · have : j = id := by simpa [Foot.Wi] using hx
      subst this
      rw [St.put_hdr, if_pos rfl] at e
      cases e
      refine ⟨?_, hd.2⟩
      have := heap_lt hd.1
      simp [this]
    · simp only [St.rng, St.put] at hx; omega
  cel := by
    rintro j k v (hx | hx) lv e
    · have : j = id := by simpa [Foot.Wc] using hx
      subst this
      rw [St.put_cell, if_pos rfl] at e
      cases e
    · simp only [St.rng, St.put] at hx; omega
  ahdr := fun j _ hx => by rw [St.put_hdr, if_neg fun e => hx (by simp [Foot.Wi, e])]
  acel := fun j k _ hx => by rw [St.put_cell, if_neg fun e => hx (by simp [Foot.Wc, e])]
  cfr := fun b hb hx => by
    have : (ι id).blk ≠ b := fun e => hx id (by simp [Foot.Wi]) ⟨_, St.hdr_of hg, trivial⟩ ⟨hd.2.2.1, e⟩
    simp only [Array.getElem?_setIfInBounds, if_neg this]
    exact ObjBut.refl _ _
  fresh := fun j hn => by simp only [St.rng, St.put] at hn; omega
  freshF := fun j hn => by simp only [St.rng, St.put] at hn; omega
  dist := fun i j hn => by simp only [St.rng, St.put] at hn; omega
  nl := fun j hn => by simp only [St.rng, St.put] at hn; omega
  wl := fun j k hx _ => by
    have : j = id := by simpa [Foot.Wc] using hx
    subst this; exact St.lv_of hg
  wrm := fun j _ hx => by
    by_cases e : j = id
    · subst e; exact ⟨_, St.hdr_of hg, trivial⟩
    · exact hx.of_hdr (by rw [St.put_hdr, if_neg e])
  wrow := fun j k hx hn => absurd (by rcases hx with hx | hx; cases hx; exact hx) hn

/-! ### cells written -/
def setL : Array Value → Nat → List Value → Array Value
  | c, _, [] => c
  | c, o, v :: vs => setL (c.setIfInBounds o v) (o + 1) vs
theorem setL_size : ∀ (vs : List Value) (c : Array Value) (o : Nat), (setL c o vs).size = c.size
  | [], _, _ => rfl
  | v :: vs, c, o => by rw [setL, setL_size vs]; simp
theorem setL_get : ∀ (vs : List Value) (c : Array Value) (o k : Nat), o + vs.length ≤ c.size → (setL c o vs)[k]? = if o ≤ k ∧ k < o + vs.length then vs[k - o]? else c[k]?
  | [], c, o, k, _ => by rw [setL, if_neg (by simp only [List.length_nil]; omega)]
  | v :: vs, c, o, k, h => by
    simp only [List.length_cons] at h ⊢
    rw [setL, setL_get vs _ _ _ (by simp; omega)]
    by_cases hk : k = o
    · subst hk
      rw [if_neg (by omega), if_pos (by omega)]
      simp only [Array.getElem?_setIfInBounds, if_pos, Nat.sub_self, List.getElem?_cons_zero]
      rw [if_pos (by omega)]
    · by_cases hlt : o ≤ k ∧ k < o + (vs.length + 1)
      · rw [if_pos (by omega), if_pos hlt, show k - o = (k - (o + 1)) + 1 by omega, List.getElem?_cons_succ]
      · rw [if_neg (by omega), if_neg hlt, Array.getElem?_setIfInBounds_ne (by omega)]

def isSyL : List Value → Bool
  | [.chan (some (_ + 1)), _] => true
  | _ => false
def oneC : Value → Bool
  | .agg _ | .chan (some _) => false
  | .tuple a => isSyL a.toList
  | _ => true
def oneV : Value → Bool
  | .agg _ | .tuple _ | .chan (some _) => false
  | _ => true
theorem oneC_eq {v : Value} (h : oneV v = true) : v.oneCell' = true := by cases v <;> first | rfl | cases h
theorem VR.no_chan {D : Nat → Prop} {ι : Nat → Reg} {v' : Value} {n : Nat} (h : VR D ι (.chan (some (n + 1))) v') : False := by cases h
theorem isSyL_spec {l : List Value} (h : isSyL l = true) : ∃ n v, l = [.chan (some (n + 1)), v] := by
  unfold isSyL at h
  split at h
  · exact ⟨_, _, rfl⟩
  · cases h
theorem VR.oneC {D : Nat → Prop} {ι : Nat → Reg} {v v' : Value} (h : VR D ι v v') (h1 : oneC v = true) : oneV v' = true := by
  cases h with
  | sym _ h => cases v' <;> first | rfl | cases h
  | err _ _ h => cases v' <;> first | rfl | cases h
  | aint _ _ => rfl
  | tuple as bs hs h =>
    obtain ⟨n, v, hv⟩ := isSyL_spec h1
    have h0 : as[0]? = some (.chan (some (n + 1))) := by rw [← Array.getElem?_toList, hv]; rfl
    have hb : bs[0]? = some (bs[0]'(by rw [← hs]; rcases Nat.lt_or_ge 0 as.size with h | h; exact h; rw [Array.getElem?_eq_none h] at h0; cases h0)) := Array.getElem?_eq_getElem _
    exact (h 0 _ _ h0 hb).no_chan.elim
  | _ => first | rfl | cases h1

theorem run_storeL (P : Program) (b o : Nat) (e : TypeId) (fr : Nat × Nat) : ∀ (vs : List Value) (i : Nat) (c : Array Value) (w : World), w.heap[b]? = some (.cells c e fr) → o + i + vs.length ≤ c.size →
    (∀ v ∈ vs, oneV v = true) → (∀ j, j < c.size → ¬ (fr.1 ≤ j ∧ j < fr.2)) →
    (storeCells ⟨b, o, none⟩ vs i).run P w = .ok () { w with heap := w.heap.setIfInBounds b (.cells (setL c (o + i) vs) e fr) }
  | [], i, c, w, h, _, _, _ => by
    have : w.heap.setIfInBounds b (.cells c e fr) = w.heap := by
      apply Array.ext_getElem?
      intro j
      rw [Array.getElem?_setIfInBounds]
      split
      · rename_i hj; subst hj
        split
        · exact h.symm
        · rename_i hn; rw [Array.getElem?_eq_none (by omega)]
      · rfl
    simp only [storeCells, setL, this]
    rfl
  | v :: vs, i, c, w, h, hs, h1, hf => by
    simp only [List.length_cons] at hs
    have hadd : (⟨b, o, none⟩ : Addr).add i = ⟨b, o + i, none⟩ := by
      unfold Addr.add; split
      · rename_i h0; subst h0; rfl
      · rfl
    have hc : w.cell? ⟨b, o + i, none⟩ = some (c[o + i]'(by omega)) := by
      simp only [World.cell?, h, Option.isSome_none, Bool.false_eq_true, if_false]
      exact Array.getElem?_eq_getElem (by omega)
    have hfz : w.frozen? ⟨b, o + i, none⟩ = false := by
      have := hf (o + i) (by omega)
      simp only [World.frozen?, h]
      simpa using this
    have hst := run_store P w ⟨b, o + i, none⟩ v .plain (oneC_eq (h1 v (by simp)))
    rw [hc] at hst
    simp only [hfz, Bool.false_eq_true, if_false] at hst
    have hb : b < w.heap.size := by
      rcases Nat.lt_or_ge b w.heap.size with hl | hg
      · exact hl
      · rw [Array.getElem?_eq_none hg] at h; cases h
    have hset : w.setCell ⟨b, o + i, none⟩ v = { w with heap := w.heap.setIfInBounds b (.cells (c.setIfInBounds (o + i) v) e fr) } := by
      simp only [World.setCell]
      congr 1
      apply Array.ext_getElem?
      intro j
      rw [Array.getElem?_modify, Array.getElem?_setIfInBounds]
      split
      · rename_i hj; subst hj
        first | (rw [h]; rfl) | simp [h, hb]
      · rfl
    simp only [storeCells, Sem.run_bind, hadd, hst, Result.andThen_ok, hset]
    rw [run_storeL P b o e fr vs (i + 1) (c.setIfInBounds (o + i) v) _ (by simp [hb]) (by simp; omega) (fun x hx => h1 x (by simp [hx])) (by simpa using hf)]
    simp only [setL, Array.setIfInBounds_setIfInBounds]
    rfl

theorem Post.write {P : Program} {D : Nat → Prop} {ι : Nat → Reg} {σ : St} {w w' : World} {id : Nat} {cs cs' : List Value} {c c' : Array Value} {elem : TypeId} {fr : Nat × Nat} {rc wc : List (Nat × Nat)} {rh : List Nat}
    (hg : σ.heap.get id = some (.row cs elem false)) (hd : HdrOK P ι id w (.row cs.length elem false)) (hb : w.heap[(ι id).blk]? = some (.cells c elem fr)) (h1 : w'.heap = w.heap.setIfInBounds (ι id).blk (.cells c' elem fr))
    (h2 : w'.os = w.os) (h3 : w'.output = w.output) (hz : c'.size = c.size) (hl : cs'.length = cs.length) (hwc : ∀ p, p ∈ wc → p.1 = id)
    (hsame : ∀ o, (∀ k, (id, k) ∈ wc → (ι id).base + k ≠ o) → c'[o]? = c[o]?) (hcell : ∀ k v, (id, k) ∈ wc → cs'[k]? = some v → ∃ v', c'[(ι id).base + k]? = some v' ∧ VR D ι v v')
    (hk : ∀ k, (id, k) ∉ wc → cs'[k]? = cs[k]?) :
    Post P D (σ.rng (σ.put id (some (.row cs' elem false)))) ι σ.H w ⟨rc, rh, wc, []⟩ ι (σ.put id (some (.row cs' elem false))).H w' := by
  have hlt := hd.lt (.inl hd.own_row)
  have hnew : w'.heap[(ι id).blk]? = some (.cells c' elem fr) := by rw [h1]; simp [hlt]
  have hn : ∀ j, ¬ σ.rng (σ.put id (some (.row cs' elem false))) j := fun j => by simp only [St.rng, St.put]; omega
  have hhd : ∀ j, (σ.put id (some (.row cs' elem false))).H.hdr j = σ.H.hdr j := fun j => by
    rw [St.put_hdr]
    split
    · rename_i e; subst e; rw [St.hdr_of hg]; simp [AO.hd, hl]
    · rfl
  have hid : ∀ j k, (⟨rc, rh, wc, []⟩ : Foot).Wc j k → j = id ∧ (j, k) ∈ wc := fun j k hx => by
    have : (j, k) ∈ wc := by simpa [Foot.Wc] using hx
    exact ⟨hwc _ this, this⟩
  exact {
    io := fun _ _ => rfl
    size := by rw [h1]; simp
    os := h2
    out := h3
    hdr := fun j x hx => by rcases hx with hx | hx; simp [Foot.Wi] at hx; exact absurd hx (hn j)
    cel := by
      rintro j k v (hx | hx) lv e
      · obtain ⟨rfl, hm⟩ := hid j k hx
        rw [St.put_cell, if_pos rfl] at e
        obtain ⟨v', e', hv⟩ := hcell k v hm e
        exact ⟨hd.own_row.1, v', by simp only [World.cell?, hnew, Option.isSome_none, Bool.false_eq_true, if_false]; exact e', hv.mono (fun _ => .inl) fun _ _ => rfl⟩
      · exact absurd hx (hn j)
    ahdr := fun j _ _ => hhd j
    acel := fun j k _ hx => by
      rw [St.put_cell]
      split
      · rename_i e; subst e
        rw [St.cell_of hg]
        exact hk k fun hm => hx (.inl hm)
      · rfl
    cfr := fun b hb' _ => by
      by_cases e : b = (ι id).blk
      · subst e
        rw [hb, hnew]
        refine ⟨c', rfl, hz, fun o ho => hsame o fun k hm he => ho ⟨id, k, .inl hm, ⟨_, St.hdr_of hg, rfl⟩, hd.own_row, he⟩⟩
      · rw [h1, Array.getElem?_setIfInBounds_ne (Ne.symm e)]; exact ObjBut.refl _ _
    fresh := fun j hx => absurd hx (hn j)
    freshF := fun j hx => absurd hx (hn j)
    dist := fun j _ hx => absurd hx (hn j)
    nl := fun j hx => absurd hx (hn j)
    wl := fun j k hx _ => by
      obtain ⟨rfl, _⟩ := hid j k hx
      exact St.lv_of hg
    wrm := fun j _ hx => hx.of_hdr (hhd j)
    wrow := fun j k hx _ _ => by
      obtain ⟨rfl, _⟩ := hid j k hx
      exact ⟨_, _, _, St.hdr_of hg⟩ }

/-- a block given up, for a new one (that may be the same one in memory) -/
theorem Post.giveUp {P : Program} {D : Nat → Prop} {ι : Nat → Reg} {σ : St} {w w' : World} {id : Nat} {cs cs' : List Value} {elem : TypeId} {r : Reg} {rc : List (Nat × Nat)} {rh : List Nat} (hw : σ.wf)
    (hg : σ.heap.get id = some (.row cs elem false))
    (h1 : ∀ b, b < w.heap.size → b ≠ (ι id).blk → w'.heap[b]? = w.heap[b]?) (h2 : w'.os = w.os) (h3 : w'.output = w.output) (h4 : w.heap.size ≤ w'.heap.size)
    (hh : HdrOK P (upd ι σ.next r) σ.next w' (.row cs'.length elem false)) (hc : ∀ (k : Nat) v, cs'[k]? = some v → CellOK D (upd ι σ.next r) σ.next w' k v)
    (hr : (w.heap.size ≤ r.blk ∧ r.blk < w'.heap.size) ∨ r.blk = (ι id).blk) (ho : (ι id).own = true) (hfz : ∀ b, ¬ r.Fz b) :
    Post P D (σ.rng ((σ.put id none).new (.row cs' elem false))) ι σ.H w ⟨rc, rh, [], [id]⟩ (upd ι σ.next r) ((σ.put id none).new (.row cs' elem false)).H w' := by
  have hid : id < σ.next := St.lv_lt hw (St.lv_of hg)
  have hn : ∀ j, σ.rng ((σ.put id none).new (.row cs' elem false)) j ↔ j = σ.next := fun j => by simp only [St.rng, St.put, St.new]; omega
  have hnx : (σ.put id none).next = σ.next := rfl
  have hhd : ∀ j, ((σ.put id none).new (.row cs' elem false)).H.hdr j = if j = σ.next then some (.row cs'.length elem false) else if j = id then none else σ.H.hdr j := fun j => by
    rw [St.new_hdr, hnx, St.put_hdr]; rfl
  have hce : ∀ j k, ((σ.put id none).new (.row cs' elem false)).H.cell j k = if j = σ.next then cs'[k]? else if j = id then none else σ.H.cell j k := fun j k => by
    rw [St.new_cell, hnx, St.put_cell]; rfl
  have hwi : ∀ j, (⟨rc, rh, [], [id]⟩ : Foot).Wi j → j = id := fun j hx => by simpa [Foot.Wi] using hx
  have hwc : ∀ j k, (⟨rc, rh, [], [id]⟩ : Foot).Wc j k → j = id := fun j k hx => by simpa [Foot.Wc] using hx
  have hdead : ¬ Lv ((σ.put id none).new (.row cs' elem false)).H id := by
    rintro ⟨x, hx⟩
    rw [hhd, if_neg (by omega), if_pos rfl] at hx
    cases hx
  exact {
    io := fun j hx => upd_ne _ _ fun e => hx ((hn j).2 e)
    size := h4
    os := h2
    out := h3
    hdr := by
      rintro j x (hx | hx) e
      · obtain rfl := hwi j hx
        exact absurd ⟨x, e⟩ hdead
      · obtain rfl := (hn j).1 hx
        rw [hhd, if_pos rfl] at e
        cases e
        exact hh
    cel := by
      rintro j k v (hx | hx) lv e
      · obtain rfl := hwc j k hx
        exact absurd lv hdead
      · obtain rfl := (hn j).1 hx
        rw [hce, if_pos rfl] at e
        exact (hc k v e).more fun _ => .inl
    ahdr := fun j hx hy => by rw [hhd, if_neg fun e => hx ((hn j).2 e), if_neg fun e => hy (by simp [Foot.Wi, e])]
    acel := fun j k hx hy => by rw [hce, if_neg fun e => hx ((hn j).2 e), if_neg fun e => hy (by simp [Foot.Wc, e])]
    cfr := fun b hb hx => by
      have : (ι id).blk ≠ b := fun e => hx id (by simp [Foot.Wi]) ⟨_, St.hdr_of hg, rfl⟩ ⟨ho, e⟩
      rw [h1 b hb this.symm]; exact ObjBut.refl _ _
    fresh := fun j hx _ b hb => by
      obtain rfl := (hn j).1 hx
      rw [upd_eq] at hb
      obtain ⟨_, rfl⟩ := hb
      exact hr.imp_right fun e => ⟨id, by simp [Foot.Wi], fun h => by have := (hn id).1 h; omega, ⟨_, St.hdr_of hg, rfl⟩, hdead, ho, e.symm⟩
    freshF := fun j hx _ b hb => by
      obtain rfl := (hn j).1 hx
      rw [upd_eq] at hb
      exact absurd hb (hfz b)
    dist := fun i j hi hj _ _ hij => absurd (((hn i).1 hi).trans ((hn j).1 hj).symm) hij
    nl := fun j hx => by
      obtain rfl := (hn j).1 hx
      simp [St.H, hw σ.next (Nat.le_refl _)]
    wl := fun j k hx _ => by
      obtain rfl := hwc j k hx
      exact St.lv_of hg
    wrm := fun j hx hy => by
      refine hy.of_hdr ?_
      rw [hhd, if_neg fun e => hx ((hn j).2 e)]
      split
      · rename_i e; subst e; exact absurd hy.lv hdead
      · rfl
    wrow := fun j k hx hy => absurd (by rcases hx with hx | hx; cases hx; exact hx) hy }

end Go.Eng

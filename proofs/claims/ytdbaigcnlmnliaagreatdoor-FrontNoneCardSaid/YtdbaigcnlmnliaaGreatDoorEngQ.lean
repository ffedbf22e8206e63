/-
  The engine, part Q: operations whose order is open: those that touch nothing in common may go in any order. No condition.
-/
import Derived.Test.YtdbaigcnlmnliaaGreatDoorEngO
noncomputable section
namespace Go.Eng
open Go

/-! ### a step seen from another abstract memory that agrees where the step looks -/
open Classical in
def updH (g : H) (φ : Foot) (N : Nat → Prop) (h : H) : H :=
  ⟨fun id => if φ.Wi id ∨ N id then h.hdr id else g.hdr id, fun id k => if φ.Wc id k ∨ N id then h.cell id k else g.cell id k⟩

section
variable {P : Program} {D N : Nat → Prop} {ι ι' : Nat → Reg} {h h1 g : H} {w w' : World} {φ : Foot}

theorem updH_hdr {id : Nat} (hx : φ.Wi id ∨ N id) : (updH g φ N h1).hdr id = h1.hdr id := by simp only [updH]; rw [if_pos hx]
theorem updH_hdr' {id : Nat} (hx : ¬ (φ.Wi id ∨ N id)) : (updH g φ N h1).hdr id = g.hdr id := by simp only [updH]; rw [if_neg hx]
theorem updH_cell {id k : Nat} (hx : φ.Wc id k ∨ N id) : (updH g φ N h1).cell id k = h1.cell id k := by simp only [updH]; rw [if_pos hx]
theorem updH_cell' {id k : Nat} (hx : ¬ (φ.Wc id k ∨ N id)) : (updH g φ N h1).cell id k = g.cell id k := by simp only [updH]; rw [if_neg hx]

theorem Wr.of_eq {h g : H} {id : Nat} (e : g.hdr id = h.hdr id) : Wr g id ↔ Wr h id := by unfold Wr; rw [e]
theorem Lv.of_eq {h g : H} {id : Nat} (e : g.hdr id = h.hdr id) : Lv g id ↔ Lv h id := by unfold Lv; rw [e]

theorem Post.move (p : Post P D N ι h w φ ι' h1 w') (ag1 : ∀ id, φ.Fi id → g.hdr id = h.hdr id) (nl : ∀ id, N id → g.hdr id = none) :
    Post P D N ι g w φ ι' (updH g φ N h1) w' where
  io := p.io
  size := p.size
  os := p.os
  out := p.out
  hdr := fun id x hx e => p.hdr id x hx (by rwa [updH_hdr hx] at e)
  cel := fun id k v hx lv e => by
    rw [updH_cell hx] at e
    refine p.cel id k v hx ?_ e
    by_cases hw : φ.Wi id ∨ N id
    · exact (Lv.of_eq (updH_hdr hw)).1 lv
    · have hn : ¬ N id := fun x => hw (.inr x)
      have hwi : ¬ φ.Wi id := fun x => hw (.inl x)
      have hwc : φ.Wc id k := hx.resolve_right hn
      have e1 : (updH g φ N h1).hdr id = h1.hdr id := by rw [updH_hdr' hw, ag1 id hwc.fi, p.ahdr id hn hwi]
      exact (Lv.of_eq e1).1 lv
  ahdr := fun id hn hw => updH_hdr' fun x => x.elim hw hn
  acel := fun id k hn hw => updH_cell' fun x => x.elim hw hn
  cfr := fun b hb hyp => by
    refine (p.cfr b hb fun id wi wr => hyp id wi ((Wr.of_eq (ag1 id wi.fi)).2 wr)).mono ?_
    rintro o ⟨id, k, wc, wr, e1, e2⟩
    exact ⟨id, k, wc, (Wr.of_eq (ag1 id wc.fi)).2 wr, e1, e2⟩
  fresh := fun id hn lv b hb => by
    rcases p.fresh id hn ((Lv.of_eq (updH_hdr (.inr hn))).1 lv) b hb with hx | ⟨k, wk, nk, wrk, dk, e⟩
    · exact .inl hx
    · exact .inr ⟨k, wk, nk, (Wr.of_eq (ag1 k wk.fi)).2 wrk, fun l => dk ((Lv.of_eq (updH_hdr (.inl wk))).1 l), e⟩
  freshF := fun id hn lv b hb => by
    rcases p.freshF id hn ((Lv.of_eq (updH_hdr (.inr hn))).1 lv) b hb with hx | ⟨k, wk, nk, wrk, dk, e⟩ | ⟨k, fk, nk, lk, e⟩
    · exact .inl hx
    · exact .inr (.inl ⟨k, wk, nk, (Wr.of_eq (ag1 k wk.fi)).2 wrk, fun l => dk ((Lv.of_eq (updH_hdr (.inl wk))).1 l), e⟩)
    · exact .inr (.inr ⟨k, fk, nk, (Lv.of_eq (ag1 k fk)).2 lk, e⟩)
  dist := fun i j hi hj li lj => p.dist i j hi hj ((Lv.of_eq (updH_hdr (.inr hi))).1 li) ((Lv.of_eq (updH_hdr (.inr hj))).1 lj)
  nl := nl
  wl := fun id k wc hn => (Lv.of_eq (ag1 id wc.fi)).2 (p.wl id k wc hn)
  wrm := fun id hn wr => by
    by_cases hw : φ.Wi id ∨ N id
    · have hwi := hw.resolve_right hn
      exact (Wr.of_eq (ag1 id hwi.fi)).2 (p.wrm id hn ((Wr.of_eq (updH_hdr hw)).1 wr))
    · exact (Wr.of_eq (updH_hdr' hw)).1 wr
  wrow := fun id k wc nw nn => by
    obtain ⟨l, e, ro, h⟩ := p.wrow id k wc nw nn
    exact ⟨l, e, ro, by rw [ag1 id wc.fi]; exact h⟩

theorem HOn.congr (ho : HOn P D ι h φ w) (ag1 : ∀ id, φ.Fi id → g.hdr id = h.hdr id) (ag2 : ∀ id k, φ.Fc id k → g.cell id k = h.cell id k) : HOn P D ι g φ w where
  hd := fun id x f e => ho.hd id x f (by rw [← ag1 id f]; exact e)
  ce := fun id k v f l e => ho.ce id k v f ((Lv.of_eq (ag1 id f.fi)).1 l) (by rw [← ag2 id k f]; exact e)
  inj := fun i j fi fj li lj => ho.inj i j fi fj ((Lv.of_eq (ag1 i fi)).1 li) ((Lv.of_eq (ag1 j fj)).1 lj)

/-- the same places, listed otherwise -/
theorem Post.same_foot {ψ : Foot} (p : Post P D N ι h w φ ι' h1 w') (e1 : ∀ id, ψ.Wi id ↔ φ.Wi id) (e2 : ∀ id k, ψ.Wc id k ↔ φ.Wc id k) (e3 : ∀ id, φ.Fi id → ψ.Fi id) : Post P D N ι h w ψ ι' h1 w' where
  io := p.io
  size := p.size
  os := p.os
  out := p.out
  hdr := fun id x hx => p.hdr id x (hx.imp_left (e1 id).1)
  cel := fun id k v hx => p.cel id k v (hx.imp_left (e2 id k).1)
  ahdr := fun id hn hw => p.ahdr id hn fun x => hw ((e1 id).2 x)
  acel := fun id k hn hw => p.acel id k hn fun x => hw ((e2 id k).2 x)
  cfr := fun b hb hyp => (p.cfr b hb fun id wi => hyp id ((e1 id).2 wi)).mono fun _ ⟨id, k, wc, r⟩ => ⟨id, k, (e2 id k).2 wc, r⟩
  fresh := fun id hn lv b hb => (p.fresh id hn lv b hb).imp_right fun ⟨k, wk, r⟩ => ⟨k, (e1 k).2 wk, r⟩
  freshF := fun id hn lv b hb => (p.freshF id hn lv b hb).imp_right fun x => x.imp (fun ⟨k, wk, r⟩ => ⟨k, (e1 k).2 wk, r⟩) fun ⟨k, fk, r⟩ => ⟨k, e3 k fk, r⟩
  dist := p.dist
  nl := p.nl
  wl := fun id k wc => p.wl id k ((e2 id k).1 wc)
  wrm := p.wrm
  wrow := fun id k wc nw => p.wrow id k ((e2 id k).1 wc) fun x => nw ((e1 id).2 x)

/-- abstract memories that hold the same -/
theorem Post.same_heap {h2 : H} (p : Post P D N ι h w φ ι' h1 w') (e1 : ∀ id, h2.hdr id = h1.hdr id) (e2 : ∀ id k, h2.cell id k = h1.cell id k) : Post P D N ι h w φ ι' h2 w' := by
  have : h2 = h1 := by
    cases h2; cases h1
    congr
    · funext id; exact e1 id
    · funext id k; exact e2 id k
  rw [this]; exact p
end

/-! ### what is touched of what was there -/
def Foot.trim (φ : Foot) (n : Nat) : Foot :=
  ⟨φ.rc.filter fun p => Nat.blt p.1 n, φ.rh.filter fun i => Nat.blt i n, φ.wc.filter fun p => Nat.blt p.1 n, φ.wh.filter fun i => Nat.blt i n⟩
theorem blt_iff {a b : Nat} : Nat.blt a b = true ↔ a < b := by simp
theorem trim_Wi {φ : Foot} {n id : Nat} : (φ.trim n).Wi id ↔ φ.Wi id ∧ id < n := by simp [Foot.trim, Foot.Wi]
theorem trim_Wc {φ : Foot} {n id k : Nat} : (φ.trim n).Wc id k ↔ φ.Wc id k ∧ id < n := by
  simp only [Foot.trim, Foot.Wc, List.mem_filter, blt_iff]
  constructor
  · rintro (⟨h, h'⟩ | ⟨h, h'⟩)
    · exact ⟨.inl h, h'⟩
    · exact ⟨.inr h, h'⟩
  · rintro ⟨h | h, h'⟩
    · exact .inl ⟨h, h'⟩
    · exact .inr ⟨h, h'⟩
theorem trim_Fc {φ : Foot} {n id k : Nat} : (φ.trim n).Fc id k ↔ φ.Fc id k ∧ id < n := by
  simp only [Foot.trim, Foot.Fc, List.mem_filter, blt_iff]
  constructor
  · rintro (⟨h, h'⟩ | ⟨h, h'⟩ | ⟨h, h'⟩ | ⟨h, h'⟩)
    · exact ⟨.inl h, h'⟩
    · exact ⟨.inr (.inl h), h'⟩
    · exact ⟨.inr (.inr (.inl h)), h'⟩
    · exact ⟨.inr (.inr (.inr h)), h'⟩
  · rintro ⟨h | h | h | h, h'⟩
    · exact .inl ⟨h, h'⟩
    · exact .inr (.inl ⟨h, h'⟩)
    · exact .inr (.inr (.inl ⟨h, h'⟩))
    · exact .inr (.inr (.inr ⟨h, h'⟩))
theorem trim_Fi {φ : Foot} {n id : Nat} : (φ.trim n).Fi id ↔ φ.Fi id ∧ id < n := by
  simp only [Foot.trim, Foot.Fi, List.mem_filter, blt_iff]
  constructor
  · rintro (⟨k, h, h'⟩ | ⟨h, h'⟩ | ⟨k, h, h'⟩ | ⟨h, h'⟩)
    · exact ⟨.inl ⟨k, h⟩, h'⟩
    · exact ⟨.inr (.inl h), h'⟩
    · exact ⟨.inr (.inr (.inl ⟨k, h⟩)), h'⟩
    · exact ⟨.inr (.inr (.inr h)), h'⟩
  · rintro ⟨⟨k, h⟩ | h | ⟨k, h⟩ | h, h'⟩
    · exact .inl ⟨k, h, h'⟩
    · exact .inr (.inl ⟨h, h'⟩)
    · exact .inr (.inr (.inl ⟨k, h, h'⟩))
    · exact .inr (.inr (.inr ⟨h, h'⟩))

section
variable {P : Program} {D N : Nat → Prop} {ι ι' : Nat → Reg} {h h1 : H} {w w' : World} {φ : Foot} {n : Nat}
theorem lt_of_lv (hn : ∀ id, n ≤ id → h.hdr id = none) {id : Nat} (l : Lv h id) : id < n := by
  rcases Nat.lt_or_ge id n with hl | hg
  · exact hl
  · obtain ⟨x, e⟩ := l
    rw [hn id hg] at e; cases e
theorem HOn.untrim (hn : ∀ id, n ≤ id → h.hdr id = none) (ho : HOn P D ι h (φ.trim n) w) : HOn P D ι h φ w where
  hd := fun id x f e => ho.hd id x (trim_Fi.2 ⟨f, lt_of_lv hn ⟨x, e⟩⟩) e
  ce := fun id k v f l e => ho.ce id k v (trim_Fc.2 ⟨f, lt_of_lv hn l⟩) l e
  inj := fun i j fi fj li lj => ho.inj i j (trim_Fi.2 ⟨fi, lt_of_lv hn li⟩) (trim_Fi.2 ⟨fj, lt_of_lv hn lj⟩) li lj
theorem Post.trim (hn : ∀ id, n ≤ id → h.hdr id = none) (p : Post P D N ι h w φ ι' h1 w') : Post P D N ι h w (φ.trim n) ι' h1 w' := by
  have hlt : ∀ id k, φ.Wc id k → ¬ N id → id < n := fun id k wc nn => lt_of_lv hn (p.wl id k wc nn)
  exact {
    io := p.io
    size := p.size
    os := p.os
    out := p.out
    hdr := fun id x hx => p.hdr id x (hx.imp_left fun y => (trim_Wi.1 y).1)
    cel := fun id k v hx => p.cel id k v (hx.imp_left fun y => (trim_Wc.1 y).1)
    ahdr := fun id nn hw => p.ahdr id nn fun x => hw (trim_Wi.2 ⟨x, hlt id 0 (x.wc 0) nn⟩)
    acel := fun id k nn hw => p.acel id k nn fun x => hw (trim_Wc.2 ⟨x, hlt id k x nn⟩)
    cfr := fun b hb hyp => (p.cfr b hb fun id wi wr => hyp id (trim_Wi.2 ⟨wi, lt_of_lv hn wr.lv⟩) wr).mono fun _ ⟨id, k, wc, wr, r⟩ => ⟨id, k, trim_Wc.2 ⟨wc, lt_of_lv hn wr.lv⟩, wr, r⟩
    fresh := fun id hx lv b hb => (p.fresh id hx lv b hb).imp_right fun ⟨k, wk, nk, wr, r⟩ => ⟨k, trim_Wi.2 ⟨wk, lt_of_lv hn wr.lv⟩, nk, wr, r⟩
    freshF := fun id hx lv b hb => (p.freshF id hx lv b hb).imp_right fun x => x.imp (fun ⟨k, wk, nk, wr, r⟩ => ⟨k, trim_Wi.2 ⟨wk, lt_of_lv hn wr.lv⟩, nk, wr, r⟩) fun ⟨k, fk, nk, lk, r⟩ => ⟨k, trim_Fi.2 ⟨fk, lt_of_lv hn lk⟩, nk, lk, r⟩
    dist := p.dist
    nl := p.nl
    wl := fun id k wc => p.wl id k (trim_Wc.1 wc).1
    wrm := p.wrm
    wrow := fun id k wc nw => p.wrow id k (trim_Wc.1 wc).1 fun x => nw (trim_Wi.2 ⟨x, (trim_Wc.1 wc).2⟩) }
theorem AFr.trim {σ σ' : St} (hw : σ.wf) (hw' : σ'.wf) (a : AFr σ σ' φ) : AFr σ σ' (φ.trim σ.next) := by
  have none1 : ∀ id, σ.next ≤ id → ¬ σ.rng σ' id → σ'.heap.get id = none ∧ σ.heap.get id = none := fun id hi hr => by
    refine ⟨hw' id ?_, hw id hi⟩
    simp only [St.rng] at hr; omega
  refine ⟨fun id hr hx => ?_, fun id k hr hx => ?_, a.ok⟩
  · by_cases hi : id < σ.next
    · exact a.h id hr fun y => hx (trim_Wi.2 ⟨y, hi⟩)
    · obtain ⟨e1, e2⟩ := none1 id (by omega) hr
      simp only [St.H, e1, e2]
  · by_cases hi : id < σ.next
    · exact a.c id k hr fun y => hx (trim_Wc.2 ⟨y, hi⟩)
    · obtain ⟨e1, e2⟩ := none1 id (by omega) hr
      simp only [St.H, e1, e2]
end



/-! ### the abstract run, and which steps have nothing in common -/
/-- a step: what it touches of what was there, which numbers it takes -/
structure Rec where
  φ : Foot
  lo : Nat
  hi : Nat
/-- the steps of a region -/
def evSteps (P : Program) (E : Env) (call : CallF) (nt : Nat) (all : List Oper) : List Oper → Tr Value → St → Option (Tr Value × St × List Rec)
  | [], s, σ => some (s, σ, [])
  | o :: os, s, σ => match aStep P E call nt all o s σ with
    | some (s1, σ1, φ1) => match evSteps P E call nt all os s1 σ1 with
      | some (s2, σ2, φs) => some (s2, σ2, ⟨φ1.trim σ.next, σ.next, σ1.next⟩ :: φs)
      | none => none
    | none => none

def memN : Nat → List Nat → Bool
  | _, [] => false
  | n, x :: xs => bif Nat.beq n x then true else memN n xs
def memP : Nat → Nat → List (Nat × Nat) → Bool
  | _, _, [] => false
  | i, k, (j, l) :: xs => bif Nat.beq i j && Nat.beq k l then true else memP i k xs
def memF : Nat → List (Nat × Nat) → Bool
  | _, [] => false
  | i, (j, _) :: xs => bif Nat.beq i j then true else memF i xs
theorem memN_spec {n : Nat} : ∀ {l : List Nat}, n ∈ l → memN n l = true
  | x :: xs, h => by
    simp only [memN]
    cases hb : Nat.beq n x
    · rcases List.mem_cons.1 h with e | e
      · subst e; rw [beq_t rfl] at hb; cases hb
      · exact memN_spec e
    · rfl
theorem memP_spec {i k : Nat} : ∀ {l : List (Nat × Nat)}, (i, k) ∈ l → memP i k l = true
  | (j, m) :: xs, h => by
    simp only [memP]
    cases hb : (Nat.beq i j && Nat.beq k m)
    · rcases List.mem_cons.1 h with e | e
      · cases e; simp at hb
      · exact memP_spec e
    · rfl
theorem memF_spec {i k : Nat} : ∀ {l : List (Nat × Nat)}, (i, k) ∈ l → memF i l = true
  | (j, m) :: xs, h => by
    simp only [memF]
    cases hb : Nat.beq i j
    · rcases List.mem_cons.1 h with e | e
      · cases e; rw [beq_t rfl] at hb; cases hb
      · exact memF_spec e
    · rfl

/-- nothing that a writes is touched by b -/
def freeOf (a b : Foot) : Bool :=
  a.wc.all (fun p => !(memP p.1 p.2 b.rc || memN p.1 b.rh || memP p.1 p.2 b.wc || memN p.1 b.wh)) &&
  a.wh.all (fun i => !(memF i b.rc || memN i b.rh || memF i b.wc || memN i b.wh))
theorem freeOf_spec {a b : Foot} (h : freeOf a b = true) : (∀ id k, a.Wc id k → ¬ b.Fc id k) ∧ ∀ id, a.Wi id → ¬ b.Fi id := by
  simp only [freeOf, Bool.and_eq_true, List.all_eq_true, Bool.not_eq_true', Bool.or_eq_false_iff] at h
  obtain ⟨h1, h2⟩ := h
  have hwi : ∀ id, a.Wi id → ¬ b.Fi id := by
    intro id hw hf
    obtain ⟨⟨⟨g1, g2⟩, g3⟩, g4⟩ := h2 id hw
    rcases hf with ⟨k, hf⟩ | hf | ⟨k, hf⟩ | hf
    · rw [memF_spec hf] at g1; cases g1
    · rw [memN_spec hf] at g2; cases g2
    · rw [memF_spec hf] at g3; cases g3
    · rw [memN_spec hf] at g4; cases g4
  refine ⟨fun id k hw hf => ?_, hwi⟩
  rcases hw with hw | hw
  · obtain ⟨⟨⟨g1, g2⟩, g3⟩, g4⟩ := h1 (id, k) hw
    rcases hf with hf | hf | hf | hf
    · rw [memP_spec hf] at g1; cases g1
    · rw [memN_spec hf] at g2; cases g2
    · rw [memP_spec hf] at g3; cases g3
    · rw [memN_spec hf] at g4; cases g4
  · exact hwi id hw hf.fi

/-- none of the numbers from lo to hi is touched -/
def farOf (lo hi : Nat) (b : Foot) : Bool :=
  b.rc.all (fun p => !(Nat.ble lo p.1 && Nat.blt p.1 hi)) && b.rh.all (fun i => !(Nat.ble lo i && Nat.blt i hi)) && b.wc.all (fun p => !(Nat.ble lo p.1 && Nat.blt p.1 hi)) && b.wh.all (fun i => !(Nat.ble lo i && Nat.blt i hi))
theorem farOf_spec {lo hi : Nat} {b : Foot} (h : farOf lo hi b = true) : ∀ id, lo ≤ id → id < hi → ¬ b.Fi id := by
  simp only [farOf, Bool.and_eq_true, List.all_eq_true, Bool.not_eq_true'] at h
  obtain ⟨⟨⟨h1, h2⟩, h3⟩, h4⟩ := h
  intro id a1 a2 hf
  have key : (Nat.ble lo id && Nat.blt id hi) = true := by
    rw [Bool.and_eq_true]
    exact ⟨Nat.ble_eq_true_of_le a1, blt_iff.2 a2⟩
  rcases hf with ⟨k, hf⟩ | hf | ⟨k, hf⟩ | hf
  · have := h1 _ hf; rw [key] at this; cases this
  · have := h2 _ hf; rw [key] at this; cases this
  · have := h3 _ hf; rw [key] at this; cases this
  · have := h4 _ hf; rw [key] at this; cases this

/-- two steps in either order; x comes ahead of y in the text -/
def okPair (ops : Array Oper) (x y : Oper) (a b : Rec) : Bool := x.apart ops y && freeOf a.φ b.φ && freeOf b.φ a.φ && farOf a.lo a.hi b.φ

/-- which steps must be ahead of one, by bits -/
def maskOf (acc : List Nat) : List Edge → Nat
  | [] => 0
  | e :: es => bif Region.binds .any e then Nat.lor (Nat.lor (Nat.shiftLeft 1 e.on) (acc.getD e.on 0)) (maskOf acc es) else maskOf acc es
/-- every step against those ahead of it -/
def okOne (ops : Array Oper) (y : Oper) (b : Rec) (mask : Nat) : Nat → List Oper → List Rec → Bool
  | _, [], _ => true
  | _, _, [] => true
  | i, x :: xs, a :: as => (Nat.testBit mask i || okPair ops x y a b) && okOne ops y b mask (i + 1) xs as
def okAll (ops : Array Oper) (all : List Oper) (recs : List Rec) : List Nat → List Oper → List Rec → Bool
  | _, [], _ => true
  | _, _ :: _, [] => false
  | acc, y :: ys, b :: bs =>
    y.after.toList.all (fun e => !(Region.binds .any e) || Nat.blt e.on acc.length) &&
    okOne ops y b (maskOf acc y.after.toList) 0 (all.take acc.length) recs && okAll ops all recs (acc ++ [maskOf acc y.after.toList]) ys bs
end Go.Eng

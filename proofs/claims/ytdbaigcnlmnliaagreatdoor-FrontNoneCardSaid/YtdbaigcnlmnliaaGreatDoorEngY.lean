/-
  The engine, part Y: a call on plain arguments, run out: what it gives in every world that holds the listed package-level variables. No condition.
-/
import Derived.Test.YtdbaigcnlmnliaaGreatDoorEngZ
noncomputable section
namespace Go.Eng
open Go

def glHeap : List (Nat × List Value) → Tr AO
  | [] => .lf
  | p :: ps => (glHeap ps).set p.1 (some (.row p.2 0 true))
theorem glHeap_get : ∀ {gl : List (Nat × List Value)} {id : Nat} {o : AO}, (glHeap gl).get id = some o → ∃ p, p ∈ gl ∧ p.1 = id ∧ o = .row p.2 0 true
  | [], _, _, h => by rw [glHeap, Tr.get_lf] at h; cases h
  | p :: ps, id, o, h => by
    rw [glHeap, Tr.set_get] at h
    by_cases e : id = p.1
    · rw [if_pos e] at h
      cases h
      exact ⟨p, by simp, e.symm, rfl⟩
    · rw [if_neg e] at h
      obtain ⟨q, h1, h2, h3⟩ := glHeap_get h
      exact ⟨q, by simp [h1], h2, h3⟩
def glSt (E : Env) : St := ⟨glHeap E.gl, E.G, [], []⟩

/-- where the variables lie -/
def glReg (w : World) (id : Nat) : Reg := rg id 0 (match w.heap[id]? with | some (.cells c _ _) => c.size | _ => 0) 0

theorem gl_row {w : World} {p : Nat × List Value} (h : ∀ (i : Nat) c, p.2[i]? = some c → ∃ u, w.cell? ⟨p.1, i, none⟩ = some u ∧ glR c u) (h0 : p.2 ≠ []) : ∃ c e fr, w.heap[p.1]? = some (.cells c e fr) ∧ p.2.length ≤ c.size := by
  obtain ⟨v, hv⟩ : ∃ v, p.2[p.2.length - 1]? = some v := by
    have : p.2.length - 1 < p.2.length := by
      have := List.length_pos_iff.2 h0
      omega
    exact ⟨_, List.getElem?_eq_getElem this⟩
  obtain ⟨u, hc, -⟩ := h _ v hv
  simp only [World.cell?] at hc
  split at hc
  · rename_i c e fr hh
    refine ⟨c, e, fr, hh, ?_⟩
    simp only [Option.isSome_none, Bool.false_eq_true, if_false] at hc
    rcases Nat.lt_or_ge (p.2.length - 1) c.size with h | h
    · omega
    · rw [Array.getElem?_eq_none h] at hc; cases hc
  · cases hc

theorem run_of {P : Program} {E : Env} (hE : E.OK P) (hne : ∀ p, p ∈ E.gl → p.2 ≠ []) {n : Nat} {f : FuncId} {args : List Value} {v : Value} {σ' : St} {φ : Foot} (hr : kRun P E n f args (glSt E) = some (v, σ', φ)) (hok : σ'.Ok) (hv : plainN 8 v = true) (ha : args.all (plainN 8) = true)
    (w : World) (hw : GlW E.gl w) : Calls P f args.toArray w fun e w' => e = .returned v ∧ Same w w' := by
  rw [kRun_eq] at hr
  obtain ⟨-, -, h3⟩ := (evCall_sound hE n).ok _ _ _ _ _ _ hr
  have hwf : (glSt E).wf := by
    intro id hid
    cases hg : (glHeap E.gl).get id with
    | none => exact hg
    | some o =>
      obtain ⟨p, h1, h2, _⟩ := glHeap_get hg
      have := (hE.gl p h1).1
      have hid : E.G ≤ id := hid
      omega
  have hro : ∀ id x, (glSt E).H.hdr id = some x → ∃ p, p ∈ E.gl ∧ p.1 = id ∧ (glSt E).heap.get id = some (.row p.2 0 true) ∧ x = .row p.2.length 0 true := by
    intro id x hx
    cases hg : (glHeap E.gl).get id with
    | none =>
      have : (glSt E).H.hdr id = none := by simp [St.H, glSt, hg]
      rw [this] at hx; cases hx
    | some o =>
      obtain ⟨p, h1, h2, rfl⟩ := glHeap_get hg
      have : (glSt E).H.hdr id = some (.row p.2.length 0 true) := St.hdr_of (σ := glSt E) hg
      rw [this] at hx; cases hx
      exact ⟨p, h1, h2, hg, rfl⟩
  have hnw : ∀ id, ¬ Wr (glSt E).H id := by
    rintro id ⟨x, hx, hxw⟩
    obtain ⟨p, _, _, _, rfl⟩ := hro id x hx
    cases hxw
  have key := h3 hok (fun id => id < E.G) (glReg w) w args.toArray hwf (fun g hg => ⟨hg, rfl, rfl⟩) (fun id hid h => by simp only [St.rng, glSt] at hid; omega)
    ⟨rfl, fun i a b h1 h2 => by
      rw [h1] at h2
      cases h2
      exact plain_refl 8 a (List.all_eq_true.1 ha a (List.mem_of_getElem? (by simpa using h1)))⟩
    ⟨fun id x _ hx => by
      obtain ⟨p, h1, rfl, h2, rfl⟩ := hro id x hx
      obtain ⟨c, e, fr, g1, g2⟩ := gl_row (hw p h1) (hne p h1)
      refine ⟨c, e, fr, g1, ?_, ?_, ⟨rfl, rg_fz _ _ _ _⟩, fun h => by cases h⟩
      · simp [glReg, g1]
      · simpa [glReg, g1] using g2,
    fun id k u _ hl hu => by
      obtain ⟨x, hx⟩ := hl
      obtain ⟨p, h1, rfl, h2, rfl⟩ := hro id x hx
      rw [St.cell_of h2] at hu
      obtain ⟨u', g1, g2⟩ := hw p h1 k u hu
      refine ⟨rfl, u', ?_, g2.vr⟩
      simpa [glReg] using g1,
    fun i j _ _ _ _ hij b hi => ⟨fun hj => hij (hi.2.trans hj.2.symm), rg_fz _ _ _ _ b⟩⟩
  refine key.mono fun e w' ⟨v', ι', he, hvr, hp⟩ => ?_
  refine ⟨by rw [he, plain_eq 8 v v' hv hvr], hp.size, hp.os, hp.out, fun b hb => ?_⟩
  exact (hp.cfr b hb fun id _ hid => absurd hid (hnw id)).eq fun k ⟨id, _, _, hid, _⟩ => hnw id hid

/-- a law that is run out: it gives true -/
def kTrue (P : Program) (E : Env) (n : Nat) (f : FuncId) (args : List Value) : Bool :=
  match kRun P E n f args (glSt E) with
  | some (.bool true, σ', _) => match σ'.pc with
    | [] => true
    | _ => false
  | _ => false
theorem true_of {P : Program} {E : Env} (hE : E.OK P) (hne : ∀ p, p ∈ E.gl → p.2 ≠ []) {n : Nat} {f : FuncId} {args : List Value} (hr : kTrue P E n f args = true) (ha : args.all (plainN 8) = true)
    (w : World) (hw : GlW E.gl w) : Calls P f args.toArray w fun e w' => e = .returned (.bool true) ∧ Same w w' := by
  unfold kTrue at hr
  split at hr
  · rename_i σ' φ h
    split at hr
    · rename_i hpc
      exact run_of hE hne h (by unfold St.Ok; rw [hpc]; trivial) rfl ha w hw
    · cases hr
  · cases hr
end Go.Eng

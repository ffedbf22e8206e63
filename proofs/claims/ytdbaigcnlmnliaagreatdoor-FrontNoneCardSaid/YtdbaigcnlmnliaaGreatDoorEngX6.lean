/-
  The engine, part X6: calls by contract: arguments as data, results as data. No condition.
-/
import Derived.Test.YtdbaigcnlmnliaaGreatDoorEngX5
noncomputable section
namespace Go.Eng
open Go

/-- a function without bound variables -/
def isFn : Value → Option Nat
  | .func (.func g) a b => match a.toList, b.toList with
    | [], [] => some g
    | _, _ => none
  | _ => none
theorem isFn_spec {D : Nat → Prop} {ι : Nat → Reg} {v u : Value} {g : Nat} (h : isFn v = some g) (hv : VR D ι v u) : u = .func (.func g) #[] #[] := by
  unfold isFn at h
  split at h
  · rename_i g' a b
    split at h
    · rename_i ha hb
      cases h
      have ha : a = #[] := by cases a; simp_all
      have hb : b = #[] := by cases b; simp_all
      subst ha hb
      cases hv with
      | func _ _ bs _ ds hs hs' _ _ =>
        have : bs = #[] := Array.eq_empty_of_size_eq_zero (by simpa using hs.symm)
        have : ds = #[] := Array.eq_empty_of_size_eq_zero (by simpa using hs'.symm)
        simp_all
    · cases h
  · cases h
/-- cells as data: the rest of them, whose slices are read, what is taken to hold -/
def cellsD (σ : St) : (t : Ty) → List Value → Option (t.Den × List Value × List Nat × List Prop)
  | .int k, v :: r => match unsy v with
    | some (.int k' n) => bif decide (k' = k) then some (n, r, [], []) else none
    | _ => none
  | .byte, v :: r => match unsy v with
    | some (.int .u8 n) => some (UInt8.ofNat n.toNat, r, [], [inK .u8 n])
    | _ => none
  | .bool, v :: r => match unsy v with
    | some (.bool b) => some (b, r, [], [])
    | _ => none
  | .str, v :: r => match unsy v with
    | some (.string s) => some (toL s, r, [], [])
    | _ => none
  | .unit, cs => some ((), cs, [], [])
  | .pair a b, cs => match cellsD σ a cs with
    | some (x, r, i, p) => match cellsD σ b r with
      | some (y, r', j, q) => some ((x, y), r', i ++ j, p ++ q)
      | none => none
    | none => none
  | .slice a, v :: r => match v with
    | .slice none 0 0 => some ([], r, [], [])
    | .slice (some ⟨_, _, some 0⟩) 0 _ => some ([], r, [], [])
    | .tuple arr => match arr.toList with
      | [.chan (some 2), .pointer (some ⟨id, 0, none⟩)] => match σ.heap.get id with
        | some (.dat t xs) => if h : t = a then some (h ▸ xs, r, [id], []) else none
        | _ => none
      | _ => none
    | _ => none
  | .err, v :: r => match uner v with
    | some b => some (b, r, [], [])
    | none => none
  | .fn f, v :: r => match isFn v with
    | some g => bif Nat.beq g f then some ((), r, [], []) else none
    | none => none
  | _, [] => none
def argsD (σ : St) : (ts : List Ty) → List Value → Option (DenL ts × List Nat × List Prop)
  | [], [] => some ((), [], [])
  | t :: ts, v :: vs => match (bif t.agg then (match v with | .agg cs => some cs.toList | _ => none) else some [v]) with
    | some cs => match cellsD σ t cs with
      | some (x, [], i, p) => match argsD σ ts vs with
        | some (y, j, q) => some ((x, y), i ++ j, p ++ q)
        | none => none
      | _ => none
    | none => none
  | _, _ => none
def dcsL : (rs : List Ty) → DenL rs → List DC
  | [], _ => []
  | r :: rs, y => dcs r y.1 ++ dcsL rs y.2
/-- values of cells -/
def grp : List Ty → List Value → List Value
  | [], _ => []
  | r :: rs, vs => (bif r.agg then .agg (vs.take r.sz).toArray else (match vs with | v :: _ => v | [] => undef)) :: grp rs (vs.drop r.sz)

inductive LR (D : Nat → Prop) (ι : Nat → Reg) : List Value → List Value → Prop where
  | nil : LR D ι [] []
  | cons {v u vs us} (h : VR D ι v u) (t : LR D ι vs us) : LR D ι (v :: vs) (u :: us)

section
variable {P : Program} {D : Nat → Prop} {ι : Nat → Reg} {σ σ' : St} {w : World} {φ : Foot}

theorem LR.of_AR : ∀ {vs : List Value} {us : List Value}, AR D ι vs.toArray us.toArray → LR D ι vs us
  | [], us, h => by
    have : us.length = 0 := by simpa using h.1.symm
    rw [List.length_eq_zero_iff.1 this]; exact .nil
  | v :: vs, [], h => by have := h.1; simp at this
  | v :: vs, u :: us, h => .cons (h.2 0 v u (by simp) (by simp)) (LR.of_AR ⟨by have := h.1; simp at this; simpa using this, fun i x y hx hy => h.2 (i + 1) x y (by simpa using hx) (by simpa using hy)⟩)
theorem LR.AR : ∀ {vs us : List Value}, LR D ι vs us → AR D ι vs.toArray us.toArray
  | _, _, .nil => ⟨rfl, by simp⟩
  | v :: vs, u :: us, .cons h t => by
    obtain ⟨h1, h2⟩ := LR.AR t
    refine ⟨by simpa using h1, fun i x y hx hy => ?_⟩
    rcases i with _ | i
    · simp at hx hy; subst hx hy; exact h
    · exact h2 i x y (by simpa using hx) (by simpa using hy)

open Classical in
/-- the blocks that are read, and what they hold -/
def fzU (ι : Nat → Reg) (ids : List Nat) (w : World) : Nat → Option (Array Value) := fun b =>
  if ∃ id, id ∈ ids ∧ (ι id).Fz b then (match w.heap[b]? with | some (.cells c _ _) => some c | _ => none) else none
theorem fzU_of {ids : List Nat} {id : Nat} (hm : id ∈ ids) (hz : FzOK (ι id).fz w) (b : Nat) (c : Array Value) (h : (ι id).fz b = some c) : fzU ι ids w b = some c := by
  unfold fzU
  rw [if_pos ⟨id, hm, c, h⟩]
  obtain ⟨e, fr, he⟩ := hz b c h
  rw [he]
theorem fzU_ok (ids : List Nat) : FzOK (fzU ι ids w) w := by
  intro b c h
  unfold fzU at h
  split at h
  · split at h
    · rename_i c' e fr hh
      cases h; exact ⟨e, fr, hh⟩
    · cases h
  · cases h
theorem fzU_in {ids : List Nat} {b : Nat} {c : Array Value} (h : fzU ι ids w b = some c) : ∃ id, id ∈ ids ∧ (ι id).Fz b := by
  unfold fzU at h
  split at h
  · assumption
  · cases h

theorem AllP_append {p q : List Prop} (h : AllP (p ++ q)) : AllP p ∧ AllP q := by
  induction p with
  | nil => exact ⟨trivial, h⟩
  | cons a p ih => exact ⟨⟨h.1, (ih h.2).1⟩, (ih h.2).2⟩

theorem u8_back {n : Int} (h : inK .u8 n) : n = ((UInt8.ofNat n.toNat).toNat : Int) := by
  have h1 : 0 ≤ n := h.1
  have h2 : n ≤ 2 ^ 8 - 1 := h.2
  rw [UInt8.toNat_ofNat']
  omega

/-- cells as data read so in memory -/
theorem cellsD_rd {ids : List Nat} (hI : ∀ id, id ∈ ids → ∀ x, σ.H.hdr id = some x → HdrOK P ι id w x) : ∀ (t : Ty) (cs us : List Value) (x : t.Den) (r : List Value) (i : List Nat) (p : List Prop), cellsD σ t cs = some (x, r, i, p) → (∀ id, id ∈ i → id ∈ ids) → AllP p → LR D ι cs us →
    ∃ u1 u2, us = u1 ++ u2 ∧ RdC (fzU ι ids w) t x u1 ∧ LR D ι r u2 := by
  intro t
  induction t with
  | int k =>
    intro cs us x r i p h _ _ hl
    cases hl with
    | nil => simp [cellsD] at h
    | cons hv ht =>
      simp only [cellsD] at h
      split at h
      · rename_i k' n hu
        cases hk : decide (k' = k)
        · rw [hk] at h; cases h
        · rw [hk] at h
          cases h
          have := of_decide_eq_true hk
          subst this
          exact ⟨[_], _, rfl, by rw [(unsy_spec hu hv).1]; rfl, ht⟩
      · cases h
  | byte =>
    intro cs us x r i p h _ hp hl
    cases hl with
    | nil => simp [cellsD] at h
    | cons hv ht =>
      simp only [cellsD] at h
      split at h
      · rename_i n hu
        cases h
        refine ⟨[_], _, rfl, ?_, ht⟩
        rw [(unsy_spec hu hv).1]
        simp only [RdC]
        rw [← u8_back hp.1]
      · cases h
  | bool =>
    intro cs us x r i p h _ _ hl
    cases hl with
    | nil => simp [cellsD] at h
    | cons hv ht =>
      simp only [cellsD] at h
      split at h
      · rename_i b hu
        cases h
        exact ⟨[_], _, rfl, by rw [(unsy_spec hu hv).1]; rfl, ht⟩
      · cases h
  | str =>
    intro cs us x r i p h _ _ hl
    cases hl with
    | nil => simp [cellsD] at h
    | cons hv ht =>
      simp only [cellsD] at h
      split at h
      · rename_i b hu
        cases h
        exact ⟨[_], _, rfl, by rw [(unsy_spec hu hv).1]; simp only [RdC, bs_toL], ht⟩
      · cases h
  | unit =>
    intro cs us x r i p h _ _ hl
    simp only [cellsD, Option.some.injEq, Prod.mk.injEq] at h
    obtain ⟨-, rfl, -⟩ := h
    exact ⟨[], us, rfl, rfl, hl⟩
  | err =>
    intro cs us x r i p h _ _ hl
    cases hl with
    | nil => simp [cellsD] at h
    | cons hv ht =>
      simp only [cellsD] at h
      split at h
      · rename_i b hu
        cases h
        exact ⟨[_], _, rfl, ⟨_, rfl, uner_spec hu hv⟩, ht⟩
      · cases h
  | fn f =>
    intro cs us x r i p h _ _ hl
    cases hl with
    | nil => simp [cellsD] at h
    | cons hv ht =>
      simp only [cellsD] at h
      split at h
      · rename_i g hu
        cases hb : Nat.beq g f
        · rw [hb] at h; cases h
        · rw [hb] at h
          cases h
          have := Nat.eq_of_beq_eq_true hb
          subst this
          exact ⟨[_], _, rfl, by rw [isFn_spec hu hv]; rfl, ht⟩
      · cases h
  | pair a b iha ihb =>
    intro cs us x r i p h hi hp hl
    simp only [cellsD] at h
    split at h
    · rename_i x1 r1 i1 p1 h1
      split at h
      · rename_i x2 r2 i2 p2 h2
        cases h
        obtain ⟨q1, q2⟩ := AllP_append hp
        obtain ⟨u1, u2, rfl, g1, g2⟩ := iha cs us x1 r1 i1 p1 h1 (fun id hid => hi id (by simp [hid])) q1 hl
        obtain ⟨v1, v2, rfl, g3, g4⟩ := ihb r1 u2 x2 r i2 p2 h2 (fun id hid => hi id (by simp [hid])) q2 g2
        exact ⟨u1 ++ v1, v2, by simp, ⟨u1, v1, rfl, g1, g3⟩, g4⟩
      · cases h
    · cases h
  | slice a ih =>
    intro cs us x r i p h hi _ hl
    cases hl with
    | nil => simp [cellsD] at h
    | cons hv ht =>
      simp only [cellsD] at h
      split at h
      · cases h
        cases hv
        exact ⟨[_], _, rfl, ⟨_, rfl, .inl ⟨⟨_, _, rfl⟩, rfl⟩⟩, ht⟩
      · cases h
        cases hv
        exact ⟨[_], _, rfl, ⟨_, rfl, .inl ⟨⟨_, _, rfl⟩, rfl⟩⟩, ht⟩
      · rename_i arr
        split at h
        · rename_i id ha
          rw [tuple_eq ha] at hv
          obtain ⟨a', l, c, rfl, hD, hsv⟩ := dt_inv hv
          split at h
          · rename_i t xs hg
            split at h
            · rename_i he
              subst he
              cases h
              have hm := hi id (by simp)
              obtain ⟨g1, -, -, g4⟩ := hI id hm _ (St.hdr_of hg)
              rw [hsv] at g1
              exact ⟨[_], _, rfl, ⟨_, rfl, (g1.mono fun b c h => fzU_of hm g4 b c h)⟩, ht⟩
            · cases h
          · cases h
        · cases h
      · cases h

theorem argsD_rd {ids : List Nat} (hI : ∀ id, id ∈ ids → ∀ x, σ.H.hdr id = some x → HdrOK P ι id w x) : ∀ (ts : List Ty) (vs us : List Value) (x : DenL ts) (i : List Nat) (p : List Prop), argsD σ ts vs = some (x, i, p) → (∀ id, id ∈ i → id ∈ ids) → AllP p → LR D ι vs us → RdAll (fzU ι ids w) ts x us
  | [], vs, us, x, i, p, h, _, _, hl => by
    cases hl with
    | nil => rfl
    | cons _ _ => simp [argsD] at h
  | t :: ts, vs, us, x, i, p, h, hi, hp, hl => by
    cases hl with
    | nil => simp [argsD] at h
    | cons hv ht =>
      rename_i v u vs us
      simp only [argsD] at h
      split at h
      · rename_i cs hcs
        split at h
        · rename_i x1 i1 p1 h1
          split at h
          · rename_i y j q h2
            cases h
            obtain ⟨q1, q2⟩ := AllP_append hp
            refine ⟨u, us, rfl, ?_, argsD_rd hI ts vs us y j q h2 (fun id hid => hi id (by simp [hid])) q2 ht⟩
            cases hagg : t.agg
            · rw [hagg] at hcs
              cases hcs
              obtain ⟨u1, u2, e1, g1, g2⟩ := cellsD_rd hI t [v] [u] x1 [] i1 p1 h1 (fun id hid => hi id (by simp [hid])) q1 (.cons hv .nil)
              cases g2
              rw [List.append_nil] at e1
              rw [← e1] at g1
              exact .inr ⟨hagg, g1⟩
            · rw [hagg, cond_true] at hcs
              split at hcs
              · rename_i as
                cases hcs
                cases hv with
                | agg _ bs hs hh =>
                  obtain ⟨u1, u2, e1, g1, g2⟩ := cellsD_rd hI t as.toList bs.toList x1 [] i1 p1 h1 (fun id hid => hi id (by simp [hid])) q1 (LR.of_AR ⟨by simpa using hs, by simpa using hh⟩)
                  cases g2
                  rw [List.append_nil] at e1
                  rw [← e1] at g1
                  exact .inl ⟨hagg, bs, rfl, g1⟩
              · cases hcs
          · cases h
        · cases h
      · cases h

/-- results as data -/
theorem res_rd {fz : Nat → Option (Array Value)} : ∀ (rs : List Ty) (y : DenL rs) (ws : List Value), RdAll fz rs y ws → ∃ us : List Value, (dcsL rs y).length = us.length ∧ (∀ (k : Nat) d u, (dcsL rs y)[k]? = some d → us[k]? = some u → DCR fz d u) ∧
    ∀ (vs : List Value) (D : Nat → Prop) (ι : Nat → Reg), vs.length = us.length → (∀ (k : Nat) v u, vs[k]? = some v → us[k]? = some u → VR D ι v u) → LR D ι (grp rs vs) ws
  | [], y, ws, h => by
    simp only [RdAll] at h
    subst h
    exact ⟨[], rfl, fun k d u h => by simp [dcsL] at h, fun vs D ι _ _ => .nil⟩
  | r :: rs, y, ws, h => by
    obtain ⟨v, rest, rfl, h1, h2⟩ := h
    obtain ⟨us2, a1, a2, a3⟩ := res_rd rs y.2 rest h2
    obtain ⟨us1, hus, hrd⟩ : ∃ us1 : List Value, ((r.agg = true ∧ v = .agg ⟨us1⟩) ∨ (r.agg = false ∧ us1 = [v])) ∧ RdC fz r y.1 us1 := by
      rcases h1 with ⟨e, cs, rfl, g⟩ | ⟨e, g⟩
      · exact ⟨cs.toList, .inl ⟨e, rfl⟩, g⟩
      · exact ⟨[v], .inr ⟨e, rfl⟩, g⟩
    obtain ⟨d1, d2, d3⟩ := dcs_rd r y.1 us1 hrd
    refine ⟨us1 ++ us2, by simp [dcsL, d1, d2, a1], fun k d u hd hu => ?_, fun vs D ι hl hv => ?_⟩
    · simp only [dcsL] at hd
      by_cases hk : k < r.sz
      · rw [List.getElem?_append_left (by omega)] at hd hu
        exact d3 k d u hd hu
      · rw [List.getElem?_append_right (by omega)] at hd hu
        rw [d2] at hd; rw [d1] at hu
        exact a2 _ d u hd hu
    · simp only [List.length_append, d1] at hl
      refine .cons ?_ (a3 _ D ι (by rw [List.length_drop]; omega) fun k v u hv' hu => ?_)
      · rcases hus with ⟨e, rfl⟩ | ⟨e, rfl⟩
        · rw [e, cond_true]
          refine .agg _ _ ?_ fun i a b ha hb => ?_
          · simp only [List.size_toArray, List.length_take]
            show min r.sz vs.length = us1.length
            omega
          · simp only [List.getElem?_toArray, List.getElem?_take] at ha
            split at ha
            · rename_i hi
              refine hv i a b ha ?_
              rw [List.getElem?_append_left (by omega)]
              simpa using hb
            · cases ha
        · rw [e, cond_false]
          have hsz : r.sz = 1 := by rw [← d1]; rfl
          cases vs with
          | nil => simp only [List.length_nil] at hl; omega
          | cons a vs => exact hv 0 a v rfl rfl
      · rw [List.getElem?_drop] at hv'
        refine hv _ v u hv' ?_
        rw [List.getElem?_append_right (by omega), d1]
        rw [Nat.add_sub_cancel_left]; exact hu
end
end Go.Eng

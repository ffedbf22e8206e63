/-
  The engine, part A: finite maps, the relation between abstract and concrete values and memory, what an abstract step promises, and that two such steps in a row are one. No condition.
-/
import Derived.Orders
import Derived.KernelRfl
noncomputable section
namespace Go.Eng
open Go

/-! ## finite maps -/
inductive Tr (α : Type) where
  | lf : Tr α
  | nd : Option α → Tr α → Tr α → Tr α

/-- by the recursors: the kernel runs it -/
def Tr.get {α : Type} (t : Tr α) : Nat → Option α :=
  Tr.rec (motive := fun _ => Nat → Option α) (fun _ => none) (fun v _ _ gl gr k => Nat.rec v (fun m _ => Nat.rec (gl (Nat.div m 2)) (fun _ _ => gr (Nat.div m 2)) (Nat.mod m 2)) k) t
def Tr.single {α : Type} (x : Option α) : Nat → Nat → Tr α :=
  fun n => Nat.rec (motive := fun _ => Nat → Tr α) (fun _ => .lf) (fun _ ih k => Nat.rec (.nd x .lf .lf) (fun m _ => Nat.rec (.nd none (ih (Nat.div m 2)) .lf) (fun _ _ => .nd none .lf (ih (Nat.div m 2))) (Nat.mod m 2)) k) n
def Tr.set {α : Type} (t : Tr α) (k : Nat) (x : Option α) : Tr α :=
  Tr.rec (motive := fun _ => Nat → Tr α) (fun k => Tr.single x (Nat.succ k) k) (fun v l r pl pr k => Nat.rec (.nd x l r) (fun m _ => Nat.rec (.nd v (pl (Nat.div m 2)) r) (fun _ _ => .nd v l (pr (Nat.div m 2))) (Nat.mod m 2)) k) t k

theorem beq_t {a b : Nat} (h : a = b) : Nat.beq a b = true := by subst h; simp
theorem beq_f {a b : Nat} (h : a ≠ b) : Nat.beq a b = false := by
  cases hb : Nat.beq a b
  · rfl
  · exact absurd (Nat.eq_of_beq_eq_true hb) h

theorem Tr.get_lf {α : Type} (k : Nat) : (Tr.lf : Tr α).get k = none := rfl
theorem Tr.get_0 {α : Type} (v : Option α) (l r : Tr α) : (Tr.nd v l r).get 0 = v := rfl
theorem half (m : Nat) : (∃ q, m = 2 * q ∧ Nat.mod m 2 = 0 ∧ Nat.div m 2 = q) ∨ ∃ q, m = 2 * q + 1 ∧ Nat.mod m 2 = 1 ∧ Nat.div m 2 = q := by
  rcases Nat.mod_two_eq_zero_or_one m with h | h
  · exact .inl ⟨m / 2, by omega, h, rfl⟩
  · exact .inr ⟨m / 2, by omega, h, rfl⟩
theorem Tr.get_l {α : Type} (v : Option α) (l r : Tr α) (q : Nat) : (Tr.nd v l r).get (2 * q + 1) = l.get q := by
  show (Nat.rec (l.get (Nat.div (2 * q) 2)) (fun _ _ => r.get (Nat.div (2 * q) 2)) (Nat.mod (2 * q) 2) : Option α) = _
  rw [show Nat.mod (2 * q) 2 = 0 from Nat.mul_mod_right 2 q, show Nat.div (2 * q) 2 = q by show 2 * q / 2 = q; omega]
  rfl
theorem Tr.get_r {α : Type} (v : Option α) (l r : Tr α) (q : Nat) : (Tr.nd v l r).get (2 * q + 2) = r.get q := by
  show (Nat.rec (l.get (Nat.div (2 * q + 1) 2)) (fun _ _ => r.get (Nat.div (2 * q + 1) 2)) (Nat.mod (2 * q + 1) 2) : Option α) = _
  rw [show Nat.mod (2 * q + 1) 2 = 1 by show (2 * q + 1) % 2 = 1; omega, show Nat.div (2 * q + 1) 2 = q by show (2 * q + 1) / 2 = q; omega]
  rfl
theorem Tr.case (k : Nat) : k = 0 ∨ (∃ q, k = 2 * q + 1 ∧ q < k) ∨ ∃ q, k = 2 * q + 2 ∧ q < k := by
  rcases k with _ | m
  · exact .inl rfl
  · rcases half m with ⟨q, h, _⟩ | ⟨q, h, _⟩
    · exact .inr (.inl ⟨q, by omega, by omega⟩)
    · exact .inr (.inr ⟨q, by omega, by omega⟩)
theorem Tr.single_0 {α : Type} (x : Option α) (n : Nat) : Tr.single x (n + 1) 0 = .nd x .lf .lf := rfl
theorem Tr.single_l {α : Type} (x : Option α) (n q : Nat) : Tr.single x (n + 1) (2 * q + 1) = .nd none (Tr.single x n q) .lf := by
  show (Nat.rec (.nd none (Tr.single x n (Nat.div (2 * q) 2)) .lf) (fun _ _ => .nd none .lf (Tr.single x n (Nat.div (2 * q) 2))) (Nat.mod (2 * q) 2) : Tr α) = _
  rw [show Nat.mod (2 * q) 2 = 0 from Nat.mul_mod_right 2 q, show Nat.div (2 * q) 2 = q by show 2 * q / 2 = q; omega]
  rfl
theorem Tr.single_r {α : Type} (x : Option α) (n q : Nat) : Tr.single x (n + 1) (2 * q + 2) = .nd none .lf (Tr.single x n q) := by
  show (Nat.rec (.nd none (Tr.single x n (Nat.div (2 * q + 1) 2)) .lf) (fun _ _ => .nd none .lf (Tr.single x n (Nat.div (2 * q + 1) 2))) (Nat.mod (2 * q + 1) 2) : Tr α) = _
  rw [show Nat.mod (2 * q + 1) 2 = 1 by show (2 * q + 1) % 2 = 1; omega, show Nat.div (2 * q + 1) 2 = q by show (2 * q + 1) / 2 = q; omega]
  rfl
theorem Tr.single_get {α : Type} (x : Option α) : ∀ (n k j : Nat), k < n → (Tr.single x n k).get j = if j = k then x else none
  | 0, _, _, h => by omega
  | n + 1, k, j, h => by
    rcases Tr.case k with rfl | ⟨q, rfl, hq⟩ | ⟨q, rfl, hq⟩
    · rw [Tr.single_0]
      rcases Tr.case j with rfl | ⟨p, rfl, _⟩ | ⟨p, rfl, _⟩
      · rfl
      · rw [Tr.get_l, Tr.get_lf, if_neg (by omega)]
      · rw [Tr.get_r, Tr.get_lf, if_neg (by omega)]
    · rw [Tr.single_l]
      rcases Tr.case j with rfl | ⟨p, rfl, _⟩ | ⟨p, rfl, _⟩
      · rw [Tr.get_0, if_neg (by omega)]
      · rw [Tr.get_l, Tr.single_get x n q p (by omega)]
        by_cases e : p = q
        · rw [if_pos e, if_pos (by omega)]
        · rw [if_neg e, if_neg (by omega)]
      · rw [Tr.get_r, Tr.get_lf, if_neg (by omega)]
    · rw [Tr.single_r]
      rcases Tr.case j with rfl | ⟨p, rfl, _⟩ | ⟨p, rfl, _⟩
      · rw [Tr.get_0, if_neg (by omega)]
      · rw [Tr.get_l, Tr.get_lf, if_neg (by omega)]
      · rw [Tr.get_r, Tr.single_get x n q p (by omega)]
        by_cases e : p = q
        · rw [if_pos e, if_pos (by omega)]
        · rw [if_neg e, if_neg (by omega)]
theorem Tr.set_0 {α : Type} (v : Option α) (l r : Tr α) (x : Option α) : (Tr.nd v l r).set 0 x = .nd x l r := rfl
theorem Tr.set_l {α : Type} (v : Option α) (l r : Tr α) (x : Option α) (q : Nat) : (Tr.nd v l r).set (2 * q + 1) x = .nd v (l.set q x) r := by
  show (Nat.rec (.nd v (l.set (Nat.div (2 * q) 2) x) r) (fun _ _ => .nd v l (r.set (Nat.div (2 * q) 2) x)) (Nat.mod (2 * q) 2) : Tr α) = _
  rw [show Nat.mod (2 * q) 2 = 0 from Nat.mul_mod_right 2 q, show Nat.div (2 * q) 2 = q by show 2 * q / 2 = q; omega]
  rfl
theorem Tr.set_r {α : Type} (v : Option α) (l r : Tr α) (x : Option α) (q : Nat) : (Tr.nd v l r).set (2 * q + 2) x = .nd v l (r.set q x) := by
  show (Nat.rec (.nd v (l.set (Nat.div (2 * q + 1) 2) x) r) (fun _ _ => .nd v l (r.set (Nat.div (2 * q + 1) 2) x)) (Nat.mod (2 * q + 1) 2) : Tr α) = _
  rw [show Nat.mod (2 * q + 1) 2 = 1 by show (2 * q + 1) % 2 = 1; omega, show Nat.div (2 * q + 1) 2 = q by show (2 * q + 1) / 2 = q; omega]
  rfl

theorem Tr.set_get {α : Type} (t : Tr α) : ∀ (k j : Nat) (x : Option α), (t.set k x).get j = if j = k then x else t.get j := by
  induction t with
  | lf =>
    intro k j x
    show (Tr.single x (Nat.succ k) k).get j = _
    rw [Tr.single_get x _ _ _ (Nat.lt_succ_self k), Tr.get_lf]
  | nd v l r ihl ihr =>
    intro k j x
    rcases Tr.case k with rfl | ⟨q, rfl, _⟩ | ⟨q, rfl, _⟩
    · rw [Tr.set_0]
      rcases Tr.case j with rfl | ⟨p, rfl, _⟩ | ⟨p, rfl, _⟩
      · rfl
      · rw [Tr.get_l, Tr.get_l, if_neg (by omega)]
      · rw [Tr.get_r, Tr.get_r, if_neg (by omega)]
    · rw [Tr.set_l]
      rcases Tr.case j with rfl | ⟨p, rfl, _⟩ | ⟨p, rfl, _⟩
      · rw [Tr.get_0, Tr.get_0, if_neg (by omega)]
      · rw [Tr.get_l, Tr.get_l, ihl]
        by_cases e : p = q
        · rw [if_pos e, if_pos (by omega)]
        · rw [if_neg e, if_neg (by omega)]
      · rw [Tr.get_r, Tr.get_r, if_neg (by omega)]
    · rw [Tr.set_r]
      rcases Tr.case j with rfl | ⟨p, rfl, _⟩ | ⟨p, rfl, _⟩
      · rw [Tr.get_0, Tr.get_0, if_neg (by omega)]
      · rw [Tr.get_l, Tr.get_l, if_neg (by omega)]
      · rw [Tr.get_r, Tr.get_r, ihr]
        by_cases e : p = q
        · rw [if_pos e, if_pos (by omega)]
        · rw [if_neg e, if_neg (by omega)]


/-! ## abstract and concrete -/
/-- where an abstract block lies: its block, the place of its first cell, how many cells there are from there on, how many cells an element of it has -/
structure Reg where
  blk : Nat
  base : Nat
  room : Nat
  esz : Nat

/-- the capacity that is not known -/
def unk : Nat := 9223372036854775808

/-- of this value nothing is known -/
def junk : Value := .chan (some 0)

inductive VR (D : Nat → Prop) (ι : Nat → Reg) : Value → Value → Prop where
  | junk (v') : VR D ι junk v'
  | bool (b) : VR D ι (.bool b) (.bool b)
  | int (k n) : VR D ι (.int k n) (.int k n)
  | float (k n) : VR D ι (.float k n) (.float k n)
  | complex (k a b) : VR D ι (.complex k a b) (.complex k a b)
  | string (s) : VR D ι (.string s) (.string s)
  | ptrN : VR D ι (.pointer none) (.pointer none)
  | ptr (id off) (h : D id) : VR D ι (.pointer (some ⟨id, off, none⟩)) (.pointer (some ⟨(ι id).blk, (ι id).base + off, none⟩))
  | slN (l c) : VR D ι (.slice none l c) (.slice none l c)
  | slK (id off l c) (h : D id) (hc : c ≠ unk) : VR D ι (.slice (some ⟨id, off, none⟩) l c) (.slice (some ⟨(ι id).blk, (ι id).base + off, none⟩) l c)
  | slU (id off l c) (h : D id) (h1 : l ≤ c) (h2 : off + c * (ι id).esz ≤ (ι id).room) : VR D ι (.slice (some ⟨id, off, none⟩) l unk) (.slice (some ⟨(ι id).blk, (ι id).base + off, none⟩) l c)
  | mapN : VR D ι (.map none) (.map none)
  | chanN : VR D ι (.chan none) (.chan none)
  | nilFunc : VR D ι .nilFunc .nilFunc
  | nilIface : VR D ι .nilIface .nilIface
  | iface (t v v') (h : VR D ι v v') : VR D ι (.iface t v) (.iface t v')
  | agg (as bs : Array Value) (hs : as.size = bs.size) (h : ∀ (i : Nat) v v', as[i]? = some v → bs[i]? = some v' → VR D ι v v') : VR D ι (.agg as) (.agg bs)
  | tuple (as bs : Array Value) (hs : as.size = bs.size) (h : ∀ (i : Nat) v v', as[i]? = some v → bs[i]? = some v' → VR D ι v v') : VR D ι (.tuple as) (.tuple bs)
  | func (fn) (as bs cs ds : Array Value) (hs : as.size = bs.size) (hs' : cs.size = ds.size) (h : ∀ (i : Nat) v v', as[i]? = some v → bs[i]? = some v' → VR D ι v v')
      (h' : ∀ (i : Nat) v v', cs[i]? = some v → ds[i]? = some v' → VR D ι v v') : VR D ι (.func fn as cs) (.func fn bs ds)

/-- arrays, cell by cell -/
def AR (D : Nat → Prop) (ι : Nat → Reg) (as bs : Array Value) : Prop :=
  as.size = bs.size ∧ ∀ (i : Nat) v v', as[i]? = some v → bs[i]? = some v' → VR D ι v v'

theorem VR.mono {D D' : Nat → Prop} {ι ι' : Nat → Reg} {v v' : Value} (h : VR D ι v v') (hD : ∀ id, D id → D' id) (hi : ∀ id, D id → ι' id = ι id) : VR D' ι' v v' := by
  induction h with
  | junk v => exact .junk v
  | bool b => exact .bool b
  | int k n => exact .int k n
  | float k n => exact .float k n
  | complex k a b => exact .complex k a b
  | string s => exact .string s
  | ptrN => exact .ptrN
  | ptr id off h => rw [← hi id h]; exact .ptr id off (hD _ h)
  | slN l c => exact .slN l c
  | slK id off l c h hc => rw [← hi id h]; exact .slK id off l c (hD _ h) hc
  | slU id off l c h h1 h2 => rw [← hi id h] at h2 ⊢; exact .slU id off l c (hD _ h) h1 h2
  | mapN => exact .mapN
  | chanN => exact .chanN
  | nilFunc => exact .nilFunc
  | nilIface => exact .nilIface
  | iface t v v' _ ih => exact .iface t v v' ih
  | agg as bs hs _ ih => exact .agg as bs hs ih
  | tuple as bs hs _ ih => exact .tuple as bs hs ih
  | func fn as bs cs ds hs hs' _ _ ih ih' => exact .func fn as bs cs ds hs hs' ih ih'

theorem AR.mono {D D' : Nat → Prop} {ι ι' : Nat → Reg} {a b : Array Value} (h : AR D ι a b) (hD : ∀ id, D id → D' id) (hi : ∀ id, D id → ι' id = ι id) : AR D' ι' a b :=
  ⟨h.1, fun i v v' e e' => (h.2 i v v' e e').mono hD hi⟩

/-- no address in it -/
def plainN : Nat → Value → Bool
  | 0, _ => false
  | n + 1, v => match v with
    | .bool _ | .int .. | .float .. | .complex .. | .string _ | .pointer none | .slice none _ _ | .map none | .chan none | .nilFunc | .nilIface => true
    | .iface _ v => plainN n v
    | .agg cs => cs.toList.all (plainN n)
    | .tuple cs => cs.toList.all (plainN n)
    | .func _ as bs => as.toList.all (plainN n) && bs.toList.all (plainN n)
    | _ => false

theorem plain_refl {D : Nat → Prop} {ι : Nat → Reg} : ∀ (n : Nat) (v : Value), plainN n v = true → VR D ι v v := by
  intro n
  induction n with
  | zero => intro v h; simp [plainN] at h
  | succ n ih =>
    intro v h
    have arr : ∀ as : Array Value, as.toList.all (plainN n) = true → ∀ (i : Nat) v v', as[i]? = some v → as[i]? = some v' → VR D ι v v' := by
      intro as ha i v v' e e'
      rw [e] at e'
      cases e'
      rw [List.all_eq_true] at ha
      exact ih v (ha v (by rw [Array.mem_toList_iff]; exact Array.mem_of_getElem? e))
    cases v with
    | bool b => exact .bool b
    | int k n => exact .int k n
    | float k n => exact .float k n
    | complex k a b => exact .complex k a b
    | string s => exact .string s
    | pointer a => cases a with
      | none => exact .ptrN
      | some a => simp [plainN] at h
    | slice a l c => cases a with
      | none => exact .slN l c
      | some a => simp [plainN] at h
    | map r => cases r with
      | none => exact .mapN
      | some a => simp [plainN] at h
    | chan r => cases r with
      | none => exact .chanN
      | some a => simp [plainN] at h
    | func fn as bs =>
      simp only [plainN, Bool.and_eq_true] at h
      exact .func fn as as bs bs rfl rfl (arr as h.1) (arr bs h.2)
    | nilFunc => exact .nilFunc
    | iface t v => exact .iface t v v (ih v (by simpa [plainN] using h))
    | nilIface => exact .nilIface
    | agg cs => exact .agg cs cs rfl (arr cs (by simpa [plainN] using h))
    | tuple cs => exact .tuple cs cs rfl (arr cs (by simpa [plainN] using h))

theorem plain_eq {D : Nat → Prop} {ι : Nat → Reg} : ∀ (n : Nat) (v v' : Value), plainN n v = true → VR D ι v v' → v' = v := by
  intro n
  induction n with
  | zero => intro v v' h; simp [plainN] at h
  | succ n ih =>
    intro v v' h hv
    have arr : ∀ as bs : Array Value, as.toList.all (plainN n) = true → as.size = bs.size → (∀ (i : Nat) v v', as[i]? = some v → bs[i]? = some v' → VR D ι v v') → bs = as := by
      intro as bs ha hs hh
      refine Array.ext hs.symm fun i h1 h2 => ?_
      rw [List.all_eq_true] at ha
      exact ih _ _ (ha _ (by rw [Array.mem_toList_iff]; exact Array.getElem_mem h2)) (hh i _ _ (Array.getElem?_eq_getElem h2) (Array.getElem?_eq_getElem h1))
    cases hv with
    | junk v => simp [plainN, junk] at h
    | ptr id off h' => simp [plainN] at h
    | slK id off l c h' hc => simp [plainN] at h
    | slU id off l c h' h1 h2 => simp [plainN] at h
    | iface t v v' h' => rw [ih v v' (by simpa [plainN] using h) h']
    | agg as bs hs hh => rw [arr as bs (by simpa [plainN] using h) hs hh]
    | tuple as bs hs hh => rw [arr as bs (by simpa [plainN] using h) hs hh]
    | func fn as bs cs ds hs hs' hh hh' =>
      simp only [plainN, Bool.and_eq_true] at h
      rw [arr as bs h.1 hs hh, arr cs ds h.2 hs' hh']
    | _ => rfl

/-! ## abstract memory, location by location -/
inductive Hd where
  | row (len : Nat) (elem : TypeId) (ro : Bool)
  | iter (s : ByteArray) (pos : Nat)

structure H where
  hdr : Nat → Option Hd
  cell : Nat → Nat → Option Value

def Lv (h : H) (id : Nat) : Prop := ∃ x, h.hdr id = some x
def Hd.wr : Hd → Prop
  | .row _ _ ro => ro = false
  | .iter _ _ => True
def Wr (h : H) (id : Nat) : Prop := ∃ x, h.hdr id = some x ∧ x.wr

theorem Wr.lv {h : H} {id : Nat} (x : Wr h id) : Lv h id := let ⟨y, e, _⟩ := x; ⟨y, e⟩

def HdrOK (P : Program) (ι : Nat → Reg) (id : Nat) (w : World) : Hd → Prop
  | .row len elem ro => ∃ (c : Array Value) (e : TypeId) (fr : Nat × Nat), w.heap[(ι id).blk]? = some (.cells c e fr) ∧ (ι id).base + (ι id).room = c.size ∧ len ≤ (ι id).room ∧
      (ro = false → e = elem ∧ (∀ i, P.info? elem = some i → (ι id).esz = i.size ∧ (ι id).base % i.size = 0 ∧ c.size % i.size = 0) ∧ ∀ o, o < c.size → ¬ (fr.1 ≤ o ∧ o < fr.2))
  | .iter s pos => w.heap[(ι id).blk]? = some (.stringIter s pos) ∧ (ι id).base = 0

def CellOK (D : Nat → Prop) (ι : Nat → Reg) (id : Nat) (w : World) (k : Nat) (v : Value) : Prop :=
  ∃ v', w.cell? ⟨(ι id).blk, (ι id).base + k, none⟩ = some v' ∧ VR D ι v v'

theorem HdrOK.lt {P : Program} {ι : Nat → Reg} {id : Nat} {w : World} {x : Hd} (h : HdrOK P ι id w x) : (ι id).blk < w.heap.size := by
  have key : ∀ o : Obj, w.heap[(ι id).blk]? = some o → (ι id).blk < w.heap.size := fun o e => by
    rcases Nat.lt_or_ge (ι id).blk w.heap.size with h | h
    · exact h
    · rw [Array.getElem?_eq_none h] at e; cases e
  cases x with
  | row len elem ro => obtain ⟨c, e', fr, e, _⟩ := h; exact key _ e
  | iter s pos => exact key _ h.1

/-! ## what a step touches -/
structure Foot where
  rc : List (Nat × Nat)
  rh : List Nat
  wc : List (Nat × Nat)
  wh : List Nat

def Foot.nil : Foot := ⟨[], [], [], []⟩
def Foot.add (a b : Foot) : Foot := ⟨a.rc ++ b.rc, a.rh ++ b.rh, a.wc ++ b.wc, a.wh ++ b.wh⟩
def Foot.Wi (φ : Foot) (id : Nat) : Prop := id ∈ φ.wh
def Foot.Wc (φ : Foot) (id k : Nat) : Prop := (id, k) ∈ φ.wc ∨ id ∈ φ.wh
def Foot.Fc (φ : Foot) (id k : Nat) : Prop := (id, k) ∈ φ.rc ∨ id ∈ φ.rh ∨ (id, k) ∈ φ.wc ∨ id ∈ φ.wh
def Foot.Fi (φ : Foot) (id : Nat) : Prop := (∃ k, (id, k) ∈ φ.rc) ∨ id ∈ φ.rh ∨ (∃ k, (id, k) ∈ φ.wc) ∨ id ∈ φ.wh

theorem Foot.Wi.wc {φ : Foot} {id : Nat} (h : φ.Wi id) (k : Nat) : φ.Wc id k := .inr h
theorem Foot.Wc.fc {φ : Foot} {id k : Nat} (h : φ.Wc id k) : φ.Fc id k := by
  rcases h with h | h
  · exact .inr (.inr (.inl h))
  · exact .inr (.inr (.inr h))
theorem Foot.Fc.fi {φ : Foot} {id k : Nat} (h : φ.Fc id k) : φ.Fi id := by
  rcases h with h | h | h | h
  · exact .inl ⟨_, h⟩
  · exact .inr (.inl h)
  · exact .inr (.inr (.inl ⟨_, h⟩))
  · exact .inr (.inr (.inr h))
theorem Foot.Wi.fi {φ : Foot} {id : Nat} (h : φ.Wi id) : φ.Fi id := (h.wc 0).fc.fi
theorem Foot.Wc.fi {φ : Foot} {id k : Nat} (h : φ.Wc id k) : φ.Fi id := h.fc.fi
theorem Foot.add_Wi {a b : Foot} {id : Nat} : (a.add b).Wi id ↔ a.Wi id ∨ b.Wi id := by simp [Foot.add, Foot.Wi]
theorem Foot.add_Wc {a b : Foot} {id k : Nat} : (a.add b).Wc id k ↔ a.Wc id k ∨ b.Wc id k := by
  simp only [Foot.add, Foot.Wc, List.mem_append]
  constructor
  · rintro ((h | h) | (h | h)) <;> simp [h]
  · rintro ((h | h) | (h | h)) <;> simp [h]
theorem Foot.add_Fc {a b : Foot} {id k : Nat} : (a.add b).Fc id k ↔ a.Fc id k ∨ b.Fc id k := by
  simp only [Foot.add, Foot.Fc, List.mem_append]
  constructor
  · rintro ((h | h) | (h | h) | (h | h) | (h | h)) <;> simp [h]
  · rintro ((h | h | h | h) | (h | h | h | h)) <;> simp [h]
theorem Foot.add_Fi {a b : Foot} {id : Nat} : (a.add b).Fi id ↔ a.Fi id ∨ b.Fi id := by
  simp only [Foot.add, Foot.Fi, List.mem_append]
  constructor
  · rintro (⟨k, h | h⟩ | (h | h) | ⟨k, h | h⟩ | (h | h))
    · exact .inl (.inl ⟨k, h⟩)
    · exact .inr (.inl ⟨k, h⟩)
    · exact .inl (.inr (.inl h))
    · exact .inr (.inr (.inl h))
    · exact .inl (.inr (.inr (.inl ⟨k, h⟩)))
    · exact .inr (.inr (.inr (.inl ⟨k, h⟩)))
    · exact .inl (.inr (.inr (.inr h)))
    · exact .inr (.inr (.inr (.inr h)))
  · rintro ((⟨k, h⟩ | h | ⟨k, h⟩ | h) | (⟨k, h⟩ | h | ⟨k, h⟩ | h))
    · exact .inl ⟨k, .inl h⟩
    · exact .inr (.inl (.inl h))
    · exact .inr (.inr (.inl ⟨k, .inl h⟩))
    · exact .inr (.inr (.inr (.inl h)))
    · exact .inl ⟨k, .inr h⟩
    · exact .inr (.inl (.inr h))
    · exact .inr (.inr (.inl ⟨k, .inr h⟩))
    · exact .inr (.inr (.inr (.inr h)))

/-! ## what holds of memory where a step looks, and what a step promises -/
structure HOn (P : Program) (D : Nat → Prop) (ι : Nat → Reg) (h : H) (φ : Foot) (w : World) : Prop where
  hd : ∀ id x, φ.Fi id → h.hdr id = some x → HdrOK P ι id w x
  ce : ∀ id k v, φ.Fc id k → Lv h id → h.cell id k = some v → CellOK D ι id w k v
  inj : ∀ i j, φ.Fi i → φ.Fi j → Lv h i → Lv h j → i ≠ j → (ι i).blk ≠ (ι j).blk

/-- objects that are alike but for some cells -/
def ObjBut (S : Nat → Prop) : Option Obj → Option Obj → Prop
  | some (.cells c e fr), o => ∃ c', o = some (.cells c' e fr) ∧ c'.size = c.size ∧ ∀ k, ¬ S k → c'[k]? = c[k]?
  | a, o => o = a

theorem ObjBut.refl (S : Nat → Prop) (a : Option Obj) : ObjBut S a a := by
  unfold ObjBut
  split
  · exact ⟨_, rfl, rfl, fun _ _ => rfl⟩
  · rfl
theorem ObjBut.mono {S S' : Nat → Prop} {a b : Option Obj} (h : ObjBut S a b) (hs : ∀ k, S k → S' k) : ObjBut S' a b := by
  rcases a with _ | a
  · exact h
  · cases a with
    | cells c e fr =>
      obtain ⟨c', e, hz, hk⟩ := h
      exact ⟨c', e, hz, fun k hn => hk k fun x => hn (hs k x)⟩
    | _ => exact h
theorem ObjBut.trans {S S' : Nat → Prop} {a b c : Option Obj} (h : ObjBut S a b) (h' : ObjBut S' b c) : ObjBut (fun k => S k ∨ S' k) a c := by
  rcases a with _ | a
  · have h : b = none := h
    subst h
    exact h'
  · cases a with
    | cells c0 e fr =>
      obtain ⟨c1, rfl, hz, hk⟩ := h
      obtain ⟨c2, e, hz2, hk2⟩ := h'
      exact ⟨c2, e, hz2.trans hz, fun k hn => (hk2 k fun x => hn (.inr x)).trans (hk k fun x => hn (.inl x))⟩
    | _ => (have h : b = _ := h); subst h; exact h'
theorem ObjBut.eq {S : Nat → Prop} {a b : Option Obj} (h : ObjBut S a b) (hs : ∀ k, ¬ S k) : b = a := by
  rcases a with _ | a
  · exact h
  · cases a with
    | cells c e fr =>
      obtain ⟨c', e, hz, hk⟩ := h
      have : c' = _ := Array.ext_getElem? fun k => hk k (hs k)
      rw [e, this]
    | _ => exact h

structure Post (P : Program) (D N : Nat → Prop) (ι : Nat → Reg) (h : H) (w : World) (φ : Foot) (ι' : Nat → Reg) (h' : H) (w' : World) : Prop where
  io : ∀ id, ¬ N id → ι' id = ι id
  size : w.heap.size ≤ w'.heap.size
  os : w'.os = w.os
  out : w'.output = w.output
  hdr : ∀ id x, φ.Wi id ∨ N id → h'.hdr id = some x → HdrOK P ι' id w' x
  cel : ∀ id k v, φ.Wc id k ∨ N id → Lv h' id → h'.cell id k = some v → CellOK (fun i => D i ∨ N i) ι' id w' k v
  ahdr : ∀ id, ¬ N id → ¬ φ.Wi id → h'.hdr id = h.hdr id
  acel : ∀ id k, ¬ N id → ¬ φ.Wc id k → h'.cell id k = h.cell id k
  cfr : ∀ b, b < w.heap.size → (∀ id, φ.Wi id → Wr h id → (ι id).blk ≠ b) → ObjBut (fun o => ∃ id k, φ.Wc id k ∧ Wr h id ∧ (ι id).blk = b ∧ (ι id).base + k = o) w.heap[b]? w'.heap[b]?
  fresh : ∀ id, N id → Lv h' id → (w.heap.size ≤ (ι' id).blk ∧ (ι' id).blk < w'.heap.size) ∨ ∃ k, φ.Wi k ∧ ¬ N k ∧ Wr h k ∧ ¬ Lv h' k ∧ (ι' id).blk = (ι k).blk
  dist : ∀ i j, N i → N j → Lv h' i → Lv h' j → i ≠ j → (ι' i).blk ≠ (ι' j).blk
  nl : ∀ id, N id → h.hdr id = none
  wl : ∀ id k, φ.Wc id k → ¬ N id → Lv h id
  wrm : ∀ id, ¬ N id → Wr h' id → Wr h id

theorem Post.refl (P : Program) (D N : Nat → Prop) (ι : Nat → Reg) (h : H) (w : World) (hn : ∀ id, ¬ N id) : Post P D N ι h w .nil ι h w where
  io := fun _ _ => rfl
  size := Nat.le_refl _
  os := rfl
  out := rfl
  hdr := fun id x hx => by rcases hx with hx | hx; cases hx; exact absurd hx (hn id)
  cel := fun id k v hx => by rcases hx with (hx | hx) | hx; cases hx; cases hx; exact absurd hx (hn id)
  ahdr := fun _ _ _ => rfl
  acel := fun _ _ _ _ => rfl
  cfr := fun _ _ _ => ObjBut.refl _ _
  fresh := fun id hx => absurd hx (hn id)
  dist := fun i _ hx => absurd hx (hn i)
  nl := fun id hx => absurd hx (hn id)
  wl := fun id k hx => by rcases hx with hx | hx <;> cases hx
  wrm := fun _ _ hx => hx

/-- a header, and a cell, that a change of memory leaves alone -/
theorem HdrOK.keep {P : Program} {ι ι' : Nat → Reg} {id : Nat} {w w' : World} {x : Hd} {S : Nat → Prop} (h : HdrOK P ι id w x) (hi : ι' id = ι id) (hb : ObjBut S w.heap[(ι id).blk]? w'.heap[(ι id).blk]?) : HdrOK P ι' id w' x := by
  cases x with
  | row len elem ro =>
    obtain ⟨c, el, fr, e, h1, h2, h3⟩ := h
    rw [e] at hb
    obtain ⟨c', e', hz, _⟩ := hb
    refine ⟨c', el, fr, by rw [hi]; exact e', by rw [hi, hz]; exact h1, by rw [hi]; exact h2, fun hr => ?_⟩
    obtain ⟨g1, g2, g3⟩ := h3 hr
    exact ⟨g1, fun i hi' => by rw [hi, hz]; exact g2 i hi', fun o ho => g3 o (hz ▸ ho)⟩
  | iter s pos =>
    obtain ⟨e, h0⟩ := h
    rw [e] at hb
    exact ⟨by rw [hi]; exact hb, by rw [hi]; exact h0⟩
theorem CellOK.keep {D D' : Nat → Prop} {ι ι' : Nat → Reg} {id k : Nat} {w w' : World} {v : Value} {S : Nat → Prop} (h : CellOK D ι id w k v) (hi : ι' id = ι id) (hD : ∀ i, D i → D' i) (hiD : ∀ i, D i → ι' i = ι i)
    (hb : ObjBut S w.heap[(ι id).blk]? w'.heap[(ι id).blk]?) (hS : ¬ S ((ι id).base + k)) : CellOK D' ι' id w' k v := by
  obtain ⟨v', e, hv⟩ := h
  refine ⟨v', ?_, hv.mono hD hiD⟩
  rw [hi]
  simp only [World.cell?] at e ⊢
  split at e
  · rename_i c el fr hc
    rw [hc] at hb
    obtain ⟨c', e', hz, hk⟩ := hb
    rw [e']
    simp only [Option.isSome_none, Bool.false_eq_true, if_false] at e ⊢
    rw [hk _ hS]; exact e
  · cases e

theorem Wr.of_hdr {h h' : H} {id : Nat} (e : h'.hdr id = h.hdr id) (x : Wr h' id) : Wr h id := by
  obtain ⟨y, hy, hw⟩ := x; exact ⟨y, e ▸ hy, hw⟩
theorem Lv.of_hdr {h h' : H} {id : Nat} (e : h'.hdr id = h.hdr id) (x : Lv h' id) : Lv h id := by
  obtain ⟨y, hy⟩ := x; exact ⟨y, e ▸ hy⟩

end Go.Eng

/-
  The engine, part A: finite maps, the relation between abstract and concrete values and memory, what an abstract step promises, and that two such steps in a row are one. No condition.
-/
import Derived.Orders
import Derived.KernelRfl
noncomputable section
namespace Go.Eng
open Go

/-! ## finite maps -/
inductive Tr (α : Type) where
  | lf : Tr α
  | nd : Option α → Tr α → Tr α → Tr α

/-- by the recursors: the kernel runs it -/
def Tr.get {α : Type} (t : Tr α) : Nat → Option α :=
  Tr.rec (motive := fun _ => Nat → Option α) (fun _ => none) (fun v _ _ gl gr k => Nat.rec v (fun m _ => Nat.rec (gl (Nat.div m 2)) (fun _ _ => gr (Nat.div m 2)) (Nat.mod m 2)) k) t
def Tr.single {α : Type} (x : Option α) : Nat → Nat → Tr α :=
  fun n => Nat.rec (motive := fun _ => Nat → Tr α) (fun _ => .lf) (fun _ ih k => Nat.rec (.nd x .lf .lf) (fun m _ => Nat.rec (.nd none (ih (Nat.div m 2)) .lf) (fun _ _ => .nd none .lf (ih (Nat.div m 2))) (Nat.mod m 2)) k) n
def Tr.set {α : Type} (t : Tr α) (k : Nat) (x : Option α) : Tr α :=
  Tr.rec (motive := fun _ => Nat → Tr α) (fun k => Tr.single x (Nat.succ k) k) (fun v l r pl pr k => Nat.rec (.nd x l r) (fun m _ => Nat.rec (.nd v (pl (Nat.div m 2)) r) (fun _ _ => .nd v l (pr (Nat.div m 2))) (Nat.mod m 2)) k) t k

theorem beq_t {a b : Nat} (h : a = b) : Nat.beq a b = true := by subst h; simp
theorem beq_f {a b : Nat} (h : a ≠ b) : Nat.beq a b = false := by
  cases hb : Nat.beq a b
  · rfl
  · exact absurd (Nat.eq_of_beq_eq_true hb) h

theorem Tr.get_lf {α : Type} (k : Nat) : (Tr.lf : Tr α).get k = none := rfl
theorem Tr.get_0 {α : Type} (v : Option α) (l r : Tr α) : (Tr.nd v l r).get 0 = v := rfl
theorem half (m : Nat) : (∃ q, m = 2 * q ∧ Nat.mod m 2 = 0 ∧ Nat.div m 2 = q) ∨ ∃ q, m = 2 * q + 1 ∧ Nat.mod m 2 = 1 ∧ Nat.div m 2 = q := by
  rcases Nat.mod_two_eq_zero_or_one m with h | h
  · exact .inl ⟨m / 2, by omega, h, rfl⟩
  · exact .inr ⟨m / 2, by omega, h, rfl⟩
theorem Tr.get_l {α : Type} (v : Option α) (l r : Tr α) (q : Nat) : (Tr.nd v l r).get (2 * q + 1) = l.get q := by
  show (Nat.rec (l.get (Nat.div (2 * q) 2)) (fun _ _ => r.get (Nat.div (2 * q) 2)) (Nat.mod (2 * q) 2) : Option α) = _
  rw [show Nat.mod (2 * q) 2 = 0 from Nat.mul_mod_right 2 q, show Nat.div (2 * q) 2 = q by show 2 * q / 2 = q; omega]
  rfl
theorem Tr.get_r {α : Type} (v : Option α) (l r : Tr α) (q : Nat) : (Tr.nd v l r).get (2 * q + 2) = r.get q := by
  show (Nat.rec (l.get (Nat.div (2 * q + 1) 2)) (fun _ _ => r.get (Nat.div (2 * q + 1) 2)) (Nat.mod (2 * q + 1) 2) : Option α) = _
  rw [show Nat.mod (2 * q + 1) 2 = 1 by show (2 * q + 1) % 2 = 1; omega, show Nat.div (2 * q + 1) 2 = q by show (2 * q + 1) / 2 = q; omega]
  rfl
theorem Tr.case (k : Nat) : k = 0 ∨ (∃ q, k = 2 * q + 1 ∧ q < k) ∨ ∃ q, k = 2 * q + 2 ∧ q < k := by
  rcases k with _ | m
  · exact .inl rfl
  · rcases half m with ⟨q, h, _⟩ | ⟨q, h, _⟩
    · exact .inr (.inl ⟨q, by omega, by omega⟩)
    · exact .inr (.inr ⟨q, by omega, by omega⟩)
theorem Tr.single_0 {α : Type} (x : Option α) (n : Nat) : Tr.single x (n + 1) 0 = .nd x .lf .lf := rfl
theorem Tr.single_l {α : Type} (x : Option α) (n q : Nat) : Tr.single x (n + 1) (2 * q + 1) = .nd none (Tr.single x n q) .lf := by
  show (Nat.rec (.nd none (Tr.single x n (Nat.div (2 * q) 2)) .lf) (fun _ _ => .nd none .lf (Tr.single x n (Nat.div (2 * q) 2))) (Nat.mod (2 * q) 2) : Tr α) = _
  rw [show Nat.mod (2 * q) 2 = 0 from Nat.mul_mod_right 2 q, show Nat.div (2 * q) 2 = q by show 2 * q / 2 = q; omega]
  rfl
theorem Tr.single_r {α : Type} (x : Option α) (n q : Nat) : Tr.single x (n + 1) (2 * q + 2) = .nd none .lf (Tr.single x n q) := by
  show (Nat.rec (.nd none (Tr.single x n (Nat.div (2 * q + 1) 2)) .lf) (fun _ _ => .nd none .lf (Tr.single x n (Nat.div (2 * q + 1) 2))) (Nat.mod (2 * q + 1) 2) : Tr α) = _
  rw [show Nat.mod (2 * q + 1) 2 = 1 by show (2 * q + 1) % 2 = 1; omega, show Nat.div (2 * q + 1) 2 = q by show (2 * q + 1) / 2 = q; omega]
  rfl
theorem Tr.single_get {α : Type} (x : Option α) : ∀ (n k j : Nat), k < n → (Tr.single x n k).get j = if j = k then x else none
  | 0, _, _, h => by omega
  | n + 1, k, j, h => by
    rcases Tr.case k with rfl | ⟨q, rfl, hq⟩ | ⟨q, rfl, hq⟩
    · rw [Tr.single_0]
      rcases Tr.case j with rfl | ⟨p, rfl, _⟩ | ⟨p, rfl, _⟩
      · rfl
      · rw [Tr.get_l, Tr.get_lf, if_neg (by omega)]
      · rw [Tr.get_r, Tr.get_lf, if_neg (by omega)]
    · rw [Tr.single_l]
      rcases Tr.case j with rfl | ⟨p, rfl, _⟩ | ⟨p, rfl, _⟩
      · rw [Tr.get_0, if_neg (by omega)]
      · rw [Tr.get_l, Tr.single_get x n q p (by omega)]
        by_cases e : p = q
        · rw [if_pos e, if_pos (by omega)]
        · rw [if_neg e, if_neg (by omega)]
      · rw [Tr.get_r, Tr.get_lf, if_neg (by omega)]
    · rw [Tr.single_r]
      rcases Tr.case j with rfl | ⟨p, rfl, _⟩ | ⟨p, rfl, _⟩
      · rw [Tr.get_0, if_neg (by omega)]
      · rw [Tr.get_l, Tr.get_lf, if_neg (by omega)]
      · rw [Tr.get_r, Tr.single_get x n q p (by omega)]
        by_cases e : p = q
        · rw [if_pos e, if_pos (by omega)]
        · rw [if_neg e, if_neg (by omega)]
theorem Tr.set_0 {α : Type} (v : Option α) (l r : Tr α) (x : Option α) : (Tr.nd v l r).set 0 x = .nd x l r := rfl
theorem Tr.set_l {α : Type} (v : Option α) (l r : Tr α) (x : Option α) (q : Nat) : (Tr.nd v l r).set (2 * q + 1) x = .nd v (l.set q x) r := by
  show (Nat.rec (.nd v (l.set (Nat.div (2 * q) 2) x) r) (fun _ _ => .nd v l (r.set (Nat.div (2 * q) 2) x)) (Nat.mod (2 * q) 2) : Tr α) = _
  rw [show Nat.mod (2 * q) 2 = 0 from Nat.mul_mod_right 2 q, show Nat.div (2 * q) 2 = q by show 2 * q / 2 = q; omega]
  rfl
theorem Tr.set_r {α : Type} (v : Option α) (l r : Tr α) (x : Option α) (q : Nat) : (Tr.nd v l r).set (2 * q + 2) x = .nd v l (r.set q x) := by
  show (Nat.rec (.nd v (l.set (Nat.div (2 * q + 1) 2) x) r) (fun _ _ => .nd v l (r.set (Nat.div (2 * q + 1) 2) x)) (Nat.mod (2 * q + 1) 2) : Tr α) = _
  rw [show Nat.mod (2 * q + 1) 2 = 1 by show (2 * q + 1) % 2 = 1; omega, show Nat.div (2 * q + 1) 2 = q by show (2 * q + 1) / 2 = q; omega]
  rfl

theorem Tr.set_get {α : Type} (t : Tr α) : ∀ (k j : Nat) (x : Option α), (t.set k x).get j = if j = k then x else t.get j := by
  induction t with
  | lf =>
    intro k j x
    show (Tr.single x (Nat.succ k) k).get j = _
    rw [Tr.single_get x _ _ _ (Nat.lt_succ_self k), Tr.get_lf]
  | nd v l r ihl ihr =>
    intro k j x
    rcases Tr.case k with rfl | ⟨q, rfl, _⟩ | ⟨q, rfl, _⟩
    · rw [Tr.set_0]
      rcases Tr.case j with rfl | ⟨p, rfl, _⟩ | ⟨p, rfl, _⟩
      · rfl
      · rw [Tr.get_l, Tr.get_l, if_neg (by omega)]
      · rw [Tr.get_r, Tr.get_r, if_neg (by omega)]
    · rw [Tr.set_l]
      rcases Tr.case j with rfl | ⟨p, rfl, _⟩ | ⟨p, rfl, _⟩
      · rw [Tr.get_0, Tr.get_0, if_neg (by omega)]
      · rw [Tr.get_l, Tr.get_l, ihl]
        by_cases e : p = q
        · rw [if_pos e, if_pos (by omega)]
        · rw [if_neg e, if_neg (by omega)]
      · rw [Tr.get_r, Tr.get_r, if_neg (by omega)]
    · rw [Tr.set_r]
      rcases Tr.case j with rfl | ⟨p, rfl, _⟩ | ⟨p, rfl, _⟩
      · rw [Tr.get_0, Tr.get_0, if_neg (by omega)]
      · rw [Tr.get_l, Tr.get_l, if_neg (by omega)]
      · rw [Tr.get_r, Tr.get_r, ihr]
        by_cases e : p = q
        · rw [if_pos e, if_pos (by omega)]
        · rw [if_neg e, if_neg (by omega)]


/-! ## plain data: what values read as -/
inductive Ty where
  | int (k : IntKind)
  | byte
  | bool
  | str
  | unit
  | pair (a b : Ty)
  | slice (a : Ty)
  | err
  | fn (f : Nat)
  deriving DecidableEq
@[reducible] def Ty.Den : Ty → Type
  | .int _ => Int
  | .byte => UInt8
  | .bool => Bool
  | .str => List UInt8
  | .unit => Unit
  | .pair a b => a.Den × b.Den
  | .slice a => List a.Den
  | .err => Bool
  | .fn _ => Unit
/-- how many cells -/
def Ty.sz : Ty → Nat
  | .unit => 0
  | .pair a b => a.sz + b.sz
  | _ => 1
/-- a string of bytes -/
def bs (l : List UInt8) : ByteArray := ⟨⟨l⟩⟩
/-- an interface value that is nil, or is not -/
def isE (b : Bool) : Value → Bool
  | .nilIface => b
  | .iface _ _ => !b
  | _ => false
/-- cells in a row read as data; blocks that are read: fz -/
def RdC (fz : Nat → Option (Array Value)) : (t : Ty) → t.Den → List Value → Prop
  | .int k, n, cs => cs = [.int k n]
  | .byte, b, cs => cs = [.int .u8 b.toNat]
  | .bool, b, cs => cs = [.bool b]
  | .str, s, cs => cs = [.string (bs s)]
  | .unit, _, cs => cs = []
  | .pair a b, x, cs => ∃ c1 c2, cs = c1 ++ c2 ∧ RdC fz a x.1 c1 ∧ RdC fz b x.2 c2
  | .slice a, xs, cs => (∃ sv, cs = [sv] ∧ (((∃ q c, sv = .slice q 0 c) ∧ xs = []) ∨ ∃ (b o c : Nat) (arr : Array Value), sv = .slice (some ⟨b, o, none⟩) xs.length c ∧ fz b = some arr ∧ o + xs.length * a.sz ≤ arr.size ∧ xs.length ≤ c ∧
      ∀ i x, xs[i]? = some x → RdC fz a x ((arr.toList.drop (o + i * a.sz)).take a.sz)))
  | .err, b, cs => ∃ v, cs = [v] ∧ isE b v = true
  | .fn f, _, cs => cs = [.func (.func f) #[] #[]]
/-- a slice reads as a list -/
def RdS (fz : Nat → Option (Array Value)) (t : Ty) (xs : List t.Den) (sv : Value) : Prop :=
  ((∃ q c, sv = .slice q 0 c) ∧ xs = []) ∨ ∃ (b o c : Nat) (arr : Array Value), sv = .slice (some ⟨b, o, none⟩) xs.length c ∧ fz b = some arr ∧ o + xs.length * t.sz ≤ arr.size ∧ xs.length ≤ c ∧
      ∀ i x, xs[i]? = some x → RdC fz t x ((arr.toList.drop (o + i * t.sz)).take t.sz)
/-- cells, one element behind the other, read as a list; more may follow -/
def RdL (fz : Nat → Option (Array Value)) (t : Ty) (xs : List t.Den) (cs : List Value) : Prop :=
  ∀ i x, xs[i]? = some x → i * t.sz + t.sz ≤ cs.length ∧ RdC fz t x ((cs.drop (i * t.sz)).take t.sz)

@[reducible] def DenL : List Ty → Type
  | [] => Unit
  | t :: ts => t.Den × DenL ts
/-- data in, data out -/
structure PSpec where
  ts : List Ty
  rs : List Ty
  pre : DenL ts → Prop
  g : DenL ts → DenL rs
def Ty.agg : Ty → Bool
  | .unit => true
  | .pair _ _ => true
  | _ => false
/-- a value reads as data -/
def RdV (fz : Nat → Option (Array Value)) (t : Ty) (x : t.Den) (v : Value) : Prop := (t.agg = true ∧ ∃ cs, v = .agg cs ∧ RdC fz t x cs.toList) ∨ (t.agg = false ∧ RdC fz t x [v])
def RdAll (fz : Nat → Option (Array Value)) : (ts : List Ty) → DenL ts → List Value → Prop
  | [], _, vs => vs = []
  | t :: ts, x, vs => ∃ v r, vs = v :: r ∧ RdV fz t x.1 v ∧ RdAll fz ts x.2 r
def resV : List Value → Value
  | [v] => v
  | vs => .tuple vs.toArray
theorem RdC.mono {fz fz' : Nat → Option (Array Value)} (h : ∀ b c, fz b = some c → fz' b = some c) : ∀ (t : Ty) (x : t.Den) (cs : List Value), RdC fz t x cs → RdC fz' t x cs := by
  intro t
  induction t with
  | pair a b iha ihb =>
    intro x cs hr
    simp only [RdC] at hr ⊢
    obtain ⟨c1, c2, rfl, h1, h2⟩ := hr
    exact ⟨c1, c2, rfl, iha _ _ h1, ihb _ _ h2⟩
  | slice a ih =>
    intro x cs hr
    simp only [RdC] at hr ⊢
    obtain ⟨sv, rfl, hr⟩ := hr
    refine ⟨sv, rfl, hr.imp_right ?_⟩
    rintro ⟨b, o, c, arr, e1, e2, e3, e4, e5⟩
    exact ⟨b, o, c, arr, e1, h b arr e2, e3, e4, fun i x hx => ih _ _ (e5 i x hx)⟩
  | _ => intro x cs hr; exact hr
theorem RdS.mono {fz fz' : Nat → Option (Array Value)} (h : ∀ b c, fz b = some c → fz' b = some c) {t : Ty} {xs : List t.Den} {u : Value} (hr : RdS fz t xs u) : RdS fz' t xs u := by
  refine hr.imp_right ?_
  rintro ⟨b, o, c, arr, e1, e2, e3, e4, e5⟩
  exact ⟨b, o, c, arr, e1, h b arr e2, e3, e4, fun i x hx => RdC.mono h _ _ _ (e5 i x hx)⟩
theorem RdV.mono {fz fz' : Nat → Option (Array Value)} (h : ∀ b c, fz b = some c → fz' b = some c) {t : Ty} {x : t.Den} {v : Value} (hr : RdV fz t x v) : RdV fz' t x v :=
  hr.imp (fun ⟨a, cs, e, r⟩ => ⟨a, cs, e, RdC.mono h _ _ _ r⟩) fun ⟨a, r⟩ => ⟨a, RdC.mono h _ _ _ r⟩
theorem RdAll.mono {fz fz' : Nat → Option (Array Value)} (h : ∀ b c, fz b = some c → fz' b = some c) : ∀ {ts : List Ty} {x : DenL ts} {vs : List Value}, RdAll fz ts x vs → RdAll fz' ts x vs
  | [], _, _, hr => hr
  | _ :: _, _, _, ⟨v, r, e, h1, h2⟩ => ⟨v, r, e, h1.mono h, RdAll.mono h h2⟩

/-! ## abstract and concrete -/
/-- where an abstract block lies: its block, the place of its first cell, how many cells there are from there on, how many cells an element of it has -/
structure Reg where
  blk : Nat
  base : Nat
  room : Nat
  esz : Nat
  /-- does the block belong to it alone? -/
  own : Bool
  /-- blocks that are read, and never written again: what they hold -/
  fz : Nat → Option (Array Value)
  /-- the value that stands for the whole of it -/
  sv : Value
/-- a block of its own -/
def rg (blk base room esz : Nat) : Reg := ⟨blk, base, room, esz, true, fun _ => none, .nilIface⟩
@[simp] theorem rg_blk (a b c d : Nat) : (rg a b c d).blk = a := rfl
@[simp] theorem rg_base (a b c d : Nat) : (rg a b c d).base = b := rfl
@[simp] theorem rg_room (a b c d : Nat) : (rg a b c d).room = c := rfl
@[simp] theorem rg_esz (a b c d : Nat) : (rg a b c d).esz = d := rfl
@[simp] theorem rg_own (a b c d : Nat) : (rg a b c d).own = true := rfl
def Reg.Own (r : Reg) (b : Nat) : Prop := r.own = true ∧ r.blk = b
def Reg.Fz (r : Reg) (b : Nat) : Prop := ∃ c, r.fz b = some c

/-- the capacity that is not known -/
def unk : Nat := 9223372036854775808

/-- of this value nothing is known -/
def junk : Value := .chan (some 0)
/-- a value of which its kind is known, and a word for it -/
@[reducible] def sy (v : Value) : Value := .tuple #[.chan (some 1), v]
/-- a slice that reads as data, or is owned: its number -/
@[reducible] def dt (id : Nat) : Value := .tuple #[.chan (some 2), .pointer (some ⟨id, 0, none⟩)]
/-- an interface value of which is known only whether it is nil -/
@[reducible] def er (b : Bool) : Value := .tuple #[.chan (some 3), .bool b]
/-- a whole number of which only its kind is known -/
@[reducible] def ai (k : IntKind) : Value := .tuple #[.chan (some 4), .int k 0]
def scal : Value → Bool
  | .bool _ | .int .. | .string _ => true
  | _ => false

inductive VR (D : Nat → Prop) (ι : Nat → Reg) : Value → Value → Prop where
  | junk (v') : VR D ι junk v'
  | sym (v) (h : scal v = true) : VR D ι (sy v) v
  | err (b v) (h : isE b v = true) : VR D ι (er b) v
  | aint (k n) : VR D ι (ai k) (.int k n)
  | dat (id a l c) (h : D id) (e : (ι id).sv = .slice a l c) : VR D ι (dt id) (.slice a l c)
  | pel (id i j b o l c) (h : D id) (e : (ι id).sv = .slice (some ⟨b, o, none⟩) l c) : VR D ι (.pointer (some ⟨id, i, some j⟩)) (.pointer (some ⟨b, o + i * (ι id).esz + j, none⟩))
  | bool (b) : VR D ι (.bool b) (.bool b)
  | int (k n) : VR D ι (.int k n) (.int k n)
  | float (k n) : VR D ι (.float k n) (.float k n)
  | complex (k a b) : VR D ι (.complex k a b) (.complex k a b)
  | string (s) : VR D ι (.string s) (.string s)
  | ptrN : VR D ι (.pointer none) (.pointer none)
  | ptr (id off) (h : D id) : VR D ι (.pointer (some ⟨id, off, none⟩)) (.pointer (some ⟨(ι id).blk, (ι id).base + off, none⟩))
  | slN (l c) : VR D ι (.slice none l c) (.slice none l c)
  | slK (id off l c) (h : D id) (hc : c ≠ unk) : VR D ι (.slice (some ⟨id, off, none⟩) l c) (.slice (some ⟨(ι id).blk, (ι id).base + off, none⟩) l c)
  | slU (id off l c) (h : D id) (h1 : l ≤ c) (h2 : off + c * (ι id).esz ≤ (ι id).room) : VR D ι (.slice (some ⟨id, off, none⟩) l unk) (.slice (some ⟨(ι id).blk, (ι id).base + off, none⟩) l c)
  /-- an empty slice at the end of what there is: where it points is known only if there is room -/
  | slE (id off o' c) (h : D id) (h1 : off ≤ (ι id).room) (h2 : c = 0 ∨ (o' = off ∧ off + c * (ι id).esz ≤ (ι id).room)) : VR D ι (.slice (some ⟨id, off, some 0⟩) 0 unk) (.slice (some ⟨(ι id).blk, (ι id).base + o', none⟩) 0 c)
  | mapN : VR D ι (.map none) (.map none)
  | chanN : VR D ι (.chan none) (.chan none)
  | nilFunc : VR D ι .nilFunc .nilFunc
  | nilIface : VR D ι .nilIface .nilIface
  | iface (t v v') (h : VR D ι v v') : VR D ι (.iface t v) (.iface t v')
  | agg (as bs : Array Value) (hs : as.size = bs.size) (h : ∀ (i : Nat) v v', as[i]? = some v → bs[i]? = some v' → VR D ι v v') : VR D ι (.agg as) (.agg bs)
  | tuple (as bs : Array Value) (hs : as.size = bs.size) (h : ∀ (i : Nat) v v', as[i]? = some v → bs[i]? = some v' → VR D ι v v') : VR D ι (.tuple as) (.tuple bs)
  | func (fn) (as bs cs ds : Array Value) (hs : as.size = bs.size) (hs' : cs.size = ds.size) (h : ∀ (i : Nat) v v', as[i]? = some v → bs[i]? = some v' → VR D ι v v')
      (h' : ∀ (i : Nat) v v', cs[i]? = some v → ds[i]? = some v' → VR D ι v v') : VR D ι (.func fn as cs) (.func fn bs ds)

/-- arrays, cell by cell -/
def AR (D : Nat → Prop) (ι : Nat → Reg) (as bs : Array Value) : Prop :=
  as.size = bs.size ∧ ∀ (i : Nat) v v', as[i]? = some v → bs[i]? = some v' → VR D ι v v'

theorem VR.mono {D D' : Nat → Prop} {ι ι' : Nat → Reg} {v v' : Value} (h : VR D ι v v') (hD : ∀ id, D id → D' id) (hi : ∀ id, D id → ι' id = ι id) : VR D' ι' v v' := by
  induction h with
  | junk v => exact .junk v
  | sym v h => exact .sym v h
  | err b v h => exact .err b v h
  | aint k n => exact .aint k n
  | dat id a l c h e => rw [← hi id h] at e; exact .dat id a l c (hD _ h) e
  | pel id i j b o l c h e => rw [← hi id h] at e ⊢; exact .pel id i j b o l c (hD _ h) e
  | bool b => exact .bool b
  | int k n => exact .int k n
  | float k n => exact .float k n
  | complex k a b => exact .complex k a b
  | string s => exact .string s
  | ptrN => exact .ptrN
  | ptr id off h => rw [← hi id h]; exact .ptr id off (hD _ h)
  | slN l c => exact .slN l c
  | slK id off l c h hc => rw [← hi id h]; exact .slK id off l c (hD _ h) hc
  | slU id off l c h h1 h2 => rw [← hi id h] at h2 ⊢; exact .slU id off l c (hD _ h) h1 h2
  | slE id off o' c h h1 h2 => rw [← hi id h] at h1 h2 ⊢; exact .slE id off o' c (hD _ h) h1 h2
  | mapN => exact .mapN
  | chanN => exact .chanN
  | nilFunc => exact .nilFunc
  | nilIface => exact .nilIface
  | iface t v v' _ ih => exact .iface t v v' ih
  | agg as bs hs _ ih => exact .agg as bs hs ih
  | tuple as bs hs _ ih => exact .tuple as bs hs ih
  | func fn as bs cs ds hs hs' _ _ ih ih' => exact .func fn as bs cs ds hs hs' ih ih'

theorem AR.mono {D D' : Nat → Prop} {ι ι' : Nat → Reg} {a b : Array Value} (h : AR D ι a b) (hD : ∀ id, D id → D' id) (hi : ∀ id, D id → ι' id = ι id) : AR D' ι' a b :=
  ⟨h.1, fun i v v' e e' => (h.2 i v v' e e').mono hD hi⟩

/-- no address in it -/
def plainN : Nat → Value → Bool
  | 0, _ => false
  | n + 1, v => match v with
    | .bool _ | .int .. | .float .. | .complex .. | .string _ | .pointer none | .slice none _ _ | .map none | .chan none | .nilFunc | .nilIface => true
    | .iface _ v => plainN n v
    | .agg cs => cs.toList.all (plainN n)
    | .tuple cs => cs.toList.all (plainN n)
    | .func _ as bs => as.toList.all (plainN n) && bs.toList.all (plainN n)
    | _ => false

theorem plain_refl {D : Nat → Prop} {ι : Nat → Reg} : ∀ (n : Nat) (v : Value), plainN n v = true → VR D ι v v := by
  intro n
  induction n with
  | zero => intro v h; simp [plainN] at h
  | succ n ih =>
    intro v h
    have arr : ∀ as : Array Value, as.toList.all (plainN n) = true → ∀ (i : Nat) v v', as[i]? = some v → as[i]? = some v' → VR D ι v v' := by
      intro as ha i v v' e e'
      rw [e] at e'
      cases e'
      rw [List.all_eq_true] at ha
      exact ih v (ha v (by rw [Array.mem_toList_iff]; exact Array.mem_of_getElem? e))
    cases v with
    | bool b => exact .bool b
    | int k n => exact .int k n
    | float k n => exact .float k n
    | complex k a b => exact .complex k a b
    | string s => exact .string s
    | pointer a => cases a with
      | none => exact .ptrN
      | some a => simp [plainN] at h
    | slice a l c => cases a with
      | none => exact .slN l c
      | some a => simp [plainN] at h
    | map r => cases r with
      | none => exact .mapN
      | some a => simp [plainN] at h
    | chan r => cases r with
      | none => exact .chanN
      | some a => simp [plainN] at h
    | func fn as bs =>
      simp only [plainN, Bool.and_eq_true] at h
      exact .func fn as as bs bs rfl rfl (arr as h.1) (arr bs h.2)
    | nilFunc => exact .nilFunc
    | iface t v => exact .iface t v v (ih v (by simpa [plainN] using h))
    | nilIface => exact .nilIface
    | agg cs => exact .agg cs cs rfl (arr cs (by simpa [plainN] using h))
    | tuple cs => exact .tuple cs cs rfl (arr cs (by simpa [plainN] using h))

theorem plain_eq {D : Nat → Prop} {ι : Nat → Reg} : ∀ (n : Nat) (v v' : Value), plainN n v = true → VR D ι v v' → v' = v := by
  intro n
  induction n with
  | zero => intro v v' h; simp [plainN] at h
  | succ n ih =>
    intro v v' h hv
    have arr : ∀ as bs : Array Value, as.toList.all (plainN n) = true → as.size = bs.size → (∀ (i : Nat) v v', as[i]? = some v → bs[i]? = some v' → VR D ι v v') → bs = as := by
      intro as bs ha hs hh
      refine Array.ext hs.symm fun i h1 h2 => ?_
      rw [List.all_eq_true] at ha
      exact ih _ _ (ha _ (by rw [Array.mem_toList_iff]; exact Array.getElem_mem h2)) (hh i _ _ (Array.getElem?_eq_getElem h2) (Array.getElem?_eq_getElem h1))
    cases hv with
    | junk v => simp [plainN, junk] at h
    | sym v h' => cases n <;> simp [plainN] at h
    | err b v h' => cases n <;> simp [plainN] at h
    | aint k m => cases n <;> simp [plainN] at h
    | dat id a l c h' e => cases n <;> simp [plainN] at h
    | pel id i j b o l c h' e => simp [plainN] at h
    | ptr id off h' => simp [plainN] at h
    | slK id off l c h' hc => simp [plainN] at h
    | slU id off l c h' h1 h2 => simp [plainN] at h
    | slE id off o' c h' h1 h2 => simp [plainN] at h
    | iface t v v' h' => rw [ih v v' (by simpa [plainN] using h) h']
    | agg as bs hs hh => rw [arr as bs (by simpa [plainN] using h) hs hh]
    | tuple as bs hs hh => rw [arr as bs (by simpa [plainN] using h) hs hh]
    | func fn as bs cs ds hs hs' hh hh' =>
      simp only [plainN, Bool.and_eq_true] at h
      rw [arr as bs h.1 hs hh, arr cs ds h.2 hs' hh']
    | _ => rfl

/-! ## abstract memory, location by location -/
inductive Hd where
  | row (len : Nat) (elem : TypeId) (ro : Bool)
  | iter (s : ByteArray) (pos : Nat)
  | dat (t : Ty) (xs : List t.Den)
  | vec (t : Ty) (xs : List t.Den) (elem : TypeId)

structure H where
  hdr : Nat → Option Hd
  cell : Nat → Nat → Option Value

def Lv (h : H) (id : Nat) : Prop := ∃ x, h.hdr id = some x
def Hd.wr : Hd → Prop
  | .row _ _ ro => ro = false
  | .iter _ _ => True
  | .dat _ _ => False
  | .vec _ _ _ => True
def Wr (h : H) (id : Nat) : Prop := ∃ x, h.hdr id = some x ∧ x.wr

theorem Wr.lv {h : H} {id : Nat} (x : Wr h id) : Lv h id := let ⟨y, e, _⟩ := x; ⟨y, e⟩

/-- the blocks that are never written again hold what they hold -/
def FzOK (fz : Nat → Option (Array Value)) (w : World) : Prop := ∀ b c, fz b = some c → ∃ e fr, w.heap[b]? = some (.cells c e fr)

def HdrOK (P : Program) (ι : Nat → Reg) (id : Nat) (w : World) : Hd → Prop
  | .row len elem ro => ∃ (c : Array Value) (e : TypeId) (fr : Nat × Nat), w.heap[(ι id).blk]? = some (.cells c e fr) ∧ (ι id).base + (ι id).room = c.size ∧ len ≤ (ι id).room ∧
      ((ι id).own = true ∧ ∀ b, ¬ (ι id).Fz b) ∧
      (ro = false → e = elem ∧ (∀ i, P.info? elem = some i → (ι id).esz = i.size ∧ (ι id).base % i.size = 0 ∧ c.size % i.size = 0) ∧ ∀ o, o < c.size → ¬ (fr.1 ≤ o ∧ o < fr.2))
  | .iter s pos => w.heap[(ι id).blk]? = some (.stringIter s pos) ∧ (ι id).base = 0 ∧ (ι id).own = true ∧ ∀ b, ¬ (ι id).Fz b
  | .dat t xs => RdS (ι id).fz t xs (ι id).sv ∧ (ι id).esz = t.sz ∧ (ι id).own = false ∧ FzOK (ι id).fz w
  | .vec t xs elem => (ι id).esz = t.sz ∧ FzOK (ι id).fz w ∧ ((ι id).own = false ∧ xs = [] ∧ (ι id).sv = .slice none 0 0 ∨
      (ι id).own = true ∧ ¬ (ι id).Fz (ι id).blk ∧ ∃ (cap : Nat) (c : Array Value) (fr : Nat × Nat), (ι id).sv = .slice (some ⟨(ι id).blk, (ι id).base, none⟩) xs.length cap ∧ xs.length ≤ cap ∧
        w.heap[(ι id).blk]? = some (.cells c elem fr) ∧ (ι id).base + (ι id).room = c.size ∧ cap * t.sz ≤ (ι id).room ∧
        (∀ i, P.info? elem = some i → t.sz = i.size ∧ (ι id).base % i.size = 0 ∧ c.size % i.size = 0) ∧ (∀ o, o < c.size → ¬ (fr.1 ≤ o ∧ o < fr.2)) ∧
        RdL (ι id).fz t xs (c.toList.drop (ι id).base))

def CellOK (D : Nat → Prop) (ι : Nat → Reg) (id : Nat) (w : World) (k : Nat) (v : Value) : Prop :=
  (ι id).own = true ∧ ∃ v', w.cell? ⟨(ι id).blk, (ι id).base + k, none⟩ = some v' ∧ VR D ι v v'

theorem heap_lt {w : World} {b : Nat} {o : Obj} (e : w.heap[b]? = some o) : b < w.heap.size := by
  rcases Nat.lt_or_ge b w.heap.size with h | h
  · exact h
  · rw [Array.getElem?_eq_none h] at e; cases e

theorem HdrOK.lt {P : Program} {ι : Nat → Reg} {id : Nat} {w : World} {x : Hd} (h : HdrOK P ι id w x) {b : Nat} (hb : (ι id).Own b ∨ (ι id).Fz b) : b < w.heap.size := by
  cases x with
  | row len elem ro =>
    obtain ⟨c, e', fr, e, _, _, ⟨_, hf⟩, _⟩ := h
    rcases hb with ⟨_, rfl⟩ | hb
    · exact heap_lt e
    · exact absurd hb (hf b)
  | iter s pos =>
    obtain ⟨e, _, _, hf⟩ := h
    rcases hb with ⟨_, rfl⟩ | hb
    · exact heap_lt e
    · exact absurd hb (hf b)
  | dat t xs =>
    obtain ⟨_, _, ho, hz⟩ := h
    rcases hb with ⟨h, _⟩ | ⟨c, hb⟩
    · rw [ho] at h; cases h
    · obtain ⟨e, fr, e'⟩ := hz b c hb; exact heap_lt e'
  | vec t xs elem =>
    obtain ⟨_, hz, h⟩ := h
    rcases hb with ⟨ht, rfl⟩ | ⟨c, hb⟩
    · rcases h with ⟨h, _⟩ | ⟨_, _, cap, c, fr, _, _, e, _⟩
      · rw [h] at ht; cases ht
      · exact heap_lt e
    · obtain ⟨e, fr, e'⟩ := hz b c hb; exact heap_lt e'
/-- its own block is none of those that are never written -/
theorem HdrOK.self {P : Program} {ι : Nat → Reg} {id : Nat} {w : World} {x : Hd} (h : HdrOK P ι id w x) {b : Nat} (hb : (ι id).Own b) : ¬ (ι id).Fz b := by
  cases x with
  | row len elem ro => obtain ⟨c, e', fr, e, _, _, ⟨_, hf⟩, _⟩ := h; exact hf b
  | iter s pos => obtain ⟨e, _, _, hf⟩ := h; exact hf b
  | dat t xs => obtain ⟨_, _, ho, _⟩ := h; rw [hb.1] at ho; cases ho
  | vec t xs elem =>
    obtain ⟨_, _, h⟩ := h
    rcases h with ⟨h, _⟩ | ⟨_, h, _⟩
    · rw [hb.1] at h; cases h
    · rw [← hb.2]; exact h
theorem HdrOK.own_row {P : Program} {ι : Nat → Reg} {id : Nat} {w : World} {l : Nat} {e : TypeId} {ro : Bool} (h : HdrOK P ι id w (.row l e ro)) : (ι id).Own (ι id).blk := by
  obtain ⟨_, _, _, _, _, _, ⟨h, _⟩, _⟩ := h; exact ⟨h, rfl⟩

/-! ## what a step touches -/
structure Foot where
  rc : List (Nat × Nat)
  rh : List Nat
  wc : List (Nat × Nat)
  wh : List Nat

def Foot.nil : Foot := ⟨[], [], [], []⟩
def Foot.add (a b : Foot) : Foot := ⟨a.rc ++ b.rc, a.rh ++ b.rh, a.wc ++ b.wc, a.wh ++ b.wh⟩
def Foot.Wi (φ : Foot) (id : Nat) : Prop := id ∈ φ.wh
def Foot.Wc (φ : Foot) (id k : Nat) : Prop := (id, k) ∈ φ.wc ∨ id ∈ φ.wh
def Foot.Fc (φ : Foot) (id k : Nat) : Prop := (id, k) ∈ φ.rc ∨ id ∈ φ.rh ∨ (id, k) ∈ φ.wc ∨ id ∈ φ.wh
def Foot.Fi (φ : Foot) (id : Nat) : Prop := (∃ k, (id, k) ∈ φ.rc) ∨ id ∈ φ.rh ∨ (∃ k, (id, k) ∈ φ.wc) ∨ id ∈ φ.wh

theorem Foot.Wi.wc {φ : Foot} {id : Nat} (h : φ.Wi id) (k : Nat) : φ.Wc id k := .inr h
theorem Foot.Wc.fc {φ : Foot} {id k : Nat} (h : φ.Wc id k) : φ.Fc id k := by
  rcases h with h | h
  · exact .inr (.inr (.inl h))
  · exact .inr (.inr (.inr h))
theorem Foot.Fc.fi {φ : Foot} {id k : Nat} (h : φ.Fc id k) : φ.Fi id := by
  rcases h with h | h | h | h
  · exact .inl ⟨_, h⟩
  · exact .inr (.inl h)
  · exact .inr (.inr (.inl ⟨_, h⟩))
  · exact .inr (.inr (.inr h))
theorem Foot.Wi.fi {φ : Foot} {id : Nat} (h : φ.Wi id) : φ.Fi id := (h.wc 0).fc.fi
theorem Foot.Wc.fi {φ : Foot} {id k : Nat} (h : φ.Wc id k) : φ.Fi id := h.fc.fi
theorem Foot.add_Wi {a b : Foot} {id : Nat} : (a.add b).Wi id ↔ a.Wi id ∨ b.Wi id := by simp [Foot.add, Foot.Wi]
theorem Foot.add_Wc {a b : Foot} {id k : Nat} : (a.add b).Wc id k ↔ a.Wc id k ∨ b.Wc id k := by
  simp only [Foot.add, Foot.Wc, List.mem_append]
  constructor
  · rintro ((h | h) | (h | h)) <;> simp [h]
  · rintro ((h | h) | (h | h)) <;> simp [h]
theorem Foot.add_Fc {a b : Foot} {id k : Nat} : (a.add b).Fc id k ↔ a.Fc id k ∨ b.Fc id k := by
  simp only [Foot.add, Foot.Fc, List.mem_append]
  constructor
  · rintro ((h | h) | (h | h) | (h | h) | (h | h)) <;> simp [h]
  · rintro ((h | h | h | h) | (h | h | h | h)) <;> simp [h]
theorem Foot.add_Fi {a b : Foot} {id : Nat} : (a.add b).Fi id ↔ a.Fi id ∨ b.Fi id := by
  simp only [Foot.add, Foot.Fi, List.mem_append]
  constructor
  · rintro (⟨k, h | h⟩ | (h | h) | ⟨k, h | h⟩ | (h | h))
    · exact .inl (.inl ⟨k, h⟩)
    · exact .inr (.inl ⟨k, h⟩)
    · exact .inl (.inr (.inl h))
    · exact .inr (.inr (.inl h))
    · exact .inl (.inr (.inr (.inl ⟨k, h⟩)))
    · exact .inr (.inr (.inr (.inl ⟨k, h⟩)))
    · exact .inl (.inr (.inr (.inr h)))
    · exact .inr (.inr (.inr (.inr h)))
  · rintro ((⟨k, h⟩ | h | ⟨k, h⟩ | h) | (⟨k, h⟩ | h | ⟨k, h⟩ | h))
    · exact .inl ⟨k, .inl h⟩
    · exact .inr (.inl (.inl h))
    · exact .inr (.inr (.inl ⟨k, .inl h⟩))
    · exact .inr (.inr (.inr (.inl h)))
    · exact .inl ⟨k, .inr h⟩
    · exact .inr (.inl (.inr h))
    · exact .inr (.inr (.inl ⟨k, .inr h⟩))
    · exact .inr (.inr (.inr (.inr h)))

/-! ## what holds of memory where a step looks, and what a step promises -/
structure HOn (P : Program) (D : Nat → Prop) (ι : Nat → Reg) (h : H) (φ : Foot) (w : World) : Prop where
  hd : ∀ id x, φ.Fi id → h.hdr id = some x → HdrOK P ι id w x
  ce : ∀ id k v, φ.Fc id k → Lv h id → h.cell id k = some v → CellOK D ι id w k v
  inj : ∀ i j, φ.Fi i → φ.Fi j → Lv h i → Lv h j → i ≠ j → ∀ b, (ι i).Own b → ¬ (ι j).Own b ∧ ¬ (ι j).Fz b

/-- objects that are alike but for some cells -/
def ObjBut (S : Nat → Prop) : Option Obj → Option Obj → Prop
  | some (.cells c e fr), o => ∃ c', o = some (.cells c' e fr) ∧ c'.size = c.size ∧ ∀ k, ¬ S k → c'[k]? = c[k]?
  | a, o => o = a

theorem ObjBut.refl (S : Nat → Prop) (a : Option Obj) : ObjBut S a a := by
  unfold ObjBut
  split
  · exact ⟨_, rfl, rfl, fun _ _ => rfl⟩
  · rfl
theorem ObjBut.mono {S S' : Nat → Prop} {a b : Option Obj} (h : ObjBut S a b) (hs : ∀ k, S k → S' k) : ObjBut S' a b := by
  rcases a with _ | a
  · exact h
  · cases a with
    | cells c e fr =>
      obtain ⟨c', e, hz, hk⟩ := h
      exact ⟨c', e, hz, fun k hn => hk k fun x => hn (hs k x)⟩
    | _ => exact h
theorem ObjBut.trans {S S' : Nat → Prop} {a b c : Option Obj} (h : ObjBut S a b) (h' : ObjBut S' b c) : ObjBut (fun k => S k ∨ S' k) a c := by
  rcases a with _ | a
  · have h : b = none := h
    subst h
    exact h'
  · cases a with
    | cells c0 e fr =>
      obtain ⟨c1, rfl, hz, hk⟩ := h
      obtain ⟨c2, e, hz2, hk2⟩ := h'
      exact ⟨c2, e, hz2.trans hz, fun k hn => (hk2 k fun x => hn (.inr x)).trans (hk k fun x => hn (.inl x))⟩
    | _ => (have h : b = _ := h); subst h; exact h'
theorem ObjBut.eq {S : Nat → Prop} {a b : Option Obj} (h : ObjBut S a b) (hs : ∀ k, ¬ S k) : b = a := by
  rcases a with _ | a
  · exact h
  · cases a with
    | cells c e fr =>
      obtain ⟨c', e, hz, hk⟩ := h
      have : c' = _ := Array.ext_getElem? fun k => hk k (hs k)
      rw [e, this]
    | _ => exact h

structure Post (P : Program) (D N : Nat → Prop) (ι : Nat → Reg) (h : H) (w : World) (φ : Foot) (ι' : Nat → Reg) (h' : H) (w' : World) : Prop where
  io : ∀ id, ¬ N id → ι' id = ι id
  size : w.heap.size ≤ w'.heap.size
  os : w'.os = w.os
  out : w'.output = w.output
  hdr : ∀ id x, φ.Wi id ∨ N id → h'.hdr id = some x → HdrOK P ι' id w' x
  cel : ∀ id k v, φ.Wc id k ∨ N id → Lv h' id → h'.cell id k = some v → CellOK (fun i => D i ∨ N i) ι' id w' k v
  ahdr : ∀ id, ¬ N id → ¬ φ.Wi id → h'.hdr id = h.hdr id
  acel : ∀ id k, ¬ N id → ¬ φ.Wc id k → h'.cell id k = h.cell id k
  cfr : ∀ b, b < w.heap.size → (∀ id, φ.Wi id → Wr h id → ¬ (ι id).Own b) → ObjBut (fun o => ∃ id k, φ.Wc id k ∧ Wr h id ∧ (ι id).Own b ∧ (ι id).base + k = o) w.heap[b]? w'.heap[b]?
  fresh : ∀ id, N id → Lv h' id → ∀ b, (ι' id).Own b → (w.heap.size ≤ b ∧ b < w'.heap.size) ∨ ∃ k, φ.Wi k ∧ ¬ N k ∧ Wr h k ∧ ¬ Lv h' k ∧ (ι k).Own b
  freshF : ∀ id, N id → Lv h' id → ∀ b, (ι' id).Fz b → (w.heap.size ≤ b ∧ b < w'.heap.size) ∨ (∃ k, φ.Wi k ∧ ¬ N k ∧ Wr h k ∧ ¬ Lv h' k ∧ (ι k).Own b) ∨ ∃ k, φ.Fi k ∧ ¬ N k ∧ Lv h k ∧ (ι k).Fz b
  dist : ∀ i j, N i → N j → Lv h' i → Lv h' j → i ≠ j → ∀ b, (ι' i).Own b → ¬ (ι' j).Own b ∧ ¬ (ι' j).Fz b
  nl : ∀ id, N id → h.hdr id = none
  wl : ∀ id k, φ.Wc id k → ¬ N id → Lv h id
  wrm : ∀ id, ¬ N id → Wr h' id → Wr h id
  wrow : ∀ id k, φ.Wc id k → ¬ φ.Wi id → ¬ N id → ∃ l e ro, h.hdr id = some (.row l e ro)

theorem Post.refl (P : Program) (D N : Nat → Prop) (ι : Nat → Reg) (h : H) (w : World) (hn : ∀ id, ¬ N id) : Post P D N ι h w .nil ι h w where
  io := fun _ _ => rfl
  size := Nat.le_refl _
  os := rfl
  out := rfl
  hdr := fun id x hx => by rcases hx with hx | hx; cases hx; exact absurd hx (hn id)
  cel := fun id k v hx => by rcases hx with (hx | hx) | hx; cases hx; cases hx; exact absurd hx (hn id)
  ahdr := fun _ _ _ => rfl
  acel := fun _ _ _ _ => rfl
  cfr := fun _ _ _ => ObjBut.refl _ _
  fresh := fun id hx => absurd hx (hn id)
  freshF := fun id hx => absurd hx (hn id)
  dist := fun i _ hx => absurd hx (hn i)
  nl := fun id hx => absurd hx (hn id)
  wl := fun id k hx => by rcases hx with hx | hx <;> cases hx
  wrm := fun _ _ hx => hx
  wrow := fun id k hx => by rcases hx with hx | hx <;> cases hx

/-- a header, and a cell, that a change of memory leaves alone -/
theorem FzOK.keep {fz : Nat → Option (Array Value)} {w w' : World} (h : FzOK fz w) (hb : ∀ b c, fz b = some c → w'.heap[b]? = w.heap[b]?) : FzOK fz w' := fun b c e => by
  obtain ⟨e1, fr, e2⟩ := h b c e
  exact ⟨e1, fr, by rw [hb b c e]; exact e2⟩
theorem HdrOK.keep {P : Program} {ι ι' : Nat → Reg} {id : Nat} {w w' : World} {x : Hd} {S : Nat → Nat → Prop} (h : HdrOK P ι id w x) (hi : ι' id = ι id) (hb : ∀ b, (ι id).Own b ∨ (ι id).Fz b → ObjBut (S b) w.heap[b]? w'.heap[b]?)
    (hs : (∃ l e ro, x = .row l e ro) ∨ ∀ b, (ι id).Own b ∨ (ι id).Fz b → ∀ k, ¬ S b k) : HdrOK P ι' id w' x := by
  cases x with
  | row len elem ro =>
    have hown := h.own_row
    obtain ⟨c, el, fr, e, h1, h2, h4, h3⟩ := h
    have hb := hb _ (.inl hown)
    rw [e] at hb
    obtain ⟨c', e', hz, _⟩ := hb
    refine ⟨c', el, fr, by rw [hi]; exact e', by rw [hi, hz]; exact h1, by rw [hi]; exact h2, by rw [hi]; exact h4, fun hr => ?_⟩
    obtain ⟨g1, g2, g3⟩ := h3 hr
    exact ⟨g1, fun i hi' => by rw [hi, hz]; exact g2 i hi', fun o ho => g3 o (hz ▸ ho)⟩
  | iter s pos =>
    obtain ⟨e, h0, h1, h2⟩ := h
    have hb := hb _ (.inl ⟨h1, rfl⟩)
    rw [e] at hb
    exact ⟨by rw [hi]; exact hb, by rw [hi]; exact ⟨h0, h1, h2⟩⟩
  | dat t xs =>
    have hs := hs.resolve_left (by rintro ⟨_, _, _, h⟩; cases h)
    obtain ⟨h1, h2, h3, h4⟩ := h
    simp only [HdrOK, hi]
    exact ⟨h1, h2, h3, h4.keep fun b c hb' => (hb b (.inr ⟨c, hb'⟩)).eq (hs b (.inr ⟨c, hb'⟩))⟩
  | vec t xs elem =>
    have hs := hs.resolve_left (by rintro ⟨_, _, _, h⟩; cases h)
    obtain ⟨h1, h2, h3⟩ := h
    simp only [HdrOK, hi]
    refine ⟨h1, h2.keep fun b c hb' => (hb b (.inr ⟨c, hb'⟩)).eq (hs b (.inr ⟨c, hb'⟩)), h3.imp_right ?_⟩
    rintro ⟨g1, g2, cap, c, fr, g3, g4, g5, g6⟩
    exact ⟨g1, g2, cap, c, fr, g3, g4, by rw [(hb _ (.inl ⟨g1, rfl⟩)).eq (hs _ (.inl ⟨g1, rfl⟩))]; exact g5, g6⟩
theorem CellOK.keep {D D' : Nat → Prop} {ι ι' : Nat → Reg} {id k : Nat} {w w' : World} {v : Value} {S : Nat → Prop} (h : CellOK D ι id w k v) (hi : ι' id = ι id) (hD : ∀ i, D i → D' i) (hiD : ∀ i, D i → ι' i = ι i)
    (hb : ObjBut S w.heap[(ι id).blk]? w'.heap[(ι id).blk]?) (hS : ¬ S ((ι id).base + k)) : CellOK D' ι' id w' k v := by
  obtain ⟨ho, v', e, hv⟩ := h
  refine ⟨by rw [hi]; exact ho, v', ?_, hv.mono hD hiD⟩
  rw [hi]
  simp only [World.cell?] at e ⊢
  split at e
  · rename_i c el fr hc
    rw [hc] at hb
    obtain ⟨c', e', hz, hk⟩ := hb
    rw [e']
    simp only [Option.isSome_none, Bool.false_eq_true, if_false] at e ⊢
    rw [hk _ hS]; exact e
  · cases e

theorem Wr.of_hdr {h h' : H} {id : Nat} (e : h'.hdr id = h.hdr id) (x : Wr h' id) : Wr h id := by
  obtain ⟨y, hy, hw⟩ := x; exact ⟨y, e ▸ hy, hw⟩
theorem Lv.of_hdr {h h' : H} {id : Nat} (e : h'.hdr id = h.hdr id) (x : Lv h' id) : Lv h id := by
  obtain ⟨y, hy⟩ := x; exact ⟨y, e ▸ hy⟩

end Go.Eng

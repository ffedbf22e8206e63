/-
  What the functions of scan compute, in plain words; words that stand for what a function computes. No condition.
-/
import Derived.Test.YtpdbgpkedehpgaaGreatDoorNice
import Derived.Test.YtpdbgpkedehpgaaGreatDoorEng11
namespace Nice
open Go Go.Eng
theorem hide {α : Type} (x : α) : ∃ y, y = x := ⟨x, rfl⟩
/-- a word that stands for another one, and is never unfolded -/
noncomputable def hid {α : Type} (x : α) : α := Classical.choose (hide x)
theorem hid_eq {α : Type} (x : α) : hid x = x := Classical.choose_spec (hide x)
abbrev HeadD := List UInt8 × List UInt8 × Unit
abbrev ReqD := List UInt8 × List UInt8 × List UInt8 × List HeadD × List UInt8 × Unit
abbrev ScanD := Int × Int × Int × Int × List UInt8 × ReqD × Int × List ReqD × Unit
abbrev ReqO : OT := .pair (.d .str) (.pair (.d .str) (.pair (.d .str) (.pair (.vec (.pair .str (.pair .str .unit)) 59) (.pair (.d .str) .unit))))
abbrev ScanO : OT := .pair (.d (.int .i64)) (.pair (.d (.int .i64)) (.pair (.d (.int .i64)) (.pair (.d (.int .i64)) (.pair (.vec .byte 5) (.pair ReqO (.pair (.d (.int .i64)) (.pair (.vec (.pair .str (.pair .str (.pair .str (.pair (.slice (.pair .str (.pair .str .unit))) (.pair .str .unit))))) 28) .unit)))))))
abbrev setC : List Value := [.bool false, .bool false, .bool false, .bool false, .bool false, .bool false, .bool false, .bool false, .bool false, .bool true] ++ List.replicate 22 (.bool false) ++ [.bool true] ++ List.replicate 223 (.bool false)
noncomputable abbrev sigB : OSpec := ⟨true, 0, ScanO, 77, [.d .byte], [.d (.int .i64)], fun _ _ => true, fun x _ => (x, (0 : Int), ())⟩
noncomputable abbrev sig0 : OSpec := ⟨true, 0, ScanO, 77, [], [.d (.int .i64)], fun _ _ => true, fun x _ => (x, (0 : Int), ())⟩
noncomputable abbrev sig0b : OSpec := ⟨true, 0, ScanO, 77, [], [.d .bool], fun _ _ => true, fun x _ => (x, false, ())⟩
noncomputable abbrev sigF : OSpec := ⟨true, 0, ScanO, 77, [.d .str], [.vec ReqT 28], fun _ _ => true, fun x _ => (x, [], ())⟩
noncomputable abbrev sigFi : OSpec := ⟨false, 0, .unit, 0, [.d .str], [ReqO, .d (.int .i64), .d .bool], fun _ _ => true, fun x _ => (x, ([], [], [], [], [], ()), (0 : Int), false, ())⟩
noncomputable abbrev sigOn : OSpec := ⟨false, 0, .unit, 0, [.d .str], [ReqO, .d (.int .i64), .d (.int .i64)], fun _ _ => true, fun x _ => (x, ([], [], [], [], [], ()), (0 : Int), (0 : Int), ())⟩
noncomputable abbrev sigFs : OSpec := ⟨false, 0, .unit, 0, [.d .str, .d (.slice (.int .i64))], [.vec ReqT 28, .ptr ScanO 77], fun _ _ => true, fun x _ => (x, [], ScanO.dflt, ())⟩
noncomputable abbrev sigAs : OSpec := ⟨true, 0, .con setC, 231, [.d .byte], [.d .bool], fun _ _ => true, fun x _ => (x, false, ())⟩
noncomputable abbrev sigTr : OSpec := ⟨true, 1, .con setC, 231, [.d .str], [.d .str], fun _ _ => true, fun x _ => (x, [], ())⟩
def isVis (c : UInt8) : Bool := decide (33 ≤ c.toNat ∧ c.toNat ≤ 126 ∧ c.toNat ≠ 35)
def isTok (c : UInt8) : Bool := decide (65 ≤ c.toNat ∧ c.toNat ≤ 90 ∨ 97 ≤ c.toNat ∧ c.toNat ≤ 122 ∨ 48 ≤ c.toNat ∧ c.toNat ≤ 57 ∨ c.toNat = 45)
def isLet (c : UInt8) : Bool := decide (65 ≤ c.toNat ∧ c.toNat ≤ 90 ∨ 97 ≤ c.toNat ∧ c.toNat ≤ 122)
def isSp (c : UInt8) : Bool := c == 32 || c == 9
def trimL (s : List UInt8) : List UInt8 := s.dropWhile isSp
def trimR (s : List UInt8) : List UInt8 := (s.reverse.dropWhile isSp).reverse
def longN (x : ScanD) (c : UInt8) : Int :=
  if c.toNat = 13 ∨ x.1 ≥ 7 ∨ x.1 = 4 then 0
  else if x.1 < 5 ∧ x.2.2.1 ≥ 200 then 414
  else if x.1 ≥ 5 ∧ x.2.2.1 ≥ 120 then 431
  else if x.1 = 5 ∧ x.2.2.1 = 0 ∧ (x.2.2.2.2.2.1.2.2.2.1.length : Int) ≥ 10 then 431
  else 0
def idleN (x : ScanD) : Bool := x.2.1 != 0 || (x.1 == 0 && x.2.2.1 == 0)
noncomputable def visS : PSpec := ⟨[.byte], [.bool], fun _ => true, fun x => (isVis x.1, ())⟩
noncomputable def tokS : PSpec := ⟨[.byte], [.bool], fun _ => true, fun x => (isTok x.1, ())⟩
noncomputable def letS : PSpec := ⟨[.byte], [.bool], fun _ => true, fun x => (isLet x.1, ())⟩
noncomputable def isSpS : OSpec := niceO sigAs (fun _ _ => true) fun _ y => ((), isSp y.1, ())
noncomputable def trimLS : OSpec := niceO sigTr (fun _ y => decide (y.1.length ≤ 140737488355328)) fun _ y => ((), trimL y.1, ())
noncomputable def trimRS : OSpec := niceO sigTr (fun _ y => decide (y.1.length ≤ 140737488355328)) fun _ y => ((), trimR y.1, ())
noncomputable def trimS : PSpec := ⟨[.str, .str], [.str], fun x => (x.2.1 == [32, 9]) && decide (x.1.length ≤ 140737488355328), fun x => (trimL (trimR x.1), ())⟩
noncomputable def longS : OSpec := niceO sigB (fun _ _ => true) fun x y => (x, longN x y.1, ())
noncomputable def idleS : OSpec := niceO sig0b (fun _ _ => true) fun x _ => (x, idleN x, ())
/-! ### contracts by such words -/
theorem hidO {P : Program} {gl : List (Nat × List Value)} {f : FuncId} {S : OSpec} {g : S.root.Den → DenO S.ts → Option (S.root.Den × DenO S.rs)} (h : ObjC P gl f (ofOO S g)) {p : S.root.Den → DenO S.ts → Bool} {n : S.root.Den → DenO S.ts → S.root.Den × DenO S.rs}
    (hp : p = fun x y => (g x y).isSome) (hn : n = fun x y => (g x y).getD (S.root.dflt, dfltO S.rs)) : ObjC P gl f (niceO S p n) := h.nice fun x y hx => by
  subst hp hn
  obtain ⟨z, hz⟩ := Option.isSome_iff_exists.1 hx
  show g x y = some ((g x y).getD _)
  rw [hz]; rfl
theorem hidP {P : Program} {gl : List (Nat × List Value)} {f : FuncId} {ts rs : List Ty} {g : DenL ts → Option (DenL rs)} (h : PureC P gl f (ofO ts rs g)) {p : DenL ts → Bool} {n : DenL ts → DenL rs}
    (hp : p = fun x => (g x).isSome) (hn : n = fun x => (g x).getD (dfltL rs)) : PureC P gl f ⟨ts, rs, p, n⟩ := h.nice fun x hx => by
  subst hp hn
  obtain ⟨z, hz⟩ := Option.isSome_iff_exists.1 hx
  show g x = some ((g x).getD _)
  rw [hz]; rfl
end Nice

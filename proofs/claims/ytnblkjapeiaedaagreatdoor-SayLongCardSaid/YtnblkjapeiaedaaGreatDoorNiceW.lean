/-
  Answers as bytes (say), in plain words; the contracts' specifications. No condition.
-/
import Derived.Test.YtnblkjapeiaedaaGreatDoorNiceK
import Derived.Lib.TrimByte
import Derived.Lib.Case
namespace Nice
open Go Go.Eng
abbrev HeadD : Type := List UInt8 × List UInt8 × Unit
abbrev AnsD : Type := Int × List HeadD × List UInt8 × Unit
abbrev AnsT : Ty := .pair (.int .i64) (.pair (.slice HeadT) (.pair .str .unit))
--WORDS
def wordsN (n : Int) : List UInt8 := bif n == 200 then [79, 75] else bif n == 204 then [78, 111, 32, 67, 111, 110, 116, 101, 110, 116] else bif n == 400 then [66, 97, 100, 32, 82, 101, 113, 117, 101, 115, 116] else bif n == 404 then [78, 111, 116, 32, 70, 111, 117, 110, 100] else bif n == 405 then [77, 101, 116, 104, 111, 100, 32, 78, 111, 116, 32, 65, 108, 108, 111, 119, 101, 100] else bif n == 412 then [80, 114, 101, 99, 111, 110, 100, 105, 116, 105, 111, 110, 32, 70, 97, 105, 108, 101, 100] else bif n == 413 then [67, 111, 110, 116, 101, 110, 116, 32, 84, 111, 111, 32, 76, 97, 114, 103, 101] else bif n == 414 then [85, 82, 73, 32, 84, 111, 111, 32, 76, 111, 110, 103] else bif n == 431 then [82, 101, 113, 117, 101, 115, 116, 32, 72, 101, 97, 100, 101, 114, 32, 70, 105, 101, 108, 100, 115, 32, 84, 111, 111, 32, 76, 97, 114, 103, 101] else bif n == 503 then [83, 101, 114, 118, 105, 99, 101, 32, 85, 110, 97, 118, 97, 105, 108, 97, 98, 108, 101] else bif n == 507 then [73, 110, 115, 117, 102, 102, 105, 99, 105, 101, 110, 116, 32, 83, 116, 111, 114, 97, 103, 101] else []
def tokB (c : UInt8) : Bool := decide (65 ≤ c.toNat ∧ c.toNat ≤ 90 ∨ 97 ≤ c.toNat ∧ c.toNat ≤ 122 ∨ 48 ≤ c.toNat ∧ c.toNat ≤ 57 ∨ c.toNat = 45)
def prB (c : UInt8) : Bool := decide (32 ≤ c.toNat ∧ c.toNat ≤ 126)
def kindB (k : Nat) (c : UInt8) : Bool := bif Nat.beq k 64 then tokB c else bif Nat.beq k 66 then prB c else isDig c
def runLN (k : Nat) (s : List UInt8) : Int := ((s.takeWhile (kindB k)).length : Int)
def kindP (k : Nat) : Bool := Nat.beq k 64 || (Nat.beq k 66 || Nat.beq k 137)
def ascP (s : List UInt8) : Bool := s.all (fun c => decide (c.toNat < 128)) && bndS s
def lowN (s : List UInt8) : List UInt8 := lower s
def resN (s : List UInt8) : Bool := lower s == clen
def trim1 (s : List UInt8) : List UInt8 := Lib.trimB s 32
def headB (h : HeadD) : Bool := (decide (1 ≤ h.1.length ∧ h.1.length ≤ 30) && (h.1.all tokB && !(lower h.1 == clen))) && (decide (h.2.1.length ≤ 100) && (h.2.1.all prB && trim1 h.2.1 == h.2.1))
def headP (h : HeadD) : Bool := bndS h.1 && bndS h.2.1
def idxHN (l : List HeadD) : Int := bif l.any (fun h => !headB h) then ((l.takeWhile headB).length : Int) else -1
def anyN (l : List HeadD) : Bool := l.any fun h => !headB h
def headsP (l : List HeadD) : Bool := decide (l.length ≤ 140737488355328) && l.all headP
def amayB (a : AnsD) : Bool := !(wordsN a.1 == []) && (decide (a.2.1.length ≤ 10) && (!anyN a.2.1 && (decide (a.2.2.1.length ≤ 20000) && (!(a.1 == 204) || a.2.2.1 == []))))
def aputP (a : AnsD) : Bool := headsP a.2.1
--SPECS
noncomputable def wordsS : PSpec := ⟨[.int .i64], [.str], fun _ => true, fun x => (wordsN x.1, ())⟩
noncomputable def tokBS : PSpec := ⟨[.byte], [.bool], fun _ => true, fun x => (tokB x.1, ())⟩
noncomputable def prBS : PSpec := ⟨[.byte], [.bool], fun _ => true, fun x => (prB x.1, ())⟩
noncomputable def runS : PSpec := ⟨[.str, .fv], [.int .i64], fun x => bndS x.1 && kindP x.2.1, fun x => (runLN x.2.1 x.1, ())⟩
noncomputable def lowAS : PSpec := ⟨[.str], [.str], fun x => ascP x.1, fun x => (lowN x.1, ())⟩
noncomputable def resS : PSpec := ⟨[.str], [.bool], fun x => ascP x.1, fun x => (resN x.1, ())⟩
noncomputable def trim1S : PSpec := ⟨[.str, .str], [.str], fun x => bndS x.1 && x.2.1 == [32], fun x => (trim1 x.1, ())⟩
noncomputable def mayHS : PSpec := ⟨[HeadT], [.bool], fun x => headP x.1, fun x => (headB x.1, ())⟩
noncomputable def anyS (f : Nat) : PSpec := ⟨[.slice HeadT, .fn f], [.bool], fun x => headsP x.1, fun x => (anyN x.1, ())⟩
noncomputable def notHS : PSpec := ⟨[HeadT], [.bool], fun x => headP x.1, fun x => (!headB x.1, ())⟩
noncomputable def idxHS (f : Nat) : PSpec := ⟨[.slice HeadT, .fn f], [.int .i64], fun x => headsP x.1, fun x => (idxHN x.1, ())⟩
noncomputable def amayAS : PSpec := ⟨[AnsT], [.bool], fun x => aputP x.1, fun x => (amayB x.1, ())⟩
--END
end Nice

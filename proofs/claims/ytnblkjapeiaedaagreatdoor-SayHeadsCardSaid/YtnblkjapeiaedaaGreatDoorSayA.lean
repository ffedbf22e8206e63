/-
  Which answers may be (say): the contracts. No condition.
-/
import Derived.Test.YtnblkjapeiaedaaGreatDoorSym
import Derived.Test.YtnblkjapeiaedaaGreatDoorNiceW
import Derived.Test.YtnblkjapeiaedaaGreatDoorItoaW
import Derived.Test.YtnblkjapeiaedaaGreatDoorShelfV
namespace Nice
open Go Go.Eng
theorem xT {α : Type} (a b : α) : (bif true then a else b) = a := Eq.trans (cond_true a b) rfl
theorem xF {α : Type} (a b : α) : (bif false then a else b) = b := Eq.trans (cond_false a b) rfl
theorem xG {α : Type} (r : Option α) : gd [] r = r := Eq.trans gd_nil rfl
theorem byte_rt (c : UInt8) : UInt8.ofNat ((c.toNat : Int)).toNat = c := by rw [Int.toNat_natCast]; exact UInt8.ofNat_toNat
def bY : Option (DenL [.bool]) := some (true, ())
def bN : Option (DenL [.bool]) := some (false, ())
def rng (c : UInt8) (a b : Int) (o : Option (DenL [.bool])) : Option (DenL [.bool]) := bif decide ((c.toNat : Int) ≥ a) then bif decide ((c.toNat : Int) ≤ b) then bY else o else o
def tk3 (c : UInt8) : Option (DenL [.bool]) := bif (c.toNat : Int) == (45 : Int) then bY else bN
theorem rng_eq (c : UInt8) (a b : Int) (o : Bool) : rng c a b (some (o, ())) = some (decide (a ≤ (c.toNat : Int) ∧ (c.toNat : Int) ≤ b) || o, ()) := by
  unfold rng bY
  by_cases h1 : (c.toNat : Int) ≥ a
  · by_cases h2 : (c.toNat : Int) ≤ b
    · rw [cdT h1, cdT h2, decide_eq_true (⟨h1, h2⟩ : a ≤ (c.toNat : Int) ∧ (c.toNat : Int) ≤ b)]; rfl
    · rw [cdT h1, cdF h2, decide_eq_false (fun h : a ≤ (c.toNat : Int) ∧ (c.toNat : Int) ≤ b => h2 h.2)]; rfl
  · rw [cdF h1, decide_eq_false (fun h : a ≤ (c.toNat : Int) ∧ (c.toNat : Int) ≤ b => h1 h.1)]; rfl
theorem tk3_eq (c : UInt8) : tk3 c = some (decide (c.toNat = 45), ()) := by
  unfold tk3 bY bN
  by_cases h : c.toNat = 45
  · rw [show ((c.toNat : Int) == 45) = true from beq_iff_eq.2 (by omega), decide_eq_true h]; rfl
  · rw [show ((c.toNat : Int) == 45) = false from beq_eq_false_iff_ne.2 (by omega), decide_eq_false h]; rfl
end Nice
namespace Go.Proofs.YtnblkjapeiaedaaGreatDoor
open Go Go.Eng Nice Go.RowKit
set_option maxRecDepth 1000000
noncomputable def otok (x : DenL [.byte]) : Option (DenL [.bool]) := fO Tryz.prog (envS []) (shOf []) Tryz.f64 [.byte] [.bool] x
theorem etok (c : UInt8) : otok (c, ()) = rng c 65 90 (rng c 97 122 (rng c 48 57 (tk3 c))) := by kernel_rfl
theorem tok_c : PC 64 tokBS := (pureO (envS_ok (l := []) trivial) gl_ne Tryz.func64 (by kernel_rfl) (by decide)).nice fun ⟨c, ()⟩ _ => by
  show otok _ = some (tokB c, ())
  rw [etok, tk3_eq, rng_eq, rng_eq, rng_eq]
  unfold tokB
  congr 2
  rw [Bool.eq_iff_iff]; simp only [Bool.or_eq_true, decide_eq_true_iff]; omega
noncomputable def oprn (x : DenL [.byte]) : Option (DenL [.bool]) := fO Tryz.prog (envS []) (shOf []) Tryz.f66 [.byte] [.bool] x
theorem eprn (c : UInt8) : oprn (c, ()) = rng c 32 126 bN := by kernel_rfl
theorem prn_c : PC 66 prBS := (pureO (envS_ok (l := []) trivial) gl_ne Tryz.func66 (by kernel_rfl) (by decide)).nice fun ⟨c, ()⟩ _ => by
  show oprn _ = some (prB c, ())
  rw [eprn]
  unfold bN
  rw [rng_eq, Bool.or_false]
  unfold prB
  congr 2
  rw [decide_eq_decide]; omega
noncomputable def odgt (x : DenL [.byte]) : Option (DenL [.bool]) := fO Tryz.prog (envS []) (shOf []) Tryz.f137 [.byte] [.bool] x
theorem edgt (c : UInt8) : odgt (c, ()) = rng c 48 57 bN := by kernel_rfl
noncomputable def digBS : PSpec := ⟨[.byte], [.bool], fun _ => true, fun x => (isDig x.1, ())⟩
theorem dgt_c : PC 137 digBS := (pureO (envS_ok (l := []) trivial) gl_ne Tryz.func137 (by kernel_rfl) (by decide)).nice fun ⟨c, ()⟩ _ => by
  show odgt _ = some (isDig c, ())
  rw [edgt]
  unfold bN
  rw [rng_eq, Bool.or_false]
  congr 2
  rw [Bool.eq_iff_iff, isDig_iff, decide_eq_true_iff]; omega
/-! ### how many of a text's first bytes are of a kind -/
abbrev shrun : List (Nat × List (Nat × Sh)) := [(2, [(0, (.one .sym)), (1, (.one .any)), (4, (.one .sym)), (7, (.one .sym)), (8, (.one .sym))])]
noncomputable def hrun (k : Nat) (S : PSpec) (n : Nat) (s : List UInt8) (a b i : Int) : Option (DenL [.int .i64]) := rH Tryz.prog (envS [(k, S)]) (shOf shrun) Tryz.f63 [.int .i64] n 0 [(0, sy (.string (bs s))), (1, Value.func (Fn.func k) #[] #[]), (4, sy (.int .i64 a)), (7, sy (.int .i64 b)), (8, sy (.int .i64 i))] []
noncomputable def orun (k : Nat) (S : PSpec) (x : DenL [.str, .fn k]) : Option (DenL [.int .i64]) := fO Tryz.prog (envS [(k, S)]) (shOf shrun) Tryz.f63 [.str, .fn k] [.int .i64] x
noncomputable def nrun (k : Nat) (S : PSpec) (N : Nat) (x : DenL [.str, .fn k]) : Option (DenL [.int .i64]) := fON Tryz.prog (envS [(k, S)]) (shOf shrun) Tryz.f63 [.str, .fn k] [.int .i64] N x
noncomputable def stepR (p : UInt8 → Bool) (s : List UInt8) (b i : Int) (next : Option (DenL [.int .i64])) : Option (DenL [.int .i64]) :=
  bif decide (i < b) then (bif p (UInt8.ofNat ((s.getD i.toNat 0).toNat : Int).toNat) then gd [decide (inK .i64 (i + 1)), decide (inK .u8 ((s.getD i.toNat 0).toNat : Int)), decide (0 ≤ i), decide (i < (s.length : Int))] next
    else gd [decide (inK .u8 ((s.getD i.toNat 0).toNat : Int)), decide (0 ≤ i), decide (i < (s.length : Int))] (some (i, ()))) else some ((s.length : Int), ())
theorem run_gen {k : Nat} {S : PSpec} {p : UInt8 → Bool} (e1 : ∀ (n : Nat) (s : List UInt8) (a b i : Int), hrun k S (n + 1) s a b i = stepR p s b i (hrun k S n s a b (i + 1))) (s : List UInt8) (hs : s.length ≤ 140737488355328) :
    ∀ (r i n : Nat), s.length = i + r → r < n → hrun k S n s 0 (s.length : Int) (i : Int) = some ((i : Int) + ((s.drop i).takeWhile p).length, ()) := by
  intro r
  induction r with
  | zero =>
    intro i n hi hn
    obtain ⟨n, rfl⟩ : ∃ k, n = k + 1 := ⟨n - 1, by omega⟩
    rw [e1]
    unfold stepR
    rw [cdF (by omega), List.drop_eq_nil_of_le (by omega)]
    show some ((s.length : Int), ()) = some ((i : Int) + ((0 : Nat) : Int), ())
    rw [hi]; simp
  | succ r ih =>
    intro i n hi hn
    obtain ⟨n, rfl⟩ : ∃ k, n = k + 1 := ⟨n - 1, by omega⟩
    have hl : i < s.length := by omega
    have hb : (s.getD i 0).toNat < 256 := (s.getD i 0).toNat_lt
    have hd : s.drop i = s.getD i 0 :: s.drop (i + 1) := by
      rw [List.drop_eq_getElem_cons hl, List.getD_eq_getElem?_getD, List.getElem?_eq_getElem hl]; rfl
    rw [e1]
    unfold stepR
    rw [cdT (by omega), show (i : Int).toNat = i from rfl, byte_rt, hd]
    have g8 : inK .u8 ((s.getD i 0).toNat : Int) := inK_u8.2 ⟨by omega, by omega⟩
    cases hp : p (s.getD i 0)
    · rw [xF, gdT g8, gdT (by omega), gdT (by omega), xG, List.takeWhile_cons, hp]; simp
    · have := ih (i + 1) n (by omega) (by omega)
      simp only [Int.natCast_add, Int.natCast_one] at this
      rw [xT, gdT (inK_i64.2 ⟨by omega, by omega⟩), gdT g8, gdT (by omega), gdT (by omega), xG, this, List.takeWhile_cons, hp]
      simp only [if_true, List.length_cons, Int.natCast_add, Int.natCast_one]
      congr 2; omega
theorem erun_64 (n : Nat) (s : List UInt8) (a b i : Int) : hrun 64 tokBS (n + 1) s a b i = stepR tokB s b i (hrun 64 tokBS n s a b (i + 1)) := by kernel_rfl
theorem erun_66 (n : Nat) (s : List UInt8) (a b i : Int) : hrun 66 prBS (n + 1) s a b i = stepR prB s b i (hrun 66 prBS n s a b (i + 1)) := by kernel_rfl
theorem erun_137 (n : Nat) (s : List UInt8) (a b i : Int) : hrun 137 digBS (n + 1) s a b i = stepR isDig s b i (hrun 137 digBS n s a b (i + 1)) := by kernel_rfl
theorem nrun_64 (N : Nat) (s : List UInt8) : nrun 64 tokBS N (s, (), ()) = hrun 64 tokBS N s 0 (s.length : Int) 0 := by kernel_rfl
theorem nrun_66 (N : Nat) (s : List UInt8) : nrun 66 prBS N (s, (), ()) = hrun 66 prBS N s 0 (s.length : Int) 0 := by kernel_rfl
theorem nrun_137 (N : Nat) (s : List UInt8) : nrun 137 digBS N (s, (), ()) = hrun 137 digBS N s 0 (s.length : Int) 0 := by kernel_rfl
noncomputable def runK (k : Nat) : PSpec := ⟨[.str, .fn k], [.int .i64], fun x => bndS x.1, fun x => (runLN k x.1, ())⟩
theorem orun_of {k : Nat} {S : PSpec} {p : UInt8 → Bool} (e1 : ∀ (n : Nat) (s : List UInt8) (a b i : Int), hrun k S (n + 1) s a b i = stepR p s b i (hrun k S n s a b (i + 1))) (e0 : ∀ (N : Nat) (s : List UInt8), nrun k S N (s, (), ()) = hrun k S N s 0 (s.length : Int) 0)
    (hk : kindB k = p) {s : List UInt8} (h : bndS s = true) : orun k S (s, (), ()) = some (runLN k s, ()) := by
  have hs : s.length ≤ 140737488355328 := of_decide_eq_true h
  have e : orun k S (s, (), ()) = nrun k S heads0 (s, (), ()) := rfl
  have := run_gen e1 s hs s.length 0 heads0 (by omega) (by unfold heads0; omega)
  rw [e, e0]
  unfold runLN
  rw [hk]
  refine Eq.trans this ?_
  rw [List.drop_zero]; simp
theorem run64_c : PC 63 (runK 64) := (pureO (sh := shOf shrun) (envS_ok (l := [(64, tokBS)]) ⟨tok_c, trivial⟩) gl_ne Tryz.func63 (by kernel_rfl) (by decide)).nice fun ⟨s, (), ()⟩ h => orun_of erun_64 nrun_64 (by funext c; rfl) h
theorem run66_c : PC 63 (runK 66) := (pureO (sh := shOf shrun) (envS_ok (l := [(66, prBS)]) ⟨prn_c, trivial⟩) gl_ne Tryz.func63 (by kernel_rfl) (by decide)).nice fun ⟨s, (), ()⟩ h => orun_of erun_66 nrun_66 (by funext c; rfl) h
theorem run137_c : PC 63 (runK 137) := (pureO (sh := shOf shrun) (envS_ok (l := [(137, digBS)]) ⟨dgt_c, trivial⟩) gl_ne Tryz.func63 (by kernel_rfl) (by decide)).nice fun ⟨s, (), ()⟩ h => orun_of erun_137 nrun_137 (by funext c; rfl) h
theorem run_c : PC 63 runS := by
  intro fz w args x hfz hgl hr hp
  obtain ⟨s, k, ⟨⟩⟩ := x
  have hp : (bndS s && kindP k) = true := hp
  rw [Bool.and_eq_true] at hp
  have hk : k = 64 ∨ k = 66 ∨ k = 137 := by
    have := hp.2
    unfold kindP at this
    rw [Bool.or_eq_true, Bool.or_eq_true] at this
    rcases this with h | h | h
    · exact .inl (Nat.eq_of_beq_eq_true h)
    · exact .inr (.inl (Nat.eq_of_beq_eq_true h))
    · exact .inr (.inr (Nat.eq_of_beq_eq_true h))
  have hr' : RdAll fz [.str, .fn k] (s, (), ()) args.toList := hr
  rcases hk with rfl | rfl | rfl
  · exact run64_c fz w args (s, (), ()) hfz hgl hr' hp.1
  · exact run66_c fz w args (s, (), ()) hfz hgl hr' hp.1
  · exact run137_c fz w args (s, (), ()) hfz hgl hr' hp.1
end Go.Proofs.YtnblkjapeiaedaaGreatDoor

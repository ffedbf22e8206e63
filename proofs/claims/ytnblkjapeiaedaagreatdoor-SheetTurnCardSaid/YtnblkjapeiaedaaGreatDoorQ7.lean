/-
  Part of the proof: ShX ShY PShA PShB PShC PShD. No condition.
-/
import Derived.Test.YtnblkjapeiaedaaGreatDoorQ6
import Derived.Test.YtnblkjapeiaedaaGreatDoorX0
import Derived.Test.YtnblkjapeiaedaaGreatDoorQ5
namespace Nice
open Go Go.Eng
noncomputable def ofShS : PSpec := ⟨[ShT], [ShT], fun _ => true, fun x => (x.1, ())⟩
def shPre (n : List (List UInt8)) (l : List EntD) : Bool := decide (n.length ≤ 140737488355328) && (decide (l.length ≤ 140737488355328) && l.all fun e => decide (e.2.1.length ≤ 140737488355328))
def nShN (n : List (List UInt8)) : List (List UInt8) := (n.take 22).map fun k => cut k 42
def lShN (l : List EntD) : List EntD := (l.take 22).map lentN
def shN (n : List (List UInt8)) (l : List EntD) (b : Bool) : ShD := (nShN n, lShN l, b, bif b then lastK [] (keysN (nShN n) (lShN l)) else [], ())
noncomputable def shS : PSpec := ⟨[.slice .str, .slice EntT, .bool], [ShT], fun x => shPre x.1 x.2.1, fun x => (shN x.1 x.2.1 x.2.2.1, ())⟩
abbrev SO : Type := Option (DenL [ShT])
noncomputable def stepS0 (n o : List (List UInt8)) (i : Int) (nx : List (List UInt8) → List UInt8 → SO) (ex : SO) : SO :=
  bif decide (i < (n.length : Int)) then (bif decide (i < 22) then gd ([decide (inK .i64 (i + 1)), decide (i.toNat < (o ++ [cut (n.getD i.toNat Ty.str.dflt) 42]).length), decide (0 ≤ i), decide (i < ((o ++ [cut (n.getD i.toNat Ty.str.dflt) 42]).length : Int)), decide ((2 * (o.length + [cut (n.getD i.toNat Ty.str.dflt) 42].length) + 400) * 16 ≤ 281474976710656)] ++ cutS.pre (n.getD i.toNat Ty.str.dflt, 42, ()) :: gI n i) (nx (o ++ [cut (n.getD i.toNat Ty.str.dflt) 42]) ((o ++ [cut (n.getD i.toNat Ty.str.dflt) 42]).getD i.toNat Ty.str.dflt)) else ex) else ex
abbrev eqE (l : List EntD) (i : Int) : EntD := ((lentN ((l.getD i.toNat (EntT).dflt).1, (l.getD i.toNat (EntT).dflt).2.1, ())).1, (lentN ((l.getD i.toNat (EntT).dflt).1, (l.getD i.toNat (EntT).dflt).2.1, ())).2.1, ())
noncomputable def stepS1 (l o : List EntD) (i : Int) (nx : List EntD → List UInt8 → SO) (ex : SO) : SO :=
  bif decide (i < (l.length : Int)) then (bif decide (i < 22) then gd ([decide (inK .i64 (i + 1)), decide (i.toNat < (o ++ [eqE l i]).length), decide (0 ≤ i), decide (i < ((o ++ [eqE l i]).length : Int)), decide ((2 * (o.length + [eqE l i].length) + 400) * 40 ≤ 281474976710656), lentS.pre (((l.getD i.toNat (EntT).dflt).1, (l.getD i.toNat (EntT).dflt).2.1, ()), ())] ++ gI l i) (nx (o ++ [eqE l i]) ((o ++ [eqE l i]).getD i.toNat (EntT).dflt).1) else ex) else ex
def exS (n : List (List UInt8)) (l : List EntD) (b : Bool) (x : List UInt8) : SO := bif !b then some ((n, l, b, [], ()), ()) else some ((n, l, b, x, ()), ())
end Nice
namespace Go.Proofs.YtnblkjapeiaedaaGreatDoor
open Go Go.Eng Nice Go.RowKit
set_option maxRecDepth 1000000
noncomputable def oof (x : DenL [ShT]) : SO := fO Tryz.prog (envS []) (shOf []) Tryz.f26 [ShT] [ShT] x
theorem eof (n : List (List UInt8)) (l : List EntD) (b : Bool) (x : List UInt8) : oof ((n, l, b, x, ()), ()) = (bif b then some ((n, l, true, x, ()), ()) else some ((n, l, false, x, ()), ())) := by kernel_rfl
theorem of_c : PC 26 ofShS := (pureO (envS_ok (l := []) trivial) gl_ne Tryz.func26 (by kernel_rfl) (by decide)).nice fun ⟨⟨n, l, b, x, ()⟩, ()⟩ _ => by
  show oof _ = some ((n, l, b, x, ()), ())
  rw [eof]
  cases b <;> rfl
abbrev shsh : List (Nat × List (Nat × Sh)) := [(3, [(0, (.one (.dat .str))), (1, (.one (.dat EntT))), (2, (.one .sym)), (6, (.obj [.any, .any, .sym, .sym])), (7, (.obj [(.vec .str 9), (.vec EntT 67), .sym, .sym])), (8, (.one .sym))]), (8, [(1, (.one (.dat EntT))), (2, (.one .sym)), (6, (.obj [.any, .any, .sym, .sym])), (7, (.obj [(.vec .str 9), (.vec EntT 67), .sym, .sym])), (9, (.one .sym))])]
noncomputable abbrev enSH : Eng.Env := envS [(15, cutS), (45, lentS)]
noncomputable def hsh0 (N : Nat) (n : List (List UInt8)) (l : List EntD) (b : Bool) (o : List (List UInt8)) (x : List UInt8) (i : Int) : SO := rH Tryz.prog enSH (shOf shsh) Tryz.f25 [ShT] N 0 [(0, dt 10), (1, dt 11), (2, .bool b), (6, .pointer (some ⟨12, 0, none⟩)), (7, .pointer (some ⟨15, 0, none⟩)), (8, sy (.int .i64 i))] [.dat .str n, .dat EntT l, .row [Value.slice none 0 0, Value.slice none 0 0, .bool false, sy (.string (bs []))] 44 false, .vec .str o 9, .vec EntT [] 67, .row [dt 13, dt 14, .bool false, sy (.string (bs x))] 44 false]
noncomputable def hsh1 (N : Nat) (l : List EntD) (b : Bool) (o : List (List UInt8)) (q : List EntD) (x : List UInt8) (i : Int) : SO := rH Tryz.prog enSH (shOf shsh) Tryz.f25 [ShT] N 1 [(1, dt 10), (2, .bool b), (6, .pointer (some ⟨11, 0, none⟩)), (7, .pointer (some ⟨14, 0, none⟩)), (9, sy (.int .i64 i))] [.dat EntT l, .row [Value.slice none 0 0, Value.slice none 0 0, .bool false, sy (.string (bs []))] 44 false, .vec .str o 9, .vec EntT q 67, .row [dt 12, dt 13, .bool false, sy (.string (bs x))] 44 false]
noncomputable def osh (x : DenL [.slice .str, .slice EntT, .bool]) : SO := fO Tryz.prog enSH (shOf shsh) Tryz.f25 [.slice .str, .slice EntT, .bool] [ShT] x
theorem osh_g (x : DenL [.slice .str, .slice EntT, .bool]) : osh x = fON Tryz.prog enSH (shOf shsh) Tryz.f25 [.slice .str, .slice EntT, .bool] [ShT] heads0 x := rfl
theorem eshT_g (N : Nat) (n : List (List UInt8)) (l : List EntD) : fON Tryz.prog enSH (shOf shsh) Tryz.f25 [.slice .str, .slice EntT, .bool] [ShT] N (n, l, true, ()) = hsh0 N n l true [] [] 0 := by kernel_rfl
theorem eshF_g (N : Nat) (n : List (List UInt8)) (l : List EntD) : fON Tryz.prog enSH (shOf shsh) Tryz.f25 [.slice .str, .slice EntT, .bool] [ShT] N (n, l, false, ()) = hsh0 N n l false [] [] 0 := by kernel_rfl
theorem esh0 (N : Nat) (n : List (List UInt8)) (l : List EntD) (b : Bool) (o : List (List UInt8)) (x : List UInt8) (i : Int) : hsh0 (N + 1) n l b o x i = stepS0 n o i (fun o' x' => hsh0 N n l b o' x' (i + 1)) (hsh1 N l b o [] x 0) := by kernel_rfl
theorem esh1 (N : Nat) (l : List EntD) (b : Bool) (o : List (List UInt8)) (q : List EntD) (x : List UInt8) (i : Int) : hsh1 (N + 1) l b o q x i = stepS1 l q i (fun q' x' => hsh1 N l b o q' x' (i + 1)) (exS o q b x) := by kernel_rfl
theorem sh1_l (l : List EntD) (b : Bool) (o : List (List UInt8)) (hl : l.length ≤ 140737488355328) (hv : ∀ e, e ∈ l → e.2.1.length ≤ 140737488355328) : ∀ (r i N : Nat), min l.length 22 = i + r → r < N → hsh1 N l b o ((l.take i).map lentN) (lastK (lastK [] o) (((l.take i).map lentN).map (·.1))) (i : Int) = some ((o, lShN l, b, bif b then lastK (lastK [] o) ((lShN l).map (·.1)) else [], ()), ()) := by
  intro r
  induction r with
  | zero =>
    intro i N hi hN
    obtain ⟨N, rfl⟩ : ∃ m, N = m + 1 := ⟨N - 1, by omega⟩
    have ht : l.take i = l.take 22 := by
      rcases Nat.le_total l.length 22 with h | h
      · rw [List.take_of_length_le (by omega), List.take_of_length_le h]
      · rw [show i = 22 by omega]
    have hex : exS o ((l.take i).map lentN) b (lastK (lastK [] o) (((l.take i).map lentN).map (·.1))) = some ((o, lShN l, b, bif b then lastK (lastK [] o) ((lShN l).map (·.1)) else [], ()), ()) := by
      unfold exS lShN
      rw [ht]
      cases b <;> rfl
    rw [esh1]
    unfold stepS1
    rw [hex]
    by_cases h : i < l.length
    · rw [cdT (show (i : Int) < (l.length : Int) by omega), cdF (show ¬ (i : Int) < 22 by omega)]
    · rw [cdF (show ¬ (i : Int) < (l.length : Int) by omega)]
  | succ r ih =>
    intro i N hi hN
    obtain ⟨N, rfl⟩ : ∃ m, N = m + 1 := ⟨N - 1, by omega⟩
    have hlt : i < l.length := by omega
    have hm : l.getD i (EntT).dflt ∈ l := by
      rw [List.getD_eq_getElem?_getD, List.getElem?_eq_getElem hlt]; exact List.getElem_mem hlt
    have hpre : lentS.pre (l.getD i (EntT).dflt, ()) = true := decide_eq_true (hv _ hm)
    have htk : l.take (i + 1) = l.take i ++ [l.getD i (EntT).dflt] := by
      rw [List.take_succ_eq_append_getElem hlt, List.getD_eq_getElem?_getD, List.getElem?_eq_getElem hlt]; rfl
    have hq : (l.take i).map lentN ++ [lentN (l.getD i (EntT).dflt)] = (l.take (i + 1)).map lentN := by
      rw [htk, List.map_append]; rfl
    have hlen : ((l.take i).map lentN).length = i := by rw [List.length_map, List.length_take]; omega
    have hlen2 : ((l.take i).map lentN ++ [lentN (l.getD i (EntT).dflt)]).length = i + 1 := by rw [List.length_append, hlen]; rfl
    have hg : ((l.take i).map lentN ++ [lentN (l.getD i (EntT).dflt)]).getD i (EntT).dflt = lentN (l.getD i (EntT).dflt) := by
      rw [List.getD_eq_getElem?_getD, List.getElem?_append_right (by omega), hlen, Nat.sub_self]; rfl
    have hx : (lentN (l.getD i (EntT).dflt)).1 = lastK (lastK [] o) (((l.take (i + 1)).map lentN).map (·.1)) := by
      rw [htk, List.map_append, List.map_append, lastK_app]; rfl
    have this := ih (i + 1) N (by omega) (by omega)
    simp only [Int.natCast_add, Int.natCast_one] at this
    rw [esh1]
    unfold stepS1
    rw [cdT (show (i : Int) < (l.length : Int) by omega), cdT (show (i : Int) < 22 by omega)]
    show gd ([decide (inK .i64 ((i : Int) + 1)), decide (i < ((l.take i).map lentN ++ [lentN (l.getD i (EntT).dflt)]).length), decide ((0 : Int) ≤ (i : Int)), decide ((i : Int) < (((l.take i).map lentN ++ [lentN (l.getD i (EntT).dflt)]).length : Int)), decide ((2 * (((l.take i).map lentN).length + 1) + 400) * 40 ≤ 281474976710656), lentS.pre (l.getD i (EntT).dflt, ())] ++ gI l (i : Int)) (hsh1 N l b o ((l.take i).map lentN ++ [lentN (l.getD i (EntT).dflt)]) (((l.take i).map lentN ++ [lentN (l.getD i (EntT).dflt)]).getD i (EntT).dflt).1 ((i : Int) + 1)) = _
    simp only [List.cons_append, List.nil_append]
    rw [hlen2, hlen, gdT (inK_i64.2 ⟨by omega, by omega⟩), gdT (by omega), gdT (by omega), gdT (by omega), gdT (by omega), gdB hpre, gI_ok0 hlt, hg, hq, hx]
    exact this
theorem sh0_l (n : List (List UInt8)) (l : List EntD) (b : Bool) (hn : n.length ≤ 140737488355328) : ∀ (r i N : Nat), min n.length 22 = i + r → r < N → hsh0 N n l b ((n.take i).map fun k => cut k 42) (lastK [] ((n.take i).map fun k => cut k 42)) (i : Int) = hsh1 (N - r - 1) l b (nShN n) [] (lastK [] (nShN n)) 0 := by
  intro r
  induction r with
  | zero =>
    intro i N hi hN
    obtain ⟨N, rfl⟩ : ∃ m, N = m + 1 := ⟨N - 1, by omega⟩
    have ht : n.take i = n.take 22 := by
      rcases Nat.le_total n.length 22 with h | h
      · rw [List.take_of_length_le (by omega), List.take_of_length_le h]
      · rw [show i = 22 by omega]
    rw [esh0]
    unfold stepS0 nShN
    rw [ht, show N + 1 - 0 - 1 = N by omega]
    by_cases h : i < n.length
    · rw [cdT (show (i : Int) < (n.length : Int) by omega), cdF (show ¬ (i : Int) < 22 by omega)]
    · rw [cdF (show ¬ (i : Int) < (n.length : Int) by omega)]
  | succ r ih =>
    intro i N hi hN
    obtain ⟨N, rfl⟩ : ∃ m, N = m + 1 := ⟨N - 1, by omega⟩
    have hlt : i < n.length := by omega
    have htk : n.take (i + 1) = n.take i ++ [n.getD i []] := by
      rw [List.take_succ_eq_append_getElem hlt, List.getD_eq_getElem?_getD, List.getElem?_eq_getElem hlt]; rfl
    have hq : (n.take i).map (fun k => cut k 42) ++ [cut (n.getD i []) 42] = (n.take (i + 1)).map fun k => cut k 42 := by
      rw [htk, List.map_append]; rfl
    have hlen : ((n.take i).map fun k => cut k 42).length = i := by rw [List.length_map, List.length_take]; omega
    have hlen2 : ((n.take i).map (fun k => cut k 42) ++ [cut (n.getD i []) 42]).length = i + 1 := by rw [List.length_append, hlen]; rfl
    have hg : ((n.take i).map (fun k => cut k 42) ++ [cut (n.getD i []) 42]).getD i [] = cut (n.getD i []) 42 := by
      rw [List.getD_eq_getElem?_getD, List.getElem?_append_right (by omega), hlen, Nat.sub_self]; rfl
    have hx : cut (n.getD i []) 42 = lastK [] ((n.take (i + 1)).map fun k => cut k 42) := by
      rw [htk, List.map_append, lastK_app]; rfl
    have hpre : cutS.pre (n.getD i [], 42, ()) = true := (show decide ((0 : Int) ≤ 42) = true from rfl)
    have this := ih (i + 1) N (by omega) (by omega)
    simp only [Int.natCast_add, Int.natCast_one] at this
    rw [esh0]
    unfold stepS0
    rw [cdT (show (i : Int) < (n.length : Int) by omega), cdT (show (i : Int) < 22 by omega)]
    show gd ([decide (inK .i64 ((i : Int) + 1)), decide (i < ((n.take i).map (fun k => cut k 42) ++ [cut (n.getD i []) 42]).length), decide ((0 : Int) ≤ (i : Int)), decide ((i : Int) < (((n.take i).map (fun k => cut k 42) ++ [cut (n.getD i []) 42]).length : Int)), decide ((2 * (((n.take i).map fun k => cut k 42).length + 1) + 400) * 16 ≤ 281474976710656)] ++ cutS.pre (n.getD i [], 42, ()) :: gI n (i : Int)) (hsh0 N n l b ((n.take i).map (fun k => cut k 42) ++ [cut (n.getD i []) 42]) (((n.take i).map (fun k => cut k 42) ++ [cut (n.getD i []) 42]).getD i []) ((i : Int) + 1)) = _
    simp only [List.cons_append, List.nil_append]
    rw [hlen2, hlen, gdT (inK_i64.2 ⟨by omega, by omega⟩), gdT (by omega), gdT (by omega), gdT (by omega), gdT (by omega), gdB hpre, gI_ok0 hlt, hg, hq, hx, show N + 1 - (r + 1) - 1 = N - r - 1 by omega]
    exact this
theorem sh_n {n : List (List UInt8)} {l : List EntD} {b : Bool} (h : shPre n l = true) : hsh0 heads0 n l b [] [] 0 = some (shN n l b, ()) := by
  unfold shPre at h
  rw [Bool.and_eq_true, Bool.and_eq_true, decide_eq_true_eq, decide_eq_true_eq, List.all_eq_true] at h
  obtain ⟨h1, h2, h3⟩ := h
  have e0 := sh0_l n l b h1 (min n.length 22) 0 heads0 (by omega) (by unfold heads0; omega)
  have e1 := sh1_l l b (nShN n) h2 (fun e he => of_decide_eq_true (h3 e he)) (min l.length 22) 0 (heads0 - min n.length 22 - 1) (by omega) (by unfold heads0; omega)
  refine Eq.trans e0 (Eq.trans e1 ?_)
  unfold shN keysN
  rw [lastK_app]
theorem sh_c : PC 25 shS := (pureO (sh := shOf shsh) (envS_ok (l := [(15, cutS), (45, lentS)]) ⟨cut_c, lent_c, trivial⟩) gl_ne Tryz.func25 (by kernel_rfl) (by decide)).nice fun ⟨n, l, b, ()⟩ h => by
  show osh _ = some (shN n l b, ())
  rw [osh_g]
  cases b
  · rw [eshF_g]; exact sh_n h
  · rw [eshT_g]; exact sh_n h
end Go.Proofs.YtnblkjapeiaedaaGreatDoor
namespace Nice
open Go Go.Eng
def eqV (x y : VerD) : Bool := x.1 == y.1 && x.2.1 == y.2.1
def eqVs : List VerD → List VerD → Bool
  | [], [] => true
  | x :: a, y :: b => eqV x y && eqVs a b
  | _, _ => false
def eqEn (x y : EntD) : Bool := x.1 == y.1 && eqVs x.2.1 y.2.1
def eqEs : List EntD → List EntD → Bool
  | [], [] => true
  | x :: a, y :: b => eqEn x y && eqEs a b
  | _, _ => false
theorem eqVs_cons (x y : VerD) (a b : List VerD) : eqVs (x :: a) (y :: b) = (eqV x y && eqVs a b) := rfl
theorem eqEs_cons (x y : EntD) (a b : List EntD) : eqEs (x :: a) (y :: b) = (eqEn x y && eqEs a b) := rfl
theorem eqVs_len : ∀ (a b : List VerD), a.length ≠ b.length → eqVs a b = false
  | [], [], h => absurd rfl h
  | [], _ :: _, _ => rfl
  | _ :: _, [], _ => rfl
  | x :: a, y :: b, h => by rw [eqVs_cons, eqVs_len a b (by simpa using h), Bool.and_false]
theorem eqEs_len : ∀ (a b : List EntD), a.length ≠ b.length → eqEs a b = false
  | [], [], h => absurd rfl h
  | [], _ :: _, _ => rfl
  | _ :: _, [], _ => rfl
  | x :: a, y :: b, h => by rw [eqEs_cons, eqEs_len a b (by simpa using h), Bool.and_false]
def eqShN (a b : ShD) : Bool := a.1 == b.1 && (eqEs a.2.1 b.2.1 && (a.2.2.1 == b.2.2.1 && a.2.2.2.1 == b.2.2.2.1))
def eqShP (a : ShD) : Bool := decide (a.1.length ≤ 1099511627776) && (decide (a.2.1.length ≤ 1099511627776) && a.2.1.all fun e => decide (e.2.1.length ≤ 1099511627776))
noncomputable def eqShS : PSpec := ⟨[ShT, ShT], [.bool], fun x => eqShP x.1, fun x => (eqShN x.1 x.2.1, ())⟩
noncomputable def begQ (a b : ShD) (nx : BO) : BO := bif (a.1.length : Int) != (b.1.length : Int) then bO false else bif (a.2.1.length : Int) != (b.2.1.length : Int) then bO false else nx
noncomputable def stepQ0 (n n2 : List (List UInt8)) (i : Int) (nx ex : BO) : BO :=
  bif decide (i < (n.length : Int)) then (bif !n.getD i.toNat Ty.str.dflt == n2.getD i.toNat Ty.str.dflt then gd (gI n2 i ++ gI n i) (bO false) else gd (decide (inK .i64 (i + 1)) :: (gI n2 i ++ gI n i)) nx) else ex
noncomputable def stepQ1 (l l2 : List EntD) (i : Int) (nx : List UInt8 → List VerD → List UInt8 → List VerD → BO) : BO :=
  bif decide (i < (l.length : Int)) then gd (gI l2 i ++ gI l i) (bif !(l.getD i.toNat (EntT).dflt).1 == (l2.getD i.toNat (EntT).dflt).1 then bO false else bif ((l.getD i.toNat (EntT).dflt).2.1.length : Int) != ((l2.getD i.toNat (EntT).dflt).2.1.length : Int) then bO false else nx (l.getD i.toNat (EntT).dflt).1 (l.getD i.toNat (EntT).dflt).2.1 (l2.getD i.toNat (EntT).dflt).1 (l2.getD i.toNat (EntT).dflt).2.1) else bO true
noncomputable def stepQ2 (v v2 : List VerD) (i j : Int) (nx ex : BO) : BO :=
  bif decide (j < (v.length : Int)) then (bif (v.getD j.toNat (VerT).dflt).1 != (v2.getD j.toNat (VerT).dflt).1 then gd (gI v2 j ++ gI v j) (bO false)
    else bif (v.getD j.toNat (VerT).dflt).2.1 then (bif (v2.getD j.toNat (VerT).dflt).2.1 then gd (decide (inK .i64 (j + 1)) :: (gI v2 j ++ (gI v j ++ (gI v2 j ++ gI v j)))) nx else gd (gI v2 j ++ (gI v j ++ (gI v2 j ++ gI v j))) (bO false))
    else (bif (v2.getD j.toNat (VerT).dflt).2.1 then gd (gI v2 j ++ (gI v j ++ (gI v2 j ++ gI v j))) (bO false) else gd (decide (inK .i64 (j + 1)) :: (gI v2 j ++ (gI v j ++ (gI v2 j ++ gI v j)))) nx))
  else gd [decide (inK .i64 (i + 1))] ex
theorem begQ_n {a b : ShD} {c : Bool} {nx : BO} (h : a.1.length = b.1.length → a.2.1.length = b.2.1.length → nx = bO (a.1 == b.1 && (eqEs a.2.1 b.2.1 && c))) : begQ a b nx = bO (a.1 == b.1 && (eqEs a.2.1 b.2.1 && c)) := by
  unfold begQ
  by_cases h1 : a.1.length = b.1.length
  · rw [show ((a.1.length : Int) != (b.1.length : Int)) = false from by rw [bne_eq_false_iff_eq]; omega, xF]
    by_cases h2 : a.2.1.length = b.2.1.length
    · rw [show ((a.2.1.length : Int) != (b.2.1.length : Int)) = false from by rw [bne_eq_false_iff_eq]; omega, xF, h h1 h2]
    · rw [show ((a.2.1.length : Int) != (b.2.1.length : Int)) = true from by rw [bne_iff_ne]; omega, xT, eqEs_len _ _ h2, Bool.false_and, Bool.and_false]
  · have : (a.1 == b.1) = false := by
      rw [beq_eq_false_iff_ne]; intro e; exact h1 (congrArg List.length e)
    rw [show ((a.1.length : Int) != (b.1.length : Int)) = true from by rw [bne_iff_ne]; omega, xT, this, Bool.false_and]
end Nice
namespace Go.Proofs.YtnblkjapeiaedaaGreatDoor
open Go Go.Eng Nice Go.RowKit
set_option maxRecDepth 1000000
abbrev shq : List (Nat × List (Nat × Sh)) := [(4, [(2, (.obj [(.dat .str), (.dat EntT), .sym, .sym])), (3, (.obj [(.dat .str), (.dat EntT), .sym, .sym])), (4, (.one .sym)), (5, (.one .sym))]), (9, [(2, (.obj [(.dat .str), (.dat EntT), .sym, .sym])), (3, (.obj [(.dat .str), (.dat EntT), .sym, .sym])), (4, (.one .sym)), (6, (.one .sym))]), (15, [(2, (.obj [(.dat .str), (.dat EntT), .sym, .sym])), (3, (.obj [(.dat .str), (.dat EntT), .sym, .sym])), (4, (.one .sym)), (6, (.one .sym)), (7, (.obj [.sym, (.dat VerT)])), (8, (.obj [.sym, (.dat VerT)])), (9, (.one .sym))])]
noncomputable def hq0 (N : Nat) (n : List (List UInt8)) (l : List EntD) (b : Bool) (x x2 : List UInt8) (n2 : List (List UInt8)) (l2 : List EntD) (i : Int) : BO := rH Tryz.prog (envS []) (shOf shq) Tryz.f33 [.bool] N 0 [(2, .pointer (some ⟨12, 0, none⟩)), (3, .pointer (some ⟨15, 0, none⟩)), (4, .bool false), (5, sy (.int .i64 i))] [.dat .str n, .dat EntT l, .row [dt 10, dt 11, .bool b, sy (.string (bs x))] 46 false, .dat .str n2, .dat EntT l2, .row [dt 13, dt 14, .bool b, sy (.string (bs x2))] 44 false]
noncomputable def hq1 (N : Nat) (n : List (List UInt8)) (l : List EntD) (b : Bool) (x x2 : List UInt8) (n2 : List (List UInt8)) (l2 : List EntD) (i : Int) : BO := rH Tryz.prog (envS []) (shOf shq) Tryz.f33 [.bool] N 1 [(2, .pointer (some ⟨12, 0, none⟩)), (3, .pointer (some ⟨15, 0, none⟩)), (4, .bool false), (6, sy (.int .i64 i))] [.dat .str n, .dat EntT l, .row [dt 10, dt 11, .bool b, sy (.string (bs x))] 46 false, .dat .str n2, .dat EntT l2, .row [dt 13, dt 14, .bool b, sy (.string (bs x2))] 44 false]
noncomputable def hq2 (N : Nat) (n : List (List UInt8)) (l : List EntD) (b : Bool) (x x2 : List UInt8) (n2 : List (List UInt8)) (l2 : List EntD) (i : Int) (k : List UInt8) (v : List VerD) (k2 : List UInt8) (v2 : List VerD) (j : Int) : BO := rH Tryz.prog (envS []) (shOf shq) Tryz.f33 [.bool] N 2 [(2, .pointer (some ⟨12, 0, none⟩)), (3, .pointer (some ⟨15, 0, none⟩)), (4, .bool false), (6, sy (.int .i64 i)), (7, .pointer (some ⟨17, 0, none⟩)), (8, .pointer (some ⟨19, 0, none⟩)), (9, sy (.int .i64 j))] [.dat .str n, .dat EntT l, .row [dt 10, dt 11, .bool b, sy (.string (bs x))] 46 false, .dat .str n2, .dat EntT l2, .row [dt 13, dt 14, .bool b, sy (.string (bs x2))] 44 false, .dat VerT v, .row [sy (.string (bs k)), dt 16] 67 false, .dat VerT v2, .row [sy (.string (bs k2)), dt 18] 67 false]
noncomputable def oq (x : DenL [ShT, ShT]) : BO := fO Tryz.prog (envS []) (shOf shq) Tryz.f33 [ShT, ShT] [.bool] x
theorem oq_g (x : DenL [ShT, ShT]) : oq x = fON Tryz.prog (envS []) (shOf shq) Tryz.f33 [ShT, ShT] [.bool] heads0 x := rfl
theorem eqq_tt (N : Nat) (n : List (List UInt8)) (l : List EntD) (x : List UInt8) (n2 : List (List UInt8)) (l2 : List EntD) (x2 : List UInt8) : fON Tryz.prog (envS []) (shOf shq) Tryz.f33 [ShT, ShT] [.bool] N ((n, l, true, x, ()), (n2, l2, true, x2, ()), ()) = begQ (n, l, true, x, ()) (n2, l2, true, x2, ()) (bif !x == x2 then bO false else hq0 N n l true x x2 n2 l2 0) := by kernel_rfl
theorem eqq_tf (N : Nat) (n : List (List UInt8)) (l : List EntD) (x : List UInt8) (n2 : List (List UInt8)) (l2 : List EntD) (x2 : List UInt8) : fON Tryz.prog (envS []) (shOf shq) Tryz.f33 [ShT, ShT] [.bool] N ((n, l, true, x, ()), (n2, l2, false, x2, ()), ()) = begQ (n, l, true, x, ()) (n2, l2, false, x2, ()) (bO false) := by kernel_rfl
theorem eqq_ft (N : Nat) (n : List (List UInt8)) (l : List EntD) (x : List UInt8) (n2 : List (List UInt8)) (l2 : List EntD) (x2 : List UInt8) : fON Tryz.prog (envS []) (shOf shq) Tryz.f33 [ShT, ShT] [.bool] N ((n, l, false, x, ()), (n2, l2, true, x2, ()), ()) = begQ (n, l, false, x, ()) (n2, l2, true, x2, ()) (bO false) := by kernel_rfl
theorem eqq_ff (N : Nat) (n : List (List UInt8)) (l : List EntD) (x : List UInt8) (n2 : List (List UInt8)) (l2 : List EntD) (x2 : List UInt8) : fON Tryz.prog (envS []) (shOf shq) Tryz.f33 [ShT, ShT] [.bool] N ((n, l, false, x, ()), (n2, l2, false, x2, ()), ()) = begQ (n, l, false, x, ()) (n2, l2, false, x2, ()) (bif !x == x2 then bO false else hq0 N n l false x x2 n2 l2 0) := by kernel_rfl
theorem eq0 (N : Nat) (n : List (List UInt8)) (l : List EntD) (b : Bool) (x x2 : List UInt8) (n2 : List (List UInt8)) (l2 : List EntD) (i : Int) : hq0 (N + 1) n l b x x2 n2 l2 i = stepQ0 n n2 i (hq0 N n l b x x2 n2 l2 (i + 1)) (hq1 N n l b x x2 n2 l2 0) := by kernel_rfl
theorem eq1 (N : Nat) (n : List (List UInt8)) (l : List EntD) (b : Bool) (x x2 : List UInt8) (n2 : List (List UInt8)) (l2 : List EntD) (i : Int) : hq1 (N + 1) n l b x x2 n2 l2 i = stepQ1 l l2 i (fun k v k2 v2 => hq2 N n l b x x2 n2 l2 i k v k2 v2 0) := by kernel_rfl
theorem eq2 (N : Nat) (n : List (List UInt8)) (l : List EntD) (b : Bool) (x x2 : List UInt8) (n2 : List (List UInt8)) (l2 : List EntD) (i : Int) (k : List UInt8) (v : List VerD) (k2 : List UInt8) (v2 : List VerD) (j : Int) : hq2 (N + 1) n l b x x2 n2 l2 i k v k2 v2 j = stepQ2 v v2 i j (hq2 N n l b x x2 n2 l2 i k v k2 v2 (j + 1)) (hq1 N n l b x x2 n2 l2 (i + 1)) := by kernel_rfl
theorem dropG {α : Type} {l : List α} {i : Nat} (d : α) (h : i < l.length) : l.drop i = l.getD i d :: l.drop (i + 1) := by
  rw [List.drop_eq_getElem_cons h, List.getD_eq_getElem?_getD, List.getElem?_eq_getElem h]; rfl
theorem q2_l (n : List (List UInt8)) (l : List EntD) (b : Bool) (x x2 : List UInt8) (n2 : List (List UInt8)) (l2 : List EntD) (i : Nat) (hi : i ≤ 1099511627776) (k : List UInt8) (v : List VerD) (k2 : List UInt8) (v2 : List VerD) (hv : v.length ≤ 1099511627776) (he : v2.length = v.length) : ∀ (r j N : Nat), v.length = j + r → r < N → hq2 N n l b x x2 n2 l2 (i : Int) k v k2 v2 (j : Int) = bif eqVs (v.drop j) (v2.drop j) then hq1 (N - r - 1) n l b x x2 n2 l2 ((i : Int) + 1) else bO false := by
  intro r
  induction r with
  | zero =>
    intro j N hj hN
    obtain ⟨N, rfl⟩ : ∃ m, N = m + 1 := ⟨N - 1, by omega⟩
    rw [eq2]
    unfold stepQ2
    rw [cdF (by omega), gdT (inK_i64.2 ⟨by omega, by omega⟩), xG, List.drop_eq_nil_of_le (by omega), List.drop_eq_nil_of_le (by omega)]; rfl
  | succ r ih =>
    intro j N hj hN
    obtain ⟨N, rfl⟩ : ∃ m, N = m + 1 := ⟨N - 1, by omega⟩
    have h1 : j < v.length := by omega
    have h2 : j < v2.length := by omega
    have hG : ∀ y : BO, gd (gI v2 (j : Int) ++ (gI v (j : Int) ++ (gI v2 (j : Int) ++ gI v (j : Int)))) y = y := fun y => by rw [gI_ok h2, gI_ok h1, gI_ok h2, gI_ok0 h1]
    have hG1 : ∀ y : BO, gd (gI v2 (j : Int) ++ gI v (j : Int)) y = y := fun y => by rw [gI_ok h2, gI_ok0 h1]
    have this := ih (j + 1) N (by omega) (by omega)
    simp only [Int.natCast_add, Int.natCast_one] at this
    have hk1 : inK .i64 ((j : Int) + 1) := inK_i64.2 ⟨by omega, by omega⟩
    rw [eq2]
    unfold stepQ2
    rw [cdT (by omega), show (j : Int).toNat = j from rfl, dropG (VerT).dflt h1, dropG (VerT).dflt h2, eqVs_cons, this, show N + 1 - (r + 1) - 1 = N - r - 1 by omega, hG1, gdT hk1, hG, hG]
    unfold eqV
    generalize v.getD j (VerT).dflt = a
    generalize v2.getD j (VerT).dflt = c
    obtain ⟨a1, a2, a3, a4⟩ := a
    obtain ⟨c1, c2, c3, c4⟩ := c
    dsimp only
    have hb : (a1 != c1) = !(a1 == c1) := rfl
    rw [hb]
    cases a1 == c1
    · rfl
    · cases a2 <;> cases c2 <;> rfl
theorem q1_l (n : List (List UInt8)) (l : List EntD) (b : Bool) (x x2 : List UInt8) (n2 : List (List UInt8)) (l2 : List EntD) (hl : l.length ≤ 1099511627776) (hv : ∀ e, e ∈ l → e.2.1.length ≤ 1099511627776) (he : l2.length = l.length) : ∀ (r i N : Nat), l.length = i + r → 1099511627780 * r < N → hq1 N n l b x x2 n2 l2 (i : Int) = bO (eqEs (l.drop i) (l2.drop i)) := by
  intro r
  induction r with
  | zero =>
    intro i N hi hN
    obtain ⟨N, rfl⟩ : ∃ m, N = m + 1 := ⟨N - 1, by omega⟩
    rw [eq1]
    unfold stepQ1
    rw [cdF (by omega), List.drop_eq_nil_of_le (by omega), List.drop_eq_nil_of_le (by omega)]; rfl
  | succ r ih =>
    intro i N hi hN
    obtain ⟨N, rfl⟩ : ∃ m, N = m + 1 := ⟨N - 1, by omega⟩
    have h1 : i < l.length := by omega
    have h2 : i < l2.length := by omega
    have hm : l.getD i (EntT).dflt ∈ l := by
      rw [List.getD_eq_getElem?_getD, List.getElem?_eq_getElem h1]; exact List.getElem_mem h1
    have hvl := hv _ hm
    rw [eq1]
    unfold stepQ1
    rw [cdT (by omega), show (i : Int).toNat = i from rfl, dropG (EntT).dflt h1, dropG (EntT).dflt h2, eqEs_cons, gI_ok h2, gI_ok0 h1]
    revert hvl
    generalize l.getD i (EntT).dflt = a
    generalize l2.getD i (EntT).dflt = c
    intro hvl
    unfold eqEn
    cases hk : a.1 == c.1
    · rfl
    · rw [Bool.not_true, xF, Bool.true_and]
      by_cases hlen : a.2.1.length = c.2.1.length
      · rw [show ((a.2.1.length : Int) != (c.2.1.length : Int)) = false from by rw [bne_eq_false_iff_eq]; omega, xF]
        have h3 := q2_l n l b x x2 n2 l2 i (by omega) a.1 a.2.1 c.1 c.2.1 hvl hlen.symm a.2.1.length 0 N (by omega) (by omega)
        rw [List.drop_zero, List.drop_zero] at h3
        refine Eq.trans h3 ?_
        have this := ih (i + 1) (N - a.2.1.length - 1) (by omega) (by omega)
        simp only [Int.natCast_add, Int.natCast_one] at this
        rw [this]
        cases eqVs a.2.1 c.2.1 <;> rfl
      · rw [show ((a.2.1.length : Int) != (c.2.1.length : Int)) = true from by rw [bne_iff_ne]; omega, xT, eqVs_len _ _ hlen]; rfl
theorem q0_l (n : List (List UInt8)) (l : List EntD) (b : Bool) (x x2 : List UInt8) (n2 : List (List UInt8)) (l2 : List EntD) (hn : n.length ≤ 1099511627776) (hne : n2.length = n.length) (hl : l.length ≤ 1099511627776) (hv : ∀ e, e ∈ l → e.2.1.length ≤ 1099511627776) (he : l2.length = l.length) : ∀ (r i N : Nat), n.length = i + r → r + 1099511627780 * l.length + 2 < N → hq0 N n l b x x2 n2 l2 (i : Int) = bO (n.drop i == n2.drop i && eqEs l l2) := by
  intro r
  induction r with
  | zero =>
    intro i N hi hN
    obtain ⟨N, rfl⟩ : ∃ m, N = m + 1 := ⟨N - 1, by omega⟩
    have := q1_l n l b x x2 n2 l2 hl hv he l.length 0 N (by omega) (by omega)
    rw [eq0]
    unfold stepQ0
    rw [cdF (by omega), List.drop_eq_nil_of_le (by omega), List.drop_eq_nil_of_le (by omega)]
    exact this
  | succ r ih =>
    intro i N hi hN
    obtain ⟨N, rfl⟩ : ∃ m, N = m + 1 := ⟨N - 1, by omega⟩
    have h1 : i < n.length := by omega
    have h2 : i < n2.length := by omega
    have this := ih (i + 1) N (by omega) (by omega)
    simp only [Int.natCast_add, Int.natCast_one] at this
    rw [eq0]
    unfold stepQ0
    rw [cdT (by omega), show (i : Int).toNat = i from rfl, dropG [] h1, dropG [] h2, gI_ok h2, gI_ok0 h1, gdT (inK_i64.2 ⟨by omega, by omega⟩), gI_ok h2, gI_ok0 h1, this, show n.getD i Ty.str.dflt = n.getD i [] from rfl, show n2.getD i Ty.str.dflt = n2.getD i [] from rfl, List.cons_beq_cons]
    cases n.getD i [] == n2.getD i [] <;> rfl
theorem eqShP_iff {a : ShD} : eqShP a = true ↔ a.1.length ≤ 1099511627776 ∧ a.2.1.length ≤ 1099511627776 ∧ ∀ e, e ∈ a.2.1 → e.2.1.length ≤ 1099511627776 := by
  unfold eqShP
  rw [Bool.and_eq_true, Bool.and_eq_true, decide_eq_true_eq, decide_eq_true_eq, List.all_eq_true]
  exact ⟨fun ⟨h1, h2, h3⟩ => ⟨h1, h2, fun e he => of_decide_eq_true (h3 e he)⟩, fun ⟨h1, h2, h3⟩ => ⟨h1, h2, fun e he => decide_eq_true (h3 e he)⟩⟩
theorem q_n {n : List (List UInt8)} {l : List EntD} {b : Bool} {x : List UInt8} {n2 : List (List UInt8)} {l2 : List EntD} {x2 : List UInt8} (h : eqShP (n, l, b, x, ()) = true) : begQ (n, l, b, x, ()) (n2, l2, b, x2, ()) (bif !x == x2 then bO false else hq0 heads0 n l b x x2 n2 l2 0) = bO (eqShN (n, l, b, x, ()) (n2, l2, b, x2, ())) := by
  obtain ⟨h1, h2, h3⟩ := eqShP_iff.1 h
  have h1 : n.length ≤ 1099511627776 := h1
  have h2 : l.length ≤ 1099511627776 := h2
  refine (begQ_n (c := x == x2) fun e1 e2 => ?_).trans ?_
  · have e1 : n.length = n2.length := e1
    have e2 : l.length = l2.length := e2
    have := q0_l n l b x x2 n2 l2 h1 e1.symm h2 h3 e2.symm n.length 0 heads0 (by omega) (by unfold heads0; omega)
    rw [List.drop_zero, List.drop_zero] at this
    cases x == x2
    · show bO false = bO (n == n2 && (eqEs l l2 && false))
      rw [Bool.and_false, Bool.and_false]
    · show hq0 heads0 n l b x x2 n2 l2 0 = bO (n == n2 && (eqEs l l2 && true))
      rw [Bool.and_true]; exact this
  · show bO (n == n2 && (eqEs l l2 && x == x2)) = bO (n == n2 && (eqEs l l2 && (b == b && x == x2)))
    rw [beq_self_eq_true, Bool.true_and]
theorem q_nF {a b : ShD} (h : (a.2.2.1 == b.2.2.1) = false) : begQ a b (bO false) = bO (eqShN a b) := by
  unfold eqShN
  rw [h, Bool.false_and]
  exact begQ_n (c := false) fun _ _ => by rw [Bool.and_false, Bool.and_false]
theorem eqsh_c : PC 33 eqShS := (pureO (sh := shOf shq) (envS_ok (l := []) trivial) gl_ne Tryz.func33 (by kernel_rfl) (by decide)).nice fun ⟨⟨n, l, b, x, ()⟩, ⟨n2, l2, b2, x2, ()⟩, ()⟩ h => by
  show oq _ = bO (eqShN (n, l, b, x, ()) (n2, l2, b2, x2, ()))
  rw [oq_g]
  cases b
  · cases b2
    · rw [eqq_ff]; exact q_n h
    · rw [eqq_ft]; exact q_nF rfl
  · cases b2
    · rw [eqq_tf]; exact q_nF rfl
    · rw [eqq_tt]; exact q_n h
end Go.Proofs.YtnblkjapeiaedaaGreatDoor
namespace Nice
open Go Go.Eng
theorem hasPre_eq {s p : List UInt8} (h : hasPre s p = true) : s = p ++ isR s p := by
  unfold isR
  rw [h, xT]
  unfold hasPre at h
  rw [Bool.and_eq_true, decide_eq_true_eq, beq_iff_eq] at h
  have := (List.take_append_drop p.length s).symm
  rw [h.2] at this
  exact this
theorem isR_suf (s p : List UInt8) : isR s p <:+ s := by
  unfold isR
  cases hasPre s p
  · exact List.suffix_refl s
  · exact List.drop_suffix _ _
theorem upR_suf (s p : List UInt8) : upR s p <:+ s := by
  rcases up_spec s p false with ⟨h, _⟩ | ⟨_, h, _⟩
  · exact ⟨upT s p ++ p, h.symm⟩
  · rw [h]; exact List.nil_suffix
theorem nmF_suf : ∀ (f : Nat) (s : List UInt8) (n : List (List UInt8)), (nmF f s n).1 <:+ s
  | 0, s, _ => List.suffix_refl s
  | f + 1, s, n => by
    unfold nmF
    cases hasPre s nameL
    · exact List.suffix_refl s
    · have h1 : nS s <:+ s := (upR_suf _ _).trans (isR_suf _ _)
      rw [xT]
      cases nB s
      · rw [xF]; exact (nmF_suf f (nS s) _).trans h1
      · exact h1
theorem entV_suf : ∀ (f : Nat) (s : List UInt8) (l : List VerD), (entV f s l).1 <:+ s
  | 0, s, _ => List.suffix_refl s
  | f + 1, s, l => by
    unfold entV
    cases hasPre s verL
    · exact List.suffix_refl s
    · have h1 : vS3 s <:+ s := (upR_suf _ _).trans ((upR_suf _ _).trans (isR_suf _ _))
      rw [xT]
      cases vB3 s || badV (vNu s) (vMk s)
      · rw [xF]; exact (entV_suf f (vS3 s) _).trans h1
      · exact h1
theorem entN_suf (s : List UInt8) : (entN s).1.1 <:+ s := by
  have h1 : eS2 s <:+ s := (upR_suf _ _).trans (isR_suf _ _)
  have h2 : (entW s).1 <:+ s := by
    unfold entW
    cases eB2 s
    · rw [xF]; exact (entV_suf _ (eS2 s) _).trans h1
    · exact h1
  exact (isR_suf _ _).trans h2
theorem enF_suf : ∀ (f : Nat) (s : List UInt8) (l : List EntD), (enF f s l).1 <:+ s
  | 0, s, _ => List.suffix_refl s
  | f + 1, s, l => by
    unfold enF
    cases hasPre s keyL
    · exact List.suffix_refl s
    · have h1 : (eN s).1.1 <:+ s := (entN_suf _).trans (isR_suf _ _)
      rw [xT]
      cases (eN s).1.2.1
      · rw [xF]; exact (enF_suf f (eN s).1.1 _).trans h1
      · exact h1
theorem endG_cases (s : List UInt8) (b : Bool) (d : ShD) : endG s b d = errG ∨ (endG s b d = (d, 0, ()) ∧ s = endL ∧ b = false ∧ smayN d = true) := by
  unfold endG
  cases h1 : hasPre s endL
  · exact .inl rfl
  · cases h2 : isR s endL == []
    · exact .inl rfl
    · cases b
      · cases h3 : smayN d
        · exact .inl rfl
        · refine .inr ⟨rfl, ?_, rfl, rfl⟩
          have := hasPre_eq h1
          rw [beq_iff_eq.1 h2, List.append_nil] at this
          exact this
      · exact .inl rfl
theorem finG_cases (s : List UInt8) (n : List (List UInt8)) (l : List EntD) : finG s n l = errG ∨ ∃ b x, finG s n l = ((n, l, b, x, ()), 0, ()) ∧ s = nextX b x ++ endL ∧ smayN (n, l, b, x, ()) = true := by
  unfold finG
  cases h : hasPre s nextL
  · rw [xF]
    rcases endG_cases s false (n, l, false, [], ()) with h1 | ⟨h1, h2, _, h3⟩
    · exact .inl h1
    · exact .inr ⟨false, [], h1, h2, h3⟩
  · rw [xT]
    rcases endG_cases (xS s) (xB s) (n, l, true, xT' s, ()) with h1 | ⟨h1, h2, h4, h3⟩
    · exact .inl h1
    · refine .inr ⟨true, xT' s, h1, ?_, h3⟩
      rcases up_spec (isR s nextL) nextE false with ⟨q, _⟩ | ⟨_, _, q, _⟩
      · have h2 : upR (isR s nextL) nextE = endL := h2
        rw [h2] at q
        have := hasPre_eq h
        rw [q] at this
        show s = (nextL ++ xT' s ++ nextE) ++ endL
        rw [List.append_assoc, List.append_assoc]
        rw [List.append_assoc] at this
        exact this
      · rw [show xB s = true from q] at h4; cases h4
theorem nmF_inv : ∀ (f : Nat) (s : List UInt8) (n : List (List UInt8)), (nmF f s n).2.1 = false → ∃ m, (nmF f s n).2.2 = n ++ m ∧ s = m.flatMap nameX ++ (nmF f s n).1
  | 0, s, n, h => by cases h
  | f + 1, s, n, h => by
    unfold nmF at h ⊢
    cases hp : hasPre s nameL
    · exact ⟨[], (List.append_nil n).symm, rfl⟩
    · rw [hp, xT] at h
      cases hb : nB s
      · rw [hb, xF] at h
        obtain ⟨m, h1, h2⟩ := nmF_inv f (nS s) _ h
        refine ⟨nK s :: m, by rw [xT, xF, h1, List.append_assoc]; rfl, ?_⟩
        rcases up_spec (isR s nameL) nameE false with ⟨q, _⟩ | ⟨_, _, q, _⟩
        · rw [xT, xF]
          have e := hasPre_eq hp
          rw [q, show upR (isR s nameL) nameE = nS s from rfl, h2] at e
          rw [List.flatMap_cons]
          unfold nameX at e ⊢
          simp only [List.append_assoc] at e ⊢
          exact e
        · rw [show nB s = true from q] at hb; cases hb
      · rw [hb] at h; cases h
theorem enF_pre : ∀ (f : Nat) (s : List UInt8) (l : List EntD), ∃ m, (enF f s l).2.2 = l ++ m ∧ (m = [] → (enF f s l).2.1 = false → (enF f s l).1 = s) ∧ (m ≠ [] → hasPre s keyL = true)
  | 0, s, l => ⟨[], (List.append_nil l).symm, fun _ h => (by cases h), fun h => absurd rfl h⟩
  | f + 1, s, l => by
    unfold enF
    cases hp : hasPre s keyL
    · exact ⟨[], (List.append_nil l).symm, fun _ _ => rfl, fun h => absurd rfl h⟩
    · rw [xT]
      cases (eN s).1.2.1
      · obtain ⟨m, h1, _, _⟩ := enF_pre f (eN s).1.1 (l ++ [(eN s).2.1])
        exact ⟨(eN s).2.1 :: m, by rw [xF, h1, List.append_assoc]; rfl, fun h => (by cases h), fun _ => rfl⟩
      · exact ⟨[(eN s).2.1], rfl, fun h => (by cases h), fun _ => rfl⟩
/-- what a reading tells: an error, or a list that may be; its text begins and ends so; a list of names has just this text -/
theorem sget_cases (s : List UInt8) : sgetN s = errG ∨ ∃ d, sgetN s = (d, 0, ()) ∧ smayN d = true ∧ (∃ q, s = begL ++ q ++ endL) ∧ (d.2.1 = [] → s = bodyX d) ∧ (d.2.1 ≠ [] → hasPre s (begL ++ keyL) = true) := by
  unfold sgetN
  cases hb : hasPre s begL
  · exact .inl rfl
  · rw [Bool.not_true, xF]
    have e0 := hasPre_eq hb
    generalize isR s begL = s1 at e0 ⊢
    have hs1 := nmF_suf (s.length + 1) s1 []
    have hi := nmF_inv (s.length + 1) s1 []
    generalize nmF (s.length + 1) s1 [] = a at hs1 hi ⊢
    cases ha : a.2.1
    · obtain ⟨m, hm, hs⟩ := hi ha
      rw [List.nil_append] at hm
      rw [xF]
      have hs2 := enF_suf (s.length + 1) a.1 []
      obtain ⟨m2, k1, k2, k3⟩ := enF_pre (s.length + 1) a.1 []
      generalize enF (s.length + 1) a.1 [] = c at hs2 k1 k2 k3 ⊢
      rw [List.nil_append] at k1
      cases hc : c.2.1
      · rw [xF]
        rcases finG_cases c.1 a.2.2 c.2.2 with h1 | ⟨b, x, h1, h2, h3⟩
        · exact .inl h1
        · refine .inr ⟨(a.2.2, c.2.2, b, x, ()), h1, h3, ?_, fun hE => ?_, fun hE => ?_⟩
          · obtain ⟨q, hq⟩ := hs2.trans hs1
            refine ⟨q ++ nextX b x, ?_⟩
            rw [e0, ← hq, h2]
            simp only [List.append_assoc]
          · have hE : c.2.2 = [] := hE
            have hm2 : m2 = [] := by rw [← k1, hE]
            have hcs := k2 hm2 hc
            rw [e0, hs, ← hcs, h2, hm, hE]
            unfold bodyX
            dsimp only
            rw [show List.flatMap entX [] = [] from rfl]
            simp only [List.append_assoc, List.nil_append]
          · have hE : c.2.2 ≠ [] := hE
            have hkey := hasPre_eq (k3 (by rw [← k1]; exact hE))
            -- entries stand alone
            have hm0 : m = [] := by
              cases m with
              | nil => rfl
              | cons k m =>
                exfalso
                unfold smayN at h3
                rw [Bool.and_eq_true] at h3
                have h4 := h3.1
                dsimp only at h4
                rw [hm] at h4
                have : 0 < c.2.2.length := by
                  rcases Nat.eq_zero_or_pos c.2.2.length with h | h
                  · exact absurd (List.eq_nil_of_length_eq_zero h) hE
                  · exact h
                rw [decide_eq_true this, decide_eq_true (show 0 < (k :: m).length from Nat.succ_pos _)] at h4
                cases h4
            rw [e0, hs, hm0, hkey]
            show hasPre (begL ++ ([] ++ (keyL ++ _))) (begL ++ keyL) = true
            rw [List.nil_append, ← List.append_assoc]
            unfold hasPre
            rw [Bool.and_eq_true, decide_eq_true_eq, List.take_left, beq_iff_eq]
            exact ⟨by simp only [List.length_append]; omega, rfl⟩
      · exact .inl rfl
    · exact .inl rfl
end Nice
namespace Nice
open Go Go.Eng
/-! ### cuts -/
theorem occ_hit (k p r : List UInt8) : Lib.occAt (k ++ (p ++ r)) p k.length = true := by
  unfold Lib.occAt
  rw [List.drop_left, List.isPrefixOf_iff_prefix]
  exact ⟨r, rfl⟩
theorem cut_at {k p r : List UInt8} {c : UInt8} (hp : p.head? = some c) (hk : ∀ x, x ∈ k → x ≠ c) : Lib.cut (k ++ (p ++ r)) p = (k, r, true) := by
  obtain ⟨p', rfl⟩ : ∃ q, p = c :: q := by
    cases p with
    | nil => cases hp
    | cons a q => exact ⟨q, by rw [Option.some.inj hp]⟩
  have hi : Lib.index (k ++ ((c :: p') ++ r)) (c :: p') = (k.length : Int) := by
    refine Lib.index_first (by rw [List.length_append]; omega) (occ_hit k (c :: p') r) fun j hj => ?_
    cases h : Lib.occAt (k ++ ((c :: p') ++ r)) (c :: p') j
    · rfl
    · exfalso
      have h2 := Lib.occAt_head rfl h
      rw [List.getElem?_append_left hj, List.getElem?_eq_getElem hj] at h2
      exact hk _ (List.getElem_mem hj) (Option.some.inj h2)
  unfold Lib.cut
  rw [hi, if_pos (by omega), show ((k.length : Int)).toNat = k.length from rfl, List.take_left, ← List.drop_drop, List.drop_left, List.drop_left]
theorem hasPre_a (p r : List UInt8) : hasPre (p ++ r) p = true := by
  unfold hasPre
  rw [List.take_left, Bool.and_eq_true, decide_eq_true_eq, List.length_append, beq_iff_eq]
  exact ⟨by omega, rfl⟩
theorem isR_app (p r : List UInt8) : isR (p ++ r) p = r := by
  unfold isR
  rw [hasPre_a, xT, List.drop_left]
theorem up_at {k p r : List UInt8} {c : UInt8} (b : Bool) (hp : p.head? = some c) (hk : ∀ x, x ∈ k → x ≠ c) : upT (k ++ (p ++ r)) p = k ∧ upR (k ++ (p ++ r)) p = r ∧ upB b (k ++ (p ++ r)) p = b := by
  unfold upT upR upB
  rw [cut_at hp hk]
  exact ⟨rfl, rfl, rfl⟩
theorem keyCh_ne {x : UInt8} (h : keyCh x = true) : x ≠ 60 := by
  rintro rfl; exact absurd h (by decide)
theorem key_ne {k : List UInt8} (h : isKey k = true) : ∀ x, x ∈ k → x ≠ 60 := fun x hx => by
  unfold isKey at h
  rw [Bool.and_eq_true, List.all_eq_true] at h
  exact keyCh_ne (h.1 x hx)
/-! ### names -/
theorem nm_at {k : List UInt8} (R : List UInt8) (hk : isKey k = true) : hasPre (nameX k ++ R) nameL = true ∧ nK (nameX k ++ R) = k ∧ nS (nameX k ++ R) = R ∧ nB (nameX k ++ R) = false := by
  have e : nameX k ++ R = nameL ++ (k ++ (nameE ++ R)) := by unfold nameX; simp only [List.append_assoc]
  rw [e]
  refine ⟨hasPre_a _ _, ?_⟩
  show upT (isR (nameL ++ (k ++ (nameE ++ R))) nameL) nameE = k ∧ upR (isR (nameL ++ (k ++ (nameE ++ R))) nameL) nameE = R ∧ upB false (isR (nameL ++ (k ++ (nameE ++ R))) nameL) nameE = false
  rw [isR_app]
  exact up_at false rfl (key_ne hk)
theorem nmF_fwd (R : List UInt8) (hR : hasPre R nameL = false) : ∀ (m : List (List UInt8)) (f : Nat) (n : List (List UInt8)), (∀ k, k ∈ m → isKey k = true) → m.length < f → nmF f (m.flatMap nameX ++ R) n = (R, false, n ++ m)
  | [], f, n, _, hf => by
    obtain ⟨f, rfl⟩ : ∃ g, f = g + 1 := ⟨f - 1, by rw [List.length_nil] at hf; omega⟩
    unfold nmF
    show (bif hasPre R nameL then _ else (R, false, n)) = (R, false, n ++ [])
    rw [hR, List.append_nil]; rfl
  | k :: m, f, n, h, hf => by
    obtain ⟨f, rfl⟩ : ∃ g, f = g + 1 := ⟨f - 1, by rw [List.length_cons] at hf; omega⟩
    obtain ⟨h1, h2, h3, h4⟩ := nm_at (m.flatMap nameX ++ R) (h k List.mem_cons_self)
    unfold nmF
    rw [List.flatMap_cons, List.append_assoc, h1, h2, h3, h4, xT, xF, nmF_fwd R hR m f _ (fun x hx => h x (List.mem_cons_of_mem _ hx)) (by rw [List.length_cons] at hf; omega), List.append_assoc]
    rfl
/-! ### versions -/
theorem hexD_all : (List.range 16).all (fun d => isHx (hexD (d : Int)) && (hx (hexD (d : Int)) == (d : Int) && (hexD (d : Int) != 34 && hexD (d : Int) != 60))) = true := by kernel_rfl
theorem hexD_n {d : Int} (h0 : 0 ≤ d) (h1 : d < 16) : isHx (hexD d) = true ∧ hx (hexD d) = d ∧ hexD d ≠ 34 := by
  obtain ⟨n, rfl⟩ : ∃ n : Nat, d = (n : Int) := ⟨d.toNat, by omega⟩
  have := List.all_eq_true.1 hexD_all n (List.mem_range.2 (by omega))
  rw [Bool.and_eq_true, Bool.and_eq_true, Bool.and_eq_true, beq_iff_eq, bne_iff_ne] at this
  exact ⟨this.1, this.2.1, this.2.2.1⟩
theorem four_ds {n : Int} (h0 : 0 ≤ n) (h1 : n < 65521) : ∃ a b c d : Int, fourN n = [hexD a, hexD b, hexD c, hexD d] ∧ (0 ≤ a ∧ a < 16) ∧ (0 ≤ b ∧ b < 16) ∧ (0 ≤ c ∧ c < 16) ∧ (0 ≤ d ∧ d < 16) ∧ ((((0 * 16 + a) * 16 + b) * 16 + c) * 16 + d) = n := by
  obtain ⟨m, rfl⟩ : ∃ m : Nat, n = (m : Int) := ⟨n.toNat, by omega⟩
  refine ⟨((m / 4096 % 16 : Nat) : Int), ((m / 256 % 16 : Nat) : Int), ((m / 16 % 16 : Nat) : Int), ((m % 16 : Nat) : Int), rfl, ⟨by omega, by omega⟩, ⟨by omega, by omega⟩, ⟨by omega, by omega⟩, ⟨by omega, by omega⟩, by omega⟩
theorem rdF_cons {c : UInt8} (r : List UInt8) (i : Nat) (a b : Int) (h : isHx c = true) : rdF (c :: r) i a b = bif decide (i < 4) then rdF r (i + 1) (a * 16 + hx c) b else rdF r (i + 1) a (b * 16 + hx c) := by
  show (bif isHx c then _ else none) = _
  rw [h]; rfl
theorem rdF_8 {a b c d e f g h : Int} (ha : 0 ≤ a ∧ a < 16) (hb : 0 ≤ b ∧ b < 16) (hc : 0 ≤ c ∧ c < 16) (hd : 0 ≤ d ∧ d < 16) (he : 0 ≤ e ∧ e < 16) (hf : 0 ≤ f ∧ f < 16) (hg : 0 ≤ g ∧ g < 16) (hh : 0 ≤ h ∧ h < 16) : rdF [hexD a, hexD b, hexD c, hexD d, hexD e, hexD f, hexD g, hexD h] 0 0 0 = some ((((0 * 16 + a) * 16 + b) * 16 + c) * 16 + d, (((0 * 16 + e) * 16 + f) * 16 + g) * 16 + h) := by
  rw [rdF_cons _ _ _ _ (hexD_n ha.1 ha.2).1, (hexD_n ha.1 ha.2).2.1, decide_eq_true (show 0 < 4 by decide), xT,
    rdF_cons _ _ _ _ (hexD_n hb.1 hb.2).1, (hexD_n hb.1 hb.2).2.1, decide_eq_true (show 0 + 1 < 4 by decide), xT,
    rdF_cons _ _ _ _ (hexD_n hc.1 hc.2).1, (hexD_n hc.1 hc.2).2.1, decide_eq_true (show 0 + 1 + 1 < 4 by decide), xT,
    rdF_cons _ _ _ _ (hexD_n hd.1 hd.2).1, (hexD_n hd.1 hd.2).2.1, decide_eq_true (show 0 + 1 + 1 + 1 < 4 by decide), xT,
    rdF_cons _ _ _ _ (hexD_n he.1 he.2).1, (hexD_n he.1 he.2).2.1, decide_eq_false (show ¬ 0 + 1 + 1 + 1 + 1 < 4 by decide), xF,
    rdF_cons _ _ _ _ (hexD_n hf.1 hf.2).1, (hexD_n hf.1 hf.2).2.1, decide_eq_false (show ¬ 0 + 1 + 1 + 1 + 1 + 1 < 4 by decide), xF,
    rdF_cons _ _ _ _ (hexD_n hg.1 hg.2).1, (hexD_n hg.1 hg.2).2.1, decide_eq_false (show ¬ 0 + 1 + 1 + 1 + 1 + 1 + 1 < 4 by decide), xF,
    rdF_cons _ _ _ _ (hexD_n hh.1 hh.2).1, (hexD_n hh.1 hh.2).2.1, decide_eq_false (show ¬ 0 + 1 + 1 + 1 + 1 + 1 + 1 + 1 < 4 by decide), xF]
  rfl
theorem tag_ok (b : List UInt8) : (gRead (tagN b)).2 = true ∧ (∀ x, x ∈ tagN b → x ≠ 34) := by
  have hm := Go.Proofs.YtnblkjapeiaedaaGreatDoor.on_m b (0, 1, ()) ⟨⟨by decide, by decide⟩, ⟨by decide, by decide⟩⟩
  obtain ⟨⟨m1, m2⟩, ⟨m3, m4⟩⟩ := hm
  obtain ⟨a, b', c, d, e1, ha, hb, hc, hd, v1⟩ := four_ds m1 m2
  obtain ⟨e, f, g, h, e2, he, hf, hg, hh, v2⟩ := four_ds m3 m4
  have ht : tagN b = [hexD a, hexD b', hexD c, hexD d, hexD e, hexD f, hexD g, hexD h] := by
    show fourN (onN (0, 1, ()) b).1 ++ fourN (onN (0, 1, ()) b).2.1 = _
    rw [e1, e2]; rfl
  rw [ht]
  refine ⟨?_, fun x hx => ?_⟩
  · unfold gRead rdZ
    rw [decide_eq_true (show [hexD a, hexD b', hexD c, hexD d, hexD e, hexD f, hexD g, hexD h].length = 8 from rfl), xT, rdF_8 ha hb hc hd he hf hg hh, v1, v2]
    show ((match (bif decide ((onN (0, 1, ()) b).1 < 65521) && decide ((onN (0, 1, ()) b).2.1 < 65521) then some ((onN (0, 1, ()) b).1, (onN (0, 1, ()) b).2.1) else none) with
      | some z => ((FloatKind.f64.nearest z.1, FloatKind.f64.nearest z.2), true)
      | none => ((0, 0), false)) : (Nat × Nat) × Bool).2 = true
    rw [decide_eq_true m2, decide_eq_true m4]; rfl
  · simp only [List.mem_cons, List.not_mem_nil, or_false] at hx
    rcases hx with rfl | rfl | rfl | rfl | rfl | rfl | rfl | rfl
    · exact (hexD_n ha.1 ha.2).2.2
    · exact (hexD_n hb.1 hb.2).2.2
    · exact (hexD_n hc.1 hc.2).2.2
    · exact (hexD_n hd.1 hd.2).2.2
    · exact (hexD_n he.1 he.2).2.2
    · exact (hexD_n hf.1 hf.2).2.2
    · exact (hexD_n hg.1 hg.2).2.2
    · exact (hexD_n hh.1 hh.2).2.2
def stripV (v : VerD) : VerD := (v.1, v.2.1, [], ())
def stripE (e : EntD) : EntD := (e.1, e.2.1.map stripV, ())
def stripS (d : ShD) : ShD := (d.1, d.2.1.map stripE, d.2.2.1, d.2.2.2.1, ())
theorem mk_ok (v : VerD) : (!(gRead (mkV v)).2 && !(mkV v == goneL)) = false ∧ (mkV v == goneL) = v.2.1 ∧ (∀ x, x ∈ mkV v → x ≠ 34) := by
  unfold mkV
  cases v.2.1
  · rw [xF]
    obtain ⟨t1, t2⟩ := tag_ok v.2.2.1
    refine ⟨by rw [t1]; rfl, ?_, t2⟩
    rw [beq_eq_false_iff_ne]
    intro e
    have := congrArg List.length e
    rw [tagN_len] at this
    exact absurd this (by decide)
  · rw [xT]
    exact ⟨by rw [beq_self_eq_true, Bool.not_true, Bool.and_false], beq_self_eq_true _, by decide⟩
theorem fmt_ok {n : Int} (h0 : 1 ≤ n) (h1 : n ≤ 1099511627776) : intN (fmtN n) = (n, true) ∧ (∀ x, x ∈ fmtN n → x ≠ 34) := by
  obtain ⟨u, rfl⟩ : ∃ u : Nat, n = (u : Int) := ⟨n.toNat, by omega⟩
  refine ⟨intN_fmt (by omega), fun x hx => ?_⟩
  rw [fmtN_nat] at hx
  have := (dec_ok u).1
  unfold allDig at this
  have := List.all_eq_true.1 this x hx
  rintro rfl
  exact absurd this (by decide)
theorem ver_at {v : VerD} (R : List UInt8) (hv : verB v = true) : hasPre (verX v ++ R) verL = true ∧ vB3 (verX v ++ R) = false ∧ badV (vNu (verX v ++ R)) (vMk (verX v ++ R)) = false ∧ newV (vNu (verX v ++ R)) (vMk (verX v ++ R)) = stripV v ∧ vS3 (verX v ++ R) = R := by
  have hv' := hv
  unfold verB at hv'
  rw [Bool.and_eq_true, Bool.and_eq_true, decide_eq_true_eq, decide_eq_true_eq] at hv'
  obtain ⟨f1, f2⟩ := fmt_ok hv'.1 hv'.2.1
  obtain ⟨m1, m2, m3⟩ := mk_ok v
  have e : verX v ++ R = verL ++ (fmtN v.1 ++ (tagL ++ (mkV v ++ (cloL ++ R)))) := by
    unfold verX verY; simp only [List.append_assoc]
  rw [e]
  have e1 : vS1 (verL ++ (fmtN v.1 ++ (tagL ++ (mkV v ++ (cloL ++ R))))) = fmtN v.1 ++ (tagL ++ (mkV v ++ (cloL ++ R))) := isR_app _ _
  obtain ⟨u1, u2, u3⟩ := up_at (k := fmtN v.1) (p := tagL) (r := mkV v ++ (cloL ++ R)) (c := 34) false rfl f2
  obtain ⟨w1, w2, w3⟩ := up_at (k := mkV v) (p := cloL) (r := R) (c := 34) false rfl m3
  have e2 : vNu (verL ++ (fmtN v.1 ++ (tagL ++ (mkV v ++ (cloL ++ R))))) = fmtN v.1 := by
    show upT (vS1 _) tagL = _; rw [e1]; exact u1
  have e3 : vS2 (verL ++ (fmtN v.1 ++ (tagL ++ (mkV v ++ (cloL ++ R))))) = mkV v ++ (cloL ++ R) := by
    show upR (vS1 _) tagL = _; rw [e1]; exact u2
  have e4 : vMk (verL ++ (fmtN v.1 ++ (tagL ++ (mkV v ++ (cloL ++ R))))) = mkV v := by
    show upT (vS2 _) cloL = _; rw [e3]; exact w1
  have e5 : vS3 (verL ++ (fmtN v.1 ++ (tagL ++ (mkV v ++ (cloL ++ R))))) = R := by
    show upR (vS2 _) cloL = _; rw [e3]; exact w2
  refine ⟨hasPre_a _ _, ?_, ?_, ?_, e5⟩
  · show upB (upB false (vS1 _) tagL) (vS2 _) cloL = false
    rw [e1, e3, u3, w3]
  · rw [e2, e4]
    unfold badV
    rw [f1, m1, Bool.not_true, Bool.false_or, Bool.or_false, beq_self_eq_true]; rfl
  · rw [e2, e4]
    unfold newV stripV
    rw [f1, m2]
theorem entV_fwd (Z : List UInt8) (hZ : hasPre Z verL = false) : ∀ (u : List VerD) (f : Nat) (q : List VerD), (∀ v, v ∈ u → verB v = true) → u.length < f → entV f (u.flatMap verX ++ Z) q = (Z, false, q ++ u.map stripV)
  | [], f, q, _, hf => by
    obtain ⟨f, rfl⟩ : ∃ g, f = g + 1 := ⟨f - 1, by rw [List.length_nil] at hf; omega⟩
    unfold entV
    show (bif hasPre Z verL then _ else (Z, false, q)) = (Z, false, q ++ [])
    rw [hZ, List.append_nil]; rfl
  | v :: u, f, q, h, hf => by
    obtain ⟨f, rfl⟩ : ∃ g, f = g + 1 := ⟨f - 1, by rw [List.length_cons] at hf; omega⟩
    obtain ⟨h1, h2, h3, h4, h5⟩ := ver_at (u.flatMap verX ++ Z) (h v List.mem_cons_self)
    unfold entV
    rw [List.flatMap_cons, List.append_assoc, h1, h2, h3, h4, h5, xT, Bool.or_false, xF, entV_fwd Z hZ u f _ (fun x hx => h x (List.mem_cons_of_mem _ hx)) (by rw [List.length_cons] at hf; omega), List.append_assoc]
    rfl
end Nice
namespace Nice
open Go Go.Eng
theorem mis {a b c : UInt8} {r q : List UInt8} (h : b ≠ c) : hasPre (a :: b :: r) (a :: c :: q) = false := by
  cases e : hasPre (a :: b :: r) (a :: c :: q)
  · rfl
  · have := hasPre_eq e
    rw [List.cons_append, List.cons_append] at this
    injection this with _ this
    injection this with this _
    exact absurd this h
theorem mis3 {a b c d : UInt8} {r q : List UInt8} (h : c ≠ d) : hasPre (a :: b :: c :: r) (a :: b :: d :: q) = false := by
  cases e : hasPre (a :: b :: c :: r) (a :: b :: d :: q)
  · rfl
  · have := hasPre_eq e
    rw [List.cons_append, List.cons_append, List.cons_append] at this
    injection this with _ this
    injection this with _ this
    injection this with this _
    exact absurd this h
theorem flat_len {α : Type} (f : α → List UInt8) (h : ∀ a, 1 ≤ (f a).length) : ∀ (l : List α), l.length ≤ (l.flatMap f).length
  | [] => Nat.le_refl _
  | a :: l => by
    have := flat_len f h l
    have := h a
    rw [List.flatMap_cons, List.length_append, List.length_cons]; omega
theorem verX_pos (v : VerD) : 1 ≤ (verX v).length := by
  unfold verX; rw [verY_len]; omega
theorem nameX_len (k : List UInt8) : (nameX k).length = 13 + k.length := by
  unfold nameX; rw [List.length_append, List.length_append, show nameL.length = 6 from rfl, show nameE.length = 7 from rfl]; omega
theorem entX_pos (e : EntD) : 1 ≤ (entX e).length := by
  unfold entX; simp only [List.length_append, show kenL.length = 11 from rfl]; omega
theorem en_at {e : EntD} (R : List UInt8) (he : entB e = true) : hasPre (entX e ++ R) keyL = true ∧ eN (entX e ++ R) = ((R, false, ()), stripE e, ()) := by
  obtain ⟨h1, h2, _, _⟩ := entB_iff.1 he
  have hv := riseV_mem _ _ h1
  have e0 : entX e ++ R = keyL ++ (nameL ++ (e.1 ++ (nameE ++ (versX e.2.1 ++ (keyE ++ R))))) := by
    unfold entX
    rw [show kenL = keyL ++ nameL from rfl]
    simp only [List.append_assoc]
  rw [e0]
  refine ⟨hasPre_a _ _, ?_⟩
  show entN (isR (keyL ++ _) keyL) = _
  rw [isR_app]
  generalize hZ : versX e.2.1 ++ (keyE ++ R) = Z
  have e1 : eS1 (nameL ++ (e.1 ++ (nameE ++ Z))) = e.1 ++ (nameE ++ Z) := isR_app _ _
  have e2 : (!hasPre (nameL ++ (e.1 ++ (nameE ++ Z))) nameL) = false := by rw [hasPre_a]; rfl
  obtain ⟨u1, u2, u3⟩ := up_at (k := e.1) (p := nameE) (r := Z) (c := 60) false rfl (key_ne h2)
  have e3 : eK (nameL ++ (e.1 ++ (nameE ++ Z))) = e.1 := by show upT (eS1 _) nameE = _; rw [e1]; exact u1
  have e4 : eS2 (nameL ++ (e.1 ++ (nameE ++ Z))) = Z := by show upR (eS1 _) nameE = _; rw [e1]; exact u2
  have e5 : eB2 (nameL ++ (e.1 ++ (nameE ++ Z))) = false := by show upB (!hasPre _ nameL) (eS1 _) nameE = _; rw [e1, e2]; exact u3
  have hlen := flat_len verX verX_pos e.2.1.reverse
  have eW : entW (nameL ++ (e.1 ++ (nameE ++ Z))) = (keyE ++ R, false, e.2.1.reverse.map stripV) := by
    unfold entW
    rw [e5, e4, xF, ← hZ]
    have := entV_fwd (keyE ++ R) (mis (a := 60) (b := 47) (c := 118) (by decide) : hasPre (keyE ++ R) verL = false) e.2.1.reverse ((versX e.2.1 ++ (keyE ++ R)).length + 1) [] (fun v hv' => hv v (List.mem_reverse.1 hv')) (by
      show _ < (e.2.1.reverse.flatMap verX ++ (keyE ++ R)).length + 1
      rw [List.length_append]; omega)
    exact this
  unfold entN
  rw [eW, e3]
  dsimp only
  rw [isR_app, hasPre_a, Bool.not_true, Bool.false_or, ← List.map_reverse, List.reverse_reverse]
  rfl
theorem enF_fwd (R : List UInt8) (hR : hasPre R keyL = false) : ∀ (m : List EntD) (f : Nat) (q : List EntD), (∀ e, e ∈ m → entB e = true) → m.length < f → enF f (m.flatMap entX ++ R) q = (R, false, q ++ m.map stripE)
  | [], f, q, _, hf => by
    obtain ⟨f, rfl⟩ : ∃ g, f = g + 1 := ⟨f - 1, by rw [List.length_nil] at hf; omega⟩
    unfold enF
    show (bif hasPre R keyL then _ else (R, false, q)) = (R, false, q ++ [])
    rw [hR, List.append_nil]; rfl
  | e :: m, f, q, h, hf => by
    obtain ⟨f, rfl⟩ : ∃ g, f = g + 1 := ⟨f - 1, by rw [List.length_cons] at hf; omega⟩
    obtain ⟨h1, h2⟩ := en_at (m.flatMap entX ++ R) (h e List.mem_cons_self)
    unfold enF
    rw [List.flatMap_cons, List.append_assoc, h1, h2, xT, xF, enF_fwd R hR m f _ (fun x hx => h x (List.mem_cons_of_mem _ hx)) (by rw [List.length_cons] at hf; omega), List.append_assoc]
    rfl
theorem verB_strip {v : VerD} (h : verB v = true) : verB (stripV v) = true := by
  unfold verB at h ⊢
  rw [Bool.and_eq_true, Bool.and_eq_true] at h
  show (decide (1 ≤ v.1) && (decide (v.1 ≤ 1099511627776) && (decide (([] : List UInt8).length ≤ 300) && (!v.2.1 || true)))) = true
  rw [h.1, h.2.1, Bool.or_true]; rfl
theorem riseV_strip : ∀ (l : List VerD) (t : Int), riseV t l = true → riseV t (l.map stripV) = true
  | [], _, _ => rfl
  | v :: l, t, h => by
    rw [riseV_cons, Bool.and_eq_true, Bool.and_eq_true] at h
    rw [List.map_cons, riseV_cons, verB_strip h.1]
    show (true && (decide (t < v.1) && riseV v.1 (l.map stripV))) = true
    rw [h.2.1, riseV_strip l v.1 h.2.2]; rfl
theorem entB_strip {e : EntD} (h : entB e = true) : entB (stripE e) = true := by
  obtain ⟨h1, h2, h3, h4⟩ := entB_iff.1 h
  refine entB_iff.2 ⟨riseV_strip _ _ h1, h2, ?_, ?_⟩
  · show 1 ≤ (e.2.1.map stripV).length; rw [List.length_map]; exact h3
  · show (e.2.1.map stripV).length ≤ 12; rw [List.length_map]; exact h4
theorem smayN_strip {d : ShD} (h : smayN d = true) : smayN (stripS d) = true := by
  have hk : keysN d.1 (d.2.1.map stripE) = keysN d.1 d.2.1 := by
    unfold keysN
    rw [List.map_map]; rfl
  unfold smayN at h ⊢
  show (!(decide (0 < d.1.length) && decide (0 < (d.2.1.map stripE).length)) && (riseK [] (keysN d.1 (d.2.1.map stripE)) && ((d.2.1.map stripE).all entB && (decide ((keysN d.1 (d.2.1.map stripE)).length ≤ 20) && (bif d.2.2.1 then decide (0 < (keysN d.1 (d.2.1.map stripE)).length) && d.2.2.2.1 == lastK [] (keysN d.1 (d.2.1.map stripE)) else d.2.2.2.1 == []))))) = true
  rw [hk, List.length_map]
  rw [Bool.and_eq_true, Bool.and_eq_true, Bool.and_eq_true] at h ⊢
  refine ⟨h.1, h.2.1, ?_, h.2.2.2⟩
  rw [List.all_eq_true]
  intro e he
  obtain ⟨e', he', rfl⟩ := List.mem_map.1 he
  exact entB_strip (List.all_eq_true.1 h.2.2.1 e' he')
theorem riseK_key : ∀ (l : List (List UInt8)) (t : List UInt8), riseK t l = true → 0 < l.length → isKey (lastK t l) = true
  | [], _, _, h => absurd h (by decide)
  | [k], t, h, _ => by
    rw [riseK_cons, Bool.and_eq_true] at h
    exact h.1
  | a :: b :: l, t, h, _ => by
    rw [riseK_cons, Bool.and_eq_true, Bool.and_eq_true] at h
    exact riseK_key (b :: l) a h.2.2 (by rw [List.length_cons]; omega)
/-- where there is more: a key stands in next; where there is none: nothing -/
theorem smayN_next {d : ShD} (h : smayN d = true) : (d.2.2.1 = true → isKey d.2.2.2.1 = true) ∧ (d.2.2.1 = false → d.2.2.2.1 = []) := by
  unfold smayN at h
  rw [Bool.and_eq_true, Bool.and_eq_true, Bool.and_eq_true, Bool.and_eq_true] at h
  obtain ⟨_, h1, _, _, h4⟩ := h
  refine ⟨fun hb => ?_, fun hb => ?_⟩
  · rw [hb, xT, Bool.and_eq_true, decide_eq_true_eq, beq_iff_eq] at h4
    rw [h4.2]; exact riseK_key _ _ h1 h4.1
  · rw [hb, xF, beq_iff_eq] at h4; exact h4
theorem endG_fwd (T : List UInt8) {d : ShD} (h : smayN d = true) : endG (endL ++ T) false d = bif T == [] then (d, 0, ()) else errG := by
  unfold endG
  rw [hasPre_a, isR_app, h]
  cases T == [] <;> rfl
theorem finG_fwd {d : ShD} (T : List UInt8) (h : smayN d = true) : finG (nextX d.2.2.1 d.2.2.2.1 ++ (endL ++ T)) d.1 d.2.1 = bif T == [] then (d, 0, ()) else errG := by
  obtain ⟨n, l, b, x, ⟨⟩⟩ := d
  obtain ⟨k1, k2⟩ := smayN_next h
  have k1 : b = true → isKey x = true := k1
  have k2 : b = false → x = [] := k2
  show finG (nextX b x ++ (endL ++ T)) n l = _
  cases b
  · obtain rfl := k2 rfl
    unfold finG
    rw [show nextX false [] ++ (endL ++ T) = endL ++ T from rfl, (show hasPre (endL ++ T) nextL = false from mis (a := 60) (b := 47) (c := 110) (by decide)), xF]
    exact endG_fwd T h
  · have hx := k1 rfl
    have e : nextX true x ++ (endL ++ T) = nextL ++ (x ++ (nextE ++ (endL ++ T))) := by
      show (nextL ++ x ++ nextE) ++ (endL ++ T) = _
      simp only [List.append_assoc]
    obtain ⟨u1, u2, u3⟩ := up_at (k := x) (p := nextE) (r := endL ++ T) (c := 60) false rfl (key_ne hx)
    unfold finG
    rw [e, hasPre_a, xT]
    show endG (upR (isR _ nextL) nextE) (upB false (isR _ nextL) nextE) (n, l, true, upT (isR _ nextL) nextE, ()) = _
    rw [isR_app, u1, u2, u3]
    exact endG_fwd T h
/-- a list that may be is read back, but for the bodies; more text is none's -/
theorem sget_fwd {d : ShD} (T : List UInt8) (h : smayN d = true) : sgetN (bodyX d ++ T) = bif T == [] then (stripS d, 0, ()) else errG := by
  obtain ⟨hk, he, _, _, _⟩ := smayN_iff h
  have hf := finG_fwd T (smayN_strip h)
  obtain ⟨k1, k2⟩ := smayN_next h
  obtain ⟨n, l, b, x, ⟨⟩⟩ := d
  have hk : ∀ k, k ∈ n → isKey k = true := hk
  have he : ∀ e, e ∈ l → entB e = true := he
  have hf : finG (nextX b x ++ (endL ++ T)) n (l.map stripE) = bif T == [] then (stripS (n, l, b, x, ()), 0, ()) else errG := hf
  have k2 : b = false → x = [] := k2
  have e0 : bodyX (n, l, b, x, ()) ++ T = begL ++ (n.flatMap nameX ++ (l.flatMap entX ++ (nextX b x ++ (endL ++ T)))) := by
    unfold bodyX; simp only [List.append_assoc]
  have hR2 : hasPre (nextX b x ++ (endL ++ T)) keyL = false := by
    cases b
    · exact (mis (a := 60) (b := 47) (c := 107) (by decide) : hasPre (endL ++ T) keyL = false)
    · exact (mis (a := 60) (b := 110) (c := 107) (by decide) : hasPre ((nextL ++ x ++ nextE) ++ (endL ++ T)) keyL = false)
  have hR1 : hasPre (l.flatMap entX ++ (nextX b x ++ (endL ++ T))) nameL = false := by
    cases l with
    | nil =>
      cases b
      · exact (mis (a := 60) (b := 47) (c := 110) (by decide) : hasPre (endL ++ T) nameL = false)
      · exact (mis3 (a := 60) (b := 110) (c := 101) (d := 97) (by decide) : hasPre ((nextL ++ x ++ nextE) ++ (endL ++ T)) nameL = false)
    | cons e l =>
      rw [List.flatMap_cons]
      exact (mis (a := 60) (b := 107) (c := 110) (by decide) : hasPre ((kenL ++ e.1 ++ nameE ++ versX e.2.1 ++ keyE ++ l.flatMap entX) ++ (nextX b x ++ (endL ++ T))) nameL = false)
  have hl1 := flat_len nameX (fun k => by rw [nameX_len]; omega) n
  have hl2 := flat_len entX entX_pos l
  rw [e0]
  unfold sgetN
  have hlen : (begL ++ (n.flatMap nameX ++ (l.flatMap entX ++ (nextX b x ++ (endL ++ T))))).length = 6 + ((n.flatMap nameX).length + ((l.flatMap entX).length + (nextX b x ++ (endL ++ T)).length)) := by
    rw [List.length_append, List.length_append, List.length_append]; rfl
  rw [hasPre_a, isR_app, nmF_fwd _ hR1 n _ [] hk (by omega), Bool.not_true, xF]
  dsimp only
  rw [xF, enF_fwd _ hR2 l _ [] he (by omega)]
  dsimp only
  rw [xF]
  exact hf
theorem eqVs_strip : ∀ (l : List VerD), eqVs (l.map stripV) l = true
  | [] => rfl
  | v :: l => by
    rw [List.map_cons, eqVs_cons, eqVs_strip l, Bool.and_true]
    show (v.1 == v.1 && v.2.1 == v.2.1) = true
    rw [beq_self_eq_true, beq_self_eq_true]; rfl
theorem eqEs_strip : ∀ (l : List EntD), eqEs (l.map stripE) l = true
  | [] => rfl
  | e :: l => by
    rw [List.map_cons, eqEs_cons, eqEs_strip l, Bool.and_true]
    show (e.1 == e.1 && eqVs (e.2.1.map stripV) e.2.1) = true
    rw [beq_self_eq_true, eqVs_strip]; rfl
theorem eqSh_strip (d : ShD) : eqShN (stripS d) d = true := by
  show (d.1 == d.1 && (eqEs (d.2.1.map stripE) d.2.1 && (d.2.2.1 == d.2.2.1 && d.2.2.2.1 == d.2.2.2.1))) = true
  rw [beq_self_eq_true, eqEs_strip, beq_self_eq_true, beq_self_eq_true]; rfl
theorem bodyX_ne (d : ShD) : 13 ≤ (bodyX d).length := by
  unfold bodyX
  simp only [List.length_append, show begL.length = 6 from rfl, show endL.length = 7 from rfl]; omega
end Nice
namespace Nice
open Go Go.Eng
theorem two_diff {p : List UInt8} {i : Nat} {c : UInt8} {j k : Nat} (hjk : j ≠ k) (h1 : (p.set i c)[j]? ≠ p[j]?) (h2 : (p.set i c)[k]? ≠ p[k]?) : False := by
  have e : ∀ m, (p.set i c)[m]? ≠ p[m]? → i = m := fun m h => by
    rcases Nat.decEq i m with hm | hm
    · exact absurd (List.getElem?_set_ne hm) h
    · exact hm
  exact hjk ((e j h1).symm.trans (e k h2))
def cnt (s : List UInt8) : Nat := s.count 60
theorem cnt_app (a b : List UInt8) : cnt (a ++ b) = cnt a + cnt b := List.count_append
theorem cnt_key {k : List UInt8} (h : isKey k = true) : cnt k = 0 := List.count_eq_zero.2 fun hm => key_ne h 60 hm rfl
theorem cnt_names : ∀ (n : List (List UInt8)), (∀ k, k ∈ n → isKey k = true) → cnt (n.flatMap nameX) = 2 * n.length
  | [], _ => rfl
  | k :: n, h => by
    have e : cnt (nameX k) = 2 := by
      unfold nameX
      rw [cnt_app, cnt_app, cnt_key (h k List.mem_cons_self)]; rfl
    rw [List.flatMap_cons, cnt_app, e, cnt_names n fun x hx => h x (List.mem_cons_of_mem _ hx), List.length_cons]; omega
theorem cnt_body {d : ShD} (h : smayN d = true) (he : d.2.1 = []) : cnt (bodyX d) = 2 + 2 * d.1.length + (bif d.2.2.1 then 2 else 0) := by
  obtain ⟨k1, _⟩ := smayN_next h
  obtain ⟨h1, _⟩ := smayN_iff h
  have e : cnt (nextX d.2.2.1 d.2.2.2.1) = bif d.2.2.1 then 2 else 0 := by
    unfold nextX
    cases hb : d.2.2.1
    · rfl
    · rw [xT, cnt_app, cnt_app, cnt_key (k1 hb)]; rfl
  unfold bodyX
  rw [cnt_app, cnt_app, cnt_app, cnt_app, cnt_names _ h1, he, e, show cnt begL = 1 from rfl, show cnt endL = 1 from rfl, show cnt (List.flatMap entX []) = 0 from rfl]
  omega
theorem cnt_set {p : List UInt8} {i : Nat} (c : UInt8) (hi : i < p.length) : cnt (p.set i c) ≤ cnt p + 1 ∧ cnt p ≤ cnt (p.set i c) + 1 := by
  have e1 : p.set i c = p.take i ++ c :: p.drop (i + 1) := by rw [List.set_eq_take_append_cons_drop, if_pos hi]
  have e2 : p = p.take i ++ p[i] :: p.drop (i + 1) := by rw [← List.drop_eq_getElem_cons hi, List.take_append_drop]
  have h1 : ∀ (x : UInt8) (r : List UInt8), cnt r ≤ cnt (x :: r) ∧ cnt (x :: r) ≤ cnt r + 1 := fun x r => by
    unfold cnt
    rw [List.count_cons]
    split <;> omega
  have a1 := h1 c (p.drop (i + 1))
  have a2 := h1 p[i] (p.drop (i + 1))
  have b1 : cnt (p.set i c) = cnt (p.take i) + cnt (c :: p.drop (i + 1)) := by rw [e1, cnt_app]
  have b2 : cnt p = cnt (p.take i) + cnt (p[i] :: p.drop (i + 1)) := by
    rw [← cnt_app, ← e2]
  omega
theorem get_at (a b : List UInt8) (j : Nat) : (a ++ b)[a.length + j]? = b[j]? := by
  rw [List.getElem?_append_right (by omega)]
  congr 1; omega
/-- the end of a list of names that has some, without more -/
theorem body_end {d : ShD} (hn : 0 < d.1.length) (he : d.2.1 = []) (hb : d.2.2.1 = false) : ∃ q, bodyX d = q ++ (nameE ++ endL) := by
  obtain ⟨n, l, b, x, ⟨⟩⟩ := d
  have hn : 0 < n.length := hn
  obtain rfl : l = [] := he
  obtain rfl : b = false := hb
  have hne : n ≠ [] := by rintro rfl; exact absurd hn (Nat.lt_irrefl 0)
  obtain ⟨m, k, rfl⟩ : ∃ m k, n = m ++ [k] := ⟨n.dropLast, n.getLast hne, (List.dropLast_concat_getLast hne).symm⟩
  refine ⟨begL ++ m.flatMap nameX ++ nameL ++ k, ?_⟩
  show begL ++ (m ++ [k]).flatMap nameX ++ [] ++ [] ++ endL = _
  rw [List.flatMap_append]
  show begL ++ (m.flatMap nameX ++ ((nameL ++ k ++ nameE) ++ [])) ++ [] ++ [] ++ endL = _
  simp only [List.append_assoc, List.append_nil]
theorem body_next {d : ShD} (he : d.2.1 = []) (hb : d.2.2.1 = true) : ∃ q, bodyX d = q ++ (nextE ++ endL) := by
  obtain ⟨n, l, b, x, ⟨⟩⟩ := d
  obtain rfl : l = [] := he
  obtain rfl : b = true := hb
  refine ⟨begL ++ n.flatMap nameX ++ nextL ++ x, ?_⟩
  show begL ++ n.flatMap nameX ++ [] ++ (nextL ++ x ++ nextE) ++ endL = _
  simp only [List.append_assoc, List.append_nil]
/-- a text that ends with the one and one that ends with the other differ twice -/
theorem ends_diff {p : List UInt8} {i : Nat} {c : UInt8} {a b : List UInt8} (h1 : p = a ++ (nextE ++ endL)) (h2 : p.set i c = b ++ (nameE ++ endL)) : False := by
  have hl : a.length = b.length := by
    have := congrArg List.length h2
    rw [List.length_set, h1] at this
    simp only [List.length_append, show nextE.length = 7 from rfl, show nameE.length = 7 from rfl, show endL.length = 7 from rfl] at this
    omega
  have g1 : ∀ j, p[a.length + j]? = (nextE ++ endL)[j]? := fun j => by
    conv => lhs; rw [h1]
    exact get_at _ _ _
  have g2 : ∀ j, (p.set i c)[a.length + j]? = (nameE ++ endL)[j]? := fun j => by rw [h2, hl, get_at]
  refine two_diff (p := p) (i := i) (c := c) (j := a.length + 3) (k := a.length + 4) (by omega) ?_ ?_
  · rw [g1, g2]; decide
  · rw [g1, g2]; decide
theorem ends_diff' {p : List UInt8} {i : Nat} {c : UInt8} {a b : List UInt8} (h1 : p = a ++ (nameE ++ endL)) (h2 : p.set i c = b ++ (nextE ++ endL)) : False := by
  have hl : a.length = b.length := by
    have := congrArg List.length h2
    rw [List.length_set, h1] at this
    simp only [List.length_append, show nextE.length = 7 from rfl, show nameE.length = 7 from rfl, show endL.length = 7 from rfl] at this
    omega
  have g1 : ∀ j, p[a.length + j]? = (nameE ++ endL)[j]? := fun j => by
    conv => lhs; rw [h1]
    exact get_at _ _ _
  have g2 : ∀ j, (p.set i c)[a.length + j]? = (nextE ++ endL)[j]? := fun j => by rw [h2, hl, get_at]
  refine two_diff (p := p) (i := i) (c := c) (j := a.length + 3) (k := a.length + 4) (by omega) ?_ ?_
  · rw [g1, g2]; decide
  · rw [g1, g2]; decide
/-- the beginning of a list without entries -/
theorem body_beg {d : ShD} (h : smayN d = true) (he : d.2.1 = []) : (∃ r, bodyX d = begL ++ (nameL ++ r)) ∨ bodyX d = begL ++ endL := by
  have h0 := h
  obtain ⟨n, l, b, x, ⟨⟩⟩ := d
  obtain rfl : l = [] := he
  cases n with
  | nil =>
    right
    have hb : b = false := by
      cases b
      · rfl
      · unfold smayN at h0
        rw [Bool.and_eq_true, Bool.and_eq_true, Bool.and_eq_true, Bool.and_eq_true] at h0
        have t : (decide (0 < (keysN [] []).length) && x == lastK [] (keysN [] [])) = true := h0.2.2.2.2
        rw [show decide (0 < (keysN ([] : List (List UInt8)) []).length) = false from rfl, Bool.false_and] at t
        cases t
    subst hb
    rfl
  | cons k n =>
    left
    refine ⟨k ++ nameE ++ n.flatMap nameX ++ nextX b x ++ endL, ?_⟩
    show begL ++ ((nameL ++ k ++ nameE) ++ n.flatMap nameX) ++ [] ++ nextX b x ++ endL = _
    simp only [List.append_assoc, List.append_nil]
theorem key_at {s : List UInt8} (h : hasPre s (begL ++ keyL) = true) : s[7]? = some 107 ∧ s[8]? = some 101 := by
  rw [hasPre_eq h]
  exact ⟨rfl, rfl⟩
theorem body_at {d : ShD} (h : smayN d = true) (he : d.2.1 = []) : (bodyX d)[7]? ≠ some 107 ∧ (bodyX d)[8]? ≠ some 101 := by
  rcases body_beg h he with ⟨r, e⟩ | e
  · rw [e]
    exact ⟨by show (some (110 : UInt8)) ≠ some 107; decide, by show (some (97 : UInt8)) ≠ some 101; decide⟩
  · rw [e]; exact ⟨by decide, by decide⟩
/-- a true beginning of a list's text is none's -/
theorem sget_beg {d : ShD} (h : smayN d = true) (he : d.2.1 = []) {i : Nat} (hi : i < (bodyX d).length) : sgetN ((bodyX d).take i) = errG := by
  rcases sget_cases ((bodyX d).take i) with e | ⟨y, e, h1, _, h2, h3⟩
  · exact e
  · exfalso
    have hp : bodyX d = (bodyX d).take i ++ (bodyX d).drop i := (List.take_append_drop i _).symm
    have hT : (bodyX d).drop i ≠ [] := fun hh => by
      have := congrArg List.length hh
      rw [List.length_drop, List.length_nil] at this
      omega
    by_cases hy : y.2.1 = []
    · have q := h2 hy
      rw [q] at hp
      have f1 := sget_fwd ((bodyX d).drop i) h1
      rw [← hp, (beq_eq_false_iff_ne.2 hT : ((bodyX d).drop i == []) = false), xF] at f1
      have f2 := sget_fwd [] h
      rw [List.append_nil, f1] at f2
      have t : (1 : Int) = 0 := congrArg (fun g : ShD × Int × Unit => g.2.1) f2
      exact absurd t (by decide)
    · have ha := (key_at (h3 hy)).1
      have hb := (body_at h he).1
      have hlt : 7 < ((bodyX d).take i).length := by
        rcases Nat.lt_or_ge 7 ((bodyX d).take i).length with hh | hh
        · exact hh
        · rw [List.getElem?_eq_none hh] at ha; cases ha
      rw [hp, List.getElem?_append_left hlt] at hb
      exact hb ha
/-- a text of which a byte was turned, told as a list: one of names, with as many -/
theorem sget_turn {d y : ShD} (h : smayN d = true) (he : d.2.1 = []) {i : Nat} {c : UInt8} (hi : i < (bodyX d).length) (hs : sgetN ((bodyX d).set i c) = (y, 0, ())) : smayN y = true ∧ sputN y = (bodyX d).set i c ∧ y.1.length = d.1.length := by
  rcases sget_cases ((bodyX d).set i c) with e | ⟨z, e, h1, _, h2, h3⟩
  · rw [e] at hs
    have t : (1 : Int) = 0 := congrArg (fun g : ShD × Int × Unit => g.2.1) hs
    exact absurd t (by decide)
  · rw [e] at hs
    obtain rfl : z = y := congrArg (fun g : ShD × Int × Unit => g.1) hs
    by_cases hy : z.2.1 = []
    · have q := h2 hy
      refine ⟨h1, ?_, ?_⟩
      · unfold sputN; rw [h1, xT]; exact q.symm
      · have c1 := cnt_body h he
        have c2 := cnt_body h1 hy
        have c3 := cnt_set (p := bodyX d) c hi
        rw [q] at c3
        cases m1 : d.2.2.1
        · cases m2 : z.2.2.1
          · rw [m1, xF] at c1; rw [m2, xF] at c2; omega
          · exfalso
            rw [m1, xF] at c1; rw [m2, xT] at c2
            obtain ⟨a, ha⟩ := body_end (d := d) (by omega) he m1
            obtain ⟨b, hb⟩ := body_next (d := z) hy m2
            exact ends_diff' ha (q.trans hb)
        · cases m2 : z.2.2.1
          · exfalso
            rw [m1, xT] at c1; rw [m2, xF] at c2
            obtain ⟨a, ha⟩ := body_next (d := d) he m1
            obtain ⟨b, hb⟩ := body_end (d := z) (by omega) hy m2
            exact ends_diff ha (q.trans hb)
          · rw [m1, xT] at c1; rw [m2, xT] at c2; omega
    · exfalso
      obtain ⟨k1, k2⟩ := key_at (h3 hy)
      obtain ⟨b1, b2⟩ := body_at h he
      exact two_diff (p := bodyX d) (i := i) (c := c) (j := 7) (k := 8) (by decide) (by rw [k1]; exact fun q => b1 q.symm) (by rw [k2]; exact fun q => b2 q.symm)
end Nice

/-
  Which answers may be (say), continued: the contracts. No condition.
-/
import Derived.Test.YtnblkjapeiaedaaGreatDoorSayA
namespace Nice
open Go Go.Eng
theorem low_eq : ∀ s : List UInt8, Lib.toLowerA s = lower s := by
  have h : ∀ b : UInt8, Lib.lowerB b = lo b := by
    intro b
    have : (List.range 256).all (fun n => Lib.lowerB (UInt8.ofNat n) == lo (UInt8.ofNat n)) = true := by kernel_rfl
    have := List.all_eq_true.1 this b.toNat (List.mem_range.2 b.toNat_lt)
    rw [UInt8.ofNat_toNat] at this
    exact beq_iff_eq.1 this
  intro s
  unfold Lib.toLowerA lower
  exact List.map_congr_left fun b _ => h b
theorem ascP_iff {s : List UInt8} : ascP s = true ↔ (∀ c, c ∈ s → c.toNat < 128) ∧ s.length ≤ 140737488355328 := by
  unfold ascP bndS
  rw [Bool.and_eq_true, List.all_eq_true, decide_eq_true_eq]
  simp only [decide_eq_true_eq]
def bO (b : Bool) : Option (DenL [.bool]) := some (b, ())
def lenC : List UInt8 := [67, 111, 110, 116, 101, 110, 116, 45, 76, 101, 110, 103, 116, 104]
def wRes (s : List UInt8) : Option (DenL [.bool]) := bif lowN s == lowN lenC then gd [ascP lenC, ascP s] (bO true) else gd [ascP lenC, ascP s] (bO false)
def wV (v : List UInt8) : Option (DenL [.bool]) :=
  bif decide ((v.length : Int) ≤ 100) then (bif runLN 66 v == (v.length : Int) then (bif trim1 v == v then gd [bndS v && [32] == [32], bndS v && kindP 66] (bO true) else gd [bndS v && [32] == [32], bndS v && kindP 66] (bO false)) else gd [bndS v && kindP 66] (bO false)) else bO false
def wH (n v : List UInt8) : Option (DenL [.bool]) :=
  bif decide ((n.length : Int) ≥ 1) then (bif decide ((n.length : Int) ≤ 30) then (bif runLN 64 n == (n.length : Int) then (bif resN n then gd [ascP n, bndS n && kindP 64] (bO false) else gd [ascP n, bndS n && kindP 64] (wV v)) else gd [bndS n && kindP 64] (bO false)) else bO false) else bO false
theorem takeW_all {p : UInt8 → Bool} : ∀ {s : List UInt8}, ((s.takeWhile p).length = s.length) ↔ s.all p = true
  | [] => by simp
  | c :: r => by
    rw [List.takeWhile_cons, List.all_cons]
    cases hp : p c
    · simp
    · simp only [if_true, List.length_cons, Bool.true_and]
      rw [← takeW_all (s := r)]; omega
theorem run_all (k : Nat) (s : List UInt8) : (runLN k s == (s.length : Int)) = s.all (kindB k) := by
  unfold runLN
  rw [Bool.eq_iff_iff, beq_iff_eq, ← takeW_all]
  omega
theorem kind64 : kindB 64 = tokB := by funext c; rfl
theorem kind66 : kindB 66 = prB := by funext c; rfl
theorem tok_asc {s : List UInt8} (h : s.all tokB = true) : ∀ c, c ∈ s → c.toNat < 128 := fun c hc => by
  have := List.all_eq_true.1 h c hc
  unfold tokB at this
  have := of_decide_eq_true this
  omega
theorem wH_n {n v : List UInt8} (h : headP (n, v, ()) = true) : wH n v = some (headB (n, v, ()), ()) := by
  unfold headP at h
  rw [Bool.and_eq_true] at h
  obtain ⟨h1, h2⟩ := h
  have h1 : bndS n = true := h1
  have h2 : bndS v = true := h2
  have k64 : (bndS n && kindP 64) = true := by rw [h1]; rfl
  have k66 : (bndS v && kindP 66) = true := by rw [h2]; rfl
  have k32 : (bndS v && [32] == [32]) = true := by rw [h2]; rfl
  unfold wH headB resN
  dsimp only
  by_cases a1 : 1 ≤ n.length
  · by_cases a2 : n.length ≤ 30
    · rw [cdT (show (n.length : Int) ≥ 1 by omega), cdT (show (n.length : Int) ≤ 30 by omega), decide_eq_true (⟨a1, a2⟩ : 1 ≤ n.length ∧ n.length ≤ 30), run_all, kind64]
      cases ht : n.all tokB
      · rw [xF, gdB k64, xG]; rfl
      · have ha : ascP n = true := ascP_iff.2 ⟨tok_asc ht, by omega⟩
        rw [xT]
        cases lower n == clen
        · rw [xF, gdB ha, gdB k64, xG]
          unfold wV
          by_cases b1 : v.length ≤ 100
          · rw [cdT (show (v.length : Int) ≤ 100 by omega), decide_eq_true b1, run_all, kind66]
            cases v.all prB
            · rw [xF, gdB k66, xG]; rfl
            · rw [xT]
              cases trim1 v == v
              · rw [xF, gdB k32, gdB k66, xG]; rfl
              · rw [xT, gdB k32, gdB k66, xG]; rfl
          · rw [cdF (show ¬ (v.length : Int) ≤ 100 by omega), decide_eq_false b1]; rfl
        · rw [xT, gdB ha, gdB k64, xG]; rfl
    · rw [cdT (show (n.length : Int) ≥ 1 by omega), cdF (show ¬ (n.length : Int) ≤ 30 by omega), decide_eq_false (fun h : 1 ≤ n.length ∧ n.length ≤ 30 => a2 h.2)]; rfl
  · rw [cdF (show ¬ (n.length : Int) ≥ 1 by omega), decide_eq_false (fun h : 1 ≤ n.length ∧ n.length ≤ 30 => a1 h.1)]; rfl
/-! ### heads -/
noncomputable def stepI (l : List HeadD) (b i : Int) (next : Option (DenL [.int .i64])) : Option (DenL [.int .i64]) :=
  bif decide (i < b) then (bif !headB (l.getD i.toNat (HeadT).dflt) then gd [headP (l.getD i.toNat (HeadT).dflt), decide (i.toNat < l.length), decide (0 ≤ i), decide (i < (l.length : Int))] (some (i, ()))
    else gd [decide (inK .i64 (i + 1)), headP (l.getD i.toNat (HeadT).dflt), decide (i.toNat < l.length), decide (0 ≤ i), decide (i < (l.length : Int))] next) else some ((-1 : Int), ())
def wAny (l : List HeadD) : Option (DenL [.bool]) := bif decide (idxHN l ≥ 0) then gd [headsP l] (bO true) else gd [headsP l] (bO false)
def wMay (n : Int) (hs : List HeadD) (b : List UInt8) : Option (DenL [.bool]) :=
  bif anyN hs then gd [headsP hs] (bif !wordsN n == [] then (bif decide ((hs.length : Int) ≤ 10) then bO false else bO false) else bO false)
  else gd [headsP hs] (bif !wordsN n == [] then (bif decide ((hs.length : Int) ≤ 10) then (bif decide ((b.length : Int) ≤ 20000) then (bif n != 204 then bO true else bif b == [] then bO true else bO false) else bO false) else bO false) else bO false)
theorem anyN_eq (l : List HeadD) : decide (idxHN l ≥ 0) = anyN l := by
  unfold idxHN anyN
  cases l.any fun h => !headB h
  · rfl
  · exact decide_eq_true (by rw [xT]; omega)
theorem wMay_n {n : Int} {hs : List HeadD} {b : List UInt8} (h : headsP hs = true) : wMay n hs b = some (amayB (n, hs, b, ()), ()) := by
  unfold wMay amayB
  dsimp only
  cases anyN hs
  · rw [xF, gdB h, xG]
    cases wordsN n == []
    · rw [Bool.not_false, xT, Bool.true_and]
      by_cases a1 : hs.length ≤ 10
      · rw [cdT (show (hs.length : Int) ≤ 10 by omega), decide_eq_true a1, Bool.true_and, Bool.true_and]
        by_cases a2 : b.length ≤ 20000
        · rw [cdT (show (b.length : Int) ≤ 20000 by omega), decide_eq_true a2, Bool.true_and]
          unfold bne
          cases n == 204
          · rfl
          · cases b == [] <;> rfl
        · rw [cdF (show ¬ (b.length : Int) ≤ 20000 by omega), decide_eq_false a2]; rfl
      · rw [cdF (show ¬ (hs.length : Int) ≤ 10 by omega), decide_eq_false a1]; rfl
    · rfl
  · rw [xT, gdB h, xG]
    cases wordsN n == []
    · cases decide ((hs.length : Int) ≤ 10) <;> cases decide (hs.length ≤ 10) <;> rfl
    · rfl
end Nice
namespace Go.Proofs.YtnblkjapeiaedaaGreatDoor
open Go Go.Eng Nice Go.RowKit
set_option maxRecDepth 1000000
theorem same_of {w w' : World} (h : Below w.heap.size w w') : Same w w' := ⟨h.size, h.os, h.output, fun b hb => h.block b hb⟩
theorem low_c : PC 95 lowAS := pc_mk fun fz w args x hgl hr hp => by
  obtain ⟨s, ⟨⟩⟩ := x
  obtain ⟨h1, h2⟩ := ascP_iff.1 hp
  obtain ⟨_, r3, e1, g1, hr1⟩ := rd_cons' rfl hr
  obtain rfl : r3 = [] := hr1
  cases g1
  have ha : args = #[.string (bs s)] := Array.toList_inj.1 e1
  subst ha
  refine (Tryz.strings_ToLower_ascii (bs s) w (by show s.length ≤ _; exact h2) (fun j b hb => h1 b (List.mem_of_getElem? hb))).mono ?_
  rintro e w' ⟨rfl, hbl⟩
  exact ⟨[.string (bs (lower s))], by rw [← low_eq]; rfl, ⟨_, _, rfl, .inr ⟨rfl, rfl⟩, rfl⟩, same_of hbl⟩
noncomputable def ores (x : DenL [.str]) : Option (DenL [.bool]) := fO Tryz.prog (envS [(95, lowAS)]) (shOf []) Tryz.f65 [.str] [.bool] x
theorem eres (s : List UInt8) : ores (s, ()) = wRes s := by kernel_rfl
theorem res_c : PC 65 resS := (pureO (envS_ok (l := [(95, lowAS)]) ⟨low_c, trivial⟩) gl_ne Tryz.func65 (by kernel_rfl) (by decide)).nice fun ⟨s, ()⟩ h => by
  have h : ascP s = true := h
  have hl : ascP lenC = true := by kernel_rfl
  have e : lowN lenC = clen := by kernel_rfl
  show ores _ = some (resN s, ())
  rw [eres]
  unfold wRes resN
  rw [e, gdB hl, gdB h, xG, gdB hl, gdB h, xG]
  show (bif lower s == clen then bO true else bO false) = _
  cases lower s == clen <;> rfl
theorem trim_c : PC 67 trim1S := pc_mk fun fz w args x hgl hr hp => by
  obtain ⟨s, p, ⟨⟩⟩ := x
  have hp' : (bndS s && p == [32]) = true := hp
  clear hp
  rw [Bool.and_eq_true, beq_iff_eq] at hp'
  obtain ⟨hl, rfl⟩ := hp'
  have hl : s.length ≤ 140737488355328 := of_decide_eq_true hl
  obtain ⟨_, _, e1, g1, hr1⟩ := rd_cons' rfl hr
  obtain ⟨_, r3, rfl, g2, hr2⟩ := rd_cons' rfl hr1
  obtain rfl : r3 = [] := hr2
  cases g1; cases g2
  have ha : args = #[.string (bs s), .string (bs [32])] := Array.toList_inj.1 e1
  subst ha
  refine (Tryz.strings_Trim_one (bs s) 32 (by decide) w (by show s.length ≤ _; omega)).mono ?_
  rintro e w' ⟨rfl, hw⟩
  refine ⟨[.string (bs (trim1 s))], rfl, ⟨_, _, rfl, .inr ⟨rfl, rfl⟩, rfl⟩, ?_⟩
  rcases hw with rfl | rfl
  · exact ⟨Nat.le_refl _, rfl, rfl, fun _ _ => rfl⟩
  · exact ⟨Nat.le_refl _, rfl, rfl, fun _ _ => rfl⟩
noncomputable def omayH (x : DenL [HeadT]) : Option (DenL [.bool]) := fO Tryz.prog (envS [(63, runS), (65, resS), (67, trim1S)]) (shOf []) Tryz.f40 [HeadT] [.bool] x
theorem emayH (n v : List UInt8) : omayH ((n, v, ()), ()) = wH n v := by kernel_rfl
theorem mayH_c : PC 40 mayHS := (pureO (envS_ok (l := [(63, runS), (65, resS), (67, trim1S)]) ⟨run_c, res_c, trim_c, trivial⟩) gl_ne Tryz.func40 (by kernel_rfl) (by decide)).nice fun ⟨⟨n, v, ()⟩, ()⟩ h => by
  show omayH _ = _
  rw [emayH]; exact wH_n h
noncomputable def onotH (x : DenL [HeadT]) : Option (DenL [.bool]) := fO Tryz.prog (envS [(40, mayHS)]) (shOf []) Tryz.f39 [HeadT] [.bool] x
theorem enotH (h : HeadD) : onotH (h, ()) = (bif headB h then gd [headP h] (bO false) else gd [headP h] (bO true)) := by kernel_rfl
theorem notH_c : PC 39 notHS := (pureO (envS_ok (l := [(40, mayHS)]) ⟨mayH_c, trivial⟩) gl_ne Tryz.func39 (by kernel_rfl) (by decide)).nice fun ⟨x, ()⟩ h => by
  have h : headP x = true := h
  show onotH _ = some (!headB x, ())
  rw [enotH, gdB h, gdB h, xG, xG]
  cases headB x <;> rfl
abbrev shidxH : List (Nat × List (Nat × Sh)) := [(2, [(0, (.one (.dat (.pair .str (.pair .str .unit))))), (1, (.one .any)), (4, (.one .sym)), (7, (.one .sym)), (8, (.one .sym))])]
noncomputable def hidxH (n : Nat) (l : List HeadD) (a b i : Int) : Option (DenL [.int .i64]) := rH Tryz.prog (envS [(39, notHS)]) (shOf shidxH) Tryz.f62 [.int .i64] n 0 [(0, dt 10), (1, Value.func (Fn.func 39) #[] #[]), (4, sy (.int .i64 a)), (7, sy (.int .i64 b)), (8, sy (.int .i64 i))] [.dat (.pair .str (.pair .str .unit)) l]
noncomputable def oidxH (x : DenL [.slice HeadT, .fn 39]) : Option (DenL [.int .i64]) := fO Tryz.prog (envS [(39, notHS)]) (shOf shidxH) Tryz.f62 [.slice HeadT, .fn 39] [.int .i64] x
theorem oidxH_g (x : DenL [.slice HeadT, .fn 39]) : oidxH x = fON Tryz.prog (envS [(39, notHS)]) (shOf shidxH) Tryz.f62 [.slice HeadT, .fn 39] [.int .i64] heads0 x := rfl
theorem eidxH_g (N : Nat) (l : List HeadD) : fON Tryz.prog (envS [(39, notHS)]) (shOf shidxH) Tryz.f62 [.slice HeadT, .fn 39] [.int .i64] N (l, (), ()) = hidxH N l 0 (l.length : Int) 0 := by kernel_rfl
theorem eidxH_0 (n : Nat) (l : List HeadD) (a b i : Int) : hidxH (n + 1) l a b i = stepI l b i (hidxH n l a b (i + 1)) := by kernel_rfl
end Go.Proofs.YtnblkjapeiaedaaGreatDoor

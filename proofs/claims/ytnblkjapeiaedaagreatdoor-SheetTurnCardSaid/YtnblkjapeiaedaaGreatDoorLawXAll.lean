/-
  SheetAll: which lists may be, their texts, and back. No condition.
-/
import Derived.Test.YtnblkjapeiaedaaGreatDoorShRd
namespace Nice
open Go Go.Eng
noncomputable def allP (d : ShD) (t : List UInt8) : BO :=
  bif !sputN (dX d) == sputN (dX d) then gd [smayP (dX d), smayP (dX d), smayP (dX d)] (bO false)
  else gd [rdTS.pre (cut t 60, ()), cutS.pre (t, 60, ()), smayP (dX d), smayP (dX d), smayP (dX d)] (bif sputN (dX d) == [] then (bif smayN (dX d) then gd [smayP (dX d)] (bO false) else gd [smayP (dX d)] (bO true))
    else gd [sgetS.pre (sputN (dX d), ())] (bif (sgetN (sputN (dX d))).2.1 == 0 then (bif eqShN (dX (sgetN (sputN (dX d))).1) (dX d) then gd [eqShP (dX (sgetN (sputN (dX d))).1)] (bO true) else gd [eqShP (dX (sgetN (sputN (dX d))).1)] (bO false)) else bO false))
noncomputable def allW (n : List (List UInt8)) (l : List EntD) (m : Bool) (t : List UInt8) (d : ShD) : BO :=
  gd [smayP (dX d), shS.pre (n, l, m, ())] (bif smayN (dX d) then (bif smayN (dX d) then allP d t else gd [smayP (dX d), smayP (dX d)] (bO false)) else (bif smayN (dX d) then gd [smayP (dX d), smayP (dX d)] (bO false) else allP d t))
theorem flat_le {α : Type} (f : α → List UInt8) (c : Nat) : ∀ (l : List α), (∀ a, a ∈ l → (f a).length ≤ c) → (l.flatMap f).length ≤ c * l.length
  | [], _ => Nat.zero_le _
  | a :: l, h => by
    have h1 := flat_le f c l fun x hx => h x (List.mem_cons_of_mem _ hx)
    have h2 := h a List.mem_cons_self
    rw [List.flatMap_cons, List.length_append, List.length_cons, Nat.mul_succ]; omega
theorem bodyX_le {d : ShD} (h : smayN d = true) : (bodyX d).length ≤ 20000 := by
  obtain ⟨h1, h2, h3, h4, h5⟩ := smayN_iff h
  have e1 := flat_le nameX 53 d.1 fun k hk => by
    have := isKey_bnd (h1 k hk)
    rw [nameX_len]; omega
  have e2 := flat_le entX 700 d.2.1 fun e he => entX_len (h2 e he)
  have e3 : (nextX d.2.2.1 d.2.2.2.1).length ≤ 53 := by
    unfold nextX
    cases d.2.2.1
    · exact Nat.zero_le _
    · rw [xT]
      simp only [List.length_append, show nextL.length = 6 from rfl, show nextE.length = 7 from rfl]; omega
  unfold bodyX
  simp only [List.length_append, show begL.length = 6 from rfl, show endL.length = 7 from rfl]; omega
theorem smayP_sh (n : List (List UInt8)) (l : List EntD) (m : Bool) : smayP (shN n l m) = true := by
  have h1 : (nShN n).length ≤ 22 := by unfold nShN; rw [List.length_map, List.length_take]; omega
  have h2 : (lShN l).length ≤ 22 := by unfold lShN; rw [List.length_map, List.length_take]; omega
  refine smayP_of (by omega) (fun k hk => ?_) (Go.Proofs.YtnblkjapeiaedaaGreatDoor.entsP_iff.2 ⟨by omega, fun e he => ?_⟩) _ _
  · obtain ⟨q, _, rfl⟩ := List.mem_map.1 hk
    have := cut_le q 42
    unfold bndS; exact decide_eq_true (Nat.le_trans this (by decide))
  · obtain ⟨q, _, rfl⟩ := List.mem_map.1 he
    have h3 := cut_le q.1 42
    have h3 : (lentN q).1.length ≤ 42 := h3
    have h4 : (lentN q).2.1.length ≤ 14 := by
      show ((q.2.1.take 14).map cutV).length ≤ 14
      rw [List.length_map, List.length_take]; omega
    unfold entP bndS
    rw [Bool.and_eq_true, decide_eq_true_eq, decide_eq_true_eq]
    exact ⟨by omega, by omega⟩
theorem eqShP_may {d : ShD} (h : smayN d = true) : eqShP d = true := by
  obtain ⟨_, h2, h3, h4, _⟩ := smayN_iff h
  refine Go.Proofs.YtnblkjapeiaedaaGreatDoor.eqShP_iff.2 ⟨by omega, by omega, fun e he => ?_⟩
  have := (entB_iff.1 (h2 e he)).2.2.2
  omega
theorem allP_n {d : ShD} (t : List UInt8) (h : smayP d = true) : allP d t = bO true := by
  obtain ⟨n, l, b, x, ⟨⟩⟩ := d
  have ht : rdTS.pre (cut t 60, ()) = true := decide_eq_true (Nat.le_trans (cut_le t 60) (by decide))
  have hc : cutS.pre (t, 60, ()) = true := (show decide ((0 : Int) ≤ 60) = true from rfl)
  unfold allP
  rw [show dX (n, l, b, x, PUnit.unit) = (n, l, b, x, ()) from rfl, beq_self_eq_true, Bool.not_true, xF, gdB ht, gdB hc, gdB h, gdB h, gdB h, xG]
  cases hm : smayN (n, l, b, x, ())
  · have : sputN (n, l, b, x, ()) = [] := by unfold sputN; rw [hm]; rfl
    rw [this, beq_self_eq_true, xT, xF, gdB h, xG]
  · have hs : sputN (n, l, b, x, ()) = bodyX (n, l, b, x, ()) := by unfold sputN; rw [hm]; rfl
    have hne := bodyX_ne (n, l, b, x, ())
    have hle := bodyX_le hm
    have h0 : (bodyX (n, l, b, x, ()) == []) = false := by
      rw [beq_eq_false_iff_ne]; intro e; rw [e] at hne; exact absurd hne (by decide)
    have hg : sgetN (bodyX (n, l, b, x, ())) = (stripS (n, l, b, x, ()), 0, ()) := by
      have := sget_fwd [] hm
      rw [List.append_nil] at this
      exact this
    have hp : sgetS.pre (bodyX (n, l, b, x, ()), ()) = true := decide_eq_true (Nat.le_trans hle (by decide))
    have hq := eqShP_may (smayN_strip hm)
    have he := eqSh_strip (n, l, b, x, ())
    rw [hs, h0, xF, hg, gdB hp, xG]
    show (bif (0 : Int) == 0 then (bif eqShN (stripS (n, l, b, x, ())) (n, l, b, x, ()) then gd [eqShP (stripS (n, l, b, x, ()))] (bO true) else gd [eqShP (stripS (n, l, b, x, ()))] (bO false)) else bO false) = bO true
    rw [he, gdB hq, xG]; rfl
theorem allW_n {n : List (List UInt8)} {l : List EntD} (m : Bool) (t : List UInt8) (h : shPre n l = true) : allW n l m t (shN n l m) = bO true := by
  have hp := smayP_sh n l m
  have ha := allP_n t hp
  have hs : shS.pre (n, l, m, ()) = true := h
  unfold allW
  rw [show dX (shN n l m) = shN n l m from rfl, gdB hp, gdB hs, xG, ha]
  cases smayN (shN n l m) <;> rfl
theorem shPre_of {n : List (List UInt8)} {l : List EntD} (h1 : n.length ≤ 140737488355328) (h2 : l.length ≤ 140737488355328) (h3 : ∀ e, e ∈ l → e.2.1.length ≤ 140737488355328) : shPre n l = true := by
  unfold shPre
  rw [Bool.and_eq_true, Bool.and_eq_true, decide_eq_true_eq, decide_eq_true_eq, List.all_eq_true]
  exact ⟨h1, h2, fun e he => decide_eq_true (h3 e he)⟩
end Nice
namespace Go.Proofs.YtnblkjapeiaedaaGreatDoor
open Go Go.Eng Nice Go.RowKit
set_option maxRecDepth 1000000
abbrev tsXAll : List Ty := [.slice .str, .slice EntT, .bool, .bool, .str]
noncomputable abbrev enXL : Eng.Env := envS [(13, trueS), (15, cutS), (25, shS), (26, ofShS), (27, sputS), (28, smayS), (29, smayS), (30, sputS), (31, rdTS), (32, sgetS), (33, eqShS)]
noncomputable def olawXAll (x : DenL tsXAll) : BO := fO Tryz.prog enXL (shOf []) Tryz.f6 tsXAll [.bool] x
theorem exltt (n : List (List UInt8)) (l : List EntD) (t : List UInt8) : olawXAll (n, l, true, true, t, ()) = allW n l true t (shN n l true) := by kernel_rfl
theorem exltf (n : List (List UInt8)) (l : List EntD) (t : List UInt8) : olawXAll (n, l, true, false, t, ()) = allW n l false t (shN n l false) := by kernel_rfl
theorem exlft (n : List (List UInt8)) (l : List EntD) (t : List UInt8) : olawXAll (n, l, false, true, t, ()) = (bif decide ((l.length : Int) > 0) then allW [] l true t (shN [] l true) else allW n l true t (shN n l true)) := by kernel_rfl
theorem exlff (n : List (List UInt8)) (l : List EntD) (t : List UInt8) : olawXAll (n, l, false, false, t, ()) = (bif decide ((l.length : Int) > 0) then allW [] l false t (shN [] l false) else allW n l false t (shN n l false)) := by kernel_rfl
theorem lawXAll_n (x : DenL tsXAll) (hx : BdL tsXAll x) : olawXAll x = some (true, ()) := by
  obtain ⟨n, l, c, m, t, ⟨⟩⟩ := x
  obtain ⟨⟨h1, _⟩, ⟨h2, h3⟩, _⟩ := hx
  have h1 : n.length ≤ 140737488355328 := h1
  have h2 : l.length ≤ 140737488355328 := h2
  have h3 : ∀ e : EntD, e ∈ l → e.2.1.length ≤ 140737488355328 := fun e he => (h3 e he).2.1.1
  have hp := shPre_of h1 h2 h3
  have hp0 : shPre [] l = true := shPre_of (Nat.zero_le _) h2 h3
  cases c
  · cases m
    · rw [exlff, allW_n false t hp, allW_n false t hp0]; cases decide ((l.length : Int) > 0) <;> rfl
    · rw [exlft, allW_n true t hp, allW_n true t hp0]; cases decide ((l.length : Int) > 0) <;> rfl
  · cases m
    · rw [exltf, allW_n false t hp]; rfl
    · rw [exltt, allW_n true t hp]; rfl
theorem lawXAll_c : PC 6 (ofO tsXAll [.bool] olawXAll) := (pureO (envS_ok (l := [(13, trueS), (15, cutS), (25, shS), (26, ofShS), (27, sputS), (28, smayS), (29, smayS), (30, sputS), (31, rdTS), (32, sgetS), (33, eqShS)]) ⟨begun_c, cut_c, sh_c, of_c, sput_c, smay_c, rsmay_c, rsput_c, rd_c, sget_c, eqsh_c, trivial⟩) gl_ne Tryz.func6 (by kernel_rfl) (by decide))
theorem lawXAll_run {w : World} (hgl : GlW glC w) {args : Array Value} {x : DenL tsXAll} (hx : RdAll (fzW w) tsXAll x args.toList) (hb : BdL tsXAll x) : Calls Tryz.prog 6 args w fun e w' => e = .returned (.bool true) ∧ Same w w' :=
  law_calls lawXAll_c (fun x hx => by
    have := lawXAll_n x hx
    exact ⟨by show (olawXAll x).isSome = true; rw [this]; rfl, by show (olawXAll x).getD _ = _; rw [this]; rfl⟩) hgl hx hb
end Go.Proofs.YtnblkjapeiaedaaGreatDoor

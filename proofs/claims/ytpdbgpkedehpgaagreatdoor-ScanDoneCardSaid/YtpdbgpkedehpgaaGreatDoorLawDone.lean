/-
  armariumlaw15.ScanDone: the plain law and the contract of the function. No condition.
-/
import Derived.Test.YtpdbgpkedehpgaaGreatDoorLineR
namespace Go.Proofs.YtpdbgpkedehpgaaGreatDoor
open Go Go.Eng Nice
set_option maxRecDepth 1000000
abbrev shlawDone : List (Nat × List (Nat × Sh)) := []
noncomputable def olawDone (x : DenL [ReqT, .str, .str]) : Option (DenL [.bool]) := fO Tryz.prog (envO [(21, trueS), (24, cutS), (22, lineRS), (33, rscanS)] [(35, feedS), (36, idleS)]) (shOf shlawDone) Tryz.f8 [ReqT, .str, .str] [.bool] x
theorem elawDone_g (N : Nat) (r : Ty.Den ReqT) (s t : List UInt8) : fON Tryz.prog (envO [(21, trueS), (24, cutS), (22, lineRS), (33, rscanS)] [(35, feedS), (36, idleS)]) (shOf shlawDone) Tryz.f8 [ReqT, .str, .str] [.bool] N (r, s, t, ()) =
  (gd [lineRP r] (bif (rscanN (lineRN r, ())).snd.snd.fst then
 (gd [rscanP (lineRN r, ())] (bif (rscanN (lineRN r, ())).snd.fst != (0 : Int) then
 (some (true, ()))
 else
 (bif (↑(List.length (rscanN (lineRN r, ())).fst) : Int) != (1 : Int) then
 (some (true, ()))
 else
 (gd [feedP (feedN (feedN (initX []) (lineRN r ++ [103, 101, 116, 32, 47], ())).fst (lineRN r ++ cut s ((20 : Int)), ())).fst (cut t ((40 : Int)), ()), feedP (feedN (initX []) (lineRN r ++ [103, 101, 116, 32, 47], ())).fst (lineRN r ++ cut s ((20 : Int)), ()), decide ((lineRN r).length + (cut s ((20 : Int))).length ≤ 1099511627776), feedP (initX []) (lineRN r ++ [103, 101, 116, 32, 47], ()), decide ((lineRN r).length + 5 ≤ 1099511627776)] (bif (↑(List.length (feedN (initX []) (lineRN r ++ [103, 101, 116, 32, 47], ())).snd.fst) : Int) == (1 : Int) then
 (bif (↑(List.length (feedN (feedN (initX []) (lineRN r ++ [103, 101, 116, 32, 47], ())).fst (lineRN r ++ cut s ((20 : Int)), ())).snd.fst) : Int) == (0 : Int) then
 (bif (↑(List.length (feedN (feedN (feedN (initX []) (lineRN r ++ [103, 101, 116, 32, 47], ())).fst (lineRN r ++ cut s ((20 : Int)), ())).fst (cut t ((40 : Int)), ())).snd.fst) : Int) == (0 : Int) then
 (bif (feedN (feedN (feedN (initX []) (lineRN r ++ [103, 101, 116, 32, 47], ())).fst (lineRN r ++ cut s ((20 : Int)), ())).fst (cut t ((40 : Int)), ())).fst.snd.fst == (400 : Int) then
 (bif idleN (feedN (feedN (feedN (initX []) (lineRN r ++ [103, 101, 116, 32, 47], ())).fst (lineRN r ++ cut s ((20 : Int)), ())).fst (cut t ((40 : Int)), ())).fst then
 (some (true, ()))
 else
 (some (false, ())))
 else
 (some (false, ())))
 else
 (some (false, ())))
 else
 (some (false, ())))
 else
 (some (false, ())))))))
  else
 (gd [rscanP (lineRN r, ())] (bif (rscanN (lineRN r, ())).snd.fst != (0 : Int) then
 (some (true, ()))
 else
 (bif (↑(List.length (rscanN (lineRN r, ())).fst) : Int) != (1 : Int) then
 (some (true, ()))
 else
 (some (true, ()))))))) := by kernel_rfl
theorem olawDone_g (x : DenL [ReqT, .str, .str]) : olawDone x = fON Tryz.prog (envO [(21, trueS), (24, cutS), (22, lineRS), (33, rscanS)] [(35, feedS), (36, idleS)]) (shOf shlawDone) Tryz.f8 [ReqT, .str, .str] [.bool] heads0 x := rfl

theorem done_x (L : List UInt8) (h1 : (scanR (L.length + 1) L).2.1 = 0) (h2 : (scanR (L.length + 1) L).1.length = 1) (h3 : (scanR (L.length + 1) L).2.2 = true) :
    (mrun (initX []) (L ++ [103, 101, 116, 32, 47])).2.1 = 400 ∧ (outX (mrun (initX []) (L ++ [103, 101, 116, 32, 47]))).length = 1 := by
  obtain ⟨r1, r2, r3⟩ := scan_outs L
  rw [h1] at r1
  rw [h1, h3] at r3
  rw [← r2] at h2
  rw [mrun_app]
  generalize mrun (initX []) L = M at r1 r3 h2 ⊢
  obtain ⟨st, su, li, at', tx, ⟨m, p, q, hs, b, ⟨⟩⟩, le, ou, ⟨⟩⟩ := M
  dsimp only at r1
  subst r1
  have hz : st = 0 ∧ li = 0 := by
    simpa [idleN] using r3
  obtain ⟨rfl, rfl⟩ := hz
  have hm : mst 0 0 0 at' tx m p q hs b le ou 103 = ((0, 0, 0, at', tx, (m, p, q, hs, b, ()), le, ou, ()), 400) := by
    have hg : longN (0, 0, 0, at', tx, (m, p, q, hs, b, ()), le, ou, ()) 103 = 0 := by
      unfold longN
      rfl
    unfold mst
    rw [if_neg (c := longN _ _ ≠ 0) (fun h => h hg)]
    rfl
  rw [mrun_step hm, mrun_bad _ _ (show (400 : Int) ≠ 0 by decide)]
  exact ⟨rfl, h2⟩
theorem cl_bad (X : ScanD) (s : List UInt8) (h : X.2.1 ≠ 0) : mrun (clX X) s = clX X := mrun_bad _ _ h
theorem lawDone_m (r : ReqD) (s t : List UInt8) : olawDone (r, s, t, ()) = some (true, ()) := by
  have c1 : (cut s 20).length ≤ 20 := cut_len s 20
  have c2 : (cut t 40).length ≤ 40 := cut_len t 40
  obtain ⟨l1, l2⟩ := lineR_ok r
  rw [olawDone_g, elawDone_g, gdB l1, gN]
  generalize lineRN r = L at l2 ⊢
  obtain ⟨g1, g2⟩ := rscan_hid (rscan_n L (by omega))
  rw [g2]
  dsimp only
  by_cases h1 : (scanR (L.length + 1) L).2.1 = 0
  · by_cases h2 : (scanR (L.length + 1) L).1.length = 1
    · cases h3 : (scanR (L.length + 1) L).2.2
      · rw [cF, gdB g1, gN, cnF h1, cnF (show (((scanR (L.length + 1) L).1.length : Nat) : Int) = 1 by omega)]
      · obtain ⟨x1, x2⟩ := done_x L h1 h2 h3
        obtain ⟨p1, n1⟩ := feed_hid (feedS_n (initX []) (L ++ [103, 101, 116, 32, 47]) 0 (by simp only [List.length_append, List.length_cons, List.length_nil]; omega) (fun _ => inv_init []))
        rw [clrX_eq] at n1
        generalize mrun (initX []) (L ++ [103, 101, 116, 32, 47]) = X at x1 x2 n1
        have hX : X.2.1 ≠ 0 := by rw [x1]; decide
        obtain ⟨p2, n2⟩ := feed_hid (feedS_n (clX X) (L ++ cut s 20) 0 (by simp only [List.length_append]; omega) (fun h => absurd h hX))
        rw [cl_bad X _ hX, clrX_eq] at n2
        have hc : clX (clX X) = clX X := rfl
        have ho : outX (clX X) = [] := rfl
        rw [hc, ho] at n2
        obtain ⟨p3, n3⟩ := feed_hid (feedS_n (clX X) (cut t 40) 0 (by omega) (fun h => absurd h hX))
        rw [cl_bad X _ hX, clrX_eq, hc, ho] at n3
        rw [cT, gdB g1, gN, cnF h1, cnF (show (((scanR (L.length + 1) L).1.length : Nat) : Int) = 1 by omega)]
        rw [n1]
        dsimp only
        rw [n2]
        dsimp only
        rw [n3]
        dsimp only
        rw [gdB p3, gdB p2, gdT (by omega), gdB p1, gdT (by omega), gN]
        rw [ceT (show (((outX X).length : Nat) : Int) = 1 by omega), ceT (show ((([] : List ReqD).length : Nat) : Int) = 0 from rfl), ceT (show ((([] : List ReqD).length : Nat) : Int) = 0 from rfl), ceT (show (clX X).2.1 = 400 from x1)]
        have hid : idleN (clX X) = true := by
          unfold idleN
          rw [show (clX X).2.1 = 400 from x1]; rfl
        rw [hid, cT]
    · have h2' : (((scanR (L.length + 1) L).1.length : Nat) : Int) ≠ 1 := by omega
      cases (scanR (L.length + 1) L).2.2
      · rw [cF, gdB g1, gN, cnF h1, cnT h2']
      · rw [cT, gdB g1, gN, cnF h1, cnT h2']
  · cases (scanR (L.length + 1) L).2.2
    · rw [cF, gdB g1, gN, cnT h1]
    · rw [cT, gdB g1, gN, cnT h1]
theorem lawDone_n (x : DenL [ReqT, .str, .str]) (hb : BdL [ReqT, .str, .str] x) : olawDone x = some (true, ()) := by
  obtain ⟨r, s, t, ⟨⟩⟩ := x
  exact lawDone_m r s t
theorem lawDone_c : PC 8 (ofO [ReqT, .str, .str] [.bool] olawDone) := (pureO (envO_ok (l := [(21, trueS), (24, cutS), (22, lineRS), (33, rscanS)]) (o := [(35, feedS), (36, idleS)]) ⟨begun_c, cut_c, line22_c, rscan_c, trivial⟩ ⟨feed_c, idle_c, trivial⟩) gl_ne Tryz.func8 (by kernel_rfl) (by decide))
theorem lawDone_run {w : World} (hgl : GlW glC w) {args : Array Value} {x : DenL [ReqT, .str, .str]} (hx : RdAll (fzW w) [ReqT, .str, .str] x args.toList) (hb : BdL [ReqT, .str, .str] x) : Calls Tryz.prog 8 args w fun e w' => e = .returned (.bool true) ∧ Same w w' :=
  law_calls lawDone_c (fun x hb => by
    have := lawDone_n x hb
    exact ⟨by show (olawDone x).isSome = true; rw [this]; rfl, by show (olawDone x).getD _ = _; rw [this]; rfl⟩) hgl hx hb
end Go.Proofs.YtpdbgpkedehpgaaGreatDoor

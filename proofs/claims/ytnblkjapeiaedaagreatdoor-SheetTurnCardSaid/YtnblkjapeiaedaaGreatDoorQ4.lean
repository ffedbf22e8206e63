/-
  Part of the proof: ShLib ShMa ShMb ShMc. No condition.
-/
import Derived.Test.YtnblkjapeiaedaaGreatDoorX0
import Derived.Test.YtnblkjapeiaedaaGreatDoorShTrP
import Derived.Test.YtnblkjapeiaedaaGreatDoorShTrQ
import Derived.Test.YtnblkjapeiaedaaGreatDoorItoaW
import Derived.Lib.AtoiErrMem
import Derived.Tactics2
import Derived.WalkKit
import Derived.Test.YtnblkjapeiaedaaGreatDoorQ2
namespace Nice
open Go Go.Eng
noncomputable def fmtIS : PSpec := ⟨[.int .i64, .int .i64], [.str], fun x => i64P x.1 && x.2.1 == 10, fun x => (fmtN x.1, ())⟩
noncomputable def cutGS : PSpec := ⟨[.str, .str], [.str, .str, .bool], fun x => decide (x.1.length < 4294967281), fun x => ((Lib.cut x.1 x.2.1).1, (Lib.cut x.1 x.2.1).2.1, (Lib.cut x.1 x.2.1).2.2, ())⟩
noncomputable def cloneS : OSpec := ⟨false, 0, .unit, 0, [.d (.slice .str)], [.vec .str 9], fun _ y => decide (y.1.length ≤ 8796093022208), fun x y => (x, y.1, ())⟩
end Nice
namespace Go.Proofs.YtnblkjapeiaedaaGreatDoor
open Go Go.Eng Nice Go.RowKit
set_option maxRecDepth 1000000
theorem glEX {v : Value} (h : glR (er false) v) : v = .nilIface ∨ ∃ te pe, v = .iface te pe := by
  rcases h with ⟨hp, _⟩ | ⟨b, _, he⟩ | ⟨k, m, he, _⟩
  · cases hp
  · unfold isE at he
    split at he
    · exact .inl rfl
    · exact .inr ⟨_, _, rfl⟩
    · cases he
  · cases he
theorem same_bel {w w' : World} (h : Below w.heap.size w w') : Same w w' := ⟨h.size, h.os, h.output, fun b hb => h.block b hb⟩
theorem bs_dat (s : List UInt8) : (bs s).data.toList = s := by simp [bs]
theorem bs_siz (s : List UInt8) : (bs s).size = s.length := by simp [bs, ByteArray.size]
theorem parse_c : PC 79 parseS := pc_mk fun fz w args x hgl hr hp => by
  obtain ⟨s, b, c, ⟨⟩⟩ := x
  simp only [parseS, Bool.and_eq_true, decide_eq_true_eq] at hp
  obtain ⟨hl, rfl, rfl⟩ := hp
  have hl : s.length ≤ 140737488355328 := of_decide_eq_true hl
  obtain ⟨_, _, e1, h1, hr1⟩ := rd_cons' rfl hr
  obtain ⟨_, _, rfl, h2, hr2⟩ := rd_cons' rfl hr1
  obtain ⟨_, r3, rfl, h3, hr3⟩ := rd_cons' rfl hr2
  obtain rfl : r3 = [] := hr3
  cases h1; cases h2; cases h3
  have ha : args = #[.string (bs s), .int .i64 10, .int .i64 64] := Array.toList_inj.1 e1
  subst ha
  have fin : ∀ (n : Int) (ev : Value) (b : Bool) (w' : World), isE b ev = true → Same w w' → intN s = (n, b) → ∃ vs, Ending.returned (.tuple #[.int .i64 n, ev]) = .returned (resV vs) ∧ RdAll fz parseS.rs (parseS.g (s, 10, 64, ())) vs ∧ Same w w' := by
    intro n ev b w' he hs hn
    refine ⟨[.int .i64 n, ev], rfl, ⟨_, _, rfl, .inr ⟨rfl, ?_⟩, _, _, rfl, .inr ⟨rfl, ?_⟩, rfl⟩, hs⟩
    · show [Value.int .i64 n] = [Value.int .i64 (intN s).1]
      rw [hn]
    · exact ⟨ev, rfl, by show isE (intN s).2 ev = true; rw [hn]; exact he⟩
  have hb : ∀ (p : Nat), (p, [er false]) ∈ glC → ∃ u, w.cell? ⟨p, 0, none⟩ = some u ∧ (u = .nilIface ∨ ∃ te pe, u = .iface te pe) := fun p hm => by
    obtain ⟨u, hu, hg⟩ := hgl.1 _ hm 0 (er false) rfl
    exact ⟨u, hu, glEX hg⟩
  rcases h : Lib.parseIntB 64 s with v | _ | _
  · refine (Tryz.strconv_ParseInt_10_at64_ok (bs s) (by rw [bs_siz]; omega) v (by rw [bs_dat]; exact h) w).mono ?_
    rintro e w' ⟨rfl, hw⟩
    refine fin v .nilIface true w' rfl ?_ (by unfold intN; rw [h])
    rcases hw with rfl | ⟨t, rfl⟩
    · exact same_bel (Below.refl _ _)
    · exact same_bel (Lib.bytesWorld_below _ _ _)
  · obtain ⟨u, hu, hi⟩ := hb 2 (by simp [glC])
    refine (Tryz.strconv_ParseInt_10_at64_syntax (bs s) (by rw [bs_siz]; omega) (by rw [bs_dat]; exact h) u w hu hi).mono ?_
    rintro e w' ⟨N, rfl, _, _, hbl⟩
    exact fin 0 _ false w' rfl (same_bel hbl) (by unfold intN; rw [h])
  · obtain ⟨u, hu, hi⟩ := hb 3 (by simp [glC])
    refine (Tryz.strconv_ParseInt_10_at64_range (bs s) (by rw [bs_siz]; omega) (by rw [bs_dat]; exact h) u w hu hi).mono ?_
    rintro e w' ⟨N, rfl, _, _, hbl⟩
    rw [bs_dat]
    exact fin _ _ false w' rfl (same_bel hbl) (by unfold intN; rw [h])
theorem fmtI_c : PC 72 fmtIS := pc_mk fun fz w args x hgl hr hp => by
  obtain ⟨n, b, ⟨⟩⟩ := x
  have hq : (i64P n && b == 10) = true := hp
  rw [Bool.and_eq_true, beq_iff_eq] at hq
  obtain ⟨hn, rfl⟩ := hq
  obtain ⟨h0, h1⟩ := i64P_iff.1 hn
  obtain ⟨_, _, e1, g1, hr1⟩ := rd_cons' rfl hr
  obtain ⟨_, r3, rfl, g2, hr2⟩ := rd_cons' rfl hr1
  obtain rfl : r3 = [] := hr2
  cases g1; cases g2
  have ha : args = #[.int .i64 n, .int .i64 10] := Array.toList_inj.1 e1
  subst ha
  refine (Tryz.strconv_FormatInt_10 n h0 h1 w (glTab hgl)).mono ?_
  rintro e w' ⟨rfl, k, os, rfl⟩
  exact ⟨[.string (bs (Lib.itoa n))], rfl, ⟨_, _, rfl, .inr ⟨rfl, rfl⟩, rfl⟩, same_grow _ _ _⟩
theorem cutG_c : PC 78 cutGS := pc_mk fun fz w args x hgl hr hp => by
  obtain ⟨s, p, ⟨⟩⟩ := x
  have hl : s.length < 4294967281 := of_decide_eq_true hp
  obtain ⟨_, _, e1, h1, hr1⟩ := rd_cons' rfl hr
  obtain ⟨_, r3, rfl, h2, hr2⟩ := rd_cons' rfl hr1
  obtain rfl : r3 = [] := hr2
  cases h1; cases h2
  have ha : args = #[.string (bs s), .string (bs p)] := Array.toList_inj.1 e1
  subst ha
  obtain ⟨m, hm⟩ : ∃ m, w.cell? ⟨1, 0, none⟩ = some (.int .i64 m) := by
    obtain ⟨u, hu, hg⟩ := hgl.1 (1, [ai .i64]) (by simp [glC]) 0 (ai .i64) rfl
    rcases hg with ⟨hp, _⟩ | ⟨b, he, _⟩ | ⟨k, m, he, h2⟩
    · cases hp
    · cases he
    · cases he
      exact ⟨m, by rw [hu, h2]⟩
  refine (Tryz.strings_Cut (bs s) (bs p) m w (by rw [bs_siz]; exact hl) hm).mono ?_
  rintro e w' ⟨rfl, n, rfl⟩
  rw [bs_dat, bs_dat]
  exact ⟨[.string (bs (Lib.cut s p).1), .string (bs (Lib.cut s p).2.1), .bool (Lib.cut s p).2.2], rfl, ⟨_, _, rfl, .inr ⟨rfl, rfl⟩, _, _, rfl, .inr ⟨rfl, rfl⟩, _, _, rfl, .inr ⟨rfl, rfl⟩, rfl⟩, ⟨Nat.le_refl _, rfl, rfl, fun _ _ => rfl⟩⟩
noncomputable def ohpX (x : DenL [.str, .str]) : Option (DenL [.bool]) := fO Tryz.prog (envS []) (shOf []) Tryz.f103 [.str, .str] [.bool] x
theorem ehpX (s p : List UInt8) : ohpX (s, p, ()) = (bif decide ((s.length : Int) ≥ (p.length : Int)) then (bif List.take (p.length : Int).toNat s == p then gd [decide ((p.length : Int) ≤ (s.length : Int))] (some (true, ())) else gd [decide ((p.length : Int) ≤ (s.length : Int))] (some (false, ()))) else some (false, ())) := by kernel_rfl
theorem hpX_c : PC 103 hasPreS := (pureO (envS_ok (l := []) trivial) gl_ne Tryz.func103 (by kernel_rfl) (by decide)).nice fun ⟨s, p, ()⟩ _ => by
  show ohpX _ = some (hasPre s p, ())
  rw [ehpX]
  unfold hasPre
  by_cases h : p.length ≤ s.length
  · rw [cdT (by omega), decide_eq_true h, Bool.true_and, gdT (by omega), gdT (by omega), gd_nil, gd_nil, Int.toNat_natCast]
    cases (s.take p.length == p) <;> rfl
  · rw [cdF (by omega), decide_eq_false h, Bool.false_and]
noncomputable def ocqX (x : DenL [.str, .str]) : Option (DenL [.str, .bool]) := fO Tryz.prog (envS [(103, hasPreS)]) (shOf []) Tryz.f109 [.str, .str] [.str, .bool] x
theorem ecqX (s p : List UInt8) : ocqX (s, p, ()) = (bif hasPre s p then gd [decide ((p.length : Int) ≤ (s.length : Int))] (some (s.drop (p.length : Int).toNat, true, ())) else some (s, false, ())) := by kernel_rfl
theorem cqX_c : PC 109 cutPreS := (pureO (envS_ok (l := [(103, hasPreS)]) ⟨hpX_c, trivial⟩) gl_ne Tryz.func109 (by kernel_rfl) (by decide)).nice fun ⟨s, p, ()⟩ _ => by
  show ocqX _ = some ((cutPre s p).1, (cutPre s p).2, ())
  rw [ecqX]
  unfold cutPre
  cases h : hasPre s p
  · rfl
  · have hl : p.length ≤ s.length := by
      unfold hasPre at h
      rw [Bool.and_eq_true, decide_eq_true_eq] at h
      exact h.1
    rw [xT, gdT (by omega), gd_nil]; rfl
noncomputable def ocpX (x : DenL [.str, .str]) : Option (DenL [.str, .bool]) := fO Tryz.prog (envS [(109, cutPreS)]) (shOf []) Tryz.f77 [.str, .str] [.str, .bool] x
theorem ecpX (s p : List UInt8) : ocpX (s, p, ()) = (bif (cutPre s p).2 then some ((cutPre s p).1, true, ()) else some ((cutPre s p).1, false, ())) := by kernel_rfl
theorem cpX_c : PC 77 cutPreS := (pureO (envS_ok (l := [(109, cutPreS)]) ⟨cqX_c, trivial⟩) gl_ne Tryz.func77 (by kernel_rfl) (by decide)).nice fun ⟨s, p, ()⟩ _ => by
  show ocpX _ = some ((cutPre s p).1, (cutPre s p).2, ())
  rw [ecpX]
  cases (cutPre s p).2 <;> rfl
theorem info9 : (Tryz.prog.info? 9).map (·.size) = some 1 := by kernel_rfl
/-- a row that belongs to a slice of strings is a list of its own -/
theorem vec_of {w : World} {B n : Nat} {v : Value} {l : List (List UInt8)} (hn : n = l.length) (h : w.ownsRow B 9 1 v n (l.map fun s => Value.string (bs s))) : ∃ r : Reg, r.sv = v ∧ (∀ b, b ∈ (bif r.own then [r.blk] else [] : List Nat) → B ≤ b) ∧ HdrOK Tryz.prog (fun _ => r) 0 w (.vec .str l 9) ∧ ∀ b, r.fz b = none := by
  subst hn
  obtain ⟨h0, h⟩ := h
  rcases h with ⟨rfl, hl⟩ | ⟨g, cap, cur, rfl, hg, hh, hc, _, hsz, htk⟩
  · have : l = [] := List.eq_nil_of_length_eq_zero hl
    subst this
    refine ⟨⟨0, 0, 0, 1, false, fun _ => none, .slice none 0 0⟩, rfl, fun b hb => (by cases hb), ?_, fun _ => rfl⟩
    exact ⟨rfl, fun b c hb => (nomatch hb), .inl ⟨rfl, rfl, none, rfl⟩⟩
  · refine ⟨⟨g, 0, cur.size, 1, true, fun _ => none, .slice (some ⟨g, 0, none⟩) l.length cap⟩, rfl, fun b hb => ?_, ?_, fun _ => rfl⟩
    · have : b = g := by simpa using hb
      omega
    refine ⟨rfl, ?_, .inr ⟨rfl, ?_, cap, cur, (0, 0), rfl, hc, hh, Nat.zero_add _, ?_, fun i hi => ?_, ?_, ?_⟩⟩
    · intro b c hb; cases hb
    · rintro ⟨c, hc⟩; cases hc
    · show cap * 1 ≤ cur.size; omega
    · have := info9
      rw [hi] at this
      have : i.size = 1 := Option.some.inj this
      rw [this]
      exact ⟨rfl, rfl, Nat.mod_one _⟩
    · intro o _ ho; have := ho.2; omega
    · show RdL (fun _ => none) .str l (cur.toList.drop 0)
      rw [List.drop_zero]
      intro i x hx
      have hi : i < l.length := (List.getElem?_eq_some_iff.1 hx).1
      have hcs : cur.toList.length = cap := by rw [Array.length_toList, hsz, Nat.mul_one]
      refine ⟨by show i * 1 + 1 ≤ _; omega, ?_⟩
      have hk : cur.toList[i]? = some (.string (bs x)) := by
        have h1 : (cur.toList.take (l.length * 1))[i]? = some (.string (bs x)) := by
          rw [htk, List.getElem?_map, hx]; rfl
        rw [List.getElem?_take] at h1
        rw [if_pos (by omega)] at h1
        exact h1
      obtain ⟨h2, h3⟩ := List.getElem?_eq_some_iff.1 hk
      show (cur.toList.drop (i * 1)).take 1 = [Value.string (bs x)]
      rw [Nat.mul_one, List.drop_eq_getElem_cons h2, h3]; rfl
theorem clone_c : OC 73 cloneS := by
  intro fz w r own1 own2 args x y hz hgl hN hF0 hGo _ hRn hRA hpre
  obtain ⟨l, ⟨⟩⟩ := y
  have hl : l.length ≤ 8796093022208 := of_decide_eq_true hpre
  have h1 : own1 = [] := hRn rfl
  obtain ⟨v, rest, o1, o2, rfl, rfl, hv, hrest, ho2⟩ := hRA
  subst hrest ho2 h1
  have hv : o1 = [] ∧ RdC fz (.slice .str) l [v] := by
    rcases hv with ⟨h, _⟩ | ⟨_, h⟩
    · cases h
    · exact h
  obtain ⟨rfl, sv, hsv, hv⟩ := hv
  cases hsv
  show Calls Tryz.prog 73 #[v] w _
  have fin : ∀ (v' : Value) (w' : World), w'.ownsRow w.heap.size 9 1 v' l.length (l.map fun s => Value.string (bs s)) → Below w.heap.size w w' → ObjQ Tryz.prog cloneS fz w r ([] ++ ([] ++ [])) (x, l, ()) (.returned v') w' := fun v' w' ho hb => by
    obtain ⟨r', rfl, hB, hh, hf⟩ := vec_of rfl ho
    have hlt : ∀ b c, fz b = some c → b < w.heap.size := fun b c hb => by
      obtain ⟨e, fr, h⟩ := hz b c hb
      exact (Array.getElem?_eq_some_iff.1 h).1
    refine ⟨[r'.sv], fz, [], (bif r'.own then [r'.blk] else []), rfl, fun _ _ h => h, hz.keep fun b c h => hb.block b (hlt b c h), fun _ _ h => .inl h, ?_, fun b hb => ?_, fun b hb => .inr (hB b (by simpa using hb)), fun h => (by cases h), fun _ => rfl, ⟨r'.sv, [], _, [], rfl, (List.append_nil _).symm, .inr ⟨rfl, r', rfl, rfl, hh, fun b c h => by rw [hf b] at h; cases h⟩, rfl, rfl⟩, hb.size, hb.os, hb.output, fun b hlt _ => hb.block b hlt⟩
    · show ([] ++ ([] ++ (bif r'.own then [r'.blk] else []))).Nodup
      cases r'.own
      · exact List.nodup_nil
      · simp
    · have hb : b ∈ (bif r'.own then [r'.blk] else [] : List Nat) := by simpa [roB, cloneS] using hb
      have := hB b hb
      cases hz' : fz b with
      | none => rfl
      | some c => have := hlt b c hz'; omega
  rcases hv with ⟨⟨q, c, rfl⟩, rfl⟩ | ⟨b, o, c, arr, rfl, hb, hsz, hc, hk⟩
  · cases q with
    | none =>
      refine (Tryz.slices_Clone_string_nil 0 c w).mono ?_
      rintro e w' ⟨rfl, rfl⟩
      exact fin _ _ ⟨rfl, .inl ⟨rfl, rfl⟩⟩ (Below.refl _ _)
    | some a =>
      refine (Tryz.slices_Clone_string_zero a c w).mono ?_
      rintro e w' ⟨v', rfl, ho, _, hb⟩
      exact fin _ _ ho hb
  · obtain ⟨e, fr, hheap⟩ := hz b arr hb
    refine (Tryz.slices_Clone_string b o l.length c (l.map bs) w (by rw [List.length_map]; exact Nat.le_refl _) (by omega) (fun j hj => ?_)).mono ?_
    · rw [List.length_map] at hj
      have hx := hk j l[j] (List.getElem?_eq_getElem hj)
      have hx : (arr.toList.drop (o + j * 1)).take 1 = [Value.string (bs l[j])] := hx
      have hsz : o + l.length * 1 ≤ arr.size := hsz
      have hlt : o + j < arr.toList.length := by rw [Array.length_toList]; omega
      rw [Nat.mul_one, List.drop_eq_getElem_cons hlt] at hx
      have hx : arr.toList[o + j] = Value.string (bs l[j]) := (List.cons.inj hx).1
      simp only [World.cell?, hheap, Option.isSome_none, Bool.false_eq_true, if_false]
      rw [List.getD_eq_getElem?_getD, List.getElem?_map, List.getElem?_eq_getElem hj]
      show arr[o + j]? = some (.string (bs l[j]))
      rw [← hx, ← Array.getElem?_toList, List.getElem?_eq_getElem hlt]
    · rintro e w' ⟨v', rfl, ho, _, hb⟩
      have : ((l.map bs).take l.length).map Value.string = l.map fun s => Value.string (bs s) := by
        rw [List.take_of_length_le (by rw [List.length_map]; exact Nat.le_refl _), List.map_map]; rfl
      rw [this] at ho
      exact fin _ _ ho hb
end Go.Proofs.YtnblkjapeiaedaaGreatDoor
namespace Nice
open Go Go.Eng
abbrev ShT : Ty := .pair (.slice .str) (.pair (.slice EntT) (.pair .bool (.pair .str .unit)))
abbrev ShD : Type := List (List UInt8) × List EntD × Bool × List UInt8 × Unit
def entsP (l : List EntD) : Bool := decide (l.length ≤ 1099511627776) && l.all entP
def badN (l : List EntD) : Bool := l.any fun e => !entB e
def idxEN (l : List EntD) : Int := bif badN l then ((l.takeWhile entB).length : Int) else -1
noncomputable def notES : PSpec := ⟨[EntT], [.bool], fun x => entP x.1, fun x => (!entB x.1, ())⟩
noncomputable def idxES : PSpec := ⟨[.slice EntT, .fn 50], [.int .i64], fun x => entsP x.1, fun x => (idxEN x.1, ())⟩
noncomputable def badES : PSpec := ⟨[.slice EntT, .fn 50], [.bool], fun x => entsP x.1, fun x => (badN x.1, ())⟩
def keysN (n : List (List UInt8)) (l : List EntD) : List (List UInt8) := n ++ l.map (·.1)
def keysP (s : ShD) : Bool := decide (s.1.length ≤ 1099511627776) && decide (s.2.1.length ≤ 1099511627776)
noncomputable def keysS : PSpec := ⟨[ShT], [.slice .str], fun x => keysP x.1, fun x => (keysN x.1.1 x.1.2.1, ())⟩
/-- names that rise, all of them keys -/
def riseK : List UInt8 → List (List UInt8) → Bool
  | _, [] => true
  | last, k :: r => isKey k && (Op.bytesLess last k && riseK k r)
theorem riseK_cons (last k : List UInt8) (r : List (List UInt8)) : riseK last (k :: r) = (isKey k && (Op.bytesLess last k && riseK k r)) := rfl
def lastK (t : List UInt8) : List (List UInt8) → List UInt8
  | [] => t
  | k :: r => lastK k r
def riseE : List UInt8 → List EntD → Bool
  | _, [] => true
  | last, e :: r => entB e && (Op.bytesLess last e.1 && riseE e.1 r)
theorem riseE_cons (last : List UInt8) (e : EntD) (r : List EntD) : riseE last (e :: r) = (entB e && (Op.bytesLess last e.1 && riseE e.1 r)) := rfl
/-- a list that may be -/
def smayN (s : ShD) : Bool := !(decide (0 < s.1.length) && decide (0 < s.2.1.length)) && (riseK [] (keysN s.1 s.2.1) && (s.2.1.all entB && (decide ((keysN s.1 s.2.1).length ≤ 20) && (bif s.2.2.1 then decide (0 < (keysN s.1 s.2.1).length) && s.2.2.2.1 == lastK [] (keysN s.1 s.2.1) else s.2.2.2.1 == []))))
def smayP (s : ShD) : Bool := decide (s.1.length ≤ 1099511627776) && (s.1.all bndS && entsP s.2.1)
noncomputable def smayS : PSpec := ⟨[ShT], [.bool], fun x => smayP x.1, fun x => (smayN x.1, ())⟩
theorem less_tot : ∀ (a b : List UInt8), Op.bytesLess a b = !(Op.bytesLess b a || b == a)
  | [], [] => by simp [Op.bytesLess]
  | [], _ :: _ => by simp [Op.bytesLess]
  | _ :: _, [] => by simp [Op.bytesLess]
  | x :: a, y :: b => by
    have ih := less_tot a b
    simp only [Op.bytesLess]
    rcases Nat.lt_trichotomy x.toNat y.toNat with h | h | h
    · have h1 : x < y := UInt8.lt_iff_toNat_lt.2 h
      have h2 : ¬ y < x := fun h => by have := UInt8.lt_iff_toNat_lt.1 h; omega
      have h3 : (y == x) = false := by
        rw [beq_eq_false_iff_ne]; rintro rfl; exact absurd h (Nat.lt_irrefl _)
      simp [h1, h2, h3, List.cons_beq_cons]
    · have h1 : x = y := UInt8.toNat_inj.1 h
      subst h1
      simp [ih, List.cons_beq_cons]
    · have h1 : y < x := UInt8.lt_iff_toNat_lt.2 h
      have h2 : ¬ x < y := fun h => by have := UInt8.lt_iff_toNat_lt.1 h; omega
      have h3 : x ≠ y := by rintro rfl; exact absurd h (Nat.lt_irrefl _)
      simp [h1, h2, h3]
theorem less_nil {k : List UInt8} (h : isKey k = true) : Op.bytesLess [] k = true := by
  cases k with
  | nil => exact absurd h (by decide)
  | cons a b => simp [Op.bytesLess]
theorem isKey_bnd {k : List UInt8} (h : isKey k = true) : k.length ≤ 40 := by
  unfold isKey at h
  rw [Bool.and_eq_true, Bool.and_eq_true, decide_eq_true_eq, decide_eq_true_eq] at h
  exact h.2.2
theorem entB_key {e : EntD} (h : entB e = true) : isKey e.1 = true := by
  unfold entB at h
  rw [Bool.and_eq_true, Bool.and_eq_true] at h
  exact h.2.1
theorem riseK_app : ∀ (n m : List (List UInt8)) (t : List UInt8), riseK t (n ++ m) = (riseK t n && riseK (lastK t n) m)
  | [], _, _ => by rw [List.nil_append]; exact (Bool.true_and _).symm
  | k :: n, m, t => by rw [List.cons_append, riseK_cons, riseK_cons, riseK_app n m k, Bool.and_assoc, Bool.and_assoc]; rfl
theorem lastK_app : ∀ (n m : List (List UInt8)) (t : List UInt8), lastK t (n ++ m) = lastK (lastK t n) m
  | [], _, _ => rfl
  | k :: n, m, _ => lastK_app n m k
theorem riseE_eq : ∀ (l : List EntD) (t : List UInt8), riseE t l = (riseK t (l.map (·.1)) && l.all entB)
  | [], _ => rfl
  | e :: l, t => by
    rw [riseE_cons, List.map_cons, riseK_cons, riseE_eq l e.1, List.all_cons]
    cases h : entB e
    · simp
    · rw [entB_key h]
      cases Op.bytesLess t e.1
      · rfl
      · cases riseK e.1 (l.map (·.1)) <;> rfl
theorem lastK_getD : ∀ (k : List (List UInt8)) (t : List UInt8), 0 < k.length → lastK t k = k.getD (k.length - 1) []
  | [], _, h => absurd h (by decide)
  | [a], _, _ => rfl
  | a :: b :: k, t, _ => by
    have := lastK_getD (b :: k) a (by simp)
    show lastK a (b :: k) = _
    rw [this]; rfl
noncomputable def stepIE (l : List EntD) (b i : Int) (nx : Option (DenL [.int .i64])) : Option (DenL [.int .i64]) :=
  bif decide (i < b) then (bif !entB ((l.getD i.toNat (EntT).dflt).1, (l.getD i.toNat (EntT).dflt).2.1, ()) then gd [entP ((l.getD i.toNat (EntT).dflt).1, (l.getD i.toNat (EntT).dflt).2.1, ()), decide (i.toNat < l.length), decide (0 ≤ i), decide (i < (l.length : Int))] (some (i, ()))
    else gd [decide (inK .i64 (i + 1)), entP ((l.getD i.toNat (EntT).dflt).1, (l.getD i.toNat (EntT).dflt).2.1, ()), decide (i.toNat < l.length), decide (0 ≤ i), decide (i < (l.length : Int))] nx)
  else some (-1, ())
end Nice
namespace Go.Proofs.YtnblkjapeiaedaaGreatDoor
open Go Go.Eng Nice Go.RowKit
set_option maxRecDepth 1000000
noncomputable def onotE (x : DenL [EntT]) : BO := fO Tryz.prog (envS [(51, entS)]) (shOf []) Tryz.f50 [EntT] [.bool] x
theorem enotE (k : List UInt8) (l : List VerD) : onotE ((k, l, ()), ()) = (bif entB (k, l, ()) then gd [entP (k, l, ())] (bO false) else gd [entP (k, l, ())] (bO true)) := by kernel_rfl
theorem notE_c : PC 50 notES := (pureO (envS_ok (l := [(51, entS)]) ⟨tmay_c, trivial⟩) gl_ne Tryz.func50 (by kernel_rfl) (by decide)).nice fun ⟨⟨k, l, ()⟩, ()⟩ h => by
  have h : entP (k, l, ()) = true := h
  show onotE _ = some (!entB (k, l, ()), ())
  rw [enotE, gdB h, gdB h, xG, xG]
  cases entB (k, l, ()) <;> rfl
abbrev shidxE : List (Nat × List (Nat × Sh)) := [(2, [(0, (.one (.dat EntT))), (1, (.one .any)), (4, (.one .sym)), (7, (.one .sym)), (8, (.one .sym))])]
noncomputable def hidxE (n : Nat) (l : List EntD) (a b i : Int) : Option (DenL [.int .i64]) := rH Tryz.prog (envS [(50, notES)]) (shOf shidxE) Tryz.f75 [.int .i64] n 0 [(0, dt 10), (1, Value.func (Fn.func 50) #[] #[]), (4, sy (.int .i64 a)), (7, sy (.int .i64 b)), (8, sy (.int .i64 i))] [.dat EntT l]
noncomputable def oidxE (x : DenL [.slice EntT, .fn 50]) : Option (DenL [.int .i64]) := fO Tryz.prog (envS [(50, notES)]) (shOf shidxE) Tryz.f75 [.slice EntT, .fn 50] [.int .i64] x
theorem oidxE_g (x : DenL [.slice EntT, .fn 50]) : oidxE x = fON Tryz.prog (envS [(50, notES)]) (shOf shidxE) Tryz.f75 [.slice EntT, .fn 50] [.int .i64] heads0 x := rfl
theorem eidxE_g (N : Nat) (l : List EntD) : fON Tryz.prog (envS [(50, notES)]) (shOf shidxE) Tryz.f75 [.slice EntT, .fn 50] [.int .i64] N (l, (), ()) = hidxE N l 0 (l.length : Int) 0 := by kernel_rfl
theorem eidxE_0 (n : Nat) (l : List EntD) (a b i : Int) : hidxE (n + 1) l a b i = stepIE l b i (hidxE n l a b (i + 1)) := by kernel_rfl
theorem idxE_l (l : List EntD) (hl : l.length ≤ 1099511627776) (hp : ∀ h, h ∈ l → entP h = true) : ∀ (r i n : Nat), l.length = i + r → r < n → hidxE n l 0 (l.length : Int) (i : Int) = some ((bif (l.drop i).any (fun h => !entB h) then (i : Int) + ((l.drop i).takeWhile entB).length else -1), ()) := by
  intro r
  induction r with
  | zero =>
    intro i n hi hn
    obtain ⟨n, rfl⟩ : ∃ k, n = k + 1 := ⟨n - 1, by omega⟩
    rw [eidxE_0]
    unfold stepIE
    rw [cdF (by omega), List.drop_eq_nil_of_le (by omega)]; rfl
  | succ r ih =>
    intro i n hi hn
    obtain ⟨n, rfl⟩ : ∃ k, n = k + 1 := ⟨n - 1, by omega⟩
    have hlt : i < l.length := by omega
    have hd : l.drop i = l.getD i (EntT).dflt :: l.drop (i + 1) := by
      rw [List.drop_eq_getElem_cons hlt, List.getD_eq_getElem?_getD, List.getElem?_eq_getElem hlt]; rfl
    have hh : entP (l.getD i (EntT).dflt) = true := hp _ (by
      rw [List.getD_eq_getElem?_getD, List.getElem?_eq_getElem hlt]; exact List.getElem_mem hlt)
    rw [eidxE_0]
    unfold stepIE
    rw [cdT (by omega), show (i : Int).toNat = i from rfl, hd, List.any_cons, List.takeWhile_cons, show ((l.getD i (EntT).dflt).1, (l.getD i (EntT).dflt).2.1, ()) = l.getD i (EntT).dflt from rfl]
    cases hb : entB (l.getD i (EntT).dflt)
    · rw [Bool.not_false, xT, gdB hh, gdT (by omega), gdT (by omega), gdT (by omega), xG, Bool.true_or, xT]; simp
    · have := ih (i + 1) n (by omega) (by omega)
      simp only [Int.natCast_add, Int.natCast_one] at this
      rw [Bool.not_true, xF, gdT (inK_i64.2 ⟨by omega, by omega⟩), gdB hh, gdT (by omega), gdT (by omega), gdT (by omega), xG, this, Bool.false_or]
      cases (l.drop (i + 1)).any fun h => !entB h
      · rfl
      · simp only [xT, if_true, List.length_cons, Int.natCast_add, Int.natCast_one]
        congr 2; omega
theorem entsP_iff {l : List EntD} : entsP l = true ↔ l.length ≤ 1099511627776 ∧ ∀ h, h ∈ l → entP h = true := by
  unfold entsP; rw [Bool.and_eq_true, decide_eq_true_eq, List.all_eq_true]
theorem idxE_c : PC 75 idxES := (pureO (sh := shOf shidxE) (envS_ok (l := [(50, notES)]) ⟨notE_c, trivial⟩) gl_ne Tryz.func75 (by kernel_rfl) (by decide)).nice fun ⟨l, (), ()⟩ h => by
  obtain ⟨h1, h2⟩ := entsP_iff.1 h
  have h1 : l.length ≤ 1099511627776 := h1
  show oidxE _ = some (idxEN l, ())
  rw [oidxE_g, eidxE_g]
  refine Eq.trans (idxE_l l h1 h2 l.length 0 heads0 (by omega) (by unfold heads0; omega)) ?_
  unfold idxEN badN
  rw [List.drop_zero]
  cases l.any fun h => !entB h
  · rfl
  · simp
noncomputable def obadE (x : DenL [.slice EntT, .fn 50]) : BO := fO Tryz.prog (envS [(75, idxES)]) (shOf []) Tryz.f49 [.slice EntT, .fn 50] [.bool] x
theorem ebadE (l : List EntD) : obadE (l, (), ()) = (bif decide (idxEN l ≥ 0) then gd [entsP l] (bO true) else gd [entsP l] (bO false)) := by kernel_rfl
theorem idxEN_eq (l : List EntD) : decide (idxEN l ≥ 0) = badN l := by
  unfold idxEN
  cases badN l
  · rfl
  · exact decide_eq_true (by show (0 : Int) ≤ _; rw [xT]; omega)
theorem badE_c : PC 49 badES := (pureO (envS_ok (l := [(75, idxES)]) ⟨idxE_c, trivial⟩) gl_ne Tryz.func49 (by kernel_rfl) (by decide)).nice fun ⟨l, (), ()⟩ h => by
  have h : entsP l = true := h
  show obadE _ = some (badN l, ())
  rw [ebadE, idxEN_eq, gdB h, gdB h, xG, xG]
  cases badN l <;> rfl
/-! ### all names of a list -/
abbrev shkeys : List (Nat × List (Nat × Sh)) := [(3, [(2, (.one .any)), (3, (.one (.vec .str 9))), (10, (.one (.dat EntT))), (11, (.one .sym)), (12, (.one .sym))])]
noncomputable def hkeys (N : Nat) (o : List (List UInt8)) (l : List EntD) (m i : Int) : Option (DenL [.slice .str]) := rH Tryz.prog (envO [] [(73, cloneS)]) (shOf shkeys) Tryz.f47 [.slice .str] N 0 [(2, Value.slice none 0 0), (3, dt 10), (10, dt 11), (11, sy (.int .i64 m)), (12, sy (.int .i64 i))] [.vec .str o 9, .dat EntT l]
noncomputable def okeys (x : DenL [ShT]) : Option (DenL [.slice .str]) := fO Tryz.prog (envO [] [(73, cloneS)]) (shOf shkeys) Tryz.f47 [ShT] [.slice .str] x
theorem okeys_g (x : DenL [ShT]) : okeys x = fON Tryz.prog (envO [] [(73, cloneS)]) (shOf shkeys) Tryz.f47 [ShT] [.slice .str] heads0 x := rfl
theorem ekeys_g (N : Nat) (n : List (List UInt8)) (l : List EntD) (m : Bool) (x : List UInt8) : fON Tryz.prog (envO [] [(73, cloneS)]) (shOf shkeys) Tryz.f47 [ShT] [.slice .str] N ((n, l, m, x, ()), ()) =
  gd [decide (n.length ≤ 8796093022208)] (hkeys N n l (l.length : Int) 0) := by kernel_rfl
theorem ekeys_0 (N : Nat) (o : List (List UInt8)) (l : List EntD) (m i : Int) : hkeys (N + 1) o l m i =
  (bif decide (i < m) then gd [decide (inK .i64 (i + 1)), decide ((2 * (o.length + [(l.getD i.toNat (EntT).dflt).1].length) + 400) * 16 ≤ 281474976710656), decide (i.toNat < l.length), decide (0 ≤ i), decide (i < (l.length : Int))] (hkeys N (o ++ [(l.getD i.toNat (EntT).dflt).1]) l m (i + 1)) else some (o, ())) := by kernel_rfl
theorem keys_l (l : List EntD) (hl : l.length ≤ 1099511627776) : ∀ (r i N : Nat) (o : List (List UInt8)), l.length = i + r → r < N → o.length ≤ 1099511627776 + i → hkeys N o l (l.length : Int) (i : Int) = some (o ++ (l.drop i).map (·.1), ()) := by
  intro r
  induction r with
  | zero =>
    intro i N o hi hN _
    obtain ⟨N, rfl⟩ : ∃ m, N = m + 1 := ⟨N - 1, by omega⟩
    rw [ekeys_0, cdF (by omega), List.drop_eq_nil_of_le (by omega)]
    simp
  | succ r ih =>
    intro i N o hi hN ho
    obtain ⟨N, rfl⟩ : ∃ m, N = m + 1 := ⟨N - 1, by omega⟩
    have hlt : i < l.length := by omega
    have hd : l.drop i = l.getD i (EntT).dflt :: l.drop (i + 1) := by
      rw [List.drop_eq_getElem_cons hlt, List.getD_eq_getElem?_getD, List.getElem?_eq_getElem hlt]; rfl
    have hlen : ([(l.getD i (EntT).dflt).1] : List (List UInt8)).length = 1 := rfl
    have this := ih (i + 1) N (o ++ [(l.getD i (EntT).dflt).1]) (by omega) (by omega) (by rw [List.length_append, hlen]; omega)
    simp only [Int.natCast_add, Int.natCast_one] at this
    rw [ekeys_0, cdT (by omega), show (i : Int).toNat = i from rfl, hlen, gdT (inK_i64.2 ⟨by omega, by omega⟩), gdT (by omega), gdT hlt, gdT (by omega), gdT (by omega), xG, this, hd, List.map_cons, List.append_assoc]; rfl
theorem keys_c : PC 47 keysS := (pureO (sh := shOf shkeys) (envO_ok (l := []) (o := [(73, cloneS)]) trivial ⟨clone_c, trivial⟩) gl_ne Tryz.func47 (by kernel_rfl) (by decide)).nice fun ⟨⟨n, l, m, x, ()⟩, ()⟩ h => by
  have h : (decide (n.length ≤ 1099511627776) && decide (l.length ≤ 1099511627776)) = true := h
  rw [Bool.and_eq_true, decide_eq_true_eq, decide_eq_true_eq] at h
  show okeys _ = some (keysN n l, ())
  rw [okeys_g, ekeys_g, gdT (by omega), xG]
  exact keys_l l h.2 l.length 0 heads0 n (by omega) (by unfold heads0; omega) (by omega)
end Go.Proofs.YtnblkjapeiaedaaGreatDoor
namespace Nice
open Go Go.Eng
noncomputable def stepSM (k : List (List UInt8)) (m i : Int) (nx ex : BO) : BO :=
  bif decide (i < m) then gd [decide (i.toNat < k.length), decide (0 ≤ i), decide (i < (k.length : Int))] (bif isKey (k.getD i.toNat Ty.str.dflt) then
      (bif decide (i > 0) then (bif !Op.bytesLess (k.getD (i - 1).toNat Ty.str.dflt) (k.getD i.toNat Ty.str.dflt) then gd [decide ((i - 1).toNat < k.length), decide (0 ≤ i - 1), decide (i - 1 < (k.length : Int)), decide (inK .i64 (i - 1)), bndS (k.getD i.toNat Ty.str.dflt)] (bO false)
        else gd [decide (inK .i64 (i + 1)), decide ((i - 1).toNat < k.length), decide (0 ≤ i - 1), decide (i - 1 < (k.length : Int)), decide (inK .i64 (i - 1)), bndS (k.getD i.toNat Ty.str.dflt)] nx)
      else gd [decide (inK .i64 (i + 1)), bndS (k.getD i.toNat Ty.str.dflt)] nx)
    else gd [bndS (k.getD i.toNat Ty.str.dflt)] (bO false)) else ex
noncomputable abbrev gL (k : List (List UInt8)) : List Bool := [decide (((k.length : Int) - 1).toNat < k.length), decide (0 ≤ (k.length : Int) - 1), decide ((k.length : Int) - 1 < (k.length : Int)), decide (inK .i64 ((k.length : Int) - 1))]
noncomputable def exT (l : List EntD) (x : List UInt8) (k : List (List UInt8)) : BO :=
  bif badN l then gd [entsP l] (bif decide ((k.length : Int) > 0) then gd (gL k) (bO false) else bO false)
  else gd [entsP l] (bif decide ((k.length : Int) > 0) then gd (gL k) (bif decide ((k.length : Int) ≤ 20) then (bif x == k.getD ((k.length : Int) - 1).toNat Ty.str.dflt then (bif decide ((k.length : Int) > 0) then bO true else bO false) else bO false) else bO false)
    else (bif decide ((k.length : Int) ≤ 20) then (bif x == [] then (bif decide ((k.length : Int) > 0) then bO true else bO false) else bO false) else bO false))
noncomputable def exF (l : List EntD) (x : List UInt8) (k : List (List UInt8)) : BO :=
  bif badN l then gd [entsP l] (bO false) else gd [entsP l] (bif decide ((k.length : Int) ≤ 20) then (bif x == [] then bO true else bO false) else bO false)
noncomputable def exB (b : Bool) (l : List EntD) (x : List UInt8) (k : List (List UInt8)) : BO := match b with
  | true => exT l x k
  | false => exF l x k
theorem exB_n (b : Bool) {l : List EntD} (x : List UInt8) {k : List (List UInt8)} (h : entsP l = true) (hk : k.length ≤ 4398046511104) : exB b l x k = some (l.all entB && (decide (k.length ≤ 20) && (bif b then decide (0 < k.length) && x == lastK [] k else x == [])), ()) := by
  have hb : badN l = !l.all entB := by
    unfold badN
    rw [List.not_all_eq_any_not]
  cases b
  · show exF l x k = _
    unfold exF
    rw [gdB h, gdB h, hb]
    cases l.all entB
    · rfl
    · by_cases h2 : k.length ≤ 20
      · rw [cdT (show (k.length : Int) ≤ 20 by omega), decide_eq_true h2]; cases x == [] <;> rfl
      · rw [cdF (show ¬ (k.length : Int) ≤ 20 by omega), decide_eq_false h2]; rfl
  · show exT l x k = _
    unfold exT
    rw [gdB h, gdB h, hb]
    by_cases h1 : 0 < k.length
    · have hg : ∀ y : BO, gd (gL k) y = y := fun y => by
        unfold gL
        rw [gdT (by omega), gdT (by omega), gdT (by omega), gdT (inK_i64.2 ⟨by omega, by omega⟩), xG]
      have hl : k.getD ((k.length : Int) - 1).toNat Ty.str.dflt = lastK [] k := by
        rw [lastK_getD k [] h1, show ((k.length : Int) - 1).toNat = k.length - 1 by omega]; rfl
      rw [cdT (show (k.length : Int) > 0 by omega), hl, decide_eq_true h1, Bool.true_and, hg]
      cases l.all entB
      · rfl
      · by_cases h2 : k.length ≤ 20
        · rw [cdT (show (k.length : Int) ≤ 20 by omega), cdT (show (k.length : Int) > 0 by omega), decide_eq_true h2, hg]; cases x == lastK [] k <;> first | rfl | (rw [cdT (show (k.length : Int) > 0 by omega)]; rfl)
        · rw [cdF (show ¬ (k.length : Int) ≤ 20 by omega), decide_eq_false h2, hg]; first | rfl | (rw [cdT (show (k.length : Int) > 0 by omega)]; rfl)
    · have : k = [] := List.eq_nil_of_length_eq_zero (by omega)
      subst this
      cases l.all entB
      · rfl
      · cases x == [] <;> rfl
noncomputable def begSM (s : ShD) (y : BO) : BO := bif decide ((s.1.length : Int) > 0) then (bif decide ((s.2.1.length : Int) > 0) then bO false else gd [keysP s] y) else gd [keysP s] y
theorem begSM_n {s : ShD} {b : Bool} {y : BO} (h : keysP s = true) (hy : y = some (b, ())) : begSM s y = some (!(decide (0 < s.1.length) && decide (0 < s.2.1.length)) && b, ()) := by
  subst hy
  unfold begSM
  rw [gdB h, xG]
  by_cases h1 : 0 < s.1.length
  · rw [cdT (by omega), decide_eq_true h1]
    by_cases h2 : 0 < s.2.1.length
    · rw [cdT (by omega), decide_eq_true h2]; rfl
    · rw [cdF (by omega), decide_eq_false h2]; rfl
  · rw [cdF (by omega), decide_eq_false h1]; rfl
theorem smayP_iff {s : ShD} : smayP s = true ↔ s.1.length ≤ 1099511627776 ∧ (∀ k, k ∈ s.1 → bndS k = true) ∧ entsP s.2.1 = true := by
  unfold smayP; rw [Bool.and_eq_true, Bool.and_eq_true, decide_eq_true_eq, List.all_eq_true]
end Nice
namespace Go.Proofs.YtnblkjapeiaedaaGreatDoor
open Go Go.Eng Nice Go.RowKit
set_option maxRecDepth 1000000
abbrev shsmay : List (Nat × List (Nat × Sh)) := [(5, [(1, (.obj [(.dat .str), (.dat EntT), .sym, .sym])), (2, (.one .sym)), (3, (.one (.dat .str))), (20, (.one (.dat .str))), (21, (.one .sym)), (22, (.one .sym))])]
noncomputable def hsmay (N : Nat) (n : List (List UInt8)) (l : List EntD) (b : Bool) (x : List UInt8) (k : List (List UInt8)) (m i : Int) : BO := rH Tryz.prog (envS [(47, keysS), (48, isKeyS), (49, badES)]) (shOf shsmay) Tryz.f28 [.bool] N 0 [(1, .pointer (some ⟨12, 0, none⟩)), (2, .bool false), (3, dt 13), (20, dt 14), (21, sy (.int .i64 m)), (22, sy (.int .i64 i))] [.dat .str n, .dat EntT l, .row [dt 10, dt 11, .bool b, sy (.string (bs x))] 46 false, .dat .str k, .dat .str k]
noncomputable def osmay (x : DenL [ShT]) : BO := fO Tryz.prog (envS [(47, keysS), (48, isKeyS), (49, badES)]) (shOf shsmay) Tryz.f28 [ShT] [.bool] x
theorem osmay_g (x : DenL [ShT]) : osmay x = fON Tryz.prog (envS [(47, keysS), (48, isKeyS), (49, badES)]) (shOf shsmay) Tryz.f28 [ShT] [.bool] heads0 x := rfl
theorem esmayT_g (N : Nat) (n : List (List UInt8)) (l : List EntD) (x : List UInt8) : fON Tryz.prog (envS [(47, keysS), (48, isKeyS), (49, badES)]) (shOf shsmay) Tryz.f28 [ShT] [.bool] N ((n, l, true, x, ()), ()) = begSM (n, l, true, x, ()) (hsmay N n l true x (keysN n l) ((keysN n l).length : Int) 0) := by kernel_rfl
theorem esmayF_g (N : Nat) (n : List (List UInt8)) (l : List EntD) (x : List UInt8) : fON Tryz.prog (envS [(47, keysS), (48, isKeyS), (49, badES)]) (shOf shsmay) Tryz.f28 [ShT] [.bool] N ((n, l, false, x, ()), ()) = begSM (n, l, false, x, ()) (hsmay N n l false x (keysN n l) ((keysN n l).length : Int) 0) := by kernel_rfl
theorem esmayT_0 (N : Nat) (n : List (List UInt8)) (l : List EntD) (x : List UInt8) (k : List (List UInt8)) (m i : Int) : hsmay (N + 1) n l true x k m i = stepSM k m i (hsmay N n l true x k m (i + 1)) (exB true l x k) := by kernel_rfl
theorem esmayF_0 (N : Nat) (n : List (List UInt8)) (l : List EntD) (x : List UInt8) (k : List (List UInt8)) (m i : Int) : hsmay (N + 1) n l false x k m i = stepSM k m i (hsmay N n l false x k m (i + 1)) (exB false l x k) := by kernel_rfl
theorem esmay_0 (N : Nat) (n : List (List UInt8)) (l : List EntD) (b : Bool) (x : List UInt8) (k : List (List UInt8)) (m i : Int) : hsmay (N + 1) n l b x k m i = stepSM k m i (hsmay N n l b x k m (i + 1)) (exB b l x k) := by
  cases b
  · exact esmayF_0 N n l x k m i
  · exact esmayT_0 N n l x k m i
theorem smay_l (n : List (List UInt8)) (l : List EntD) (b : Bool) (x : List UInt8) (k : List (List UInt8)) (hk : k.length ≤ 4398046511104) (hb : ∀ s, s ∈ k → bndS s = true) (c : Bool) (hx : exB b l x k = some (c, ())) : ∀ (r i N : Nat), k.length = i + r → r < N → hsmay N n l b x k (k.length : Int) (i : Int) = some (riseK (bif i == 0 then [] else k.getD (i - 1) []) (k.drop i) && c, ()) := by
  intro r
  induction r with
  | zero =>
    intro i N hi hN
    obtain ⟨N, rfl⟩ : ∃ m, N = m + 1 := ⟨N - 1, by omega⟩
    rw [esmay_0]
    unfold stepSM
    rw [cdF (by omega), List.drop_eq_nil_of_le (by omega), hx]; rfl
  | succ r ih =>
    intro i N hi hN
    obtain ⟨N, rfl⟩ : ∃ m, N = m + 1 := ⟨N - 1, by omega⟩
    have hlt : i < k.length := by omega
    have hd : k.drop i = k.getD i [] :: k.drop (i + 1) := by
      rw [List.drop_eq_getElem_cons hlt, List.getD_eq_getElem?_getD, List.getElem?_eq_getElem hlt]; rfl
    have hh : bndS (k.getD i []) = true := hb _ (by
      rw [List.getD_eq_getElem?_getD, List.getElem?_eq_getElem hlt]; exact List.getElem_mem hlt)
    have this := ih (i + 1) N (by omega) (by omega)
    rw [show ((i + 1 : Nat) == 0) = false from rfl, xF, Nat.add_sub_cancel] at this
    simp only [Int.natCast_add, Int.natCast_one] at this
    have hi1 : inK .i64 ((i : Int) + 1) := inK_i64.2 ⟨by omega, by omega⟩
    rw [esmay_0]
    unfold stepSM
    rw [cdT (by omega), show (i : Int).toNat = i from rfl, show k.getD i Ty.str.dflt = k.getD i [] from rfl, gdT hlt, gdT (by omega), gdT (by omega), xG, hd, riseK_cons, this]
    cases hkey : isKey (k.getD i [])
    · rw [xF, gdB hh, xG]; rfl
    · rw [xT, Bool.true_and]
      rcases Nat.eq_zero_or_pos i with h0 | h0
      · subst h0
        rw [cdF (by omega), gdT hi1, gdB hh, xG, show ((0 : Nat) == 0) = true from rfl, xT, less_nil hkey, Bool.true_and]
      · rw [cdT (by omega), show ((i : Int) - 1).toNat = i - 1 by omega, show (i == 0) = false from by rw [beq_eq_false_iff_ne]; omega, xF, show k.getD (i - 1) Ty.str.dflt = k.getD (i - 1) [] from rfl]
        cases Op.bytesLess (k.getD (i - 1) []) (k.getD i [])
        · rw [Bool.not_false, xT, gdT (by omega), gdT (by omega), gdT (by omega), gdT (inK_i64.2 ⟨by omega, by omega⟩), gdB hh, xG]; rfl
        · rw [Bool.not_true, xF, gdT hi1, gdT (by omega), gdT (by omega), gdT (by omega), gdT (inK_i64.2 ⟨by omega, by omega⟩), gdB hh, xG, Bool.true_and]
theorem smay_n {n : List (List UInt8)} {l : List EntD} {b : Bool} {x : List UInt8} (h : smayP (n, l, b, x, ()) = true) : begSM (n, l, b, x, ()) (hsmay heads0 n l b x (keysN n l) ((keysN n l).length : Int) 0) = some (smayN (n, l, b, x, ()), ()) := by
  obtain ⟨h1, h2, h3⟩ := smayP_iff.1 h
  have h4 := entsP_iff.1 h3
  have h1 : n.length ≤ 1099511627776 := h1
  have h5 : l.length ≤ 1099511627776 := h4.1
  have hkl : (keysN n l).length = n.length + l.length := by unfold keysN; rw [List.length_append, List.length_map]
  have hb : ∀ s, s ∈ keysN n l → bndS s = true := fun s hs => by
    rcases List.mem_append.1 hs with hs | hs
    · exact h2 s hs
    · obtain ⟨e, he, rfl⟩ := List.mem_map.1 hs
      have := h4.2 e he
      unfold entP at this
      rw [Bool.and_eq_true] at this
      exact this.1
  have := smay_l n l b x (keysN n l) (by omega) hb _ (exB_n b x h3 (by omega)) (keysN n l).length 0 heads0 (by omega) (by unfold heads0; omega)
  refine begSM_n (s := (n, l, b, x, ())) (by unfold keysP; rw [Bool.and_eq_true]; exact ⟨decide_eq_true h1, decide_eq_true h5⟩) ?_
  exact this
theorem smay_c : PC 28 smayS := (pureO (sh := shOf shsmay) (envS_ok (l := [(47, keysS), (48, isKeyS), (49, badES)]) ⟨keys_c, dKey_c, badE_c, trivial⟩) gl_ne Tryz.func28 (by kernel_rfl) (by decide)).nice fun ⟨⟨n, l, b, x, ()⟩, ()⟩ h => by
  show osmay _ = some (smayN (n, l, b, x, ()), ())
  rw [osmay_g]
  cases b
  · rw [esmayF_g]; exact smay_n h
  · rw [esmayT_g]; exact smay_n h
end Go.Proofs.YtnblkjapeiaedaaGreatDoor
namespace Nice
open Go Go.Eng
def mcN (b : Bool) (s : ShD) : Bool := match b with
  | true => ((s.1.length : Int) + (s.2.1.length : Int) == 0)
  | false => !s.2.2.2.1 == []
noncomputable def begRM (b : Bool) (s : ShD) (y : BO) : BO := gd [decide (inK .i64 ((s.1.length : Int) + (s.2.1.length : Int)))] (bif decide ((s.1.length : Int) > 0) then (bif decide ((s.2.1.length : Int) > 0) then bO false else (bif decide ((s.1.length : Int) + (s.2.1.length : Int) > 20) then bO false else bif mcN b s then bO false else y))
  else (bif decide ((s.1.length : Int) + (s.2.1.length : Int) > 20) then bO false else bif mcN b s then bO false else y))
noncomputable abbrev gI {α : Type} (l : List α) (i : Int) : List Bool := [decide (i.toNat < l.length), decide (0 ≤ i), decide (i < (l.length : Int))]
noncomputable def stepR0 (n : List (List UInt8)) (t : List UInt8) (i : Int) (nx ex : BO) : BO :=
  bif decide (i < (n.length : Int)) then (bif isKey (n.getD i.toNat Ty.str.dflt) then (bif Op.bytesLess (n.getD i.toNat Ty.str.dflt) t || n.getD i.toNat Ty.str.dflt == t then gd (gI n i ++ [bndS (n.getD i.toNat Ty.str.dflt)] ++ gI n i) (bO false)
      else gd (decide (inK .i64 (i + 1)) :: (gI n i ++ gI n i ++ [bndS (n.getD i.toNat Ty.str.dflt)] ++ gI n i)) nx)
    else gd (bndS (n.getD i.toNat Ty.str.dflt) :: gI n i) (bO false)) else ex
noncomputable def stepR1 (l : List EntD) (t : List UInt8) (i : Int) (nx ex : BO) : BO :=
  bif decide (i < (l.length : Int)) then (bif entB ((l.getD i.toNat (EntT).dflt).1, (l.getD i.toNat (EntT).dflt).2.1, ()) then (bif Op.bytesLess (l.getD i.toNat (EntT).dflt).1 t || (l.getD i.toNat (EntT).dflt).1 == t then gd (gI l i ++ [entP ((l.getD i.toNat (EntT).dflt).1, (l.getD i.toNat (EntT).dflt).2.1, ())] ++ gI l i) (bO false)
      else gd (decide (inK .i64 (i + 1)) :: (gI l i ++ gI l i ++ [entP ((l.getD i.toNat (EntT).dflt).1, (l.getD i.toNat (EntT).dflt).2.1, ())] ++ gI l i)) nx)
    else gd (entP ((l.getD i.toNat (EntT).dflt).1, (l.getD i.toNat (EntT).dflt).2.1, ()) :: gI l i) (bO false)) else ex
def exR (b : Bool) (x t : List UInt8) : BO := match b with
  | true => bif x == t then bO true else bO false
  | false => bO true
def exRb (b : Bool) (x t : List UInt8) : Bool := bif b then x == t else true
theorem exR_n (b : Bool) (x t : List UInt8) : exR b x t = some (exRb b x t, ()) := by
  cases b
  · rfl
  · show (bif x == t then bO true else bO false) = _
    unfold exRb
    cases x == t <;> rfl
theorem less_not {a b : List UInt8} : (Op.bytesLess a b || a == b) = !Op.bytesLess b a := by
  rw [less_tot b a, Bool.not_not]
theorem algM : ∀ (a8 a1 a2 a3 a4 a5 a6 a7 b : Bool), (a8 && (a4 && ((bif b then a5 else a7) && (a1 && (a2 && a3 && bif b then a6 else true))))) = (a8 && (a1 && a2 && (a3 && (a4 && bif b then a5 && a6 else a7)))) := by
  intro a8 a1 a2 a3 a4 a5 a6 a7 b
  cases b <;> cases a4 <;> cases a5 <;> cases a7 <;> cases a1 <;> cases a2 <;> cases a3 <;> cases a6 <;> rfl
theorem begRM_n {s : ShD} {c : Bool} {y : BO} (h1 : s.1.length ≤ 1099511627776) (h2 : s.2.1.length ≤ 1099511627776) (hy : y = some (c, ())) : begRM s.2.2.1 s y = some (!(decide (0 < s.1.length) && decide (0 < s.2.1.length)) && (decide ((keysN s.1 s.2.1).length ≤ 20) && ((bif s.2.2.1 then decide (0 < (keysN s.1 s.2.1).length) else s.2.2.2.1 == []) && c)), ()) := by
  have hk : (keysN s.1 s.2.1).length = s.1.length + s.2.1.length := by unfold keysN; rw [List.length_append, List.length_map]
  have hm : mcN s.2.2.1 s = !(bif s.2.2.1 then decide (0 < (keysN s.1 s.2.1).length) else s.2.2.2.1 == []) := by
    cases s.2.2.1
    · rfl
    · show ((s.1.length : Int) + (s.2.1.length : Int) == 0) = !decide (0 < (keysN s.1 s.2.1).length)
      rw [hk]
      by_cases h : s.1.length + s.2.1.length = 0
      · rw [decide_eq_false (show ¬ 0 < s.1.length + s.2.1.length by omega), beq_iff_eq.2 (show (s.1.length : Int) + (s.2.1.length : Int) = 0 by omega)]; rfl
      · rw [decide_eq_true (show 0 < s.1.length + s.2.1.length by omega), beq_eq_false_iff_ne.2 (show (s.1.length : Int) + (s.2.1.length : Int) ≠ 0 by omega)]; rfl
  subst hy
  unfold begRM
  rw [hm, gdT (inK_i64.2 ⟨by omega, by omega⟩), xG]
  have hin : (bif decide ((s.1.length : Int) + (s.2.1.length : Int) > 20) then bO false else bif !(bif s.2.2.1 then decide (0 < (keysN s.1 s.2.1).length) else s.2.2.2.1 == []) then bO false else some (c, ())) = some (decide ((keysN s.1 s.2.1).length ≤ 20) && ((bif s.2.2.1 then decide (0 < (keysN s.1 s.2.1).length) else s.2.2.2.1 == []) && c), ()) := by
    generalize (bif s.2.2.1 then decide (0 < (keysN s.1 s.2.1).length) else s.2.2.2.1 == []) = q
    rw [hk]
    by_cases h : s.1.length + s.2.1.length ≤ 20
    · rw [cdF (by omega), decide_eq_true h]; cases q <;> rfl
    · rw [cdT (by omega), decide_eq_false h]; rfl
  rw [hin]
  by_cases h1 : 0 < s.1.length
  · rw [cdT (by omega), decide_eq_true h1]
    by_cases h2 : 0 < s.2.1.length
    · rw [cdT (by omega), decide_eq_true h2]; rfl
    · rw [cdF (by omega), decide_eq_false h2]; rfl
  · rw [cdF (by omega), decide_eq_false h1]; rfl
end Nice
namespace Go.Proofs.YtnblkjapeiaedaaGreatDoor
open Go Go.Eng Nice Go.RowKit
set_option maxRecDepth 1000000
abbrev shrm : List (Nat × List (Nat × Sh)) := [(6, [(1, (.obj [(.dat .str), (.dat EntT), .sym, .sym])), (2, (.one .sym)), (4, (.one .sym)), (5, (.one .sym))]), (12, [(1, (.obj [(.dat .str), (.dat EntT), .sym, .sym])), (2, (.one .sym)), (4, (.one .sym)), (6, (.one .sym))])]
noncomputable def hrm0 (N : Nat) (n : List (List UInt8)) (l : List EntD) (b : Bool) (x t : List UInt8) (i : Int) : BO := rH Tryz.prog (envS [(52, isKeyS), (53, entS)]) (shOf shrm) Tryz.f29 [.bool] N 0 [(1, .pointer (some ⟨12, 0, none⟩)), (2, .bool false), (4, sy (.string (bs t))), (5, sy (.int .i64 i))] [.dat .str n, .dat EntT l, .row [dt 10, dt 11, .bool b, sy (.string (bs x))] 44 false]
noncomputable def hrm1 (N : Nat) (n : List (List UInt8)) (l : List EntD) (b : Bool) (x t : List UInt8) (i : Int) : BO := rH Tryz.prog (envS [(52, isKeyS), (53, entS)]) (shOf shrm) Tryz.f29 [.bool] N 1 [(1, .pointer (some ⟨12, 0, none⟩)), (2, .bool false), (4, sy (.string (bs t))), (6, sy (.int .i64 i))] [.dat .str n, .dat EntT l, .row [dt 10, dt 11, .bool b, sy (.string (bs x))] 44 false]
noncomputable def orm (x : DenL [ShT]) : BO := fO Tryz.prog (envS [(52, isKeyS), (53, entS)]) (shOf shrm) Tryz.f29 [ShT] [.bool] x
theorem orm_g (x : DenL [ShT]) : orm x = fON Tryz.prog (envS [(52, isKeyS), (53, entS)]) (shOf shrm) Tryz.f29 [ShT] [.bool] heads0 x := rfl
theorem ermT_g (N : Nat) (n : List (List UInt8)) (l : List EntD) (x : List UInt8) : fON Tryz.prog (envS [(52, isKeyS), (53, entS)]) (shOf shrm) Tryz.f29 [ShT] [.bool] N ((n, l, true, x, ()), ()) = begRM true (n, l, true, x, ()) (hrm0 N n l true x [] 0) := by kernel_rfl
theorem ermF_g (N : Nat) (n : List (List UInt8)) (l : List EntD) (x : List UInt8) : fON Tryz.prog (envS [(52, isKeyS), (53, entS)]) (shOf shrm) Tryz.f29 [ShT] [.bool] N ((n, l, false, x, ()), ()) = begRM false (n, l, false, x, ()) (hrm0 N n l false x [] 0) := by kernel_rfl
theorem erm0T (N : Nat) (n : List (List UInt8)) (l : List EntD) (x t : List UInt8) (i : Int) : hrm0 (N + 1) n l true x t i = stepR0 n t i (hrm0 N n l true x (n.getD i.toNat Ty.str.dflt) (i + 1)) (hrm1 N n l true x t 0) := by kernel_rfl
theorem erm0F (N : Nat) (n : List (List UInt8)) (l : List EntD) (x t : List UInt8) (i : Int) : hrm0 (N + 1) n l false x t i = stepR0 n t i (hrm0 N n l false x (n.getD i.toNat Ty.str.dflt) (i + 1)) (hrm1 N n l false x t 0) := by kernel_rfl
theorem erm1T (N : Nat) (n : List (List UInt8)) (l : List EntD) (x t : List UInt8) (i : Int) : hrm1 (N + 1) n l true x t i = stepR1 l t i (hrm1 N n l true x (l.getD i.toNat (EntT).dflt).1 (i + 1)) (exR true x t) := by kernel_rfl
theorem erm1F (N : Nat) (n : List (List UInt8)) (l : List EntD) (x t : List UInt8) (i : Int) : hrm1 (N + 1) n l false x t i = stepR1 l t i (hrm1 N n l false x (l.getD i.toNat (EntT).dflt).1 (i + 1)) (exR false x t) := by kernel_rfl
theorem erm0 (N : Nat) (n : List (List UInt8)) (l : List EntD) (b : Bool) (x t : List UInt8) (i : Int) : hrm0 (N + 1) n l b x t i = stepR0 n t i (hrm0 N n l b x (n.getD i.toNat Ty.str.dflt) (i + 1)) (hrm1 N n l b x t 0) := by
  cases b
  · exact erm0F N n l x t i
  · exact erm0T N n l x t i
theorem erm1 (N : Nat) (n : List (List UInt8)) (l : List EntD) (b : Bool) (x t : List UInt8) (i : Int) : hrm1 (N + 1) n l b x t i = stepR1 l t i (hrm1 N n l b x (l.getD i.toNat (EntT).dflt).1 (i + 1)) (exR b x t) := by
  cases b
  · exact erm1F N n l x t i
  · exact erm1T N n l x t i
theorem rm1_l (n : List (List UInt8)) (l : List EntD) (b : Bool) (x : List UInt8) (hl : l.length ≤ 1099511627776) (hp : ∀ e, e ∈ l → entP e = true) : ∀ (r i N : Nat) (t : List UInt8), l.length = i + r → r < N → hrm1 N n l b x t (i : Int) = some (riseE t (l.drop i) && exRb b x (lastK t ((l.drop i).map (·.1))), ()) := by
  intro r
  induction r with
  | zero =>
    intro i N t hi hN
    obtain ⟨N, rfl⟩ : ∃ m, N = m + 1 := ⟨N - 1, by omega⟩
    rw [erm1]
    unfold stepR1
    rw [cdF (by omega), List.drop_eq_nil_of_le (by omega), exR_n]; rfl
  | succ r ih =>
    intro i N t hi hN
    obtain ⟨N, rfl⟩ : ∃ m, N = m + 1 := ⟨N - 1, by omega⟩
    have hlt : i < l.length := by omega
    have hd : l.drop i = l.getD i (EntT).dflt :: l.drop (i + 1) := by
      rw [List.drop_eq_getElem_cons hlt, List.getD_eq_getElem?_getD, List.getElem?_eq_getElem hlt]; rfl
    have hh : entP (l.getD i (EntT).dflt) = true := hp _ (by
      rw [List.getD_eq_getElem?_getD, List.getElem?_eq_getElem hlt]; exact List.getElem_mem hlt)
    have this := ih (i + 1) N (l.getD i (EntT).dflt).1 (by omega) (by omega)
    simp only [Int.natCast_add, Int.natCast_one] at this
    have hi1 : inK .i64 ((i : Int) + 1) := inK_i64.2 ⟨by omega, by omega⟩
    have g1 : decide (i < l.length) = true := decide_eq_true hlt
    have g2 : decide ((0 : Int) ≤ (i : Int)) = true := decide_eq_true (by omega)
    have g3 : decide ((i : Int) < (l.length : Int)) = true := decide_eq_true (by omega)
    have hG : ∀ (q : List Bool) (y : BO), gd (gI l (i : Int) ++ q) y = gd q y := fun q y => by
      unfold gI
      rw [show (i : Int).toNat = i from rfl, List.cons_append, List.cons_append, List.cons_append, List.nil_append, gdB g1, gdB g2, gdB g3]
    have hG0 : ∀ (y : BO), gd (gI l (i : Int)) y = y := fun y => by have := hG [] y; rw [List.append_nil] at this; rw [this, xG]
    rw [erm1]
    unfold stepR1
    rw [cdT (by omega), show (i : Int).toNat = i from rfl, hd, riseE_cons, List.map_cons, this, less_not, show ((l.getD i (EntT).dflt).1, (l.getD i (EntT).dflt).2.1, ()) = l.getD i (EntT).dflt from rfl]
    cases entB (l.getD i (EntT).dflt)
    · rw [xF, gdB hh, hG0]; rfl
    · rw [xT, Bool.true_and]
      cases Op.bytesLess t (l.getD i (EntT).dflt).1
      · rw [Bool.not_false, xT, List.append_assoc, hG, List.singleton_append, gdB hh, hG0]; rfl
      · rw [Bool.not_true, xF, gdT hi1, List.append_assoc, List.append_assoc, hG, hG, List.singleton_append, gdB hh, hG0, Bool.true_and]; rfl
theorem rm0_l (n : List (List UInt8)) (l : List EntD) (b : Bool) (x : List UInt8) (hn : n.length ≤ 1099511627776) (hk : ∀ k, k ∈ n → bndS k = true) (hl : l.length ≤ 1099511627776) (hp : ∀ e, e ∈ l → entP e = true) : ∀ (r i N : Nat) (t : List UInt8), n.length = i + r → r + l.length + 2 < N → hrm0 N n l b x t (i : Int) = some (riseK t (n.drop i) && (riseE (lastK t (n.drop i)) l && exRb b x (lastK (lastK t (n.drop i)) (l.map (·.1)))), ()) := by
  intro r
  induction r with
  | zero =>
    intro i N t hi hN
    obtain ⟨N, rfl⟩ : ∃ m, N = m + 1 := ⟨N - 1, by omega⟩
    have := rm1_l n l b x hl hp l.length 0 N t (by omega) (by omega)
    rw [erm0]
    unfold stepR0
    rw [cdF (by omega), List.drop_eq_nil_of_le (by omega)]
    exact this
  | succ r ih =>
    intro i N t hi hN
    obtain ⟨N, rfl⟩ : ∃ m, N = m + 1 := ⟨N - 1, by omega⟩
    have hlt : i < n.length := by omega
    have hd : n.drop i = n.getD i [] :: n.drop (i + 1) := by
      rw [List.drop_eq_getElem_cons hlt, List.getD_eq_getElem?_getD, List.getElem?_eq_getElem hlt]; rfl
    have hh : bndS (n.getD i []) = true := hk _ (by
      rw [List.getD_eq_getElem?_getD, List.getElem?_eq_getElem hlt]; exact List.getElem_mem hlt)
    have this := ih (i + 1) N (n.getD i []) (by omega) (by omega)
    simp only [Int.natCast_add, Int.natCast_one] at this
    have hi1 : inK .i64 ((i : Int) + 1) := inK_i64.2 ⟨by omega, by omega⟩
    have g1 : decide (i < n.length) = true := decide_eq_true hlt
    have g2 : decide ((0 : Int) ≤ (i : Int)) = true := decide_eq_true (by omega)
    have g3 : decide ((i : Int) < (n.length : Int)) = true := decide_eq_true (by omega)
    have hG : ∀ (q : List Bool) (y : BO), gd (gI n (i : Int) ++ q) y = gd q y := fun q y => by
      unfold gI
      rw [show (i : Int).toNat = i from rfl, List.cons_append, List.cons_append, List.cons_append, List.nil_append, gdB g1, gdB g2, gdB g3]
    have hG0 : ∀ (y : BO), gd (gI n (i : Int)) y = y := fun y => by have := hG [] y; rw [List.append_nil] at this; rw [this, xG]
    rw [erm0]
    unfold stepR0
    rw [cdT (by omega), show (i : Int).toNat = i from rfl, show n.getD i Ty.str.dflt = n.getD i [] from rfl, hd, riseK_cons, this, less_not]
    cases isKey (n.getD i [])
    · rw [xF, gdB hh, hG0]; rfl
    · rw [xT, Bool.true_and]
      cases Op.bytesLess t (n.getD i [])
      · rw [Bool.not_false, xT, List.append_assoc, hG, List.singleton_append, gdB hh, hG0]; rfl
      · rw [Bool.not_true, xF, gdT hi1, List.append_assoc, List.append_assoc, hG, hG, List.singleton_append, gdB hh, hG0, Bool.true_and]; rfl
theorem rm_n {n : List (List UInt8)} {l : List EntD} {b : Bool} {x : List UInt8} (h : smayP (n, l, b, x, ()) = true) : begRM b (n, l, b, x, ()) (hrm0 heads0 n l b x [] 0) = some (smayN (n, l, b, x, ()), ()) := by
  obtain ⟨h1, h2, h3⟩ := smayP_iff.1 h
  have h4 := entsP_iff.1 h3
  have h1 : n.length ≤ 1099511627776 := h1
  have h5 : l.length ≤ 1099511627776 := h4.1
  have := rm0_l n l b x h1 h2 h5 h4.2 n.length 0 heads0 [] (by omega) (by unfold heads0; omega)
  rw [List.drop_zero] at this
  refine (begRM_n (s := (n, l, b, x, ())) h1 h5 this).trans ?_
  unfold smayN exRb
  dsimp only
  rw [show keysN n l = n ++ l.map (·.1) from rfl, riseK_app, lastK_app, riseE_eq]
  exact congrArg (fun q => some (q, ())) (algM _ _ _ _ _ _ _ _ _)
theorem rsmay_c : PC 29 smayS := (pureO (sh := shOf shrm) (envS_ok (l := [(52, isKeyS), (53, entS)]) ⟨rKey_c, rme_c, trivial⟩) gl_ne Tryz.func29 (by kernel_rfl) (by decide)).nice fun ⟨⟨n, l, b, x, ()⟩, ()⟩ h => by
  show orm _ = some (smayN (n, l, b, x, ()), ())
  rw [orm_g]
  cases b
  · rw [ermF_g]; exact rm_n h
  · rw [ermT_g]; exact rm_n h
end Go.Proofs.YtnblkjapeiaedaaGreatDoor

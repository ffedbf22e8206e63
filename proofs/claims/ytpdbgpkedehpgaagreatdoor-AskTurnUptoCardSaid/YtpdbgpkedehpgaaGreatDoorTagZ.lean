/-
  Marks of texts as the document says: what they compute, and the contracts. No condition.
-/
import Derived.Test.YtpdbgpkedehpgaaGreatDoorA5
namespace Nice
open Go Go.Eng
abbrev ZW : Type := Int × Int × Unit
def modN (n : Int) : Int := bif decide (n.tmod 65521 < 0) then n.tmod 65521 + 65521 else n.tmod 65521
def zB (z : ZW) : Bool := decide (0 ≤ z.1 ∧ z.1 ≤ 70000 ∧ 0 ≤ z.2.1 ∧ z.2.1 ≤ 70000)
def zaddN (a b : ZW) : ZW := (modN (a.1 + b.1), modN (a.2.1 + b.2.1), ())
def zmulN (a b : ZW) : ZW := (modN (a.1 * b.1 - a.2.1 * b.2.1), modN (a.1 * b.2.1 + a.2.1 * b.1), ())
def onN (z : ZW) (s : List UInt8) : ZW := s.foldl (fun z c => zaddN (zmulN z (3, 5, ())) ((c.toNat : Int) + 1, 0, ())) z
def hexW : List UInt8 := [48, 49, 50, 51, 52, 53, 54, 55, 56, 57, 97, 98, 99, 100, 101, 102]
def hexD (n : Int) : UInt8 := UInt8.ofNat ((hexW.getD n.toNat 0).toNat : Int).toNat
def fourN (n : Int) : List UInt8 := [hexD ((n.tdiv 4096).tmod 16), hexD ((n.tdiv 256).tmod 16), hexD ((n.tdiv 16).tmod 16), hexD (n.tmod 16)]
def fourP (n : Int) : Bool := decide (0 ≤ n ∧ n ≤ 70000)
def textN (z : ZW) : List UInt8 := fourN z.1 ++ fourN z.2.1
def markN (s : List UInt8) : ZW := onN (0, 1, ()) s
def tagN (s : List UInt8) : List UInt8 := textN (markN s)
abbrev ZT2 : Ty := .pair (.int .i64) (.pair (.int .i64) .unit)
noncomputable def modS : PSpec := ⟨[.int .i64], [.int .i64], fun _ => true, fun x => (modN x.1, ())⟩
noncomputable def zaddS : PSpec := ⟨[ZT2, ZT2], [ZT2], fun x => zB x.1 && zB x.2.1, fun x => (zaddN x.1 x.2.1, ())⟩
noncomputable def zmulS : PSpec := ⟨[ZT2, ZT2], [ZT2], fun x => zB x.1 && zB x.2.1, fun x => (zmulN x.1 x.2.1, ())⟩
noncomputable def onS : PSpec := ⟨[ZT2, .str], [ZT2], fun x => zB x.1 && bndS x.2.1, fun x => (onN x.1 x.2.1, ())⟩
noncomputable def fourS : PSpec := ⟨[.int .i64], [.str], fun x => fourP x.1, fun x => (fourN x.1, ())⟩
noncomputable def textS : PSpec := ⟨[ZT2], [.str], fun x => zB x.1, fun x => (textN x.1, ())⟩
noncomputable def markS : PSpec := ⟨[.str], [ZT2], fun x => bndS x.1, fun x => (markN x.1, ())⟩
noncomputable def tagS : PSpec := ⟨[.str], [.str], fun x => bndS x.1, fun x => (tagN x.1, ())⟩
theorem tmod_b (n : Int) : -65521 < n.tmod 65521 ∧ n.tmod 65521 < 65521 := by
  rcases Int.le_total 0 n with h | h
  · rw [Int.tmod_eq_emod_of_nonneg h]; omega
  · obtain ⟨u, rfl⟩ : ∃ u, n = -u := ⟨-n, by omega⟩
    rw [Int.neg_tmod, Int.tmod_eq_emod_of_nonneg (by omega)]; omega
theorem modN_b (n : Int) : 0 ≤ modN n ∧ modN n < 65521 := by
  have := tmod_b n
  unfold modN
  by_cases h : n.tmod 65521 < 0
  · rw [cdT h]; omega
  · rw [cdF h]; omega
theorem zB_iff {z : ZW} : zB z = true ↔ (0 ≤ z.1 ∧ z.1 ≤ 70000 ∧ 0 ≤ z.2.1 ∧ z.2.1 ≤ 70000) := decide_eq_true_iff
theorem zadd_b (a b : ZW) : zB (zaddN a b) = true := by
  have h1 := modN_b (a.1 + b.1)
  have h2 := modN_b (a.2.1 + b.2.1)
  exact zB_iff.2 ⟨h1.1, by show modN _ ≤ _; omega, h2.1, by show modN _ ≤ _; omega⟩
theorem zmul_b (a b : ZW) : zB (zmulN a b) = true := by
  have h1 := modN_b (a.1 * b.1 - a.2.1 * b.2.1)
  have h2 := modN_b (a.1 * b.2.1 + a.2.1 * b.1)
  exact zB_iff.2 ⟨h1.1, by show modN _ ≤ _; omega, h2.1, by show modN _ ≤ _; omega⟩
theorem on_b : ∀ (s : List UInt8) (z : ZW), zB z = true → zB (onN z s) = true
  | [], _, h => h
  | c :: s, z, _ => on_b s _ (zadd_b _ _)
theorem tagN_len (s : List UInt8) : (tagN s).length = 8 := rfl
theorem mul_bd {a b : Int} (h1 : 0 ≤ a) (h2 : a ≤ 70000) (h3 : 0 ≤ b) (h4 : b ≤ 70000) : 0 ≤ a * b ∧ a * b ≤ 4900000000 :=
  ⟨Int.mul_nonneg h1 h3, by
    have := Int.mul_le_mul h2 h4 h3 (by omega)
    omega⟩
theorem tdiv_bd {n k : Int} (h0 : 0 ≤ n) (h1 : n ≤ 70000) (hk : 1 ≤ k) : 0 ≤ n.tdiv k ∧ n.tdiv k ≤ 70000 := by
  rw [Int.tdiv_eq_ediv_of_nonneg h0]
  exact ⟨Int.ediv_nonneg h0 (by omega), Int.le_trans (Int.ediv_le_self k h0) h1⟩
theorem tmod16 {n : Int} (h0 : 0 ≤ n) : 0 ≤ n.tmod 16 ∧ n.tmod 16 < 16 := by
  rw [Int.tmod_eq_emod_of_nonneg h0]; omega
end Nice
namespace Go.Proofs.YtpdbgpkedehpgaaGreatDoor
open Go Go.Eng Nice
set_option maxRecDepth 1000000
noncomputable def omod (x : DenL [.int .i64]) : Option (DenL [.int .i64]) := fO Tryz.prog (envS []) (shOf []) Tryz.f188 [.int .i64] [.int .i64] x
theorem emod (n : Int) : omod (n, ()) = (bif decide (n.tmod 65521 < 0) then gd [decide (inK .i64 (n.tmod 65521 + 65521))] (some (n.tmod 65521 + 65521, ())) else some (n.tmod 65521, ())) := by kernel_rfl
theorem mod_c : PC 188 modS := (pureO (envS_ok (l := []) trivial) gl_ne Tryz.func188 (by kernel_rfl) (by decide)).nice fun ⟨n, ()⟩ _ => by
  have := tmod_b n
  show omod _ = some (modN n, ())
  rw [emod]
  unfold modN
  by_cases h : n.tmod 65521 < 0
  · rw [cdT h, cdT h, gdT (inK_i64.2 ⟨by omega, by omega⟩), gd_nil]
  · rw [cdF h, cdF h]
noncomputable def ozadd (x : DenL [ZT2, ZT2]) : Option (DenL [ZT2]) := fO Tryz.prog (envS [(188, modS)]) (shOf []) Tryz.f120 [ZT2, ZT2] [ZT2] x
theorem ezadd (a b c d : Int) : ozadd ((a, b, ()), (c, d, ()), ()) = gd [decide (inK .i64 (b + d)), decide (inK .i64 (a + c))] (some ((modN (a + c), modN (b + d), ()), ())) := by kernel_rfl
theorem zadd_c : PC 120 zaddS := (pureO (envS_ok (l := [(188, modS)]) ⟨mod_c, trivial⟩) gl_ne Tryz.func120 (by kernel_rfl) (by decide)).nice fun ⟨⟨a, b, ()⟩, ⟨c, d, ()⟩, ()⟩ h => by
  have h : (zB (a, b, ()) && zB (c, d, ())) = true := h
  rw [Bool.and_eq_true, zB_iff, zB_iff] at h
  obtain ⟨⟨h1, h2, h3, h4⟩, h5, h6, h7, h8⟩ := h
  dsimp only at h1 h2 h3 h4 h5 h6 h7 h8
  show ozadd _ = _
  rw [ezadd, gdT (inK_i64.2 ⟨by omega, by omega⟩), gdT (inK_i64.2 ⟨by omega, by omega⟩), gd_nil]; rfl
noncomputable def ozmul (x : DenL [ZT2, ZT2]) : Option (DenL [ZT2]) := fO Tryz.prog (envS [(188, modS)]) (shOf []) Tryz.f121 [ZT2, ZT2] [ZT2] x
theorem ezmul (a b c d : Int) : ozmul ((a, b, ()), (c, d, ()), ()) = gd [decide (inK .i64 (a * d + b * c)), decide (inK .i64 (b * c)), decide (inK .i64 (a * d)), decide (inK .i64 (a * c - b * d)), decide (inK .i64 (b * d)), decide (inK .i64 (a * c))] (some ((modN (a * c - b * d), modN (a * d + b * c), ()), ())) := by kernel_rfl
theorem zmul_c : PC 121 zmulS := (pureO (envS_ok (l := [(188, modS)]) ⟨mod_c, trivial⟩) gl_ne Tryz.func121 (by kernel_rfl) (by decide)).nice fun ⟨⟨a, b, ()⟩, ⟨c, d, ()⟩, ()⟩ h => by
  have h : (zB (a, b, ()) && zB (c, d, ())) = true := h
  rw [Bool.and_eq_true, zB_iff, zB_iff] at h
  obtain ⟨⟨h1, h2, h3, h4⟩, h5, h6, h7, h8⟩ := h
  dsimp only at h1 h2 h3 h4 h5 h6 h7 h8
  obtain ⟨m1, m2⟩ := mul_bd h1 h2 h5 h6
  obtain ⟨m3, m4⟩ := mul_bd h3 h4 h7 h8
  obtain ⟨m5, m6⟩ := mul_bd h1 h2 h7 h8
  obtain ⟨m7, m8⟩ := mul_bd h3 h4 h5 h6
  show ozmul _ = _
  rw [ezmul, gdT (inK_i64.2 ⟨by omega, by omega⟩), gdT (inK_i64.2 ⟨by omega, by omega⟩), gdT (inK_i64.2 ⟨by omega, by omega⟩), gdT (inK_i64.2 ⟨by omega, by omega⟩), gdT (inK_i64.2 ⟨by omega, by omega⟩), gdT (inK_i64.2 ⟨by omega, by omega⟩), gd_nil]; rfl
abbrev shon : List (Nat × List (Nat × Sh)) := [(2, [(1, (.one .sym)), (2, (.obj [.sym, .sym])), (4, (.obj [.sym, .sym])), (5, (.one .sym))])]
noncomputable def hon_0 (n : Nat) (t1 : List UInt8) (t2_0 : Int) (t2_1 : Int) (t4_0 : Int) (t4_1 : Int) (t5 : Int) : Option (DenL [ZT2]) := rH Tryz.prog (envS [(120, zaddS), (121, zmulS)]) (shOf shon) Tryz.f85 [ZT2] n 0 [(1, sy (.string (bs t1))), (2, .pointer (some ⟨9, 0, none⟩)), (4, .pointer (some ⟨10, 0, none⟩)), (5, sy (.int .i64 t5))] [.row [sy (.int .i64 t2_0), sy (.int .i64 t2_1)] 93 false, .row [sy (.int .i64 t4_0), sy (.int .i64 t4_1)] 93 false]
noncomputable def oon (x : DenL [ZT2, .str]) : Option (DenL [ZT2]) := fO Tryz.prog (envS [(120, zaddS), (121, zmulS)]) (shOf shon) Tryz.f85 [ZT2, .str] [ZT2] x
theorem eon_g (a b : Int) (s : List UInt8) : ∀ N : Nat, fON Tryz.prog (envS [(120, zaddS), (121, zmulS)]) (shOf shon) Tryz.f85 [ZT2, .str] [ZT2] N ((a, b, ()), s, ()) = hon_0 N s a b 0 0 0 := fun N => by kernel_rfl
theorem oon_g (x : DenL [ZT2, .str]) : oon x = fON Tryz.prog (envS [(120, zaddS), (121, zmulS)]) (shOf shon) Tryz.f85 [ZT2, .str] [ZT2] heads0 x := rfl
def onStep (a b : Int) (c : UInt8) : ZW := zaddN (zmulN (a, b, ()) (3, 5, ())) ((c.toNat : Int) + 1, 0, ())
theorem eon_0 (n : Nat) (t1 : List UInt8) (a b c d i : Int) : hon_0 (n + 1) t1 a b c d i =
  (bif decide (i < (t1.length : Int)) then gd [decide (inK .i64 (i + 1)), zB (zmulN (a, b, ()) (3, 5, ())) && zB (((t1.getD i.toNat 0).toNat : Int) + 1, 0, ()), decide (inK .i64 (((t1.getD i.toNat 0).toNat : Int) + 1)), decide (inK .i64 ((t1.getD i.toNat 0).toNat : Int)), decide (0 ≤ i), decide (i < (t1.length : Int)), zB (a, b, ()) && zB (3, 5, ())]
    (hon_0 n t1 (onStep a b (t1.getD i.toNat 0)).1 (onStep a b (t1.getD i.toNat 0)).2.1 c d (i + 1)) else some ((a, b, ()), ())) := by kernel_rfl
theorem on_l (s : List UInt8) (hs : s.length ≤ 140737488355328) : ∀ (r i n : Nat) (a b c d : Int), s.length = i + r → r < n → zB (a, b, ()) = true → hon_0 n s a b c d (i : Int) = some (onN (a, b, ()) (s.drop i), ()) := by
  intro r
  induction r with
  | zero =>
    intro i n a b c d hi hn hz
    obtain ⟨n, rfl⟩ : ∃ k, n = k + 1 := ⟨n - 1, by omega⟩
    rw [eon_0, cdF (by omega), List.drop_eq_nil_of_le (by omega)]; rfl
  | succ r ih =>
    intro i n a b c d hi hn hz
    obtain ⟨n, rfl⟩ : ∃ k, n = k + 1 := ⟨n - 1, by omega⟩
    have hl : i < s.length := by omega
    have hb : ((s.getD i 0).toNat : Int) ≤ 255 := by have := (s.getD i 0).toNat_lt; omega
    have hb0 : (0 : Int) ≤ ((s.getD i 0).toNat : Int) := by omega
    have hd : s.drop i = s.getD i 0 :: s.drop (i + 1) := by
      rw [List.drop_eq_getElem_cons hl, List.getD_eq_getElem?_getD, List.getElem?_eq_getElem hl]; rfl
    have hst := zadd_b (zmulN (a, b, ()) (3, 5, ())) (((s.getD i 0).toNat : Int) + 1, 0, ())
    have hz2 : zB (((s.getD i 0).toNat : Int) + 1, 0, ()) = true := zB_iff.2 ⟨by show (0 : Int) ≤ _ + 1; omega, by show _ + (1 : Int) ≤ _; omega, Int.le_refl 0, (by decide : (0 : Int) ≤ 70000)⟩
    have key := ih (i + 1) n (onStep a b (s.getD i 0)).1 (onStep a b (s.getD i 0)).2.1 c d (by omega) (by omega) hst
    rw [eon_0, cdT (by omega), show (i : Int).toNat = i from rfl, gdT (inK_i64.2 ⟨by omega, by omega⟩), gdB (by rw [zmul_b, hz2]; rfl), gdT (inK_i64.2 ⟨by omega, by omega⟩), gdT (inK_i64.2 ⟨by omega, by omega⟩), gdT (by omega), gdT (by omega), gdB (by rw [hz]; rfl), gd_nil]
    simp only [Int.natCast_add, Int.natCast_one] at key
    rw [key, hd]; rfl
theorem on_c : PC 85 onS := (pureO (sh := shOf shon) (envS_ok (l := [(120, zaddS), (121, zmulS)]) ⟨zadd_c, zmul_c, trivial⟩) gl_ne Tryz.func85 (by kernel_rfl) (by decide)).nice fun ⟨⟨a, b, ()⟩, s, ()⟩ h => by
  have h : (zB (a, b, ()) && bndS s) = true := h
  rw [Bool.and_eq_true] at h
  have hs : s.length ≤ 140737488355328 := of_decide_eq_true h.2
  show oon _ = _
  rw [oon_g, eon_g]
  exact on_l s hs s.length 0 heads0 a b 0 0 (by omega) (by unfold heads0; omega) h.1
noncomputable def ofour (x : DenL [.int .i64]) : Option (DenL [.str]) := fO Tryz.prog (envS []) (shOf []) Tryz.f84 [.int .i64] [.str] x
theorem efour (n : Int) : ofour (n, ()) = gd [decide (0 ≤ n.tmod 16), decide (n.tmod 16 < 16), decide (0 ≤ (n.tdiv 16).tmod 16), decide ((n.tdiv 16).tmod 16 < 16), decide (inK .i64 (n.tdiv 16)), decide (0 ≤ (n.tdiv 256).tmod 16), decide ((n.tdiv 256).tmod 16 < 16), decide (inK .i64 (n.tdiv 256)), decide (0 ≤ (n.tdiv 4096).tmod 16), decide ((n.tdiv 4096).tmod 16 < 16), decide (inK .i64 (n.tdiv 4096))] (some (fourN n, ())) := by kernel_rfl
theorem four_c : PC 84 fourS := (pureO (envS_ok (l := []) trivial) gl_ne Tryz.func84 (by kernel_rfl) (by decide)).nice fun ⟨n, ()⟩ h => by
  obtain ⟨h0, h1⟩ : 0 ≤ n ∧ n ≤ 70000 := of_decide_eq_true h
  obtain ⟨a1, a2⟩ := tdiv_bd h0 h1 (by decide : (1 : Int) ≤ 16)
  obtain ⟨b1, b2⟩ := tdiv_bd h0 h1 (by decide : (1 : Int) ≤ 256)
  obtain ⟨c1, c2⟩ := tdiv_bd h0 h1 (by decide : (1 : Int) ≤ 4096)
  have m0 := tmod16 h0
  have m1 := tmod16 a1
  have m2 := tmod16 b1
  have m3 := tmod16 c1
  show ofour _ = _
  rw [efour, gdT m0.1, gdT m0.2, gdT m1.1, gdT m1.2, gdT (inK_i64.2 ⟨by omega, by omega⟩), gdT m2.1, gdT m2.2, gdT (inK_i64.2 ⟨by omega, by omega⟩), gdT m3.1, gdT m3.2, gdT (inK_i64.2 ⟨by omega, by omega⟩), gd_nil]
noncomputable def otext (x : DenL [ZT2]) : Option (DenL [.str]) := fO Tryz.prog (envS [(84, fourS)]) (shOf []) Tryz.f57 [ZT2] [.str] x
theorem etext (a b : Int) : otext ((a, b, ()), ()) = gd [decide ((fourN a).length + (fourN b).length ≤ 1099511627776), fourP b, fourP a] (some (fourN a ++ fourN b, ())) := by kernel_rfl
theorem text_c : PC 57 textS := (pureO (envS_ok (l := [(84, fourS)]) ⟨four_c, trivial⟩) gl_ne Tryz.func57 (by kernel_rfl) (by decide)).nice fun ⟨⟨a, b, ()⟩, ()⟩ h => by
  obtain ⟨h1, h2, h3, h4⟩ := zB_iff.1 h
  show otext _ = _
  rw [etext, gdT (show (fourN a).length + (fourN b).length ≤ 1099511627776 from (by decide : 4 + 4 ≤ 1099511627776)), gdB (show fourP b = true from decide_eq_true ⟨h3, h4⟩), gdB (show fourP a = true from decide_eq_true ⟨h1, h2⟩), gd_nil]; rfl
noncomputable def omark (x : DenL [.str]) : Option (DenL [ZT2]) := fO Tryz.prog (envS [(85, onS)]) (shOf []) Tryz.f58 [.str] [ZT2] x
theorem emark (s : List UInt8) : omark (s, ()) = gd [zB (0, 1, ()) && bndS s] (some (onN (0, 1, ()) s, ())) := by kernel_rfl
theorem mark_c : PC 58 markS := (pureO (envS_ok (l := [(85, onS)]) ⟨on_c, trivial⟩) gl_ne Tryz.func58 (by kernel_rfl) (by decide)).nice fun ⟨s, ()⟩ h => by
  have h : bndS s = true := h
  show omark _ = _
  rw [emark, gdB (by rw [h]; rfl), gd_nil]; rfl
noncomputable def otag (x : DenL [.str]) : Option (DenL [.str]) := fO Tryz.prog (envS [(57, textS), (58, markS)]) (shOf []) Tryz.f40 [.str] [.str] x
theorem etag (s : List UInt8) : otag (s, ()) = gd [zB (markN s), bndS s] (some (tagN s, ())) := by kernel_rfl
theorem tag_c : PC 40 tagS := (pureO (envS_ok (l := [(57, textS), (58, markS)]) ⟨text_c, mark_c, trivial⟩) gl_ne Tryz.func40 (by kernel_rfl) (by decide)).nice fun ⟨s, ()⟩ h => by
  have h : bndS s = true := h
  show otag _ = _
  rw [etag, gdB (show zB (markN s) = true from on_b s _ (by decide)), gdB h, gd_nil]
end Go.Proofs.YtpdbgpkedehpgaaGreatDoor

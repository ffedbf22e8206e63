/-
  Part of the proof: LS2 LS3 LS4 LS5. No condition.
-/
import Derived.Test.YtpdbgpkedehpgaaGreatDoorLS1
import Derived.Test.YtpdbgpkedehpgaaGreatDoorM1
import Derived.Test.YtpdbgpkedehpgaaGreatDoorQR
namespace Go.Proofs.YtpdbgpkedehpgaaGreatDoor
open Go Go.Eng Nice
set_option maxRecDepth 1000000
theorem value_le : ∀ (l : List HeadD) (n : List UInt8), (∀ h, h ∈ l → h.2.1.length ≤ 1099511627776) → (valueN l n).1.length ≤ 1099511627776
  | [], _, _ => by simp [valueN]
  | h :: r, n, ha => by
    simp only [valueN]
    cases lower h.1 == lower n
    · exact value_le r n fun x hx => ha x (List.mem_cons_of_mem _ hx)
    · exact ha h (List.mem_cons_self ..)
theorem scanLenP_ok {hs : List HeadD} (h1 : hs.length ≤ 1000000) (h2 : ∀ h, h ∈ hs → h.1.length ≤ 1099511627776 ∧ h.2.1.length ≤ 1099511627776) : scanLenP hs = true := by
  unfold scanLenP valueP
  have := value_le hs clen fun h hh => (h2 h hh).2
  have a1 : hs.all (fun h => lowerP h.1) = true := List.all_eq_true.2 fun h hh => decide_eq_true (by have := (h2 h hh).1; omega)
  rw [a1, decide_eq_true (show hs.length ≤ 140737488355328 by omega), show lowerP clen = true by decide]
  exact decide_eq_true (by omega)
def hdO (st su li at' : Int) (tx m p q : List UInt8) (hs : List HeadD) (b : List UInt8) (le : Int) (ou : List ReqD) (r : Option Nat) : ScanD × Int × Unit :=
  match r with
  | none => ((st, su, li, at', tx, (m, p, q, hs, b, ()), le, ou, ()), 400, ())
  | some k =>
    if 1 < k then ((st, su, li, at', tx, (m, p, q, hs, b, ()), le, ou, ()), 400, ())
    else if scanLen hs > 300 then ((st, su, li, at', tx, (m, p, q, hs, b, ()), scanLen hs, ou, ()), 413, ())
    else if scanLen hs = 0 then ((0, su, li, at', tx, ([], [], [], [], [], ()), scanLen hs, ou ++ [(m, p, q, hs, b, ())], ()), 0, ())
    else ((9, su, li, at', tx, (m, p, q, hs, b, ()), scanLen hs, ou, ()), 0, ())
theorem heads_l (st su li at' : Int) (tx m p q : List UInt8) (hs : List HeadD) (b : List UInt8) (le : Int) (ou : List ReqD) (t2 : Int) (h1 : hs.length ≤ 1000000) (h2 : ∀ h, h ∈ hs → h.1.length ≤ 1099511627776 ∧ h.2.1.length ≤ 1099511627776) (h3 : ou.length ≤ 1099511627776) :
    ∀ (rest done : List HeadD) (n k : Nat), hs = done ++ rest → k ≤ done.length → rest.length < n → hheads_0 n st su li at' tx m p q hs b le ou t2 (k : Int) (hs.length : Int) (done.length : Int) = some (hdO st su li at' tx m p q hs b le ou (mHeads rest k)) := by
  intro rest
  induction rest with
  | nil =>
    intro done n k he hk hn
    obtain ⟨n, rfl⟩ : ∃ m, n = m + 1 := ⟨n - 1, by omega⟩
    have hl : hs.length = done.length := by rw [he, List.append_nil]
    rw [eheads_0, cdF (by omega)]
    simp only [mHeads, hdO]
    by_cases g1 : 1 < k
    · rw [cdT (by omega), if_pos g1]
    · rw [cdF (by omega), if_neg g1, gdB (scanLenP_ok h1 h2), gd_nil]
      by_cases g2 : scanLen hs > 300
      · rw [cdT g2, if_pos g2]
      · rw [cdF g2, if_neg g2]
        by_cases g3 : scanLen hs = 0
        · rw [ceT g3, if_pos g3, gdT (by omega), gd_nil]
        · rw [ceF g3, if_neg g3]
  | cons h rest ihr =>
    intro done n k he hk hn
    obtain ⟨n, rfl⟩ : ∃ m, n = m + 1 := ⟨n - 1, by omega⟩
    simp only [List.length_cons] at hn
    have hl : hs.length = done.length + rest.length + 1 := by rw [he]; simp only [List.length_append, List.length_cons]; omega
    have hm : h ∈ hs := by rw [he]; simp
    obtain ⟨m1, m2⟩ := h2 h hm
    have hg : ∀ d : HeadD, hs.getD done.length d = h := fun d => by rw [he]; exact getD_mid _ _ _ _
    have ih := fun k' hk' => ihr (done ++ [h]) n k' (by rw [he, List.append_assoc]; rfl) (by simp only [List.length_append, List.length_singleton]; exact hk') (by omega)
    simp only [List.length_append, List.length_singleton, Int.natCast_add, Int.natCast_one] at ih
    have hp1 : lowerP h.1 = true := decide_eq_true (show h.1.length ≤ 140737488355328 by omega)
    have hp2 : atoiP h.2.1 = true := decide_eq_true (show h.2.1.length ≤ 140737488355328 by omega)
    rw [eheads_0, cdT (by omega)]
    simp only [Int.toNat_natCast, hg]
    rw [gdB hp1, gdT (by omega), gdT (by omega), gdT (by omega), gd_nil]
    simp only [mHeads]
    rw [show ([116, 114, 97, 110, 115, 102, 101, 114, 45, 101, 110, 99, 111, 100, 105, 110, 103] : List UInt8) = tenc from rfl, show ([99, 111, 110, 116, 101, 110, 116, 45, 108, 101, 110, 103, 116, 104] : List UInt8) = clen from rfl]
    cases g1 : lower h.1 == tenc
    · simp only [cF]
      cases g2 : lower h.1 == clen
      · simp only [cF]
        rw [gdT (inK_i64.2 ⟨by omega, by omega⟩), gd_nil]
        exact ih k (by omega)
      · simp only [cT]
        cases g3 : (scanNum h.2.1).2
        · simp only [cF]
          rw [gdB hp2, gd_nil]
          simp only [hdO]
        · simp only [cT]
          rw [gdT (inK_i64.2 ⟨by omega, by omega⟩), gdT (inK_i64.2 ⟨by omega, by omega⟩), gdB hp2, gd_nil]
          have := ih (k + 1) (by omega)
          rw [Int.natCast_add, Int.natCast_one] at this
          exact this
    · simp only [cT, hdO]
theorem heads_n (su li at' : Int) (tx m p q : List UInt8) (hs : List HeadD) (b : List UInt8) (le : Int) (ou : List ReqD) (h1 : hs.length ≤ 1000000) (h2 : ∀ h, h ∈ hs → h.1.length ≤ 1099511627776 ∧ h.2.1.length ≤ 1099511627776) (h3 : ou.length ≤ 1099511627776) :
    oheads (8, su, li, at', tx, (m, p, q, hs, b, ()), le, ou, ()) () = some ((Nice.hdN su li at' tx m p q hs b le ou).1, (Nice.hdN su li at' tx m p q hs b le ou).2, ()) := by
  rw [oheads_g, eheads_g]
  have := heads_l 8 su li at' tx m p q hs b le ou 0 h1 h2 h3 hs [] heads0 0 rfl (Nat.le_refl _) (by unfold heads0; omega)
  simp only [List.length_nil, Int.natCast_zero] at this
  rw [this]
  unfold hdO Nice.hdN
  cases mHeads hs 0 with
  | none => rfl
  | some k =>
    simp only
    by_cases g1 : 1 < k
    · rw [if_pos g1, if_pos g1]
    · rw [if_neg g1, if_neg g1]
      by_cases g2 : scanLen hs > 300
      · rw [if_pos g2, if_pos g2]
      · rw [if_neg g2, if_neg g2]
        by_cases g3 : scanLen hs = 0
        · rw [if_pos g3, if_pos g3]
        · rw [if_neg g3, if_neg g3]
end Go.Proofs.YtpdbgpkedehpgaaGreatDoor
namespace Go.Proofs.YtpdbgpkedehpgaaGreatDoor
open Go Go.Eng Nice
set_option maxRecDepth 1000000
theorem tok13 {c : UInt8} (h : c.toNat = 13 ∨ c.toNat = 58) : isTok c = false := decide_eq_false (by omega)
theorem lines_n (st su li at' : Int) (tx m p q : List UInt8) (hs : List HeadD) (b : List UInt8) (le : Int) (ou : List ReqD) (c : UInt8) (ok : OkX st li at' tx hs le ou) (hst : st = 4 ∨ st = 5 ∨ st = 6 ∨ st = 7 ∨ st = 8) :
    olines (st, su, li, at', tx, (m, p, q, hs, b, ()), le, ou, ()) (c, ()) = some ((lnN st su li at' tx m p q hs b le ou c).1, (lnN st su li at' tx m p q hs b le ou c).2, ()) := by
  obtain ⟨li0, li1, at0, at1, tx1, hs1, hs2, hs6, le0, le1, ou1⟩ := ok
  have hc := c.toNat_lt
  have ii : inK .i64 (li + 1) := inK_i64.2 ⟨by omega, by omega⟩
  have ic : inK .u8 (c.toNat : Int) := inK_u8.2 ⟨by omega, by omega⟩
  rw [olines_g, elines_g]
  simp only [Int.toNat_natCast, UInt8.ofNat_toNat]
  by_cases h47 : st = 4 ∨ st = 7
  · unfold lnN
    rw [if_pos h47]
    by_cases h10 : c.toNat = 10
    · rw [if_pos h10]
      rcases h47 with rfl | rfl
      · rw [ceT rfl, cnF (by omega), ceF (by decide)]
      · rw [ceF (by decide), ceT rfl, cnF (by omega), ceF (by decide)]
    · rw [if_neg h10]
      rcases h47 with rfl | rfl
      · rw [ceT rfl, cnT (by omega)]
      · rw [ceF (by decide), ceT rfl, cnT (by omega)]
  · rw [ceF (by omega), ceF (by omega)]
    by_cases h8 : st = 8
    · subst h8
      unfold lnN
      rw [if_neg h47, if_pos rfl, ceT rfl]
      by_cases h10 : c.toNat = 10
      · rw [if_pos h10, cnF (by omega), ceT rfl]
        obtain ⟨hP, hN⟩ := heads_hid (heads_n su 0 at' tx m p q hs b le ou hs1 hs2 ou1)
        rw [gdB hP, gN, hN]
      · rw [if_neg h10, cnT (by omega)]
    · rw [ceF h8]
      by_cases h6 : st = 6
      · subst h6
        unfold lnN
        rw [if_neg h47, if_neg h8, if_pos rfl, ceT rfl]
        have hl := hs6 rfl
        by_cases h13 : c.toNat = 13
        · have e : ((hs.length : Int) - 1).toNat = hs.length - 1 := by omega
          rw [if_pos h13, ceT (by omega), gdT (by omega), gdT (by omega), gdT (by omega), gdB (by rw [Bool.and_eq_true]; exact ⟨rfl, decide_eq_true (by omega)⟩), gdT (inK_i64.2 ⟨by omega, by omega⟩), gN, e]
          rfl
        · rw [if_neg h13, ceF (by omega)]
          by_cases h9 : c.toNat = 9
          · rw [if_pos (.inr h9), cdF (by omega), ceT (by omega), gdT ii, gdT (by omega), gdT ic, gN]
          · by_cases h32 : 32 ≤ c.toNat
            · rw [cdT (by omega)]
              by_cases h126 : c.toNat ≤ 126
              · rw [if_pos (.inl ⟨h32, h126⟩), cdT (by omega), gdT ii, gdT (by omega), gdT ic, gN]
              · rw [if_neg (by omega), cdF (by omega), ceF (by omega)]
            · rw [if_neg (by omega), cdF (by omega), ceF (by omega)]
      · unfold lnN
        rw [if_neg h47, if_neg h8, if_neg h6, ceF h6]
        by_cases h13 : c.toNat = 13
        · rw [ceT (by omega)]
          by_cases hl : li = 0
          · rw [if_pos ⟨h13, hl⟩, ceT hl]
          · rw [if_neg (fun h => hl h.2), if_neg (by omega), ceF hl, ceF (by omega), tok13 (.inl h13), cF, gdT ic, gN]
            rfl
        · rw [if_neg (fun h => h13 h.1), ceF (by omega)]
          by_cases h58 : c.toNat = 58
          · rw [ceT (by omega)]
            by_cases hl : li > 0
            · rw [if_pos ⟨h58, hl⟩, cdT hl, gdT ii, gdT (by omega), gN]
            · rw [if_neg (fun h => hl h.2), cdF hl, tok13 (.inr h58), cF, gdT ic, gN]
              rfl
          · rw [if_neg (fun h => h58 h.1), ceF (by omega)]
            cases ht : isTok c
            · rw [cF, gdT ic, gN]; rfl
            · rw [cT, gdT ii, gdT (by omega), gdT ic, gdT ic, gN]; rfl
theorem cap_not {c : UInt8} (h : ¬ (65 ≤ c.toNat ∧ c.toNat ≤ 90)) : isCap c = false := by
  cases hb : isCap c
  · rfl
  · exact absurd (isCap_iff.1 hb) h
theorem step_n (st su li at' : Int) (tx m p q : List UInt8) (hs : List HeadD) (b : List UInt8) (le : Int) (ou : List ReqD) (c : UInt8) (ok : OkX st li at' tx hs le ou) (hst : 0 ≤ st ∧ st ≤ 9) :
    ostep (st, su, li, at', tx, (m, p, q, hs, b, ()), le, ou, ()) (c, ()) = some ((mst st su li at' tx m p q hs b le ou c).1, (mst st su li at' tx m p q hs b le ou c).2, ()) := by
  have ok' := ok
  obtain ⟨li0, li1, at0, at1, tx1, hs1, hs2, hs6, le0, le1, ou1⟩ := ok
  have hc := c.toNat_lt
  have ii : inK .i64 (li + 1) := inK_i64.2 ⟨by omega, by omega⟩
  have ic : inK .u8 (c.toNat : Int) := inK_u8.2 ⟨by omega, by omega⟩
  rw [ostep_g, estep_g]
  simp only [Int.toNat_natCast, UInt8.ofNat_toNat]
  rw [gdT ic, gN]
  unfold mst
  by_cases hl : longN (st, su, li, at', tx, (m, p, q, hs, b, ()), le, ou, ()) c ≠ 0
  · rw [if_pos hl, cnT hl]
  rw [if_neg hl, cnF (by simpa using hl)]
  by_cases h0 : st = 0
  · subst h0
    rw [if_pos rfl, ceT rfl]
    cases hcap : isCap c
    · rw [cF, if_neg (by intro h; exact absurd h.1 (by decide)), gdT ic, gN]
      by_cases h32 : c.toNat = 32
      · rw [ceT (by omega)]
        by_cases hp : li > 0
        · rw [if_pos ⟨h32, hp⟩, cdT hp, gdT ii, gN]
        · rw [if_neg (fun h => hp h.2), cdF hp]
      · rw [ceF (by omega), if_neg (fun h => h32 h.1)]
    · rw [cT]
      by_cases h10 : li < 10
      · rw [if_pos ⟨rfl, h10⟩, cdT h10, gdT ii, gdT (by omega), gdT ic, gdT ic, gN]
      · have := isCap_iff.1 hcap
        rw [if_neg (fun h => h10 h.2), cdF h10, gdT ic, gN, ceF (by omega), if_neg (by omega)]
  rw [if_neg h0, ceF h0]
  by_cases h1 : st = 1
  · subst h1
    rw [if_pos rfl, ceT rfl]
    have tail : (bif (↑c.toNat : Int) == 63 then gd [decide (inK IntKind.i64 (li + 1))] (some (((2 : Int), su, li + 1, at', ([] : List UInt8), (m, tx, q, hs, b, ()), le, ou, ()), (0 : Int), ())) else
        (bif (↑c.toNat : Int) == 32 then gd [decide (inK IntKind.i64 (li + 1))] (some (((3 : Int), su, li + 1, at', ([] : List UInt8), (m, tx, q, hs, b, ()), le, ou, ()), (0 : Int), ())) else
          (bif isVis c then gd [decide (inK IntKind.i64 (li + 1)), decide ((2 * (tx.length + 1) + 400) * 1 ≤ 281474976710656), decide (inK IntKind.u8 (c.toNat : Int)), decide (inK IntKind.u8 (c.toNat : Int))] (some (((1 : Int), su, li + 1, at', tx ++ [c], (m, p, q, hs, b, ()), le, ou, ()), (0 : Int), ()))
            else gd [decide (inK IntKind.u8 (c.toNat : Int))] (some (((1 : Int), su, li, at', tx, (m, p, q, hs, b, ()), le, ou, ()), (400 : Int), ())))))
        = some ((if c.toNat = 63 then (((2 : Int), su, li + 1, at', ([] : List UInt8), (m, tx, q, hs, b, ()), le, ou, ()), (0 : Int))
           else if c.toNat = 32 then ((3, su, li + 1, at', [], (m, tx, q, hs, b, ()), le, ou, ()), 0)
           else if isVis c = true then ((1, su, li + 1, at', tx ++ [c], (m, p, q, hs, b, ()), le, ou, ()), 0)
           else ((1, su, li, at', tx, (m, p, q, hs, b, ()), le, ou, ()), 400)).1,
          (if c.toNat = 63 then (((2 : Int), su, li + 1, at', ([] : List UInt8), (m, tx, q, hs, b, ()), le, ou, ()), (0 : Int))
           else if c.toNat = 32 then ((3, su, li + 1, at', [], (m, tx, q, hs, b, ()), le, ou, ()), 0)
           else if isVis c = true then ((1, su, li + 1, at', tx ++ [c], (m, p, q, hs, b, ()), le, ou, ()), 0)
           else ((1, su, li, at', tx, (m, p, q, hs, b, ()), le, ou, ()), 400)).2, ()) := by
      by_cases h63 : c.toNat = 63
      · rw [ceT (by omega), if_pos h63, gdT ii, gN]
      · rw [ceF (by omega), if_neg h63]
        by_cases h32 : c.toNat = 32
        · rw [ceT (by omega), if_pos h32, gdT ii, gN]
        · rw [ceF (by omega), if_neg h32]
          cases hv : isVis c
          · rw [cF, gdT ic, gN]; rfl
          · rw [cT, gdT ii, gdT (by omega), gdT ic, gdT ic, gN]; rfl
    by_cases hx : tx.length = 0
    · rw [ceT (by omega)]
      by_cases h47 : c.toNat = 47
      · rw [cnF (by omega), if_neg (fun h => h.2 h47)]
        exact tail
      · rw [cnT (by omega), if_pos ⟨hx, h47⟩]
    · rw [ceF (by omega), if_neg (fun h => hx h.1)]
      exact tail
  rw [if_neg h1, ceF h1]
  by_cases h2 : st = 2
  · subst h2
    rw [if_pos rfl, ceT rfl]
    by_cases h32 : c.toNat = 32
    · rw [ceT (by omega), if_pos h32, gdT ii, gN]
    · rw [ceF (by omega), if_neg h32]
      cases hv : isVis c
      · rw [cF, gdT ic, gN]; rfl
      · rw [cT, gdT ii, gdT (by omega), gdT ic, gdT ic, gN]; rfl
  rw [if_neg h2, ceF h2]
  by_cases h3 : st = 3
  · subst h3
    rw [if_pos rfl, ceT rfl]
    by_cases h8 : at' = 8
    · rw [ceT h8, if_pos h8]
      by_cases h13 : c.toNat = 13
      · rw [ceT (by omega), if_pos h13]
      · rw [ceF (by omega), if_neg h13, ceT h8]
    · rw [ceF h8, if_neg h8, ceF h8]
      rw [show ([72, 84, 84, 80, 47, 49, 46, 49] : List UInt8) = verB from rfl]
      by_cases hv : c.toNat = (verB.getD at'.toNat 0).toNat
      · rw [if_pos hv, cnF (by omega), gdT ii, gdT (inK_i64.2 ⟨by omega, by omega⟩), gdT (by omega), gdT (by omega), gN]
      · rw [if_neg hv, cnT (by omega), gdT (by omega), gdT (by omega), gN]
  rw [if_neg h3, ceF h3]
  by_cases h9 : st = 9
  · subst h9
    rw [if_pos rfl, ceT rfl, gdT (inK_i64.2 ⟨by omega, by omega⟩), gdT (by omega), gdT ic, gN]
    by_cases hle : le - 1 = 0
    · rw [if_pos hle, ceT hle, gdT (by omega), gN]
    · rw [if_neg hle, ceF hle]
  rw [if_neg h9, ceF h9]
  obtain ⟨hP, hN⟩ := lines_hid (lines_n st su li at' tx m p q hs b le ou c ok' (by omega))
  rw [gdB hP, gdT ic, gN, hN]
end Go.Proofs.YtpdbgpkedehpgaaGreatDoor
namespace Go.Proofs.YtpdbgpkedehpgaaGreatDoor
open Go Go.Eng Nice
set_option maxRecDepth 1000000
def clrX (x : ScanD) : ScanD × List ReqD × Unit := ((x.1, x.2.1, x.2.2.1, x.2.2.2.1, x.2.2.2.2.1, x.2.2.2.2.2.1, x.2.2.2.2.2.2.1, [], ()), x.2.2.2.2.2.2.2.1, ())
theorem feed_l (s : List UInt8) : ∀ (rest done : List UInt8) (n K : Nat) (st su li at' : Int) (tx m p q : List UInt8) (hs : List HeadD) (b : List UInt8) (le : Int) (ou : List ReqD), s = done ++ rest → rest.length < n → K + rest.length ≤ 1000000 → done.length ≤ 1000000 →
    (su = 0 → InvX K (st, su, li, at', tx, (m, p, q, hs, b, ()), le, ou, ())) → done.length + rest.length ≤ 1000000 →
    hfeed_0 n st su li at' tx m p q hs b le ou s (done.length : Int) = some (clrX (mrun (st, su, li, at', tx, (m, p, q, hs, b, ()), le, ou, ()) rest)) := by
  intro rest
  induction rest with
  | nil =>
    intro done n K st su li at' tx m p q hs b le ou he hn hK hd hi hs'
    obtain ⟨n, rfl⟩ : ∃ m, n = m + 1 := ⟨n - 1, by omega⟩
    have hl : s.length = done.length := by rw [he, List.append_nil]
    rw [efeed_0, cdF (by omega)]
    rfl
  | cons c rest ihr =>
    intro done n K st su li at' tx m p q hs b le ou he hn hK hd hi hs'
    obtain ⟨n, rfl⟩ : ∃ m, n = m + 1 := ⟨n - 1, by omega⟩
    simp only [List.length_cons] at hn hK hs'
    have hl : s.length = done.length + rest.length + 1 := by rw [he]; simp only [List.length_append, List.length_cons]; omega
    have hg : s.getD done.length 0 = c := by rw [he]; exact getD_mid _ _ _ _
    have hc := c.toNat_lt
    rw [efeed_0, cdT (by omega)]
    by_cases h0 : su = 0
    · rw [ceT h0]
      have i := hi h0
      obtain ⟨hP, hN⟩ := step_hid (step_n st su li at' tx m p q hs b le ou c (i.ok (by omega)) ⟨i.st0, i.st9⟩)
      simp only [Int.toNat_natCast, hg, UInt8.ofNat_toNat]
      rw [gdT (inK_i64.2 ⟨by omega, by omega⟩), gdB hP, gdT (inK_u8.2 ⟨by omega, by omega⟩), gdT (by omega), gdT (by omega), gN, hN]
      have e : mrun (st, su, li, at', tx, (m, p, q, hs, b, ()), le, ou, ()) (c :: rest) = mrun (feed1 (st, su, li, at', tx, (m, p, q, hs, b, ()), le, ou, ()) c) rest := if_pos h0
      rw [e]
      have ih := ihr (done ++ [c]) n (K + 1) (mst st su li at' tx m p q hs b le ou c).1.1 (mst st su li at' tx m p q hs b le ou c).2 (mst st su li at' tx m p q hs b le ou c).1.2.2.1 (mst st su li at' tx m p q hs b le ou c).1.2.2.2.1 (mst st su li at' tx m p q hs b le ou c).1.2.2.2.2.1
        (mst st su li at' tx m p q hs b le ou c).1.2.2.2.2.2.1.1 (mst st su li at' tx m p q hs b le ou c).1.2.2.2.2.2.1.2.1 (mst st su li at' tx m p q hs b le ou c).1.2.2.2.2.2.1.2.2.1 (mst st su li at' tx m p q hs b le ou c).1.2.2.2.2.2.1.2.2.2.1 (mst st su li at' tx m p q hs b le ou c).1.2.2.2.2.2.1.2.2.2.2.1
        (mst st su li at' tx m p q hs b le ou c).1.2.2.2.2.2.2.1 (mst st su li at' tx m p q hs b le ou c).1.2.2.2.2.2.2.2.1 (by rw [he, List.append_assoc]; rfl) (by omega) (by omega) (by simp only [List.length_append, List.length_singleton]; omega) (fun hz => inv_feed1 i c hz) (by simp only [List.length_append, List.length_singleton]; omega)
      simp only [List.length_append, List.length_singleton, Int.natCast_add, Int.natCast_one] at ih
      exact ih
    · rw [ceF h0]
      have e : mrun (st, su, li, at', tx, (m, p, q, hs, b, ()), le, ou, ()) (c :: rest) = (st, su, li, at', tx, (m, p, q, hs, b, ()), le, ou, ()) := if_neg h0
      rw [e]
      rfl
theorem feed_n (st su li at' : Int) (tx m p q : List UInt8) (hs : List HeadD) (b : List UInt8) (le : Int) (ou : List ReqD) (s : List UInt8) (K : Nat) (hK : K + s.length ≤ 1000000) (hi : su = 0 → InvX K (st, su, li, at', tx, (m, p, q, hs, b, ()), le, ou, ())) :
    ofeed (st, su, li, at', tx, (m, p, q, hs, b, ()), le, ou, ()) (s, ()) = some (clrX (mrun (st, su, li, at', tx, (m, p, q, hs, b, ()), le, ou, ()) s)) := by
  rw [ofeed_g, efeed_g]
  exact feed_l s s [] heads0 K st su li at' tx m p q hs b le ou rfl (by unfold heads0; omega) hK (by simp) hi (by simp only [List.length_nil]; omega)
end Go.Proofs.YtpdbgpkedehpgaaGreatDoor
namespace Go.Proofs.YtpdbgpkedehpgaaGreatDoor
open Go Go.Eng Nice
set_option maxRecDepth 1000000
theorem cutK (c : Int) (k : Nat) : ∃ j : Nat, min (k : Int) ((c.tmod 40 + 40).tmod 40) = (j : Int) ∧ j ≤ k := by
  have h1 := Int.tmod_lt_of_pos c (show (0 : Int) < 40 by decide)
  have h2 := Int.lt_tmod_of_pos c (show (0 : Int) < 40 by decide)
  have h3 := Int.tmod_nonneg (a := c.tmod 40 + 40) 40 (by omega)
  refine ⟨(min (k : Int) ((c.tmod 40 + 40).tmod 40)).toNat, ?_, ?_⟩ <;> omega
theorem clrX_eq (x : ScanD) : clrX x = (clX x, outX x, ()) := rfl
theorem feedS_n (x : ScanD) (s : List UInt8) (K : Nat) (hK : K + s.length ≤ 1000000) (hi : x.2.1 = 0 → InvX K x) : ofeed x (s, ()) = some (clrX (mrun x s)) := by
  obtain ⟨st, su, li, at', tx, ⟨m, p, q, hs, b, ⟨⟩⟩, le, ou, ⟨⟩⟩ := x
  exact feed_n st su li at' tx m p q hs b le ou s K hK hi
theorem feeds_l (cs : List Int) (hc : cs.length ≤ 140737488355328) : ∀ (r : Nat) (u : List UInt8) (i n K : Nat) (st su li at' : Int) (tx m p q : List UInt8) (hs : List HeadD) (b : List UInt8) (le : Int) (acc : List ReqD), cs.length = i + r → r < n → K + u.length ≤ 1000000 → acc.length + u.length ≤ 1000000 →
    (su = 0 → InvX K (st, su, li, at', tx, (m, p, q, hs, b, ()), le, [], ())) →
    hfeeds_0 n u cs st su li at' tx m p q hs b le [] acc (i : Int) = some ((), acc ++ outX (mrun (st, su, li, at', tx, (m, p, q, hs, b, ()), le, [], ()) u), clX (mrun (st, su, li, at', tx, (m, p, q, hs, b, ()), le, [], ()) u), ()) := by
  intro r
  induction r with
  | zero =>
    intro u i n K st su li at' tx m p q hs b le acc hl hn hK ha hi
    obtain ⟨n, rfl⟩ : ∃ m, n = m + 1 := ⟨n - 1, by omega⟩
    obtain ⟨hP, hN⟩ := feed_hid (feed_n st su li at' tx m p q hs b le [] u K hK hi)
    have ho := mrun_out u (st, su, li, at', tx, (m, p, q, hs, b, ()), le, [], ())
    rw [efeeds_0, cdF (by omega), hN, clrX_eq]
    rw [gdT (by show (2 * (acc.length + (outX (mrun (st, su, li, at', tx, (m, p, q, hs, b, ()), le, [], ()) u)).length) + 400) * 88 ≤ 281474976710656; simp only [outX, List.length_nil] at ho ⊢; omega), gdB hP, gN]
  | succ r ihr =>
    intro u i n K st su li at' tx m p q hs b le acc hl hn hK ha hi
    obtain ⟨n, rfl⟩ : ∃ m, n = m + 1 := ⟨n - 1, by omega⟩
    rw [efeeds_0, cdT (by omega)]
    by_cases h0 : (u.length : Int) > 0
    · rw [cdT h0]
      obtain ⟨j, hj, hju⟩ := cutK (cs.getD (i : Int).toNat (Ty.int IntKind.i64).dflt) u.length
      have h1 := Int.tmod_lt_of_pos (cs.getD (i : Int).toNat (Ty.int IntKind.i64).dflt) (show (0 : Int) < 40 by decide)
      have h2 := Int.lt_tmod_of_pos (cs.getD (i : Int).toNat (Ty.int IntKind.i64).dflt) (show (0 : Int) < 40 by decide)
      rw [hj, show ((j : Int)).toNat = j from rfl]
      have hlt : (u.take j).length = j := by rw [List.length_take]; omega
      have hld : (u.drop j).length = u.length - j := List.length_drop ..
      obtain ⟨hP, hN⟩ := feed_hid (feed_n st su li at' tx m p q hs b le [] (u.take j) K (by omega) hi)
      have ho := mrun_out (u.take j) (st, su, li, at', tx, (m, p, q, hs, b, ()), le, [], ())
      have hinv := inv_run (u.take j) K (st, su, li, at', tx, (m, p, q, hs, b, ()), le, [], ()) hi
      have htw := mrun_two (st, su, li, at', tx, (m, p, q, hs, b, ()), le, [], ()) (u.take j) (u.drop j)
      rw [List.take_append_drop] at htw
      rw [hN, clrX_eq]
      generalize mrun (st, su, li, at', tx, (m, p, q, hs, b, ()), le, [], ()) (u.take j) = y at ho hinv htw ⊢
      rw [gdT (inK_i64.2 ⟨by omega, by omega⟩), gdT (by omega), gdT (by omega), gdT (by show (2 * (acc.length + (outX y).length) + 400) * 88 ≤ 281474976710656; simp only [outX, List.length_nil] at ho ⊢; omega), gdB hP, gdT (by omega), gdT (by omega), gdT (inK_i64.2 ⟨by omega, by omega⟩), gdT (by omega), gdT (by omega), gdT (by omega), gN]
      have ih := ihr (u.drop j) (i + 1) n (K + j) y.1 y.2.1 y.2.2.1 y.2.2.2.1 y.2.2.2.2.1 y.2.2.2.2.2.1.1 y.2.2.2.2.2.1.2.1 y.2.2.2.2.2.1.2.2.1 y.2.2.2.2.2.1.2.2.2.1 y.2.2.2.2.2.1.2.2.2.2.1 y.2.2.2.2.2.2.1 (acc ++ outX y) (by omega) (by omega) (by omega)
        (by simp only [List.length_append, outX, List.length_nil] at ho ⊢; omega) (fun hz => by have := hinv hz; rw [hlt] at this; exact this.out)
      simp only [Int.natCast_add, Int.natCast_one] at ih
      rw [htw.1, htw.2, ← List.append_assoc]
      exact ih
    · rw [cdF h0]
      obtain ⟨hP, hN⟩ := feed_hid (feed_n st su li at' tx m p q hs b le [] u K hK hi)
      have ho := mrun_out u (st, su, li, at', tx, (m, p, q, hs, b, ()), le, [], ())
      rw [hN, clrX_eq]
      rw [gdT (by show (2 * (acc.length + (outX (mrun (st, su, li, at', tx, (m, p, q, hs, b, ()), le, [], ()) u)).length) + 400) * 88 ≤ 281474976710656; simp only [outX, List.length_nil] at ho ⊢; omega), gdB hP, gN]
theorem feeds_n (s : List UInt8) (cs : List Int) (hc : cs.length ≤ 140737488355328) (hs : s.length ≤ 1000000) :
    ofeeds () (s, cs, ()) = some ((), outX (mrun (initX []) s), clX (mrun (initX []) s), ()) := by
  rw [ofeeds_g, efeeds_g]
  exact feeds_l cs hc cs.length s 0 heads0 0 0 0 0 0 [] [] [] [] [] [] 0 [] (by omega) (by unfold heads0; omega) (by omega) (by simpa using hs) (fun _ => inv_init [])
end Go.Proofs.YtpdbgpkedehpgaaGreatDoor

/-
  Part of the proof: CA Lib15S CG LawC. No condition.
-/
import Derived.Test.YtpdbgpkedehpgaaGreatDoorS2
import Derived.Test.YtpdbgpkedehpgaaGreatDoorA6
import Derived.Test.YtpdbgpkedehpgaaGreatDoorCScan
import Derived.Test.YtpdbgpkedehpgaaGreatDoorLib15
import Derived.Test.YtpdbgpkedehpgaaGreatDoorShelfS
import Derived.Test.YtpdbgpkedehpgaaGreatDoorA1
import Derived.Test.YtpdbgpkedehpgaaGreatDoorA3
import Derived.Test.YtpdbgpkedehpgaaGreatDoorEng11
import Derived.Test.YtpdbgpkedehpgaaGreatDoorBegC
namespace Go.Proofs.YtpdbgpkedehpgaaGreatDoor
open Go Go.Eng Nice
set_option maxRecDepth 1000000
theorem no_c (f : FuncId) (ts rs : List Ty) : PC f (noS ts rs) := fun fz w args x _ _ _ h => by cases h
theorem keyCh_c : PC 113 keyChS := (pureO (envS_ok (l := []) trivial) gl_ne Tryz.func113 (by kernel_rfl) (by decide)).nice fun ⟨c, ()⟩ _ => keyCh_n c
theorem dKey_c : PC 79 isKeyS := (pureO (envS_ok (l := [(113, keyChS)]) ⟨keyCh_c, trivial⟩) gl_ne Tryz.func79 (by kernel_rfl) (by decide)).nice fun ⟨s, ()⟩ h => dKey_n s h
theorem rKey_c : PC 44 isKeyS := (pureO (envS_ok (l := []) trivial) gl_ne Tryz.func44 (by kernel_rfl) (by decide)).nice fun ⟨s, ()⟩ h => rKey_n s h
theorem anum_c : PC 80 numS := (pureO (envS_ok (l := [(114, idxFS 115), (116, parseS)]) ⟨idxF_c, parse_c, trivial⟩) gl_ne Tryz.func80 (by kernel_rfl) (by decide)).nice fun ⟨s, a, b, c, ()⟩ h => anum_n s a b c h
theorem hp_c : PC 75 hasPreS := (pureO (envS_ok (l := []) trivial) gl_ne Tryz.func75 (by kernel_rfl) (by decide)).nice fun ⟨s, p, ()⟩ _ => hp_n s p
theorem cp_c : PC 119 cutPreS := (pureO (envS_ok (l := [(75, hasPreS)]) ⟨hp_c, trivial⟩) gl_ne Tryz.func119 (by kernel_rfl) (by decide)).nice fun ⟨s, p, ()⟩ _ => cp_n s p
theorem digs_c : PC 46 digsS := (pureO (envS_ok (l := []) trivial) gl_ne Tryz.func46 (by kernel_rfl) (by decide)).nice fun ⟨u, ()⟩ h => rdigits_n u h
theorem digits_c : PC 25 digitsS := (pureO (envS_ok (l := [(46, digsS)]) ⟨digs_c, trivial⟩) gl_ne Tryz.func25 (by kernel_rfl) (by decide)).nice fun ⟨n, ()⟩ h => rDigits_n n h
end Go.Proofs.YtpdbgpkedehpgaaGreatDoor
namespace Go.Proofs.YtpdbgpkedehpgaaGreatDoor
open Go Go.Eng Nice Go.RowKit
set_option maxRecDepth 1000000
theorem rd_cons' {fz : Nat → Option (Array Value)} {t : Ty} {ts : List Ty} {x : DenL (t :: ts)} {l : List Value} (ht : t.agg = false) (h : RdAll fz (t :: ts) x l) : ∃ v r, l = v :: r ∧ RdC fz t x.1 [v] ∧ RdAll fz ts x.2 r := by
  obtain ⟨v, r, e, hv, hr⟩ := h
  rcases hv with ⟨h, _⟩ | ⟨_, hv⟩
  · rw [ht] at h; cases h
  · exact ⟨v, r, e, hv, hr⟩
theorem glMax {w : World} (hgl : GlW glC w) : ∃ m, w.cell? ⟨3, 0, none⟩ = some (.int .i64 m) := by
  obtain ⟨u, hu, hg⟩ := hgl.1 (3, [ai .i64]) (by simp [glC]) 0 (ai .i64) rfl
  rcases hg with ⟨hp, _⟩ | ⟨b, he, _⟩ | ⟨k, m, he, h2⟩
  · cases hp
  · cases he
  · cases he
    exact ⟨m, by rw [hu, h2]⟩
theorem cutE_c : PC 77 cutES := pc_mk fun fz w args x hgl hr hp => by
  obtain ⟨s, p, ⟨⟩⟩ := x
  simp only [cutES, Bool.and_eq_true, beq_iff_eq] at hp
  obtain ⟨hl, rfl⟩ := hp
  have hl : s.length < 4294967281 := of_decide_eq_true hl
  obtain ⟨_, _, e1, h1, hr1⟩ := rd_cons' rfl hr
  obtain ⟨_, r3, rfl, h2, hr2⟩ := rd_cons' rfl hr1
  obtain rfl : r3 = [] := hr2
  cases h1; cases h2
  have ha : args = #[.string (bs s), .string (bs [61])] := Array.toList_inj.1 e1
  subst ha
  obtain ⟨m, hm⟩ := glMax hgl
  refine (Tryz.strings_Cut (bs s) (bs [61]) m w (by rw [bs_len]; exact hl) hm).mono ?_
  rintro e w' ⟨rfl, n, rfl⟩
  rw [bs_data, bs_data]
  exact ⟨[.string (bs (Lib.cut s [61]).1), .string (bs (Lib.cut s [61]).2.1), .bool (Lib.cut s [61]).2.2], rfl, ⟨_, _, rfl, .inr ⟨rfl, rfl⟩, _, _, rfl, .inr ⟨rfl, rfl⟩, _, _, rfl, .inr ⟨rfl, rfl⟩, rfl⟩, ⟨Nat.le_refl _, rfl, rfl, fun _ _ => rfl⟩⟩
theorem split_c : PC 76 splitS := by
  intro fz w args x hfz hgl hr hp
  obtain ⟨s, p, ⟨⟩⟩ := x
  simp only [splitS, Bool.and_eq_true, beq_iff_eq] at hp
  obtain ⟨hl, rfl⟩ := hp
  have hl : s.length < 4294967281 := of_decide_eq_true hl
  obtain ⟨_, _, e1, h1, hr1⟩ := rd_cons' rfl hr
  obtain ⟨_, r3, rfl, h2, hr2⟩ := rd_cons' rfl hr1
  obtain rfl : r3 = [] := hr2
  cases h1; cases h2
  have ha : args = #[.string (bs s), .string (bs [38])] := Array.toList_inj.1 e1
  subst ha
  obtain ⟨m, hm⟩ := glMax hgl
  refine (Tryz.strings_Split (bs s) (bs [38]) m w (by rw [bs_len]; exact hl) hm (Nat.le_refl 1)).mono ?_
  rintro e w' ⟨rfl, rfl⟩
  have hd := Lib.splitB_data (bs [38]) 0 (Lib.countB (bs s) (bs [38])) (bs s)
  have hn := Lib.splitB_all (bs [38]) (Nat.le_refl 1) 0 (Lib.countB (bs s) (bs [38])) (bs s) rfl
  have hS : (Lib.splitB (bs [38]) 0 (Lib.countB (bs s) (bs [38])) (bs s)).map (·.data.toList) = splitN s := hd
  generalize Lib.splitB (bs [38]) 0 (Lib.countB (bs s) (bs [38])) (bs s) = L at hn hS
  generalize Lib.countB (bs s) (bs [38]) = k at hn
  have hlen : (splitN s).length = k + 1 := by rw [← hS, List.length_map]; exact hn
  have hlt : ∀ b c, fz b = some c → b < w.heap.size := fun b c hb => by
    obtain ⟨e, fr, h⟩ := hfz b c hb
    exact (Array.getElem?_eq_some_iff.1 h).1
  have hold : ∀ b, b < w.heap.size → (w.alloc (.cells (L.map Value.string).toArray 9)).heap[b]? = w.heap[b]? := fun b hb => by
    show (w.heap.push _)[b]? = _
    rw [Array.getElem?_push, if_neg (by omega)]
  refine ⟨[.slice (some ⟨w.heap.size, 0, none⟩) (k + 1) (k + 1)], fun b => if b = w.heap.size then some (L.map Value.string).toArray else fz b, rfl, fun b c h => ?_, fun b c h => ?_, fun b c h => ?_, ?_, ?_⟩
  · have := hlt b c h
    simp only [if_neg (by omega : ¬ b = w.heap.size)]
    exact h
  · by_cases hb : b = w.heap.size
    · subst hb
      simp only [if_true, Option.some.injEq] at h
      subst h
      exact ⟨_, _, by show (w.heap.push _)[w.heap.size]? = _; rw [Array.getElem?_push, if_pos rfl]⟩
    · simp only [if_neg hb] at h
      obtain ⟨e, fr, h'⟩ := hfz b c h
      exact ⟨e, fr, by rw [hold b (hlt b c h)]; exact h'⟩
  · by_cases hb : b = w.heap.size
    · exact .inr (by omega)
    · simp only [if_neg hb] at h
      exact .inl h
  · refine ⟨_, _, rfl, .inr ⟨rfl, _, rfl, .inr ⟨w.heap.size, 0, k + 1, (L.map Value.string).toArray, ?_, by simp, ?_, ?_, ?_⟩⟩, rfl⟩
    · show _ = Value.slice _ (splitN s).length _
      rw [hlen]
    · show 0 + (splitN s).length * 1 ≤ _
      rw [hlen]; simp; omega
    · show (splitN s).length ≤ _
      rw [hlen]; exact Nat.le_refl _
    · intro i x hx
      have hx : (splitN s)[i]? = some x := hx
      rw [← hS, List.getElem?_map] at hx
      obtain ⟨y, hy, rfl⟩ := Option.map_eq_some_iff.1 hx
      show ((L.map Value.string).toArray.toList.drop (0 + i * 1)).take 1 = [.string (bs y.data.toList)]
      have : (L.map Value.string)[i]? = some (.string y) := by rw [List.getElem?_map, hy]; rfl
      rw [show 0 + i * 1 = i by omega]
      show ((L.map Value.string).drop i).take 1 = _
      obtain ⟨hi, e⟩ := List.getElem?_eq_some_iff.1 this
      rw [List.drop_eq_getElem_cons hi, e]
      have : bs y.data.toList = y := bs_toL y
      rw [this]; rfl
  · exact ⟨by show w.heap.size ≤ (w.heap.push _).size; simp, rfl, rfl, hold⟩
end Go.Proofs.YtpdbgpkedehpgaaGreatDoor
namespace Go.Proofs.YtpdbgpkedehpgaaGreatDoor
open Go Go.Eng Nice Go.RowKit
set_option maxRecDepth 1000000
theorem arch_run {x : Nat} (h : finW x = true) (w : World) : (callFunc 274 #[.float .f64 x]).run Tryz.prog w = .ok (.value (.float .f64 (truncW x))) w := by
  rw [run_callFunc_extern Tryz.func274 (by kernel_rfl) (by kernel_rfl) (by kernel_rfl) (by kernel_rfl : Extern.find Tryz.f274 = some (Extern.MathFloor.toIntegral "math.archTrunc" .zero))]
  have e : Extern.MathFloor.toIntegral "math.archTrunc" .zero #[.float .f64 x] = Pure.pure (.float .f64 (truncW x)) := by
    show (match FloatKind.f64.decode x with
      | .nan s t => _
      | d => _) = _
    unfold finW at h
    unfold truncW
    split
    · rename_i hd; rw [hd] at h; cases h
    · rfl
  rw [e]; rfl
theorem trunc_c : PC 263 archS := pc_mk fun fz w args x hgl hr hp => by
  obtain ⟨x, ⟨⟩⟩ := x
  obtain ⟨_, r3, e1, h1, hr1⟩ := rd_cons' rfl hr
  obtain rfl : r3 = [] := hr1
  cases h1
  have ha : args = #[.float .f64 x] := Array.toList_inj.1 e1
  subst ha
  go_enter Tryz.func263, Tryz.ntmps263
  go_wp2
  rw [arch_run hp]
  go_wp2
  go_ret
  exact ⟨[.float .f64 (truncW x)], rfl, ⟨_, _, rfl, .inr ⟨rfl, rfl⟩, rfl⟩, ⟨Nat.le_refl _, rfl, rfl, fun _ _ => rfl⟩⟩
theorem whole_c : PC 234 wholeS := (pureO (envS_ok (l := [(263, archS)]) ⟨trunc_c, trivial⟩) gl_ne Tryz.func234 (by kernel_rfl) (by decide)).nice fun ⟨x, a, b, ()⟩ h => whole_nn x a b h
theorem may_c : PC 187 mayS := (pureO (envS_ok (l := [(234, wholeS)]) ⟨whole_c, trivial⟩) gl_ne Tryz.func187 (by kernel_rfl) (by decide)).nice fun ⟨z, ()⟩ h => gmay_nn z h
theorem gread_c : PC 118 gReadS := (pureO (envS_ok (l := [(187, mayS)]) ⟨may_c, trivial⟩) gl_ne Tryz.func118 (by kernel_rfl) (by decide)).nice fun ⟨s, ()⟩ _ => gread_n s
theorem rread_c : PC 62 rReadS := (pureO (envS_ok (l := []) trivial) gl_ne Tryz.func62 (by kernel_rfl) (by decide)).nice fun ⟨s, ()⟩ _ => rread_n s
theorem hsuf_c : PC 233 hasSufT := (pureO (envS_ok (l := []) trivial) gl_ne Tryz.func233 (by kernel_rfl) (by decide)).nice fun ⟨s, p, ()⟩ h => hsuf_n s p h
theorem csuf_c : PC 186 cutSufT := (pureO (envS_ok (l := [(233, hasSufT)]) ⟨hsuf_c, trivial⟩) gl_ne Tryz.func186 (by kernel_rfl) (by decide)).nice fun ⟨s, p, ()⟩ h => csuf_n s p h
theorem sidx_c : PC 112 idxSS := (pureO (envS_ok (l := []) trivial) gl_ne Tryz.func112 (by kernel_rfl) (by decide)).nice fun ⟨l, x, ()⟩ h => sidx_n l x h
theorem shas_c : PC 78 hasSS := (pureO (envS_ok (l := [(112, idxSS)]) ⟨sidx_c, trivial⟩) gl_ne Tryz.func78 (by kernel_rfl) (by decide)).nice fun ⟨l, x, ()⟩ h => shas_n l x h
theorem aconds_c : PC 81 condsS := (pureO (envS_ok (l := [(29, valueS), (119, cutPreS), (186, cutSufT), (118, gReadS)]) ⟨sval_c, cp_c, csuf_c, gread_c, trivial⟩) gl_ne Tryz.func81 (by kernel_rfl) (by decide)).nice fun ⟨⟨m, p, q, hs, b, ()⟩, ()⟩ h => aconds_n m p q hs b h
theorem rconds_c : PC 56 rcondsS := (pureO (envS_ok (l := [(30, valueS), (62, rReadS)]) ⟨rval_c, rread_c, trivial⟩) gl_ne Tryz.func56 (by kernel_rfl) (by decide)).nice fun ⟨⟨m, p, q, hs, b, ()⟩, a, ()⟩ h => rconds_n m p q hs b a h
theorem akeyed_c : PC 54 keyedGS := (pureO (envS_ok (l := [(79, isKeyS), (80, numS), (81, condsS), (119, cutPreS)]) ⟨dKey_c, anum_c, aconds_c, cp_c, trivial⟩) gl_ne Tryz.func54 (by kernel_rfl) (by decide)).nice fun ⟨a, ⟨m, p, q, hs, b, ()⟩, ()⟩ h => akeyed_n a m p q hs b h
theorem listed_c : PC 53 listedS := (pureO (envS_ok (l := [(79, isKeyS), (76, splitS), (77, cutES), (78, hasSS), (80, numS)]) ⟨dKey_c, split_c, cutE_c, shas_c, anum_c, trivial⟩) gl_ne Tryz.func53 (by kernel_rfl) (by decide)).nice fun ⟨a, q, ()⟩ h => listed_n a q h
theorem rkeyB_c : PC 83 keyBS := (pureO (envS_ok (l := [(44, isKeyS)]) ⟨rKey_c, trivial⟩) gl_ne Tryz.func83 (by kernel_rfl) (by decide)).nice fun ⟨s, ()⟩ h => rkeyB_n s h
theorem rparts_c : PC 55 partsS := (pureO (envS_ok (l := [(49, refNumS), (83, keyBS)]) ⟨rnum_c, rkeyB_c, trivial⟩) gl_ne Tryz.func55 (by kernel_rfl) (by decide)).nice fun ⟨q, a, ()⟩ h => rparts_n q a h
/-- a contract by cases -/
theorem pc_cases {f : FuncId} {ts rs : List Ty} {pre : DenL ts → Bool} {g : DenL ts → DenL rs} (h : ∀ x, pre x = true → ∃ p', PC f ⟨ts, rs, p', g⟩ ∧ p' x = true) : PC f ⟨ts, rs, pre, g⟩ := by
  intro fz w args x a b c d
  obtain ⟨p', h1, h2⟩ := h x d
  exact h1 fz w args x a b c h2
noncomputable def ofM (pm : List UInt8 → Bool) : PSpec := ⟨[ReqT], [AskT, .int .i64], fun x => ofP x.1 && pm x.1.1, fun x => ((ofN x.1).1, (ofN x.1).2, ())⟩
theorem of_cases {f : FuncId} (h0 : PC f (ofM fun m => m == getW)) (h1 : PC f (ofM fun m => m == headW)) (h2 : PC f (ofM fun m => m == putW)) (h3 : PC f (ofM fun m => m == delW)) (h4 : PC f (ofM fun m => !(m == getW) && (!(m == headW) && (!(m == putW) && !(m == delW))))) : PC f ofS := by
  refine pc_cases (ts := [ReqT]) (rs := [AskT, .int .i64]) (pre := fun x => ofP x.1) (g := fun x => ((ofN x.1).1, (ofN x.1).2, ())) fun ⟨⟨m, p, q, hs, b, ()⟩, ()⟩ hx => ?_
  have hx : ofP (m, p, q, hs, b, ()) = true := hx
  cases c0 : m == getW
  · cases c1 : m == headW
    · cases c2 : m == putW
      · cases c3 : m == delW
        · exact ⟨_, h4, by show (ofP (m, p, q, hs, b, ()) && (!(m == getW) && (!(m == headW) && (!(m == putW) && !(m == delW))))) = true; rw [hx, c0, c1, c2, c3]; rfl⟩
        · exact ⟨_, h3, by show (ofP (m, p, q, hs, b, ()) && m == delW) = true; rw [hx, c3]; rfl⟩
      · exact ⟨_, h2, by show (ofP (m, p, q, hs, b, ()) && m == putW) = true; rw [hx, c2]; rfl⟩
    · exact ⟨_, h1, by show (ofP (m, p, q, hs, b, ()) && m == headW) = true; rw [hx, c1]; rfl⟩
  · exact ⟨_, h0, by show (ofP (m, p, q, hs, b, ()) && m == getW) = true; rw [hx, c0]; rfl⟩
theorem ofM_inv {m p q : List UInt8} {hs : HeadL} {b : List UInt8} {w : List UInt8} (h : (ofP (m, p, q, hs, b, ()) && m == w) = true) : m = w ∧ ofP (w, p, q, hs, b, ()) = true := by
  rw [Bool.and_eq_true, beq_iff_eq] at h
  obtain ⟨h, rfl⟩ := h
  exact ⟨rfl, h⟩
theorem ofM_oth {m p q : List UInt8} {hs : HeadL} {b : List UInt8} (h : (ofP (m, p, q, hs, b, ()) && (!(m == getW) && (!(m == headW) && (!(m == putW) && !(m == delW))))) = true) : ofP (m, p, q, hs, b, ()) = true ∧ (m == getW) = false ∧ (m == headW) = false ∧ (m == putW) = false ∧ (m == delW) = false := by
  rw [Bool.and_eq_true, Bool.and_eq_true, Bool.and_eq_true, Bool.and_eq_true, Bool.not_eq_true', Bool.not_eq_true', Bool.not_eq_true', Bool.not_eq_true'] at h
  exact ⟨h.1, h.2.1, h.2.2.1, h.2.2.2.1, h.2.2.2.2⟩
theorem aOfG_c : PC 37 ofS := of_cases
  ((pureO (envS_ok (l := [(75, hasPreS), (53, listedS), (54, keyedGS)]) ⟨hp_c, listed_c, akeyed_c, trivial⟩) gl_ne Tryz.func37 (by kernel_rfl) (by decide)).nice fun ⟨⟨m, p, q, hs, b, ()⟩, ()⟩ h => by obtain ⟨rfl, k⟩ := ofM_inv h; exact aOfGet_n p q hs b k)
  ((pureO (envS_ok (l := [(75, hasPreS), (53, listedS), (54, keyedGS)]) ⟨hp_c, listed_c, akeyed_c, trivial⟩) gl_ne Tryz.func37 (by kernel_rfl) (by decide)).nice fun ⟨⟨m, p, q, hs, b, ()⟩, ()⟩ h => by obtain ⟨rfl, k⟩ := ofM_inv h; exact aOfHead_n p q hs b k)
  ((pureO (envS_ok (l := [(75, hasPreS), (53, listedS), (54, keyedGS)]) ⟨hp_c, listed_c, akeyed_c, trivial⟩) gl_ne Tryz.func37 (by kernel_rfl) (by decide)).nice fun ⟨⟨m, p, q, hs, b, ()⟩, ()⟩ h => by obtain ⟨rfl, k⟩ := ofM_inv h; exact aOfPut_n p q hs b k)
  ((pureO (envS_ok (l := [(75, hasPreS), (53, listedS), (54, keyedGS)]) ⟨hp_c, listed_c, akeyed_c, trivial⟩) gl_ne Tryz.func37 (by kernel_rfl) (by decide)).nice fun ⟨⟨m, p, q, hs, b, ()⟩, ()⟩ h => by obtain ⟨rfl, k⟩ := ofM_inv h; exact aOfDel_n p q hs b k)
  ((pureO (envS_ok (l := [(75, hasPreS), (53, noS [AskT, .str] [AskT, .bool]), (54, noS [AskT, ReqT] [AskT, .bool])]) ⟨hp_c, no_c _ _ _, no_c _ _ _, trivial⟩) gl_ne Tryz.func37 (by kernel_rfl) (by decide)).nice fun ⟨⟨m, p, q, hs, b, ()⟩, ()⟩ h => by obtain ⟨k, h0, h1, h2, h3⟩ := ofM_oth h; exact aOfO_n m p q hs b k h0 h1 h2 h3)
theorem rOfG_c : PC 38 ofS := of_cases
  ((pureO (envS_ok (l := [(44, isKeyS), (49, refNumS), (55, partsS), (56, rcondsS)]) ⟨rKey_c, rnum_c, rparts_c, rconds_c, trivial⟩) gl_ne Tryz.func38 (by kernel_rfl) (by decide)).nice fun ⟨⟨m, p, q, hs, b, ()⟩, ()⟩ h => by obtain ⟨rfl, k⟩ := ofM_inv h; exact rOfGet_n p q hs b k)
  ((pureO (envS_ok (l := [(44, isKeyS), (49, refNumS), (55, partsS), (56, rcondsS)]) ⟨rKey_c, rnum_c, rparts_c, rconds_c, trivial⟩) gl_ne Tryz.func38 (by kernel_rfl) (by decide)).nice fun ⟨⟨m, p, q, hs, b, ()⟩, ()⟩ h => by obtain ⟨rfl, k⟩ := ofM_inv h; exact rOfHead_n p q hs b k)
  ((pureO (envS_ok (l := [(44, isKeyS), (49, refNumS), (55, partsS), (56, rcondsS)]) ⟨rKey_c, rnum_c, rparts_c, rconds_c, trivial⟩) gl_ne Tryz.func38 (by kernel_rfl) (by decide)).nice fun ⟨⟨m, p, q, hs, b, ()⟩, ()⟩ h => by obtain ⟨rfl, k⟩ := ofM_inv h; exact rOfPut_n p q hs b k)
  ((pureO (envS_ok (l := [(44, isKeyS), (49, refNumS), (55, partsS), (56, rcondsS)]) ⟨rKey_c, rnum_c, rparts_c, rconds_c, trivial⟩) gl_ne Tryz.func38 (by kernel_rfl) (by decide)).nice fun ⟨⟨m, p, q, hs, b, ()⟩, ()⟩ h => by obtain ⟨rfl, k⟩ := ofM_inv h; exact rOfDel_n p q hs b k)
  ((pureO (envS_ok (l := [(44, noS [.str] [.bool]), (49, noS [.str, .int .i64] [.int .i64, .bool]), (55, noS [.str, AskT] [AskT, .bool]), (56, noS [ReqT, AskT] [AskT, .int .i64])]) ⟨no_c _ _ _, no_c _ _ _, no_c _ _ _, no_c _ _ _, trivial⟩) gl_ne Tryz.func38 (by kernel_rfl) (by decide)).nice fun ⟨⟨m, p, q, hs, b, ()⟩, ()⟩ h => by obtain ⟨k, h0, h1, h2, h3⟩ := ofM_oth h; exact rOfO_n m p q hs b k h0 h1 h2 h3)
end Go.Proofs.YtpdbgpkedehpgaaGreatDoor
namespace Go.Proofs.YtpdbgpkedehpgaaGreatDoor
open Go Go.Eng Nice
set_option maxRecDepth 1000000
theorem begun_c : PC 21 trueS := pure_true begun15_run
end Go.Proofs.YtpdbgpkedehpgaaGreatDoor

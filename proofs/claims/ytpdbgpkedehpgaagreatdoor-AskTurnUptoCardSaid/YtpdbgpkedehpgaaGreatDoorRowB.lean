/-
  Arguments that a row reads are data, and hold no more than the reading does; a law of data that is true at some data. No condition.
-/
import Derived.Test.YtpdbgpkedehpgaaGreatDoorEng11
namespace Go.Eng
open Go
/-- how many letters data hold, an element at least one -/
def wt : (t : Ty) → t.Den → Nat
  | .str, s => s.length
  | .pair a b, x => wt a x.1 + wt b x.2
  | .slice a, xs => (xs.map fun x => max 1 (wt a x)).sum
  | _, _ => 0
def wtL : (ts : List Ty) → DenL ts → Nat
  | [], _ => 0
  | t :: ts, x => wt t x.1 + wtL ts x.2
/-- how much a reading holds -/
structure Bulk {H : Type} (bk : DataW H → Nat) : Prop where
  one : ∀ d, 1 ≤ bk d
  str : ∀ b : List UInt8, b.length ≤ bk (.lit (.string b))
  sl : ∀ es sp : List (DataW H), (es.map bk).sum ≤ bk (.slice es sp)
  agg : ∀ ps : List (DataW H), (ps.map bk).sum ≤ bk (.agg ps)
theorem sum_le_of : ∀ (n : Nat) (f g : Nat → Nat), (∀ k, k < n → f k ≤ g k) → ((List.range n).map f).sum ≤ ((List.range n).map g).sum
  | 0, _, _, _ => Nat.le_refl _
  | n + 1, f, g, h => by
    have := sum_le_of n f g fun k hk => h k (by omega)
    have h0 := h n (by omega)
    simp only [List.range_succ, List.map_append, List.sum_append, List.map_cons, List.map_nil, List.sum_cons, List.sum_nil]
    omega
theorem range_map {α β : Type} (l : List α) (f : α → β) (d : β) : (List.range l.length).map (fun k => ((l[k]?).map f).getD d) = l.map f := by
  apply List.ext_getElem?
  intro i
  rw [List.getElem?_map, List.getElem?_map]
  by_cases h : i < l.length
  · rw [List.getElem?_range h, List.getElem?_eq_getElem h]
    simp only [Option.map_some, List.getElem?_eq_getElem h, Option.getD_some]
  · rw [List.getElem?_eq_none (by simpa using h), List.getElem?_eq_none (by omega)]; rfl
theorem sum_rdB {H : Type} {bk : DataW H → Nat} (hbk : Bulk bk) {a : Ty} (len : Nat) (f : Nat → a.Den) (elems : List (DataW H × List MemPlace)) (hel : elems.length = len)
    (h : ∀ k, k < len → wt a (f k) ≤ ((elems[k]?).map fun z => bk z.1).getD 0) (sp : List (DataW H)) : wt (.slice a) ((List.range len).map f) ≤ bk (.slice (elems.map (·.1)) sp) := by
  refine Nat.le_trans ?_ (hbk.sl _ _)
  have e : wt (.slice a) ((List.range len).map f) = ((List.range len).map fun k => max 1 (wt a (f k))).sum := by
    simp only [wt, List.map_map]; rfl
  rw [e, List.map_map]
  have e2 := range_map elems (bk ∘ fun x => x.1) 0
  rw [hel] at e2
  rw [← e2]
  refine sum_le_of _ _ _ fun k hk => ?_
  have h1 := h k hk
  rw [List.getElem?_eq_getElem (by omega)] at h1 ⊢
  simp only [Option.map_some, Option.getD_some] at h1 ⊢
  have := hbk.one elems[k].1
  show max 1 (wt a (f k)) ≤ bk elems[k].1
  omega
section
variable {P : Program} {T : TE} (hT : T.OK P) {w : World} {sp : Nat → Bool} {held : Bool} {H : Type} {enc : TypeId × Value → H}
include hT
/-- a value that a row reads is data -/
theorem trod_rdB {bk : DataW H → Nat} (hbk : Bulk bk) : ∀ (m : Nat) (t : TypeId) (a : Ty), tyX T m t = some a → ∀ (n : Nat) (cs : List Value) (x : DataW H × List MemPlace), DataW.trod enc P w 0 (fun _ => true) held n t cs = some x → (∀ z, z ∈ x.1.weights P t → z ≤ reachBytes) →
    ∃ y : a.Den, RdC (fzW w) a y cs ∧ Bd a y ∧ wt a y ≤ bk x.1
  | 0, _, _, h, _, _, _, _, _ => by cases h
  | m + 1, t, a, h, n, cs, x, hx, hw => by
    have ih := trod_rdB hbk m
    simp only [tyX] at h
    split at h
    · rename_i d i hd hi
      have hu := hT.und t d hd
      split at h
      · cases hb : Nat.beq i.size 1 <;> rw [hb] at h <;> cases h
        obtain ⟨b, rfl, -⟩ := DataW.trod_bool hu hx
        exact ⟨b, rfl, trivial, Nat.zero_le _⟩
      · cases hb : Nat.beq i.size 1 <;> rw [hb] at h <;> cases h
        obtain ⟨k, rfl, -, hwf⟩ := DataW.trod_int hu hx
        simp only [Lit.wf, Bool.and_eq_true, decide_eq_true_eq] at hwf
        have hk : inK .u8 k := hwf
        exact ⟨UInt8.ofNat k.toNat, by simp only [RdC]; rw [← u8_back hk], trivial, Nat.zero_le _⟩
      · cases hb : Nat.beq i.size 1 <;> rw [hb] at h <;> cases h
        obtain ⟨k, rfl, -, hwf⟩ := DataW.trod_int hu hx
        simp only [Lit.wf, Bool.and_eq_true, decide_eq_true_eq] at hwf
        exact ⟨k, rfl, hwf, Nat.zero_le _⟩
      · cases hb : Nat.beq i.size 1 <;> rw [hb] at h <;> cases h
        obtain ⟨s, rfl, rfl, -⟩ := DataW.trod_string hu hx
        refine ⟨toL s, by simp only [RdC, bs_toL], ?_⟩
        have := hw s.data.toList.length (by simp [DataW.weights])
        have h2 : reachBytes ≤ reach := by decide
        exact ⟨Nat.le_trans this h2, hbk.str s.data.toList⟩
      · rename_i e
        split at h
        · rename_i a' j ha hj
          cases hb : (Nat.beq i.size 1 && (!Nat.beq j.bytes 0 && !Nat.beq a'.sz 0)) <;> rw [hb] at h <;> cases h
          rw [Bool.and_eq_true, Bool.and_eq_true] at hb
          have hbytes : j.bytes ≠ 0 := fun e => by rw [beq_t e] at hb; cases hb.2.1
          have hz : 0 < a'.sz := Nat.pos_of_ne_zero fun e => by rw [beq_t e] at hb; cases hb.2.2
          have hsz := tyX_sz hT ha
          rcases DataW.trod_slice hu hx with ⟨rfl, -⟩ | ⟨ad, len, cap, elems, rest, n', rfl, rfl, rfl, -, hlc, -, hel, hes, -, -⟩
          · exact ⟨[], ⟨_, rfl, .inl ⟨⟨_, _, rfl⟩, rfl⟩⟩, ⟨by simp [reach], fun x h => by cases h⟩, Nat.zero_le _⟩
          · simp only [DataW.weights, hu] at hw
            have hlen : len ≤ reach := by
              have := hw _ (List.mem_cons_self ..)
              rw [bytesOf_inf hT hj] at this
              have h2 : reachBytes ≤ reach := by decide
              have h3 : (elems.map (·.1)).length = len := by simpa using hel
              have h4 : len * 1 ≤ ((elems.map (·.1)).length + (rest.map (·.1)).length) * j.bytes := Nat.mul_le_mul (by omega) (by omega)
              omega
            have hwe : ∀ (k : Nat) (z : DataW H × List MemPlace), elems[k]? = some z → ∀ u, u ∈ z.1.weights P e → u ≤ reachBytes := fun k z hk u hu => hw u (by
              refine List.mem_cons_of_mem _ (List.mem_append_left _ ?_)
              have hmem : z.1 ∈ elems.map (·.1) := List.mem_map.2 ⟨z, List.mem_of_getElem? hk, rfl⟩
              have gen : ∀ (l : List (DataW H)) d, d ∈ l → u ∈ d.weights P e → u ∈ DataW.weightsAll P e l := by
                intro l
                induction l with
                | nil => intro d h; cases h
                | cons d' l ihl =>
                  intro d h hu
                  simp only [DataW.weightsAll, List.mem_append]
                  rcases List.mem_cons.1 h with rfl | h
                  · exact .inl hu
                  · exact .inr (ihl d h hu)
              exact gen _ _ hmem hu)
            -- each element
            have each : ∀ k, k < len → ∃ y : a'.Den, ∃ cs, w.cells? 0 (ad.add (k * P.cellsOf e)) (P.cellsOf e) = some cs ∧ RdC (fzW w) a' y cs ∧ Bd a' y ∧ wt a' y ≤ ((elems[k]?).map fun z => bk z.1).getD 0 := fun k hk => by
              have h1 := hes k hk
              rw [List.getElem?_eq_getElem (by omega)] at h1 ⊢
              obtain ⟨cs, h2, h3⟩ := Option.bind_eq_some_iff.1 h1
              obtain ⟨y, h4, h5, h6⟩ := ih e a' ha n' cs _ h3 (hwe k _ (List.getElem?_eq_getElem (by omega)))
              exact ⟨y, cs, h2, h4, h5, h6⟩
            by_cases h0 : len = 0
            · subst h0
              exact ⟨[], ⟨_, rfl, .inl ⟨⟨_, _, rfl⟩, rfl⟩⟩, ⟨by simp [reach], fun x h => by cases h⟩, Nat.zero_le _⟩
            · classical
              let f : Nat → a'.Den := fun k => if hk : k < len then Classical.choose (each k hk) else a'.dflt
              have hf : ∀ k, k < len → ∃ cs, w.cells? 0 (ad.add (k * P.cellsOf e)) (P.cellsOf e) = some cs ∧ RdC (fzW w) a' (f k) cs ∧ Bd a' (f k) ∧ wt a' (f k) ≤ ((elems[k]?).map fun z => bk z.1).getD 0 := fun k hk => by
                have := Classical.choose_spec (each k hk)
                simp only [f, dif_pos hk]; exact this
              refine ⟨(List.range len).map f, ?_, ⟨by simpa using hlen, fun x hx => ?_⟩, sum_rdB hbk len f elems hel (fun k hk => let ⟨_, _, _, _, h⟩ := hf k hk; h) (rest.map (·.1))⟩
              · refine ⟨_, rfl, .inr ?_⟩
                obtain ⟨blk, off, spot⟩ := ad
                rw [hsz] at hf
                have hspot : spot = none := by
                  obtain ⟨cs0, c1, -⟩ := hf 0 (by omega)
                  obtain ⟨arr, d1, d2, -, -⟩ := cells_of c1 hz
                  simpa [Addr.add] using d2
                subst hspot
                simp only [add_none] at hf
                obtain ⟨cs0, c1, -⟩ := hf 0 (by omega)
                obtain ⟨arr, d1, -, -, -⟩ := cells_of c1 hz
                have d1 : fzW w blk = some arr := d1
                refine ⟨blk, off, cap, arr, by simp, d1, ?_, by simpa using hlc, fun k y hk => ?_⟩
                · obtain ⟨cs1, e1, -⟩ := hf (len - 1) (by omega)
                  obtain ⟨arr', f1, -, f2, -⟩ := cells_of e1 hz
                  have f1 : fzW w blk = some arr' := f1
                  rw [d1] at f1; cases f1
                  have f2 : off + (len - 1) * a'.sz + a'.sz ≤ arr.size := f2
                  have : len * a'.sz = (len - 1) * a'.sz + a'.sz := by
                    conv => lhs; rw [show len = (len - 1) + 1 by omega, Nat.succ_mul]
                  simp only [List.length_map, List.length_range]; omega
                · have hkl : k < len := by have := get_lt hk; simpa using this
                  simp only [List.getElem?_map, List.getElem?_range hkl, Option.map_some, Option.some.injEq] at hk
                  subst hk
                  obtain ⟨cs1, e1, e2, -⟩ := hf k hkl
                  obtain ⟨arr', f1, -, -, f3⟩ := cells_of e1 hz
                  have f1 : fzW w blk = some arr' := f1
                  rw [d1] at f1; cases f1
                  have f3 : cs1 = (arr.toList.drop (off + k * a'.sz)).take a'.sz := f3
                  rw [← f3]; exact e2
              · obtain ⟨k, hk, rfl⟩ := List.mem_map.1 hx
                obtain ⟨-, -, -, h, -⟩ := hf k (List.mem_range.1 hk)
                exact h
        · cases h
      · rename_i fs
        split at h
        · rename_i a' ha
          cases hb : Nat.beq a'.sz i.size <;> rw [hb] at h <;> cases h
          have hb := Nat.eq_of_beq_eq_true hb
          obtain ⟨xs, n', rfl, rfl, hl, hxl, hxs⟩ := DataW.trod_struct hu hx
          rw [cellsOf_inf hT hi, ← hb] at hl
          simp only [DataW.weights, hu] at hw
          have key : ∀ (fl : List Field) (o : Nat) (b : Ty) (ys : List (DataW H × List MemPlace)), tyFs (tyX T m) fl o = some b → ys.length = fl.length → (∀ (k : Nat) f, fl[k]? = some f → DataW.trod enc P w 0 (fun _ => true) held n' f.type ((cs.drop f.offset).take (P.cellsOf f.type)) = ys[k]?) →
              (∀ z, z ∈ DataW.weightsEach P (fl.map (·.type)) (ys.map (·.1)) → z ≤ reachBytes) → cs.length = o + b.sz → ∃ y : b.Den, RdC (fzW w) b y (cs.drop o) ∧ Bd b y ∧ wt b y ≤ ((ys.map (·.1)).map bk).sum := by
            intro fl
            induction fl with
            | nil =>
              intro o b ys hty _ _ _ hlen
              simp only [tyFs, Option.some.injEq] at hty
              subst hty
              exact ⟨(), by simp only [RdC]; exact List.drop_of_length_le (by simp only [Ty.sz] at hlen; omega), trivial, Nat.zero_le _⟩
            | cons f fl ihf =>
              intro o b ys hty hyl hys hws hlen
              simp only [tyFs] at hty
              split at hty
              · rename_i a1 ha1
                cases hbo : Nat.beq f.offset o <;> rw [hbo] at hty
                · cases hty
                rw [cond_true] at hty
                have hbo := Nat.eq_of_beq_eq_true hbo
                split at hty
                · rename_i b1 hb1
                  cases hty
                  cases ys with
                  | nil => simp at hyl
                  | cons y0 ys =>
                    have h0 := hys 0 f rfl
                    rw [hbo, tyX_sz hT ha1] at h0
                    simp only [Ty.sz] at hlen
                    simp only [List.map_cons, DataW.weightsEach, List.mem_append] at hws
                    obtain ⟨u1, q1, q2, q5⟩ := ih f.type a1 ha1 n' _ y0 h0 fun z hz => hws z (.inl hz)
                    obtain ⟨u2, q3, q4, q6⟩ := ihf (o + a1.sz) b1 ys hb1 (by simpa using hyl) (fun k f' hk => by simpa using hys (k + 1) f' (by simpa using hk)) (fun z hz => hws z (.inr hz)) (by omega)
                    refine ⟨(u1, u2), ⟨_, _, ?_, q1, q3⟩, ⟨q2, q4⟩, by simp only [List.map_cons, List.sum_cons, wt]; omega⟩
                    rw [← List.drop_drop]
                    exact (List.take_append_drop _ _).symm
                · cases hty
              · cases hty
          obtain ⟨y, k1, k2, k3⟩ := key fs.toList 0 a xs ha (by simpa using hxl) (fun k f hk => hxs k f (by simpa using hk)) (by simpa using hw) (by omega)
          exact ⟨y, by simpa using k1, k2, Nat.le_trans k3 (hbk.agg _)⟩
        · cases h
      · cases h
    · cases h

/-- an argument that is read is data -/
theorem arg_rdB {bk : DataW H → Nat} (hbk : Bulk bk) {m : Nat} {t : TypeId} {a : Ty} (ha : tyX T m t = some a) {v : Value} {base : Nat} (hv : Value.okWide P w .any base t v) {d : DataW H} {ps : List MemPlace} (h : DataW.Trod enc P w 0 (fun _ => true) held t v d ps) (hw : ∀ z, z ∈ d.weights P t → z ≤ reachBytes) :
    ∃ y : a.Den, RdV (fzW w) a y v ∧ Bd a y ∧ wt a y ≤ bk d := by
  obtain ⟨n, hn⟩ := h
  obtain ⟨y, h1, h2⟩ := trod_rdB hT hbk m t a ha n _ _ hn hw
  refine ⟨y, ?_, h2⟩
  cases m with
  | zero => cases ha
  | succ m =>
    simp only [tyX] at ha
    split at ha
    · rename_i d' i hd hi
      have hu := hT.und t d' hd
      unfold Value.okWide at hv
      rw [hu] at hv
      have one : (∀ cs, v ≠ .agg cs) → a.agg = false → RdV (fzW w) a y v := fun hne hag => by
        have : v.cells.toList = [v] := by cases v <;> first | rfl | exact absurd rfl (hne _)
        rw [this] at h1
        exact .inr ⟨hag, h1⟩
      have nagg : ∀ (d0 : TypeDesc), d0 = d' → (∀ fs, d0 ≠ .struct fs) → (∀ n e, d0 ≠ .array n e) → Cell.okWide P w .any base t v → ∀ cs, v ≠ .agg cs := by
        rintro d0 rfl _ _ hc cs rfl
        unfold Cell.okWide Cell.ok at hc
        rw [hu] at hc
        cases d0 <;> exact hc
      split at ha
      · cases hb : Nat.beq i.size 1 <;> rw [hb] at ha <;> cases ha
        exact one (nagg _ rfl (by simp) (by simp) hv) rfl
      · cases hb : Nat.beq i.size 1 <;> rw [hb] at ha <;> cases ha
        exact one (nagg _ rfl (by simp) (by simp) hv) rfl
      · cases hb : Nat.beq i.size 1 <;> rw [hb] at ha <;> cases ha
        exact one (nagg _ rfl (by simp) (by simp) hv) rfl
      · cases hb : Nat.beq i.size 1 <;> rw [hb] at ha <;> cases ha
        exact one (nagg _ rfl (by simp) (by simp) hv) rfl
      · simp only [Bool.cond_eq_ite] at ha
        split at ha
        · split at ha
          · cases ha
            exact one (nagg _ rfl (by simp) (by simp) hv) rfl
          · cases ha
        · cases ha
      · split at ha
        · rename_i a' ha'
          cases hb : Nat.beq a'.sz i.size <;> rw [hb] at ha <;> cases ha
          obtain ⟨cs, rfl, -⟩ := hv
          exact .inl ⟨tyFs_agg ha', cs, rfl, h1⟩
        · cases ha
      · cases ha
    · cases ha
/-- arguments that a row reads are data -/
theorem trodAll_rdB {bk : DataW H → Nat} (hbk : Bulk bk) {m : Nat} {base : Nat} : ∀ {ts : List TypeId} {vs : List Value} {ds : List (DataW H)} {ps : List MemPlace} {as : List Ty}, DataW.TrodAll enc P w 0 (fun _ => true) held ts vs ds ps → tyXL T m ts = some as →
    (∀ (j : Nat) t v, ts[j]? = some t → vs[j]? = some v → Value.okWide P w .any base t v) → (∀ z, z ∈ DataW.weightsEach P ts ds → z ≤ reachBytes) → ∃ x : DenL as, RdAll (fzW w) as x vs ∧ BdL as x ∧ wtL as x ≤ (ds.map bk).sum
  | [], [], [], ps, as, _, ha, _, _ => by
    simp only [tyXL, Option.some.injEq] at ha
    subst ha
    exact ⟨(), rfl, trivial, Nat.zero_le _⟩
  | t :: ts, v :: vs, d :: ds, ps, as, h, ha, hv, hw => by
    obtain ⟨p, q, h1, h2, rfl⟩ := h
    simp only [tyXL] at ha
    split at ha
    · rename_i a as' h3 h4
      cases ha
      simp only [DataW.weightsEach, List.mem_append] at hw
      obtain ⟨y, g1, g2, g5⟩ := arg_rdB hT hbk h3 (hv 0 t v rfl rfl) h1 fun z hz => hw z (.inl hz)
      obtain ⟨x, g3, g4, g6⟩ := trodAll_rdB hbk h2 h4 (fun j t v a b => hv (j + 1) t v (by simpa using a) (by simpa using b)) fun z hz => hw z (.inr hz)
      exact ⟨(y, x), ⟨v, vs, rfl, g1, g3⟩, ⟨g2, g4⟩, by simp only [List.map_cons, List.sum_cons, wtL]; omega⟩
    · cases ha
  | [], _ :: _, _, _, _, h, _, _, _ => by cases h
  | [], [], _ :: _, _, _, h, _, _, _ => by cases h
  | _ :: _, [], _, _, _, h, _, _, _ => by cases h
  | _ :: _, _ :: _, [], _, _, h, _, _, _ => by cases h
end
/-- a law of data that is true at these data -/
theorem law_calls1 {P : Program} {w : World} {gl : List (Nat × List Value)} {f : FuncId} {as : List Ty} {pre : DenL as → Bool} {g : DenL as → DenL [.bool]} (hC : PureC P gl f ⟨as, [.bool], pre, g⟩) {x : DenL as} (h1 : pre x = true) (h2 : g x = (true, ())) (hgl : GlW gl w)
    {args : Array Value} (hx : RdAll (fzW w) as x args.toList) : Calls P f args w fun e w' => e = .returned (.bool true) ∧ Same w w' := by
  refine (hC (fzW w) w args x (fzW_ok w) hgl hx h1).mono ?_
  rintro e w' ⟨vs, fz', rfl, -, -, -, h3, h4⟩
  refine ⟨?_, h4⟩
  have h3 : RdAll fz' [.bool] (g x) vs := h3
  rw [h2] at h3
  obtain ⟨v, r, rfl, h5, rfl⟩ := h3
  rcases h5 with ⟨hag, -⟩ | ⟨-, h5⟩
  · cases hag
  · simp only [RdC, List.cons.injEq, and_true] at h5
    subst h5; rfl
end Go.Eng

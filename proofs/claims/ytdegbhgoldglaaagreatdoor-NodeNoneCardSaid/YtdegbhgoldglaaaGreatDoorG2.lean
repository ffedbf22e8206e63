/-
  Part of the proof: CusT ShelfW Idx Clt. No condition.
-/
import Derived.Test.YtdegbhgoldglaaaGreatDoorG1
import Derived.Shelf.Strings.Search2
import Derived.Test.YtdegbhgoldglaaaGreatDoorProg
import Derived.Test.YtdegbhgoldglaaaGreatDoorEnv
namespace Go.Eng
open Go
/-- new objects made out of what is new in memory -/
theorem Post.of_matP {P : Program} {D : Nat → Prop} {ι ι' : Nat → Reg} {σ σ' : St} {w w' : World} {own : List Nat} {rh : List Nat} (hw : σ.wf) (m : MatP P w' (fun _ => none) own D ι σ σ' ι') (hs : w.heap.size ≤ w'.heap.size)
    (h1 : w'.os = w.os) (h2 : w'.output = w.output) (hh : ∀ b, b < w.heap.size → w'.heap[b]? = w.heap[b]?) (ho : ∀ b, b ∈ own → w.heap.size ≤ b ∧ b < w'.heap.size) :
    Post P D (σ.rng σ') ι σ.H w ⟨[], rh, [], []⟩ ι' σ'.H w' where
  io := m.io
  size := hs
  os := h1
  out := h2
  hdr := fun id x hx e => by
    have hx : σ.rng σ' id := by rcases hx with hx | hx; cases hx; exact hx
    obtain ⟨o, g1, g2, _⟩ := m.new id hx
    rw [St.hdr_of g1] at e
    cases e
    exact g2
  cel := fun id k v hx _ e => by
    have hx : σ.rng σ' id := by rcases hx with (hx | hx) | hx; cases hx; cases hx; exact hx
    obtain ⟨o, g1, _, g3⟩ := m.new id hx
    refine g3 k v ?_
    simp only [St.H, g1] at e
    exact e
  ahdr := fun id hn _ => by simp only [St.H, m.a.old id hn]
  acel := fun id k hn _ => by simp only [St.H, m.a.old id hn]
  cfr := fun b hb _ => by rw [hh b hb]; exact ObjBut.refl _ _
  fresh := fun id hn _ b hb => .inl (ho b (m.own id hn b hb))
  freshF := fun id hn _ b hb => by
    obtain ⟨c, hc⟩ := hb
    have := m.fz id hn b c hc
    cases this
  dist := fun i j hi hj _ _ hij b hb => ⟨m.dist i j hi hj hij b hb, fun ⟨c, hc⟩ => by have := m.fz j hj b c hc; cases this⟩
  nl := fun id hn => St.hdr_none hw id hn.1
  wl := fun id k hx => by rcases hx with hx | hx <;> cases hx
  wrm := fun id hn hx => hx.of_hdr (by simp only [St.H, m.a.old id hn])
  wrow := fun id k hx => by rcases hx with hx | hx <;> cases hx
end Go.Eng
namespace Go.Proofs.YtdegbhgoldglaaaGreatDoor
open Go Go.Eng
set_option maxRecDepth 1000000
def pairE (e : MapEntry) : Value × Value := (e.key, e.val)
def tearG (n : Int) (a : Value × Value) : Option (Value × Value) :=
  match (tearV n a.2).2 with
  | some v => some (a.1, v)
  | none => none
def tearSum (n : Int) : List (Value × Value) → Nat
  | [] => 0
  | a :: l => (tearV n a.2).1 + tearSum n l
def tearOk (a : Value × Value) : Bool :=
  match a.1, a.2 with
  | .string _, .agg c => match c.toList with
    | [.string s, .int .i64 (.ofNat p), .bool _] => Nat.ble p s.size && Nat.blt s.size 1099511627776
    | _ => false
  | _, _ => false
theorem tearOk_spec {a : Value × Value} (h : tearOk a = true) : ∃ (k s : ByteArray) (p : Nat) (kp : Bool), a.1 = .string k ∧ a.2 = .agg #[.string s, .int .i64 p, .bool kp] ∧ p ≤ s.size ∧ s.size < 1099511627776 := by
  obtain ⟨x, y⟩ := a
  unfold tearOk at h
  split at h
  · rename_i k c e1 e2
    simp only at e1 e2
    split at h
    · rename_i s p kp hc
      rw [Bool.and_eq_true] at h
      refine ⟨k, s, p, kp, e1, ?_, Nat.le_of_ble_eq_true h.1, by simpa using h.2⟩
      have : c = #[.string s, .int .i64 (Int.ofNat p), .bool kp] := Array.ext' hc
      show y = _
      rw [e2, this]; rfl
    · cases h
  · cases h
theorem tearSum_eq (n : Int) : ∀ V : List MapEntry, tearAdd n V = tearSum n (V.map pairE)
  | [] => rfl
  | e :: V => by simp only [tearAdd, List.map_cons, tearSum, tearSum_eq n V, pairE]
theorem tearSum_perm {n : Int} {V U : List (Value × Value)} (h : V.Perm U) : tearSum n V = tearSum n U := by
  induction h with
  | nil => rfl
  | cons a _ ih => simp only [tearSum, ih]
  | swap a b l => simp only [tearSum]; omega
  | trans _ _ h1 h2 => exact h1.trans h2
theorem tearFold (n : Int) : ∀ (V acc : List MapEntry), acc.map MapEntry.born = List.range acc.length →
    (V.foldl (tearStep n) acc).map pairE = acc.map pairE ++ (V.map pairE).filterMap (tearG n) ∧ (V.foldl (tearStep n) acc).map MapEntry.born = List.range (V.foldl (tearStep n) acc).length
  | [], acc, h => ⟨by simp, h⟩
  | e :: V, acc, h => by
    have hb : (tearStep n acc e).map MapEntry.born = List.range (tearStep n acc e).length := by
      unfold tearStep
      split
      · rw [List.map_append, h, List.length_append, List.length_singleton, List.range_succ]; rfl
      · exact h
    obtain ⟨h1, h2⟩ := tearFold n V (tearStep n acc e) hb
    refine ⟨?_, h2⟩
    rw [List.foldl_cons, h1, List.map_cons, List.filterMap_cons]
    unfold tearStep tearG
    simp only [pairE]
    cases (tearV n e.val).2 with
    | none => rfl
    | some v => simp [pairE]
theorem perm_pairs : ∀ (es : List (Value × Value)) (m : List MapEntry), (m.map MapEntry.key).Perm (es.map Prod.fst) → (es.map Prod.fst).Nodup → (∀ a, a ∈ es → ∃ e, e ∈ m ∧ pairE e = a) → (m.map pairE).Perm es
  | [], m, hp, _, _ => by
    have : m = [] := by
      have := hp.length_eq
      simpa using this
    subst this; exact .nil
  | a :: es, m, hp, hn, hm => by
    obtain ⟨e, he, rfl⟩ := hm a (List.mem_cons_self ..)
    obtain ⟨m1, m2, rfl⟩ := List.append_of_mem he
    rw [List.map_cons, List.nodup_cons] at hn
    have hp' : ((m1 ++ m2).map MapEntry.key).Perm (es.map Prod.fst) := by
      have h1 : ((m1 ++ e :: m2).map MapEntry.key).Perm (e.key :: (m1 ++ m2).map MapEntry.key) := by
        rw [List.map_append, List.map_cons, List.map_append]
        exact List.perm_middle
      have := h1.symm.trans hp
      rw [List.map_cons] at this
      exact this.cons_inv
    have ih := perm_pairs es (m1 ++ m2) hp' hn.2 fun b hb => by
      obtain ⟨x, hx, hxb⟩ := hm b (List.mem_cons_of_mem _ hb)
      refine ⟨x, ?_, hxb⟩
      have hne : x ≠ e := fun h => by
        subst h
        exact hn.1 (List.mem_map.2 ⟨b, hb, by rw [← hxb]⟩)
      rcases List.mem_append.1 hx with h | h
      · exact List.mem_append_left _ h
      · rcases List.mem_cons.1 h with h | h
        · exact absurd h hne
        · exact List.mem_append_right _ h
    have h2 : ((m1 ++ e :: m2).map pairE).Perm (pairE e :: (m1 ++ m2).map pairE) := by
      rw [List.map_append, List.map_cons, List.map_append]
      exact List.perm_middle
    exact h2.trans (ih.cons _)
noncomputable def aTear (args : List Value) (σ : St) : Option (Value × St × Foot) :=
  match args with
  | [.pointer (some ⟨c, 0, none⟩), .int .i64 n] => match σ.heap.get c with
    | some (.row [.int .i64 (.ofNat room), .map (some m)] e false) => match σ.heap.get m with
      | some (.mp es _) => bif Nat.beq e 71 && (es.all tearOk && (Nat.blt (room + tearSum n es) 4611686018427387904 && decide (n < 4611686018427387904))) then
          some (.pointer (some ⟨σ.next + 1, 0, none⟩), (σ.new (.mp (es.filterMap (tearG n)) none)).new (.row [.int .i64 (.ofNat (room + tearSum n es)), .map (some σ.next)] 71 false), ⟨[], [c, m], [], []⟩)
        else none
      | _ => none
    | _ => none
  | _ => none
theorem tearV_plain {n : Int} {v u : Value} (h : (tearV n v).2 = some u) : plainN 7 u = true := by
  unfold tearV at h
  split at h
  · split at h
    · simp only at h
      cases hb : (Nat.blt 0 (tearL n _ _) || _) <;> rw [hb] at h
      · cases h
      · cases h; rfl
    · cases h
  · cases h
theorem aTear_cus {E : Env} {args : List Value} {σ σ' : St} {v : Value} {φ : Foot} (h : aTear args σ = some (v, σ', φ)) : CusOK Tryz.prog E 20 args σ v σ' φ := by
  unfold aTear at h
  split at h
  case h_2 => cases h
  rename_i c n
  split at h
  case h_2 => cases h
  rename_i room m e hg
  split at h
  case h_2 => cases h
  rename_i es ex hgm
  cases hb : (Nat.beq e 71 && (es.all tearOk && (Nat.blt (room + tearSum n es) 4611686018427387904 && decide (n < 4611686018427387904))))
  · rw [hb] at h; cases h
  rw [hb, cond_true] at h
  simp only [Bool.and_eq_true] at hb
  obtain ⟨b0, b1, b2, b3⟩ := hb
  have b0 := Nat.eq_of_beq_eq_true b0
  subst b0
  have b2 : room + tearSum n es < 4611686018427387904 := by simpa using b2
  have b3 : n < 4611686018427387904 := of_decide_eq_true b3
  simp only [Option.some.injEq, Prod.mk.injEq] at h
  obtain ⟨rfl, rfl, rfl⟩ := h
  have hall : ∀ a, a ∈ es → keyK .string a.1 = true := fun a ha => by
    obtain ⟨k, _, _, _, hk, _⟩ := tearOk_spec (List.all_eq_true.1 b1 a ha)
    rw [hk]; rfl
  have wf1 : ∀ hw : σ.wf, (σ.new (.mp (es.filterMap (tearG n)) none)).wf := fun hw => St.new_wf hw _
  refine ⟨by simp only [St.new]; omega, fun hw => ⟨St.new_wf (wf1 hw) _, ?_⟩, fun _ D ι w args' hwf hGI hD hargs ho => ?_⟩
  · have a1 := AFr.new σ (.mp (es.filterMap (tearG n)) none) (⟨[], [], [], []⟩ : Foot)
    have a2 := AFr.new (σ.new (.mp (es.filterMap (tearG n)) none)) (.row [.int .i64 (.ofNat (room + tearSum n es)), .map (some σ.next)] 71 false) (⟨[], [c, m], [], []⟩ : Foot)
    exact a1.trans a2 (by simp only [St.new]; omega) (by simp only [St.new]; omega)
  · have hlr : LR D ι _ args'.toList := LR.of_AR (us := args'.toList) (by simpa using hargs)
    obtain ⟨u1, u2, g1, g2, rfl⟩ : ∃ u1 u2, VR D ι (.pointer (some ⟨c, 0, none⟩)) u1 ∧ VR D ι (.int .i64 n) u2 ∧ args' = #[u1, u2] := by
      generalize hus : args'.toList = us at hlr
      cases hlr with
      | cons ha hr =>
        cases hr with
        | cons hb hr =>
          cases hr
          exact ⟨_, _, ha, hb, Array.ext' hus⟩
    cases g2
    obtain rfl : u1 = .pointer (some ⟨(ι c).blk, (ι c).base + 0, none⟩) := by cases g1; rfl
    have c0 := (ho.ceR c 0 (.int .i64 (.ofNat room)) (.inr (.inl (by simp))) (St.hdr_of hg) (by rw [St.cell_of hg]; rfl)).2
    obtain ⟨v0, c0, hv0⟩ := c0
    cases hv0
    have c1 := (ho.ceR c 1 (.map (some m)) (.inr (.inl (by simp))) (St.hdr_of hg) (by rw [St.cell_of hg]; rfl)).2
    obtain ⟨v1, c1, hv1⟩ := c1
    obtain rfl : v1 = .map (some (ι m).blk) := by cases hv1; rfl
    obtain ⟨ms, clk, q1, q2, q3, q4, q5, q6, q7⟩ := mp_look (d := .string) ho (fun k => .inr (.inl (by simp))) hgm hall
    have hpr : (ms.toList.map pairE).Perm es := perm_pairs es ms.toList q3 q5 fun a ha => by
      obtain ⟨k, hk⟩ := List.mem_iff_getElem?.1 ha
      obtain ⟨x, hx, hxk, hxv⟩ := q7 k a hk
      refine ⟨x, hx, ?_⟩
      obtain ⟨_, s, p, kp, _, h2, _⟩ := tearOk_spec (List.all_eq_true.1 b1 a ha)
      have : x.val = a.2 := plain_eq 8 a.2 x.val (by rw [h2]; rfl) hxv
      exact Prod.ext hxk this
    have hent : ∀ e, e ∈ ms.toList → ∃ (k s : ByteArray) (p : Nat) (kp : Bool), e.key = .string k ∧ e.val = .agg #[.string s, .int .i64 p, .bool kp] ∧ p ≤ s.size ∧ s.size < 1099511627776 := fun e he =>
      tearOk_spec (a := pairE e) (List.all_eq_true.1 b1 _ (hpr.mem_iff.1 (List.mem_map_of_mem he)))
    have hsum : tearAdd n ms.toList = tearSum n es := by rw [tearSum_eq, tearSum_perm hpr]
    refine (tear_w w (ι c).blk ((ι c).base + 0) (ι m).blk ms clk (Int.ofNat room) n c0 (by rw [Nat.add_zero]; exact c1) q1 hent q4.1 q4.2 (q3.nodup_iff.2 q5) (Int.natCast_nonneg _) (by rw [hsum]; show (room : Int) + _ < _; omega) b3).mono ?_
    rintro en w' ⟨V, hV, rfl, hI⟩
    have hVp : (V.map pairE).Perm es := (hV.map pairE).trans hpr
    obtain ⟨f1, f2⟩ := tearFold n V [] rfl
    have f1 : (tearOut n V).map pairE = (V.map pairE).filterMap (tearG n) := by rw [List.map_nil, List.nil_append] at f1; exact f1
    have f2 : (tearOut n V).map MapEntry.born = List.range (tearOut n V).length := f2
    have f3 : ((tearOut n V).map pairE).Perm (es.filterMap (tearG n)) := by rw [f1]; exact hVp.filterMap _
    have hadd : tearAdd n V = tearSum n es := by rw [tearSum_eq, tearSum_perm hVp]
    have hmp := hI.mp
    have hrow := hI.row
    rw [hadd] at hrow
    have hsz := hI.size
    have hkn : ((es.filterMap (tearG n)).map Prod.fst).Nodup := by
      have : ∀ l : List (Value × Value), (l.map Prod.fst).Nodup → ((l.filterMap (tearG n)).map Prod.fst).Nodup ∧ ∀ a, a ∈ (l.filterMap (tearG n)).map Prod.fst → a ∈ l.map Prod.fst := by
        intro l
        induction l with
        | nil => intro _; exact ⟨List.nodup_nil, fun a h => h⟩
        | cons a l ih =>
          intro h
          rw [List.map_cons, List.nodup_cons] at h
          obtain ⟨i1, i2⟩ := ih h.2
          rw [List.filterMap_cons]
          unfold tearG
          cases (tearV n a.2).2 with
          | none => exact ⟨i1, fun b hb => List.mem_cons_of_mem _ (i2 b hb)⟩
          | some v =>
            refine ⟨List.nodup_cons.2 ⟨fun hm => h.1 (i2 _ hm), i1⟩, fun b hb => ?_⟩
            rcases List.mem_cons.1 hb with hb | hb
            · rw [hb]; exact List.mem_cons_self ..
            · exact List.mem_cons_of_mem _ (i2 b hb)
      exact (this es q5).1
    -- the new objects
    have m1 : MatP Tryz.prog w' (fun _ => none) [w.heap.size] D ι σ (σ.new (.mp (es.filterMap (tearG n)) none)) (upd ι σ.next (rg w.heap.size 0 0 0)) := by
      refine MatP.one (r := rg w.heap.size 0 0 0) ?_ ?_ (fun b c h => by simp [rg] at h)
      · refine ⟨⟨(tearOut n V).toArray, (tearOut n V).length, hmp, ?_, ⟨fun e he => ?_, ?_⟩, hkn, fun bs c h => by cases h⟩, rfl, rfl, fun b ⟨c, h⟩ => by simp [rg] at h⟩
        · have := f3.map Prod.fst
          rw [List.map_map] at this
          exact this
        · have : e.born ∈ (tearOut n V).map MapEntry.born := List.mem_map_of_mem he
          rw [f2] at this
          exact List.mem_range.1 this
        · show ((tearOut n V).map MapEntry.born).Nodup
          rw [f2]; exact List.nodup_range
      · intro k v hk
        obtain ⟨a, ha, rfl⟩ := Option.map_eq_some_iff.1 hk
        have hma : a ∈ es.filterMap (tearG n) := List.mem_of_getElem? ha
        obtain ⟨e, he, hea⟩ := List.mem_map.1 (f3.mem_iff.2 hma)
        refine ⟨by rw [upd_eq]; rfl, .tuple #[e.key, e.val], .inr ⟨(tearOut n V).toArray, (tearOut n V).length, by rw [upd_eq]; exact hmp, e, he, rfl⟩, ?_⟩
        obtain ⟨b, hbm, hbg⟩ := List.mem_filterMap.1 hma
        unfold tearG at hbg
        split at hbg
        · rename_i u hu
          cases hbg
          have hk := hall b hbm
          have e1 : e.key = b.1 := congrArg Prod.fst hea
          have e2 : e.val = u := congrArg Prod.snd hea
          rw [e1, e2]
          have hp : plainN 8 (.tuple #[b.1, u]) = true := by
            obtain ⟨k, _, _, _, hk, _⟩ := tearOk_spec (List.all_eq_true.1 b1 b hbm)
            show [b.1, u].all (plainN 7) = true
            rw [hk]
            simp only [List.all_cons, List.all_nil, tearV_plain hu, Bool.and_true]
            rfl
          exact plain_refl 8 _ hp
        · cases hbg
    have m2 : MatP Tryz.prog w' (fun _ => none) [w.heap.size + 1] (fun i => D i ∨ σ.rng (σ.new (.mp (es.filterMap (tearG n)) none)) i) (upd ι σ.next (rg w.heap.size 0 0 0)) (σ.new (.mp (es.filterMap (tearG n)) none))
        ((σ.new (.mp (es.filterMap (tearG n)) none)).new (.row [.int .i64 (.ofNat (room + tearSum n es)), .map (some σ.next)] 71 false)) (upd (upd ι σ.next (rg w.heap.size 0 0 0)) (σ.next + 1) (rg (w.heap.size + 1) 0 2 2)) := by
      refine MatP.one (r := rg (w.heap.size + 1) 0 2 2) ?_ ?_ (fun b c h => by simp [rg] at h)
      · refine ⟨_, 71, (0, 0), hrow, rfl, Nat.le_refl _, ⟨rfl, fun b ⟨c, h⟩ => by simp [rg] at h⟩, fun _ => ⟨rfl, fun i hi => ?_, fun o _ h => by omega⟩⟩
        have hi0 : Tryz.prog.info? 71 = some Tryz.t71 := by kernel_rfl
        rw [hi0] at hi
        cases hi
        have hz : Tryz.t71.size = 2 := by kernel_rfl
        rw [hz]
        exact ⟨rfl, rfl, by simp⟩
      · intro k v hk
        have own : (upd (upd ι σ.next (rg w.heap.size 0 0 0)) (σ.next + 1) (rg (w.heap.size + 1) 0 2 2) (σ.next + 1)) = rg (w.heap.size + 1) 0 2 2 := upd_eq _ _ _
        have old : (upd (upd ι σ.next (rg w.heap.size 0 0 0)) (σ.next + 1) (rg (w.heap.size + 1) 0 2 2) σ.next) = rg w.heap.size 0 0 0 := by rw [upd_ne _ _ (by omega), upd_eq]
        refine ⟨by show (upd _ (σ.next + 1) _ (σ.next + 1)).own = true; rw [own]; rfl, ?_⟩
        match k with
        | 0 =>
          cases hk
          refine ⟨.int .i64 (Int.ofNat room + (tearSum n es : Nat)), .inl ?_, ?_⟩
          · show w'.cell? ⟨(upd _ (σ.next + 1) _ (σ.next + 1)).blk, (upd _ (σ.next + 1) _ (σ.next + 1)).base + 0, none⟩ = _
            rw [own]
            simp [World.cell?, rg, hrow]
          · have : (.int .i64 (Int.ofNat room + (tearSum n es : Nat)) : Value) = .int .i64 (Int.ofNat (room + tearSum n es)) := rfl
            rw [this]; exact .int _ _
        | 1 =>
          cases hk
          refine ⟨.map (some w.heap.size), .inl ?_, ?_⟩
          · show w'.cell? ⟨(upd _ (σ.next + 1) _ (σ.next + 1)).blk, (upd _ (σ.next + 1) _ (σ.next + 1)).base + 1, none⟩ = _
            rw [own]
            simp [World.cell?, rg, hrow]
          · have := VR.mapP (D := fun i => D i ∨ σ.rng (σ.new (.mp (es.filterMap (tearG n)) none)) i) (ι := upd (upd ι σ.next (rg w.heap.size 0 0 0)) (σ.next + 1) (rg (w.heap.size + 1) 0 2 2)) σ.next (.inr (St.rng_new.2 rfl))
            rw [old] at this
            exact this
        | k + 2 => cases hk
    have hD' : ∀ id, σ.rng ((σ.new (.mp (es.filterMap (tearG n)) none)).new (.row [.int .i64 (.ofNat (room + tearSum n es)), .map (some σ.next)] 71 false)) id → ¬ D id := hD
    have mm := m1.trans hD' m2 fun b h h' => by
      simp only [List.mem_singleton] at h h'; omega
    refine ⟨_, _, rfl, ?_, Post.of_matP hwf mm (by omega) hI.os hI.out hI.old fun b hb => ?_⟩
    · have := VR.ptr (D := fun i => D i ∨ σ.rng ((σ.new (.mp (es.filterMap (tearG n)) none)).new (.row [.int .i64 (.ofNat (room + tearSum n es)), .map (some σ.next)] 71 false)) i) (ι := upd (upd ι σ.next (rg w.heap.size 0 0 0)) (σ.next + 1) (rg (w.heap.size + 1) 0 2 2)) (σ.next + 1) 0 (.inr (by simp only [St.rng, St.new]; omega))
      rw [upd_eq] at this
      exact this
    · have : b = w.heap.size ∨ b = w.heap.size + 1 := by simpa using hb
      omega
end Go.Proofs.YtdegbhgoldglaaaGreatDoor
namespace Go.Proofs
open Go.Shelf
def Tryz.lays219_ren : Go.Shelf.Ren := ⟨fun | 219 => 418 | 217 => 376 | 225 => 451 | 224 => 452 | 267 => 453 | 266 => 432 | 314 => 475 | n => n, fun | 9 => 9 | 3 => 3 | 4 => 4 | 5 => 5 | 46 => 383 | 146 => 474 | 51 => 381 | n => n, fun | 1 => 5 | n => n⟩
theorem Tryz.lays219 : Go.Proofs.Lays.n219 Tryz.prog Tryz.lays219_ren := {
  mixed := by kernel_rfl
  f217 := Tryz.func376.trans (congrArg some (by kernel_rfl))
  f219 := Tryz.func418.trans (congrArg some (by kernel_rfl))
  f224 := Tryz.func452.trans (congrArg some (by kernel_rfl))
  f225 := Tryz.func451.trans (congrArg some (by kernel_rfl))
  f266 := Tryz.func432.trans (congrArg some (by kernel_rfl))
  f267 := Tryz.func453.trans (congrArg some (by kernel_rfl))
  f314 := Tryz.func475.trans (congrArg some (by kernel_rfl))
  t3 := Tryz.underlying3
  a3 := Tryz.isAgg3
  z3 := Tryz.sizeOf3
  v3 := Tryz.zeroValue3
  t4 := Tryz.underlying4
  a4 := Tryz.isAgg4
  z4 := Tryz.sizeOf4
  v4 := Tryz.zeroValue4
  t5 := Tryz.underlying5
  a5 := Tryz.isAgg5
  z5 := Tryz.sizeOf5
  v5 := Tryz.zeroValue5
  t9 := Tryz.underlying9
  a9 := Tryz.isAgg9
  z9 := Tryz.sizeOf9
  v9 := Tryz.zeroValue9
  t46 := Tryz.underlying383
  a46 := Tryz.isAgg383
  z46 := Tryz.sizeOf383
  v46 := Tryz.zeroValue383
  t51 := Tryz.underlying381
  a51 := Tryz.isAgg381
  z51 := Tryz.sizeOf381
  v51 := Tryz.zeroValue381
  t146 := Tryz.underlying474
  a146 := Tryz.isAgg474
  z146 := Tryz.sizeOf474
  v146 := Tryz.zeroValue474
  g1 := by kernel_rfl }
open Go.RowKit Go.Lib in
/-- internal/stringslite.Index (what strings.Index calls) AT A substr OF ONE BYTE c: IT RETURNS 'Lib.indexByte s c'; the world is as it was. (LAID: no walk: one application.) -/
theorem Tryz.stringslite_Index_one (s : ByteArray) (c : UInt8) (w : World) :
    Calls Tryz.prog 418 #[.string s, .string ⟨#[c]⟩] w fun e w' => e = .returned (.int .i64 (Lib.indexByte s.data.toList c)) ∧ w' = w := Any.stringslite_Index_one Tryz.lays219 s c w
open Go.RowKit Go.Lib in
/-- internal/stringslite.Index (what strings.Index calls) AT A substr OF WHATEVER LENGTH: IT RETURNS 'Lib.index s substr'; the world is as it was. 'm': what internal/bytealg.MaxLen holds: whatever. (LAID: no walk: one application.) -/
theorem Tryz.stringslite_Index (s sub : ByteArray) (m : Int) (w : World) (hs : s.size < 4294967281) (hm : w.cell? ⟨5, 0, none⟩ = some (.int .i64 m)) :
    Calls Tryz.prog 418 #[.string s, .string sub] w fun e w' => e = .returned (.int .i64 (Lib.index s.data.toList sub.data.toList)) ∧ w' = w := Any.stringslite_Index Tryz.lays219 s sub m w hs hm
end Go.Proofs
namespace Go.Proofs.YtdegbhgoldglaaaGreatDoor
open Go Go.Eng
/-- stringslite.Index at texts that are written out -/
noncomputable def sumI (sum : FuncId → List Value → Option Value) (f : FuncId) (a : List Value) : Option Value :=
  bif Nat.beq f 418 then match a with
    | [.string s, .string t] => bif Nat.blt s.size 60 then some (.int .i64 (Lib.index s.data.toList t.data.toList)) else none
    | _ => none
  else sum f a
theorem env_idx {sum : FuncId → List Value → Option Value} {spec : FuncId → Option PSpec} (h : (envC sum spec).OK Tryz.prog) : (envC (sumI sum) spec).OK Tryz.prog :=
  env_ok (fun f a v hs => by
    unfold sumI at hs
    cases hb : Nat.beq f 418
    · rw [hb, cond_false] at hs
      exact h.sum f a v hs
    · rw [hb, cond_true] at hs
      rw [beq_eq hb]
      split at hs
      · rename_i s t
        cases hl : Nat.blt s.size 60
        · rw [hl] at hs; cases hs
        · rw [hl, cond_true] at hs
          cases hs
          have hl : s.size < 60 := by simpa using hl
          refine ⟨rfl, rfl, fun w hw => ?_⟩
          obtain ⟨u, hu, hr⟩ := hw.1 (5, [ai .i64]) (by simp [glC]) 0 (ai .i64) rfl
          rcases hr with ⟨hp, _⟩ | ⟨b, he, _⟩ | ⟨k, m, he, rfl⟩
          · cases hp
          · cases he
          · cases he
            refine (Tryz.stringslite_Index s t m w (by omega) hu).mono ?_
            rintro e w' ⟨rfl, rfl⟩
            exact ⟨rfl, Nat.le_refl _, rfl, rfl, fun _ _ => rfl⟩
      · cases hs) h.spec
end Go.Proofs.YtdegbhgoldglaaaGreatDoor
namespace Go.Proofs.YtdegbhgoldglaaaGreatDoor
open Go Go.Eng Nice
set_option maxRecDepth 1000000
noncomputable def cusB : FuncId → List Value → St → Option (Value × St × Foot) := fun f args σ =>
  bif Nat.beq f 20 then aTear args σ else bif Nat.beq f 392 then aDel (.int .i64 0) args σ else bif Nat.beq f 318 then aDel (.string ⟨#[]⟩) args σ else cus0 f args σ
theorem cusB_ok {E : Eng.Env} (hG : E.G = 10) (hgl : E.gl = glC) {f : FuncId} {args : List Value} {σ σ' : St} {v : Value} {φ : Foot} (h : cusB f args σ = some (v, σ', φ)) : CusOK Tryz.prog E f args σ v σ' φ := by
  unfold cusB at h
  cases h1 : Nat.beq f 20
  · rw [h1, cond_false] at h
    cases h2 : Nat.beq f 392
    · rw [h2, cond_false] at h
      cases h3 : Nat.beq f 318
      · rw [h3, cond_false] at h
        exact plainP_ok (E := envS [(179, gmarkS)]) (envS_ok ⟨gmark_c, trivial⟩) hG hgl rfl h
      · rw [h3, cond_true] at h
        rw [beq_eq h3]
        exact aDel_cus rfl (fun b off n c i j vs w => delS b off n c i j vs w) h
    · rw [h2, cond_true] at h
      rw [beq_eq h2]
      exact aDel_cus rfl (fun b off n c i j vs w => delI b off n c i j vs w) h
  · rw [h1, cond_true] at h
    rw [beq_eq h1]
    exact aTear_cus h
noncomputable def envT (sum : FuncId → List Value → Option Value) (l : List Ent) : Eng.Env := { envC sum spec0 with cus := cusOr (tabF l) cusB, conc := true }
def EO (e : Ent) : Prop := ∀ E : Eng.Env, E.G = 10 → E.gl = glC → EntOK Tryz.prog E e
def AllEO : List Ent → Prop
  | [] => True
  | e :: l => EO e ∧ AllEO l
theorem allEO_mem : ∀ {l : List Ent}, AllEO l → ∀ e, e ∈ l → EO e
  | e :: l, h, x, hx => by
    rcases List.mem_cons.1 hx with rfl | hx
    · exact h.1
    · exact allEO_mem h.2 x hx
abbrev SumOK (sum : FuncId → List Value → Option Value) : Prop := (envC sum spec0).OK Tryz.prog
theorem envT_ok {sum : FuncId → List Value → Option Value} (h : SumOK sum) {l : List Ent} (hl : AllEO l) : (envT sum l).OK Tryz.prog :=
  ⟨h.T, h.fn, h.ext, h.sum, h.gl, h.mixed, h.spec, h.mnz, h.cmp, h.osp, h.vsp, fun f args σ v σ' φ hc => by
    unfold envT cusOr at hc
    simp only at hc
    split at hc
    · rename_i r hr
      cases hc
      exact tabF_ok (fun e he => allEO_mem hl e he _ rfl rfl) hr
    · exact cusB_ok rfl rfl hc⟩
noncomputable def chk (sum : FuncId → List Value → Option Value) (l : List Ent) (e : Ent) : Bool := e.ok && (e.shut && (Nat.ble 10 e.n0 && e.good (kRun Tryz.prog (envT sum l) 100000 e.f e.a e.s0)))
theorem eo {sum : FuncId → List Value → Option Value} (h : SumOK sum) {l : List Ent} (hl : AllEO l) {e : Ent} (hk : chk sum l e = true) : EO e := fun E hG hgl f args σ hh => by
  unfold chk at hk
  simp only [Bool.and_eq_true] at hk
  exact Ent.cus (envT_ok h hl) hG hgl hk.2.2.2 hk.1 hk.2.1 hk.2.2.1 hh
/-! the printed values -/
@[reducible] def vI (n : Int) : Value := .int .i64 n
@[reducible] def vN : Value := .pointer none
@[reducible] def vP (b o : Nat) : Value := .pointer (some ⟨b, o, none⟩)
@[reducible] def vS (b o l c : Nat) : Value := .slice (some ⟨b, o, none⟩) l c
@[reducible] def vU (b o l : Nat) : Value := .slice (some ⟨b, o, none⟩) l unk
noncomputable def bL (n : Nat) : Nat → List UInt8 → List UInt8 := Nat.rec (fun _ l => l) (fun _ ih x l => ih (x / 256) (UInt8.ofNat (x % 256) :: l)) n
noncomputable def bN (n x : Nat) : ByteArray := ⟨⟨bL n x []⟩⟩
def v0 : Value := .string ⟨#[]⟩
noncomputable def vB (n x : Nat) : Value := .string (bN n x)
@[reducible] def oR (cs : List Value) (e : TypeId) : AO := .row cs e false
end Go.Proofs.YtdegbhgoldglaaaGreatDoor

/-
  The engine, part J: strings to bytes, new slices, structs built, iterators over strings. No condition.
-/
import Derived.Test.YtdbaigcnlmnliaaGreatDoorEngI
noncomputable section
namespace Go.Eng
open Go
section
variable {P : Program} {T : TE} (hT : T.OK P) {D : Nat → Prop} {ι : Nat → Reg} {σ : St} {w : World}

/-! ### a string to bytes -/
def aStringToBytes (T : TE) (σ : St) (elem : TypeId) (s : ByteArray) : Option R :=
  match T.inf elem with
  | some i => bif Nat.beq i.size 1 then some ⟨.slice (some ⟨σ.next, 0, none⟩) s.size unk, σ.new (.row (bytesV s.data.toList) elem false), .nil⟩ else none
  | none => none

theorem modify_push (h : Array Obj) (o : Obj) (f : Obj → Obj) : (h.push o).modify h.size f = h.push (f o) := by
  apply Array.ext_getElem?
  intro j
  rw [Array.getElem?_modify, Array.getElem?_push, Array.getElem?_push]
  by_cases e : j = h.size
  · subst e; simp
  · simp [e, Ne.symm e]

include hT
theorem aStringToBytes_sound {elem : TypeId} {s : ByteArray} {r : R} (h : aStringToBytes T σ elem s = some r) : Sound P D ι σ w (Conv.stringToBytes elem s) r := by
  unfold aStringToBytes at h
  split at h
  · rename_i i hi
    cases hb : Nat.beq i.size 1
    · rw [hb] at h; cases h
    · rw [hb, cond_true] at h
      have hz := Nat.eq_of_beq_eq_true hb
      cases h
      refine ⟨by simp [St.new], fun hw => ⟨St.new_wf hw _, AFr.new _ _ _⟩, fun hw hD _ => ?_⟩
      have hDn : ¬ D σ.next := hD _ (by simp [St.rng, St.new])
      let cap := (Question.appendCap s.size 0 elem).cut (w.tape w.drawn (.appendCap s.size 0 elem))
      have hcap : s.size ≤ cap := cut_ge _ _ _ _
      let c : Array Value := s.data.map (fun b => Value.int .u8 b.toNat) ++ Array.replicate (cap - s.size) (.int .u8 0)
      have hc : c.size = cap := by
        have hs : s.data.size = s.size := rfl
        simp only [c, Array.size_append, Array.size_map, Array.size_replicate, hs]; omega
      have hlen : (bytesV s.data.toList).length = s.size := by rw [bytesV_len]; simp
      refine ⟨.slice (some ⟨w.heap.size, 0, none⟩) s.size cap, upd ι σ.next (rg w.heap.size 0 c.size 1), { w with drawn := w.drawn + 1, heap := w.heap.push (.cells c elem (c.size, c.size + 1)) }, ?_, ?_, ?_⟩
      · have hq : (Question.appendCap s.size 0 elem).forced = false := rfl
        have hg : (w.heap.push (.cells c elem (0, 0)))[w.heap.size]? = some (.cells c elem (0, 0)) := heap_push_new w _
        simp only [Conv.stringToBytes, Sem.run_bind, run_choose, hq, Bool.false_eq_true, if_false, Result.andThen_ok, newRow, run_newObj, Sem.run_pure, markStringish, run_shape, World.shape?]
        show ((match (match (w.heap.push (.cells c elem (0, 0)))[w.heap.size]? with | some (.cells c elem _) => some (elem, c.size) | _ => none) with | some (_, n) => freeze { block := w.heap.size, off := n } 1 | _ => Pure.pure ()).run P _).andThen _ = _
        rw [hg]
        simp only [run_freeze, Result.andThen_ok, World.freeze]
        rw [if_neg (by omega)]
        simp only [modify_push, beq_self_eq_true, if_true]
        rfl
      · have := VR.slU (D := fun i => D i ∨ σ.rng (σ.new (.row (bytesV s.data.toList) elem false)) i) (ι := upd ι σ.next (rg w.heap.size 0 c.size 1)) σ.next 0 s.size cap (.inr (St.rng_new.2 rfl)) hcap (by rw [upd_eq, hc]; simp)
        rw [upd_eq] at this
        exact this
      · refine Post.new hw hDn ?_ ?_ ?_ ?_ rfl rfl rfl rfl rfl
        · omega
        · intro j hj
          rw [hT.inf _ _ hi] at hj; cases hj; exact ⟨hz.symm, by rw [hz]; exact Nat.mod_one _⟩
        · intro o ho; omega
        · intro k v hk
          rw [bytesV_eq] at hk
          simp only [List.getElem?_map, Option.map_eq_some_iff] at hk
          obtain ⟨b, hb1, rfl⟩ := hk
          refine ⟨.int .u8 b.toNat, ?_, .int _ _⟩
          have hlt : k < s.data.size := by
            rcases Nat.lt_or_ge k s.data.size with h | h
            · exact h
            · rw [List.getElem?_eq_none (by simpa using h)] at hb1; cases hb1
          simp only [c]
          rw [Array.getElem?_append_left (by simpa using hlt), Array.getElem?_map]
          rw [Array.getElem?_toList] at hb1
          rw [hb1]; rfl
  · cases h
omit hT

/-! ### new slices -/
def repL : Nat → List Value → List Value
  | 0, _ => []
  | n + 1, zs => zs ++ repL n zs
theorem repL_len (zs : List Value) : ∀ n, (repL n zs).length = n * zs.length
  | 0 => by simp [repL]
  | n + 1 => by rw [repL, List.length_append, repL_len zs n, Nat.add_mul]; omega
theorem repL_get (zs : List Value) : ∀ (n k : Nat), k < n * zs.length → (repL n zs)[k]? = zs[k % zs.length]?
  | 0, k, h => by omega
  | n + 1, k, h => by
    rw [repL]
    by_cases hk : k < zs.length
    · rw [List.getElem?_append_left hk, Nat.mod_eq_of_lt hk]
    · rw [List.getElem?_append_right (by omega), repL_get zs n _ (by rw [Nat.add_mul] at h; omega)]
      congr 1
      conv => rhs; rw [show k = (k - zs.length) + zs.length by omega, Nat.add_mod_right]
theorem repL_eq (z : Array Value) (n : Nat) : ((Array.range (n * z.size)).map (z[· % z.size]!)) = (repL n z.toList).toArray := by
  apply Array.ext_getElem?
  intro k
  simp only [Array.getElem?_map, List.getElem?_toArray]
  by_cases hk : k < n * z.size
  · rw [repL_get _ _ _ (by simpa using hk)]
    have hz : 0 < z.size := by
      rcases Nat.eq_zero_or_pos z.size with h | h
      · rw [h] at hk; simp at hk
      · exact h
    have hm : k % z.size < z.size := Nat.mod_lt _ hz
    simp [hk, hm]
  · rw [List.getElem?_eq_none (by rw [repL_len]; simpa using hk)]
    simp [hk]

def aMakeSlice (T : TE) (σ : St) (t : TypeId) (l c : Value) : Option R :=
  match l, c with
  | .int _ (.ofNat l), .int _ (.ofNat c) => match T.und t with
    | some (.slice elem) => match T.inf elem with
      | some e => match e.zero with
        | some z => bif Nat.ble l c && Nat.ble c 1099511627776 && Nat.ble (e.bytes * c) 281474976710656 && Nat.beq z.cells.size e.size && plainN 8 z then
            some ⟨.slice (some ⟨σ.next, 0, none⟩) l c, σ.new (.row (repL c z.cells.toList) elem false), .nil⟩ else none
        | none => none
      | none => none
    | _ => none
  | _, _ => none

theorem wrap64_small {n : Nat} (h : n ≤ 1099511627776) : IntKind.i64.wrap (n : Int) = n := by
  have h1 : (n : Int) % (2 ^ IntKind.i64.bits : Int) = n := Int.emod_eq_of_lt (by omega) (by show (n : Int) < 2 ^ 64; omega)
  have h2 : ¬ ((n : Int) ≥ (2 ^ (IntKind.i64.bits - 1) : Int)) := by show ¬ ((n : Int) ≥ 2 ^ 63); omega
  simp only [IntKind.wrap, h1, h2, decide_false, Bool.and_false, Bool.false_eq_true, if_false]

include hT
theorem aMakeSlice_sound {t : TypeId} {l l' c c' : Value} {r : R} (h : aMakeSlice T σ t l c = some r) (hl : VR D ι l l') (hc : VR D ι c c') : Sound P D ι σ w (Instr.makeSlice t l' c') r := by
  unfold aMakeSlice at h
  split at h
  · rename_i k1 l k2 c
    cases hl; cases hc
    split at h
    · rename_i elem hu
      split at h
      · rename_i e he
        split at h
        · rename_i z hz
          cases hb : (Nat.ble l c && Nat.ble c 1099511627776 && Nat.ble (e.bytes * c) 281474976710656 && Nat.beq z.cells.size e.size && plainN 8 z)
          · rw [hb] at h; cases h
          · rw [hb, cond_true] at h
            simp only [Bool.and_eq_true] at hb
            obtain ⟨⟨⟨⟨b1, b2⟩, b3⟩, b4⟩, b5⟩ := hb
            have b1 := Nat.le_of_ble_eq_true b1
            have b2 := Nat.le_of_ble_eq_true b2
            have b3 := Nat.le_of_ble_eq_true b3
            have b4 := Nat.eq_of_beq_eq_true b4
            cases h
            refine ⟨by simp [St.new], fun hw => ⟨St.new_wf hw _, AFr.new _ _ _⟩, fun hw hD _ => ?_⟩
            have hDn : ¬ D σ.next := hD _ (by simp [St.rng, St.new])
            have hlen : (repL c z.cells.toList).length = c * e.size := by rw [repL_len]; simp [b4]
            refine ⟨.slice (some ⟨w.heap.size, 0, none⟩) l c, upd ι σ.next (rg w.heap.size 0 (repL c z.cells.toList).toArray.size e.size), { w with heap := w.heap.push (.cells (repL c z.cells.toList).toArray elem (0, 0)) }, ?_, ?_, ?_⟩
            · have e3 : ¬ ((e.bytes : Int) * (c : Int) > 2 ^ 48) := by
                have := Int.ofNat_le.2 b3
                rw [Int.natCast_mul] at this
                omega
              have hcond : ((((c : Int) < 0 || decide ((e.bytes : Int) * (c : Int) > 2 ^ 48)) || decide ((l : Int) < 0) || decide ((l : Int) > (c : Int))) = true) = False := by
                simp only [Bool.or_eq_true, decide_eq_true_eq, eq_iff_iff, iff_false]
                omega
              simp only [Instr.makeSlice, Sem.run_bind, run_und hT hu, Result.andThen_ok, asInt, asIntOf, Sem.run_pure, run_inf hT he, Int.ofNat_eq_natCast, wrap64_small b2, wrap64_small (Nat.le_trans b1 b2), hcond, if_false, run_askRoom, run_siz hT he, Int.toNat_natCast]
              by_cases hn : c * e.size = 0
              · rw [if_pos hn]
                have h0 : (repL c z.cells.toList).toArray = #[] := by
                  have : (repL c z.cells.toList).length = 0 := by rw [hlen, hn]
                  rw [List.length_eq_zero_iff.1 this]
                rw [h0, hn]
                have hr : ∀ f : Nat → Value, Array.map f (Array.range 0) = #[] := fun f => Array.eq_empty_of_size_eq_zero (by simp)
                simp only [Sem.run_bind, Sem.run_pure, Result.andThen_ok, newRow, run_newObj, hr]
              · rw [if_neg hn]
                simp only [Sem.run_bind, run_zero hT he hz, Result.andThen_ok, Sem.run_pure, newRow, run_newObj]
                rw [← b4, repL_eq]
            · have := VR.slK (D := fun i => D i ∨ σ.rng (σ.new (.row (repL c z.cells.toList) elem false)) i) (ι := upd ι σ.next (rg w.heap.size 0 (repL c z.cells.toList).toArray.size e.size)) σ.next 0 l c (.inr (St.rng_new.2 rfl)) (by unfold unk; omega)
              rw [upd_eq] at this
              exact this
            · refine Post.new hw hDn (by simp) ?_ (fun o _ h => by omega) ?_ rfl rfl rfl rfl rfl
              · intro j hj
                rw [hT.inf _ _ he] at hj; cases hj
                exact ⟨rfl, by rw [List.size_toArray, hlen]; exact Nat.mul_mod_left _ _⟩
              · intro k v hk
                have hkz : v ∈ z.cells.toList := by
                  have hlt : k < c * z.cells.toList.length := by
                    rcases Nat.lt_or_ge k (c * z.cells.toList.length) with h | h
                    · exact h
                    · rw [List.getElem?_eq_none (by rw [repL_len]; exact h)] at hk; cases hk
                  rw [repL_get _ _ _ hlt] at hk
                  exact List.mem_of_getElem? hk
                obtain ⟨j, hj, hjv⟩ := List.mem_iff_getElem.1 hkz
                have hj' : z.cells[j]? = some v := by
                  rw [← Array.getElem?_toList, List.getElem?_eq_getElem hj, hjv]
                exact ⟨v, by simpa using hk, ((plain_refl 8 z b5 : VR D ι z z).cells (plain_notJ b5)).2 j v v hj' hj'⟩
        · cases h
      · cases h
    · cases h
  · cases h
omit hT

/-! ### structs, arrays, slices that are written out -/
def aFill (place : Nat → Option (Nat × Nat)) : List Value → List (Nat × Value) → Option (List Value)
  | cs, [] => some cs
  | cs, (i, v) :: rest => match place i with
    | some (off, size) => bif Nat.beq v.cells.toList.length size && Nat.ble (off + v.cells.toList.length) cs.length && notJ v then
        match lput cs off v.cells.toList with
        | some cs' => aFill place cs' rest
        | none => none
      else none
    | none => none

theorem fold_setL : ∀ (l : List Value) (n off : Nat) (c : Array Value), (l.zipIdx n).foldl (fun cs (x : Value × Nat) => cs.setIfInBounds (off + x.2) x.1) c = setL c (off + n) l
  | [], _, _, _ => rfl
  | v :: l, n, off, c => by
    rw [List.zipIdx_cons, List.foldl_cons, fold_setL l (n + 1) off, setL]; rfl

inductive PR (D : Nat → Prop) (ι : Nat → Reg) : List (Nat × Value) → List (Nat × Value) → Prop where
  | nil : PR D ι [] []
  | cons (i : Nat) (a b : Value) (r s : List (Nat × Value)) (h : VR D ι a b) (hr : PR D ι r s) : PR D ι ((i, a) :: r) ((i, b) :: s)

theorem aFill_run (place : Nat → Option (Nat × Nat)) {ps qs : List (Nat × Value)} (hpr : PR D ι ps qs) : ∀ (cs cs' : List Value) (c : Array Value), aFill place cs ps = some cs' → AR D ι cs.toArray c →
    ∃ c', Instr.fill place c qs = some c' ∧ AR D ι cs'.toArray c' := by
  induction hpr with
  | nil =>
    intro cs cs' c h hc
    simp only [aFill, Option.some.injEq] at h
    subst h
    exact ⟨c, rfl, hc⟩
  | cons i a b r s hab _ ih =>
    intro cs cs' c h hc
    simp only [aFill] at h
    split at h
    · rename_i off size hp
      cases hb : (Nat.beq a.cells.toList.length size && Nat.ble (off + a.cells.toList.length) cs.length && notJ a)
      · rw [hb] at h; cases h
      · rw [hb, cond_true] at h
        rw [Bool.and_eq_true, Bool.and_eq_true] at hb
        have b1 := Nat.eq_of_beq_eq_true hb.1.1
        have b2 := Nat.le_of_ble_eq_true hb.1.2
        have hz : a.cells.toList.length = b.cells.size := by simpa using (hab.cells hb.2).1
        have hcs : cs.length = c.size := by simpa using hc.1
        split at h
        · rename_i cs1 hl
          obtain ⟨g1, g2, g3⟩ := lput_spec _ _ _ _ hl
          have hset := setL_get b.cells.toList c off
          have hbl : b.cells.toList.length = b.cells.size := by simp
          have hc1 : AR D ι cs1.toArray (setL c off b.cells.toList) := by
            refine ⟨by rw [setL_size]; simp; omega, fun k v v' hv hv' => ?_⟩
            rw [hset k (by omega)] at hv'
            simp only [List.getElem?_toArray] at hv
            rw [g3 k] at hv
            by_cases hk : off ≤ k ∧ k < off + a.cells.toList.length
            · rw [if_pos hk] at hv
              rw [if_pos (by omega)] at hv'
              exact (hab.cells hb.2).2 (k - off) v v' (by simpa using hv) (by simpa using hv')
            · rw [if_neg hk] at hv
              rw [if_neg (by omega)] at hv'
              exact hc.2 k v v' (by simpa using hv) hv'
          obtain ⟨c', e1, e2⟩ := ih cs1 cs' _ h hc1
          refine ⟨c', ?_, e2⟩
          simp only [Instr.fill, hp]
          have d1 : decide (b.cells.size ≠ size) = false := decide_eq_false (by omega)
          have d2 : decide (off + b.cells.size > c.size) = false := decide_eq_false (by omega)
          simp only [d1, d2, Bool.or_self, Bool.false_eq_true, if_false]
          have hfold : b.cells.zipIdx.foldl (fun cs (x : Value × Nat) => cs.setIfInBounds (off + x.2) x.1) c = setL c off b.cells.toList := by
            rw [← Array.foldl_toList, Array.toList_zipIdx]
            exact fold_setL _ 0 off c
          rw [← e1, ← hfold]
        · cases h
    · cases h

def aPlaces (T : TE) : List Field → Option (List (Nat × Nat))
  | [] => some []
  | f :: fs => match T.inf f.type with
    | some i => match aPlaces T fs with
      | some r => some ((f.offset, i.size) :: r)
      | none => none
    | none => none

include hT
theorem aPlaces_run : ∀ (fs : List Field) (l : List (Nat × Nat)) (w : World), aPlaces T fs = some l → (fs.mapM fun f => (do Pure.pure (f.offset, ← Go.sizeOf f.type) : Sem (Nat × Nat))).run P w = .ok l w
  | [], l, w, h => by
    simp only [aPlaces, Option.some.injEq] at h
    subst h
    rfl
  | f :: fs, l, w, h => by
    simp only [aPlaces] at h
    split at h
    · rename_i i hi
      split at h
      · rename_i r hr
        cases h
        have ih := aPlaces_run fs r w hr
        simp only [List.mapM_cons, Sem.run_bind, run_siz hT hi, Result.andThen_ok, Sem.run_pure] at ih ⊢
        rw [ih]
        rfl
      · cases h
    · cases h
omit hT

def aBuild (T : TE) (t : TypeId) (ps : List (Nat × Value)) : Option Value :=
  match T.inf t with
  | some i => match i.zero with
    | some z => bif plainN 8 z then match T.und t with
        | some (.struct fs) => match aPlaces T fs.toList with
          | some pl => match aFill (fun k => pl[k]?) z.cells.toList ps with
            | some cs => some (.agg cs.toArray)
            | none => none
          | none => none
        | some (.array _ elem) => match T.inf elem with
          | some e => match aFill (fun k => some (k * e.size, e.size)) z.cells.toList ps with
            | some cs => some (.agg cs.toArray)
            | none => none
          | none => none
        | _ => none
      else none
    | none => none
  | none => none

include hT
theorem aBuild_sound {t : TypeId} {ps : List (Nat × Value)} {qs : Array (Nat × Value)} {v : Value} (h : aBuild T t ps = some v) (hp : PR D ι ps qs.toList) : Sound P D ι σ w (Instr.build t qs) ⟨v, σ, .nil⟩ := by
  unfold aBuild at h
  split at h
  · rename_i i hi
    split at h
    · rename_i z hz
      cases hpl : plainN 8 z
      · rw [hpl] at h; cases h
      · rw [hpl, cond_true] at h
        have hzz : AR D ι z.cells.toList.toArray z.cells := by simpa using (plain_refl 8 z hpl : VR D ι z z).cells (plain_notJ hpl)
        split at h
        · rename_i fs hu
          split at h
          · rename_i pl hpl
            split at h
            · rename_i cs hf
              cases h
              obtain ⟨c, e1, e2⟩ := aFill_run _ hp _ _ _ hf hzz
              refine Sound.pure (v' := .agg c) ?_ (.agg _ _ e2.1 e2.2)
              have hm : (fs.mapM fun f => (do Pure.pure (f.offset, ← Go.sizeOf f.type) : Sem (Nat × Nat))).run P w = .ok pl.toArray w := by
                rw [Array.mapM_eq_mapM_toList, Sem.run_map, aPlaces_run hT _ _ _ hpl]
                rfl
              simp only [Instr.build, Sem.run_bind, run_zero hT hi hz, Result.andThen_ok, run_und hT hu]
              rw [hm]
              simp only [Result.andThen_ok, List.getElem?_toArray, e1, Sem.run_pure]
            · cases h
          · cases h
        · rename_i n elem hu
          split at h
          · rename_i e he
            split at h
            · rename_i cs hf
              cases h
              obtain ⟨c, e1, e2⟩ := aFill_run _ hp _ _ _ hf hzz
              refine Sound.pure (v' := .agg c) ?_ (.agg _ _ e2.1 e2.2)
              simp only [Instr.build, Sem.run_bind, run_zero hT hi hz, Result.andThen_ok, run_und hT hu, run_siz hT he, e1, Sem.run_pure]
            · cases h
          · cases h
        · cases h
    · cases h
  · cases h
omit hT

def aBuildSlice (T : TE) (σ : St) (t : TypeId) (len : Nat) (ps : List (Nat × Value)) : Option R :=
  match T.und t with
  | some (.slice elem) => match T.inf elem with
    | some e => match e.zero with
      | some z => bif plainN 8 z && Nat.beq z.cells.size e.size && Nat.ble (len * e.size) 16777216 && Nat.blt len unk then
          match aFill (fun k => some (k * e.size, e.size)) (repL len z.cells.toList) ps with
          | some cs => bif Nat.beq (Nat.mod cs.length e.size) 0 then some ⟨.slice (some ⟨σ.next, 0, none⟩) len len, σ.new (.row cs elem false), .nil⟩ else none
          | none => none
        else none
      | none => none
    | none => none
  | _ => none

theorem repL_AR {z : Array Value} (hz : AR D ι z z) (n : Nat) : AR D ι (repL n z.toList).toArray (repL n z.toList).toArray :=
  ⟨rfl, fun k v v' h h' => by
    rw [h] at h'; cases h'
    simp only [List.getElem?_toArray] at h
    have hlt : k < n * z.toList.length := by
      rcases Nat.lt_or_ge k (n * z.toList.length) with hh | hh
      · exact hh
      · rw [List.getElem?_eq_none (by rw [repL_len]; exact hh)] at h; cases h
    rw [repL_get _ _ _ hlt] at h
    have h : z[k % z.toList.length]? = some v := by simpa using h
    exact hz.2 _ v v h h⟩

include hT
theorem aBuildSlice_sound {t : TypeId} {len : Nat} {ps : List (Nat × Value)} {qs : Array (Nat × Value)} {r : R} (h : aBuildSlice T σ t len ps = some r) (hp : PR D ι ps qs.toList) : Sound P D ι σ w (Instr.buildSlice t len qs) r := by
  unfold aBuildSlice at h
  split at h
  · rename_i elem hu
    split at h
    · rename_i e he
      split at h
      · rename_i z hz
        cases hb : (plainN 8 z && Nat.beq z.cells.size e.size && Nat.ble (len * e.size) 16777216 && Nat.blt len unk)
        · rw [hb] at h; cases h
        · rw [hb, cond_true] at h
          simp only [Bool.and_eq_true] at hb
          obtain ⟨⟨⟨b1, b2⟩, b3⟩, b4⟩ := hb
          have b2 := Nat.eq_of_beq_eq_true b2
          have b3 := Nat.le_of_ble_eq_true b3
          have b4 : len < unk := by simpa using b4
          split at h
          · rename_i cs hf
            cases hmod : Nat.beq (Nat.mod cs.length e.size) 0
            · rw [hmod] at h; cases h
            rw [hmod, cond_true] at h
            have hmod : cs.length % e.size = 0 := Nat.eq_of_beq_eq_true hmod
            cases h
            have hzz : AR D ι z.cells z.cells := (plain_refl 8 z b1 : VR D ι z z).cells (plain_notJ b1)
            obtain ⟨c, e1, e2⟩ := aFill_run _ hp _ _ _ hf (repL_AR hzz len)
            refine ⟨by simp [St.new], fun hw => ⟨St.new_wf hw _, AFr.new _ _ _⟩, fun hw hD _ => ?_⟩
            have hDn : ¬ D σ.next := hD _ (by simp [St.rng, St.new])
            refine ⟨.slice (some ⟨w.heap.size, 0, none⟩) len len, upd ι σ.next (rg w.heap.size 0 c.size e.size), { w with heap := w.heap.push (.cells c elem (0, 0)) }, ?_, ?_, ?_⟩
            · have hno : ¬ (len * e.size > 2 ^ 24) := by omega
              simp only [Instr.buildSlice, Sem.run_bind, run_und hT hu, Result.andThen_ok, run_siz hT he]
              rw [if_neg hno]
              by_cases hn : len * e.size = 0
              · rw [if_pos hn]
                have h0 : repL len z.cells.toList = [] := List.length_eq_zero_iff.1 (by rw [repL_len]; simp [b2, hn])
                have hr : ∀ f : Nat → Value, Array.map f (Array.range 0) = #[] := fun f => Array.eq_empty_of_size_eq_zero (by simp)
                rw [h0] at e1
                simp only [Sem.run_bind, Sem.run_pure, Result.andThen_ok, hn, hr, newRow, run_newObj, e1]
              · rw [if_neg hn]
                rw [← repL_eq, b2] at e1
                simp only [Sem.run_bind, run_zero hT he hz, Sem.run_pure, Result.andThen_ok, newRow, run_newObj, b2, e1]
            · have := VR.slK (D := fun i => D i ∨ σ.rng (σ.new (.row cs elem false)) i) (ι := upd ι σ.next (rg w.heap.size 0 c.size e.size)) σ.next 0 len len (.inr (St.rng_new.2 rfl)) (by omega)
              rw [upd_eq] at this
              exact this
            · refine Post.new hw hDn ?_ ?_ (fun o _ h => by omega) ?_ rfl rfl rfl rfl rfl
              · have := e2.1; simp at this; omega
              · intro j hj
                rw [hT.inf _ _ he] at hj; cases hj
                have hl : cs.length = c.size := by simpa using e2.1
                exact ⟨rfl, by rw [← hl]; exact hmod⟩
              · intro k v hk
                have hlt : k < c.size := by
                  have := e2.1
                  simp at this
                  rcases Nat.lt_or_ge k cs.length with h | h
                  · omega
                  · rw [List.getElem?_eq_none h] at hk; cases hk
                exact ⟨c[k], Array.getElem?_eq_getElem hlt, e2.2 k v c[k] (by simpa using hk) (Array.getElem?_eq_getElem hlt)⟩
          · cases h
      · cases h
    · cases h
  · cases h
omit hT
end
end Go.Eng

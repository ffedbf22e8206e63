/-
  The engine, part X3: loads from data, addresses of elements and fields, lengths, cuts. No condition.
-/
import Derived.Test.YtdbaigcnlmnliaaGreatDoorEngX2
noncomputable section
namespace Go.Eng
open Go
section
variable {P : Program} {T : TE} (hT : T.OK P) {D : Nat → Prop} {ι ι' : Nat → Reg} {σ σ' : St} {w w' : World} {φ : Foot}

def datOf : Option AO → Option ((t : Ty) × List t.Den)
  | some (.dat t xs) => some ⟨t, xs⟩
  | some (.vec t xs _) => some ⟨t, xs⟩
  | _ => none

/-- what stands in memory where data is read -/
structure Mem (w : World) (r : Reg) (t : Ty) (xs : List t.Den) : Prop where
  esz : r.esz = t.sz
  fz : FzOK r.fz w
  rd : ((∃ q c, r.sv = .slice q 0 c) ∧ xs = []) ∨ ∃ (b o c : Nat) (arr : Array Value) (e : TypeId) (fr : Nat × Nat), r.sv = .slice (some ⟨b, o, none⟩) xs.length c ∧ w.heap[b]? = some (.cells arr e fr) ∧ o + xs.length * t.sz ≤ arr.size ∧
    xs.length ≤ c ∧ (∀ i x, xs[i]? = some x → RdC r.fz t x ((arr.toList.drop (o + i * t.sz)).take t.sz)) ∧ (r.Own b ∨ r.Fz b)
theorem datOf_lv {id : Nat} {y} (h : datOf (σ.heap.get id) = some y) : Lv σ.H id := by
  cases hg : σ.heap.get id with
  | none => rw [hg] at h; cases h
  | some o => exact St.lv_of hg
theorem mem_of {id : Nat} {t : Ty} {xs : List t.Den} (h : datOf (σ.heap.get id) = some ⟨t, xs⟩) (hf : φ.Fi id) (ho : HOn P D ι σ.H φ w) : Mem w (ι id) t xs := by
  unfold datOf at h
  split at h
  · rename_i t' xs' hg
    cases h
    obtain ⟨h1, h2, h3, h4⟩ := ho.hd id _ hf (St.hdr_of hg)
    refine ⟨h2, h4, h1.imp_right ?_⟩
    rintro ⟨b, o, c, arr, e1, e2, e3, e4, e5⟩
    obtain ⟨e, fr, e'⟩ := h4 b arr e2
    exact ⟨b, o, c, arr, e, fr, e1, e', e3, e4, e5, .inr ⟨arr, e2⟩⟩
  · rename_i t' xs' el hg
    cases h
    obtain ⟨h2, h4, h⟩ := ho.hd id _ hf (St.hdr_of hg)
    refine ⟨h2, h4, h.imp (fun ⟨_, e1, e2⟩ => ⟨⟨_, _, e2⟩, e1⟩) ?_⟩
    rintro ⟨g1, g2, cap, c, fr, e1, e2, e3, e4, e5, e6, e7, e8⟩
    have hm := Nat.mul_le_mul_right t.sz e2
    refine ⟨_, _, _, c, el, fr, e1, e3, by omega, e2, fun i x hx => ?_, .inl ⟨g1, rfl⟩⟩
    have := (e8 i x hx).2
    rwa [List.drop_drop] at this
  · cases h

theorem dt_inv {id : Nat} {x' : Value} (h : VR D ι (dt id) x') : ∃ a l c, x' = .slice a l c ∧ D id ∧ (ι id).sv = .slice a l c := by
  cases h with
  | dat _ a l c hD e => exact ⟨a, l, c, rfl, hD, e⟩
  | tuple as bs hs h =>
    have hb : bs[0]? = some (bs[0]'(by rw [← hs]; exact Nat.succ_pos _)) := Array.getElem?_eq_getElem _
    exact (h 0 _ _ rfl hb).no_chan.elim
theorem pel_inv {id i j : Nat} {x' : Value} (h : VR D ι (.pointer (some ⟨id, i, some j⟩)) x') : ∃ b o l c, x' = .pointer (some ⟨b, o + i * (ι id).esz + j, none⟩) ∧ D id ∧ (ι id).sv = .slice (some ⟨b, o, none⟩) l c := by
  cases h with
  | pel _ _ _ b o l c hD e => exact ⟨b, o, l, c, rfl, hD, e⟩

/-- cells that are read in a row of data -/
def sCells (t : Ty) (xs : List t.Den) (i j n : Nat) : Option (List DC) := gslice (dcs t (xs.getD i t.dflt)) j n
theorem sCells_read {t : Ty} {xs : List t.Den} {i j n : Nat} {l : List DC} {r : Reg} {b o len c : Nat} (hm : Mem w r t xs) (hs : r.sv = .slice (some ⟨b, o, none⟩) len c) (hi : i < xs.length) (hl : sCells t xs i j n = some l) :
    ∃ us : List Value, us.length = n ∧ l.length = n ∧ (∀ k, k < n → ∃ u, us[k]? = some u ∧ w.cell? ⟨b, o + i * t.sz + j + k, none⟩ = some u) ∧ ∀ (k : Nat) d u, l[k]? = some d → us[k]? = some u → DCR r.fz d u := by
  rcases hm.rd with ⟨_, h⟩ | ⟨b', o', c', arr, e, fr, h1, h2, h3, h4, h5, _⟩
  · subst h; simp at hi
  · rw [hs] at h1
    cases h1
    obtain ⟨rfl, hle⟩ := gslice_spec _ _ _ _ hl
    have hx := h5 i xs[i] (List.getElem?_eq_getElem hi)
    have hg : xs.getD i t.dflt = xs[i] := by rw [List.getD_eq_getElem?_getD, List.getElem?_eq_getElem hi]; rfl
    rw [hg] at hle ⊢
    obtain ⟨d1, d2, d3⟩ := dcs_rd t _ _ hx
    rw [d2] at hle
    have hmul : i * t.sz + t.sz ≤ xs.length * t.sz := by
      have := Nat.mul_le_mul_right t.sz hi
      rwa [Nat.succ_mul] at this
    refine ⟨((((arr.toList.drop (o + i * t.sz)).take t.sz).drop j).take n), ?_, ?_, fun k hk => ?_, fun k d u hd hu => ?_⟩
    · rw [List.length_take, List.length_drop, d1]; omega
    · rw [List.length_take, List.length_drop, d2]; omega
    · have hlt : o + i * t.sz + j + k < arr.size := by omega
      refine ⟨arr[o + i * t.sz + j + k], ?_, ?_⟩
      · rw [List.getElem?_take, if_pos hk, List.getElem?_drop, List.getElem?_take, if_pos (by omega), List.getElem?_drop, Array.getElem?_toList, show o + i * t.sz + (j + k) = o + i * t.sz + j + k by omega]
        exact Array.getElem?_eq_getElem hlt
      · simp only [World.cell?, h2, Option.isSome_none, Bool.false_eq_true, if_false]
        exact Array.getElem?_eq_getElem hlt
    · rw [List.getElem?_take] at hd hu
      split at hd
      · rename_i hk
        rw [if_pos hk] at hu
        rw [List.getElem?_drop] at hd hu
        exact d3 _ d u hd hu
      · cases hd

def sLoad (T : TE) (σ : St) (t : TypeId) (a : Value) : Option R :=
  match a with
  | .pointer (some ⟨id, i, some j⟩) => match datOf (σ.heap.get id) with
    | some ⟨te, xs⟩ => match T.und t with
      | some d => bif isAggD d then
          match T.inf t with
          | some ti => match sCells te xs i j ti.size with
            | some l => match mat l σ with
              | (vs, σ') => some ⟨.agg vs.toArray, σ'.assume (i < xs.length), ⟨[], [id], [], []⟩⟩
            | none => none
          | none => none
        else match sCells te xs i j 1 with
          | some l => match mat l σ with
            | ([v], σ') => some ⟨v, σ'.assume (i < xs.length), ⟨[], [id], [], []⟩⟩
            | _ => none
          | none => none
      | none => none
    | none => none
  | _ => none

theorem fz_here {id : Nat} (hl : Lv σ.H id) (hw : σ.wf) (h : (⟨[], [id], [], []⟩ : Foot).Fi id) (b : Nat) (c : Array Value) (hb : (ι id).fz b = some c) : w.heap.size ≤ b ∨ ∃ k, (⟨[], [id], [], []⟩ : Foot).Fi k ∧ ¬ σ.rng σ' k ∧ Lv σ.H k ∧ (ι k).Fz b :=
  .inr ⟨id, h, fun hr => by have := St.lv_lt hw hl; simp only [St.rng] at hr; omega, hl, c, hb⟩

theorem Sound.assume {e : Sem Value} {v : Value} {φ : Foot} {p : Prop} (h : Sound P D ι σ w e ⟨v, σ', φ⟩) : Sound P D ι σ w e ⟨v, σ'.assume p, φ⟩ :=
  ⟨h.1, fun hw => ⟨(h.2.1 hw).1, (h.2.1 hw).2.assume p⟩, h.2.2⟩
theorem mat_sound {l : List DC} {vs : List Value} {φ : Foot} (hm : mat l σ = (vs, σ')) : σ.next ≤ σ'.next ∧ (σ.wf → σ'.wf ∧ AFr σ σ' φ) := by
  obtain ⟨a1, a2, a3, a4⟩ := mat_abs _ _ _ _ hm
  refine ⟨a1, fun hw => ⟨fun id h => ?_, ⟨fun id hr _ => by simp only [St.H, a4 id hr], fun id k hr _ => by simp only [St.H, a4 id hr], fun h => by unfold St.Ok at h ⊢; rw [a2] at h; exact h⟩⟩⟩
  rw [a4 id (by simp only [St.rng]; omega)]
  exact hw id (by omega)

include hT
theorem sLoad_sound {t : TypeId} {a a' : Value} {r : R} (h : sLoad T σ t a = some r) (hok : r.σ.Ok) (ha : VR D ι a a') : Sound P D ι σ w (Instr.loadAt t a') r := by
  unfold sLoad at h
  split at h
  · rename_i id i j
    obtain ⟨b, o, len, c, rfl, hD, hsv⟩ := pel_inv ha
    have hF : (⟨[], [id], [], []⟩ : Foot).Fi id := .inr (.inl (by simp))
    split at h
    · rename_i te xs hg
      have hlv := datOf_lv hg
      split at h
      · rename_i d hd
        cases hagg : isAggD d
        · rw [hagg, cond_false] at h
          split at h
          · rename_i l hl
            split at h
            · rename_i v σ1 hm
              cases h
              have hi : i < xs.length := hok.1
              refine Sound.assume ⟨(mat_sound (φ := .nil) hm).1, (mat_sound hm).2, fun hw hDn ho => ?_⟩
              have hmem := mem_of hg hF ho
              obtain ⟨us, u1, u2, u3, u4⟩ := sCells_read hmem hsv hi hl
              obtain ⟨ι', m1, m2, m3⟩ := mat_ok l us D ι σ σ1 [v] hm (by omega) u4
              obtain ⟨u, hu, hc⟩ := u3 0 (by omega)
              refine ⟨u, ι', w, ?_, m3 0 v u rfl hu, Post.mats hw m1 (Nat.le_refl _) rfl rfl (fun _ _ => rfl) hmem.fz (fun b c hb => fz_here hlv hw hF b c hb) rfl rfl⟩
              rw [Nat.add_zero, ← hmem.esz] at hc
              simp only [Instr.loadAt, Instr.sureAddr, loadVar, Sem.run_bind, Sem.run_pure, Result.andThen_ok, run_isAgg hT hd, hagg, Bool.false_eq_true, if_false, run_load, hc]
            · cases h
          · cases h
        · rw [hagg, cond_true] at h
          split at h
          · rename_i ti hti
            split at h
            · rename_i l hl
              rcases hm : mat l σ with ⟨vs, σ1⟩
              rw [hm] at h
              cases h
              have hi : i < xs.length := hok.1
              refine Sound.assume ⟨(mat_sound (φ := .nil) hm).1, (mat_sound hm).2, fun hw hDn ho => ?_⟩
              have hmem := mem_of hg hF ho
              obtain ⟨us, u1, u2, u3, u4⟩ := sCells_read hmem hsv hi hl
              obtain ⟨ι', m1, m2, m3⟩ := mat_ok l us D ι σ σ1 vs hm (by omega) u4
              refine ⟨.agg us.toArray, ι', w, ?_, .agg _ _ (by simp [m2]) fun k v u hv hu => m3 k v u (by simpa using hv) (by simpa using hu), Post.mats hw m1 (Nat.le_refl _) rfl rfl (fun _ _ => rfl) hmem.fz (fun b c hb => fz_here hlv hw hF b c hb) rfl rfl⟩
              have hload := run_loadCells_list (P := P) w ⟨b, o + i * (ι id).esz + j, none⟩ us fun k v hk => by
                have hlt : k < ti.size := by
                  rcases Nat.lt_or_ge k ti.size with h | h
                  · exact h
                  · rw [List.getElem?_eq_none (by omega)] at hk; cases hk
                obtain ⟨u, hu, hc⟩ := u3 k hlt
                rw [hk] at hu; cases hu
                rw [add_none, hmem.esz]; exact hc
              rw [u1] at hload
              simp only [Instr.loadAt, Instr.sureAddr, loadVar, Sem.run_bind, Sem.run_pure, Result.andThen_ok, run_isAgg hT hd, hagg, if_true, run_siz hT hti, hload]
            · cases h
          · cases h
      · cases h
    · cases h
  · cases h
omit hT

/-! ### addresses -/
def sIndexAddr (T : TE) (σ : St) (t : TypeId) (x ix : Value) : Option R :=
  match x with
  | .tuple a => match a.toList with
    | [.chan (some 2), .pointer (some ⟨id, 0, none⟩)] => match datOf (σ.heap.get id), T.und t, unsy ix with
      | some ⟨te, xs⟩, some (.slice elem), some (.int _ i) => match T.inf elem with
        | some e => bif Nat.beq e.size te.sz then some ⟨.pointer (some ⟨id, i.toNat, some 0⟩), (σ.assume (i < xs.length)).assume (0 ≤ i), ⟨[], [id], [], []⟩⟩ else none
        | none => none
      | _, _, _ => none
    | _ => none
  | _ => none
include hT
theorem sIndexAddr_sound {t : TypeId} {x x' ix ix' : Value} {r : R} (h : sIndexAddr T σ t x ix = some r) (hok : r.σ.Ok) (hx : VR D ι x x') (hix : VR D ι ix ix') : Sound P D ι σ w (Instr.indexAt t x' ix') r := by
  unfold sIndexAddr at h
  split at h
  · rename_i a
    split at h
    · rename_i id ha
      rw [tuple_eq ha] at hx
      obtain ⟨a, l, c, rfl, hD, hsv⟩ := dt_inv hx
      split at h
      · rename_i te xs elem k i hg hu hi
        obtain ⟨rfl, _⟩ := unsy_spec hi hix
        split at h
        · rename_i e he
          cases hb : Nat.beq e.size te.sz
          · rw [hb] at h; cases h
          rw [hb, cond_true] at h
          have hb := Nat.eq_of_beq_eq_true hb
          cases h
          have h0 : 0 ≤ i := hok.1
          have h1 : i < xs.length := hok.2.1
          refine Sound.assume (Sound.assume ⟨Nat.le_refl _, fun hw => ⟨hw, AFr.refl _ _⟩, fun hw _ ho => ?_⟩)
          have hmem := mem_of hg (.inr (.inl (by simp))) ho
          rcases hmem.rd with ⟨_, hn⟩ | ⟨b, o, c', arr, el, fr, g1, g2, g3, g4, g5, _⟩
          · subst hn; simp at h1; omega
          · rw [hsv] at g1
            cases g1
            refine ⟨.pointer (some ⟨b, o + i.toNat * e.size, none⟩), ι, w, ?_, ?_, Post.same (St.rng_self σ) rfl rfl rfl rfl rfl⟩
            · simp only [Instr.indexAt, asIntOf, Sem.run_bind, Sem.run_pure, Result.andThen_ok, run_und hT hu, h0, h1, and_self, if_true, run_siz hT he, add_none]
            · have := VR.pel (D := fun i => D i ∨ σ.rng σ i) (ι := ι) id i.toNat 0 b o xs.length c (.inl hD) hsv
              rw [hmem.esz, ← hb, Nat.add_zero] at this
              exact this
        · cases h
      · cases h
    · cases h
  · cases h
omit hT

def sFieldAddr (T : TE) (σ : St) (s : TypeId) (a : Value) (f : Nat) : Option R :=
  match a with
  | .pointer (some ⟨id, i, some j⟩) => match T.und s with
    | some (.struct fs) => match fs[f]? with
      | some fd => match T.inf fd.type with
        | some ti => bif Nat.beq ti.size 0 then none else some ⟨.pointer (some ⟨id, i, some (j + fd.offset)⟩), σ, .nil⟩
        | none => none
      | none => none
    | _ => none
  | _ => none
include hT
theorem sFieldAddr_sound {s : TypeId} {a a' : Value} {f : Nat} {r : R} (h : sFieldAddr T σ s a f = some r) (ha : VR D ι a a') : Sound P D ι σ w (Instr.fieldAt s a' f) r := by
  unfold sFieldAddr at h
  split at h
  · rename_i id i j
    obtain ⟨b, o, len, c, rfl, hD, hsv⟩ := pel_inv ha
    split at h
    · rename_i fs hs
      split at h
      · rename_i fd hf
        split at h
        · rename_i ti hi
          cases hb : Nat.beq ti.size 0
          · rw [hb] at h
            cases h
            have hz : ti.size ≠ 0 := fun e => by rw [e] at hb; cases hb
            refine Sound.pure (v' := .pointer (some ⟨b, o + i * (ι id).esz + (j + fd.offset), none⟩)) ?_ (.pel id i _ b o len c hD hsv)
            simp only [Instr.fieldAt, Sem.run_bind, run_und hT hs, Result.andThen_ok, hf, Instr.sureAddr, Sem.run_pure, fieldPlace, run_siz hT hi, if_neg hz, add_none, Nat.add_assoc]
          · rw [hb] at h; cases h
        · cases h
      · cases h
    · cases h
  · cases h
omit hT

/-! ### lengths, cuts -/
def sLen (T : TE) (σ : St) (argTypes : List TypeId) (x : Value) : Option R :=
  match x with
  | .tuple a => match a.toList with
    | [.chan (some 2), .pointer (some ⟨id, 0, none⟩)] => match datOf (σ.heap.get id), argTypes with
      | some ⟨_, xs⟩, t :: _ => match T.und t with
        | some (.slice _) => some ⟨sy (.int .i64 xs.length), σ, ⟨[], [id], [], []⟩⟩
        | _ => none
      | _, _ => none
    | _ => none
  | _ => none
include hT
theorem sLen_sound {argTypes : Array TypeId} {ty : TypeId} {x x' : Value} {r : R} (h : sLen T σ argTypes.toList x = some r) (hx : VR D ι x x') : Sound P D ι σ w (Builtin.len_ argTypes ty #[x']) r := by
  have tl : ∀ t l, argTypes.toList = t :: l → argTypes[0]? = some t := fun t l e => by rw [← Array.getElem?_toList, e]; rfl
  unfold sLen at h
  split at h
  · rename_i a
    split at h
    · rename_i id ha
      rw [tuple_eq ha] at hx
      obtain ⟨a, l, c, rfl, hD, hsv⟩ := dt_inv hx
      split at h
      · rename_i te xs t tl' hg ht
        split at h
        · rename_i e hu
          cases h
          refine ⟨Nat.le_refl _, fun hw => ⟨hw, AFr.refl _ _⟩, fun hw _ ho => ?_⟩
          have hmem := mem_of hg (.inr (.inl (by simp))) ho
          have hl : l = xs.length := by
            rcases hmem.rd with ⟨⟨q, c1, h1⟩, hn⟩ | ⟨b, o, c', arr, el, fr, g1, g2, g3, g4, g5, _⟩
            · rw [hsv] at h1; cases h1; subst hn; rfl
            · rw [hsv] at g1; cases g1; rfl
          subst hl
          refine ⟨.int .i64 xs.length, ι, w, ?_, .sym _ rfl, Post.same (St.rng_self σ) rfl rfl rfl rfl rfl⟩
          simp only [Builtin.len_, tl _ _ ht, List.getElem?_toArray, List.getElem?_cons_zero, Sem.run_bind, run_und hT hu, Result.andThen_ok, Sem.run_pure, goInt]
        · cases h
      · cases h
    · cases h
  · cases h
omit hT
end
end Go.Eng

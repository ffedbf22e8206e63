/-
  The engine, part G: append, copy, strings to bytes and back, new slices, iterators over strings. No condition.
-/
import Derived.Test.YtdbaigcnlmnliaaGreatDoorEngF
noncomputable section
namespace Go.Eng
open Go
section
variable {P : Program} {T : TE} (hT : T.OK P) {D : Nat → Prop} {ι : Nat → Reg} {σ : St} {w : World}

def bytesV : List UInt8 → List Value
  | [] => []
  | b :: l => .int .u8 b.toNat :: bytesV l
theorem bytesV_eq (l : List UInt8) : bytesV l = l.map fun b => Value.int .u8 b.toNat := by
  induction l with
  | nil => rfl
  | cons b l ih => simp [bytesV, ih]
theorem bytesV_len (l : List UInt8) : (bytesV l).length = l.length := by rw [bytesV_eq]; simp

/-- the cells that a slice or a string lends, and where they were read -/
def aCells (σ : St) (size : Nat) (x : Value) : Option (List Value × Nat × List (Nat × Nat)) :=
  match x with
  | .string s => bif Nat.beq size 1 then some (bytesV s.data.toList, s.size, []) else none
  | .slice none n _ => bif Nat.beq n 0 then some ([], 0, []) else none
  | .slice (some ⟨id, off, none⟩) n _ => match σ.heap.get id with
    | some (.row cs _ _) => match lslice cs off (n * size) with
      | some l => some (l, n, locs id off (n * size))
      | none => none
    | _ => none
  | _ => none

theorem AR.refl_plain {l : List Value} (h : ∀ v ∈ l, plainN 8 v = true) : AR D ι l.toArray l.toArray :=
  ⟨rfl, fun i v v' e e' => by
    rw [e] at e'; cases e'
    exact plain_refl 8 v (h v (by simp at e; exact List.mem_of_getElem? e))⟩

theorem aCells_run {size n : Nat} {x x' : Value} {l : List Value} {rc : List (Nat × Nat)} {φ : Foot} (h : aCells σ size x = some (l, n, rc)) (hx : VR D ι x x') (ho : HOn P D ι σ.H φ w)
    (hf : ∀ p ∈ rc, φ.Fc p.1 p.2) : (∀ w, (Builtin.lenOf x').run P w = .ok n w) ∧ l.length = n * size ∧ ∃ c : Array Value, (∀ w' : World, w'.heap = w.heap → (Builtin.firstCells size n x').run P w' = .ok c w') ∧ AR D ι l.toArray c := by
  unfold aCells at h
  split at h
  · rename_i s
    cases hb : Nat.beq size 1
    · rw [hb] at h; cases h
    · rw [hb] at h
      have hs := Nat.eq_of_beq_eq_true hb
      cases h
      cases hx
      refine ⟨fun _ => rfl, by rw [bytesV_len, hs]; simp, (bytesV s.data.toList).toArray, fun w' _ => ?_, AR.refl_plain fun v hv => ?_⟩
      · simp only [Builtin.firstCells, Sem.run_pure]
        congr 1
        apply Array.ext'
        rw [bytesV_eq]
        simp
      · rw [bytesV_eq] at hv
        obtain ⟨b, _, rfl⟩ := List.mem_map.1 hv
        rfl
  · rename_i n' c'
    cases hb : Nat.beq n' 0
    · rw [hb] at h; cases h
    · rw [hb] at h
      have hn := Nat.eq_of_beq_eq_true hb
      subst hn
      cases h
      cases hx
      exact ⟨fun _ => rfl, by simp, #[], fun _ _ => rfl, rfl, by simp⟩
  · rename_i id off n' c'
    split at h
    · rename_i cs e ro hg
      split at h
      · rename_i l' hl
        cases h
        obtain ⟨c'', rfl, _⟩ := hx.sl_inv
        obtain ⟨c, e1, e2⟩ := loadCells_of hg hl ho fun j hj => hf _ (mem_locs.2 ⟨rfl, Nat.le_add_right _ _, by omega⟩)
        exact ⟨fun _ => rfl, (lslice_spec _ _ _ _ hl).1, c, e1, e2⟩
      · cases h
    · cases h
  · cases h

theorem growBy_le (need : Nat) : ∀ (r c : Nat), c ≤ 2 * need + 400 → Builtin.growBy need r c ≤ 2 * need + 400
  | 0, c, h => by simpa [Builtin.growBy] using h
  | r + 1, c, h => by
    simp only [Builtin.growBy]
    split
    · exact h
    · exact growBy_le need r _ (by omega)
theorem nextcap_le {need cap : Nat} (h : cap < need) : Builtin.nextslicecap need cap ≤ 2 * need + 400 := by
  unfold Builtin.nextslicecap
  split
  · omega
  · split
    · omega
    · exact growBy_le need 4 cap (by omega)

theorem cut_ge (need old t : Nat) (e : TypeId) : need ≤ (Question.appendCap need old e).cut t := Nat.le_add_right _ _

theorem zeroCells_size (z : Array Value) (n : Nat) : (Builtin.zeroCells z n).size = n * z.size := by simp [Builtin.zeroCells]

include hT
/-- the run of an append that grows -/
theorem append_grows {sT xT : TypeId} {args : Array TypeId} {d : TypeDesc} {elem : TypeId} {e : TypeInfo} {z : Value} {base : Option Addr} {sLen cap n : Nat} {x : Value} {old new : Array Value} {ty : TypeId}
    (h0 : args[0]? = some sT) (h1 : args[1]? = some xT) (hs : T.und sT = some (.slice elem)) (hx : T.und xT = some d) (hd : ∀ k, d ≠ .int k) (he : T.inf elem = some e) (hz : e.zero = some z)
    (hbz : e.bytes ≠ 0) (hb : (2 * (sLen + n) + 400) * e.bytes ≤ 2 ^ 48) (hlen : ∀ w, (Builtin.lenOf x).run P w = .ok n w) (hgt : cap < sLen + n)
    (ho : ∀ w' : World, w'.heap = w.heap → (Builtin.firstCells e.size sLen (.slice base sLen cap)).run P w' = .ok old w') (hn : ∀ w' : World, w'.heap = w.heap → (Builtin.firstCells e.size n x).run P w' = .ok new w') :
    ∃ (newCap : Nat) (w' : World), sLen + n ≤ newCap ∧ w'.heap = w.heap.push (.cells (old ++ new ++ Builtin.zeroCells z.cells (newCap - (sLen + n))) elem (0, 0)) ∧ w'.os = w.os ∧ w'.output = w.output ∧
      (Builtin.append_ args ty #[.slice base sLen cap, x]).run P w = .ok (.slice (some ⟨w.heap.size, 0, none⟩) (sLen + n) newCap) w' := by
  have hq : (Question.appendCap (sLen + n) cap elem).forced = false := rfl
  refine ⟨(Question.appendCap (sLen + n) cap elem).cut (w.tape w.drawn (.appendCap (sLen + n) cap elem)), { w with drawn := w.drawn + 1, heap := w.heap.push (.cells (old ++ new ++ Builtin.zeroCells z.cells _) elem (0, 0)) }, cut_ge _ _ _ _, rfl, rfl, rfl, ?_⟩
  have hno : ¬ (Builtin.nextslicecap (sLen + n) cap * e.bytes > 2 ^ 48) := by
    have := Nat.mul_le_mul_right e.bytes (nextcap_le hgt)
    omega
  have hni : ¬ (sLen + n ≤ cap) := by omega
  unfold Builtin.append_
  simp only [h0, h1, List.getElem?_toArray, List.getElem?_cons_zero, List.getElem?_cons_succ, Sem.run_bind, run_und hT hs, Result.andThen_ok, run_siz hT he, run_und hT hx, Sem.run_pure, Bool.false_eq_true, if_false, hlen, if_neg hni,
    run_inf hT he, hbz, false_or, and_false, if_neg hno, run_choose, hq, run_askRoom, Bool.not_false, if_true]
  rw [ho { w with drawn := w.drawn + 1 } rfl]
  simp only [Result.andThen_ok]
  rw [hn { w with drawn := w.drawn + 1 } rfl]
  simp only [Result.andThen_ok, run_zero hT he hz, newRow, Sem.run_bind, run_newObj, Sem.run_pure]

/-- the run of an append in place -/
theorem append_fits {sT xT : TypeId} {args : Array TypeId} {d : TypeDesc} {elem : TypeId} {e : TypeInfo} {base : Option Addr} {sLen cap n : Nat} {x : Value} {new : Array Value} {ty : TypeId}
    (h0 : args[0]? = some sT) (h1 : args[1]? = some xT) (hs : T.und sT = some (.slice elem)) (hx : T.und xT = some d) (hd : ∀ k, d ≠ .int k) (he : T.inf elem = some e)
    (hlen : ∀ w, (Builtin.lenOf x).run P w = .ok n w) (hle : sLen + n ≤ cap) (hn : (Builtin.firstCells e.size n x).run P w = .ok new w) :
    (Builtin.append_ args ty #[.slice base sLen cap, x]).run P w =
      ((match base with | some a => storeCells (a.add (sLen * e.size)) new.toList | none => Pure.pure ()).run P w).andThen fun _ w' => .ok (.slice base (sLen + n) cap) w' := by
  unfold Builtin.append_
  simp only [h0, h1, List.getElem?_toArray, List.getElem?_cons_zero, List.getElem?_cons_succ, Sem.run_bind, run_und hT hs, Result.andThen_ok, run_siz hT he, run_und hT hx, Sem.run_pure, Bool.false_eq_true, if_false, hlen, if_pos hle,
    Bool.not_false, if_true, hn]
  cases base with
  | none => rfl
  | some a => simp only [Sem.run_bind, Sem.run_pure]
omit hT

theorem HOn.sub {h : H} {φ ψ : Foot} (ho : HOn P D ι h φ w) (h1 : ∀ id, ψ.Fi id → φ.Fi id) (h2 : ∀ id k, ψ.Fc id k → φ.Fc id k) : HOn P D ι h ψ w where
  hd := fun id x f e => ho.hd id x (h1 id f) e
  ce := fun id k v f l e => ho.ce id k v (h2 id k f) l e
  inj := fun i j fi fj => ho.inj i j (h1 i fi) (h1 j fj)

def isIntD : TypeDesc → Bool
  | .int _ => true
  | _ => false

/-- what grows: enough is known of the type -/
def growOK (e : TypeInfo) (z : Value) (need : Nat) : Bool :=
  Nat.beq z.cells.size e.size && !Nat.beq e.bytes 0 && Nat.ble ((2 * need + 400) * e.bytes) 281474976710656

def aGrow (σ : St) (elem : TypeId) (e : TypeInfo) (z : Value) (old new : List Value) (need : Nat) (rc : List (Nat × Nat)) : Option R :=
  bif growOK e z need then some ⟨.slice (some ⟨σ.next, 0, none⟩) need unk, σ.new (.row (old ++ new) elem false), ⟨rc, [], [], []⟩⟩ else none

def aAppend (T : TE) (σ : St) (args : Array TypeId) (s x : Value) : Option R :=
  match args.toList with
  | sT :: xT :: _ => match T.und sT, T.und xT with
    | some (.slice elem), some d => bif isIntD d then none else match T.inf elem with
      | some e => match e.zero, aCells σ e.size x with
        | some z, some (new, n, rc) => match s with
          | .slice none sLen cap => bif Nat.beq sLen 0 && Nat.beq cap 0 then
              bif Nat.beq n 0 then some ⟨.slice none 0 0, σ, ⟨rc, [], [], []⟩⟩ else aGrow σ elem e z [] new n rc
            else none
          | .slice (some ⟨id, off, none⟩) sLen cap => match σ.heap.get id with
            | some (.row cs elem' ro) =>
              bif Nat.beq cap unk then
                bif Nat.beq n 0 then some ⟨.slice (some ⟨id, off, none⟩) sLen unk, σ, ⟨rc, [], [], []⟩⟩
                else bif Nat.beq elem' elem && !ro && growOK e z (sLen + n) && new.all oneC && Nat.beq (Nat.mod off e.size) 0 then match lslice cs off (sLen * e.size) with
                  | some old => some ⟨.slice (some ⟨σ.next, 0, none⟩) (sLen + n) unk, (σ.put id none).new (.row (old ++ new) elem false), ⟨rc, [], [], [id]⟩⟩
                  | none => none
                else none
              else bif Nat.ble (sLen + n) cap then match new with
                  | [] => some ⟨.slice (some ⟨id, off, none⟩) (sLen + n) cap, σ, ⟨rc, [], [], []⟩⟩
                  | y :: ys => bif Nat.beq elem' elem && !ro && (y :: ys).all oneC then match lput cs (off + sLen * e.size) (y :: ys) with
                      | some cs' => some ⟨.slice (some ⟨id, off, none⟩) (sLen + n) cap, σ.put id (some (.row cs' elem' false)), ⟨rc, [], locs id (off + sLen * e.size) (ys.length + 1), []⟩⟩
                      | none => none
                    else none
              else match lslice cs off (sLen * e.size) with
                | some old => aGrow σ elem e z old new (sLen + n) (rc ++ locs id off (sLen * e.size))
                | none => none
            | _ => none
          | _ => none
        | _, _ => none
      | none => none
    | _, _ => none
  | _ => none

theorem AR.append {a b : List Value} {c d : Array Value} (h1 : AR D ι a.toArray c) (h2 : AR D ι b.toArray d) (e : Array Value) :
    ∀ (k : Nat) v, (a ++ b)[k]? = some v → ∃ v', (c ++ d ++ e)[k]? = some v' ∧ VR D ι v v' := by
  have l1 : a.length = c.size := by simpa using h1.1
  have l2 : b.length = d.size := by simpa using h2.1
  intro k v hk
  by_cases hlt : k < a.length
  · rw [List.getElem?_append_left hlt] at hk
    have hc : c[k]? = some (c[k]'(by omega)) := Array.getElem?_eq_getElem (by omega)
    refine ⟨_, ?_, h1.2 k v _ (by simpa using hk) hc⟩
    rw [Array.append_assoc, Array.getElem?_append_left (by omega)]; exact hc
  · rw [List.getElem?_append_right (by omega)] at hk
    have hb : k - a.length < b.length := by
      rcases Nat.lt_or_ge (k - a.length) b.length with h | h
      · exact h
      · rw [List.getElem?_eq_none h] at hk; cases hk
    have hd : d[k - a.length]? = some (d[k - a.length]'(by omega)) := Array.getElem?_eq_getElem (by omega)
    refine ⟨_, ?_, h2.2 _ v _ (by simpa using hk) hd⟩
    rw [Array.append_assoc, Array.getElem?_append_right (by omega), Array.getElem?_append_left (by omega), ← l1]; exact hd

include hT
theorem aGrow_post {elem : TypeId} {e : TypeInfo} {z : Value} {old new : List Value} {oldc newc : Array Value} {need n0 n newCap : Nat} {φ : Foot} {w' : World} (hw : σ.wf) (hD : ¬ D σ.next) (he : T.inf elem = some e)
    (hzs : z.cells.size = e.size) (ho : AR D ι old.toArray oldc) (hn : AR D ι new.toArray newc) (l1 : old.length = n0 * e.size) (l2 : new.length = n * e.size) (hneed : need = n0 + n) (hcap : need ≤ newCap)
    (h1 : w'.heap = w.heap.push (.cells (oldc ++ newc ++ Builtin.zeroCells z.cells (newCap - need)) elem (0, 0))) (h2 : w'.os = w.os) (h3 : w'.output = w.output) (h4 : φ.wc = []) (h5 : φ.wh = []) :
    ∃ ι', VR (fun i => D i ∨ σ.rng (σ.new (.row (old ++ new) elem false)) i) ι' (.slice (some ⟨σ.next, 0, none⟩) need unk) (.slice (some ⟨w.heap.size, 0, none⟩) need newCap) ∧
      Post P D (σ.rng (σ.new (.row (old ++ new) elem false))) ι σ.H w φ ι' (σ.new (.row (old ++ new) elem false)).H w' := by
  have a1 : old.length = oldc.size := by simpa using ho.1
  have a2 : new.length = newc.size := by simpa using hn.1
  have hsz : (oldc ++ newc ++ Builtin.zeroCells z.cells (newCap - need)).size = newCap * e.size := by
    simp only [Array.size_append, zeroCells_size, hzs, ← a1, ← a2, l1, l2]
    rw [← Nat.add_mul, ← Nat.add_mul]
    congr 1; omega
  refine ⟨upd ι σ.next (rg w.heap.size 0 (newCap * e.size) e.size), ?_, ?_⟩
  · have := VR.slU (D := fun i => D i ∨ σ.rng (σ.new (.row (old ++ new) elem false)) i) (ι := upd ι σ.next (rg w.heap.size 0 (newCap * e.size) e.size)) σ.next 0 need newCap (.inr (St.rng_new.2 rfl)) hcap (by rw [upd_eq]; simp)
    rw [upd_eq] at this
    exact this
  · rw [← hsz]
    refine Post.new hw hD ?_ ?_ ?_ (AR.append ho hn _) h1 h2 h3 h4 h5
    · rw [hsz, List.length_append, l1, l2, ← Nat.add_mul]
      exact Nat.mul_le_mul_right _ (by omega)
    · intro j hj
      rw [hT.inf _ _ he] at hj; cases hj; exact ⟨rfl, by rw [hsz]; exact Nat.mul_mod_left _ _⟩
    · intro o _ h; omega
omit hT
theorem growOK_spec {e : TypeInfo} {z : Value} {need : Nat} (h : growOK e z need = true) : z.cells.size = e.size ∧ e.bytes ≠ 0 ∧ (2 * need + 400) * e.bytes ≤ 2 ^ 48 := by
  simp only [growOK, Bool.and_eq_true, Bool.not_eq_true'] at h
  refine ⟨Nat.eq_of_beq_eq_true h.1.1, fun e => ?_, Nat.le_of_ble_eq_true h.2⟩
  rw [beq_t e] at h; cases h.1.2
end
end Go.Eng

/-
  The engine, part X5: one operation on symbolic operands. No condition.
-/
import Derived.Test.YtdbaigcnlmnliaaGreatDoorEngAbs
import Derived.Test.YtdbaigcnlmnliaaGreatDoorEngX4
noncomputable section
namespace Go.Eng
open Go

def symV (σ : St) : Option SV → Option OpR
  | some (v, ps) => some (.val ⟨sy v, σ.assumes ps, .nil⟩)
  | none => none
def sBin2 (T : TE) (op : BinOp) (t : TypeId) (a b : Value) : Option SV :=
  match unsy a, unsy b with
  | some (.bool x), some (.bool y) => match T.und t with
    | some .bool => sBin op (.bool x) (.bool y)
    | _ => none
  | some a, some b => sBin op a b
  | _, _ => none
/-- is an interface value nil? -/
def uner : Value → Option Bool
  | .nilIface => some true
  | .iface _ _ => some false
  | .tuple a => match a.toList with
    | [.chan (some 3), .bool b] => some b
    | _ => none
  | _ => none
def isCon : Operand → Bool
  | .const _ => true
  | _ => false
/-- an interface value, and nil -/
def eBin (T : TE) (op : BinOp) (t : TypeId) (oy : Operand) (a b : Value) : Option SV :=
  match uner a, b, T.und t with
  | some e, .nilIface, some (.interface _) => bif isCon oy then match op with
      | .eql => some (.bool e, [])
      | .neq => some (.bool (!e), [])
      | _ => none
    else none
  | _, _, _ => none
def sBin3 (T : TE) (op : BinOp) (t : TypeId) (oy : Operand) (a b : Value) : Option SV :=
  match sBin2 T op t a b with
  | some r => some r
  | none => eBin T op t oy a b
def unsyO : Option Value → Option (Option Value)
  | none => some none
  | some v => match unsy v with
    | some u => some (some u)
    | none => none
def unsyL : List Value → Option (List Value)
  | [] => some []
  | v :: vs => match unsy v, unsyL vs with
    | some u, some us => some (u :: us)
    | _, _ => none
def sSlice (T : TE) (σ : St) (t : TypeId) (x : Value) (lo hi : Option Value) : Option OpR :=
  match sCutD T σ t x lo hi with
  | some r => some (.val r)
  | none => match unsy x, unsyO lo, unsyO hi with
    | some u, some l, some h => symV σ (sCut T t u l h)
    | _, _, _ => none
/-- append to an empty slice at the end of what there is -/
def aAppendE (T : TE) (σ : St) (args : Array TypeId) (x y : Value) : Option R :=
  match x with
  | .slice (some ⟨id, off, some 0⟩) 0 c => bif Nat.beq c unk then match lenV y with
      | some (_ + 1) => aAppend T σ args (.slice (some ⟨id, off, none⟩) 0 unk) y
      | _ => none
    else none
  | _ => none
def sCallB (T : TE) (σ : St) (b : Builtin) (argTypes : List TypeId) (args : List Value) : Option OpR :=
  match b, args with
  | .append, [x, y] => memV (aAppendE T σ argTypes.toArray x y)
  | .len, [x] => match sLen T σ argTypes x with
    | some r => some (.val r)
    | none => match unsyL args with
      | some us => symV σ (sBI T b argTypes us)
      | none => none
  | _, _ => match unsyL args with
    | some us => symV σ (sBI T b argTypes us)
    | none => none

def sMnz (E : Env) (σ : St) (g : FuncId) (args : List Value) : Option OpR :=
  match E.mnz g, args with
  | some elem, [v] => match unsy v, E.T.inf elem with
    | some (.int .i64 (.ofNat n)), some e => bif Nat.beq e.size 1 && Nat.ble n 281474976710656 then some (.val ⟨.slice (some ⟨σ.next, 0, none⟩) n unk, σ.new (.row (List.replicate n junk) elem false), .nil⟩) else none
    | _, _ => none
  | _, _ => none
def symOp (E : Env) (s : Tr Value) (σ : St) (o : Oper) : Option OpR :=
  match o.op with
  | .load t a => match av E.G s a with
    | some v => memV (sLoad E.T σ t v)
    | none => none
  | .binOp op t x y _ => match av E.G s x, av E.G s y with
    | some a, some b => symV σ (sBin3 E.T op t y a b)
    | _, _ => none
  | .unOp op _ x => match av E.G s x with
    | some v => match unsy v with
      | some u => symV σ (sUn op u)
      | none => none
    | none => none
  | .convert src dst x => match av E.G s x with
    | some v => match unsy v with
      | some u => symV σ (sConv E.T src dst u)
      | none => none
    | none => none
  | .slice t x lo hi none => match av E.G s x, avo E.G s lo, avo E.G s hi with
    | some v, some l, some h => sSlice E.T σ t v l h
    | _, _, _ => none
  | .fieldAddr t x f => match av E.G s x with
    | some v => memV (sFieldAddr E.T σ t v f)
    | none => none
  | .indexAddr t x i => match av E.G s x, av E.G s i with
    | some v, some u => memV (sIndexAddr E.T σ t v u)
    | _, _ => none
  | .index t x i => match av E.G s x, av E.G s i with
    | some v, some u => match unsy v, unsy u with
      | some a, some b => symV σ (sIdx E.T t a b)
      | _, _ => none
    | _, _ => none
  | .call c => match avs E.G s c.args.toList with
    | some args => match c.callee with
      | .builtin b => sCallB E.T σ b c.argTypes.toList args
      | .value f => match av E.G s f with
        | some (.func (.func g) first captured) => sMnz E σ g (first.toList ++ args ++ captured.toList)
        | _ => none
      | _ => none
    | none => none
  | _ => none
def aOpS (P : Program) (E : Env) (s : Tr Value) (σ : St) (o : Oper) : Option OpR :=
  match aOp P E s σ o with
  | some r => some r
  | none => symOp E s σ o

section
variable {P : Program} {E : Env} (hE : E.OK P) {D : Nat → Prop} {ι : Nat → Reg} {σ : St} {w : World} {s : Tr Value} {ρ : Operand → Value}

theorem symV_spec {x : Option SV} {r : R} (h : symV σ x = some (.val r)) : ∃ v ps, x = some (v, ps) ∧ r = ⟨sy v, σ.assumes ps, .nil⟩ := by
  unfold symV at h
  split at h
  · cases h; exact ⟨_, _, rfl, rfl⟩
  · cases h
theorem assumes_afr : ∀ (ps : List Prop) (σ : St) (φ : Foot), σ.next ≤ (σ.assumes ps).next ∧ (σ.wf → (σ.assumes ps).wf ∧ AFr σ (σ.assumes ps) φ)
  | [], σ, φ => ⟨Nat.le_refl _, fun hw => ⟨hw, AFr.refl _ _⟩⟩
  | p :: ps, σ, φ => by
    obtain ⟨h1, h2⟩ := assumes_afr ps σ φ
    exact ⟨h1, fun hw => ⟨(h2 hw).1, (h2 hw).2.assume p⟩⟩
theorem symV_abs {x : Option SV} {r : R} (h : symV σ x = some (.val r)) : Abs σ r := by
  obtain ⟨v, ps, _, rfl⟩ := symV_spec h
  exact assumes_afr ps σ .nil
theorem Sound.abs {e : Sem Value} {r : R} (h : ∀ (D : Nat → Prop) (ι : Nat → Reg) (w : World), Sound P D ι σ w e r) : Abs σ r :=
  ⟨(h (fun _ => False) (fun _ => rg 0 0 0 0) default).1, (h (fun _ => False) (fun _ => rg 0 0 0 0) default).2.1⟩
theorem Abs.assumes {v : Value} {σ' : St} {φ : Foot} : ∀ (ps : List Prop), Abs σ ⟨v, σ', φ⟩ → Abs σ ⟨v, σ'.assumes ps, φ⟩
  | [], h => h
  | p :: ps, h => by
    obtain ⟨h1, h2⟩ := Abs.assumes ps h
    exact ⟨h1, fun hw => ⟨(h2 hw).1, (h2 hw).2.assume p⟩⟩
theorem Abs.assume {v : Value} {σ' : St} {φ : Foot} {p : Prop} (h : Abs σ ⟨v, σ', φ⟩) : Abs σ ⟨v, σ'.assume p, φ⟩ := Abs.assumes [p] h
theorem sLoad_abs {T : TE} {t : TypeId} {a : Value} {r : R} (h : sLoad T σ t a = some r) : Abs σ r := by
  unfold sLoad at h
  simp only [Bool.cond_eq_ite] at h
  split at h
  · split at h
    · split at h
      · split at h
        · split at h
          · split at h
            · rcases hm : mat _ σ with ⟨vs, σ1⟩
              rw [hm] at h
              cases h
              exact Abs.assume (mat_sound hm)
            · cases h
          · cases h
        · split at h
          · split at h
            · rename_i hm
              cases h
              exact Abs.assume (mat_sound hm)
            · cases h
          · cases h
      · cases h
    · cases h
  · cases h
theorem sIndexAddr_abs {T : TE} {t : TypeId} {x i : Value} {r : R} (h : sIndexAddr T σ t x i = some r) : Abs σ r := by
  unfold sIndexAddr at h
  simp only [Bool.cond_eq_ite] at h
  repeat' split at h
  all_goals first | (cases h; exact Abs.assume (Abs.assume (Abs.same _ _))) | cases h
theorem sFieldAddr_abs {T : TE} {t : TypeId} {x : Value} {f : Nat} {r : R} (h : sFieldAddr T σ t x f = some r) : Abs σ r := by
  unfold sFieldAddr at h
  simp only [Bool.cond_eq_ite] at h
  repeat' split at h
  all_goals first | (cases h; exact Abs.same _ _) | cases h
theorem sLen_abs {T : TE} {ts : List TypeId} {x : Value} {r : R} (h : sLen T σ ts x = some r) : Abs σ r := by
  unfold sLen at h
  repeat' split at h
  all_goals first | (cases h; exact Abs.same _ _) | cases h
theorem sCutD_abs {T : TE} {t : TypeId} {x : Value} {lo hi : Option Value} {r : R} (h : sCutD T σ t x lo hi = some r) : Abs σ r := by
  unfold sCutD at h
  simp only [Bool.cond_eq_ite] at h
  repeat' split at h
  all_goals first | (cases h; exact Abs.assumes _ (Abs.new _ _ _)) | cases h
theorem sSlice_abs {T : TE} {t : TypeId} {x : Value} {lo hi : Option Value} {r : R} (h : sSlice T σ t x lo hi = some (.val r)) : Abs σ r := by
  unfold sSlice at h
  split at h
  · rename_i h'; cases h; exact sCutD_abs h'
  · split at h
    · exact symV_abs h
    · cases h
theorem aAppendE_abs {T : TE} {ts : Array TypeId} {x y : Value} {r : R} (h : aAppendE T σ ts x y = some r) : Abs σ r := by
  unfold aAppendE at h
  simp only [Bool.cond_eq_ite] at h
  repeat' split at h
  all_goals first | exact aAppend_abs h | cases h
theorem sCallB_abs {T : TE} {b : Builtin} {ts : List TypeId} {args : List Value} {r : R} (h : sCallB T σ b ts args = some (.val r)) : Abs σ r := by
  unfold sCallB at h
  split at h
  · exact aAppendE_abs (memV_spec h)
  · split at h
    · rename_i h'; cases h; exact sLen_abs h'
    · split at h
      · exact symV_abs h
      · cases h
  · split at h
    · exact symV_abs h
    · cases h
theorem sMnz_abs {g : FuncId} {args : List Value} {r : R} (h : sMnz E σ g args = some (.val r)) : Abs σ r := by
  unfold sMnz at h
  simp only [Bool.cond_eq_ite] at h
  repeat' split at h
  all_goals first | (cases h; exact Abs.new _ _ _) | cases h
theorem symOp_abs {o : Oper} {r : R} (h : symOp E s σ o = some (.val r)) : Abs σ r := by
  unfold symOp at h
  repeat' split at h
  all_goals first
    | exact symV_abs h
    | exact sLoad_abs (memV_spec h)
    | exact sFieldAddr_abs (memV_spec h)
    | exact sIndexAddr_abs (memV_spec h)
    | exact sSlice_abs h
    | exact sCallB_abs h
    | exact sMnz_abs h
    | cases h
theorem aOpS_abs {o : Oper} {r : R} (h : aOpS P E s σ o = some (.val r)) : Abs σ r := by
  unfold aOpS at h
  split at h
  · rename_i h'; cases h; exact aOp_abs h'
  · exact symOp_abs h

theorem eqGuard_scal {op : BinOp} {t : TypeId} {ox oy : Operand} {x y : Value} (h : scal x = true) (w : World) : (eqGuard op t ox oy x y).run P w = .ok () w :=
  eqGuard_run (by rintro rfl; cases h) (by rintro c rfl; cases h) w
theorem symV_sound {e : Sem Value} {x : Option SV} {r : R} (h : symV σ x = some (.val r)) (hok : r.σ.Ok) (hr : ∀ v ps, x = some (v, ps) → AllP ps → e.run P w = .ok v w ∧ scal v = true) : SoundN P D ι σ w (do Pure.pure (.value (← e))) r := by
  obtain ⟨v, ps, hx, rfl⟩ := symV_spec h
  obtain ⟨hp, -⟩ := (assumes_ok _ _).1 hok
  obtain ⟨h1, h2⟩ := hr v ps hx hp
  exact Sound.next (Sound.assumes ps (Sound.pure h1 (.sym v h2)))

theorem unsyL_spec : ∀ (vs us : List Value) (as : Array Value), unsyL vs = some us → AR D ι vs.toArray as → as = us.toArray
  | [], us, as, h, ha => by
    simp only [unsyL, Option.some.injEq] at h
    subst h
    have : as.size = 0 := by simpa using ha.1.symm
    exact Array.eq_empty_of_size_eq_zero this
  | v :: vs, us, as, h, ha => by
    simp only [unsyL] at h
    split at h
    · rename_i u us' hu hus
      cases h
      obtain ⟨l⟩ := as
      cases l with
      | nil => have := ha.1; simp at this
      | cons a l =>
        have h0 := (unsy_spec hu (ha.2 0 v a (by simp) (by simp))).1
        have := unsyL_spec vs us' l.toArray hus ⟨by have := ha.1; simp at this; simpa using this, fun i x y hx hy => ha.2 (i + 1) x y (by simpa using hx) (by simpa using hy)⟩
        have hl : l = us' := by simpa using this
        rw [h0, hl]
    · cases h
theorem unsyO_spec {x x' : Option Value} {u : Option Value} (h : unsyO x = some u) (hx : OR D ι x x') : x' = u := by
  unfold unsyO at h
  split at h
  · cases h; cases hx; rfl
  · split at h
    · rename_i u' hu
      cases h
      cases hx with
      | some _ b hb => rw [(unsy_spec hu hb).1]
    · cases h

theorem uner_spec {x x' : Value} {b : Bool} (h : uner x = some b) (hx : VR D ι x x') : isE b x' = true := by
  unfold uner at h
  split at h
  · cases h; cases hx; rfl
  · cases h; cases hx; rfl
  · rename_i a
    split at h
    · rename_i c hc
      cases h
      rw [tuple_eq hc] at hx
      exact er_inv hx
    · cases h
  · cases h
theorem isE_cases {b : Bool} {x : Value} (h : isE b x = true) : (x = .nilIface ∧ b = true) ∨ ∃ t u, x = .iface t u ∧ b = false := by
  cases x <;> first | (cases h; done) | skip
  · exact .inr ⟨_, _, rfl, by simpa [isE] using h⟩
  · exact .inl ⟨rfl, h⟩
theorem eqGuard_con {op : BinOp} {t : TypeId} {ox oy : Operand} {x y : Value} (hc : isCon oy = true) (h2 : ∀ c, x ≠ .agg c) (w : World) : (eqGuard op t ox oy x y).run P w = .ok () w := by
  have : eqGuard op t ox oy x y = Pure.pure () := by
    cases oy <;> first | (cases hc; done) | skip
    cases op <;> first
      | rfl
      | (cases x <;> first
          | rfl
          | exact absurd rfl (h2 _)
          | (cases y <;> first | rfl | (simp only [eqGuard]; cases ox <;> rfl)))
  rw [this]; rfl
theorem eBin_run {T : TE} (hT : T.OK P) {op : BinOp} {t : TypeId} {ox oy : Operand} {a b a' b' v : Value} {ps : List Prop} (h : eBin T op t oy a b = some (v, ps)) (ha : VR D ι a a') (hb : VR D ι b b') (w : World) :
    (do eqGuard op t ox oy a' b'; binOp op t a' b').run P w = .ok v w ∧ scal v = true := by
  unfold eBin at h
  split at h
  · rename_i e i he hu
    cases hb
    cases hc : isCon oy
    · rw [hc] at h; cases h
    rw [hc, cond_true] at h
    have hE := isE_cases (uner_spec he ha)
    have heq : (Op.equal t a' .nilIface).run P w = .ok e w := by
      have hun : Op.equal t a' .nilIface = Op.equalIn (9999 + 1) t a' .nilIface := rfl
      rw [hun, Op.equalIn]
      rcases hE with ⟨rfl, rfl⟩ | ⟨_, _, rfl, rfl⟩ <;>
      · simp only [Sem.run_bind, run_und hT hu, Result.andThen_ok, Sem.run_pure] <;> rfl
    have hn : notNum a' = true := by rcases hE with ⟨rfl, _⟩ | ⟨_, _, rfl, _⟩ <;> rfl
    have hg : ∀ op, (eqGuard op t ox oy a' .nilIface).run P w = .ok () w := fun op => eqGuard_con hc (by rcases hE with ⟨rfl, _⟩ | ⟨_, _, rfl, _⟩ <;> simp) w
    split at h
    · cases h
      exact ⟨by simp only [Sem.run_bind, hg, Result.andThen_ok, binOp_eql hn, heq, Sem.run_pure], rfl⟩
    · cases h
      exact ⟨by simp only [Sem.run_bind, hg, Result.andThen_ok, binOp_neq hn, heq, Sem.run_pure], rfl⟩
    · cases h
  · cases h
include hE in
theorem sMnz_sound {g : FuncId} {args : List Value} {as : Array Value} {r : R} (h : sMnz E σ g args = some (.val r)) (ha : AR D ι args.toArray as) : SoundN P D ι σ w (callFunc g as) r := by
  unfold sMnz at h
  split at h
  · rename_i elem v hm
    split at h
    · rename_i n e hu he
      cases hb : (Nat.beq e.size 1 && Nat.ble n 281474976710656)
      · rw [hb] at h; cases h
      rw [hb, cond_true, ] at h
      rw [Bool.and_eq_true] at hb
      have hz := Nat.eq_of_beq_eq_true hb.1
      have hn := Nat.le_of_ble_eq_true hb.2
      cases h
      obtain ⟨v', rfl, hv⟩ := ha.one
      obtain ⟨rfl, -⟩ := unsy_spec hu hv
      obtain ⟨cs, hr, hle⟩ := hE.mnz _ _ hm n w hn
      refine ⟨by simp [St.new], fun hw => ⟨St.new_wf hw _, AFr.new _ _ _⟩, fun hw hD _ => ?_⟩
      have hDn : ¬ D σ.next := hD _ (by simp [St.rng, St.new])
      refine ⟨_, _, upd ι σ.next (rg w.heap.size 0 cs.size 1), _, hr, .inl rfl, ?_, Post.new hw hDn (by simpa using hle) (fun i hi => ?_) (fr := (0, 0)) (fun o _ h => by omega) (fun k v hk => ?_) rfl rfl rfl rfl rfl⟩
      · have := VR.slU (D := fun i => D i ∨ σ.rng (σ.new (.row (List.replicate n junk) elem false)) i) (ι := upd ι σ.next (rg w.heap.size 0 cs.size 1)) σ.next 0 n cs.size (.inr (St.rng_new.2 rfl)) hle (by rw [upd_eq]; simp)
        rw [upd_eq] at this
        exact this
      · rw [hE.T.inf _ _ he] at hi; cases hi; exact ⟨hz.symm, by rw [hz]; exact Nat.mod_one _⟩
      · rw [List.getElem?_replicate] at hk
        split at hk
        · cases hk
          exact ⟨cs[k]'(by omega), Array.getElem?_eq_getElem _, .junk _⟩
        · cases hk
    · cases h
  · cases h
theorem lenV_aCells {size m n : Nat} {y : Value} {l : List Value} {rc : List (Nat × Nat)} (h1 : lenV y = some m) (h2 : aCells σ size y = some (l, n, rc)) : n = m := by
  unfold aCells at h2
  simp only [Bool.cond_eq_ite] at h2
  repeat' split at h2
  all_goals first | (cases h2; cases h1; rfl) | cases h2
  all_goals (rename_i hb; cases h1; exact (Nat.eq_of_beq_eq_true hb).symm)
theorem append_base {T : TE} (hT : T.OK P) {sT xT : TypeId} {args : Array TypeId} {d : TypeDesc} {elem : TypeId} {e : TypeInfo} {z : Value} {a b : Addr} {n : Nat} {x : Value} {ty : TypeId}
    (h0 : args[0]? = some sT) (h1 : args[1]? = some xT) (hs : T.und sT = some (.slice elem)) (hx : T.und xT = some d) (hd : ∀ k, d ≠ .int k) (he : T.inf elem = some e) (hz : e.zero = some z)
    (hbz : e.bytes ≠ 0) (hb : (2 * (0 + n) + 400) * e.bytes ≤ 2 ^ 48) (hlen : ∀ w, (Builtin.lenOf x).run P w = .ok n w) (hgt : 0 < n) (w : World) :
    (Builtin.append_ args ty #[.slice (some a) 0 0, x]).run P w = (Builtin.append_ args ty #[.slice (some b) 0 0, x]).run P w := by
  have hq : (Question.appendCap (0 + n) 0 elem).forced = false := rfl
  have hno : ¬ (Builtin.nextslicecap (0 + n) 0 * e.bytes > 2 ^ 48) := by
    have := Nat.mul_le_mul_right e.bytes (nextcap_le (show 0 < 0 + n by omega))
    omega
  have hni : ¬ (0 + n ≤ 0) := by omega
  have hf : ∀ (a : Addr) (w : World), (Builtin.firstCells e.size 0 (.slice (some a) 0 0)).run P w = .ok #[] w := fun a w => by
    simp only [Builtin.firstCells, Nat.zero_mul]; rfl
  unfold Builtin.append_
  simp only [h0, h1, List.getElem?_toArray, List.getElem?_cons_zero, List.getElem?_cons_succ, Sem.run_bind, run_und hT hs, Result.andThen_ok, run_siz hT he, run_und hT hx, Sem.run_pure, Bool.false_eq_true, if_false, hlen, if_neg hni,
    run_inf hT he, hbz, false_or, and_false, if_neg hno, run_choose, hq, run_askRoom, Bool.not_false, if_true, hf]
theorem aAppendE_sound {T : TE} (hT : T.OK P) {args : Array TypeId} {ty : TypeId} {x x' y y' : Value} {r : R} (h : aAppendE T σ args x y = some r) (hx : VR D ι x x') (hy : VR D ι y y') :
    Sound P D ι σ w (Builtin.append_ args ty #[x', y']) r := by
  unfold aAppendE at h
  split at h
  · rename_i id off c
    cases hc : Nat.beq c unk
    · rw [hc] at h; cases h
    rw [hc, cond_true] at h
    have hc := Nat.eq_of_beq_eq_true hc
    subst hc
    split at h
    · rename_i n hn
      cases hx with
      | slE _ _ o' c h' h1 h2 =>
        rcases h2 with rfl | ⟨rfl, h2⟩
        · obtain ⟨s1, s2, s3⟩ := aAppend_sound hT (w := w) (ty := ty) h (.slU id off 0 0 h' (Nat.le_refl _) (by omega)) hy
          refine ⟨s1, s2, fun hw hD ho => ?_⟩
          have heq : (Builtin.append_ args ty #[.slice (some ⟨(ι id).blk, (ι id).base + o', none⟩) 0 0, y']).run P w = (Builtin.append_ args ty #[.slice (some ⟨(ι id).blk, (ι id).base + off, none⟩) 0 0, y']).run P w := by
            unfold aAppend at h
            split at h
            · rename_i sT xT rest hargs
              have h0 : args[0]? = some sT := by rw [← Array.getElem?_toList, hargs]; rfl
              have h1 : args[1]? = some xT := by rw [← Array.getElem?_toList, hargs]; rfl
              split at h
              · rename_i elem d hsT hxT
                cases hd : isIntD d
                · rw [hd, cond_false] at h
                  split at h
                  · rename_i e he
                    split at h
                    · rename_i z new m rc hz hcl
                      have hm := lenV_aCells hn hcl
                      subst hm
                      dsimp only at h
                      split at h
                      · rename_i cs el ro hg
                        rw [beq_t (rfl : unk = unk), cond_true, beq_f (show Nat.succ n ≠ 0 by omega), cond_false] at h
                        cases hb : (Nat.beq el elem && !ro && growOK e z (0 + (n + 1)) && new.all oneC && Nat.beq (Nat.mod off e.size) 0)
                        · rw [hb] at h; cases h
                        · rw [Bool.and_eq_true, Bool.and_eq_true, Bool.and_eq_true] at hb
                          obtain ⟨g1, g2, g3⟩ := growOK_spec hb.1.1.2
                          exact append_base hT h0 h1 hsT hxT (isIntD_spec hd) he hz g2 g3 (lenV_run hn hy) (by omega) w
                      · cases h
                    · cases h
                  · cases h
                · rw [hd] at h; cases h
              · cases h
            · cases h
          obtain ⟨v', ι', w', e1, e2, e3⟩ := s3 hw hD ho
          exact ⟨v', ι', w', heq.trans e1, e2, e3⟩
        · exact aAppend_sound hT h (.slU id _ 0 c h' (Nat.zero_le _) h2) hy
    · cases h
  · cases h
include hE in
theorem symOp_val {o : Oper} {r : R} (h : symOp E s σ o = some (.val r)) (hok : r.σ.Ok) (hs : ∀ x, x ∈ o.op.operands → Rel E.G D ι s ρ x) : SoundN P D ι σ w (execOp ρ o) r := by
  unfold symOp at h
  unfold execOp
  split at h
  · rename_i t a ho
    simp only [ho, Op.operands] at hs ⊢
    split at h
    · rename_i v hv
      exact Sound.next (sLoad_sound hE.T (memV_spec h) hok (hs a (by simp) v hv))
    · cases h
  · rename_i op t x y ty ho
    simp only [ho, Op.operands] at hs ⊢
    split at h
    · rename_i a b ha hb
      have hx := hs x (by simp) a ha
      have hy := hs y (by simp) b hb
      refine symV_sound h hok fun v ps hv hp => ?_
      unfold sBin3 at hv
      split at hv
      case h_2 => exact eBin_run hE.T hv hx hy w
      rename_i hv2
      cases hv
      have hv := hv2
      unfold sBin2 at hv
      split at hv
      · rename_i x' y' hu1 hu2
        split at hv
        · rename_i hu
          obtain ⟨e1, e2⟩ := unsy_spec hu1 hx
          obtain ⟨e3, e4⟩ := unsy_spec hu2 hy
          rw [e1, e3]
          obtain ⟨r1, r2⟩ := sBin_run (P := P) (t := t) hE.T (fun _ _ => hu) hv hp w
          exact ⟨by simp only [Sem.run_bind, eqGuard_scal e2, Result.andThen_ok]; exact r1, r2⟩
        · cases hv
      · rename_i u1 u2 hno hu1 hu2
        obtain ⟨e1, e2⟩ := unsy_spec hu1 hx
        obtain ⟨e3, e4⟩ := unsy_spec hu2 hy
        rw [e1, e3]
        have hnb : ∀ b, u1 = .bool b → E.T.und t = some .bool := by
          rintro b rfl
          unfold sBin at hv
          split at hv
          · rename_i h1; cases h1
          · rename_i h1; cases h1
          · exact (hno _ _ rfl rfl).elim
          · cases hv
        obtain ⟨r1, r2⟩ := sBin_run (P := P) (t := t) hE.T hnb hv hp w
        exact ⟨by simp only [Sem.run_bind, eqGuard_scal e2, Result.andThen_ok]; exact r1, r2⟩
      · cases hv
    · cases h
  · rename_i op t x ho
    simp only [ho, Op.operands] at hs ⊢
    split at h
    · rename_i v hv
      split at h
      · rename_i u hu
        obtain ⟨e1, e2⟩ := unsy_spec hu (hs x (by simp) v hv)
        rw [e1]
        exact symV_sound h hok fun v ps hv hp => sUn_run hv hp w
      · cases h
    · cases h
  · rename_i src dst x ho
    simp only [ho, Op.operands] at hs ⊢
    split at h
    · rename_i v hv
      split at h
      · rename_i u hu
        obtain ⟨e1, e2⟩ := unsy_spec hu (hs x (by simp) v hv)
        rw [e1]
        exact symV_sound h hok fun v ps hv hp => sConv_run hE.T hv hp w
      · cases h
    · cases h
  · rename_i t x lo hi ho
    simp only [ho, Op.operands] at hs ⊢
    split at h
    · rename_i v l h' hv hl hh
      have h1 := avo_rel hl fun y e => hs y (by subst e; simp)
      have h2 := avo_rel hh fun y e => hs y (by subst e; simp)
      unfold sSlice at h
      split at h
      · rename_i hc
        cases h
        exact Sound.next (sCutD_sound hE.T hc hok (hs x (by simp) v hv) h1 h2)
      · split at h
        · rename_i u l2 h2' hu hl2 hh2
          obtain ⟨e1, e2⟩ := unsy_spec hu (hs x (by simp) v hv)
          have e3 := unsyO_spec hl2 h1
          have e4 := unsyO_spec hh2 h2
          rw [e1, e3, e4]
          exact symV_sound h hok fun v ps hv hp => sCut_run hE.T hv hp w
        · cases h
    · cases h
  · rename_i t x f ho
    simp only [ho, Op.operands] at hs ⊢
    split at h
    · rename_i v hv
      exact Sound.next (sFieldAddr_sound hE.T (memV_spec h) (hs x (by simp) v hv))
    · cases h
  · rename_i t x i ho
    simp only [ho, Op.operands] at hs ⊢
    split at h
    · rename_i v u hv hu
      exact Sound.next (sIndexAddr_sound hE.T (memV_spec h) hok (hs x (by simp) v hv) (hs i (by simp) u hu))
    · cases h
  · rename_i t x i ho
    simp only [ho, Op.operands] at hs ⊢
    split at h
    · rename_i v u hv hu
      split at h
      · rename_i a b ha hb
        rw [(unsy_spec ha (hs x (by simp) v hv)).1, (unsy_spec hb (hs i (by simp) u hu)).1]
        exact symV_sound h hok fun v ps hv hp => sIdx_run hE.T hv hp w
      · cases h
    · cases h
  · rename_i c ho
    simp only [ho, Op.operands, Call.operands] at hs ⊢
    split at h
    · rename_i args hargs
      have ea := avs_rel (ρ := ρ) _ _ hargs fun x hx => hs x (by simp at hx ⊢; exact .inr hx)
      have q1 : (c.args.toList.map ρ).toArray = c.args.map ρ := by apply Array.ext'; simp
      rw [q1] at ea
      split at h
      · rename_i b hc
        have e : (do let d ← resolve ρ c o.type; invoke d.target d.args : Sem Next) = builtin b c.argTypes o.type (c.args.map fun | .const _ => true | _ => false) (c.args.map ρ) := by
          simp only [resolve, hc]; rfl
        rw [e]
        have pureB : ∀ us, unsyL args = some us → symV σ (sBI E.T b c.argTypes.toList us) = some (.val r) → SoundN P D ι σ w (builtin b c.argTypes o.type (c.args.map fun | .const _ => true | _ => false) (c.args.map ρ)) r := by
          intro us hus hsv
          rw [unsyL_spec args us _ hus ea]
          obtain ⟨v, ps, hx, rfl⟩ := symV_spec hsv
          obtain ⟨r1, r2, r3⟩ := sBI_run (P := P) hE.T hx w (ty := o.type) (consts := c.args.map fun | .const _ => true | _ => false)
          simp only at r1 r2 r3
          subst r3
          exact SoundN.value r1 (.sym v r2)
        unfold sCallB at h
        split at h
        · rename_i x y
          obtain ⟨x', y', hxy, hx, hy⟩ := ea.two
          rw [hxy]
          have := aAppendE_sound hE.T (w := w) (ty := o.type) (memV_spec h) hx hy
          simp only [Array.toArray_toList] at this
          exact Sound.next this
        · rename_i x
          split at h
          · rename_i r' hl
            cases h
            obtain ⟨x', hx', hxx⟩ := ea.one
            rw [hx']
            exact Sound.next (sLen_sound hE.T hl hxx)
          · split at h
            · rename_i us hus; exact pureB us hus h
            · cases h
        · split at h
          · rename_i us hus; exact pureB us hus h
          · cases h
      · rename_i f hc
        split at h
        · rename_i g first captured hf
          have ef := hs f (by simp [hc]) _ hf
          generalize hrf : ρ f = rf at ef
          cases ef with
          | func _ _ a' _ b' h1 h2 h3 h4 =>
            have hcat : AR D ι (first.toList ++ args ++ captured.toList).toArray (a' ++ c.args.map ρ ++ b') := AR.catN ⟨by simpa using h1, by simpa using h3⟩ ea ⟨by simpa using h2, by simpa using h4⟩
            obtain ⟨s1, s2, s3⟩ := sMnz_sound hE (w := w) h hcat
            refine ⟨s1, s2, fun hw hD ho => ?_⟩
            rw [call_resolve hc hrf]
            exact s3 hw hD ho
        · cases h
      · cases h
    · cases h
  · cases h

include hE in
theorem aOpS_val {o : Oper} {r : R} (h : aOpS P E s σ o = some (.val r)) (hok : r.σ.Ok) (hs : ∀ x, x ∈ o.op.operands → Rel E.G D ι s ρ x) : SoundN P D ι σ w (execOp ρ o) r := by
  unfold aOpS at h
  split at h
  · rename_i h'; cases h; exact aOp_val hE h' hok hs
  · exact symOp_val hE h hok hs
theorem symOp_enter {o : Oper} {f : FuncId} {args : List Value} : symOp E s σ o ≠ some (.enter f args) := by
  have hv : ∀ x, symV σ x ≠ some (.enter f args) := fun x => by unfold symV; split <;> simp
  have hm : ∀ x : Option R, memV x ≠ some (.enter f args) := fun x => memV_enter
  intro h
  unfold symOp at h
  repeat' split at h
  all_goals first
    | exact hv _ h
    | exact hm _ h
    | (unfold sSlice at h; repeat' split at h
       all_goals first | exact hv _ h | cases h)
    | (unfold sCallB at h; repeat' split at h
       all_goals first | exact hv _ h | exact hm _ h | cases h)
    | (simp only [sMnz, Bool.cond_eq_ite] at h; repeat' split at h
       all_goals cases h)
    | cases h
include hE in
theorem aOpS_enter {o : Oper} {f : FuncId} {args : List Value} (h : aOpS P E s σ o = some (.enter f args)) (hs : ∀ x, x ∈ o.op.operands → Rel E.G D ι s ρ x) :
    ∃ args' fn, AR D ι args.toArray args' ∧ E.fn f = some fn ∧ (execOp ρ o).run P w = .ok (.enter f args') w := by
  unfold aOpS at h
  split at h
  · rename_i h'; cases h; exact aOp_enter hE h' hs
  · exact absurd h symOp_enter
end
end Go.Eng

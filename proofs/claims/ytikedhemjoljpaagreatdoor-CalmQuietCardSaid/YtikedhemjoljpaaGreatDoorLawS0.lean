/-
  Laws of armariumlaw22 with arguments: begun is known; arguments that are not known. No condition.
-/
import Derived.Test.YtikedhemjoljpaaGreatDoorEO
import Derived.Test.YtikedhemjoljpaaGreatDoorSym
import Derived.Test.YtikedhemjoljpaaGreatDoorEng12
namespace Go.Proofs.YtikedhemjoljpaaGreatDoor
noncomputable section
open Go Go.Eng
set_option maxRecDepth 1000000
noncomputable def smS := (sumT 9 (sumI sum0))
theorem smS_ok : SumOK smS := (env_more (env_idx env0) O_truer)
/-- a contract of data in a run in which something is not known: its own conditions alone are worked out -/
noncomputable def plainP2 (E : Eng.Env) (f0 : FuncId) (S : PSpec) : FuncId → List Value → St → Option (Value × St × Foot) := fun f args σ =>
  bif Nat.beq f f0 then match callPure E S args ⟨σ.heap, σ.next, [], []⟩ with
    | some (v, σ', φ) => bif allT σ'.pc then some (conc v, ⟨σ'.heap, σ'.next, σ.pc, σ.ora⟩, φ) else none
    | none => none
  else none
theorem plainP2_ok {P : Program} {E E' : Eng.Env} (hE : E.OK P) (hG : E'.G = E.G) (hgl : E'.gl = E.gl) {f0 : FuncId} {S : PSpec} (hS : E.spec f0 = some S) {f : FuncId} {args : List Value} {σ σ' : St} {v : Value} {φ : Foot}
    (h : plainP2 E f0 S f args σ = some (v, σ', φ)) : CusOK P E' f args σ v σ' φ := by
  unfold plainP2 at h
  cases hb : Nat.beq f f0
  · rw [hb] at h; cases h
  rw [hb, cond_true] at h
  have := Nat.eq_of_beq_eq_true hb
  subst this
  split at h
  · rename_i v1 σ1 φ1 hc
    cases hp : allT σ1.pc
    · rw [hp] at h; cases h
    rw [hp, cond_true] at h
    cases h
    obtain ⟨a1, a2, a3⟩ := callPure_sound hE hS hc
    refine ⟨a1, fun hw => ⟨fun i hi => (a2 hw).1 i hi, ⟨fun i => (a2 hw).2.h i, fun i k => (a2 hw).2.c i k, fun h => h⟩⟩, fun _ D ι w args' hwf hGI hD ha ho => ?_⟩
    have hGI' : GI E D ι := by unfold GI at hGI ⊢; rw [hG, hgl] at hGI; exact hGI
    refine (a3 (allT_ok hp) D ι w args' hwf hGI' hD ha ho).mono ?_
    rintro en w' ⟨v', ι', he, hv, hq⟩
    exact ⟨v', ι', he, conc_vr hv, hq⟩
  · cases h
noncomputable def cusC : FuncId → List Value → St → Option (Value × St × Foot) := fun f args σ =>
  bif Nat.beq f 47 then aTear args σ else bif Nat.beq f 131 then aDel (.int .i64 0) args σ else bif Nat.beq f 88 then aDel (.string ⟨#[]⟩) args σ else plainP2 (envS [(111, Nice.gmarkS)]) 111 Nice.gmarkS f args σ
theorem cusC_ok {E : Eng.Env} (hG : E.G = 10) (hgl : E.gl = glC) {f : FuncId} {args : List Value} {σ σ' : St} {v : Value} {φ : Foot} (h : cusC f args σ = some (v, σ', φ)) : CusOK Tryz.prog E f args σ v σ' φ := by
  unfold cusC at h
  cases h1 : Nat.beq f 47
  · rw [h1, cond_false] at h
    cases h2 : Nat.beq f 131
    · rw [h2, cond_false] at h
      cases h3 : Nat.beq f 88
      · rw [h3, cond_false] at h
        exact plainP2_ok (E := envS [(111, Nice.gmarkS)]) (envS_ok ⟨gmark_c, trivial⟩) hG hgl rfl h
      · rw [h3, cond_true] at h
        rw [beq_eq h3]
        exact aDel_cus rfl (fun b off n c i j vs w => delS b off n c i j vs w) h
    · rw [h2, cond_true] at h
      rw [beq_eq h2]
      exact aDel_cus rfl (fun b off n c i j vs w => delI b off n c i j vs w) h
  · rw [h1, cond_true] at h
    rw [beq_eq h1]
    exact aTear_cus h
noncomputable def envQ (sum : FuncId → List Value → Option Value) (l : List Ent) : Eng.Env := { envT sum l with cus := cusOr (tabT (mkT l)) (fun f args σ => only idsC f (cusC f args σ)) }
theorem envQ_ok {sum : FuncId → List Value → Option Value} (h : SumOK sum) {l : List Ent} (hl : AllEO l) : (envQ sum l).OK Tryz.prog :=
  have e := envT_ok h hl
  ⟨e.T, e.fn, e.ext, e.sum, e.gl, e.mixed, e.spec, e.mnz, e.cmp, e.osp, e.vsp, fun f args σ v σ' φ hc => by
    unfold envQ cusOr at hc
    simp only at hc
    split at hc
    · rename_i r hr
      cases hc
      exact tabT_ok (fun e he => allEO_mem hl e he _ rfl rfl) hr
    · exact cusC_ok rfl rfl (only_some hc)⟩
theorem ar_nil (D : Nat → Prop) (ι : Nat → Reg) : AR D ι ([] : List Value).toArray #[] := ⟨rfl, fun i a b h => by simp at h⟩
theorem ar_cons {D : Nat → Prop} {ι : Nat → Reg} {x y : Value} {l l' : List Value} (h : VR D ι x y) (t : AR D ι l.toArray l'.toArray) : AR D ι (x :: l).toArray (y :: l').toArray := by
  obtain ⟨t1, t2⟩ := t
  refine ⟨by simpa using t1, fun i a b ha hb => ?_⟩
  cases i with
  | zero => simp at ha hb; subst ha; subst hb; exact h
  | succ i => exact t2 i a b (by simpa using ha) (by simpa using hb)
theorem vr_sy {D : Nat → Prop} {ι : Nat → Reg} (n : Int) : VR D ι (sy (.int .i64 n)) (.int .i64 n) := .sym _ rfl
theorem vr_int {D : Nat → Prop} {ι : Nat → Reg} (n : Int) : VR D ι (.int .i64 n) (.int .i64 n) := .int _ _
/-- one argument, read as data -/
theorem rd_i1 {w : World} {args : Array Value} {x : DenL [.int .i64]} (hx : RdAll (fzW w) [.int .i64] x args.toList) : args = #[.int .i64 x.1] := by
  obtain ⟨v, r, h1, h2, h3⟩ := hx
  have e1 : v = .int .i64 x.1 := by
    rcases h2 with ⟨h, _⟩ | ⟨_, h⟩
    · cases h
    · exact (List.cons.inj h).1
  have h3 : r = [] := h3
  exact Array.ext' (by rw [h1, h3, e1])
theorem rd_i2 {w : World} {args : Array Value} {x : DenL [.int .i64, .int .i64]} (hx : RdAll (fzW w) [.int .i64, .int .i64] x args.toList) : args = #[.int .i64 x.1, .int .i64 x.2.1] := by
  obtain ⟨v, r, h1, h2, v2, r2, h4, h5, h6⟩ := hx
  have e1 : v = .int .i64 x.1 := by
    rcases h2 with ⟨h, _⟩ | ⟨_, h⟩
    · cases h
    · exact (List.cons.inj h).1
  have e2 : v2 = .int .i64 x.2.1 := by
    rcases h5 with ⟨h, _⟩ | ⟨_, h⟩
    · cases h
    · exact (List.cons.inj h).1
  have h6 : r2 = [] := h6
  exact Array.ext' (by rw [h1, h4, h6, e1, e2])
theorem rd_i3 {w : World} {args : Array Value} {x : DenL [.int .i64, .int .i64, .int .i64]} (hx : RdAll (fzW w) [.int .i64, .int .i64, .int .i64] x args.toList) : args = #[.int .i64 x.1, .int .i64 x.2.1, .int .i64 x.2.2.1] := by
  obtain ⟨v, r, h1, h2, v2, r2, h4, h5, v3, r3, h7, h8, h9⟩ := hx
  have e1 : v = .int .i64 x.1 := by
    rcases h2 with ⟨h, _⟩ | ⟨_, h⟩
    · cases h
    · exact (List.cons.inj h).1
  have e2 : v2 = .int .i64 x.2.1 := by
    rcases h5 with ⟨h, _⟩ | ⟨_, h⟩
    · cases h
    · exact (List.cons.inj h).1
  have e3 : v3 = .int .i64 x.2.2.1 := by
    rcases h8 with ⟨h, _⟩ | ⟨_, h⟩
    · cases h
    · exact (List.cons.inj h).1
  have h9 : r3 = [] := h9
  exact Array.ext' (by rw [h1, h4, h7, h9, e1, e2, e3])
end
end Go.Proofs.YtikedhemjoljpaaGreatDoor

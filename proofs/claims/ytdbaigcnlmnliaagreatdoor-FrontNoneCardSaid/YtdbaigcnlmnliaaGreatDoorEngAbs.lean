/-
  The engine: what an abstract operation leaves alone, whatever memory is. No condition.
-/
import Derived.Test.YtdbaigcnlmnliaaGreatDoorEngM
noncomputable section
namespace Go.Eng
open Go

def Abs (σ : St) (r : R) : Prop := σ.next ≤ r.σ.next ∧ (σ.wf → r.σ.wf ∧ AFr σ r.σ r.φ)
section
variable {P : Program} {T : TE} {E : Env} {σ : St} {s : Tr Value}
theorem Abs.same (v : Value) (φ : Foot) : Abs σ ⟨v, σ, φ⟩ := ⟨Nat.le_refl _, fun hw => ⟨hw, AFr.refl _ _⟩⟩
theorem Abs.new (v : Value) (o : AO) (φ : Foot) : Abs σ ⟨v, σ.new o, φ⟩ := ⟨by simp [St.new], fun hw => ⟨St.new_wf hw _, AFr.new _ _ _⟩⟩
theorem Abs.lput {id off : Nat} {cs cs' vs : List Value} {elem : TypeId} {v : Value} {rc : List (Nat × Nat)} {rh : List Nat} {n : Nat} (hg : σ.heap.get id = some (.row cs elem false)) (hl : lput cs off vs = some cs') (hn : n = vs.length) :
    Abs σ ⟨v, σ.put id (some (.row cs' elem false)), ⟨rc, rh, locs id off n, []⟩⟩ :=
  ⟨Nat.le_refl _, fun hw => ⟨St.put_wf hw (St.lv_lt hw (St.lv_of hg)) _, AFr.lput hg hl (by rw [hn])⟩⟩
theorem Abs.whole {id : Nat} {o o' : AO} {v : Value} (hg : σ.heap.get id = some o) : Abs σ ⟨v, σ.put id (some o'), ⟨[], [], [], [id]⟩⟩ :=
  ⟨Nat.le_refl _, fun hw => ⟨St.put_wf hw (St.lv_lt hw (St.lv_of hg)) _, AFr.whole (by simp)⟩⟩
theorem Abs.giveUp {id : Nat} {o o' : AO} {v : Value} {rc : List (Nat × Nat)} (hg : σ.heap.get id = some o) : Abs σ ⟨v, (σ.put id none).new o', ⟨rc, [], [], [id]⟩⟩ :=
  ⟨by simp [St.new, St.put], fun hw => ⟨St.new_wf (St.put_wf hw (St.lv_lt hw (St.lv_of hg)) _) _, AFr.giveUp (by simp)⟩⟩

theorem aNew_abs {elem : TypeId} {cs : List Value} {r : R} (h : aNew T σ elem cs = some r) : Abs σ r := by
  unfold aNew at h
  simp only [Bool.cond_eq_ite] at h
  repeat' split at h
  all_goals first | (cases h; exact Abs.new _ _ _) | cases h
theorem aAlloc_abs {elem : TypeId} {r : R} (h : aAlloc T σ elem = some r) : Abs σ r := by
  unfold aAlloc at h
  simp only [Bool.cond_eq_ite] at h
  repeat' split at h
  all_goals first | exact aNew_abs h | cases h
theorem aLoad_abs {t : TypeId} {a : Value} {r : R} (h : aLoad T σ t a = some r) : Abs σ r := by
  unfold aLoad at h
  simp only [Bool.cond_eq_ite] at h
  repeat' split at h
  all_goals first | (cases h; exact Abs.same _ _) | cases h
theorem aStore_abs {t : TypeId} {a v : Value} {r : R} (h : aStore T σ t a v = some r) : Abs σ r := by
  unfold aStore at h
  simp only [Bool.cond_eq_ite] at h
  split at h
  · split at h
    · rename_i hg
      split at h
      · split at h
        · cases h
        · split at h
          · split at h
            · rename_i hl
              cases h; exact Abs.lput hg hl rfl
            · cases h
          · cases h
      · cases h
    · cases h
  · cases h
theorem aFieldAddr_abs {t : TypeId} {a : Value} {f : Nat} {r : R} (h : aFieldAddr T σ t a f = some r) : Abs σ r := by
  unfold aFieldAddr at h
  simp only [Bool.cond_eq_ite] at h
  repeat' split at h
  all_goals first | (cases h; exact Abs.same _ _) | cases h
theorem aIndexAddr_abs {t : TypeId} {x i : Value} {r : R} (h : aIndexAddr T σ t x i = some r) : Abs σ r := by
  unfold aIndexAddr at h
  simp only [Bool.cond_eq_ite] at h
  repeat' split at h
  all_goals first | (cases h; exact Abs.same _ _) | cases h
theorem aSlice_abs {t : TypeId} {x : Value} {lo hi mx : Option Value} {r : R} (h : aSlice T σ t x lo hi mx = some r) : Abs σ r := by
  unfold aSlice at h
  simp only [Bool.cond_eq_ite] at h
  repeat' split at h
  all_goals first | (cases h; exact Abs.same _ _) | cases h
theorem aGrow_abs {elem : TypeId} {e : TypeInfo} {z : Value} {old new : List Value} {need : Nat} {rc : List (Nat × Nat)} {r : R} (h : aGrow σ elem e z old new need rc = some r) : Abs σ r := by
  unfold aGrow at h
  simp only [Bool.cond_eq_ite] at h
  split at h
  · cases h; exact Abs.new _ _ _
  · cases h
theorem aAppend_abs {args : Array TypeId} {x y : Value} {r : R} (h : aAppend T σ args x y = some r) : Abs σ r := by
  unfold aAppend at h
  simp only [Bool.cond_eq_ite] at h
  split at h
  · split at h
    · split at h
      · cases h
      · split at h
        · split at h
          · split at h
            · repeat' split at h
              all_goals first | (cases h; exact Abs.same _ _) | exact aGrow_abs h | cases h
            · split at h
              · rename_i hg
                split at h
                · split at h
                  · cases h; exact Abs.same _ _
                  · split at h
                    · split at h
                      · cases h; exact Abs.giveUp hg
                      · cases h
                    · cases h
                · split at h
                  · split at h
                    · cases h; exact Abs.same _ _
                    · split at h
                      · rename_i hb
                        split at h
                        · rename_i hl
                          cases h
                          simp only [Bool.and_eq_true, Bool.not_eq_true'] at hb
                          have hro := hb.1.2
                          subst hro
                          exact Abs.lput hg hl rfl
                        · cases h
                      · cases h
                  · split at h
                    · exact aGrow_abs h
                    · cases h
              · cases h
            · cases h
          · cases h
        · cases h
    · cases h
  · cases h
theorem aCopy_abs {args : Array TypeId} {x y : Value} {r : R} (h : aCopy T σ args x y = some r) : Abs σ r := by
  unfold aCopy at h
  simp only [Bool.cond_eq_ite] at h
  split at h
  · split at h
    · split at h
      · split at h
        · cases h; exact Abs.same _ _
        · split at h
          · split at h
            · cases h; exact Abs.same _ _
            · split at h
              · rename_i hg
                split at h
                · split at h
                  · rename_i hl
                    cases h; exact Abs.lput hg hl rfl
                  · cases h
                · cases h
              · cases h
          · cases h
        · cases h
      · cases h
    · cases h
  · cases h
theorem aBytesToString_abs {x : Value} {r : R} (h : aBytesToString σ x = some r) : Abs σ r := by
  unfold aBytesToString at h
  repeat' split at h
  all_goals first | (cases h; exact Abs.same _ _) | cases h
theorem aStringToBytes_abs {e : TypeId} {x : ByteArray} {r : R} (h : aStringToBytes T σ e x = some r) : Abs σ r := by
  unfold aStringToBytes at h
  simp only [Bool.cond_eq_ite] at h
  repeat' split at h
  all_goals first | (cases h; exact Abs.new _ _ _) | cases h
theorem aMakeSlice_abs {t : TypeId} {l c : Value} {r : R} (h : aMakeSlice T σ t l c = some r) : Abs σ r := by
  unfold aMakeSlice at h
  simp only [Bool.cond_eq_ite] at h
  repeat' split at h
  all_goals first | (cases h; exact Abs.new _ _ _) | cases h
theorem aBuildSlice_abs {t : TypeId} {n : Nat} {ps : List (Nat × Value)} {r : R} (h : aBuildSlice T σ t n ps = some r) : Abs σ r := by
  unfold aBuildSlice at h
  simp only [Bool.cond_eq_ite] at h
  repeat' split at h
  all_goals first | (cases h; exact Abs.new _ _ _) | cases h
theorem aRange_abs {t : TypeId} {x : Value} {r : R} (h : aRange T σ t x = some r) : Abs σ r := by
  unfold aRange at h
  repeat' split at h
  all_goals first | (cases h; exact Abs.new _ _ _) | cases h
theorem aNext_abs {x : Value} {b : Bool} {r : R} (h : aNext σ x b = some r) : Abs σ r := by
  unfold aNext at h
  simp only [Bool.cond_eq_ite] at h
  split at h
  · split at h
    · rename_i hg
      split at h
      · cases h; exact Abs.whole hg
      · cases h; exact Abs.same _ _
    · cases h
  · cases h
theorem aToUns_abs {t : TypeId} {x : Value} {r : R} (h : aToUns T σ t x = some r) : Abs σ r := by
  unfold aToUns at h
  simp only [Bool.cond_eq_ite] at h
  repeat' split at h
  all_goals first | (cases h; exact Abs.same _ _) | cases h
theorem aFromUns_abs {t : TypeId} {x : Value} {r : R} (h : aFromUns T σ t x = some r) : Abs σ r := by
  unfold aFromUns at h
  simp only [Bool.cond_eq_ite] at h
  repeat' split at h
  all_goals first | (cases h; exact Abs.same _ _) | cases h
theorem aUString_abs {t : TypeId} {x : Value} {n : Int} {r : R} (h : aUString T σ t x n = some r) : Abs σ r := by
  unfold aUString at h
  simp only [Bool.cond_eq_ite] at h
  split at h
  · split at h
    · cases h; exact Abs.same _ _
    · cases h
  · split at h
    · split at h
      · rename_i hg _
        repeat' split at h
        all_goals first | (cases h; exact Abs.whole hg) | cases h
      · cases h
    · cases h
  · cases h
theorem aConv_abs {a b : TypeId} {x : Value} {r : R} (h : aConv P T σ a b x = some r) : Abs σ r := by
  unfold aConv at h
  simp only [Bool.cond_eq_ite] at h
  repeat' split at h
  all_goals first | exact aBytesToString_abs h | exact aStringToBytes_abs h | exact aToUns_abs h | exact aFromUns_abs h | (cases h; exact Abs.same _ _) | cases h
theorem aBuiltin_abs {b : Builtin} {argTypes : Array TypeId} {ty : TypeId} {consts : Array Bool} {args : List Value} {r : R} (h : aBuiltin P T σ b argTypes ty consts args = some r) : Abs σ r := by
  unfold aBuiltin at h
  simp only [Bool.cond_eq_ite] at h
  repeat' split at h
  all_goals first | exact aAppend_abs h | exact aCopy_abs h | exact aUString_abs h | (cases h; exact Abs.same _ _) | cases h
theorem pureV_abs {v : Option Value} {r : R} (h : pureV σ v = some (.val r)) : Abs σ r := by
  obtain ⟨u, _, rfl⟩ := pureV_spec h
  exact Abs.same _ _

theorem aOp_abs {o : Oper} {r : R} (h : aOp P E s σ o = some (.val r)) : Abs σ r := by
  unfold aOp at h
  simp only [Bool.cond_eq_ite] at h
  repeat' split at h
  all_goals first
    | exact pureV_abs h
    | exact aAlloc_abs (memV_spec h)
    | exact aNew_abs (memV_spec h)
    | exact aBuildSlice_abs (memV_spec h)
    | exact aLoad_abs (memV_spec h)
    | exact aStore_abs (memV_spec h)
    | exact aConv_abs (memV_spec h)
    | exact aMakeSlice_abs (memV_spec h)
    | exact aSlice_abs (memV_spec h)
    | exact aFieldAddr_abs (memV_spec h)
    | exact aIndexAddr_abs (memV_spec h)
    | exact aRange_abs (memV_spec h)
    | exact aNext_abs (memV_spec h)
    | exact aBuiltin_abs (memV_spec h)
    | cases h
end
end Go.Eng

/-
  Contracts of the functions of asks. No condition.
-/
import Derived.Test.YtpdbgpkedehpgaaGreatDoorLC
import Derived.Test.YtpdbgpkedehpgaaGreatDoorCScan
namespace Go.Proofs.YtpdbgpkedehpgaaGreatDoor
open Go Go.Eng Nice
set_option maxRecDepth 1000000
theorem no_c (f : FuncId) (ts rs : List Ty) : PC f (noS ts rs) := fun fz w args x _ _ _ h => by cases h
theorem keyCh_c : PC 113 keyChS := (pureO (envS_ok (l := []) trivial) gl_ne Tryz.func113 (by kernel_rfl) (by decide)).nice fun ⟨c, ()⟩ _ => keyCh_n c
theorem dKey_c : PC 79 isKeyS := (pureO (envS_ok (l := [(113, keyChS)]) ⟨keyCh_c, trivial⟩) gl_ne Tryz.func79 (by kernel_rfl) (by decide)).nice fun ⟨s, ()⟩ h => dKey_n s h
theorem rKey_c : PC 44 isKeyS := (pureO (envS_ok (l := []) trivial) gl_ne Tryz.func44 (by kernel_rfl) (by decide)).nice fun ⟨s, ()⟩ h => rKey_n s h
theorem anum_c : PC 80 numS := (pureO (envS_ok (l := [(114, idxFS 115), (116, parseS)]) ⟨idxF_c, parse_c, trivial⟩) gl_ne Tryz.func80 (by kernel_rfl) (by decide)).nice fun ⟨s, a, b, c, ()⟩ h => anum_n s a b c h
theorem hp_c : PC 75 hasPreS := (pureO (envS_ok (l := []) trivial) gl_ne Tryz.func75 (by kernel_rfl) (by decide)).nice fun ⟨s, p, ()⟩ _ => hp_n s p
theorem cp_c : PC 119 cutPreS := (pureO (envS_ok (l := [(75, hasPreS)]) ⟨hp_c, trivial⟩) gl_ne Tryz.func119 (by kernel_rfl) (by decide)).nice fun ⟨s, p, ()⟩ _ => cp_n s p
theorem keyed_c : PC 54 keyedS := (pureO (envS_ok (l := [(79, isKeyS), (80, numS), (81, noS [ReqT] [.int .i64, .str, .bool]), (119, cutPreS)]) ⟨dKey_c, anum_c, no_c _ _ _, cp_c, trivial⟩) gl_ne Tryz.func54 (by kernel_rfl) (by decide)).nice fun ⟨a, r, ()⟩ h => keyed_n a r h
theorem digs_c : PC 46 digsS := (pureO (envS_ok (l := []) trivial) gl_ne Tryz.func46 (by kernel_rfl) (by decide)).nice fun ⟨u, ()⟩ h => rdigits_n u h
theorem digits_c : PC 25 digitsS := (pureO (envS_ok (l := [(46, digsS)]) ⟨digs_c, trivial⟩) gl_ne Tryz.func25 (by kernel_rfl) (by decide)).nice fun ⟨n, ()⟩ h => rDigits_n n h
theorem ofV_pre {x : Ty.Den ReqT} (h : ((x.1 == [71, 69, 84] && x.2.1 == [47, 111, 47, 107]) && (x.2.2.2.2.1 == [] && bndS x.2.2.1)) = true) : x = ([71, 69, 84], [47, 111, 47, 107], x.2.2.1, x.2.2.2.1, [], ()) ∧ bndS x.2.2.1 = true := by
  obtain ⟨m, p, q, hs, b, ⟨⟩⟩ := x
  simp only [Bool.and_eq_true, beq_iff_eq] at h
  obtain ⟨⟨rfl, rfl⟩, rfl, h⟩ := h
  exact ⟨rfl, h⟩
theorem aOf_c : PC 37 ofVS := (pureO (envS_ok (l := [(75, hasPreS), (53, noS [AskT, .str] [AskT, .bool]), (54, keyedS)]) ⟨hp_c, no_c _ _ _, keyed_c, trivial⟩) gl_ne Tryz.func37 (by kernel_rfl) (by decide)).nice fun ⟨r, ()⟩ h => by
  obtain ⟨e, hb⟩ := ofV_pre h
  have := aOf_n r.2.2.1 r.2.2.2.1 hb
  rw [← e] at this
  exact this
theorem rOf_c : PC 38 ofVS := (pureO (envS_ok (l := [(44, isKeyS), (49, refNumS), (55, noS [.str, AskT] [AskT, .bool]), (56, noS [ReqT, AskT] [AskT, .int .i64])]) ⟨rKey_c, rnum_c, no_c _ _ _, no_c _ _ _, trivial⟩) gl_ne Tryz.func38 (by kernel_rfl) (by decide)).nice fun ⟨r, ()⟩ h => by
  obtain ⟨e, hb⟩ := ofV_pre h
  have := rOf_n r.2.2.1 r.2.2.2.1 hb
  rw [← e] at this
  exact this
end Go.Proofs.YtpdbgpkedehpgaaGreatDoor

/-
  Contracts of the functions of heads. No condition.
-/
import Derived.Test.YtgchplamcnljaaaGreatDoorLScan
namespace Go.Proofs.YtgchplamcnljaaaGreatDoor
open Go Go.Eng Nice
set_option maxRecDepth 1000000
theorem cap_c : PC 30 capS := (pureO (envS_ok (l := []) trivial) gl_ne Tryz.func30 (by kernel_rfl) (by decide)).nice fun ⟨c, ()⟩ _ => cap_n c
theorem dig_c : PC 31 digS := (pureO (envS_ok (l := []) trivial) gl_ne Tryz.func31 (by kernel_rfl) (by decide)).nice fun ⟨c, ()⟩ _ => dig_n c
theorem slower_c : PC 19 lowerS := (pureO (envS_ok (l := [(30, capS)]) ⟨cap_c, trivial⟩) gl_ne Tryz.func19 (by kernel_rfl) (by decide)).nice fun ⟨s, ()⟩ h => slower_n s h
theorem rlower_c : PC 8 lowerS := (pureO (envS_ok (l := []) trivial) gl_ne Tryz.func8 (by kernel_rfl) (by decide)).nice fun ⟨s, ()⟩ h => rlower_n s h
theorem rnum_c : PC 20 refNumS := (pureO (envS_ok (l := [(31, digS)]) ⟨dig_c, trivial⟩) gl_ne Tryz.func20 (by kernel_rfl) (by decide)).nice fun ⟨s, n, ()⟩ h => rnum_n s n h
theorem sval_c : PC 6 valueS := (pureO (envS_ok (l := [(19, lowerS)]) ⟨slower_c, trivial⟩) gl_ne Tryz.func6 (by kernel_rfl) (by decide)).nice fun ⟨r, s, ()⟩ h => sval_n r s h
theorem rval_c : PC 7 valueS := (pureO (envS_ok (l := [(8, lowerS)]) ⟨rlower_c, trivial⟩) gl_ne Tryz.func7 (by kernel_rfl) (by decide)).nice fun ⟨r, s, ()⟩ h => rval_n r s h
theorem rlen_c : PC 9 refLenS := (pureO (envS_ok (l := [(8, lowerS), (20, refNumS)]) ⟨rlower_c, rnum_c, trivial⟩) gl_ne Tryz.func9 (by kernel_rfl) (by decide)).nice fun ⟨r, ()⟩ h => rlen_n r h
theorem cut_c : PC 5 cutS := (pureO (envS_ok (l := []) trivial) gl_ne Tryz.func5 (by kernel_rfl) (by decide)).nice fun ⟨s, n, ()⟩ h => cut_n s n (of_decide_eq_true h)
theorem snum_of (h : PC 32 atoiS) : PC 21 scanNumS := (pureO (envS_ok (l := [(32, atoiS)]) ⟨h, trivial⟩) gl_ne Tryz.func21 (by kernel_rfl) (by decide)).nice fun ⟨s, ()⟩ h => snum_n s h
theorem slen_of (h : PC 32 atoiS) : PC 10 scanLenS := (pureO (envS_ok (l := [(6, valueS), (21, scanNumS)]) ⟨sval_c, snum_of h, trivial⟩) gl_ne Tryz.func10 (by kernel_rfl) (by decide)).nice fun ⟨r, ()⟩ h => slen_n r h
end Go.Proofs.YtgchplamcnljaaaGreatDoor

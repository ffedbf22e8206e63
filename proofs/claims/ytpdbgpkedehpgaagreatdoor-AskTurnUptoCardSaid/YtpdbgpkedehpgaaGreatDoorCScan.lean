/-
  Contracts of the functions of heads. No condition.
-/
import Derived.Test.YtpdbgpkedehpgaaGreatDoorLScan
import Derived.Test.YtpdbgpkedehpgaaGreatDoorLib15
namespace Go.Proofs.YtpdbgpkedehpgaaGreatDoor
open Go Go.Eng Nice
set_option maxRecDepth 1000000
theorem cap_c : PC 65 capS := (pureO (envS_ok (l := []) trivial) gl_ne Tryz.func65 (by kernel_rfl) (by decide)).nice fun ⟨c, ()⟩ _ => cap_n c
theorem dig_c : PC 66 digS := (pureO (envS_ok (l := []) trivial) gl_ne Tryz.func66 (by kernel_rfl) (by decide)).nice fun ⟨c, ()⟩ _ => dig_n c
theorem slower_c : PC 48 lowerS := (pureO (envS_ok (l := [(65, capS)]) ⟨cap_c, trivial⟩) gl_ne Tryz.func48 (by kernel_rfl) (by decide)).nice fun ⟨s, ()⟩ h => slower_n s h
theorem rlower_c : PC 31 lowerS := (pureO (envS_ok (l := []) trivial) gl_ne Tryz.func31 (by kernel_rfl) (by decide)).nice fun ⟨s, ()⟩ h => rlower_n s h
theorem rnum_c : PC 49 refNumS := (pureO (envS_ok (l := [(66, digS)]) ⟨dig_c, trivial⟩) gl_ne Tryz.func49 (by kernel_rfl) (by decide)).nice fun ⟨s, n, ()⟩ h => rnum_n s n h
theorem sval_c : PC 29 valueS := (pureO (envS_ok (l := [(48, lowerS)]) ⟨slower_c, trivial⟩) gl_ne Tryz.func29 (by kernel_rfl) (by decide)).nice fun ⟨r, s, ()⟩ h => sval_n r s h
theorem rval_c : PC 30 valueS := (pureO (envS_ok (l := [(31, lowerS)]) ⟨rlower_c, trivial⟩) gl_ne Tryz.func30 (by kernel_rfl) (by decide)).nice fun ⟨r, s, ()⟩ h => rval_n r s h
theorem cut_c : PC 24 cutS := (pureO (envS_ok (l := []) trivial) gl_ne Tryz.func24 (by kernel_rfl) (by decide)).nice fun ⟨s, n, ()⟩ h => cut_n s n (of_decide_eq_true h)
end Go.Proofs.YtpdbgpkedehpgaaGreatDoor

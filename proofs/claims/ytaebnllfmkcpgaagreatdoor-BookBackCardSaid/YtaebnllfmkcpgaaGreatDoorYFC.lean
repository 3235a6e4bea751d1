import Derived.Test.YtaebnllfmkcpgaaGreatDoorXW
import Derived.Test.YtaebnllfmkcpgaaGreatDoorXI
set_option linter.unusedSimpArgs false
set_option linter.unusedVariables false
set_option linter.all false
set_option maxRecDepth 100000
set_option maxHeartbeats 1000000
namespace Go.Proofs.YtaebnllfmkcpgaaGreatDoor
open Go.W Go.Bk

theorem readSurf_N (s : Bs) {x : Surf} {c : Int} (h : readSurf s = (x, c)) : SurfN x := by
  by_cases e : c = 0
  · subst e; exact SurfN.of (surfB_iff.1 (readX_of h).1)
  · have h2 := readX_no (s := s) (z := surfZ) (take := surfP) (is := surfB) (put := putSurf) (by rw [show readX surfZ surfP surfB putSurf s = (x, c) from h]; exact e)
    rw [show readX surfZ surfP surfB putSurf s = (x, c) from h] at h2
    cases h2; exact SurfN.zero
theorem readFlag_N (s : Bs) {x : Flag} {c : Int} (h : readFlag s = (x, c)) : FlagN x := by
  by_cases e : c = 0
  · subst e; exact FlagN.of (flagB_iff.1 (readX_of h).1)
  · have h2 := readX_no (s := s) (z := flagZ) (take := flagP) (is := flagB) (put := putFlag) (by rw [show readX flagZ flagP flagB putFlag s = (x, c) from h]; exact e)
    rw [show readX flagZ flagP flagB putFlag s = (x, c) from h] at h2
    cases h2; exact FlagN.zero
theorem readBoats_N (s : Bs) {x : Boats} {c : Int} (h : readBoats s = (x, c)) : BoatsN x := by
  by_cases e : c = 0
  · subst e; exact BoatsN.of (boatsB_iff.1 (readX_of h).1)
  · have h2 := readX_no (s := s) (z := boatsZ) (take := boatsP) (is := boatsB) (put := putBoats) (by rw [show readX boatsZ boatsP boatsB putBoats s = (x, c) from h]; exact e)
    rw [show readX boatsZ boatsP boatsB putBoats s = (x, c) from h] at h2
    cases h2; exact BoatsN.zero
theorem sameSurf_refl (x : Surf) : sameSurf x x = true := by simp [sameSurf]

end Go.Proofs.YtaebnllfmkcpgaaGreatDoor

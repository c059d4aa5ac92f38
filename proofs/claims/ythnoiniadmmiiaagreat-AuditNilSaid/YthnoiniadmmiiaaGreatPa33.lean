/- A device has as many words as it had. -/
import Derived.Test.YthnoiniadmmiiaaGreatPa19
set_option linter.unusedVariables false
set_option linter.unusedSimpArgs false
set_option linter.unusedSectionVars false
namespace Go.Proofs.YthnoiniadmmiiaaGreat
open Go

theorem store_wl (σ : Dv) (x : Int) (bs : List UInt8) : (σ.store x bs).ws.length = σ.ws.length := by
  unfold Dv.store
  split
  · split
    · show (storeW _ _ _).length = _
      rw [storeW_len, act_wl]
    · exact act_wl _ _
  · rfl
theorem flush_wl (σ : Dv) (x n : Int) : (σ.flush x n).ws.length = σ.ws.length := by
  unfold Dv.flush
  split
  · split
    · show (flushW _ _ _).length = _
      unfold flushW
      split
      · exact act_wl _ _
      · rw [mapR_len, act_wl]
    · exact act_wl _ _
  · rfl
theorem fence_wl (σ : Dv) : σ.fence.ws.length = σ.ws.length := by
  unfold Dv.fence
  split
  · split
    · show (List.map _ _).length = _
      rw [List.length_map, act_wl]
    · exact act_wl _ _
  · rfl
theorem doo_wl (σ : Dv) : σ.doo.ws.length = σ.ws.length := by
  unfold Dv.doo
  split
  · rfl
  · exact act_wl _ _
end Go.Proofs.YthnoiniadmmiiaaGreat

/- ShaParts. -/
import Derived.Test.YtgkmhmhbepfiaaaDoorPmHn
set_option linter.all false
set_option maxRecDepth 100000
set_option maxHeartbeats 2000000
namespace Go.Proofs.YtgkmhmhbepfiaaaDoor.Pm
open Go Go.RowKit

theorem HV.put_ok {h : HV} (hk : h.ok = true) {b : List (BitVec 8)} (hb : (b.length : Int) ≤ 1000000 - h.n) : (h.put b).ok = true := by
  obtain ⟨h0, h1, h2⟩ := h.ok_iff.1 hk
  rw [HV.ok_iff]
  simp only [HV.put]
  rw [Int.tmod_eq_emod_of_nonneg h0] at h2
  rw [Int.tmod_eq_emod_of_nonneg (by omega), restV_len, List.length_append]
  omega
theorem HV.write_put {h : HV} (hk : h.ok = true) {b : List (BitVec 8)} (hb : (b.length : Int) ≤ 1000000 - h.n) : h.write b = h.put b ∧ h.writeE b = 0 := by
  unfold HV.write HV.writeE
  rw [if_pos hk, if_pos hb, if_pos hk, if_pos hb]
  exact ⟨rfl, rfl⟩
theorem s_Write' (h : HV) (b : List (BitVec 8)) (hk : h.ok = true) (hb : (b.length : Int) ≤ 1000000 - h.n) : Spec Tryd.prog 23 [.agg h.cells, .sl (bT b)] [] (.tup [.t (.agg (h.put b).cells) true, .t (.i .i64 0) true]) := by
  have := s_sha_Write h b
  obtain ⟨e1, e2⟩ := HV.write_put hk hb
  rw [e1, e2] at this
  exact this
theorem s_Finish' (h : HV) (hk : h.ok = true) : Spec Tryd.prog 24 [.agg h.cells] [] (.tup [.t (.agg (bN h.fin)) true, .t (.i .i64 0) true]) := by
  have := s_sha_Finish h
  rw [show h.finish = h.fin from if_pos hk, show h.finishE = 0 from if_pos hk] at this
  exact this
end Go.Proofs.YtgkmhmhbepfiaaaDoor.Pm

/- The position of a page at a second, by the reference (skyfixref27.At): the same three coordinates as the program's, for a page and a second that are in range. -/
import Derived.Test.YtphdphipnbclcaaDoorAtP
import Derived.Test.YtphdphipnbclcaaDoorRefCheck
import Derived.Deep.RegionWith
namespace Go.Proofs.YtphdphipnbclcaaDoor
open Go.RowKit

set_option maxHeartbeats 8000000 in
theorem atR_any (p : Pg) (t : Int) (w : World) (h : POk p) (ht0 : 0 ≤ t) (ht1 : t ≤ 604799) :
    Calls Tryd.prog 14 #[p.v, .int .i64 t] w fun e w' => e = .returned (.tuple #[arr3 (p.px (wk (t - p.t0))) (p.py (wk (t - p.t0))) (p.pz (wk (t - p.t0))), .int .i64 0]) ∧ Below w.heap.size w w' := by
  have t0 := h.t00
  have t1 := h.t01
  obtain ⟨hd0, hd1⟩ := wk_bd (t - p.t0)
  have H := Lib.hid h
  have D := Lib.hid (show -604800 ≤ wk (t - p.t0) ∧ wk (t - p.t0) ≤ 604800 by omega)
  have dt0 : decide (t < 0) = false := decide_eq_false (by omega)
  have dt1 : decide (604800 ≤ t) = false := decide_eq_false (by omega)
  clear h
  go_enter Tryd.func14, Tryd.ntmps14
  go_wp2_with fail
  refine (checkR_yes p _ H.out).mono ?_
  rintro e w1 ⟨rfl, hb1⟩
  obtain ⟨a1, a2, a3, a4⟩ := (AtSt.start p w hb1).all
  clear hb1
  go_wp2_with (go_at_call 30; refine (aroundR_any _ _ (by omega) (by omega)).mono ?_; rintro e w' ⟨rfl, rfl⟩)
  have b4 := a4.drew
  go_region_with (first
      | (go_at_call_of 31 p.x0; (with_reducible refine (axis_any _ _ _ _ _ H.out.x0 H.out.x1 H.out.x2 D.out).mono ?_); rintro e w2 ⟨rfl, hb2⟩; obtain ⟨a1, a2, a3, a4⟩ := AtSt.step (by assumption) hb2; clear hb2)
      | (go_at_call_of 31 p.y0; (with_reducible refine (axis_any _ _ _ _ _ H.out.y0 H.out.y1 H.out.y2 D.out).mono ?_); rintro e w2 ⟨rfl, hb2⟩; obtain ⟨a1, a2, a3, a4⟩ := AtSt.step (by assumption) hb2; clear hb2)
      | (go_at_call_of 31 p.z0; (with_reducible refine (axis_any _ _ _ _ _ H.out.z0 H.out.z1 H.out.z2 D.out).mono ?_); rintro e w2 ⟨rfl, hb2⟩; obtain ⟨a1, a2, a3, a4⟩ := AtSt.step (by assumption) hb2; clear hb2))
  all_goals
    go_wp2
    refine bodyPost_ret (v := .tuple #[arr3 (p.px (wk (t - p.t0))) (p.py (wk (t - p.t0))) (p.pz (wk (t - p.t0))), .int .i64 0]) (by simp [results, Tryd.results14, go_sem, a2]; exact ⟨rfl, rfl, rfl⟩) rfl ⟨rfl, ?_⟩
    exact (((a4.2.2.setCell (p := ⟨w.heap.size + 1, 0, none⟩) (by simp) _).setCell (p := ⟨w.heap.size + 1, 1, none⟩) (by simp) _).setCell (p := ⟨w.heap.size + 1, 2, none⟩) (by simp) _)
end Go.Proofs.YtphdphipnbclcaaDoor

/- The position of a page at a second, by the program (almanac.At): three coordinates, for a page and a second that are in range. -/
import Derived.Test.YtphdphipnbclcaaDoorCheckP
namespace Go.Proofs.YtphdphipnbclcaaDoor
open Go.RowKit

/-- The coordinates of a page at an age. -/
def Pg.px (p : Pg) (d : Int) : Int := axisI p.x0 p.x1 p.x2 d
def Pg.py (p : Pg) (d : Int) : Int := axisI p.y0 p.y1 p.y2 d
def Pg.pz (p : Pg) (d : Int) : Int := axisI p.z0 p.z1 p.z2 d

abbrev Pg.arr (p : Pg) : Array Value := #[.int .i64 p.prn, .int .i64 p.t0, .int .i64 p.er, .int .i64 p.gr, .int .i64 p.x0, .int .i64 p.x1, .int .i64 p.x2, .int .i64 p.y0, .int .i64 p.y1, .int .i64 p.y2, .int .i64 p.z0, .int .i64 p.z1, .int .i64 p.z2]

theorem wk_bd (d : Int) : -302400 ≤ wk d ∧ wk d ≤ 302399 := by unfold wk; omega

set_option maxHeartbeats 400000 in
theorem checkPT_any (p : Pg) (t : Int) (w : World) (hw : Wid w) (h : POk p) (ht0 : 0 ≤ t) (ht1 : t ≤ 604799) :
    Calls Tryd.prog 35 #[p.v, .int .i64 t] w fun e w' => e = .returned (.int .i64 0) ∧ Below w.heap.size w w' := by
  have H := Lib.hid h
  have HW := Lib.hid (hw.below ((Below.refl _ w).alloc (Nat.le_refl _) (.cells p.arr 24)) hw.pos)
  clear h hw
  go_enter Tryd.func35, Tryd.ntmps35
  go_wp2_with fail
  refine (checkP_yes p _ HW.out H.out).mono ?_
  rintro e w1 ⟨rfl, hb1⟩
  have HB := Lib.hid (((Below.refl _ w).alloc (Nat.le_refl _) (.cells p.arr 24)).trans (hb1.mono (by simp)))
  clear hb1
  go_wp2
  go_ret
  exact ⟨rfl, HB.out⟩

/-- What lies while the program computes a position. -/
def AtSt (p : Pg) (w w' : World) : Prop := Blk w' w.heap.size p.arr 24 ∧ Blk w' (w.heap.size + 1) #[.int .i64 0, .int .i64 0, .int .i64 0] 22 ∧ Below w.heap.size w w'
theorem AtSt.all {p : Pg} {w w' : World} (h : AtSt p w w') :
    (∀ o, w'.cell? ⟨w.heap.size, o, none⟩ = p.arr[o]?) ∧ (∀ o, w'.cell? ⟨w.heap.size + 1, o, none⟩ = (#[.int .i64 0, .int .i64 0, .int .i64 0] : Array Value)[o]?) ∧ (∀ o, w'.frozen? ⟨w.heap.size + 1, o, none⟩ = false) ∧ AtSt p w w' :=
  ⟨h.1.cell, h.2.1.cell, h.2.1.free, h⟩
theorem AtSt.drew {p : Pg} {w w' : World} (h : AtSt p w w') : AtSt p w w'.drew := ⟨h.1.drew, h.2.1.drew, h.2.2.drew⟩
theorem AtSt.step {p : Pg} {w w' w2 : World} (h : AtSt p w w') (hb : Below w'.heap.size w' w2) :
    (∀ o, w2.cell? ⟨w.heap.size, o, none⟩ = p.arr[o]?) ∧ (∀ o, w2.cell? ⟨w.heap.size + 1, o, none⟩ = (#[.int .i64 0, .int .i64 0, .int .i64 0] : Array Value)[o]?) ∧ (∀ o, w2.frozen? ⟨w.heap.size + 1, o, none⟩ = false) ∧ AtSt p w w2 :=
  AtSt.all ⟨h.1.below hb, h.2.1.below hb, h.2.2.trans (hb.mono h.2.2.size)⟩
theorem AtSt.start (p : Pg) (w : World) {w1 : World} (hb : Below ((w.alloc (.cells p.arr 24)).alloc (.cells #[.int .i64 0, .int .i64 0, .int .i64 0] 22)).heap.size ((w.alloc (.cells p.arr 24)).alloc (.cells #[.int .i64 0, .int .i64 0, .int .i64 0] 22)) w1) : AtSt p w w1 := by
  refine ⟨((Blk.new w p.arr 24).alloc _).below hb, ?_, (((Below.refl _ w).alloc (Nat.le_refl _) (.cells p.arr 24)).alloc (by simp) (.cells #[.int .i64 0, .int .i64 0, .int .i64 0] 22)).trans (hb.mono (by simp; omega))⟩
  have := (Blk.new (w.alloc (.cells p.arr 24)) #[.int .i64 0, .int .i64 0, .int .i64 0] 22).below hb
  rwa [World.size_alloc] at this

set_option maxHeartbeats 1000000 in
theorem atP_any (p : Pg) (t : Int) (w : World) (hw : Wid w) (h : POk p) (ht0 : 0 ≤ t) (ht1 : t ≤ 604799) :
    Calls Tryd.prog 24 #[p.v, .int .i64 t] w fun e w' => e = .returned (.tuple #[arr3 (p.px (wk (t - p.t0))) (p.py (wk (t - p.t0))) (p.pz (wk (t - p.t0))), .int .i64 0]) ∧ Below w.heap.size w w' := by
  have t0 := h.t00
  have t1 := h.t01
  obtain ⟨hd0, hd1⟩ := wk_bd (t - p.t0)
  have H := Lib.hid h
  have D := Lib.hid (show -604800 ≤ wk (t - p.t0) ∧ wk (t - p.t0) ≤ 604800 by omega)
  have HW := Lib.hid (hw.below (((Below.refl _ w).alloc (Nat.le_refl _) (.cells p.arr 24)).alloc (by simp) (.cells #[.int .i64 0, .int .i64 0, .int .i64 0] 22)) hw.pos)
  clear h hw
  go_enter Tryd.func24, Tryd.ntmps24
  go_wp2_with fail
  refine (checkPT_any p t _ HW.out H.out ht0 ht1).mono ?_
  rintro e w1 ⟨rfl, hb1⟩
  obtain ⟨a1, a2, a3, a4⟩ := (AtSt.start p w hb1).all
  clear hb1
  go_wp2_with (go_at_call 36; refine (around_any _ _ (by omega) (by omega)).mono ?_; rintro e w' ⟨rfl, rfl⟩)
  refine (at_any p.x0 p.x1 p.x2 _ _ _ _ (by rw [a1]; rfl) (by rw [a1]; rfl) (by rw [a1]; rfl) H.out.x0 H.out.x1 H.out.x2 D.out).mono ?_
  rintro e w2 ⟨rfl, hb2⟩
  obtain ⟨b1, b2, b3, b4⟩ := a4.step hb2
  clear a1 a2 a3 a4 hb2
  go_wp2_with fail
  refine (at_any p.y0 p.y1 p.y2 _ _ _ _ (by rw [b1]; rfl) (by rw [b1]; rfl) (by rw [b1]; rfl) H.out.y0 H.out.y1 H.out.y2 D.out).mono ?_
  rintro e w3 ⟨rfl, hb3⟩
  obtain ⟨a1, a2, a3, a4⟩ := b4.step hb3
  clear b1 b2 b3 b4 hb3
  go_wp2_with fail
  refine (at_any p.z0 p.z1 p.z2 _ _ _ _ (by rw [a1]; rfl) (by rw [a1]; rfl) (by rw [a1]; rfl) H.out.z0 H.out.z1 H.out.z2 D.out).mono ?_
  rintro e w4 ⟨rfl, hb4⟩
  obtain ⟨b1, b2, b3, b4⟩ := a4.step hb4
  clear a1 a2 a3 a4 hb4
  go_wp2
  refine bodyPost_ret (v := .tuple #[arr3 (p.px (wk (t - p.t0))) (p.py (wk (t - p.t0))) (p.pz (wk (t - p.t0))), .int .i64 0]) (by simp [results, Tryd.results24, go_sem, b2]; exact ⟨rfl, rfl, rfl⟩) rfl ⟨rfl, ?_⟩
  exact (((b4.2.2.setCell (p := ⟨w.heap.size + 1, 0, none⟩) (by simp) _).setCell (p := ⟨w.heap.size + 1, 1, none⟩) (by simp) _).setCell (p := ⟨w.heap.size + 1, 2, none⟩) (by simp) _)
end Go.Proofs.YtphdphipnbclcaaDoor

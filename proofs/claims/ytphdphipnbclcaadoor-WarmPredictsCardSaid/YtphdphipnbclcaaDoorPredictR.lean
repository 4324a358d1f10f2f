/- The reference's Predict where there is no hint: a page or a question that is not in range (2, ErrRange), a page that is too old (17, ErrOld). -/
import Derived.Test.YtphdphipnbclcaaDoorPredictP
import Derived.Test.YtphdphipnbclcaaDoorAtR
namespace Go.Proofs.YtphdphipnbclcaaDoor
open Go.RowKit

/-- The world in which the reference has laid its three blocks. -/
abbrev w3 (p : Pg) (q : Qu) (w : World) : World := ((w.alloc (.cells p.arr 24)).alloc (.cells #[.int .i64 q.ux, .int .i64 q.uy, .int .i64 q.uz] 26)).alloc (.cells hz 30)
abbrev uarr (q : Qu) : Array Value := #[.int .i64 q.ux, .int .i64 q.uy, .int .i64 q.uz]

/-- What lies while the reference's Predict runs. -/
def RSt (p : Pg) (q : Qu) (w w' : World) : Prop := Blk w' w.heap.size p.arr 24 ∧ Blk w' (w.heap.size + 1) (uarr q) 26 ∧ Blk w' (w.heap.size + 2) hz 30 ∧ Below w.heap.size w w'
theorem RSt.start (p : Pg) (q : Qu) (w : World) : RSt p q w (w3 p q w) := by
  have a := Blk.new (w.alloc (.cells p.arr 24)) (uarr q) 26
  have b := Blk.new ((w.alloc (.cells p.arr 24)).alloc (.cells (uarr q) 26)) hz 30
  simp only [World.size_alloc] at a b
  exact ⟨((Blk.new w p.arr 24).alloc _).alloc _, a.alloc _, b, ((((Below.refl _ w).alloc (Nat.le_refl _) _).alloc (by simp) _).alloc (by simp; omega) _)⟩
theorem RSt.step {p : Pg} {q : Qu} {w w' w2 : World} (h : RSt p q w w') (hb : Below w'.heap.size w' w2) : RSt p q w w2 :=
  ⟨h.1.below hb, h.2.1.below hb, h.2.2.1.below hb, h.2.2.2.trans (hb.mono h.2.2.2.size)⟩
theorem RSt.drewN {p : Pg} {q : Qu} {w w' : World} (h : RSt p q w w') (n : Nat) : RSt p q w (w'.drewN n) := ⟨h.1.drewN n, h.2.1.drewN n, h.2.2.1.drewN n, below_drewN h.2.2.2 n⟩
theorem RSt.drew {p : Pg} {q : Qu} {w w' : World} (h : RSt p q w w') : RSt p q w w'.drew := ⟨h.1.drew, h.2.1.drew, h.2.2.1.drew, h.2.2.2.drew⟩
theorem RSt.alloc {p : Pg} {q : Qu} {w w' : World} (h : RSt p q w w') (o : Obj) : RSt p q w (w'.alloc o) := h.step ((Below.refl _ w').alloc (Nat.le_refl _) o)
theorem RSt.cells {p : Pg} {q : Qu} {w w' : World} (h : RSt p q w w') :
    (∀ o, w'.cell? ⟨w.heap.size, o, none⟩ = p.arr[o]?) ∧ (∀ o, w'.cell? ⟨w.heap.size + 1, o, none⟩ = (uarr q)[o]?) ∧ (∀ o, w'.cell? ⟨w.heap.size + 1 + 1, o, none⟩ = hz[o]?) ∧ (∀ o, w'.frozen? ⟨w.heap.size + 1 + 1, o, none⟩ = false) :=
  ⟨h.1.cell, h.2.1.cell, h.2.2.1.cell, h.2.2.1.free⟩

set_option maxRecDepth 100000 in
set_option maxHeartbeats 1000000 in
theorem predR_bad1 (p : Pg) (q : Qu) (w : World) (h : ¬ POk p) :
    Calls Tryd.prog 5 #[p.v, arr3 q.ux q.uy q.uz, .int .i64 q.radius, .int .i64 q.t, .int .i64 q.late, .int .i64 q.clock, .int .i64 q.many] w fun e w' => e = .returned (.tuple #[hintV 0 0 0 0 0 0, .int .i64 2]) ∧ Below w.heap.size w w' := by
  have H := Lib.hid h
  clear h
  go_enter Tryd.func5, Tryd.ntmps5
  go_wp2_with fail
  have s0 := RSt.start p q w
  refine (checkR_no p _ H.out).mono ?_
  rintro e w1 ⟨rfl, hb1⟩
  have s1 := s0.step hb1
  clear s0 hb1
  obtain ⟨c1, c2, c3, c4⟩ := s1.cells
  go_wp2
  refine bodyPost_ret (v := .tuple #[hintV 0 0 0 0 0 0, .int .i64 2]) (by simp [results, Tryd.results5, go_sem, c3]) rfl ⟨rfl, ?_⟩
  have hbf : Below w.heap.size w w1 := s1.2.2.2
  clear s1
  repeat (first | (with_reducible refine Below.setCell ?_ (by simp; omega) _) | (with_reducible exact hbf))

set_option maxRecDepth 100000 in
set_option maxHeartbeats 1000000 in
theorem predR_bad2 (p : Pg) (q : Qu) (w : World) (h : POk p) (hk : ¬ q.ok) :
    Calls Tryd.prog 5 #[p.v, arr3 q.ux q.uy q.uz, .int .i64 q.radius, .int .i64 q.t, .int .i64 q.late, .int .i64 q.clock, .int .i64 q.many] w fun e w' => e = .returned (.tuple #[hintV 0 0 0 0 0 0, .int .i64 2]) ∧ Below w.heap.size w w' := by
  have H := Lib.hid h
  have K := Lib.hid hk
  clear h hk
  go_enter Tryd.func5, Tryd.ntmps5
  go_wp2_with fail
  have s0 := RSt.start p q w
  refine (checkR_yes p _ H.out).mono ?_
  rintro e w1 ⟨rfl, hb1⟩
  have s1 := s0.step hb1
  clear s0 hb1
  obtain ⟨c1, c2, c3, c4⟩ := s1.cells
  go_wp2_with fail
  refine (right_no q.ux q.uy q.uz q.radius q.t q.late q.clock q.many _ K.out).mono ?_
  rintro e w2 ⟨rfl, hb2⟩
  have s2 := s1.step hb2
  clear s1 hb2 c1 c2 c3 c4
  obtain ⟨c1, c2, c3, c4⟩ := s2.cells
  go_wp2
  refine bodyPost_ret (v := .tuple #[hintV 0 0 0 0 0 0, .int .i64 2]) (by simp [results, Tryd.results5, go_sem, c3]) rfl ⟨rfl, ?_⟩
  have hbf : Below w.heap.size w w2 := s2.2.2.2
  clear s2
  repeat (first | (with_reducible refine Below.setCell ?_ (by simp; omega) _) | (with_reducible exact hbf))

theorem age_eq (p : Pg) (q : Qu) (h0 : 0 ≤ p.t0) (h1 : p.t0 ≤ 604799) (u0 : 0 ≤ q.t) (u1 : q.t ≤ 604799) : mn (absI (q.t - p.t0)) (604800 - absI (q.t - p.t0)) = absI (dd p q) := by
  unfold mn dd wk absI
  split <;> split <;> split <;> omega

set_option maxRecDepth 100000 in
set_option maxHeartbeats 1000000 in
theorem predR_old (p : Pg) (q : Qu) (w : World) (h : POk p) (hk : q.ok) (ha : 14400 < ageI p q) :
    Calls Tryd.prog 5 #[p.v, arr3 q.ux q.uy q.uz, .int .i64 q.radius, .int .i64 q.t, .int .i64 q.late, .int .i64 q.clock, .int .i64 q.many] w fun e w' => e = .returned (.tuple #[hintV 0 0 0 0 0 0, .int .i64 17]) ∧ Below w.heap.size w w' := by
  have t0 := h.t00
  have t1 := h.t01
  have u0 := hk.t0
  have u1 := hk.t1
  have l0 := hk.l0
  have l1 := hk.l1
  obtain ⟨d0, d1⟩ := absI_bd (q.t - p.t0) 604800 (by omega) (by omega)
  obtain ⟨x0, x1⟩ := absI_bd (dd p q) 302400 (wk_bd (q.t - p.t0)).1 (Int.le_trans (wk_bd (q.t - p.t0)).2 (by omega))
  have e1 : (if 604800 - absI (q.t - p.t0) < absI (q.t - p.t0) then 604800 - absI (q.t - p.t0) else absI (q.t - p.t0)) = absI (dd p q) := age_eq p q t0 t1 u0 u1
  have e2 : absI (dd p q) + q.late = ageI p q := rfl
  have H := Lib.hid h
  have K := Lib.hid hk
  clear h hk
  go_enter Tryd.func5, Tryd.ntmps5
  go_wp2_with fail
  have s0 := RSt.start p q w
  refine (checkR_yes p _ H.out).mono ?_
  rintro e w1 ⟨rfl, hb1⟩
  have s1 := s0.step hb1
  clear s0 hb1
  obtain ⟨c1, c2, c3, c4⟩ := s1.cells
  go_wp2_with fail
  refine (right_yes q.ux q.uy q.uz q.radius q.t q.late q.clock q.many _ K.out).mono ?_
  rintro e w2 ⟨rfl, hb2⟩
  have s2 := s1.step hb2
  clear s1 hb2 c1 c2 c3 c4
  obtain ⟨c1, c2, c3, c4⟩ := s2.cells
  go_wp2_with (go_at_call 13; refine (abs_any _ _ (by omega) (by omega)).mono ?_; rintro e w' ⟨rfl, rfl⟩)
  refine bodyPost_ret (v := .tuple #[hintV 0 0 0 0 0 0, .int .i64 17]) (by simp [results, Tryd.results5, go_sem, c3]) rfl ⟨rfl, ?_⟩
  have hbf : Below w.heap.size w w2 := s2.2.2.2
  clear s2
  repeat (first | (with_reducible refine Below.setCell ?_ (by simp; omega) _) | (with_reducible exact hbf))
end Go.Proofs.YtphdphipnbclcaaDoor

/- The program's Predict: the hint of a page that is in range and not too old, for a question that is right; otherwise no hint and the error that the document names. -/
import Derived.Test.YtphdphipnbclcaaDoorDistance
namespace Go.Proofs.YtphdphipnbclcaaDoor
open Go.RowKit

abbrev hintV (a b c d e f : Int) : Value := .agg #[.int .i64 a, .int .i64 b, .int .i64 c, .int .i64 d, .int .i64 e, .int .i64 f]
abbrev hz : Array Value := #[.int .i64 0, .int .i64 0, .int .i64 0, .int .i64 0, .int .i64 0, .int .i64 0]

/-- The world in which the program has laid its four blocks. -/
abbrev w4 (p : Pg) (q : Qu) (w : World) : World := (((w.alloc (.cells p.arr 24)).alloc (.cells #[.int .i64 q.ux, .int .i64 q.uy, .int .i64 q.uz] 26)).alloc (.cells hz 30)).alloc (.cells (q0 p q 0) 38)

/-- What lies while Predict runs: the question's block, the result's block, nothing that was there has turned. -/
def PSt (cs : Array Value) (w w' : World) : Prop := Blk w' (w.heap.size + 3) cs 38 ∧ Blk w' (w.heap.size + 2) hz 30 ∧ Below w.heap.size w w'
theorem PSt.start (p : Pg) (q : Qu) (w : World) : PSt (q0 p q 0) w (w4 p q w) := by
  have a := Blk.new ((w.alloc (.cells p.arr 24)).alloc (.cells #[.int .i64 q.ux, .int .i64 q.uy, .int .i64 q.uz] 26)) hz 30
  have b := Blk.new (((w.alloc (.cells p.arr 24)).alloc (.cells #[.int .i64 q.ux, .int .i64 q.uy, .int .i64 q.uz] 26)).alloc (.cells hz 30)) (q0 p q 0) 38
  simp only [World.size_alloc] at a b
  exact ⟨b, a.alloc _, (((((Below.refl _ w).alloc (Nat.le_refl _) _).alloc (by simp) _).alloc (by simp; omega) _).alloc (by simp; omega) _)⟩
theorem PSt.step {cs cs' : Array Value} {w w' w2 : World} {e : Ending} (h : PSt cs w w') (hs : StepR (w.heap.size + 3) w' cs' e w2) : PSt cs' w w2 :=
  ⟨hs.2.1, (hs.2.2.block (w.heap.size + 2) (by omega)).trans h.2.1, h.2.2.trans (hs.2.2.mono (by omega))⟩
theorem PSt.wid {cs : Array Value} {w w' : World} (h : PSt cs w w') (hw : Wid w) : Wid w' := hw.below h.2.2 hw.pos
theorem PSt.drew {cs : Array Value} {w w' : World} (h : PSt cs w w') : PSt cs w w'.drew := ⟨h.1.drew, h.2.1.drew, h.2.2.drew⟩

set_option maxRecDepth 100000 in
set_option maxHeartbeats 1000000 in
theorem predP_err (p : Pg) (q : Qu) (w : World) (hw : Wid w) (E7 age E : Int) (hE : (E != 0) = true)
    (c7 : ∀ W, Wid W → Blk W (w.heap.size + 3) (q0 p q 0) 38 → Calls Tryd.prog 7 #[.pointer (some ⟨w.heap.size + 3, 0, none⟩)] W (StepR (w.heap.size + 3) W (q0 p q E7)))
    (c8 : ∀ W, Wid W → Blk W (w.heap.size + 3) (q0 p q E7) 38 → Calls Tryd.prog 8 #[.pointer (some ⟨w.heap.size + 3, 0, none⟩)] W (StepR (w.heap.size + 3) W (qarr p q age 0 0 0 0 0 0 0 0 0 0 E))) :
    Calls Tryd.prog 4 #[p.v, arr3 q.ux q.uy q.uz, .int .i64 q.radius, .int .i64 q.t, .int .i64 q.late, .int .i64 q.clock, .int .i64 q.many] w fun e w' => e = .returned (.tuple #[hintV 0 0 0 0 0 0, .int .i64 E]) ∧ Below w.heap.size w w' := by
  have C7 := Lib.hid c7
  have C8 := Lib.hid c8
  have HW := Lib.hid hw
  clear c7 c8 hw
  go_enter Tryd.func4, Tryd.ntmps4
  go_wp2_with fail
  have s0 := PSt.start p q w
  refine (C7.out _ (s0.wid HW.out) s0.1).mono ?_
  intro e w1 h1
  have s1 := s0.step h1
  obtain ⟨rfl, _, _⟩ := h1
  go_wp2_with fail
  refine (C8.out _ (s1.wid HW.out) s1.1).mono ?_
  intro e w2 h2
  have s2 := s1.step h2
  obtain ⟨rfl, _, _⟩ := h2
  clear s0 s1
  go_wp2_with fail
  refine (step_err9 p q age 0 0 0 0 0 0 0 0 0 0 E _ _ s2.1 hE).mono ?_
  intro e w3 h3
  have s3 := s2.step h3
  obtain ⟨rfl, _, _⟩ := h3
  clear s2
  go_wp2_with fail
  refine (step_err10 p q age 0 0 0 0 0 0 0 0 0 0 E _ _ s3.1 hE).mono ?_
  intro e w5 h5
  have s5 := s3.step h5
  obtain ⟨rfl, _, _⟩ := h5
  clear s3
  obtain ⟨hc, hf⟩ := row_cells s5.1
  obtain ⟨hc2, hf2⟩ := row_cells s5.2.1
  go_wp2
  go_region
  go_wp2
  refine bodyPost_ret (v := .tuple #[hintV 0 0 0 0 0 0, .int .i64 E]) (by simp [results, Tryd.results4, go_sem, hc2]) rfl ⟨rfl, ?_⟩
  have hbf : Below w.heap.size w w5 := s5.2.2
  clear s5
  repeat (first | (with_reducible refine Below.drew ?_) | (with_reducible refine Below.setCell ?_ (by simp; omega) _) | (with_reducible exact hbf))

set_option maxRecDepth 100000 in
set_option maxHeartbeats 1000000 in
theorem predP_good (p : Pg) (q : Qu) (r : Int) (w : World) (hw : Wid w) (h : Good p q) (hr : IsRoot (sumI p q) r) :
    Calls Tryd.prog 4 #[p.v, arr3 q.ux q.uy q.uz, .int .i64 q.radius, .int .i64 q.t, .int .i64 q.late, .int .i64 q.clock, .int .i64 q.many] w fun e w' =>
      e = .returned (.tuple #[hintV p.prn (upI p q) (nearI p q r) (farI p q r) (lagI p q r) (manyI p q r), .int .i64 0]) ∧ Below w.heap.size w w' := by
  have HG := Lib.hid h
  have HR := Lib.hid hr
  have HW := Lib.hid hw
  clear h hr hw
  go_enter Tryd.func4, Tryd.ntmps4
  go_wp2_with fail
  have s0 := PSt.start p q w
  refine (qcheck_yes p q _ _ (s0.wid HW.out) s0.1 HG.out.pg HG.out.qu).mono ?_
  intro e w1 h1
  have s1 := s0.step h1
  obtain ⟨rfl, _, _⟩ := h1
  go_wp2_with fail
  refine (place_good p q _ _ (s1.wid HW.out) (by omega) s1.1 HG.out).mono ?_
  intro e w2 h2
  have s2 := s1.step h2
  obtain ⟨rfl, _, _⟩ := h2
  clear s0 s1
  go_wp2_with fail
  refine (height_good p q _ _ s2.1 HG.out).mono ?_
  intro e w3 h3
  have s3 := s2.step h3
  obtain ⟨rfl, _, _⟩ := h3
  clear s2
  go_wp2_with fail
  refine (distance_good p q r _ _ s3.1 HG.out HR.out).mono ?_
  intro e w5 h5
  have s5 := s3.step h5
  obtain ⟨rfl, _, _⟩ := h5
  clear s3
  obtain ⟨hc, hf⟩ := row_cells s5.1
  obtain ⟨hc2, hf2⟩ := row_cells s5.2.1
  go_wp2
  refine bodyPost_ret (v := .tuple #[hintV p.prn (upI p q) (nearI p q r) (farI p q r) (lagI p q r) (manyI p q r), .int .i64 0]) (by simp [results, Tryd.results4, go_sem, hc2]) rfl ⟨rfl, ?_⟩
  have hbf : Below w.heap.size w w5 := s5.2.2
  clear s5
  repeat (first | (with_reducible refine Below.drew ?_) | (with_reducible refine Below.setCell ?_ (by simp; omega) _) | (with_reducible exact hbf))

theorem predP_bad (p : Pg) (q : Qu) (w : World) (hw : Wid w) (h : ¬ (POk p ∧ q.ok)) :
    Calls Tryd.prog 4 #[p.v, arr3 q.ux q.uy q.uz, .int .i64 q.radius, .int .i64 q.t, .int .i64 q.late, .int .i64 q.clock, .int .i64 q.many] w fun e w' => e = .returned (.tuple #[hintV 0 0 0 0 0 0, .int .i64 2]) ∧ Below w.heap.size w w' := by
  refine predP_err p q w hw 2 0 2 rfl ?_ (fun W _ hq => step_err8 p q 2 _ W hq rfl)
  intro W hw' hq
  by_cases hp : POk p
  · exact qcheck_no p q _ W hw' hq hp (fun hk => h ⟨hp, hk⟩)
  · exact qcheck_bad p q _ W hw' hq hp

theorem predP_old (p : Pg) (q : Qu) (w : World) (hw : Wid w) (hp : POk p) (hk : q.ok) (ha : 14400 < ageI p q) :
    Calls Tryd.prog 4 #[p.v, arr3 q.ux q.uy q.uz, .int .i64 q.radius, .int .i64 q.t, .int .i64 q.late, .int .i64 q.clock, .int .i64 q.many] w fun e w' => e = .returned (.tuple #[hintV 0 0 0 0 0 0, .int .i64 17]) ∧ Below w.heap.size w w' :=
  predP_err p q w hw 0 (ageI p q) 17 rfl (fun W hw' hq => qcheck_yes p q _ W hw' hq hp hk) (fun W _ hq => place_old p q _ W hq hp hk ha)
end Go.Proofs.YtphdphipnbclcaaDoor

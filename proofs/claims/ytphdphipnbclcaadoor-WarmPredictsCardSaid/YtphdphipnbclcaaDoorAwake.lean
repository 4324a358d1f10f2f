/- The chapter's examples hold (skyfixlaw40.awake returns true), wherever the table of widths reads as the program lays it. -/
import Derived.Test.YtphdphipnbclcaaDoorPredictP
namespace Go.Proofs.YtphdphipnbclcaaDoor
open Go.RowKit

def pl : Pg := { prn := 3, t0 := 1000, er := 0, gr := 0, x0 := 400000, x1 := 0, x2 := 0, y0 := 0, y1 := 0, y2 := 0, z0 := 0, z1 := 0, z2 := 0 }
def qa (x : Int) : Qu := { ux := x, uy := 0, uz := 0, radius := 0, t := 1000, late := 0, clock := 0, many := 1000 }

theorem pl_ok : POk pl := by constructor <;> decide
theorem qa_ok (x : Int) (h0 : -100000000 ≤ x) (h1 : x ≤ 100000000) : (qa x).ok := by
  show QOk x 0 0 0 1000 0 0 1000
  constructor <;> omega
theorem good1 : Good pl (qa 6400000) := ⟨pl_ok, qa_ok _ (by omega) (by omega), by decide⟩
theorem good2 : Good pl (qa (-6400000)) := ⟨pl_ok, qa_ok _ (by omega) (by omega), by decide⟩
theorem root1 : IsRoot (sumI pl (qa 6400000)) 19200000 := ⟨by omega, by decide, by decide⟩
theorem root2 : IsRoot (sumI pl (qa (-6400000))) 32000000 := ⟨by omega, by decide, by decide⟩
theorem hint1 : hintV pl.prn (upI pl (qa 6400000)) (nearI pl (qa 6400000) 19200000) (farI pl (qa 6400000) 19200000) (lagI pl (qa 6400000) 19200000) (manyI pl (qa 6400000) 19200000) = hintV 3 1 19199998 19200003 44 1 := by
  have a : upI pl (qa 6400000) = 1 := by decide
  have b : nearI pl (qa 6400000) 19200000 = 19199998 := by decide
  have c : farI pl (qa 6400000) 19200000 = 19200003 := by decide
  have d : lagI pl (qa 6400000) 19200000 = 44 := by decide
  have e : manyI pl (qa 6400000) 19200000 = 1 := by decide
  rw [a, b, c, d, e]
  rfl
theorem up2 : upI pl (qa (-6400000)) = -1 := by decide

theorem plain_any (w : World) : Calls Tryd.prog 18 #[] w fun e w' => e = .returned pl.v ∧ Below w.heap.size w w' := by
  go_enter Tryd.func18, Tryd.ntmps18
  go_wp2
  exact bodyPost_ret (v := pl.v) (by simp [results, Tryd.results18, go_sem, Pg.v, pl]) rfl ⟨rfl, (Below.refl _ _).alloc (Nat.le_refl _) _⟩

theorem point_any (x : Int) (w : World) : Calls Tryd.prog 19 #[.int .i64 x] w fun e w' => e = .returned (arr3 x 0 0) ∧ Below w.heap.size w w' := by
  go_enter Tryd.func19, Tryd.ntmps19
  go_wp2
  exact bodyPost_ret (v := arr3 x 0 0) (by simp [results, Tryd.results19, go_sem, arr3]) rfl ⟨rfl, (Below.refl _ _).alloc (Nat.le_refl _) _⟩

theorem fits_one (w : World) : Calls Tryd.prog 20 #[hintV 0 0 0 0 998 3, .int .i64 0, .int .i64 1000] w fun e w' => e = .returned (.tuple #[.bool true, .int .i64 0]) ∧ Below w.heap.size w w' := by
  go_enter Tryd.func20, Tryd.ntmps20
  go_wp2
  go_region
  go_wp2
  exact bodyPost_ret (v := .tuple #[.bool true, .int .i64 0]) (by simp [results, Tryd.results20, go_sem]) rfl ⟨rfl, ((Below.refl _ _).alloc (Nat.le_refl _) _).drew⟩

theorem warm_first (w : World) (hw : Wid w) : Calls Tryd.prog 4 #[pl.v, arr3 6400000 0 0, .int .i64 0, .int .i64 1000, .int .i64 0, .int .i64 0, .int .i64 1000] w fun e w' => e = .returned (.tuple #[hintV 3 1 19199998 19200003 44 1, .int .i64 0]) ∧ Below w.heap.size w w' := by
  have h := predP_good pl (qa 6400000) 19200000 w hw good1 root1
  rw [hint1] at h
  exact h
theorem warm_second (w : World) (hw : Wid w) : ∃ a b c d m, Calls Tryd.prog 4 #[pl.v, arr3 (-6400000) 0 0, .int .i64 0, .int .i64 1000, .int .i64 0, .int .i64 0, .int .i64 1000] w fun e w' => e = .returned (.tuple #[hintV a (-1) b c d m, .int .i64 0]) ∧ Below w.heap.size w w' := by
  have h := predP_good pl (qa (-6400000)) 32000000 w hw good2 root2
  rw [up2] at h
  exact ⟨_, _, _, _, _, h⟩

theorem hintEq (a b c d e f : Int) : ∀ w, (binOp .eql 30 (hintV a b c d e f) (hintV a b c d e f)).run Tryd.prog w = .ok (.bool true) w := by
  intro w
  simp [hintV, go_sem]

set_option maxHeartbeats 800000 in
theorem awake_any (w : World) (hw : Wid w) : Calls Tryd.prog 6 #[] w fun e w' => e = .returned (.bool true) ∧ Below w.heap.size w w' := by
  have HW := Lib.hid hw
  have hp := hw.pos
  clear hw
  go_enter Tryd.func6, Tryd.ntmps6
  go_wp2_with fail
  refine (plain_any _).mono ?_
  rintro e w1 ⟨rfl, h1⟩
  go_wp2_with fail
  refine (point_any _ _).mono ?_
  rintro e w2 ⟨rfl, h2⟩
  have b2 : Below w.heap.size w w2 := h1.trans (h2.mono h1.size)
  clear h1 h2
  go_wp2_with fail
  refine (warm_first _ (HW.out.below b2 hp)).mono ?_
  rintro e w3 ⟨rfl, h3⟩
  have b3 : Below w.heap.size w w3 := b2.trans (h3.mono b2.size)
  clear b2 h3
  go_wp2_with fail
  have k4 : Blk (w3.alloc (.cells #[.int .i64 3, .int .i64 1, .int .i64 19199998, .int .i64 19200003, .int .i64 44, .int .i64 1] 30)) w3.heap.size #[.int .i64 3, .int .i64 1, .int .i64 19199998, .int .i64 19200003, .int .i64 44, .int .i64 1] 30 := Blk.new _ _ _
  have b4 : Below w.heap.size w (w3.alloc (.cells #[.int .i64 3, .int .i64 1, .int .i64 19199998, .int .i64 19200003, .int .i64 44, .int .i64 1] 30)) := b3.alloc b3.size _
  generalize w3.alloc (.cells #[.int .i64 3, .int .i64 1, .int .i64 19199998, .int .i64 19200003, .int .i64 44, .int .i64 1] 30) = w4 at k4 b4 ⊢
  have b3s := b3.size
  clear b3
  generalize w3.heap.size = g at k4 b3s ⊢
  refine (plain_any _).mono ?_
  rintro e w5 ⟨rfl, h5⟩
  have b5 : Below w.heap.size w w5 := b4.trans (h5.mono b4.size)
  have k5 := k4.below h5
  clear b4 k4 h5
  go_wp2_with fail
  refine (point_any _ _).mono ?_
  rintro e w6 ⟨rfl, h6⟩
  have b6 : Below w.heap.size w w6 := b5.trans (h6.mono b5.size)
  have k6 := k5.below h6
  clear b5 k5 h6
  go_wp2_with fail
  obtain ⟨a, b, c, d, m, hS⟩ := warm_second w6 (HW.out.below b6 hp)
  refine hS.mono ?_
  rintro e w7 ⟨rfl, h7⟩
  have b7 : Below w.heap.size w w7 := b6.trans (h7.mono b6.size)
  have k7 := k6.below h7
  clear b6 k6 h7 hS
  go_wp2_with fail
  have k8 : Blk (w7.alloc (.cells #[.int .i64 a, .int .i64 (-1), .int .i64 b, .int .i64 c, .int .i64 d, .int .i64 m] 30)) w7.heap.size #[.int .i64 a, .int .i64 (-1), .int .i64 b, .int .i64 c, .int .i64 d, .int .i64 m] 30 := Blk.new _ _ _
  have b8 : Below w.heap.size w (w7.alloc (.cells #[.int .i64 a, .int .i64 (-1), .int .i64 b, .int .i64 c, .int .i64 d, .int .i64 m] 30)) := b7.alloc b7.size _
  have j8 := k7.alloc (.cells #[.int .i64 a, .int .i64 (-1), .int .i64 b, .int .i64 c, .int .i64 d, .int .i64 m] 30)
  generalize w7.alloc (.cells #[.int .i64 a, .int .i64 (-1), .int .i64 b, .int .i64 c, .int .i64 d, .int .i64 m] 30) = w8 at k8 j8 b8 ⊢
  clear b7 k7
  generalize w7.heap.size = g2 at k8 ⊢
  refine (fits_one _).mono ?_
  rintro e w9 ⟨rfl, h9⟩
  have b9 : Below w.heap.size w w9 := b8.trans (h9.mono b8.size)
  have k9 := k8.below h9
  have j9 := j8.below h9
  clear b8 k8 j8 h9
  obtain ⟨hc, hf⟩ := row_cells k9
  obtain ⟨hc2, hf2⟩ := row_cells j9
  have he := hintEq 3 1 19199998 19200003 44 1
  go_wp2
  exact bodyPost_ret (v := .bool true) (by simp [results, Tryd.results6, go_sem]) rfl ⟨rfl, b9⟩
end Go.Proofs.YtphdphipnbclcaaDoor

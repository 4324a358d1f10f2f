/- almanac.fields lays the thirteen fields of a page in a new slice: field k begins at bit atk k, has wd k bits, and is signed from the fifth on. -/
import Derived.Test.YtphdphipnbclcaaDoorLimits
namespace Go.Proofs.YtphdphipnbclcaaDoor
open Go.RowKit

/-- The table of widths, as the program lays it: block 0 holds the thirteen numbers. -/
def Wid (w : World) : Prop := ∀ k, k < 13 → w.cell? ⟨0, k, none⟩ = some (.int .i64 (wd k))
theorem Wid.pos {w : World} (h : Wid w) : 0 < w.heap.size := block_lt_of_cell (a := ⟨0, 0, none⟩) (h 0 (by omega))
theorem Wid.below {B : Nat} {w w' : World} (h : Wid w) (hb : Below B w w') (hB : 0 < B) : Wid w' := fun k hk => (hb.cell (p := ⟨0, k, none⟩) hB).trans (h k hk)

/-- The cells of field k. -/
def fcell (k : Nat) : List Value := [.int .i64 (atk k), .int .i64 (wd k), .bool (sgK k), .int .i64 1, .int .i64 0]
def fcells : Nat → List Value
  | 0 => []
  | k + 1 => fcells k ++ fcell k

theorem new_cells (w : World) (l : List Value) (t : TypeId) : ∀ j u, l[j]? = some u → (w.alloc (.cells l.toArray t)).cell? ((⟨w.heap.size, 0, none⟩ : Addr).add j) = some u := fun j u h => by
  rw [Addr.add_lit, (Blk.new w l.toArray t).cell]
  simpa using h

theorem Tryd.info65 : (Tryd.prog.info? 65).map (fun i => (i.zero, i.size, i.bytes)) = some (some (.agg #[.int .i64 0, .int .i64 0, .bool false, .int .i64 0, .int .i64 0]), 5, 40) := by kernel_rfl

theorem widx (k : Nat) (hk : k < 13) : ∀ w, (Instr.index 70 (.agg #[.int .i64 (wd 0), .int .i64 (wd 1), .int .i64 (wd 2), .int .i64 (wd 3), .int .i64 (wd 4), .int .i64 (wd 5), .int .i64 (wd 6), .int .i64 (wd 7), .int .i64 (wd 8), .int .i64 (wd 9), .int .i64 (wd 10), .int .i64 (wd 11), .int .i64 (wd 12)]) (.int .i64 (k : Int))).run Tryd.prog w = .ok (.int .i64 (wd k)) w := by
  intro w
  rcases (show k = 0 ∨ k = 1 ∨ k = 2 ∨ k = 3 ∨ k = 4 ∨ k = 5 ∨ k = 6 ∨ k = 7 ∨ k = 8 ∨ k = 9 ∨ k = 10 ∨ k = 11 ∨ k = 12 by omega) with rfl | rfl | rfl | rfl | rfl | rfl | rfl | rfl | rfl | rfl | rfl | rfl | rfl <;> kernel_rfl

theorem atk_bd (k : Nat) (hk : k < 13) : 0 ≤ atk k ∧ atk k ≤ 200 ∧ 0 ≤ wd k ∧ wd k ≤ 20 ∧ atk k + wd k = atk (k + 1) := by
  rcases (show k = 0 ∨ k = 1 ∨ k = 2 ∨ k = 3 ∨ k = 4 ∨ k = 5 ∨ k = 6 ∨ k = 7 ∨ k = 8 ∨ k = 9 ∨ k = 10 ∨ k = 11 ∨ k = 12 by omega) with rfl | rfl | rfl | rfl | rfl | rfl | rfl | rfl | rfl | rfl | rfl | rfl | rfl <;> decide

set_option maxHeartbeats 1000000 in
theorem fields_any (w : World) (hw : Wid w) :
    Calls Tryd.prog 32 #[] w fun e w' => ∃ v, e = .returned v ∧ w'.ownsRow w.heap.size 65 5 v 13 (fcells 13) ∧ Below w.heap.size w w' := by
  have g0 := hw 0 (by omega)
  have g1 := hw 1 (by omega)
  have g2 := hw 2 (by omega)
  have g3 := hw 3 (by omega)
  have g4 := hw 4 (by omega)
  have g5 := hw 5 (by omega)
  have g6 := hw 6 (by omega)
  have g7 := hw 7 (by omega)
  have g8 := hw 8 (by omega)
  have g9 := hw 9 (by omega)
  have g10 := hw 10 (by omega)
  have g11 := hw 11 (by omega)
  have g12 := hw 12 (by omega)
  have hW := Lib.hid hw
  clear hw
  obtain ⟨i0, hi, hz0, hz1, hz2⟩ := info_parts Tryd.info65
  go_enter Tryd.func32, Tryd.ntmps32
  go_wp2
  clear g0 g1 g2 g3 g4 g5 g6 g7 g8 g9 g10 g11 g12
  go_loopw [1, 2, 6] (fun v a i wr => ∃ k : Nat, k ≤ 13 ∧ i = .int .i64 k ∧ a = .int .i64 (atk k) ∧ wr.ownsRow w.heap.size 65 5 v k (fcells k) ∧ Below w.heap.size w wr) (fun _ _ i _ => 13 - (intOf i).toNat)
  case atStart => exact ⟨0, by omega, rfl, rfl, World.ownsRow_nil _ _ _ _, Below.refl _ _⟩
  case round =>
    obtain ⟨k, hk, rfl, rfl, hown, hbl⟩ := hrel
    by_cases hlt : k < 13
    · have hidx := widx k hlt
      obtain ⟨a0, a1, w0, w1, hat⟩ := atk_bd k hlt
      have HAT := Lib.hid hat
      clear hat
      have hsz := hbl.size
      have HB := Lib.hid hbl
      clear hbl
      have s1 : decide ((3 : Int) < (k : Int)) = sgK k := by unfold sgK; exact decide_eq_decide.2 (by omega)
      have s2 : decide (3 < k) = sgK k := rfl
      go_wp2_with (at_builtin; refine wpList_append_own _ rfl _ _ 55 rfl w.heap.size 65 i0 _ 5 40 Tryd.underlying55 hi hz0 hz1 hz2 rfl (by decide) _ k _ rfl (hown.alloc _) ⟨wr.heap.size, 0, none⟩ 1 1 [.int .i64 (atk k), .int .i64 (wd k), .bool (sgK k), .int .i64 1, .int .i64 0] rfl rfl (new_cells _ _ _) (by simp [Value.oneCell']) (by unfold maxLen; omega) (by omega) (by simp; omega) ?_; intro v' w2 hown2 hgrow _; have HB2 := Lib.hid (((HB.out.alloc hsz _).grown hgrow (by simp; omega) (fun j e => (hown.lt j e).1))); clear hown hgrow)
      go_roundw
      case rel => exact ⟨k + 1, by omega, by go_num, by rw [HAT.out], hown2, HB2.out⟩
      case measure => simp [intOf]; omega
    · obtain rfl : k = 13 := by omega
      go_wp2
      go_ret
      exact ⟨_, rfl, hown, hbl⟩
end Go.Proofs.YtphdphipnbclcaaDoor

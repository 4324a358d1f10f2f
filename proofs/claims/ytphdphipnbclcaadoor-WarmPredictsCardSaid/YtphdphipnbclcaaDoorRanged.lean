/- The program's check of a question's numbers (question.ranged): true where all are in range, false otherwise; the question itself is not changed. -/
import Derived.Test.YtphdphipnbclcaaDoorAtP
import Derived.Test.YtphdphipnbclcaaDoorLeafC
import Derived.Deep.RegionHeld3
namespace Go.Proofs.YtphdphipnbclcaaDoor
open Go.RowKit

/-- What is asked: the receiver, the radius, the second, the bounds, the samples. -/
structure Qu where
  ux : Int
  uy : Int
  uz : Int
  radius : Int
  t : Int
  late : Int
  clock : Int
  many : Int

abbrev Qu.ok (q : Qu) : Prop := QOk q.ux q.uy q.uz q.radius q.t q.late q.clock q.many

/-- The question's block: the page, what is asked, and what has been computed. -/
abbrev qarr (p : Pg) (q : Qu) (age spread s0 s1 s2 h0 h1 h2 h3 h4 h5 err : Int) : Array Value :=
  #[.int .i64 p.prn, .int .i64 p.t0, .int .i64 p.er, .int .i64 p.gr, .int .i64 p.x0, .int .i64 p.x1, .int .i64 p.x2, .int .i64 p.y0, .int .i64 p.y1, .int .i64 p.y2, .int .i64 p.z0, .int .i64 p.z1, .int .i64 p.z2,
    .int .i64 q.ux, .int .i64 q.uy, .int .i64 q.uz, .int .i64 q.radius, .int .i64 q.t, .int .i64 q.late, .int .i64 q.clock, .int .i64 q.many, .int .i64 age, .int .i64 spread, .int .i64 s0, .int .i64 s1, .int .i64 s2,
    .int .i64 h0, .int .i64 h1, .int .i64 h2, .int .i64 h3, .int .i64 h4, .int .i64 h5, .int .i64 err]

def Qu.un (q : Qu) (k : Nat) : Int := [q.ux, q.uy, q.uz].getD k 0
def Qu.rv (q : Qu) (k : Nat) : Int := [q.radius, q.t, q.late, q.clock, q.many].getD k 0
def rlo (k : Nat) : Int := [0, 0, 0, 0, 1].getD k 0
def rhi (k : Nat) : Int := [10000000, 604799, 600, 1000000000, 8192].getD k 0

theorem uidx (q : Qu) (k : Nat) (hk : k < 3) : ∀ w, (Instr.index 22 (.agg #[.int .i64 q.ux, .int .i64 q.uy, .int .i64 q.uz]) (.int .i64 (k : Int))).run Tryd.prog w = .ok (.int .i64 (q.un k)) w := by
  intro w
  rcases (show k = 0 ∨ k = 1 ∨ k = 2 by omega) with rfl | rfl | rfl <;> kernel_rfl

theorem un_bad {q : Qu} {k : Nat} (hk : k < 3) (h : q.un k < -100000000 ∨ 100000000 < q.un k) : ¬ q.ok := by
  intro ⟨x0, x1, y0, y1, z0, z1, _, _, _, _, _, _, _, _, _, _⟩
  rcases (show k = 0 ∨ k = 1 ∨ k = 2 by omega) with rfl | rfl | rfl <;> simp [Qu.un] at h <;> omega

theorem keepA {w : World} {b : Nat} {cs : Array Value} {t : TypeId} {o : Obj} (h : Blk w b cs t) : (∀ i, (w.alloc o).cell? ⟨b, i, none⟩ = cs[i]?) ∧ Blk (w.alloc o) b cs t := ⟨(h.alloc o).cell, h.alloc o⟩
theorem keepD {w : World} {b : Nat} {cs : Array Value} {t : TypeId} (h : Blk w b cs t) : (∀ i, w.drew.cell? ⟨b, i, none⟩ = cs[i]?) ∧ Blk w.drew b cs t := ⟨h.drew.cell, h.drew⟩

abbrev rows (q : Qu) : Array Value := #[.int .i64 q.radius, .int .i64 0, .int .i64 10000000, .int .i64 q.t, .int .i64 0, .int .i64 604799, .int .i64 q.late, .int .i64 0, .int .i64 600, .int .i64 q.clock, .int .i64 0, .int .i64 1000000000, .int .i64 q.many, .int .i64 1, .int .i64 8192]
def rowV (q : Qu) (j : Nat) : List Value := [.int .i64 (q.rv j), .int .i64 (rlo j), .int .i64 (rhi j)]
theorem rows_at (q : Qu) (j : Nat) (hj : j < 5) (i : Nat) (hi : i < 3) : (rows q)[j * 3 + i]? = (rowV q j)[i]? := by
  rcases (show j = 0 ∨ j = 1 ∨ j = 2 ∨ j = 3 ∨ j = 4 by omega) with rfl | rfl | rfl | rfl | rfl <;>
    rcases (show i = 0 ∨ i = 1 ∨ i = 2 by omega) with rfl | rfl | rfl <;> rfl
theorem rv_bad {q : Qu} {k : Nat} (hk : k < 5) (h : q.rv k < rlo k ∨ rhi k < q.rv k) : ¬ q.ok := by
  intro ⟨_, _, _, _, _, _, r0, r1, t0, t1, l0, l1, c0, c1, s0, s1⟩
  rcases (show k = 0 ∨ k = 1 ∨ k = 2 ∨ k = 3 ∨ k = 4 by omega) with rfl | rfl | rfl | rfl | rfl <;> simp [Qu.rv, rlo, rhi] at h <;> omega
theorem ok_of_rows {q : Qu} (hu : ∀ j, j < 3 → -100000000 ≤ q.un j ∧ q.un j ≤ 100000000) (hr : ∀ j, j < 5 → rlo j ≤ q.rv j ∧ q.rv j ≤ rhi j) : q.ok := by
  have u0 := hu 0 (by omega)
  have u1 := hu 1 (by omega)
  have u2 := hu 2 (by omega)
  have r0 := hr 0 (by omega)
  have r1 := hr 1 (by omega)
  have r2 := hr 2 (by omega)
  have r3 := hr 3 (by omega)
  have r4 := hr 4 (by omega)
  simp [Qu.un] at u0 u1 u2
  simp [Qu.rv, rlo, rhi] at r0 r1 r2 r3 r4
  exact ⟨by omega, by omega, by omega, by omega, by omega, by omega, by omega, by omega, by omega, by omega, by omega, by omega, by omega, by omega, by omega, by omega⟩

/-- What ranged answers. -/
def RngR (q : Qu) (r : Bool) : Prop := (r = true ∧ q.ok) ∨ (r = false ∧ ¬ q.ok)

set_option maxRecDepth 100000 in
set_option maxHeartbeats 1000000 in
theorem ranged_any (p : Pg) (q : Qu) (age spread s0 s1 s2 h0 h1 h2 h3 h4 h5 err : Int) (b : Nat) (w : World) (hq : Blk w b (qarr p q age spread s0 s1 s2 h0 h1 h2 h3 h4 h5 err) 38) :
    Calls Tryd.prog 22 #[.pointer (some ⟨b, 0, none⟩)] w fun e w' => ∃ r, e = .returned (.bool r) ∧ RngR q r ∧ Below w.heap.size w w' := by
  have KQ := Lib.hid hq
  obtain ⟨hc, hf⟩ := row_cells hq
  clear hq
  go_enter Tryd.func22, Tryd.ntmps22
  go_wp2
  go_loopw [11] (fun i wr => ∃ k : Nat, k ≤ 3 ∧ i = .int .i64 k ∧ Hid (∀ j, j < k → -100000000 ≤ q.un j ∧ q.un j ≤ 100000000) ∧ w = wr) (fun i _ => 3 - (intOf i).toNat)
  case atStart => exact ⟨0, by omega, rfl, Lib.hid (fun j hj => by omega), rfl⟩
  case round =>
    obtain ⟨k, hk, rfl, HA, rfl⟩ := hrel
    by_cases hlt : k < 3
    · have hidx := uidx q k hlt
      rcases Int.lt_or_le (q.un k) (-100000000) with q1 | q1
      · go_wp2
        go_ret
        exact ⟨false, rfl, .inr ⟨rfl, fun h => un_bad hlt (.inl q1) h⟩, Below.refl _ _⟩
      · rcases Int.lt_or_le 100000000 (q.un k) with q2 | q2
        · go_wp2
          go_ret
          exact ⟨false, rfl, .inr ⟨rfl, fun h => un_bad hlt (.inr q2) h⟩, Below.refl _ _⟩
        · go_wp2
          go_roundw
          case rel => exact ⟨k + 1, by omega, by go_num, Lib.hid (fun j hj => by
            by_cases e : j < k
            · exact HA.out j e
            · obtain rfl : j = k := by omega
              exact ⟨q1, q2⟩), by first | rfl | trivial⟩
          case measure => simp [intOf]; omega
    · have dk : decide ((k : Int) < 3) = false := decide_eq_false (by omega)
      have HU := Lib.hid (show ∀ j, j < 3 → -100000000 ≤ q.un j ∧ q.un j ≤ 100000000 from fun j hj => HA.out j (by omega))
      have KQ2 := KQ.out
      clear HA
      go_wp2
      go_region_held3 (fun w' => (∀ o, w'.cell? ⟨b, o, none⟩ = (qarr p q age spread s0 s1 s2 h0 h1 h2 h3 h4 h5 err)[o]?) ∧ Blk w' b (qarr p q age spread s0 s1 s2 h0 h1 h2 h3 h4 h5 err) 38)
        (first | (exact keepD (by assumption)) | (go_split_ands; exact keepA (by assumption)))
        (fail)
      go_wp2
      have hR : Blk (w.alloc (.cells (rows q) 22)).drew w.heap.size (rows q) 22 := Blk.new w (rows q) 22
      have hBl : Below w.heap.size w (w.alloc (.cells (rows q) 22)).drew := ((Below.refl _ w).alloc (Nat.le_refl _) _).drew
      go_loopw [48] (fun i wr => ∃ j : Nat, j ≤ 5 ∧ i = .int .i64 j ∧ Hid (∀ m, m < j → rlo m ≤ q.rv m ∧ q.rv m ≤ rhi m) ∧ Hid (Blk wr w.heap.size (rows q) 22) ∧ Hid (Below w.heap.size w wr)) (fun i _ => 5 - (intOf i).toNat)
      case atStart => exact ⟨0, by omega, rfl, Lib.hid (fun j hj => by omega), hR, hBl⟩
      case round =>
        obtain ⟨j, hj, rfl, HA, HR, HB⟩ := hrel
        by_cases hlj : j < 5
        · have c0 : wr.cell? ⟨w.heap.size, j * 3, none⟩ = some (.int .i64 (q.rv j)) := (HR.out.cell _).trans (rows_at q j hlj 0 (by omega))
          have c1 : wr.cell? ⟨w.heap.size, j * 3 + 1, none⟩ = some (.int .i64 (rlo j)) := (HR.out.cell _).trans (rows_at q j hlj 1 (by omega))
          have c2 : wr.cell? ⟨w.heap.size, j * 3 + 2, none⟩ = some (.int .i64 (rhi j)) := (HR.out.cell _).trans (rows_at q j hlj 2 (by omega))
          have hsz := HB.out.size
          rcases Int.lt_or_le (q.rv j) (rlo j) with q1 | q1
          · go_wp2
            go_ret
            exact ⟨false, rfl, .inr ⟨rfl, fun h => rv_bad hlj (.inl q1) h⟩, HB.out.alloc hsz _⟩
          · rcases Int.lt_or_le (rhi j) (q.rv j) with q2 | q2
            · go_wp2
              go_ret
              exact ⟨false, rfl, .inr ⟨rfl, fun h => rv_bad hlj (.inr q2) h⟩, HB.out.alloc hsz _⟩
            · go_wp2
              go_roundw
              case rel => exact ⟨j + 1, by omega, by go_num, Lib.hid (fun m hm => by
                by_cases e : m < j
                · exact HA.out m e
                · obtain rfl : m = j := by omega
                  exact ⟨q1, q2⟩), Lib.hid (HR.out.alloc _), Lib.hid (HB.out.alloc hsz _)⟩
              case measure => simp [intOf]; omega
        · go_wp2
          go_ret
          exact ⟨true, rfl, .inl ⟨rfl, ok_of_rows HU.out (fun m hm => HA.out m (by omega))⟩, HB.out⟩
end Go.Proofs.YtphdphipnbclcaaDoor

/- The program's third step over a question (question.height): whether the satellite is up, down or open. -/
import Derived.Test.YtphdphipnbclcaaDoorSpec2
import Derived.Test.YtphdphipnbclcaaDoorPlace
namespace Go.Proofs.YtphdphipnbclcaaDoor
open Go.RowKit

/-- The question's block behind the second step. -/
abbrev q2 (p : Pg) (q : Qu) (up : Int) : Array Value := qarr p q (ageI p q) (spreadI p q) (sx p q) (sy p q) (sz p q) 0 up 0 0 0 0 0

theorem q2_s (p : Pg) (q : Qu) (up : Int) (k : Nat) (hk : k < 3) : (q2 p q up)[23 + k]? = some (.int .i64 (sk p q k)) := by
  rcases (show k = 0 ∨ k = 1 ∨ k = 2 by omega) with rfl | rfl | rfl <;> rfl
theorem q2_u (p : Pg) (q : Qu) (up : Int) (k : Nat) (hk : k < 3) : (q2 p q up)[13 + k]? = some (.int .i64 (q.un k)) := by
  rcases (show k = 0 ∨ k = 1 ∨ k = 2 by omega) with rfl | rfl | rfl <;> rfl

theorem keepQS {cs : Array Value} {b : Nat} {w w' w2 : World} (h : QSt cs b w w') (hb : Below w'.heap.size w' w2) : (∀ i, w2.cell? ⟨b, i, none⟩ = cs[i]?) ∧ QSt cs b w w2 := ⟨(h.step hb).cells.1, h.step hb⟩

theorem heldQ {cs : Array Value} {b : Nat} {w w' : World} (h : (∀ i, w'.cell? ⟨b, i, none⟩ = cs[i]?) ∧ QSt cs b w w') : QSt cs b w w' := h.2

theorem lenU_any (p : Pg) (q : Qu) (w : World) (h : Good p q) : Calls Tryd.prog 26 #[arr3 q.ux q.uy q.uz] w fun e w' => e = .returned (.int .i64 (lenU q)) ∧ Below w.heap.size w w' := by
  have := h.qu.x0; have := h.qu.x1; have := h.qu.y0; have := h.qu.y1; have := h.qu.z0; have := h.qu.z1
  exact length_any q.ux q.uy q.uz w (by omega) (by omega) (by omega)
theorem lenS_any (p : Pg) (q : Qu) (w : World) (h : Good p q) : Calls Tryd.prog 26 #[arr3 (sx p q) (sy p q) (sz p q)] w fun e w' => e = .returned (.int .i64 (lenS p q)) ∧ Below w.heap.size w w' := by
  obtain ⟨a, b, c⟩ := h.s
  exact length_any (sx p q) (sy p q) (sz p q) w (by omega) (by omega) (by omega)

set_option maxRecDepth 100000 in
set_option maxHeartbeats 4000000 in
theorem height_good (p : Pg) (q : Qu) (b : Nat) (w : World) (hq : Blk w b (q2 p q 0) 38) (h : Good p q) :
    Calls Tryd.prog 9 #[.pointer (some ⟨b, 0, none⟩)] w (StepR b w (q2 p q (upI p q))) := by
  have HG := Lib.hid h
  clear h
  obtain ⟨hc, hf⟩ := row_cells hq
  have st : QSt (q2 p q 0) b w w := ⟨hq, Below.refl _ _⟩
  clear hq
  go_enter Tryd.func9, Tryd.ntmps9
  go_wp2
  clear hc hf
  go_loopw [3, 12] (fun f i wr => ∃ k : Nat, k ≤ 3 ∧ i = .int .i64 k ∧ f = .int .i64 (fk p q k) ∧ QSt (q2 p q 0) b w wr) (fun _ i _ => 3 - (intOf i).toNat)
  case atStart => exact ⟨0, by omega, rfl, rfl, st⟩
  case round =>
    clear st
    obtain ⟨k, hk, rfl, rfl, st⟩ := hrel
    by_cases hlt : k < 3
    · have hs : wr.cell? ⟨b, 23 + k, none⟩ = some (.int .i64 (sk p q k)) := (st.1.cell _).trans (q2_s p q 0 k hlt)
      have hu : wr.cell? ⟨b, 13 + k, none⟩ = some (.int .i64 (q.un k)) := (st.1.cell _).trans (q2_u p q 0 k hlt)
      obtain ⟨x0, x1⟩ := HG.out.dk k hlt
      obtain ⟨y0, y1⟩ := HG.out.fp k hlt
      obtain ⟨z0, z1⟩ := HG.out.fk k hk
      go_wp2
      go_quiet (fail)
      go_wp2
      go_roundw
      case rel => exact ⟨k + 1, by omega, by go_num, rfl, st.drewN _⟩
      case measure => simp [intOf]; omega
    · have e : k = 3 := by omega
      have dk : decide ((k : Int) < 3) = false := decide_eq_false (by omega)
      have ef : fk p q k = fI p q := by rw [e]; exact fk_eq p q
      obtain ⟨z0, z1⟩ := HG.out.fk k hk
      rw [ef] at *
      have e2 : (k : Int) ≤ 3 := by omega
      clear e
      obtain ⟨a0, a1⟩ := HG.out.b1
      obtain ⟨a2, a3⟩ := HG.out.b2
      obtain ⟨a4, a5⟩ := HG.out.b3
      obtain ⟨a6, a7⟩ := HG.out.b4
      obtain ⟨b0, b1⟩ := HG.out.b
      obtain ⟨c0, c1⟩ := HG.out.lu
      obtain ⟨c2, c3⟩ := HG.out.ls
      obtain ⟨c4, c5⟩ := HG.out.sp
      have e1 : IntKind.i64.wrap (spreadI p q * lenU q) = spreadI p q * lenU q := IntWalk.i64_in _ (by omega)
      have e2 : IntKind.i64.wrap (2 * lenU q) = 2 * lenU q := IntWalk.i64_in _ (by omega)
      have e3 : IntKind.i64.wrap (lenS p q + 2 * lenU q) = lenS p q + 2 * lenU q := IntWalk.i64_in _ (by omega)
      have e4 : IntKind.i64.wrap (q.radius * (lenS p q + 2 * lenU q)) = q.radius * (lenS p q + 2 * lenU q) := IntWalk.i64_in _ (by omega)
      have e5 : IntKind.i64.wrap (spreadI p q * lenU q + q.radius * (lenS p q + 2 * lenU q)) = spreadI p q * lenU q + q.radius * (lenS p q + 2 * lenU q) := IntWalk.i64_in _ (by omega)
      have e6 : IntKind.i64.wrap (2 * spreadI p q) = 2 * spreadI p q := IntWalk.i64_in _ (by omega)
      have e7 : IntKind.i64.wrap (2 * spreadI p q * q.radius) = 2 * spreadI p q * q.radius := IntWalk.i64_in _ (by omega)
      have e8 : IntKind.i64.wrap (spreadI p q * lenU q + q.radius * (lenS p q + 2 * lenU q) + 2 * spreadI p q * q.radius) = spreadI p q * lenU q + q.radius * (lenS p q + 2 * lenU q) + 2 * spreadI p q * q.radius := IntWalk.i64_in _ (by omega)
      have e9 : IntKind.i64.wrap (q.radius * q.radius) = q.radius * q.radius := IntWalk.i64_in _ (by omega)
      have e10 : IntKind.i64.wrap (spreadI p q * lenU q + q.radius * (lenS p q + 2 * lenU q) + 2 * spreadI p q * q.radius + q.radius * q.radius) = bI p q := IntWalk.i64_in _ (by omega)
      go_upto_region 9 with (fail)
      go_cut [5] (fun s5 wx => s5 = .int .i64 (bI p q) ∧ QSt (q2 p q 0) b w wx)
      case first =>
        go_region_held3 (fun w' => (∀ o, w'.cell? ⟨b, o, none⟩ = (q2 p q 0)[o]?) ∧ QSt (q2 p q 0) b w w')
          (first | (exact keepQD (by assumption)) | (go_split_ands; exact keepQS (by assumption) hb3))
          (first
            | (go_at_call_of 26 q.ux; (with_reducible refine (lenU_any p q _ HG.out).mono ?_); rintro e w3 ⟨rfl, hb3⟩)
            | (go_at_call_of 26 (sx p q); (with_reducible refine (lenS_any p q _ HG.out).mono ?_); rintro e w3 ⟨rfl, hb3⟩))
        all_goals
          go_wp2_with fail
          go_meet
          exact ⟨rfl, heldQ (by assumption)⟩
      case rest =>
        obtain ⟨rfl, st2⟩ := hcut
        clear e1 e2 e3 e4 e5 e6 e7 e8 e9 e10 st a0 a1 a2 a3 a4 a5 a6 a7 c0 c1 c2 c3 c4 c5
        obtain ⟨hc, hf⟩ := st2.cells
        by_cases v1 : bI p q < fI p q
        · have hup : upI p q = 1 := by unfold upI; rw [if_pos v1]
          go_wp2
          go_ret
          exact ⟨rfl, (st2.set 27 (.int .i64 1)).1, (st2.set 27 (.int .i64 1)).2⟩
        · by_cases v2 : fI p q < -bI p q
          · have hup : upI p q = -1 := by unfold upI; rw [if_neg v1, if_pos v2]
            go_wp2
            go_ret
            exact ⟨rfl, (st2.set 27 (.int .i64 (-1))).1, (st2.set 27 (.int .i64 (-1))).2⟩
          · have hup : upI p q = 0 := by unfold upI; rw [if_neg v1, if_neg v2]
            go_wp2
            go_ret
            exact ⟨rfl, (st2.set 27 (.int .i64 0)).1, (st2.set 27 (.int .i64 0)).2⟩
end Go.Proofs.YtphdphipnbclcaaDoor

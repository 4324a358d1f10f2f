/- The program's last step over a question (question.distance): the bounds of the distance, and the lags. -/
import Derived.Test.YtphdphipnbclcaaDoorHeight
namespace Go.Proofs.YtphdphipnbclcaaDoor
open Go.RowKit

/-- The question's block behind the last step. -/
abbrev qF (p : Pg) (q : Qu) (r : Int) : Array Value := qarr p q (ageI p q) (spreadI p q) (sx p q) (sy p q) (sz p q) p.prn (upI p q) (nearI p q r) (farI p q r) (lagI p q r) (manyI p q r) 0
/-- .. with the distance alone. -/
abbrev q3 (p : Pg) (q : Qu) (r : Int) : Array Value := qarr p q (ageI p q) (spreadI p q) (sx p q) (sy p q) (sz p q) 0 (upI p q) (nearI p q r) (farI p q r) 0 0 0

theorem newton_q (n r : Int) (w : World) (hr : IsRoot n r) (h0 : 0 ≤ n) (h1 : n ≤ 4611686018427387904) :
    Calls Tryd.prog 27 #[.int .i64 n] w fun e w' => e = .returned (.int .i64 r) ∧ w' = w :=
  (newton_any n r w hr h0 h1).mono fun _ _ h => ⟨h.1, h.2.symm⟩

section
variable {p : Pg} {q : Qu} (h : Good p q) {r : Int} (hr : IsRoot (sumI p q) r)
include h hr
theorem Good.near : 0 ≤ nearI p q r ∧ nearI p q r ≤ 1200000000 := by
  have := h.e
  have := h.r hr
  unfold nearI mx
  split <;> omega
theorem Good.far : 0 ≤ farI p q r ∧ farI p q r ≤ 1300000000 := by
  have := h.e
  have := h.r hr
  unfold farI
  omega
theorem Good.lp : -18841600000000000 ≤ (nearI p q r - q.clock) * 1000 * q.many ∧ (nearI p q r - q.clock) * 1000 * q.many ≤ 18841600000000000 := by
  have := h.near hr
  have := h.qu.c0; have := h.qu.c1; have := h.qu.s0; have := h.qu.s1
  have := prod_bd (a := (nearI p q r - q.clock) * 1000) (b := q.many) (A := 2300000000000) (B := 8192) (by omega) (by omega) (by omega) (by omega)
  omega
theorem Good.hp : 0 ≤ (farI p q r + q.clock) * 1000 * q.many ∧ (farI p q r + q.clock) * 1000 * q.many ≤ 18841600000000000 := by
  have := h.far hr
  have := h.qu.c0; have := h.qu.c1; have := h.qu.s0; have := h.qu.s1
  exact ⟨Int.mul_nonneg (by omega) (by omega), Int.le_trans (mul_mono (b := 2300000000000) (d := 8192) (by omega) (by omega) (by omega) (by omega)) (by omega)⟩
theorem Good.low : -63000000 ≤ lowI p q r ∧ lowI p q r ≤ 63000000 := by
  have := h.lp hr
  unfold lowI
  omega
theorem Good.high : 0 ≤ highI p q r ∧ highI p q r ≤ 63000000 := by
  have := h.hp hr
  unfold highI
  omega
end
theorem lag_eq (a m : Int) (hm : 1 ≤ m) : (a.tmod m + m).tmod m = a % m := by
  have h1 := Int.tmod_lt_of_pos a (show 0 < m by omega)
  have h2 := Int.lt_tmod_of_pos a (show 0 < m by omega)
  have h3 := Int.mul_tdiv_add_tmod a m
  rw [Int.tmod_eq_emod_of_nonneg (by omega), Int.add_emod_right]
  have : a = a.tmod m + m * a.tdiv m := by omega
  rw [this, Int.add_mul_emod_self_left, ← this]
theorem mn_comm (a b : Int) : mn a b = mn b a := by unfold mn; split <;> split <;> omega

theorem q2_s' (p : Pg) (q : Qu) (k : Nat) (hk : k < 3) : (q2 p q (upI p q))[23 + k]? = some (.int .i64 (sk p q k)) := q2_s p q _ k hk

set_option maxRecDepth 100000 in
set_option maxHeartbeats 4000000 in
theorem distance_good (p : Pg) (q : Qu) (r : Int) (b : Nat) (w : World) (hq : Blk w b (q2 p q (upI p q)) 38) (h : Good p q) (hr : IsRoot (sumI p q) r) :
    Calls Tryd.prog 10 #[.pointer (some ⟨b, 0, none⟩)] w (StepR b w (qF p q r)) := by
  have HG := Lib.hid h
  have HR := Lib.hid hr
  clear h hr
  obtain ⟨hc, hf⟩ := row_cells hq
  have st : QSt (q2 p q (upI p q)) b w w := ⟨hq, Below.refl _ _⟩
  clear hq
  go_enter Tryd.func10, Tryd.ntmps10
  go_wp2
  clear hc hf
  go_loopw [3, 15] (fun f i wr => ∃ k : Nat, k ≤ 3 ∧ i = .int .i64 k ∧ f = .int .i64 (mk p q k) ∧ QSt (q2 p q (upI p q)) b w wr) (fun _ i _ => 3 - (intOf i).toNat)
  case atStart => exact ⟨0, by omega, rfl, rfl, st⟩
  case round =>
    clear st
    obtain ⟨k, hk, rfl, rfl, st⟩ := hrel
    by_cases hlt : k < 3
    · have hs : wr.cell? ⟨b, 23 + k, none⟩ = some (.int .i64 (sk p q k)) := (st.1.cell _).trans (q2_s p q _ k hlt)
      have hu : wr.cell? ⟨b, 13 + k, none⟩ = some (.int .i64 (q.un k)) := (st.1.cell _).trans (q2_u p q _ k hlt)
      obtain ⟨x0, x1⟩ := HG.out.dk k hlt
      obtain ⟨y0, y1⟩ := HG.out.mp k hlt
      obtain ⟨z0, z1⟩ := HG.out.msk k hk
      go_wp2
      go_quiet (fail)
      go_wp2
      go_roundw
      case rel => exact ⟨k + 1, by omega, by go_num, rfl, st.drewN _⟩
      case measure => simp [intOf]; omega
    · have e : k = 3 := by omega
      have dk : decide ((k : Int) < 3) = false := decide_eq_false (by omega)
      have ef : mk p q k = sumI p q := by rw [e]; exact mk_eq p q
      rw [ef] at *
      clear e
      obtain ⟨s0, s1⟩ := HG.out.sum
      obtain ⟨r0, r1⟩ := HG.out.r HR.out
      obtain ⟨c4, c5⟩ := HG.out.sp
      have u0 := HG.out.qu.r0
      have u1 := HG.out.qu.r1
      obtain ⟨ee0, ee1⟩ := HG.out.e
      have e1 : 2 * spreadI p q + q.radius = eI p q := rfl
      have e2 : (if eI p q < r then r - eI p q else 0) = nearI p q r := by
        unfold nearI mx
        split <;> split <;> omega
      have e3 : r + 1 + eI p q = farI p q r := rfl
      obtain ⟨hc, hf⟩ := st.cells
      go_wp2
      go_quiet ((go_at_call 27; exact Calls.quiet_of_same (newton_q _ r _ HR.out s0 (by omega))))
      have st1 := st.drewN nq
      generalize wr.drewN nq = w1 at st1 ⊢
      clear hc hf st
      obtain ⟨hc, hf⟩ := st1.cells
      go_wp2
      obtain ⟨n0, n1⟩ := HG.out.near HR.out
      obtain ⟨f0, f1⟩ := HG.out.far HR.out
      obtain ⟨lp0, lp1⟩ := HG.out.lp HR.out
      obtain ⟨hp0, hp1⟩ := HG.out.hp HR.out
      obtain ⟨lo0, lo1⟩ := HG.out.low HR.out
      obtain ⟨hi0, hi1⟩ := HG.out.high HR.out
      have c0 := HG.out.qu.c0
      have c1 := HG.out.qu.c1
      have m0 := HG.out.qu.s0
      have m1 := HG.out.qu.s1
      have el : (nearI p q r - q.clock) * 1000 * q.many / 299792458 = lowI p q r := rfl
      have eh : (farI p q r + q.clock) * 1000 * q.many / 299792458 = highI p q r := rfl
      have st2 : QSt (q3 p q r) b w ((w1.setCell ⟨b, 28, none⟩ (.int .i64 (nearI p q r))).setCell ⟨b, 29, none⟩ (.int .i64 (farI p q r))) := (st1.set 28 _).set 29 _
      generalize (w1.setCell ⟨b, 28, none⟩ (.int .i64 (nearI p q r))).setCell ⟨b, 29, none⟩ (.int .i64 (farI p q r)) = w2 at st2 ⊢
      clear hc hf st1 e1 e2 e3 s0 s1 c4 c5 u0 u1 ee0 ee1
      obtain ⟨hc, hf⟩ := st2.cells
      go_quiet ((go_at_call 28; exact Calls.quiet_of_same (down_q _ _ _ (by omega) (by omega) (by omega))))
      have st3 := st2.drewN nq
      generalize w2.drewN nq = w3 at st3 ⊢
      clear hc hf st2
      obtain ⟨hc, hf⟩ := st3.cells
      go_wp2
      go_quiet ((go_at_call 28; exact Calls.quiet_of_same (down_q _ _ _ (by omega) (by omega) (by omega))))
      have st4 := st3.drewN nq
      generalize w3.drewN nq = w4 at st4 ⊢
      clear hc hf st3
      obtain ⟨hc, hf⟩ := st4.cells
      have em : (if q.many < highI p q r - lowI p q r + 1 then q.many else highI p q r - lowI p q r + 1) = manyI p q r := by
        unfold manyI
        rw [mn_comm]
        rfl
      go_wp2
      have st5 : QSt (qarr p q (ageI p q) (spreadI p q) (sx p q) (sy p q) (sz p q) p.prn (upI p q) (nearI p q r) (farI p q r) 0 (manyI p q r) 0) b w (((w4.setCell ⟨b, 26, none⟩ (.int .i64 p.prn)).setCell ⟨b, 31, none⟩ (.int .i64 (manyI p q r))).drew) := ((st4.set 26 _).set 31 _).drew
      have mz : ¬ q.many = 0 := by omega
      have k1 := Int.tmod_lt_of_pos (lowI p q r) (show 0 < q.many by omega)
      have k2 := Int.lt_tmod_of_pos (lowI p q r) (show 0 < q.many by omega)
      have t1 : IntKind.i64.wrap ((lowI p q r).tmod q.many + q.many) = (lowI p q r).tmod q.many + q.many := IntWalk.i64_in _ (by omega)
      have t2 : ((lowI p q r).tmod q.many + q.many).tmod q.many = lagI p q r := lag_eq _ _ m0
      refine wp_region_still_tail 20 (by kernel_rfl) (by kernel_rfl) ?_
      simp only [List.take_succ_cons, List.take_zero, List.drop_succ_cons, List.drop_zero]
      change wpStill _ _ (World.drew _) (fun a' => wpList _ _ _ _ a' (World.drew _)) _ _
      generalize (((w4.setCell ⟨b, 26, none⟩ (.int .i64 p.prn)).setCell ⟨b, 31, none⟩ (.int .i64 (manyI p q r))).drew) = w5 at st5 ⊢
      clear hc hf st4
      obtain ⟨hc, hf⟩ := st5.cells
      repeat still_step
      refine wpStill_nil ?_
      go_wp2
      go_ret
      exact ⟨rfl, (st5.set 30 (.int .i64 (lagI p q r))).1, (st5.set 30 (.int .i64 (lagI p q r))).2⟩
end Go.Proofs.YtphdphipnbclcaaDoor

/- The program's second step over a question (question.place): it computes the age, the position and the spread, or says that the page is too old. -/
import Derived.Test.YtphdphipnbclcaaDoorSpec
import Derived.StillTailTactics
import Derived.Deep.RegionWith
import Derived.Deep.RegionHeld3
import Derived.Deep.DeepCutAuto
namespace Go.Proofs.YtphdphipnbclcaaDoor
open Go.RowKit

/-- What lies while a step runs: the question's block holds cs; nothing below it has turned. -/
def QSt (cs : Array Value) (b : Nat) (w w' : World) : Prop := Blk w' b cs 38 ∧ Below b w w'
theorem QSt.cells {cs : Array Value} {b : Nat} {w w' : World} (h : QSt cs b w w') : (∀ o, w'.cell? ⟨b, o, none⟩ = cs[o]?) ∧ (∀ o, w'.frozen? ⟨b, o, none⟩ = false) := row_cells h.1
theorem QSt.drewN {cs : Array Value} {b : Nat} {w w' : World} (h : QSt cs b w w') (n : Nat) : QSt cs b w (w'.drewN n) := ⟨h.1.drewN n, below_drewN h.2 n⟩
theorem QSt.drew {cs : Array Value} {b : Nat} {w w' : World} (h : QSt cs b w w') : QSt cs b w w'.drew := ⟨h.1.drew, h.2.drew⟩
theorem QSt.set {cs : Array Value} {b : Nat} {w w' : World} (h : QSt cs b w w') (i : Nat) (v : Value) : QSt (cs.setIfInBounds i v) b w (w'.setCell ⟨b, i, none⟩ v) := ⟨h.1.set i v, h.2.setCell (p := ⟨b, i, none⟩) (Nat.le_refl _) v⟩
theorem QSt.step {cs : Array Value} {b : Nat} {w w' w2 : World} (h : QSt cs b w w') (hb : Below w'.heap.size w' w2) : QSt cs b w w2 := ⟨h.1.below hb, h.2.trans (hb.mono (Nat.le_of_lt h.1.lt))⟩
theorem QSt.alloc {cs : Array Value} {b : Nat} {w w' : World} (h : QSt cs b w w') (o : Obj) : QSt cs b w (w'.alloc o) := ⟨h.1.alloc o, h.2.alloc (Nat.le_of_lt h.1.lt) o⟩

theorem keepQA {cs : Array Value} {b : Nat} {w w' : World} {o : Obj} (h : QSt cs b w w') : (∀ i, (w'.alloc o).cell? ⟨b, i, none⟩ = cs[i]?) ∧ QSt cs b w (w'.alloc o) := ⟨(h.alloc o).cells.1, h.alloc o⟩
theorem keepQD {cs : Array Value} {b : Nat} {w w' : World} (h : QSt cs b w w') : (∀ i, w'.drew.cell? ⟨b, i, none⟩ = cs[i]?) ∧ QSt cs b w w'.drew := ⟨h.drew.cells.1, h.drew⟩
abbrev coefs (p : Pg) : Array Value := #[.int .i64 p.x0, .int .i64 p.x1, .int .i64 p.x2, .int .i64 p.y0, .int .i64 p.y1, .int .i64 p.y2, .int .i64 p.z0, .int .i64 p.z1, .int .i64 p.z2]
theorem coefs_at (p : Pg) (k : Nat) (hk : k < 3) (j : Nat) (hj : j < 3) : (coefs p)[k * 3 + j]? = some (.int .i64 (ck p k j)) := by
  rcases (show k = 0 ∨ k = 1 ∨ k = 2 by omega) with rfl | rfl | rfl <;>
    rcases (show j = 0 ∨ j = 1 ∨ j = 2 by omega) with rfl | rfl | rfl <;> rfl

set_option maxRecDepth 100000 in
set_option maxHeartbeats 1000000 in
theorem place_old (p : Pg) (q : Qu) (b : Nat) (w : World) (hq : Blk w b (q0 p q 0) 38) (hp : POk p) (hk : q.ok) (ha : 14400 < ageI p q) :
    Calls Tryd.prog 8 #[.pointer (some ⟨b, 0, none⟩)] w (StepR b w (qarr p q (ageI p q) 0 0 0 0 0 0 0 0 0 0 17)) := by
  have t0 := hp.t00
  have t1 := hp.t01
  have u0 := hk.t0
  have u1 := hk.t1
  have l0 := hk.l0
  have l1 := hk.l1
  have k1 : -604800 < (q.t - p.t0 + 302400).tmod 604800 := Int.lt_tmod_of_pos _ (by omega)
  have k2 : (q.t - p.t0 + 302400).tmod 604800 < 604800 := Int.tmod_lt_of_pos _ (by omega)
  have kd : (q.t - p.t0 + 302400).tmod 604800 % 604800 - 302400 = dd p q := by
    have k3 := Int.mul_tdiv_add_tmod (q.t - p.t0 + 302400) 604800
    unfold dd wk
    generalize (q.t - p.t0 + 302400).tmod 604800 = r at *
    generalize (q.t - p.t0 + 302400).tdiv 604800 = s at *
    omega
  obtain ⟨d0, d1⟩ := wk_bd (q.t - p.t0)
  have d0' : -302400 ≤ dd p q := d0
  have d1' : dd p q ≤ 302399 := d1
  clear d0 d1
  obtain ⟨a0, a1, a2⟩ := absI_le (dd p q)
  have a3 : absI (dd p q) ≤ 302400 := (absI_bd (dd p q) 302400 (by omega) (by omega)).2
  have e1 : IntKind.i64.wrap (absI (dd p q) + q.late) = ageI p q := IntWalk.i64_in _ (by omega)
  have st : QSt (q0 p q 0) b w w := ⟨hq, Below.refl _ _⟩
  clear hp hk
  obtain ⟨hc, hf⟩ := row_cells hq
  clear hq
  go_enter Tryd.func8, Tryd.ntmps8
  go_wp2
  go_quiet (fail)
  go_wp2
  refine wp_region_still_tail 10 (by kernel_rfl) (by kernel_rfl) ?_
  simp only [List.take_succ_cons, List.take_zero, List.drop_succ_cons, List.drop_zero]
  change wpStill _ _ (World.drew _) (fun a' => wpList _ _ _ _ a' (World.drew _)) _ _
  have st1 := (st.drewN nq).drew
  generalize (w.drewN nq).drew = w1 at st1 ⊢
  obtain ⟨hc1, hf1⟩ := st1.cells
  repeat still_step
  still_call (size_q _ _ (by omega) (by omega))
  repeat still_step
  refine wpStill_nil ?_
  go_wp2
  go_ret
  exact ⟨rfl, ((st1.set 21 (.int .i64 (ageI p q))).set 32 (.int .i64 17)).1, ((st1.set 21 (.int .i64 (ageI p q))).set 32 (.int .i64 17)).2⟩

set_option maxRecDepth 100000 in
set_option maxHeartbeats 4000000 in
theorem place_good (p : Pg) (q : Qu) (b : Nat) (w : World) (hw : Wid w) (hb0 : 0 < b) (hq : Blk w b (q0 p q 0) 38) (h : Good p q) :
    Calls Tryd.prog 8 #[.pointer (some ⟨b, 0, none⟩)] w (StepR b w (qarr p q (ageI p q) (spreadI p q) (sx p q) (sy p q) (sz p q) 0 0 0 0 0 0 0)) := by
  have t0 := h.pg.t00
  have t1 := h.pg.t01
  have u0 := h.qu.t0
  have u1 := h.qu.t1
  have l0 := h.qu.l0
  have l1 := h.qu.l1
  have k1 : -604800 < (q.t - p.t0 + 302400).tmod 604800 := Int.lt_tmod_of_pos _ (by omega)
  have k2 : (q.t - p.t0 + 302400).tmod 604800 < 604800 := Int.tmod_lt_of_pos _ (by omega)
  have kd : (q.t - p.t0 + 302400).tmod 604800 % 604800 - 302400 = dd p q := by
    have k3 := Int.mul_tdiv_add_tmod (q.t - p.t0 + 302400) 604800
    unfold dd wk
    generalize (q.t - p.t0 + 302400).tmod 604800 = r at *
    generalize (q.t - p.t0 + 302400).tdiv 604800 = s at *
    omega
  obtain ⟨d0', d1'⟩ := h.d
  obtain ⟨a0, a1, a2⟩ := absI_le (dd p q)
  have a3 : absI (dd p q) ≤ 302400 := (absI_bd (dd p q) 302400 (by omega) (by omega)).2
  have e1 : IntKind.i64.wrap (absI (dd p q) + q.late) = ageI p q := IntWalk.i64_in _ (by omega)
  have ha := h.old
  have HG := Lib.hid h
  have HW := Lib.hid hw
  clear h hw
  obtain ⟨hc, hf⟩ := row_cells hq
  have st : QSt (q0 p q 0) b w w := ⟨hq, Below.refl _ _⟩
  clear hq
  go_enter Tryd.func8, Tryd.ntmps8
  go_wp2
  go_quiet (fail)
  go_wp2
  refine wp_region_still_tail 10 (by kernel_rfl) (by kernel_rfl) ?_
  simp only [List.take_succ_cons, List.take_zero, List.drop_succ_cons, List.drop_zero]
  change wpStill _ _ (World.drew _) (fun a' => wpList _ _ _ _ a' (World.drew _)) _ _
  have st1 := (st.drewN nq).drew
  generalize (w.drewN nq).drew = w1 at st1 ⊢
  clear hc hf st
  obtain ⟨hc, hf⟩ := st1.cells
  repeat still_step
  still_call (size_q _ _ (by omega) (by omega))
  repeat still_step
  refine wpStill_nil ?_
  go_upto_region 8 with (fail)
  have st2 : QSt (qarr p q (ageI p q) 0 0 0 0 0 0 0 0 0 0 0) b w (w1.setCell ⟨b, 21, none⟩ (.int .i64 (ageI p q))) := st1.set 21 (.int .i64 (ageI p q))
  generalize w1.setCell ⟨b, 21, none⟩ (.int .i64 (ageI p q)) = w2 at st2 ⊢
  clear hc hf st1
  obtain ⟨hc, hf⟩ := st2.cells
  have WP := Lib.hid (HW.out.below st2.drew.2 hb0)
  clear e1 k1 k2 kd
  go_cut [] (fun wx => QSt (qarr p q (ageI p q) 0 (sx p q) (sy p q) (sz p q) 0 0 0 0 0 0 0) b w wx)
  case first =>
    go_region_with (go_at_call 24; refine (atP_any p q.t _ WP.out HG.out.pg u0 u1).mono ?_; rintro e w3 ⟨rfl, hb3⟩; have st3 := st2.drew.step hb3; clear hc hf hb3 st2; obtain ⟨hc, hf⟩ := st3.cells)
    all_goals
      go_wp2_with fail
      go_meet
      exact (((st3.set 23 _).set 24 _).set 25 _)
  case rest =>
    clear hc hf st2 WP
    obtain ⟨hc, hf⟩ := hcut.cells
    go_wp2
    go_region_held3 (fun w' => (∀ o, w'.cell? ⟨b, o, none⟩ = (qarr p q (ageI p q) 0 (sx p q) (sy p q) (sz p q) 0 0 0 0 0 0 0)[o]?) ∧ QSt (qarr p q (ageI p q) 0 (sx p q) (sy p q) (sz p q) 0 0 0 0 0 0 0) b w w')
      (first | (exact keepQD (by assumption)) | (go_split_ands; exact keepQA (by assumption)))
      (fail)
    go_wp2
    have hR : Blk (wc.alloc (.cells (coefs p) 22)).drew wc.heap.size (coefs p) 22 := Blk.new wc (coefs p) 22
    have hS : QSt (qarr p q (ageI p q) (spk p q 0) (sx p q) (sy p q) (sz p q) 0 0 0 0 0 0 0) b w (wc.alloc (.cells (coefs p) 22)).drew := (hcut.alloc _).drew
    have hlt := hcut.1.lt
    clear hc hf hcut
    go_loopw [79] (fun i wr => ∃ k : Nat, k ≤ 3 ∧ i = .int .i64 k ∧ Hid (Blk wr wc.heap.size (coefs p) 22) ∧ QSt (qarr p q (ageI p q) (spk p q k) (sx p q) (sy p q) (sz p q) 0 0 0 0 0 0 0) b w wr) (fun i _ => 3 - (intOf i).toNat)
    case atStart => exact ⟨0, by omega, rfl, hR, hS⟩
    case round =>
      clear hR hS
      obtain ⟨k, hk, rfl, HR, st⟩ := hrel
      by_cases hlk : k < 3
      · have c0 : wr.cell? ⟨wc.heap.size, k * 3, none⟩ = some (.int .i64 (ck p k 0)) := (HR.out.cell _).trans (coefs_at p k hlk 0 (by omega))
        have c1 : wr.cell? ⟨wc.heap.size, k * 3 + 1, none⟩ = some (.int .i64 (ck p k 1)) := (HR.out.cell _).trans (coefs_at p k hlk 1 (by omega))
        have c2 : wr.cell? ⟨wc.heap.size, k * 3 + 2, none⟩ = some (.int .i64 (ck p k 2)) := (HR.out.cell _).trans (coefs_at p k hlk 2 (by omega))
        obtain ⟨hc, hf⟩ := st.cells
        have hlb := st.1.lt
        have hv := vk_eq p (ageI p q) k hlk
        obtain ⟨v0, v1⟩ := HG.out.vk k hlk
        obtain ⟨n0, n1⟩ := HG.out.vkl k hlk
        obtain ⟨y0, y1⟩ := HG.out.ck1 k hlk
        obtain ⟨z0, z1⟩ := HG.out.ck2 k hlk
        obtain ⟨x0, x1⟩ := absI_bd (ck p k 1) 8192 (by omega) (by omega)
        obtain ⟨x2, x3⟩ := absI_bd (ck p k 2) 2048 (by omega) (by omega)
        obtain ⟨g0, g1⟩ := HG.out.age
        have m0 : 0 ≤ 2 * absI (ck p k 2) * ageI p q := Int.mul_nonneg (by omega) g0
        have m1 : 2 * absI (ck p k 2) * ageI p q ≤ 4096 * 14400 := Int.le_trans (Int.mul_le_mul_of_nonneg_right (by omega) g0) (Int.mul_le_mul_of_nonneg_left g1 (by omega))
        have e3 : IntKind.i64.wrap (vk p (ageI p q) k * q.late) = vk p (ageI p q) k * q.late := IntWalk.i64_in _ (by omega)
        have e4 : IntKind.i64.wrap (vk p (ageI p q) k * q.late + 1) = vk p (ageI p q) k * q.late + 1 := IntWalk.i64_in _ (by omega)
        go_wp2
        go_quiet ((first | (go_at_call 23; exact Calls.quiet_of_same (size_q _ _ (by omega) (by omega))) | (go_at_call 25; exact Calls.quiet_of_same (up_q _ _ _ (by omega) (by omega) (by omega)))))
        go_wp2
        refine wp_region_still_tail 15 (by kernel_rfl) (by kernel_rfl) ?_
        simp only [List.take_succ_cons, List.take_zero, List.drop_succ_cons, List.drop_zero]
        change wpStill _ _ (World.drew _) (fun a' => wpList _ _ _ _ a' (World.drew _)) _ _
        have st1 := ((st.alloc (.cells #[.int .i64 (ck p k 0), .int .i64 (ck p k 1), .int .i64 (ck p k 2)] 22)).drewN nq).drew
        have hr1 := ((HR.out.alloc (.cells #[.int .i64 (ck p k 0), .int .i64 (ck p k 1), .int .i64 (ck p k 2)] 22)).drewN nq).drew
        generalize ((wr.alloc (.cells #[.int .i64 (ck p k 0), .int .i64 (ck p k 1), .int .i64 (ck p k 2)] 22)).drewN nq).drew = w5 at st1 hr1 ⊢
        have HR1 := Lib.hid (hr1.other (a := ⟨b, 22, none⟩) (by show wc.heap.size ≠ b; omega) (.int .i64 (spk p q (k + 1))))
        clear hc hf st hr1 HR c0 c1 c2
        obtain ⟨hc, hf⟩ := st1.cells
        repeat still_step
        refine wpStill_nil ?_
        go_wp2
        go_roundw
        case rel => exact ⟨k + 1, by omega, by go_num, HR1, st1.set 22 (.int .i64 (spk p q (k + 1)))⟩
        case measure => simp [intOf]; omega
      · obtain rfl : k = 3 := by omega
        obtain ⟨hc, hf⟩ := st.cells
        obtain ⟨n0, n1⟩ := HG.out.g
        obtain ⟨v0, v1⟩ := HG.out.spk 3 (by omega)
        have r0 := HG.out.pg.er0
        have r1 := HG.out.pg.er1
        have e3 : IntKind.i64.wrap (p.gr * ageI p q) = p.gr * ageI p q := IntWalk.i64_in _ (by omega)
        have e4 : IntKind.i64.wrap (p.er + -(-(p.gr * ageI p q) / 3600)) = p.er + -(-(p.gr * ageI p q) / 3600) := IntWalk.i64_in _ (by omega)
        have e5 : IntKind.i64.wrap (spk p q 3 + (p.er + -(-(p.gr * ageI p q) / 3600))) = spreadI p q := by rw [← HG.out.spread]; exact IntWalk.i64_in _ (by omega)
        go_wp2
        refine wp_region_still_tail 24 (by kernel_rfl) (by kernel_rfl) ?_
        simp only [List.take_succ_cons, List.take_zero, List.drop_succ_cons, List.drop_zero]
        change wpStill _ _ (World.drew _) (fun a' => wpList _ _ _ _ a' (World.drew _)) _ _
        have st1 := st.drew
        generalize wr.drew = w5 at st1 ⊢
        clear hc hf st HR
        obtain ⟨hc, hf⟩ := st1.cells
        repeat still_step
        still_call (up_q _ _ _ (by omega) (by omega) (by omega))
        repeat still_step
        refine wpStill_nil ?_
        go_wp2
        go_ret
        exact ⟨rfl, (st1.set 22 (.int .i64 (spreadI p q))).1, (st1.set 22 (.int .i64 (spreadI p q))).2⟩
end Go.Proofs.YtphdphipnbclcaaDoor

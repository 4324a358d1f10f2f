/- The program's first step over a question (question.check): it writes 0 or 2 (ErrRange) into the question's err. -/
import Derived.Test.YtphdphipnbclcaaDoorRanged
namespace Go.Proofs.YtphdphipnbclcaaDoor
open Go.RowKit

theorem rng_yes (p : Pg) (q : Qu) (age spread s0 s1 s2 h0 h1 h2 h3 h4 h5 err : Int) (b : Nat) (w : World) (hq : Blk w b (qarr p q age spread s0 s1 s2 h0 h1 h2 h3 h4 h5 err) 38) (h : q.ok) :
    Calls Tryd.prog 22 #[.pointer (some ⟨b, 0, none⟩)] w fun e w' => e = .returned (.bool true) ∧ Below w.heap.size w w' :=
  (ranged_any p q age spread s0 s1 s2 h0 h1 h2 h3 h4 h5 err b w hq).mono fun _ _ ⟨_, he, hr, hb⟩ => ⟨by
    rcases hr with ⟨rfl, _⟩ | ⟨_, hn⟩
    · exact he
    · exact absurd h hn, hb⟩
theorem rng_no (p : Pg) (q : Qu) (age spread s0 s1 s2 h0 h1 h2 h3 h4 h5 err : Int) (b : Nat) (w : World) (hq : Blk w b (qarr p q age spread s0 s1 s2 h0 h1 h2 h3 h4 h5 err) 38) (h : ¬ q.ok) :
    Calls Tryd.prog 22 #[.pointer (some ⟨b, 0, none⟩)] w fun e w' => e = .returned (.bool false) ∧ Below w.heap.size w w' :=
  (ranged_any p q age spread s0 s1 s2 h0 h1 h2 h3 h4 h5 err b w hq).mono fun _ _ ⟨_, he, hr, hb⟩ => ⟨by
    rcases hr with ⟨_, hn⟩ | ⟨rfl, _⟩
    · exact absurd hn h
    · exact he, hb⟩

/-- The question as it is asked. -/
abbrev q0 (p : Pg) (q : Qu) (err : Int) : Array Value := qarr p q 0 0 0 0 0 0 0 0 0 0 0 err

/-- What a step says: it hands the question on, the question's block holds cs, nothing below it has turned. -/
def StepR (b : Nat) (w : World) (cs : Array Value) (e : Ending) (w' : World) : Prop := e = .returned (.pointer (some ⟨b, 0, none⟩)) ∧ Blk w' b cs 38 ∧ Below b w w'

set_option maxHeartbeats 1000000 in
theorem qcheck_bad (p : Pg) (q : Qu) (b : Nat) (w : World) (hw : Wid w) (hq : Blk w b (q0 p q 0) 38) (h : ¬ POk p) :
    Calls Tryd.prog 7 #[.pointer (some ⟨b, 0, none⟩)] w (StepR b w (q0 p q 2)) := by
  have hlt := hq.lt
  have HP := Lib.hid h
  have HW := Lib.hid hw
  have HQ := Lib.hid hq
  clear h hw
  obtain ⟨hc, hf⟩ := row_cells hq
  clear hq
  go_enter Tryd.func7, Tryd.ntmps7
  go_wp2_with fail
  refine (checkP_no p _ HW.out HP.out).mono ?_
  rintro e w1 ⟨rfl, hb1⟩
  have HQ1 := Lib.hid (HQ.out.below hb1)
  have HB := Lib.hid (hb1.mono (Nat.le_of_lt hlt))
  clear hb1 hc hf
  obtain ⟨hc, hf⟩ := row_cells HQ1.out
  go_wp2
  go_ret
  exact ⟨rfl, HQ1.out.set 32 _, HB.out.setCell (p := ⟨b, 32, none⟩) (Nat.le_refl _) _⟩

set_option maxHeartbeats 1000000 in
theorem qcheck_no (p : Pg) (q : Qu) (b : Nat) (w : World) (hw : Wid w) (hq : Blk w b (q0 p q 0) 38) (h : POk p) (hk : ¬ q.ok) :
    Calls Tryd.prog 7 #[.pointer (some ⟨b, 0, none⟩)] w (StepR b w (q0 p q 2)) := by
  have hlt := hq.lt
  have HP := Lib.hid h
  have HK := Lib.hid hk
  have HW := Lib.hid hw
  have HQ := Lib.hid hq
  clear h hw hk
  obtain ⟨hc, hf⟩ := row_cells hq
  clear hq
  go_enter Tryd.func7, Tryd.ntmps7
  go_wp2_with fail
  refine (checkP_yes p _ HW.out HP.out).mono ?_
  rintro e w1 ⟨rfl, hb1⟩
  have HQ1 := Lib.hid (HQ.out.below hb1)
  have HB := Lib.hid (hb1.mono (Nat.le_of_lt hlt))
  clear hb1 hc hf
  obtain ⟨hc, hf⟩ := row_cells HQ1.out
  go_wp2_with fail
  have HQ2 := Lib.hid (show Blk (w1.setCell ⟨b, 32, none⟩ (.int .i64 0)) b (q0 p q 0) 38 from HQ1.out.set 32 _)
  have HB2 := Lib.hid (HB.out.setCell (p := ⟨b, 32, none⟩) (Nat.le_refl _) (.int .i64 0))
  refine (rng_no p q 0 0 0 0 0 0 0 0 0 0 0 0 b _ HQ2.out HK.out).mono ?_
  rintro e w2 ⟨rfl, hb2⟩
  have HQ3 := Lib.hid (HQ2.out.below hb2)
  have HB3 := Lib.hid (HB2.out.trans (hb2.mono (Nat.le_of_lt HQ2.out.lt)))
  clear hb2 hc hf
  obtain ⟨hc, hf⟩ := row_cells HQ3.out
  go_wp2
  go_ret
  exact ⟨rfl, HQ3.out.set 32 _, HB3.out.setCell (p := ⟨b, 32, none⟩) (Nat.le_refl _) _⟩

set_option maxHeartbeats 1000000 in
theorem qcheck_yes (p : Pg) (q : Qu) (b : Nat) (w : World) (hw : Wid w) (hq : Blk w b (q0 p q 0) 38) (h : POk p) (hk : q.ok) :
    Calls Tryd.prog 7 #[.pointer (some ⟨b, 0, none⟩)] w (StepR b w (q0 p q 0)) := by
  have hlt := hq.lt
  have HP := Lib.hid h
  have HK := Lib.hid hk
  have HW := Lib.hid hw
  have HQ := Lib.hid hq
  clear h hw hk
  obtain ⟨hc, hf⟩ := row_cells hq
  clear hq
  go_enter Tryd.func7, Tryd.ntmps7
  go_wp2_with fail
  refine (checkP_yes p _ HW.out HP.out).mono ?_
  rintro e w1 ⟨rfl, hb1⟩
  have HQ1 := Lib.hid (HQ.out.below hb1)
  have HB := Lib.hid (hb1.mono (Nat.le_of_lt hlt))
  clear hb1 hc hf
  obtain ⟨hc, hf⟩ := row_cells HQ1.out
  go_wp2_with fail
  have HQ2 := Lib.hid (show Blk (w1.setCell ⟨b, 32, none⟩ (.int .i64 0)) b (q0 p q 0) 38 from HQ1.out.set 32 _)
  have HB2 := Lib.hid (HB.out.setCell (p := ⟨b, 32, none⟩) (Nat.le_refl _) (.int .i64 0))
  refine (rng_yes p q 0 0 0 0 0 0 0 0 0 0 0 0 b _ HQ2.out HK.out).mono ?_
  rintro e w2 ⟨rfl, hb2⟩
  have HQ3 := Lib.hid (HQ2.out.below hb2)
  have HB3 := Lib.hid (HB2.out.trans (hb2.mono (Nat.le_of_lt HQ2.out.lt)))
  clear hb2 hc hf
  obtain ⟨hc, hf⟩ := row_cells HQ3.out
  go_wp2
  go_ret
  exact ⟨rfl, HQ3.out, HB3.out⟩

/-- A step over a question with an error hands it on as it is. -/
theorem step_err8 (p : Pg) (q : Qu) (err : Int) (b : Nat) (w : World) (hq : Blk w b (q0 p q err) 38) (he : (err != 0) = true) :
    Calls Tryd.prog 8 #[.pointer (some ⟨b, 0, none⟩)] w (StepR b w (q0 p q err)) := by
  have HQ := Lib.hid hq
  obtain ⟨hc, hf⟩ := row_cells hq
  clear hq
  go_enter Tryd.func8, Tryd.ntmps8
  go_wp2
  go_ret
  exact ⟨rfl, HQ.out, Below.refl _ _⟩
theorem step_err9 (p : Pg) (q : Qu) (age spread s0 s1 s2 h0 h1 h2 h3 h4 h5 err : Int) (b : Nat) (w : World) (hq : Blk w b (qarr p q age spread s0 s1 s2 h0 h1 h2 h3 h4 h5 err) 38) (he : (err != 0) = true) :
    Calls Tryd.prog 9 #[.pointer (some ⟨b, 0, none⟩)] w (StepR b w (qarr p q age spread s0 s1 s2 h0 h1 h2 h3 h4 h5 err)) := by
  have HQ := Lib.hid hq
  obtain ⟨hc, hf⟩ := row_cells hq
  clear hq
  go_enter Tryd.func9, Tryd.ntmps9
  go_wp2
  go_ret
  exact ⟨rfl, HQ.out, Below.refl _ _⟩
theorem step_err10 (p : Pg) (q : Qu) (age spread s0 s1 s2 h0 h1 h2 h3 h4 h5 err : Int) (b : Nat) (w : World) (hq : Blk w b (qarr p q age spread s0 s1 s2 h0 h1 h2 h3 h4 h5 err) 38) (he : (err != 0) = true) :
    Calls Tryd.prog 10 #[.pointer (some ⟨b, 0, none⟩)] w (StepR b w (qarr p q age spread s0 s1 s2 h0 h1 h2 h3 h4 h5 err)) := by
  have HQ := Lib.hid hq
  obtain ⟨hc, hf⟩ := row_cells hq
  clear hq
  go_enter Tryd.func10, Tryd.ntmps10
  go_wp2
  go_ret
  exact ⟨rfl, HQ.out, Below.refl _ _⟩
end Go.Proofs.YtphdphipnbclcaaDoor

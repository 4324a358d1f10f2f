/- The law's own walk: Predict and the reference answer alike at every page and every question, and the chapter's examples hold: true. -/
import Derived.Test.YtphdphipnbclcaaDoorPredictG
import Derived.Test.YtphdphipnbclcaaDoorAwake
namespace Go.Proofs.YtphdphipnbclcaaDoor
open Go.RowKit

/-- The question, as the law takes it. -/
def Qu.v (q : Qu) : Value := .agg #[.int .i64 q.ux, .int .i64 q.uy, .int .i64 q.uz, .int .i64 q.radius, .int .i64 q.t, .int .i64 q.late, .int .i64 q.clock, .int .i64 q.many]

/-- What both of the two functions take. -/
def ask (p : Pg) (q : Qu) : Array Value := #[p.v, arr3 q.ux q.uy q.uz, .int .i64 q.radius, .int .i64 q.t, .int .i64 q.late, .int .i64 q.clock, .int .i64 q.many]

set_option maxHeartbeats 800000 in
theorem law_of (p : Pg) (q : Qu) (w : World) (hw : Wid w) (a b c d m n E : Int)
    (hP : ∀ w, Wid w → Calls Tryd.prog 4 (ask p q) w fun e w' => e = .returned (.tuple #[hintV a b c d m n, .int .i64 E]) ∧ Below w.heap.size w w')
    (hR : ∀ w, Wid w → Calls Tryd.prog 5 (ask p q) w fun e w' => e = .returned (.tuple #[hintV a b c d m n, .int .i64 E]) ∧ Below w.heap.size w w') :
    Calls Tryd.prog 3 #[p.v, q.v] w fun e w' => e = .returned (.bool true) ∧ Below w.heap.size w w' := by
  have HW := Lib.hid hw
  have hp := hw.pos
  clear hw
  have HP := Lib.hid hP
  have HR := Lib.hid hR
  clear hP hR
  unfold Qu.v
  go_enter Tryd.func3, Tryd.ntmps3
  go_wp2_with fail
  have e1 : (w.alloc (.cells #[.int .i64 p.prn, .int .i64 p.t0, .int .i64 p.er, .int .i64 p.gr, .int .i64 p.x0, .int .i64 p.x1, .int .i64 p.x2, .int .i64 p.y0, .int .i64 p.y1, .int .i64 p.y2, .int .i64 p.z0, .int .i64 p.z1, .int .i64 p.z2] 24)).heap.size = w.heap.size + 1 := Array.size_push _
  have k0 := Blk.new w #[.int .i64 p.prn, .int .i64 p.t0, .int .i64 p.er, .int .i64 p.gr, .int .i64 p.x0, .int .i64 p.x1, .int .i64 p.x2, .int .i64 p.y0, .int .i64 p.y1, .int .i64 p.y2, .int .i64 p.z0, .int .i64 p.z1, .int .i64 p.z2] 24
  have b0 : Below w.heap.size w (w.alloc (.cells #[.int .i64 p.prn, .int .i64 p.t0, .int .i64 p.er, .int .i64 p.gr, .int .i64 p.x0, .int .i64 p.x1, .int .i64 p.x2, .int .i64 p.y0, .int .i64 p.y1, .int .i64 p.y2, .int .i64 p.z0, .int .i64 p.z1, .int .i64 p.z2] 24)) := (Below.refl _ _).alloc (Nat.le_refl _) _
  generalize w.alloc (.cells #[.int .i64 p.prn, .int .i64 p.t0, .int .i64 p.er, .int .i64 p.gr, .int .i64 p.x0, .int .i64 p.x1, .int .i64 p.x2, .int .i64 p.y0, .int .i64 p.y1, .int .i64 p.y2, .int .i64 p.z0, .int .i64 p.z1, .int .i64 p.z2] 24) = w0 at e1 k0 b0 ⊢
  have j1 := Blk.new w0 #[.int .i64 q.ux, .int .i64 q.uy, .int .i64 q.uz, .int .i64 q.radius, .int .i64 q.t, .int .i64 q.late, .int .i64 q.clock, .int .i64 q.many] 28
  have k1 := k0.alloc (.cells #[.int .i64 q.ux, .int .i64 q.uy, .int .i64 q.uz, .int .i64 q.radius, .int .i64 q.t, .int .i64 q.late, .int .i64 q.clock, .int .i64 q.many] 28)
  have b1 := b0.alloc b0.size (.cells #[.int .i64 q.ux, .int .i64 q.uy, .int .i64 q.uz, .int .i64 q.radius, .int .i64 q.t, .int .i64 q.late, .int .i64 q.clock, .int .i64 q.many] 28)
  rw [e1] at j1
  generalize w0.alloc (.cells #[.int .i64 q.ux, .int .i64 q.uy, .int .i64 q.uz, .int .i64 q.radius, .int .i64 q.t, .int .i64 q.late, .int .i64 q.clock, .int .i64 q.many] 28) = w1 at k1 j1 b1 ⊢
  clear k0 b0 e1
  refine (HP.out w1 (HW.out.below b1 hp)).mono ?_
  rintro e w2 ⟨rfl, h2⟩
  have b2 : Below w.heap.size w w2 := b1.trans (h2.mono b1.size)
  have k2 := k1.below h2
  have j2 := j1.below h2
  clear b1 k1 j1 h2
  generalize w.heap.size + 1 = g2 at j2 ⊢
  generalize w.heap.size = g at k2 ⊢
  have k3 := k2.alloc (.cells #[.int .i64 a, .int .i64 b, .int .i64 c, .int .i64 d, .int .i64 m, .int .i64 n] 30)
  have j3 := j2.alloc (.cells #[.int .i64 a, .int .i64 b, .int .i64 c, .int .i64 d, .int .i64 m, .int .i64 n] 30)
  have b3 := b2.alloc b2.size (.cells #[.int .i64 a, .int .i64 b, .int .i64 c, .int .i64 d, .int .i64 m, .int .i64 n] 30)
  have i3 := Blk.new w2 #[.int .i64 a, .int .i64 b, .int .i64 c, .int .i64 d, .int .i64 m, .int .i64 n] 30
  clear b2 k2 j2
  obtain ⟨hc, hf⟩ := row_cells k3
  obtain ⟨hc2, hf2⟩ := row_cells j3
  go_wp2_with fail
  clear hc hf hc2 hf2
  generalize w2.alloc (.cells #[.int .i64 a, .int .i64 b, .int .i64 c, .int .i64 d, .int .i64 m, .int .i64 n] 30) = w3 at k3 j3 b3 i3 ⊢
  generalize w2.heap.size = g3 at i3 ⊢
  refine (HR.out w3 (HW.out.below b3 hp)).mono ?_
  rintro e w4 ⟨rfl, h4⟩
  have b4 : Below w.heap.size w w4 := b3.trans (h4.mono b3.size)
  have i4 := i3.below h4
  clear b3 k3 j3 i3 h4
  have b5 := b4.alloc b4.size (.cells #[.int .i64 a, .int .i64 b, .int .i64 c, .int .i64 d, .int .i64 m, .int .i64 n] 30)
  have i5 := i4.alloc (.cells #[.int .i64 a, .int .i64 b, .int .i64 c, .int .i64 d, .int .i64 m, .int .i64 n] 30)
  have l5 := Blk.new w4 #[.int .i64 a, .int .i64 b, .int .i64 c, .int .i64 d, .int .i64 m, .int .i64 n] 30
  clear b4 i4
  obtain ⟨hc, hf⟩ := row_cells i5
  obtain ⟨hc2, hf2⟩ := row_cells l5
  have he := hintEq a b c d m n
  go_wp2_with fail
  refine (awake_any _ (HW.out.below b5 hp)).mono ?_
  rintro e w6 ⟨rfl, h6⟩
  have b6 : Below w.heap.size w w6 := b5.trans (h6.mono b5.size)
  clear b5 i5 l5 hc hf hc2 hf2 h6 he
  go_wp2
  exact bodyPost_ret (v := .bool true) (by simp [results, Tryd.results3, go_sem]) rfl ⟨rfl, b6⟩

theorem law_any (p : Pg) (q : Qu) (w : World) (hw : Wid w) : Calls Tryd.prog 3 #[p.v, q.v] w fun e w' => e = .returned (.bool true) ∧ Below w.heap.size w w' := by
  by_cases hp : POk p
  · by_cases hk : q.ok
    · by_cases ha : 14400 < ageI p q
      · exact law_of p q w hw _ _ _ _ _ _ _ (fun w hw => predP_old p q w hw hp hk ha) (fun w _ => predR_old p q w hp hk ha)
      · have hg : Good p q := ⟨hp, hk, by omega⟩
        obtain ⟨s0, _⟩ := hg.sum
        obtain ⟨r, hr⟩ := exists_root (sumI p q).toNat
        rw [Int.toNat_of_nonneg s0] at hr
        exact law_of p q w hw _ _ _ _ _ _ _ (fun w hw => predP_good p q r w hw hg hr) (fun w _ => predR_good p q r w hg hr)
    · exact law_of p q w hw _ _ _ _ _ _ _ (fun w hw => predP_bad p q w hw (fun h => hk h.2)) (fun w _ => predR_bad2 p q w hp hk)
  · exact law_of p q w hw _ _ _ _ _ _ _ (fun w hw => predP_bad p q w hw (fun h => hp h.1)) (fun w _ => predR_bad1 p q w hp)
#print axioms law_any
end Go.Proofs.YtphdphipnbclcaaDoor

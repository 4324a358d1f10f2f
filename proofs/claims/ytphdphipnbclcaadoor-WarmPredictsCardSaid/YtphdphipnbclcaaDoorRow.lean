/- The row: WarmPredicts, lifted from the walk. Each argument is opened into its numbers; the listed table gives the walk its condition. -/
import Derived.Test.YtphdphipnbclcaaDoorLaw
import Derived.Test.YtphdphipnbclcaaDoorTie
import Derived.ProofKit
import Derived.LaidMore
import Derived.Lay
import Derived.OpenShut
import Derived.Stop.Joined
import Derived.Lib.LaidTab
import Derived.MakeChecks
namespace Go.Proofs.YtphdphipnbclcaaDoor
open Go.ChangeShapes Go.WideShapes Go.ChangeAt Go.WideMaps Go.WideElems Go.RowKit

theorem Tryd.own : ownKnob Tryd.prog.godebug = none := by kernel_rfl
theorem Tryd.laidOut : laidOutB Tryd.prog = true := by kernel_rfl
theorem gWid : Tryd.prog.globalNamed "skyfix/almanac.widths" = some 0 := by kernel_rfl
theorem tWid : (Tryd.prog.globals[0]?).map (·.type) = some 70 := by kernel_rfl
theorem c3 : Tryd.prog.cellsOf 3 = 1 := by kernel_rfl
theorem c70 : Tryd.prog.cellsOf 70 = 13 := by kernel_rfl
theorem c24 : Tryd.prog.cellsOf 24 = 13 := by kernel_rfl
theorem c28 : Tryd.prog.cellsOf 28 = 8 := by kernel_rfl
theorem t24 : Tryd.prog.cellTypes Tryd.prog.depth 24 = some (List.replicate 13 3) := by kernel_rfl
theorem t28 : Tryd.prog.cellTypes Tryd.prog.depth 28 = some (List.replicate 8 3) := by kernel_rfl

/-- A cell of type int64 is an int64. -/
theorem cell_int {W : World} {r : Reach} {b0 : Nat} {v : Value} (h : Cell.okWide Tryd.prog W r b0 3 v) : ∃ n, v = .int .i64 n := by
  simp only [Tryd.underlying3, Cell.okWide] at h
  cases v <;> simp_all [Cell.ok]

/-- Each cell of a struct of int64 alone is an int64. -/
theorem row_int {W : World} {r : Reach} {b0 t n : Nat} {cs : Array Value} (ht : Tryd.prog.cellTypes Tryd.prog.depth t = some (List.replicate n 3)) (h : Row.okWide Tryd.prog W r b0 t cs) :
    ∀ (i : Nat) (v : Value), cs[i]? = some v → ∃ x : Int, v = .int .i64 x := by
  obtain ⟨ts, hts, _, hel⟩ := h
  intro i v hv
  rw [ht] at hts
  obtain rfl := Option.some.inj hts
  obtain ⟨u, hu, hok⟩ := hel i v hv
  have : u = 3 := by
    have hm := List.mem_of_getElem? hu
    exact List.eq_of_mem_replicate hm
  subst this
  exact cell_int hok

theorem page_of {W : World} {r : Reach} {b0 : Nat} {v : Value} (h : Value.okWide Tryd.prog W r b0 24 v) : ∃ p : Pg, v = p.v := by
  simp only [Value.okWide, Tryd.underlying24] at h
  obtain ⟨cs, rfl, hn, hr⟩ := h
  rw [c24] at hn
  have hi := row_int t24 hr
  obtain ⟨l⟩ := cs
  match l, hn, hi with
  | [a0, a1, a2, a3, a4, a5, a6, a7, a8, a9, a10, a11, a12], _, hi =>
    obtain ⟨x0, rfl⟩ := hi 0 a0 rfl
    obtain ⟨x1, rfl⟩ := hi 1 a1 rfl
    obtain ⟨x2, rfl⟩ := hi 2 a2 rfl
    obtain ⟨x3, rfl⟩ := hi 3 a3 rfl
    obtain ⟨x4, rfl⟩ := hi 4 a4 rfl
    obtain ⟨x5, rfl⟩ := hi 5 a5 rfl
    obtain ⟨x6, rfl⟩ := hi 6 a6 rfl
    obtain ⟨x7, rfl⟩ := hi 7 a7 rfl
    obtain ⟨x8, rfl⟩ := hi 8 a8 rfl
    obtain ⟨x9, rfl⟩ := hi 9 a9 rfl
    obtain ⟨x10, rfl⟩ := hi 10 a10 rfl
    obtain ⟨x11, rfl⟩ := hi 11 a11 rfl
    obtain ⟨x12, rfl⟩ := hi 12 a12 rfl
    exact ⟨{ prn := x0, t0 := x1, er := x2, gr := x3, x0 := x4, x1 := x5, x2 := x6, y0 := x7, y1 := x8, y2 := x9, z0 := x10, z1 := x11, z2 := x12 }, rfl⟩

theorem query_of {W : World} {r : Reach} {b0 : Nat} {v : Value} (h : Value.okWide Tryd.prog W r b0 28 v) : ∃ q : Qu, v = q.v := by
  simp only [Value.okWide, Tryd.underlying28] at h
  obtain ⟨cs, rfl, hn, hr⟩ := h
  rw [c28] at hn
  have hi := row_int t28 hr
  obtain ⟨l⟩ := cs
  match l, hn, hi with
  | [a0, a1, a2, a3, a4, a5, a6, a7], _, hi =>
    obtain ⟨x0, rfl⟩ := hi 0 a0 rfl
    obtain ⟨x1, rfl⟩ := hi 1 a1 rfl
    obtain ⟨x2, rfl⟩ := hi 2 a2 rfl
    obtain ⟨x3, rfl⟩ := hi 3 a3 rfl
    obtain ⟨x4, rfl⟩ := hi 4 a4 rfl
    obtain ⟨x5, rfl⟩ := hi 5 a5 rfl
    obtain ⟨x6, rfl⟩ := hi 6 a6 rfl
    obtain ⟨x7, rfl⟩ := hi 7 a7 rfl
    exact ⟨{ ux := x0, uy := x1, uz := x2, radius := x3, t := x4, late := x5, clock := x6, many := x7 }, rfl⟩

/-- What the row's condition gives the walk. -/
theorem wid_of {W : World} (h : laidMetH Tryd.prog Rows.warmPredictsRow.laid W) : Wid W := by
  rw [MakeChecks.laidMetH_plain _ _ _ (by kernel_rfl)] at h
  have ht : Lib.TabIs Tryd.prog W "skyfix/almanac.widths" .i64 [6, 20, 16, 20, 20, 14, 12, 20, 14, 12, 20, 14, 12] :=
    Lib.tabIs_of_head (rest := []) gWid tWid Tryd.underlying70 Tryd.underlying3 c3 c70 h
  intro k hk
  have := ht.cell gWid k hk
  rw [this]
  rcases (show k = 0 ∨ k = 1 ∨ k = 2 ∨ k = 3 ∨ k = 4 ∨ k = 5 ∨ k = 6 ∨ k = 7 ∨ k = 8 ∨ k = 9 ∨ k = 10 ∨ k = 11 ∨ k = 12 by omega) with rfl | rfl | rfl | rfl | rfl | rfl | rfl | rfl | rfl | rfl | rfl | rfl | rfl <;> rfl

set_option maxRecDepth 100000 in
theorem lifted (os : Os) (started : os.Started) (H : Type) (enc : TypeId × Value → H) :
    ReturnsInHanded {} Tryd.checked os 3 .any (fun w args => (Rows.warmPredictsSpec.pre enc Tryd.prog Tryd.f3 [] false w args ∧ laidMetH Tryd.prog Rows.warmPredictsRow.laid w) ∧ sizedMet enc Tryd.prog Tryd.f3 (OpenSpec.ofChange Rows.warmPredictsSpec) false w args)
      (Rows.warmPredictsSpec.post enc Tryd.prog Tryd.f3 false true false false) := by
  refine returnsInHanded_of_change_and (C := Tryd.checked) (X := fun w _ => laidMetH Tryd.prog Rows.warmPredictsRow.laid w) (fun _ _ _ hh h => h.of_heap hh) Tryd.own started (by kernel_rfl) Tryd.func3
    (ChangeSpec.witness_shaped (enc := enc) (C := Tryd.checked) (os := os) (X := fun w _ => laidMetH Tryd.prog Rows.warmPredictsRow.laid w) false (World.laidAll Tryd.prog os Rows.warmPredictsRow.laid) #[Pg.v pl, Qu.v (qa 0)] 8 (World.laidAll_os _ _ _)
      (World.shaped_of_ZipB (by kernel_rfl) (by kernel_rfl)) (by kernel_rfl) (by kernel_rfl) (by kernel_rfl)
      (by rw [MakeChecks.laidMetH_plain _ _ _ (by kernel_rfl)]; exact laidMet_laidAll _ (by kernel_rfl) (by kernel_rfl))) ?_
  intro W base args ds gs before hval0 hW _ _ hL _
  have hval : ∀ (j : Nat) t v, Tryd.f3.params[j]? = some t → args[j]? = some v → Value.okWide Tryd.prog W .any base t v := hval0
  have hW' := hW
  obtain ⟨p, q, hA0, hV, rfl, _, _⟩ := hW
  have hA : DataW.TrodAll enc Tryd.prog W 0 (fun _ => true) true Tryd.f3.params.toList args.toList ds p := hA0
  rw [Tryd.params3] at hA hval
  obtain ⟨v0, v1, d0, d1, p0, p1, rfl, rfl, rfl, h0, h1⟩ := trodAll_two hA
  obtain ⟨rfl, rfl⟩ := trodVars_none hV
  obtain ⟨pg, rfl⟩ := page_of (hval 0 24 v0 rfl rfl)
  obtain ⟨qu, rfl⟩ := query_of (hval 1 28 v1 rfl rfl)
  simp only [List.append_nil] at hW'
  have hlt : ∀ x ∈ p0 ++ p1, x.block < W.heap.size := fun x hx => by simpa using hW'.lt x hx
  refine (law_any pg qu W (wid_of hL)).mono fun e W' ⟨he, hb⟩ => ?_
  subst he
  exact ⟨_, rfl, _, _, _, [], p0 ++ p1, [], hW', trodAll_mk1 (shut_bool Tryd.underlying4 _),
    trodAll_mk2 (Below.trod Tryd.laidOut (by kernel_rfl) (of_decide_eq_true (by kernel_rfl)) h0 hb (fun x hx => hlt x (List.mem_append_left _ hx)))
      (Below.trod Tryd.laidOut (by kernel_rfl) (of_decide_eq_true (by kernel_rfl)) h1 hb (fun x hx => hlt x (List.mem_append_right _ hx))), rfl, hb.frame _, fun h => by cases h⟩

theorem warmPredicts_holds : Rows.WarmPredictsSaid :=
  OpenClaim.holds_of_wide 3 Tryd.f3 rfl rfl rfl rfl rfl rfl rfl ⟨rfl, rfl, rfl, rfl, rfl⟩ rfl rfl rfl rfl rfl (by kernel_rfl) Tryd.func3 (by kernel_rfl)
    (of_decide_eq_true (by kernel_rfl)) (by unfold Func.isWrapper; first | (rw [if_pos (by decide +kernel)]; kernel_rfl) | (rw [if_neg (by decide +kernel)]; exact ⟨rfl, rfl⟩))
    (fun os started H enc _ => lifted os started H enc)
#print axioms warmPredicts_holds
end Go.Proofs.YtphdphipnbclcaaDoor

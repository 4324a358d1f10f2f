/- For every page and every question, Predict of the package warm and the reference written from the document give the same hint and the same error, and the examples in the function awake hold: skyfixlaw40.WarmPredicts returns true and leaves both arguments as they were. Condition: when the call begins, the table skyfix/almanac.widths reads as the program's text lays it; the card ties it to the text of the pruned copy, and says nothing of packages that were left out. -/
import Derived.Test.YtphdphipnbclcaaDoorRow
import Derived.Test.YtphdphipnbclcaaDoorCards
import Derived.SevenTiedAt
namespace Go.Proofs.YtphdphipnbclcaaDoor
open Go

theorem warmPredicts_card : Rows.WarmPredictsCardSaid :=
  Claim7.holds_tied_plain_at .later [] [.data] true (true, "3ffaf33e3b904b7427f63082830af61efa18172e20d209678bbb3f2a28354865") false
    warmPredicts_holds (fun _ h => by cases h) (by kernel_rfl) (fun _ h => by cases h) warmPredicts_row_tie rfl ⟨rfl, rfl⟩ (by kernel_rfl) rfl
    (fun f fn hf hfn => by
      obtain rfl : f = 3 := Option.some.inj ((show Tryd.prog.funcNamed "skyfix/skyfixlaw40.WarmPredicts" = some 3 by kernel_rfl).symm.trans hf) |>.symm
      obtain rfl : fn = Tryd.f3 := (Option.some.inj (Tryd.func3.symm.trans hfn)).symm
      exact ⟨by kernel_rfl, fun j t ht => by
        rw [Tryd.params3] at ht
        have hm : t ∈ [24, 28] := by simpa using Array.mem_of_getElem? ht
        have hall : ([24, 28].all fun u => !Tryd.prog.wantsStandIn u) = true := by kernel_rfl
        exact (show Tryd.prog.wantsStandIn t = false by simpa using List.all_eq_true.1 hall t hm)⟩)
    (by kernel_rfl)
#print axioms warmPredicts_card
end Go.Proofs.YtphdphipnbclcaaDoor

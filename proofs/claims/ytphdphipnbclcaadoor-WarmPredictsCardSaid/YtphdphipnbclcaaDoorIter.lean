/- The iterator over the numbers of a page (almanac.numbers and its closure): it hands the loop's body the places 0 to 12, each with the address of that number. -/
import Derived.RangeFuncNested
import Derived.RangeFuncBound
import Derived.RangeFuncCalls
import Derived.RangeFuncLeaves
import Derived.Shelf.Abstract
import Derived.Shelf.RegionOpen
import Derived.WalkKit
import Derived.OwnWalkIn
import Derived.TacticsInMore
import Derived.LoopNIn
import Derived.LoopIn
import Derived.StillTailTactics
import Derived.Test.YtphdphipnbclcaaDoorFields
namespace Go.Proofs.YtphdphipnbclcaaDoor
open Go.RowKit Go.Shelf

attribute [local go_sem] Oper.semAt_some

/-- The address of number k of the page that lies in block b. -/
def pnum (b k : Nat) : Value := .pointer (some ⟨b, k, none⟩)
def pnums (b : Nat) : Nat → List Value
  | 0 => []
  | k + 1 => pnums b k ++ [pnum b k]

theorem owns_full {w : World} {g base : Nat} {cs : Array Value} {e : TypeId} {xs : List Value} (h : Blk w g cs e) (hb : base ≤ g) (n : Nat) (hn : cs.size = n) (hm : n ≤ maxLen) (hx : cs.toList = xs) :
    w.ownsRow base e 1 (.slice (some ⟨g, 0, none⟩) n n) n xs := by
  subst hx
  refine ⟨by simp [hn], .inr ⟨g, n, cs, rfl, hb, h, Nat.le_refl _, hm, by omega, ?_⟩⟩
  rw [List.take_of_length_le (by simp [hn])]
theorem Blk.not_row {w : World} {g : Nat} {cs : Array Value} {t e : TypeId} (h : Blk w g cs t) (hte : t ≠ e) {base size n : Nat} {v : Value} {xs : List Value} (hr : w.ownsRow base e size v n xs) : some g ≠ v.ownBlock := by
  rcases hr.2 with ⟨rfl, _⟩ | ⟨g', cap, cur, rfl, _, hgb, _⟩
  · simp [Value.ownBlock]
  · intro e'
    obtain rfl : g = g' := by simpa [Value.ownBlock] using e'
    have := (show w.heap[g]? = _ from h).symm.trans hgb
    simp at this
    exact hte this.2
theorem Blk.grown {w w' : World} {g : Nat} {cs : Array Value} {t : TypeId} {row : Option Nat} (h : Blk w g cs t) (hg : w.grownBy w' row) (hne : some g ≠ row) : Blk w' g cs t := (hg.block g h.lt hne).trans h

theorem Tryd.info61 : (Tryd.prog.info? 61).map (fun i => (i.zero, i.size, i.bytes)) = some (some (.pointer none), 1, 8) := by kernel_rfl

theorem owns_open {w : World} {base : Nat} {e : TypeId} {v : Value} {n : Nat} {xs : List Value} (h : w.ownsRow base e 1 v n xs) (hn : 0 < n) :
    ∃ g cap cur, v = .slice (some ⟨g, 0, none⟩) n cap ∧ Blk w g cur e ∧ cur.toList.take n = xs := by
  rcases h.2 with ⟨_, h0⟩ | ⟨g, cap, cur, rfl, _, hg, _, _, _, hx⟩
  · omega
  · exact ⟨g, cap, cur, rfl, hg, by simpa using hx⟩
theorem pnums_len (b n : Nat) : (pnums b n).length = n := by
  induction n with
  | zero => rfl
  | succ n ih => simp [pnums, ih]
theorem pnums_get (b n j : Nat) (h : j < n) : (pnums b n)[j]? = some (pnum b j) := by
  induction n with
  | zero => omega
  | succ n ih =>
    by_cases hj : j < n
    · rw [pnums, List.getElem?_append_left (by rw [pnums_len]; exact hj), ih hj]
    · obtain rfl : j = n := by omega
      rw [pnums, List.getElem?_append_right (by rw [pnums_len]; omega), pnums_len, Nat.sub_self]
      rfl
theorem pnums_at {cur : Array Value} {b n j : Nat} (h : cur.toList.take n = pnums b n) (hj : j < n) : cur[j]? = some (pnum b j) := by
  rw [← pnums_get b n j hj, ← h, List.getElem?_take, if_pos hj]
  simp

/-- What a round hands the loop's body: the place and the number's address. -/
def encP (b : Nat) (x : Fin 13) : Array Value := #[.int .i64 (x.1 : Int), .pointer (some ⟨b, x.1, none⟩)]
/-- Every block of cells lies as it lay. -/
def KeepC (W W' : World) : Prop := ∀ (k : Nat) (cs : Array Value) (t : TypeId) (fr : Nat × Nat), W.heap[k]? = some (.cells cs t fr) → W'.heap[k]? = some (.cells cs t fr)
theorem KeepC.blk {W W' : World} (h : KeepC W W') {g : Nat} {cs : Array Value} {t : TypeId} (hb : Blk W g cs t) : Blk W' g cs t := h g cs t _ hb
theorem KeepC.refl (W : World) : KeepC W W := fun _ _ _ _ h => h
theorem KeepC.trans {A B C : World} (h : KeepC A B) (k : KeepC B C) : KeepC A C := fun i cs t fr hh => k i cs t fr (h i cs t fr hh)
theorem KeepC.of_below {W W' : World} (h : Below W.heap.size W W') : KeepC W W' := fun k _ _ _ hk => (h.block k (Array.getElem?_eq_some_iff.1 hk).1).trans hk

/-- The first j places. -/
def finTo (j : Nat) : List (Fin 13) := (List.finRange 13).take j
theorem finTo_len {j : Nat} (h : j ≤ 13) : (finTo j).length = j := by simp [finTo]; omega
theorem finTo_succ {j : Nat} (h : j < 13) : finTo (j + 1) = finTo j ++ [⟨j, h⟩] := by
  unfold finTo
  rw [List.take_succ_eq_append_getElem (by simpa using h)]
  simp
theorem finTo_all : ∀ k : Fin 13, k ∈ finTo 13 := by decide

/-- At the fence that asks nothing a plain walk serves. -/
theorem wpIn_ofw {F : Fence} (h : F = Fence.wide) {n : Nat} {P : Program} {c : Code} {Q : Exit → Act → World → Prop} {a : Act} {w : World} (hw : c.wp P Q a w) : c.wpIn F n P Q a w := by
  subst h
  exact wpIn_wide.2 hw

set_option maxRecDepth 100000 in
set_option maxHeartbeats 1000000 in
theorem iter_in (F : Fence) (HF : Hid (F = Fence.wide)) (n : Nat) (h38 : F.fn 38) (hro : F.round = none) (hn : 1 ≤ n) (l Bs b : Nat)
    (J Jx : List (Fin 13) → World → Prop) (W : World)
    (hJ : AbidesFrom W.heap.size J)
    (hY : ∀ pre (x : Fin 13) W, J pre W → pre.length < 13 → YieldAt F (n - 1) Tryd.prog l (encP b x) W fun e W' =>
      (e = .returned (.bool true) ∧ J (pre ++ [x]) W' ∧ KeepC W W') ∨ (e = .returned (.bool false) ∧ Jx (pre ++ [x]) W'))
    (hc : W.cell? ⟨Bs, 0, none⟩ = some (.pointer (some ⟨b, 0, none⟩))) (h0 : J [] W) :
    CallsIn F n Tryd.prog 38 #[.func (.yield l) #[] #[], .pointer (some ⟨Bs, 0, none⟩)] W fun e W' => (∃ v, e = .returned v) ∧
      ((∃ xs, (∀ k : Fin 13, k ∈ xs) ∧ J xs W') ∨ (∃ pre, Jx pre W')) := by
  obtain ⟨i0, hi, hz0, hz1, hz2⟩ := info_parts Tryd.info61
  have hlt0 : Bs < W.heap.size := block_lt_of_cell hc
  refine callsIn_of_wp Tryd.func38 rfl h38 ?_ hro
  simp only [Tryd.ntmps38, List.size_toArray, List.length_cons, List.length_nil, Nat.reduceAdd, Nat.reduceSub, Array.replicate_succ, Array.replicate_zero, List.push_toArray, List.append_toArray, List.nil_append, List.cons_append]
  gi_wp2
  refine wpIn_ofw HF.out ?_
  go_still_tail 12, (by kernel_rfl)
  go_wp2
  gi_wp2
  refine wpIn_ofw HF.out ?_
  go_region
  all_goals gi_wp2
  have kB : Blk (((W.alloc (.cells #[pnum b 0, pnum b 1, pnum b 2, pnum b 3] 61)).alloc (.cells #[pnum b 4, pnum b 7, pnum b 10] 68)).drew.drew) (W.heap.size + 1) #[pnum b 4, pnum b 7, pnum b 10] 68 := by
    have := Blk.new (W.alloc (.cells #[pnum b 0, pnum b 1, pnum b 2, pnum b 3] 61)) #[pnum b 4, pnum b 7, pnum b 10] 68
    rw [World.size_alloc] at this
    exact this
  have hO : (((W.alloc (.cells #[pnum b 0, pnum b 1, pnum b 2, pnum b 3] 61)).alloc (.cells #[pnum b 4, pnum b 7, pnum b 10] 68)).drew.drew).ownsRow W.heap.size 61 1 (.slice (some ⟨W.heap.size, 0, none⟩) 4 4) 4 (pnums b 4) :=
    owns_full ((Blk.new W #[pnum b 0, pnum b 1, pnum b 2, pnum b 3] 61).alloc (.cells #[pnum b 4, pnum b 7, pnum b 10] 68)) (Nat.le_refl _) 4 rfl (by unfold maxLen; omega) rfl
  have hBl : Below W.heap.size W (((W.alloc (.cells #[pnum b 0, pnum b 1, pnum b 2, pnum b 3] 61)).alloc (.cells #[pnum b 4, pnum b 7, pnum b 10] 68)).drew.drew) :=
    ((((Below.refl _ _).alloc (Nat.le_refl _) _).alloc (by simp) _).drew).drew
  gi_loopw [3, 33] (fun v i wr => ∃ k : Nat, k ≤ 3 ∧ i = .int .i64 k ∧ wr.ownsRow W.heap.size 61 1 v (4 + 3 * k) (pnums b (4 + 3 * k)) ∧ Blk wr (W.heap.size + 1) #[pnum b 4, pnum b 7, pnum b 10] 68 ∧ Below W.heap.size W wr) (fun _ i _ => 3 - (intOf i).toNat)
  case atStart => exact ⟨0, by omega, rfl, hO, kB, hBl⟩
  case round =>
    clear kB hO hBl
    obtain ⟨k, hk, rfl, hown, kB, hbl⟩ := hrel
    by_cases hlt : k < 3
    · have hck : wr.cell? ⟨W.heap.size + 1, k, none⟩ = some (.pointer (some ⟨b, 4 + 3 * k, none⟩)) := by
        rw [kB.cell]
        rcases (show k = 0 ∨ k = 1 ∨ k = 2 by omega) with rfl | rfl | rfl <;> rfl
      have dk : decide ((k : Int) < 3) = true := decide_eq_true (by omega)
      have KB := Lib.hid kB
      have HB := Lib.hid hbl
      have hsz := hbl.size
      clear kB hbl
      gi_wp2_with fail
      gi_loopw [3, 37] (fun v i wq => ∃ j : Nat, j ≤ 3 ∧ i = .int .i64 j ∧ wq.ownsRow W.heap.size 61 1 v (4 + 3 * k + j) (pnums b (4 + 3 * k + j)) ∧ Hid (Blk wq (W.heap.size + 1) #[pnum b 4, pnum b 7, pnum b 10] 68) ∧ Hid (Below W.heap.size W wq)) (fun _ i _ => 3 - (intOf i).toNat)
      case atStart => exact ⟨0, by omega, rfl, hown, KB, HB⟩
      case round =>
        clear hown KB HB hck hsz
        obtain ⟨j, hj, rfl, hown, KB, HB⟩ := hrel
        by_cases hlj : j < 3
        · have hsz := HB.out.size
          gi_wp2_with (gi_at_builtin; refine wpListIn_append_own _ rfl _ _ 72 rfl W.heap.size 61 i0 _ 1 8 Tryd.underlying72 hi hz0 hz1 hz2 rfl (by decide) _ _ _ rfl (hown.alloc _) ⟨_, 0, none⟩ 1 1 [pnum b (4 + 3 * k + j)] rfl rfl (new_cells _ _ _) (by simp [pnum, Value.oneCell']) (by unfold maxLen; omega) (by omega) (by simp; omega) ?_; intro v' w2 hown2 hgrow _)
          go_roundw
          case rel => exact ⟨j + 1, by omega, by go_num, hown2, Lib.hid ((KB.out.alloc _).grown hgrow (KB.out.not_row (by decide) hown)), Lib.hid ((HB.out.alloc hsz _).grown hgrow (by simp; omega) (fun q e => (hown.lt q e).1))⟩
          case measure => simp [intOf]; omega
        · obtain rfl : j = 3 := by omega
          gi_wp2
          go_roundw
          case rel => exact ⟨k + 1, by omega, by go_num, by rw [show 4 + 3 * (k + 1) = 4 + 3 * k + 3 by omega]; exact hown, KB.out, HB.out⟩
          case measure => simp [intOf]; omega
    · have dk : decide ((k : Int) < 3) = false := decide_eq_false (by omega)
      have hown13 : wr.ownsRow W.heap.size 61 1 u3 13 (pnums b 13) := by
        have e : k = 3 := by omega
        rw [e] at hown
        exact hown
      clear kB hown
      obtain ⟨g, cap, cur, rfl, hG, hx⟩ := owns_open hown13 (by omega)
      clear hown13
      have hcs : ∀ j, j < 13 → wr.cell? ⟨g, j, none⟩ = some (.pointer (some ⟨b, j, none⟩)) := fun j hj => by
        rw [hG.cell]; exact pnums_at hx hj
      have hJ1 : J [] wr := hJ [] W wr none h0 ⟨hbl.os, hbl.tape, hbl.output, hbl.size, fun q hq _ => hbl.block q hq⟩ (fun r e => by cases e)
      have HG := Lib.hid hG
      have HCS := Lib.hid hcs
      clear hbl hx hG hcs h0 hc
      gi_wp2_with fail
      gi_loopw [51] (fun i wq => ∃ j : Nat, j ≤ 13 ∧ i = .int .i64 j ∧ Hid (J (finTo j) wq) ∧ Hid (Blk wq g cur 61)) (fun i _ => 13 - (intOf i).toNat)
      case atStart => exact ⟨0, by omega, rfl, hJ1, HG⟩
      case round =>
        obtain ⟨j, hj, rfl, HJ, HK⟩ := hrel
        by_cases hlj : j < 13
        · have hcj : wr.cell? ⟨g, j, none⟩ = some (.pointer (some ⟨b, j, none⟩)) := by
            rw [HK.out.cell, ← HG.out.cell]; exact HCS.out j hlj
          obtain ⟨fn, tmps, assign, body, hy, hR⟩ := hY _ ⟨j, hlj⟩ wr HJ.out (by rw [finTo_len (by omega)]; exact hlj)
          dsimp only [encP] at hy
          gi_wp2
          refine hR.mono ?_
          rintro e W3 (⟨rfl, hJ3, hk3⟩ | ⟨rfl, hJx3⟩)
          · gi_wp2
            go_roundw
            case rel => exact ⟨j + 1, by omega, by go_num, Lib.hid (by rw [finTo_succ hlj]; exact hJ3), Lib.hid (hk3.blk HK.out)⟩
            case measure => simp [intOf]; omega
          · gi_wp2
            refine bodyPost_ret (results_none rfl _ _ _) rfl ?_
            exact ⟨⟨_, rfl⟩, .inr ⟨_, hJx3⟩⟩
        · obtain rfl : j = 13 := by omega
          gi_wp2
          go_end0
          exact ⟨⟨_, rfl⟩, .inl ⟨_, finTo_all, HJ.out⟩⟩
end Go.Proofs.YtphdphipnbclcaaDoor

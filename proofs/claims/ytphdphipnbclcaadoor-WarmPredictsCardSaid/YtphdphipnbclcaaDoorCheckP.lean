/- The program's check of a page (almanac.Check, a range over an iterator) returns 0 for a page whose numbers are in range, and 2 (ErrRange) for every other page, wherever the table of widths reads as the program lays it. -/
import Derived.Test.YtphdphipnbclcaaDoorIter
import Derived.Test.YtphdphipnbclcaaDoorRefCheck
namespace Go.Proofs.YtphdphipnbclcaaDoor
open Go.RowKit Go.Shelf

attribute [local go_sem] Oper.semAt_some

/-- The numbers of a page, by their place. -/
def Pg.nums (p : Pg) : List Int := [p.prn, p.t0, p.er, p.gr, p.x0, p.x1, p.x2, p.y0, p.y1, p.y2, p.z0, p.z1, p.z2]
def Pg.num (p : Pg) (k : Nat) : Int := p.nums.getD k 0
def Pg.inR (p : Pg) (k : Nat) : Prop := loK k ≤ p.num k ∧ p.num k ≤ hiK k

/-- What the check answers: 0 where the page is in range, else 2. -/
def ChkR (p : Pg) (r : Int) : Prop := (r = 0 ∧ POk p) ∨ (r = 2 ∧ ¬ POk p)

theorem inR_of_ok {p : Pg} (h : POk p) (k : Fin 13) : p.inR k.1 := by
  obtain ⟨a0, a1, a2, a3, a4, a5, a6, a7, x0, y0, z0, x1, y1, z1, x2, y2, z2⟩ := h
  obtain ⟨k, hk⟩ := k
  rcases (show k = 0 ∨ k = 1 ∨ k = 2 ∨ k = 3 ∨ k = 4 ∨ k = 5 ∨ k = 6 ∨ k = 7 ∨ k = 8 ∨ k = 9 ∨ k = 10 ∨ k = 11 ∨ k = 12 by omega) with rfl | rfl | rfl | rfl | rfl | rfl | rfl | rfl | rfl | rfl | rfl | rfl | rfl <;>
    simp [Pg.inR, Pg.num, Pg.nums, loK, hiK] <;> omega

theorem ok_of_inR {p : Pg} (h : ∀ k : Fin 13, p.inR k.1) (h1 : 1 ≤ p.prn) (h2 : p.t0 < 604800) : POk p := by
  have k0 : p.inR 0 := h ⟨0, by omega⟩
  have k1 : p.inR 1 := h ⟨1, by omega⟩
  have k2 : p.inR 2 := h ⟨2, by omega⟩
  have k3 : p.inR 3 := h ⟨3, by omega⟩
  have k4 : p.inR 4 := h ⟨4, by omega⟩
  have k5 : p.inR 5 := h ⟨5, by omega⟩
  have k6 : p.inR 6 := h ⟨6, by omega⟩
  have k7 : p.inR 7 := h ⟨7, by omega⟩
  have k8 : p.inR 8 := h ⟨8, by omega⟩
  have k9 : p.inR 9 := h ⟨9, by omega⟩
  have k10 : p.inR 10 := h ⟨10, by omega⟩
  have k11 : p.inR 11 := h ⟨11, by omega⟩
  have k12 : p.inR 12 := h ⟨12, by omega⟩
  simp [Pg.inR, Pg.num, Pg.nums, loK, hiK] at k0 k1 k2 k3 k4 k5 k6 k7 k8 k9 k10 k11 k12
  exact ⟨by omega, by omega, by omega, by omega, by omega, by omega, by omega, by omega, by omega, by omega, by omega, by omega, by omega, by omega, by omega, by omega, by omega⟩

set_option maxHeartbeats 400000 in
theorem numbers_in (F : Fence) (n : Nat) (h33 : F.fn 33) (hro : F.round = none) (a : Option Addr) (w : World) :
    CallsIn F n Tryd.prog 33 #[.pointer a] w fun e w' => e = .returned (.func (.func 38) #[] #[.pointer (some ⟨w.heap.size, 0, none⟩)]) ∧ w' = w.alloc (.cells #[.pointer a] 60) := by
  refine callsIn_of_wp Tryd.func33 rfl h33 ?_ hro
  simp only [Tryd.ntmps33, List.size_toArray, List.length_cons, List.length_nil, Nat.reduceAdd, Nat.reduceSub, Array.replicate_succ, Array.replicate_zero, List.push_toArray, List.append_toArray, List.nil_append, List.cons_append]
  gi_wp2
  go_ret
  exact ⟨rfl, rfl⟩

theorem Blk.own {g : Nat} {cs : Array Value} {t : TypeId} {W W' : World} {row : Option Nat} (h : Blk W g cs t) (hg : W.grownBy W' row) (hr : ∀ r, row = some r → ∃ o : Obj, W.heap[r]? = some o ∧ o.isCells = false) : Blk W' g cs t := by
  refine h.grown hg (fun e => ?_)
  obtain ⟨o, ho, hc⟩ := hr g e.symm
  rw [show W.heap[g]? = _ from h] at ho
  cases ho
  cases hc

theorem owns_open5 {w : World} {base : Nat} {e : TypeId} {v : Value} {n : Nat} {xs : List Value} (h : w.ownsRow base e 5 v n xs) (hn : 0 < n) :
    ∃ g cap cur, v = .slice (some ⟨g, 0, none⟩) n cap ∧ Blk w g cur e ∧ cur.toList.take (n * 5) = xs := by
  rcases h.2 with ⟨_, h0⟩ | ⟨g, cap, cur, rfl, _, hg, _, _, _, hx⟩
  · omega
  · exact ⟨g, cap, cur, rfl, hg, hx⟩

theorem fcells_at (k : Nat) (hk : k < 13) (j : Nat) (hj : j < 5) : (fcells 13)[k * 5 + j]? = (fcell k)[j]? := by
  rcases (show k = 0 ∨ k = 1 ∨ k = 2 ∨ k = 3 ∨ k = 4 ∨ k = 5 ∨ k = 6 ∨ k = 7 ∨ k = 8 ∨ k = 9 ∨ k = 10 ∨ k = 11 ∨ k = 12 by omega) with rfl | rfl | rfl | rfl | rfl | rfl | rfl | rfl | rfl | rfl | rfl | rfl | rfl <;>
    rcases (show j = 0 ∨ j = 1 ∨ j = 2 ∨ j = 3 ∨ j = 4 by omega) with rfl | rfl | rfl | rfl | rfl <;> rfl
theorem cur_at {cur : Array Value} (h : cur.toList.take (13 * 5) = fcells 13) (k : Nat) (hk : k < 13) (j : Nat) (hj : j < 5) : cur[k * 5 + j]? = (fcell k)[j]? := by
  rw [← fcells_at k hk j hj, ← h, List.getElem?_take, if_pos (by omega)]
  simp
theorem num_at (p : Pg) (k : Nat) (hk : k < 13) : (#[.int .i64 p.prn, .int .i64 p.t0, .int .i64 p.er, .int .i64 p.gr, .int .i64 p.x0, .int .i64 p.x1, .int .i64 p.x2, .int .i64 p.y0, .int .i64 p.y1, .int .i64 p.y2, .int .i64 p.z0, .int .i64 p.z1, .int .i64 p.z2] : Array Value)[k]? = some (.int .i64 (p.num k)) := by
  rcases (show k = 0 ∨ k = 1 ∨ k = 2 ∨ k = 3 ∨ k = 4 ∨ k = 5 ∨ k = 6 ∨ k = 7 ∨ k = 8 ∨ k = 9 ∨ k = 10 ∨ k = 11 ∨ k = 12 by omega) with rfl | rfl | rfl | rfl | rfl | rfl | rfl | rfl | rfl | rfl | rfl | rfl | rfl <;> rfl

theorem iter_stops (F : Fence) (HF : Hid (F = Fence.wide)) (n : Nat) (h38 : F.fn 38) (hro : F.round = none) (hn : 1 ≤ n) (Bs b : Nat) (w : World) (hBs : Bs < w.heap.size) (hc : w.cell? ⟨Bs, 0, none⟩ = some (.pointer (some ⟨b, 0, none⟩))) :
    SeqStopsK F n Tryd.prog 38 #[.pointer (some ⟨Bs, 0, none⟩)] (encP b) KeepC (fun xs => ∀ k : Fin 13, k ∈ xs) (fun _ => True) 13 w := fun l J Jx W hW hJ _ hY h0 =>
  (iter_in F HF n h38 hro hn l Bs b J Jx W hJ hY ((hW.cell (p := ⟨Bs, 0, none⟩) hBs).trans hc) h0).mono fun e W' ⟨he, h⟩ => ⟨he, by
    rcases h with ⟨xs, h1, h2⟩ | ⟨pre, h⟩
    · exact .inl ⟨xs, h1, h2⟩
    · exact .inr ⟨pre, trivial, h⟩⟩

theorem keepC_b {w : World} (W : World) (l : Nat) (o o' : Obj) (_ : w.heap.size ≤ l) (h : W.heap[l]? = some o) (hc : o.isCells = false) (_ : o.isWalk = false) : KeepC W (W.putObj l o') := by
  intro k cs t fr hk
  by_cases e : k = l
  · subst e
    rw [hk] at h
    cases h
    cases hc
  · rw [World.putObj_heap_other e]
    exact hk

theorem keepsOthers_below {W W' : World} (h : Below W.heap.size W W') : KeepsOthers W W' := ⟨h.size, fun k _ hk _ => (h.block k (Array.getElem?_eq_some_iff.1 hk).1).trans hk⟩

theorem calls_of_in {F : Fence} (h : F = Fence.wide) {n : Nat} {P : Program} {f : FuncId} {args : Array Value} {w : World} {R : Ending → World → Prop} (hc : CallsIn F n P f args w R) : Calls P f args w R := by
  subst h
  exact callsIn_wide.1 hc
theorem in_of_calls {F : Fence} (h : F = Fence.wide) {n : Nat} {P : Program} {f : FuncId} {args : Array Value} {w : World} {R : Ending → World → Prop} (hc : Calls P f args w R) : CallsIn F n P f args w R := by
  subst h
  exact callsIn_wide.2 hc

set_option maxRecDepth 100000 in
set_option maxHeartbeats 1000000 in
theorem checkP_any (p : Pg) (w : World) (hw : Wid w) :
    Calls Tryd.prog 21 #[p.v] w fun e w' => ∃ r, e = .returned (.int .i64 r) ∧ ChkR p r ∧ Below w.heap.size w w' := by
  have HW := Lib.hid hw
  clear hw
  obtain ⟨F, HF⟩ : ∃ F : Fence, Hid (F = Fence.wide) := ⟨_, rfl⟩
  obtain ⟨n, Hn⟩ : ∃ n : Nat, 5 ≤ n := ⟨5, Nat.le_refl _⟩
  have hro : F.round = none := by rw [HF.out]; rfl
  have hfn : ∀ f, F.fn f := fun f => by rw [HF.out]; trivial
  have h21 := hfn 21
  have h33 := hfn 33
  have h38 := hfn 38
  have h1 : 1 ≤ n := by omega
  refine calls_of_in HF.out (n := n) ?_
  refine callsIn_of_wp_marks Tryd.func21 rfl h21 ?_ hro
  simp only [Tryd.ntmps21, List.size_toArray, List.length_cons, List.length_nil, Nat.reduceAdd, Nat.reduceSub, Array.replicate_succ, Array.replicate_zero, List.push_toArray, List.append_toArray, List.nil_append, List.cons_append]
  gi_wp2_with fail
  have hB0 : Below w.heap.size w ((w.alloc (.cells #[.int .i64 p.prn, .int .i64 p.t0, .int .i64 p.er, .int .i64 p.gr, .int .i64 p.x0, .int .i64 p.x1, .int .i64 p.x2, .int .i64 p.y0, .int .i64 p.y1, .int .i64 p.y2, .int .i64 p.z0, .int .i64 p.z1, .int .i64 p.z2] 24)).alloc (.cells #[.int .i64 0] 31)) :=
    ((Below.refl _ _).alloc (Nat.le_refl _) _).alloc (by simp) _
  refine (in_of_calls HF.out (fields_any _ (HW.out.below hB0 HW.out.pos))).mono ?_
  rintro e w1 ⟨v, rfl, hown, hb1⟩
  have kP : Blk w1 w.heap.size #[.int .i64 p.prn, .int .i64 p.t0, .int .i64 p.er, .int .i64 p.gr, .int .i64 p.x0, .int .i64 p.x1, .int .i64 p.x2, .int .i64 p.y0, .int .i64 p.y1, .int .i64 p.y2, .int .i64 p.z0, .int .i64 p.z1, .int .i64 p.z2] 24 :=
    ((Blk.new w _ 24).alloc _).below hb1
  have kR : Blk w1 (w.heap.size + 1) #[.int .i64 0] 31 := by
    have := (Blk.new (w.alloc (.cells #[.int .i64 p.prn, .int .i64 p.t0, .int .i64 p.er, .int .i64 p.gr, .int .i64 p.x0, .int .i64 p.x1, .int .i64 p.x2, .int .i64 p.y0, .int .i64 p.y1, .int .i64 p.y2, .int .i64 p.z0, .int .i64 p.z1, .int .i64 p.z2] 24)) #[.int .i64 0] 31).below hb1
    rwa [World.size_alloc] at this
  have hB1 : Below w.heap.size w w1 := hB0.trans (hb1.mono hB0.size)
  obtain ⟨g, cap, cur, rfl, hG, hx⟩ := owns_open5 hown (by omega)
  clear hown hb1 hB0
  have KP := Lib.hid kP
  have KR := Lib.hid kR
  have KG := Lib.hid hG
  have HB := Lib.hid hB1
  have HX := Lib.hid hx
  clear kP kR hG hB1 hx
  gi_wp2_with (gi_at_call 33; refine (numbers_in F _ h33 hro _ _).mono ?_; rintro e w' ⟨rfl, rfl⟩)
  have kS : Blk ((w1.alloc (.cells #[.slice (some ⟨g, 0, none⟩) 13 cap] 55)).alloc (.cells #[.pointer (some ⟨w.heap.size, 0, none⟩)] 60)) w1.heap.size #[.slice (some ⟨g, 0, none⟩) 13 cap] 55 := (Blk.new w1 _ 55).alloc _
  have kC := Blk.new (w1.alloc (.cells #[.slice (some ⟨g, 0, none⟩) 13 cap] 55)) #[.pointer (some ⟨w.heap.size, 0, none⟩)] 60
  rw [World.size_alloc] at kC
  have hB2 : Below w.heap.size w ((w1.alloc (.cells #[.slice (some ⟨g, 0, none⟩) 13 cap] 55)).alloc (.cells #[.pointer (some ⟨w.heap.size, 0, none⟩)] 60)) :=
    (HB.out.alloc HB.out.size _).alloc (by have := HB.out.size; simp; omega) _
  refine wpIn_rangeFunc_ownF hro h1 (gf := 38) (lb := #[.pointer (some ⟨w1.heap.size + 1, 0, none⟩)]) rfl h38 (enters_of Tryd.func38 (by kernel_rfl) rfl)
    (iter_stops F HF (n - 1) h38 hro (by omega) (w1.heap.size + 1) w.heap.size _ (by simp) (kC.cell 0)) KeepC.trans keepC_b (Below.refl _ _) (fun _ => rfl)
    (fun pre W => ((∀ k ∈ pre, p.inR k.1) ∧ Blk W w.heap.size #[.int .i64 p.prn, .int .i64 p.t0, .int .i64 p.er, .int .i64 p.gr, .int .i64 p.x0, .int .i64 p.x1, .int .i64 p.x2, .int .i64 p.y0, .int .i64 p.y1, .int .i64 p.y2, .int .i64 p.z0, .int .i64 p.z1, .int .i64 p.z2] 24 ∧
      Blk W (w.heap.size + 1) #[.int .i64 0] 31 ∧ Blk W w1.heap.size #[.slice (some ⟨g, 0, none⟩) 13 cap] 55 ∧ Blk W g cur 65) ∧ Below w.heap.size w W)
    (fun c _ W => (c = .ret ∧ (∃ k : Fin 13, ¬ p.inR k.1) ∧ Blk W (w.heap.size + 1) #[.int .i64 2] 31) ∧ Below w.heap.size w W)
    (OwnFrom.and (Own.from (fun s A B row hs hg hr => ⟨hs.1, hs.2.1.own hg hr, hs.2.2.1.own hg hr, hs.2.2.2.1.own hg hr, hs.2.2.2.2.own hg hr⟩) _) (ownFrom_below (Nat.le_refl _) (by have := HB.out.size; simp; omega)))
    (fun c => OwnFrom.and (Own.from (fun s A B row hs hg hr => ⟨hs.1, hs.2.1, hs.2.2.own hg hr⟩) _) (ownFrom_below (Nat.le_refl _) (by have := HB.out.size; simp; omega)))
    ⟨⟨by simp, (KP.out.alloc _).alloc _, (KR.out.alloc _).alloc _, kS, (KG.out.alloc _).alloc _⟩, hB2⟩
    (fun x => { tmps := #[p.v, .pointer (some ⟨w.heap.size, 0, none⟩), .pointer (some ⟨w.heap.size + 1, 0, none⟩), .pointer (some ⟨w1.heap.size, 0, none⟩), .int .i64 (x.1 : Int), .pointer (some ⟨w.heap.size, x.1, none⟩), undef, undef, undef,
      .slice (some ⟨g, 0, none⟩) 13 cap, .func (.func 38) #[] #[.pointer (some ⟨w1.heap.size + 1, 0, none⟩)], .int .i64 (x.1 : Int), .pointer (some ⟨w.heap.size, x.1, none⟩), undef, undef, undef, undef, undef, undef, undef, undef, undef, undef, undef, undef, undef, undef,
      undef, undef, undef, undef, undef, undef, undef, undef, undef, undef, undef, undef, undef, undef, undef], defers := [] }) ?assign ?body ?done ?stop
  case assign =>
    intro l x W K hK
    dsimp only [encP]
    gi_wp2
    exact hK
  case body =>
    rintro l pre ⟨k, hk⟩ W ⟨⟨hpre, kP, kR, kS, kG⟩, hB⟩ _
    clear hB2 kC
    dsimp only
    have hs0 : W.cell? ⟨w1.heap.size, 0, none⟩ = some (.slice (some ⟨g, 0, none⟩) 13 cap) := by rw [kS.cell]; rfl
    have hc0 : W.cell? ⟨g, k * 5, none⟩ = some (.int .i64 (atk k)) := (kG.cell (k * 5)).trans (cur_at HX.out k hk 0 (by omega))
    have hc1 : W.cell? ⟨g, k * 5 + 1, none⟩ = some (.int .i64 (wd k)) := by rw [kG.cell, cur_at HX.out k hk 1 (by omega)]; rfl
    have hc2 : W.cell? ⟨g, k * 5 + 2, none⟩ = some (.bool (sgK k)) := by rw [kG.cell, cur_at HX.out k hk 2 (by omega)]; rfl
    have hc3 : W.cell? ⟨g, k * 5 + 3, none⟩ = some (.int .i64 1) := by rw [kG.cell, cur_at HX.out k hk 3 (by omega)]; rfl
    have hc4 : W.cell? ⟨g, k * 5 + 4, none⟩ = some (.int .i64 0) := by rw [kG.cell, cur_at HX.out k hk 4 (by omega)]; rfl
    have QP := Lib.hid kP
    have QR := Lib.hid kR
    have QS := Lib.hid kS
    have QG := Lib.hid kG
    have QB := Lib.hid hB
    have QH := Lib.hid hpre
    clear kP kR kS kG hB hpre
    gi_wp2_with fail
    refine ⟨fun _ => by omega, ?_⟩
    refine (CallsIn.inRound l (in_of_calls HF.out (limits_k k hk _))).mono ?_
    rintro e W2 ⟨rfl, hb2⟩
    have hp2 : W2.cell? ⟨w.heap.size, k, none⟩ = some (.int .i64 (p.num k)) := by rw [(QP.out.below hb2).cell, num_at p k hk]
    have hr2 : W2.cell? ⟨w.heap.size + 1, 0, none⟩ = some (.int .i64 0) := by rw [(QR.out.below hb2).cell]; rfl
    have hf2 : W2.frozen? ⟨w.heap.size + 1, 0, none⟩ = false := (QR.out.below hb2).free 0
    have HB2 := Lib.hid hb2
    clear hb2 hs0 hc0 hc1 hc2 hc3 hc4
    have hB3 := Lib.hid (QB.out.trans (HB2.out.mono QB.out.size))
    rcases Int.lt_or_le (p.num k) (loK k) with q1 | q1
    · gi_wp2
      exact ⟨(keepsOthers_below HB2.out).trans (KeepsOthers.setCell _ _ _), ⟨rfl, ⟨⟨k, hk⟩, fun h => by have := h.1; dsimp only at this; omega⟩, (QR.out.below HB2.out).set 0 _⟩, hB3.out.setCell (p := ⟨w.heap.size + 1, 0, none⟩) (by simp) _⟩
    · rcases Int.lt_or_le (hiK k) (p.num k) with q2 | q2
      · gi_wp2
        exact ⟨(keepsOthers_below HB2.out).trans (KeepsOthers.setCell _ _ _), ⟨rfl, ⟨⟨k, hk⟩, fun h => by have := h.2; dsimp only at this; omega⟩, (QR.out.below HB2.out).set 0 _⟩, hB3.out.setCell (p := ⟨w.heap.size + 1, 0, none⟩) (by simp) _⟩
      · gi_wp2
        refine ⟨keepsOthers_below HB2.out, KeepC.of_below HB2.out, ⟨fun j hj => ?_, QP.out.below HB2.out, QR.out.below HB2.out, QS.out.below HB2.out, QG.out.below HB2.out⟩, hB3.out⟩
        rcases List.mem_append.1 hj with hj | hj
        · exact QH.out j hj
        · obtain rfl : j = ⟨k, hk⟩ := by simpa using hj
          exact ⟨q1, q2⟩
  case done =>
    rintro D ys W hD hall ⟨⟨hin, kP, kR, kS', kG⟩, hB⟩ hK
    have hok : ∀ k : Fin 13, p.inR k.1 := fun k => hin k (hall k)
    have OK := Lib.hid hok
    have QR := Lib.hid kR
    have QB := Lib.hid hB
    obtain ⟨hpc, _⟩ := row_cells kP
    have hp0 : W.cell? ⟨w.heap.size, 0, none⟩ = some (.int .i64 p.prn) := by rw [hpc]; rfl
    have hp1 : W.cell? ⟨w.heap.size, 1, none⟩ = some (.int .i64 p.t0) := by rw [hpc]; rfl
    have hr2 : W.cell? ⟨w.heap.size + 1, 0, none⟩ = some (.int .i64 0) := by rw [kR.cell]; rfl
    have hf2 : W.frozen? ⟨w.heap.size + 1, 0, none⟩ = false := kR.free 0
    clear hin hall kP kR kS' kG hB hok hpc hB2 kC
    rcases Int.lt_or_le p.prn 1 with q1 | q1
    · gi_wp2
      have hK' := (KeepsOthers.setCell W ⟨w.heap.size + 1, 0, none⟩ (.int .i64 2)).same D _ hK rfl
      refine ⟨by simp, .inl ⟨_, _, rfl, run_takeDeferred hK', ?_⟩⟩
      have hc5 := cell_kept (World.cell?_setCell_same' W ⟨w.heap.size + 1, 0, none⟩ (.int .i64 2) (by rw [hr2]; rfl)) (grownBy_putObj' _ D (.deferred none)) (fun r e => by cases e; exact ⟨_, hK', rfl⟩)
      refine ⟨.int .i64 2, ?_, ⟨2, rfl, .inr ⟨rfl, fun h => by have := h.prn0; omega⟩, (QB.out.setCell (p := ⟨w.heap.size + 1, 0, none⟩) (by simp) _).trans (belowK_b (w := w) (Nat.le_refl _) _ D _ _ (by have := HB.out.size; simp at hD; omega) hK' rfl rfl)⟩⟩
      simp [results, Tryd.f21, go_sem, hc5]
    · rcases Int.lt_or_le p.t0 604800 with q2 | q2
      · gi_wp2
        have hK' := (KeepsOthers.setCell W ⟨w.heap.size + 1, 0, none⟩ (.int .i64 0)).same D _ hK rfl
        refine ⟨by simp, .inl ⟨_, _, rfl, run_takeDeferred hK', ?_⟩⟩
        have hc5 := cell_kept (World.cell?_setCell_same' W ⟨w.heap.size + 1, 0, none⟩ (.int .i64 0) (by rw [hr2]; rfl)) (grownBy_putObj' _ D (.deferred none)) (fun r e => by cases e; exact ⟨_, hK', rfl⟩)
        refine ⟨.int .i64 0, ?_, ⟨0, rfl, .inl ⟨rfl, ok_of_inR OK.out q1 q2⟩, (QB.out.setCell (p := ⟨w.heap.size + 1, 0, none⟩) (by simp) _).trans (belowK_b (w := w) (Nat.le_refl _) _ D _ _ (by have := HB.out.size; simp at hD; omega) hK' rfl rfl)⟩⟩
        simp [results, Tryd.f21, go_sem, hc5]
      · gi_wp2
        have hK' := (KeepsOthers.setCell W ⟨w.heap.size + 1, 0, none⟩ (.int .i64 2)).same D _ hK rfl
        refine ⟨by simp, .inl ⟨_, _, rfl, run_takeDeferred hK', ?_⟩⟩
        have hc5 := cell_kept (World.cell?_setCell_same' W ⟨w.heap.size + 1, 0, none⟩ (.int .i64 2) (by rw [hr2]; rfl)) (grownBy_putObj' _ D (.deferred none)) (fun r e => by cases e; exact ⟨_, hK', rfl⟩)
        refine ⟨.int .i64 2, ?_, ⟨2, rfl, .inr ⟨rfl, fun h => by have := h.t01; omega⟩, (QB.out.setCell (p := ⟨w.heap.size + 1, 0, none⟩) (by simp) _).trans (belowK_b (w := w) (Nat.le_refl _) _ D _ _ (by have := HB.out.size; simp at hD; omega) hK' rfl rfl)⟩⟩
        simp [results, Tryd.f21, go_sem, hc5]
  case stop =>
    rintro D c pre W hD _ ⟨⟨rfl, hno, kR⟩, hB⟩ hK
    have hr2 : W.cell? ⟨w.heap.size + 1, 0, none⟩ = some (.int .i64 2) := by rw [kR.cell]; rfl
    have NO := Lib.hid hno
    clear hno kR hB2 kC
    gi_wp2
    refine ⟨by simp, .inl ⟨_, _, rfl, run_takeDeferred hK, ?_⟩⟩
    have hc5 := cell_kept hr2 (grownBy_putObj' _ D (.deferred none)) (fun r e => by cases e; exact ⟨_, hK, rfl⟩)
    refine ⟨.int .i64 2, ?_, ⟨2, rfl, .inr ⟨rfl, fun h => ?_⟩, hB.trans (belowK_b (w := w) (Nat.le_refl _) _ D _ _ (by have := HB.out.size; simp at hD; omega) hK rfl rfl)⟩⟩
    · simp [results, Tryd.f21, go_sem, hc5]
    · obtain ⟨k, hk⟩ := NO.out
      exact hk (inR_of_ok h k)

theorem checkP_yes (p : Pg) (w : World) (hw : Wid w) (h : POk p) :
    Calls Tryd.prog 21 #[p.v] w fun e w' => e = .returned (.int .i64 0) ∧ Below w.heap.size w w' :=
  (checkP_any p w hw).mono fun _ _ ⟨_, he, hc, hb⟩ => ⟨by
    rcases hc with ⟨rfl, _⟩ | ⟨_, hn⟩
    · exact he
    · exact absurd h hn, hb⟩
theorem checkP_no (p : Pg) (w : World) (hw : Wid w) (h : ¬ POk p) :
    Calls Tryd.prog 21 #[p.v] w fun e w' => e = .returned (.int .i64 2) ∧ Below w.heap.size w w' :=
  (checkP_any p w hw).mono fun _ _ ⟨_, he, hc, hb⟩ => ⟨by
    rcases hc with ⟨_, hn⟩ | ⟨rfl, _⟩
    · exact absurd hn h
    · exact he, hb⟩
end Go.Proofs.YtphdphipnbclcaaDoor

-- laid by hp.py (a program of this work over the kit's print), with contracts by hand for what the print does not take
import Derived.Test.YtbpeonhhlfadcaaPrint0
import Derived.Test.YtbpeonhhlfadcaaPrintHx0
import Derived.Test.YtbpeonhhlfadcaaPrintR0x0
namespace Go.Proofs.Ytbpeonhhlfadcaa.Print
open Go.RowKit Go.Proofs.YtbpeonhhlfadcaaW.PrintWords Go.Proofs.YtbpeonhhlfadcaaW.PrintLast Go.Proofs.YtbpeonhhlfadcaaW.PrintMore
attribute [local go_sem] max2_int min2_int max_two min_two max_three min_three max_four min_four   -- for this text's walks alone
set_option linter.unusedVariables false
set_option linter.unusedSimpArgs false

--SNIP hand_PackClos
/-! ### The closures of packing -/
def hOf (l : List S33) (i : Nat) : Int := (rd_T33 l (i : Int)).f1
set_option maxHeartbeats 8000000 in
set_option maxRecDepth 100000 in
theorem impl_PackSprites_1.any (x y : Nat) (A : Option Addr) (c : Nat) (l : List S33) (b : Nat) (w : World) (hx : x < l.length) (hy : y < l.length) (hr : Kd.C k33 w A l.length l) (hc : w.cell? ⟨b, 0, none⟩ = some (.slice A l.length c)) (hh : ∀ s ∈ l, 1 ≤ s.f1 ∧ s.f1 ≤ 16) (hm : l.length ≤ 12) :
    Calls Try.prog 22 #[.int .i64 x, .int .i64 y, .pointer (some ⟨b, 0, none⟩)] w fun e w' => e = .returned (.int .i64 (hOf l y - hOf l x)) ∧ Below w.heap.size w w' := by
  obtain ⟨ad, e, hx0, hx1⟩ := at_T33 hr (x : Int) (by omega) (by omega)
  cases e
  obtain ⟨ad', e, hy0, hy1⟩ := at_T33 hr (y : Int) (by omega) (by omega)
  obtain rfl : ad = ad' := by injection e
  simp only [Int.toNat_natCast] at hx0 hx1 hy0 hy1
  have b1 : 1 ≤ hOf l x ∧ hOf l x ≤ 16 := by
    unfold hOf
    rw [rdSize_get l x hx]
    exact hh _ (List.getElem_mem hx)
  have b2 : 1 ≤ hOf l y ∧ hOf l y ≤ 16 := by
    unfold hOf
    rw [rdSize_get l y hy]
    exact hh _ (List.getElem_mem hy)
  have gs : IntKind.i64.wrap ((rd_T33 l (y : Int)).f1 - (rd_T33 l (x : Int)).f1) = (rd_T33 l (y : Int)).f1 - (rd_T33 l (x : Int)).f1 := IntWalk.i64_in _ (by unfold hOf at b1 b2; omega)
  have p1 : ((x : Int) < (l.length : Int)) = True := eq_true (by omega)
  have p2 : ((y : Int) < (l.length : Int)) = True := eq_true (by omega)
  have hu := Try.underlying33
  have HB : Aside0 (Below w.heap.size w w) := ⟨Below.refl _ _⟩
  unfold hOf
  clear hr hh b1 b2
  go_enter Try.func22, Try.ntmps22
  go_wp2
  go_quiet (fail)
  go_wp2
  go_ret
  exact ⟨by first | rfl | rw [gs], by repeat (first | exact HB.out | apply pw_below_drewN)⟩
set_option maxHeartbeats 8000000 in
set_option maxRecDepth 100000 in
theorem impl_PackSprites_2.any (x : S31) (s0 wd : Int) (bs bw : Nat) (w : World) (h0 : w.cell? ⟨bs, 0, none⟩ = some (.int .i64 s0)) (hw : w.cell? ⟨bw, 0, none⟩ = some (.int .i64 wd)) (hx : 0 ≤ x.f2 ∧ x.f2 ≤ 64) (hs : 0 ≤ s0 ∧ s0 ≤ 64) :
    Calls Try.prog 24 #[.agg #[.int .i64 x.f0, .int .i64 x.f1, .int .i64 x.f2, .int .i64 x.f3], .pointer (some ⟨bs, 0, none⟩), .pointer (some ⟨bw, 0, none⟩)] w fun e w' => e = .returned (.bool (decide (x.f2 + s0 ≤ wd))) ∧ Below w.heap.size w w' := by
  have hu := Try.underlying31
  have hu2 := Try.underlying33
  have HB : Aside0 (Below w.heap.size w (w.alloc (.cells #[.int .i64 x.f0, .int .i64 x.f1, .int .i64 x.f2, .int .i64 x.f3] 31))) := ⟨below_alloc (Below.refl w.heap.size w) _⟩
  have h0' := pw_cell_below HB.out h0
  have hw' := pw_cell_below HB.out hw
  have gs : wrap64 (x.f2 + s0) = x.f2 + s0 := wrapIn (by omega) (by omega)
  have GS := Aside0.mk gs
  clear gs
  go_enter Try.func24, Try.ntmps24
  go_wp2
  go_ret
  exact ⟨by first | rfl | (rw [GS.out]), HB.out⟩
/-- A sprite that does not fit. -/
def badS (wd : Int) (s : S33) : Bool := !decide (1 ≤ s.f0 ∧ s.f0 ≤ wd ∧ 1 ≤ s.f1 ∧ s.f1 ≤ 16)
theorem isSide_val (a : Int) : impl_isSide.f a = some (decide (1 ≤ a ∧ a ≤ 16)) := by
  unfold impl_isSide.f
  by_cases h : a ≥ 1
  · rw [if_pos h]
    exact congrArg some (decide_eq_decide.mpr (by omega))
  · rw [if_neg h, decide_eq_false (by omega)]
set_option maxHeartbeats 8000000 in
set_option maxRecDepth 100000 in
theorem impl_areSprites_1.any (s : S33) (wd : Int) (bw : Nat) (w : World) (hw : w.cell? ⟨bw, 0, none⟩ = some (.int .i64 wd)) :
    Calls Try.prog 32 #[.agg #[.int .i64 s.f0, .int .i64 s.f1], .pointer (some ⟨bw, 0, none⟩)] w fun e w' => e = .returned (.bool (badS wd s)) ∧ Below w.heap.size w w' := by
  have hu := Try.underlying33
  have HB : Aside0 (Below w.heap.size w (w.alloc (.cells #[.int .i64 s.f0, .int .i64 s.f1] 33))) := ⟨below_alloc (Below.refl w.heap.size w) _⟩
  have hw' := pw_cell_below HB.out hw
  by_cases h1 : s.f0 < 1
  · have d1 : decide (s.f0 < 1) = true := decide_eq_true h1
    have HR : badS wd s = true := by unfold badS; rw [decide_eq_false (by omega)]; rfl
    rw [HR]
    clear HR
    go_enter Try.func32, Try.ntmps32
    go_wp2
    go_ret
    exact ⟨rfl, HB.out⟩
  · have d1 : decide (s.f0 < 1) = false := decide_eq_false h1
    by_cases h2 : wd < s.f0
    · have d2 : decide (wd < s.f0) = true := decide_eq_true h2
      have HR : badS wd s = true := by unfold badS; rw [decide_eq_false (by omega)]; rfl
      rw [HR]
      clear HR
      go_enter Try.func32, Try.ntmps32
      go_wp2
      go_ret
      exact ⟨rfl, HB.out⟩
    · have d2 : decide (wd < s.f0) = false := decide_eq_false h2
      have HR : badS wd s = !decide (1 ≤ s.f1 ∧ s.f1 ≤ 16) := by
        unfold badS
        exact congrArg _ (decide_eq_decide.mpr ⟨fun h => h.2.2, fun h => ⟨by omega, by omega, h⟩⟩)
      rw [HR]
      clear HR
      have HS := Aside0.mk (fun W' : World => impl_isSide.calls s.f1 _ W' (isSide_val s.f1))
      generalize decide (1 ≤ s.f1 ∧ s.f1 ≤ 16) = r at HS ⊢
      go_enter Try.func32, Try.ntmps32
      go_wp2_with (go_at_call 33; refine (HS.out _).mono ?_; rintro e w1 ⟨rfl, hd⟩; have HB1 := Aside0.mk (below_step HB.out hd.below); clear hd)
      go_ret
      exact ⟨rfl, HB1.out⟩
/-- Sprites that have room. -/
def SprOk (l : List S33) (wd : Int) : Prop := l.length ≤ 12 ∧ 1 ≤ wd ∧ wd ≤ 64 ∧ ∀ s ∈ l, 1 ≤ s.f0 ∧ s.f0 ≤ wd ∧ 1 ≤ s.f1 ∧ s.f1 ≤ 16
instance (l : List S33) (wd : Int) : Decidable (SprOk l wd) := by unfold SprOk; exact inferInstance
theorem idxP_bad (l : List S33) (wd : Int) : decide (0 ≤ idxP (badS wd) l) = !decide (∀ s ∈ l, 1 ≤ s.f0 ∧ s.f0 ≤ wd ∧ 1 ≤ s.f1 ∧ s.f1 ≤ 16) := by
  by_cases h : ∀ s ∈ l, 1 ≤ s.f0 ∧ s.f0 ≤ wd ∧ 1 ≤ s.f1 ∧ s.f1 ≤ 16
  · rw [decide_eq_true h, idxP_miss _ _ (fun j hj => by unfold badS; rw [decide_eq_true (h _ (List.getElem_mem hj))]; rfl)]
    rfl
  · rw [decide_eq_false h]
    have h2 : l.findIdx (badS wd) < l.length := by
      rw [List.findIdx_lt_length]
      obtain ⟨s, hs⟩ := Classical.not_forall.1 h
      obtain ⟨hs, hn⟩ := Classical.not_imp.1 hs
      exact ⟨s, hs, by unfold badS; rw [decide_eq_false hn]; rfl⟩
    unfold idxP
    rw [if_pos h2]
    simp
set_option maxHeartbeats 8000000 in
set_option maxRecDepth 100000 in
theorem impl_areSprites.any (A : Option Addr) (c : Nat) (l : List S33) (wd : Int) (w : World) (hr : Kd.C k33 w A l.length l) (hm : l.length ≤ 9223372036854775807) :
    Calls Try.prog 20 #[.slice A l.length c, .int .i64 wd] w fun e w' => e = .returned (.bool (decide (SprOk l wd))) ∧ Below w.heap.size w w' := by
  have HB : Aside0 (Below w.heap.size w (w.alloc (.cells #[.int .i64 wd] 3))) := ⟨below_alloc (Below.refl w.heap.size w) _⟩
  by_cases h1 : 12 < l.length
  · have d1 : decide (12 < (l.length : Int)) = true := decide_eq_true (by omega)
    have d1' : decide (12 < l.length) = true := decide_eq_true h1
    rw [decide_eq_false (show ¬ SprOk l wd from fun h => by have := h.1; omega)]
    clear hr
    go_enter Try.func20, Try.ntmps20
    go_wp2
    go_ret
    exact ⟨rfl, HB.out⟩
  · have d1 : decide (12 < (l.length : Int)) = false := decide_eq_false (by omega)
    have d1' : decide (12 < l.length) = false := decide_eq_false h1
    by_cases h2 : wd < 1
    · have d2 : decide (wd < 1) = true := decide_eq_true h2
      rw [decide_eq_false (show ¬ SprOk l wd from fun h => by have := h.2.1; omega)]
      clear hr
      go_enter Try.func20, Try.ntmps20
      go_wp2
      go_ret
      exact ⟨rfl, HB.out⟩
    · have d2 : decide (wd < 1) = false := decide_eq_false h2
      by_cases h3 : 64 < wd
      · have d3 : decide (64 < wd) = true := decide_eq_true h3
        rw [decide_eq_false (show ¬ SprOk l wd from fun h => by have := h.2.2.1; omega)]
        clear hr
        go_enter Try.func20, Try.ntmps20
        go_wp2
        go_ret
        exact ⟨rfl, HB.out⟩
      · have d3 : decide (64 < wd) = false := decide_eq_false h3
        have HR : decide (SprOk l wd) = !decide (0 ≤ idxP (badS wd) l) := by
          rw [idxP_bad, Bool.not_not]
          exact decide_eq_decide.mpr ⟨fun h => h.2.2.2, fun h => ⟨by omega, by omega, by omega, h⟩⟩
        have hcell : (w.alloc (.cells #[.int .i64 wd] 3)).cell? ⟨w.heap.size, 0, none⟩ = some (.int .i64 wd) := (blk_cell (Go.heap_alloc_new w _) 0).trans rfl
        have HC := Aside0.mk (containsSize.any 32 _ #[.pointer (some ⟨w.heap.size, 0, none⟩)] (badS wd) Try.func32 (by kernel_rfl) rfl A c l (w.alloc (.cells #[.int .i64 wd] 3)) (Kd.C_below hr HB.out) hm (fun x w' _ hb => impl_areSprites_1.any x wd w.heap.size w' (pw_cell_below hb hcell)))
        rw [HR]
        generalize decide (0 ≤ idxP (badS wd) l) = r at HC ⊢
        clear hr HR hcell
        go_enter Try.func20, Try.ntmps20
        go_wp2_with (go_at_call 31; refine HC.out.mono ?_; rintro e w1 ⟨rfl, hb⟩; have HB1 := Aside0.mk (below_step HB.out hb); clear hb)
        go_ret
        exact ⟨rfl, HB1.out⟩

end Go.Proofs.Ytbpeonhhlfadcaa.Print

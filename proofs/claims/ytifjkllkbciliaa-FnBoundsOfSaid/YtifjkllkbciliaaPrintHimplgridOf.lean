-- laid by hp.py (a program of this work over the kit's print), with contracts by hand for what the print does not take
import Derived.Test.YtifjkllkbciliaaPrint0
import Derived.Test.YtifjkllkbciliaaPrintHhandGrid
namespace Go.Proofs.Ytifjkllkbciliaa.Print
open Go.RowKit Go.Proofs.YtifjkllkbciliaaW.PrintWords Go.Proofs.YtifjkllkbciliaaW.PrintLast Go.Proofs.YtifjkllkbciliaaW.PrintMore
attribute [local go_sem] max2_int min2_int max_two min_two max_three min_three max_four min_four   -- for this text's walks alone
set_option linter.unusedVariables false
set_option linter.unusedSimpArgs false

--SNIP impl_gridOf
/-- The pixels of runs. -/
def inRun (r : S45) (i : Nat) : Bool := decide (r.f0 = (i / 16 : Nat)) && decide (r.f1 ≤ (i % 16 : Nat)) && decide (((i % 16 : Nat) : Int) < r.f2)
def gridF (l : List S45) (i : Nat) : Bool := l.any fun r => inRun r i
/-- Each run lies on the grid. -/
def RunsOk (l : List S45) : Prop := ∀ r ∈ l, 0 ≤ r.f0 ∧ r.f0 < 16 ∧ 0 ≤ r.f1 ∧ r.f1 < r.f2 ∧ r.f2 ≤ 16
theorem gridF_nil (i : Nat) : gridF [] i = false := rfl
theorem gridF_snoc (l : List S45) (r : S45) (i : Nat) : gridF (l ++ [r]) i = (gridF l i || inRun r i) := by simp [gridF]
theorem rdRun_get (l : List S45) (k : Nat) (h : k < l.length) : rd_T45 l (k : Int) = l[k] := by
  simp [rd_T45, List.getD_eq_getElem?_getD, List.getElem?_eq_getElem h]
theorem take_snoc_ {α : Type} (l : List α) (k : Nat) (h : k < l.length) : l.take (k + 1) = l.take k ++ [l[k]] := by
  rw [List.take_succ_eq_append_getElem h]
/-- Block b holds one run. -/
structure IsRun (w : World) (b : Nat) (Y F T : Int) : Prop where mk :: (out : w.heap[b]? = some (.cells #[.int .i64 Y, .int .i64 F, .int .i64 T] 45 (0, 0)))
theorem IsRun.c0 {w : World} {b : Nat} {Y F T : Int} (h : IsRun w b Y F T) : w.cell? ⟨b, 0, none⟩ = some (.int .i64 Y) := (cell_of_row w b 0 _ _ _ h.out).trans rfl
theorem IsRun.c1 {w : World} {b : Nat} {Y F T : Int} (h : IsRun w b Y F T) : w.cell? ⟨b, 1, none⟩ = some (.int .i64 F) := (cell_of_row w b 1 _ _ _ h.out).trans rfl
theorem IsRun.c2 {w : World} {b : Nat} {Y F T : Int} (h : IsRun w b Y F T) : w.cell? ⟨b, 2, none⟩ = some (.int .i64 T) := (cell_of_row w b 2 _ _ _ h.out).trans rfl
theorem IsGrid.other {w : World} {b : Nat} {f : Nat → Bool} (h : IsGrid w b f) (a : Addr) (v : Value) (hne : b ≠ a.block) : IsGrid (w.setCell a v) b f := ⟨(heap_setCell_other w a b v hne).trans h.out⟩
theorem IsRun.other {w : World} {b : Nat} {Y F T : Int} (h : IsRun w b Y F T) (a : Addr) (v : Value) (hne : b ≠ a.block) : IsRun (w.setCell a v) b Y F T := ⟨(heap_setCell_other w a b v hne).trans h.out⟩
set_option maxHeartbeats 8000000 in
set_option maxRecDepth 100000 in
theorem impl_gridOf.any (A0 : Option Addr) (c0 : Nat) (l0 : List S45) (w : World) (hr0 : Kd.C k45 w A0 l0.length l0) (hm0 : l0.length ≤ 9223372036854775807) (hv : RunsOk l0) :
    Calls Try.prog 52 #[.slice A0 l0.length c0] w fun e w' => e = .returned (.agg (gcells (gridF l0))) ∧ Below w.heap.size w w' := by
  have hu45 := Try.underlying45
  have HR := Aside0.mk hr0
  have HV := Aside0.mk hv
  clear hr0 hv
  go_enter Try.func52, Try.ntmps52
  go_wp2_with (first | (refine wpList_alloc_grid rfl rfl ?_; (try simp only [gsize_alloc])) | (refine wpList_build_grid rfl rfl ?_) | (refine wpList_store_grid_same rfl _ _ rfl (w.heap.size + 1) (fun _ => false) rfl rfl ⟨heap_alloc2_new w _ _⟩ ?_))
  go_loopw [10] (fun i wr => ∃ k : Nat, k ≤ l0.length ∧ i = .int .i64 k ∧ IsGrid wr (w.heap.size + 1) (gridF (l0.take k)) ∧ IsGrid wr w.heap.size (fun _ => false) ∧ Aside0 (Below w.heap.size w wr)) (fun i _ => l0.length - (intOf i).toNat)
  case atStart => exact ⟨0, by omega, rfl, (⟨heap_alloc2_new w _ _⟩ : IsGrid _ _ (fun _ => false)).congr (fun i _ => by rw [List.take_zero, gridF_nil]), ⟨heap_alloc2_old w _ _⟩, ⟨((Below.refl w.heap.size w).alloc (Nat.le_refl _) _).alloc (by simp) _⟩⟩
  case round =>
    obtain ⟨k, hk, rfl, HG, HZ, HB⟩ := hrel
    by_cases hlt : k < l0.length
    · obtain ⟨wo, rfl⟩ : ∃ wo : World, wo = wr := ⟨_, rfl⟩
      have hdk : decide ((k : Int) < (l0.length : Int)) = true := decide_eq_true (by omega)
      obtain ⟨ad, e, hx0, hx1, hx2⟩ := at_T45 HR.out (k : Int) (by omega) (by omega)
      cases e
      rw [rdRun_get l0 k hlt] at hx0 hx1 hx2
      simp only [Int.toNat_natCast] at hx0 hx1 hx2
      obtain ⟨v0, v1, v2, v3, v4⟩ := HV.out l0[k] (List.getElem_mem hlt)
      obtain ⟨Y, hY⟩ : ∃ Y : Nat, l0[k].f0 = (Y : Int) := ⟨l0[k].f0.toNat, by omega⟩
      obtain ⟨F, hF⟩ : ∃ F : Nat, l0[k].f1 = (F : Int) := ⟨l0[k].f1.toNat, by omega⟩
      obtain ⟨T, hT⟩ : ∃ T : Nat, l0[k].f2 = (T : Int) := ⟨l0[k].f2.toNat, by omega⟩
      have HI : Aside0 (∀ i, inRun l0[k] i = (decide (i / 16 = Y) && decide (F ≤ i % 16) && decide (i % 16 < T))) := ⟨fun i => by
        unfold inRun
        rw [hY, hF, hT]
        congr 1
        · congr 1
          · exact decide_eq_decide.mpr (by omega)
          · exact decide_eq_decide.mpr (by omega)
        · exact decide_eq_decide.mpr (by omega)⟩
      rw [hY] at hx0 v0 v1
      rw [hF] at hx1 v2 v3
      rw [hT] at hx2 v3 v4
      have hY16 : Y < 16 := by omega
      have hFT : F < T := by omega
      have hT16 : T ≤ 16 := by omega
      clear hY hF hT v0 v1 v2 v3 v4
      replace hx0 := (HB.out.cell (World.block_lt_of_cell? w _ hx0)).trans hx0
      replace hx1 := (HB.out.cell (World.block_lt_of_cell? w _ hx1)).trans hx1
      replace hx2 := (HB.out.cell (World.block_lt_of_cell? w _ hx2)).trans hx2
      have HTK := Aside0.mk (take_snoc_ l0 k hlt)
      go_wp2
      go_loopw [6] (fun i wr => ∃ x : Nat, F ≤ x ∧ x ≤ T ∧ i = .int .i64 x ∧ IsGrid wr (w.heap.size + 1) (fun i => gridF (l0.take k) i || (decide (i / 16 = Y) && decide (F ≤ i % 16) && decide (i % 16 < x))) ∧ IsGrid wr w.heap.size (fun _ => false) ∧ IsRun wr wo.heap.size Y F T ∧ Aside0 (Below w.heap.size w wr)) (fun i _ => 16 - (intOf i).toNat)
      case atStart =>
        refine ⟨F, by omega, by omega, rfl, (HG.alloc _).congr (fun i hi => ?_), HZ.alloc _, ⟨heap_alloc_new wo _⟩, ⟨below_alloc HB.out _⟩⟩
        by_cases h1 : F ≤ i % 16
        · rw [decide_eq_false (p := i % 16 < F) (by omega)]
          simp
        · rw [decide_eq_false (p := F ≤ i % 16) h1]
          simp
      case round =>
        have hbs : wo.heap.size ≠ w.heap.size + 1 := by have := HG.lt; omega
        clear hx0 hx1 hx2 HG HZ HB
        obtain ⟨x, hx1, hx2, rfl, HG, HZ, HU, HB⟩ := hrel
        have hr0 := HU.c0
        have hr2 := HU.c2
        by_cases hlx : x < T
        · have hdx : decide ((x : Int) < (T : Int)) = true := decide_eq_true (by omega)
          have hi1 := run_index_grid (w.heap.size + 1) Y hY16
          have hi2 := run_index_line (w.heap.size + 1) (Y * 16) x (by omega)
          have hc := HG.cell (Y * 16 + x) (by omega)
          have hf := HG.frozen (Y * 16 + x)
          go_wp2
          go_roundw
          case rel =>
            refine ⟨x + 1, by omega, by omega, by go_num, (HG.set (Y * 16 + x) true).congr (fun i hi => ?_), HZ.other _ _ (by simp), HU.other _ _ hbs, ⟨below_set HB.out (show w.heap.size ≤ w.heap.size + 1 by omega)⟩⟩
            by_cases h1 : i = Y * 16 + x
            · subst h1
              rw [if_pos rfl, decide_eq_true (by omega), decide_eq_true (by omega), decide_eq_true (by omega)]
              simp
            · rw [if_neg h1]
              congr 1
              by_cases h2 : i / 16 = Y
              · congr 1
                exact decide_eq_decide.mpr (by omega)
              · rw [decide_eq_false h2]
                simp
          case measure => simp [intOf]; omega
        · have hdx : decide ((x : Int) < (T : Int)) = false := decide_eq_false (by omega)
          go_wp2
          go_roundw
          case rel =>
            refine ⟨k + 1, by omega, by go_num, HG.congr (fun i hi => ?_), HZ, HB⟩
            rw [HTK.out, gridF_snoc, HI.out, show x = T by omega]
          case measure => simp [intOf]; omega
    · have hk' : k = l0.length := by omega
      subst hk'
      go_wp2_with (first | (refine wpList_load_grid rfl _ rfl (w.heap.size + 1) _ rfl HG ?_) | (refine wpList_store_grid rfl _ _ rfl w.heap.size _ _ rfl rfl HZ ?_))
      refine bodyPost_ret (results_cell_row rfl _ _ w.heap.size _ _ _ _ rfl (HZ.setRow _).out Try.underlying59 rfl (by rw [gcells_size]; exact grid_size)) rfl ⟨?_, ?_⟩
      · rw [List.take_of_length_le (Nat.le_refl _)]
      · exact below_setRow HB.out _ _ (Nat.le_refl _)

end Go.Proofs.Ytifjkllkbciliaa.Print

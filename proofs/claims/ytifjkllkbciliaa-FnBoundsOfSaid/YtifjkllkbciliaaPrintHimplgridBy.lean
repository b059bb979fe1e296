-- laid by hp.py (a program of this work over the kit's print), with contracts by hand for what the print does not take
import Derived.Test.YtifjkllkbciliaaPrint0
import Derived.Test.YtifjkllkbciliaaPrintHhandGrid
namespace Go.Proofs.Ytifjkllkbciliaa.Print
open Go.RowKit Go.Proofs.YtifjkllkbciliaaW.PrintWords Go.Proofs.YtifjkllkbciliaaW.PrintLast Go.Proofs.YtifjkllkbciliaaW.PrintMore
attribute [local go_sem] max2_int min2_int max_two min_two max_three min_three max_four min_four   -- for this text's walks alone
set_option linter.unusedVariables false
set_option linter.unusedSimpArgs false

--SNIP impl_gridBy
set_option maxHeartbeats 8000000 in
set_option maxRecDepth 100000 in
theorem impl_gridBy.any (K : FuncId) (fn : Func) (caps : Array Value) (f : Int → Int → Bool) (hK : Try.prog.funcs[K]? = some fn) (hname : (fn.name == "runtime.NumGoroutine") = false) (hb : fn.body.isSome = true) (w : World)
    (hf : ∀ (x y : Nat) (w' : World), x < 16 → y < 16 → Below w.heap.size w w' → Calls Try.prog K (#[.int .i64 x, .int .i64 y] ++ caps) w' fun e w'' => e = .returned (.bool (f x y)) ∧ Below w'.heap.size w' w'') :
    Calls Try.prog 44 #[.func (.func K) #[] caps] w fun e w' => e = .returned (.agg (gcells fun i => f (i % 16 : Nat) (i / 16 : Nat))) ∧ Below w.heap.size w w' := by
  have HF := Aside0.mk hf
  have hcall : ∀ (args : Array Value) (W : World), (callFunc K args).run Try.prog W = .ok (.enter K args) W := fun args W => enters_ hK hname hb args W
  clear hf hK hname hb
  go_enter Try.func44, Try.ntmps44
  go_wp2_with (first | (refine wpList_alloc_grid rfl rfl ?_; (try simp only [gsize_alloc])) | (refine wpList_build_grid rfl rfl ?_) | (refine wpList_store_grid_same rfl _ _ rfl (w.heap.size + 1) (fun _ => false) rfl rfl ⟨heap_alloc2_new w _ _⟩ ?_))
  go_loopw [7] (fun i wr => ∃ y : Nat, y ≤ 16 ∧ i = .int .i64 y ∧ IsGrid wr (w.heap.size + 1) (fun i => decide (i < 16 * y) && f (i % 16 : Nat) (i / 16 : Nat)) ∧ IsGrid wr w.heap.size (fun _ => false) ∧ Aside0 (Below w.heap.size w wr)) (fun i _ => 16 - (intOf i).toNat)
  case atStart => exact ⟨0, by omega, rfl, (⟨heap_alloc2_new w _ _⟩ : IsGrid _ _ (fun _ => false)).congr (by simp), ⟨heap_alloc2_old w _ _⟩, ⟨((Below.refl w.heap.size w).alloc (Nat.le_refl _) _).alloc (by simp) _⟩⟩
  case round =>
    obtain ⟨y, hy, rfl, HG, HR, HB⟩ := hrel
    by_cases hlt : y < 16
    · obtain ⟨wo, rfl⟩ : ∃ wo : World, wo = wr := ⟨_, rfl⟩
      have hdy : decide ((y : Int) < 16) = true := decide_eq_true (by omega)
      go_wp2
      go_loopw [10] (fun i wr => ∃ x : Nat, x ≤ 16 ∧ i = .int .i64 x ∧ IsGrid wr (w.heap.size + 1) (fun i => decide (i < 16 * y + x) && f (i % 16 : Nat) (i / 16 : Nat)) ∧ IsGrid wr w.heap.size (fun _ => false) ∧ Aside0 (Below w.heap.size w wr)) (fun i _ => 16 - (intOf i).toNat)
      case atStart => exact ⟨0, by omega, rfl, HG, HR, HB⟩
      case round =>
        clear HG HR HB
        obtain ⟨x, hx, rfl, HG, HR, HB⟩ := hrel
        by_cases hlx : x < 16
        · have hi1 := run_index_grid (w.heap.size + 1) y hlt
          have hi2 := run_index_line (w.heap.size + 1) (y * 16) x hlx
          go_wp2_with fail
          go_region_with (refine (HF.out x y _ hlx hlt (by exact (pw_below_drewN HB.out _))).mono ?_; rintro e w' ⟨rfl, hb⟩; have HG1 : IsGrid w' (w.heap.size + 1) (fun i => decide (i < 16 * y + x) && f (i % 16 : Nat) (i / 16 : Nat)) := IsGrid.below (w := wr.drew) ⟨HG.out⟩ hb (by exact HG.lt); have hc1 := HG1.cell (y * 16 + x) (by omega); have hf1 := HG1.frozen (y * 16 + x))
          have HG2 := HG1.set (y * 16 + x) (f x y)
          have HR1 : IsGrid w' w.heap.size (fun _ => false) := IsGrid.below (w := wr.drew) ⟨HR.out⟩ hb (by exact HR.lt)
          have HR2 : IsGrid (w'.setCell ⟨w.heap.size + 1, y * 16 + x, none⟩ (.bool (f x y))) w.heap.size (fun _ => false) := ⟨(heap_setCell_other w' _ _ _ (by simp)).trans HR1.out⟩
          have HB2 := Aside0.mk (below_set (below_then (pw_below_drewN HB.out 1) (by have := HB.out.size; exact this) hb) (show w.heap.size ≤ w.heap.size + 1 by omega) (j := y * 16 + x) (v := .bool (f x y)))
          clear hc1 hf1 hi1 hi2 HG1 HR1 HG HR HB hb
          go_wp2
          go_roundw
          case rel =>
            refine ⟨x + 1, by omega, by go_num, HG2.congr (fun i hi => ?_), HR2, HB2⟩
            by_cases h1 : i = y * 16 + x
            · subst h1
              rw [if_pos rfl, decide_eq_true (by omega), show (y * 16 + x) % 16 = x by omega, show (y * 16 + x) / 16 = y by omega]
              rfl
            · rw [if_neg h1]
              by_cases h2 : i < 16 * y + x
              · rw [decide_eq_true h2, decide_eq_true (by omega)]
              · rw [decide_eq_false h2, decide_eq_false (by omega)]
          case measure => simp [intOf]; omega
        · go_wp2
          go_roundw
          case rel => exact ⟨y + 1, by omega, by go_num, HG.congr (by intro i hi; rw [show x = 16 by omega, show 16 * y + 16 = 16 * (y + 1) by omega]), HR, HB⟩
          case measure => simp [intOf]; omega
    · have hy' : y = 16 := by omega
      subst hy'
      go_wp2_with (first | (refine wpList_load_grid rfl _ rfl (w.heap.size + 1) _ rfl HG ?_) | (refine wpList_store_grid rfl _ _ rfl w.heap.size _ _ rfl rfl HR ?_))
      refine bodyPost_ret (results_cell_row rfl _ _ w.heap.size _ _ _ _ rfl (HR.setRow _).out Try.underlying59 rfl (by rw [gcells_size]; exact grid_size)) rfl ⟨?_, ?_⟩
      · rw [gcells_congr (f := fun i => decide (i < 16 * 16) && f (i % 16 : Nat) (i / 16 : Nat)) (g := fun i => f (i % 16 : Nat) (i / 16 : Nat)) (fun i hi => by rw [decide_eq_true (by omega)]; rfl)]
      · exact below_setRow HB.out _ _ (Nat.le_refl _)
/-- The same, the function told by places. -/
theorem impl_gridBy.at_ (K : FuncId) (fn : Func) (caps : Array Value) (F : Nat → Bool) (hK : Try.prog.funcs[K]? = some fn) (hname : (fn.name == "runtime.NumGoroutine") = false) (hb : fn.body.isSome = true) (w : World)
    (hf : ∀ (x y : Nat) (w' : World), x < 16 → y < 16 → Below w.heap.size w w' → Calls Try.prog K (#[.int .i64 x, .int .i64 y] ++ caps) w' fun e w'' => e = .returned (.bool (F (16 * y + x))) ∧ Below w'.heap.size w' w'') :
    Calls Try.prog 44 #[.func (.func K) #[] caps] w fun e w' => e = .returned (.agg (gcells F)) ∧ Below w.heap.size w w' := by
  refine (impl_gridBy.any K fn caps (fun x y => F (16 * y.toNat + x.toNat)) hK hname hb w hf).mono ?_
  rintro e w' ⟨rfl, h⟩
  refine ⟨?_, h⟩
  rw [gcells_congr (fun i hi => ?_)]
  show F (16 * (i / 16) + i % 16) = F i
  rw [show 16 * (i / 16) + i % 16 = i by omega]

end Go.Proofs.Ytifjkllkbciliaa.Print

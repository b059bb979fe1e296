-- laid by hp.py (a program of this work over the kit's print), with contracts by hand for what the print does not take
import Derived.Test.YtifjkllkbciliaaPrint0
namespace Go.Proofs.Ytifjkllkbciliaa.Print
open Go.RowKit Go.Proofs.YtifjkllkbciliaaW.PrintWords Go.Proofs.YtifjkllkbciliaaW.PrintLast Go.Proofs.YtifjkllkbciliaaW.PrintMore
attribute [local go_sem] max2_int min2_int max_two min_two max_three min_three max_four min_four   -- for this text's walks alone
set_option linter.unusedVariables false
set_option linter.unusedSimpArgs false

--SNIP hand_Grid
/-! ### Grids in memory: 256 cells, a row of 16 behind each other. -/
def gcells (f : Nat → Bool) : Array Value := ((List.range 256).map fun i => Value.bool (f i)).toArray
theorem gcells_size (f : Nat → Bool) : (gcells f).size = 256 := by simp [gcells]
theorem gcells_one (f : Nat → Bool) : (gcells f).all (·.oneCell') = true := by
  rw [Array.all_eq_true_iff_forall_mem]
  intro v hv
  simp only [gcells, List.mem_toArray, List.mem_map] at hv
  obtain ⟨i, _, rfl⟩ := hv
  rfl
theorem gcells_get (f : Nat → Bool) (i : Nat) (hi : i < 256) : (gcells f)[i]? = some (.bool (f i)) := by
  simp [gcells, hi]
theorem gcells_set (f : Nat → Bool) (i : Nat) (b : Bool) : (gcells f).setIfInBounds i (.bool b) = gcells (fun j => if j = i then b else f j) := by
  apply Array.ext_getElem?
  intro j
  rw [Array.getElem?_setIfInBounds]
  by_cases hij : i = j
  · subst hij
    rw [if_pos rfl, gcells_size]
    by_cases hi : i < 256
    · rw [if_pos hi, gcells_get _ i hi, if_pos rfl]
    · rw [if_neg hi, Array.getElem?_eq_none (by rw [gcells_size]; omega)]
  · rw [if_neg hij]
    by_cases hj : j < 256
    · rw [gcells_get _ j hj, gcells_get _ j hj, if_neg (fun h => hij h.symm)]
    · rw [Array.getElem?_eq_none (by rw [gcells_size]; omega), Array.getElem?_eq_none (by rw [gcells_size]; omega)]
theorem gcells_congr {f g : Nat → Bool} (h : ∀ i, i < 256 → f i = g i) : gcells f = gcells g := by
  unfold gcells
  congr 1
  exact List.map_congr_left fun i hi => by rw [h i (by simpa using hi)]
theorem gcells_inj {f g : Nat → Bool} (h : gcells f = gcells g) (i : Nat) (hi : i < 256) : f i = g i := by
  have h1 := gcells_get f i hi
  rw [h, gcells_get g i hi] at h1
  injection h1 with h1
  injection h1 with h1
  exact h1.symm
theorem gsize_alloc (w : World) (o : Obj) : (w.alloc o).heap.size = w.heap.size + 1 := by simp
/-- Block b holds the grid f. -/
structure IsGrid (w : World) (b : Nat) (f : Nat → Bool) : Prop where mk :: (out : w.heap[b]? = some (.cells (gcells f) 59 (0, 0)))
theorem IsGrid.cell {w : World} {b : Nat} {f : Nat → Bool} (h : IsGrid w b f) (i : Nat) (hi : i < 256) : w.cell? ⟨b, i, none⟩ = some (.bool (f i)) := by
  rw [cell_of_row w b i _ _ _ h.out, gcells_get f i hi]
theorem IsGrid.frozen {w : World} {b : Nat} {f : Nat → Bool} (h : IsGrid w b f) (i : Nat) : w.frozen? ⟨b, i, none⟩ = false := frozen_of_row w b i _ _ h.out
theorem IsGrid.below {w w' : World} {b : Nat} {f : Nat → Bool} {B : Nat} (h : IsGrid w b f) (hb : Below B w w') (hB : b < B) : IsGrid w' b f := ⟨(hb.block b hB).trans h.out⟩
theorem IsGrid.lt {w : World} {b : Nat} {f : Nat → Bool} (h : IsGrid w b f) : b < w.heap.size := (Array.getElem?_eq_some_iff.1 h.out).1
theorem IsGrid.set {w : World} {b : Nat} {f : Nat → Bool} (h : IsGrid w b f) (i : Nat) (x : Bool) : IsGrid (w.setCell ⟨b, i, none⟩ (.bool x)) b (fun j => if j = i then x else f j) :=
  ⟨by rw [heap_setCell_same w b i _ _ _ h.out, gcells_set]⟩
theorem IsGrid.alloc {w : World} {b : Nat} {f : Nat → Bool} (h : IsGrid w b f) (o : Obj) : IsGrid (w.alloc o) b f := ⟨(heap_alloc_old w o h.lt).trans h.out⟩
theorem IsGrid.drewN {w : World} {b : Nat} {f : Nat → Bool} (h : IsGrid w b f) (n : Nat) : IsGrid (w.drewN n) b f := ⟨h.out⟩
theorem IsGrid.new (w : World) (f : Nat → Bool) : IsGrid (w.alloc (.cells (gcells f) 59)) w.heap.size f := ⟨Go.heap_alloc_new w _⟩
theorem IsGrid.congr {w : World} {b : Nat} {f g : Nat → Bool} (h : IsGrid w b f) (e : ∀ i, i < 256 → f i = g i) : IsGrid w b g := ⟨by rw [← gcells_congr e]; exact h.out⟩
theorem grid_info : (Try.prog.info? 59).map (fun i => (i.zero, i.size)) = some (some (.agg (gcells fun _ => false)), 256) := by kernel_rfl
theorem grid_size : (Try.prog.info? 59).map (·.size) = some 256 := by kernel_rfl
theorem run_zero_grid (W : World) : (zeroValue 59).run Try.prog W = .ok (.agg (gcells fun _ => false)) W := by
  have h := grid_info
  cases hi : Try.prog.info? 59 with
  | none => rw [hi] at h; cases h
  | some i =>
    rw [hi] at h
    simp only [Option.map_some, Option.some.injEq, Prod.mk.injEq] at h
    simp [zeroValue, typeInfo, hi, h.1]
section
variable {P : Program} {ops : Array Oper} {rest : List Oper} {o : Oper} {a : Act} {w : World} {Q : Exit → Act → World → Prop}
theorem wpList_alloc_grid (hgd : o.guard = none) (ho : o.op = .alloc 59)
    (h : wpList Try.prog ops Q rest (a.put o.dst (.pointer (some ⟨w.heap.size, 0, none⟩))) (w.alloc (.cells (gcells fun _ => false) 59))) : wpList Try.prog ops Q (o :: rest) a w := by
  refine wpList_plain hgd fun K hK => ?_
  unfold Oper.wp execOp
  simp only [ho, Instr.alloc, Sem.run_bind, run_zero_grid, Result.andThen_ok]
  exact hK _ _ h
theorem wpList_build_grid (hgd : o.guard = none) (ho : o.op = .build 59 #[])
    (h : wpList Try.prog ops Q rest (a.put o.dst (.agg (gcells fun _ => false))) w) : wpList Try.prog ops Q (o :: rest) a w := by
  have hb : Try.prog.built 59 [] = some (gcells fun _ => false) := by kernel_rfl
  exact wpList_build hgd 59 #[] ho (by simp [hb]) (by simpa [hb] using h)
theorem wpList_store_grid (hgd : o.guard = none) (x y : Operand) (ho : o.op = .store 59 x y) (g : Nat) (f old : Nat → Bool) (hx : a.eval x = .pointer (some ⟨g, 0, none⟩)) (hy : a.eval y = .agg (gcells f)) (hg : IsGrid w g old)
    (h : wpList Try.prog ops Q rest (a.put o.dst undef) (w.setRow g (gcells f))) : wpList Try.prog ops Q (o :: rest) a w :=
  wpList_plain hgd fun _ hK => wp_store_row 59 x y ho g (gcells f) hx hy _ _ hg.out (by rw [gcells_size]; exact grid_size) (by rw [gcells_size, gcells_size]) (gcells_one f) (hK _ _ h)
theorem wpList_load_grid (hgd : o.guard = none) (x : Operand) (ho : o.op = .load 59 x) (g : Nat) (f : Nat → Bool) (hx : a.eval x = .pointer (some ⟨g, 0, none⟩)) (hg : IsGrid w g f)
    (h : wpList Try.prog ops Q rest (a.put o.dst (.agg (gcells f))) w) : wpList Try.prog ops Q (o :: rest) a w :=
  wpList_load_row hgd 59 x ho g hx _ _ _ _ hg.out Try.underlying59 rfl (by rw [gcells_size]; exact grid_size) h
theorem wpList_box_grid (hgd : o.guard = none) (x : Operand) (ho : o.op = .box 59 x) (f : Nat → Bool) (hx : a.eval x = .agg (gcells f))
    (h : wpList Try.prog ops Q rest (a.put o.dst (.pointer (some ⟨w.heap.size, 0, none⟩))) (w.alloc (.cells (gcells f) 59))) : wpList Try.prog ops Q (o :: rest) a w := by
  refine wpList_plain hgd fun K hK => ?_
  unfold Oper.wp execOp
  simp only [ho, hx, Instr.box, Value.cells]
  exact hK _ _ h
end
theorem IsGrid.setRow {w : World} {b : Nat} {f : Nat → Bool} (h : IsGrid w b f) (g : Nat → Bool) : IsGrid (w.setRow b (gcells g)) b g := ⟨setRow_heap w b _ _ _ _ h.out⟩
theorem below_setRow {B : Nat} {w W : World} (h : Below B w W) (b : Nat) (cs : Array Value) (hb : B ≤ b) : Below B w (W.setRow b cs) :=
  ⟨h.os, h.tape, h.output, by simpa using h.size, fun i hi => (setRow_other W b i cs (by omega)).trans (h.block i hi)⟩
theorem setRow_same {w : World} {g : Nat} {cs : Array Value} {t : TypeId} (h : w.heap[g]? = some (.cells cs t (0, 0))) : w.setRow g cs = w := by
  have h2 := setCell_eq_setRow
  have hlt : g < w.heap.size := (Array.getElem?_eq_some_iff.1 h).1
  have hv : w.heap[g] = .cells cs t (0, 0) := (Array.getElem?_eq_some_iff.1 h).2
  unfold World.setRow
  cases w with
  | mk heap tape drawn os output =>
    congr 1
    apply Array.ext
    · simp
    · intro k h1 h2
      simp only [Array.getElem_modify]
      split
      · rename_i hk; subst hk; simp at hv; simp [hv]
      · rfl
section
variable {ops : Array Oper} {rest : List Oper} {o : Oper} {a : Act} {w : World} {Q : Exit → Act → World → Prop}
theorem wpList_store_grid_same (hgd : o.guard = none) (x y : Operand) (ho : o.op = .store 59 x y) (g : Nat) (f : Nat → Bool) (hx : a.eval x = .pointer (some ⟨g, 0, none⟩)) (hy : a.eval y = .agg (gcells f)) (hg : IsGrid w g f)
    (h : wpList Try.prog ops Q rest (a.put o.dst undef) w) : wpList Try.prog ops Q (o :: rest) a w :=
  wpList_store_grid hgd x y ho g f f hx hy hg (by rw [setRow_same hg.out]; exact h)
end
theorem run_index_grid (b y : Nat) (hy : y < 16) (W : World) : (Instr.indexAt 59 (.pointer (some ⟨b, 0, none⟩)) (.int .i64 (y : Int))).run Try.prog W = .ok (.pointer (some ⟨b, y * 16, none⟩)) W := by
  have hu := Try.underlying59
  have hs : (sizeOf 57).run Try.prog W = .ok 16 W := by kernel_rfl
  simp [Instr.indexAt, asIntOf, run_underlying hu, Instr.sureAddr, show ((y : Int) < 16) from by omega, hs, Addr.add]
  rw [if_pos hy]
  by_cases h0 : y * 16 = 0 <;> simp [h0]
theorem run_index_line (b o x : Nat) (hx : x < 16) (W : World) : (Instr.indexAt 57 (.pointer (some ⟨b, o, none⟩)) (.int .i64 (x : Int))).run Try.prog W = .ok (.pointer (some ⟨b, o + x, none⟩)) W := by
  have hu := Try.underlying57
  have hs : (sizeOf 4).run Try.prog W = .ok 1 W := by kernel_rfl
  simp [Instr.indexAt, asIntOf, run_underlying hu, Instr.sureAddr, show ((x : Int) < 16) from by omega, hs, Addr.add]
  rw [if_pos hx]
  by_cases h0 : x = 0 <;> simp [h0]

end Go.Proofs.Ytifjkllkbciliaa.Print

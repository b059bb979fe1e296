-- laid by hp.py (a program of this work over the kit's print), with contracts by hand for what the print does not take
import Derived.Test.YtceoecmjccakgaaPrint0
namespace Go.Proofs.Ytceoecmjccakgaa.Print
open Go.RowKit Go.Proofs.YtceoecmjccakgaaW.PrintWords Go.Proofs.YtceoecmjccakgaaW.PrintLast Go.Proofs.YtceoecmjccakgaaW.PrintMore
attribute [local go_sem] max2_int min2_int max_two min_two max_three min_three max_four min_four   -- for this text's walks alone
set_option linter.unusedVariables false
set_option linter.unusedSimpArgs false

--SNIP hand_Disc
/-- The pixels of a disc. -/
def discB (x y r i j : Int) : Bool := decide ((i - x) * (i - x) + (j - y) * (j - y) ≤ r * r)
theorem sq_nonneg_ (c : Int) : 0 ≤ c * c := by
  rcases Int.le_total 0 c with h | h
  · exact Int.mul_nonneg h h
  · have := Int.mul_nonneg (a := -c) (b := -c) (by omega) (by omega)
    rwa [Int.neg_mul_neg] at this
theorem sq_bound (a b : Int) (h1 : 0 ≤ a) (h2 : a ≤ 16) (h3 : 0 ≤ b) (h4 : b ≤ 16) : 0 ≤ (a - b) * (a - b) ∧ (a - b) * (a - b) ≤ 256 := by
  have h5 : -16 ≤ a - b := by omega
  have h6 : a - b ≤ 16 := by omega
  generalize a - b = c at *
  constructor
  · exact sq_nonneg_ c
  · have h7 : 0 ≤ (16 - c) * (16 + c) := Int.mul_nonneg (by omega) (by omega)
    have h8 : (16 - c) * (16 + c) = 256 - c * c := by
      rw [Int.sub_mul, Int.mul_add, Int.mul_add, Int.mul_comm c 16]
      omega
    omega
def discOk (x y r : Int) : Prop := 0 ≤ x ∧ x < 16 ∧ 0 ≤ y ∧ y < 16 ∧ 0 ≤ r ∧ r ≤ 16
instance (x y r : Int) : Decidable (discOk x y r) := by unfold discOk; exact inferInstance
def discF (x y r : Int) (p : Nat) : Bool := discB x y r (p % 16 : Nat) (p / 16 : Nat)

--SNIP hand_Grid
/-! ### Grids in memory: 256 cells, a row of 16 behind each other. -/
def gcells (f : Nat → Bool) : Array Value := ((List.range 256).map fun i => Value.bool (f i)).toArray
theorem gcells_size (f : Nat → Bool) : (gcells f).size = 256 := by simp [gcells]
theorem gcells_one (f : Nat → Bool) : (gcells f).all (·.oneCell') = true := by
  rw [Array.all_eq_true_iff_forall_mem]
  intro v hv
  simp only [gcells, List.mem_toArray, List.mem_map] at hv
  obtain ⟨i, _, rfl⟩ := hv
  rfl
theorem gcells_get (f : Nat → Bool) (i : Nat) (hi : i < 256) : (gcells f)[i]? = some (.bool (f i)) := by
  simp [gcells, hi]
theorem gcells_set (f : Nat → Bool) (i : Nat) (b : Bool) : (gcells f).setIfInBounds i (.bool b) = gcells (fun j => if j = i then b else f j) := by
  apply Array.ext_getElem?
  intro j
  rw [Array.getElem?_setIfInBounds]
  by_cases hij : i = j
  · subst hij
    rw [if_pos rfl, gcells_size]
    by_cases hi : i < 256
    · rw [if_pos hi, gcells_get _ i hi, if_pos rfl]
    · rw [if_neg hi, Array.getElem?_eq_none (by rw [gcells_size]; omega)]
  · rw [if_neg hij]
    by_cases hj : j < 256
    · rw [gcells_get _ j hj, gcells_get _ j hj, if_neg (fun h => hij h.symm)]
    · rw [Array.getElem?_eq_none (by rw [gcells_size]; omega), Array.getElem?_eq_none (by rw [gcells_size]; omega)]
theorem gcells_congr {f g : Nat → Bool} (h : ∀ i, i < 256 → f i = g i) : gcells f = gcells g := by
  unfold gcells
  congr 1
  exact List.map_congr_left fun i hi => by rw [h i (by simpa using hi)]
theorem gcells_inj {f g : Nat → Bool} (h : gcells f = gcells g) (i : Nat) (hi : i < 256) : f i = g i := by
  have h1 := gcells_get f i hi
  rw [h, gcells_get g i hi] at h1
  injection h1 with h1
  injection h1 with h1
  exact h1.symm
theorem gsize_alloc (w : World) (o : Obj) : (w.alloc o).heap.size = w.heap.size + 1 := by simp
/-- Block b holds the grid f. -/
structure IsGrid (w : World) (b : Nat) (f : Nat → Bool) : Prop where mk :: (out : w.heap[b]? = some (.cells (gcells f) 50 (0, 0)))
theorem IsGrid.cell {w : World} {b : Nat} {f : Nat → Bool} (h : IsGrid w b f) (i : Nat) (hi : i < 256) : w.cell? ⟨b, i, none⟩ = some (.bool (f i)) := by
  rw [cell_of_row w b i _ _ _ h.out, gcells_get f i hi]
theorem IsGrid.frozen {w : World} {b : Nat} {f : Nat → Bool} (h : IsGrid w b f) (i : Nat) : w.frozen? ⟨b, i, none⟩ = false := frozen_of_row w b i _ _ h.out
theorem IsGrid.below {w w' : World} {b : Nat} {f : Nat → Bool} {B : Nat} (h : IsGrid w b f) (hb : Below B w w') (hB : b < B) : IsGrid w' b f := ⟨(hb.block b hB).trans h.out⟩
theorem IsGrid.lt {w : World} {b : Nat} {f : Nat → Bool} (h : IsGrid w b f) : b < w.heap.size := (Array.getElem?_eq_some_iff.1 h.out).1
theorem IsGrid.set {w : World} {b : Nat} {f : Nat → Bool} (h : IsGrid w b f) (i : Nat) (x : Bool) : IsGrid (w.setCell ⟨b, i, none⟩ (.bool x)) b (fun j => if j = i then x else f j) :=
  ⟨by rw [heap_setCell_same w b i _ _ _ h.out, gcells_set]⟩
theorem IsGrid.alloc {w : World} {b : Nat} {f : Nat → Bool} (h : IsGrid w b f) (o : Obj) : IsGrid (w.alloc o) b f := ⟨(heap_alloc_old w o h.lt).trans h.out⟩
theorem IsGrid.drew {w : World} {b : Nat} {f : Nat → Bool} (h : IsGrid w b f) : IsGrid w.drew b f := ⟨h.out⟩
theorem IsGrid.drewN {w : World} {b : Nat} {f : Nat → Bool} (h : IsGrid w b f) (n : Nat) : IsGrid (w.drewN n) b f := ⟨h.out⟩
theorem IsGrid.new (w : World) (f : Nat → Bool) : IsGrid (w.alloc (.cells (gcells f) 50)) w.heap.size f := ⟨Go.heap_alloc_new w _⟩
theorem IsGrid.congr {w : World} {b : Nat} {f g : Nat → Bool} (h : IsGrid w b f) (e : ∀ i, i < 256 → f i = g i) : IsGrid w b g := ⟨by rw [← gcells_congr e]; exact h.out⟩
theorem grid_info : (Try.prog.info? 50).map (fun i => (i.zero, i.size)) = some (some (.agg (gcells fun _ => false)), 256) := by kernel_rfl
theorem grid_size : (Try.prog.info? 50).map (·.size) = some 256 := by kernel_rfl
theorem run_zero_grid (W : World) : (zeroValue 50).run Try.prog W = .ok (.agg (gcells fun _ => false)) W := by
  have h := grid_info
  cases hi : Try.prog.info? 50 with
  | none => rw [hi] at h; cases h
  | some i =>
    rw [hi] at h
    simp only [Option.map_some, Option.some.injEq, Prod.mk.injEq] at h
    simp [zeroValue, typeInfo, hi, h.1]
section
variable {P : Program} {ops : Array Oper} {rest : List Oper} {o : Oper} {a : Act} {w : World} {Q : Exit → Act → World → Prop}
theorem wpList_alloc_grid (hgd : o.guard = none) (ho : o.op = .alloc 50)
    (h : wpList Try.prog ops Q rest (a.put o.dst (.pointer (some ⟨w.heap.size, 0, none⟩))) (w.alloc (.cells (gcells fun _ => false) 50))) : wpList Try.prog ops Q (o :: rest) a w := by
  refine wpList_plain hgd fun K hK => ?_
  unfold Oper.wp execOp
  simp only [ho, Instr.alloc, Sem.run_bind, run_zero_grid, Result.andThen_ok]
  exact hK _ _ h
theorem wpList_build_grid (hgd : o.guard = none) (ho : o.op = .build 50 #[])
    (h : wpList Try.prog ops Q rest (a.put o.dst (.agg (gcells fun _ => false))) w) : wpList Try.prog ops Q (o :: rest) a w := by
  have hb : Try.prog.built 50 [] = some (gcells fun _ => false) := by kernel_rfl
  exact wpList_build hgd 50 #[] ho (by simp [hb]) (by simpa [hb] using h)
theorem wpList_store_grid (hgd : o.guard = none) (x y : Operand) (ho : o.op = .store 50 x y) (g : Nat) (f old : Nat → Bool) (hx : a.eval x = .pointer (some ⟨g, 0, none⟩)) (hy : a.eval y = .agg (gcells f)) (hg : IsGrid w g old)
    (h : wpList Try.prog ops Q rest (a.put o.dst undef) (w.setRow g (gcells f))) : wpList Try.prog ops Q (o :: rest) a w :=
  wpList_plain hgd fun _ hK => wp_store_row 50 x y ho g (gcells f) hx hy _ _ hg.out (by rw [gcells_size]; exact grid_size) (by rw [gcells_size, gcells_size]) (gcells_one f) (hK _ _ h)
theorem wpList_load_grid (hgd : o.guard = none) (x : Operand) (ho : o.op = .load 50 x) (g : Nat) (f : Nat → Bool) (hx : a.eval x = .pointer (some ⟨g, 0, none⟩)) (hg : IsGrid w g f)
    (h : wpList Try.prog ops Q rest (a.put o.dst (.agg (gcells f))) w) : wpList Try.prog ops Q (o :: rest) a w :=
  wpList_load_row hgd 50 x ho g hx _ _ _ _ hg.out Try.underlying50 rfl (by rw [gcells_size]; exact grid_size) h
theorem wpList_box_grid (hgd : o.guard = none) (x : Operand) (ho : o.op = .box 50 x) (f : Nat → Bool) (hx : a.eval x = .agg (gcells f))
    (h : wpList Try.prog ops Q rest (a.put o.dst (.pointer (some ⟨w.heap.size, 0, none⟩))) (w.alloc (.cells (gcells f) 50))) : wpList Try.prog ops Q (o :: rest) a w := by
  refine wpList_plain hgd fun K hK => ?_
  unfold Oper.wp execOp
  simp only [ho, hx, Instr.box, Value.cells]
  exact hK _ _ h
end
theorem IsGrid.setRow {w : World} {b : Nat} {f : Nat → Bool} (h : IsGrid w b f) (g : Nat → Bool) : IsGrid (w.setRow b (gcells g)) b g := ⟨setRow_heap w b _ _ _ _ h.out⟩
theorem below_setRow {B : Nat} {w W : World} (h : Below B w W) (b : Nat) (cs : Array Value) (hb : B ≤ b) : Below B w (W.setRow b cs) :=
  ⟨h.os, h.tape, h.output, by simpa using h.size, fun i hi => (setRow_other W b i cs (by omega)).trans (h.block i hi)⟩
theorem setRow_same {w : World} {g : Nat} {cs : Array Value} {t : TypeId} (h : w.heap[g]? = some (.cells cs t (0, 0))) : w.setRow g cs = w := by
  have h2 := setCell_eq_setRow
  have hlt : g < w.heap.size := (Array.getElem?_eq_some_iff.1 h).1
  have hv : w.heap[g] = .cells cs t (0, 0) := (Array.getElem?_eq_some_iff.1 h).2
  unfold World.setRow
  cases w with
  | mk heap tape drawn os output =>
    congr 1
    apply Array.ext
    · simp
    · intro k h1 h2
      simp only [Array.getElem_modify]
      split
      · rename_i hk; subst hk; simp at hv; simp [hv]
      · rfl
section
variable {ops : Array Oper} {rest : List Oper} {o : Oper} {a : Act} {w : World} {Q : Exit → Act → World → Prop}
theorem wpList_store_grid_same (hgd : o.guard = none) (x y : Operand) (ho : o.op = .store 50 x y) (g : Nat) (f : Nat → Bool) (hx : a.eval x = .pointer (some ⟨g, 0, none⟩)) (hy : a.eval y = .agg (gcells f)) (hg : IsGrid w g f)
    (h : wpList Try.prog ops Q rest (a.put o.dst undef) w) : wpList Try.prog ops Q (o :: rest) a w :=
  wpList_store_grid hgd x y ho g f f hx hy hg (by rw [setRow_same hg.out]; exact h)
end
theorem run_index_grid (b y : Nat) (hy : y < 16) (W : World) : (Instr.indexAt 50 (.pointer (some ⟨b, 0, none⟩)) (.int .i64 (y : Int))).run Try.prog W = .ok (.pointer (some ⟨b, y * 16, none⟩)) W := by
  have hu := Try.underlying50
  have hs : (sizeOf 48).run Try.prog W = .ok 16 W := by kernel_rfl
  simp [Instr.indexAt, asIntOf, run_underlying hu, Instr.sureAddr, show ((y : Int) < 16) from by omega, hs, Addr.add]
  rw [if_pos hy]
  by_cases h0 : y * 16 = 0 <;> simp [h0]
theorem run_index_line (b o x : Nat) (hx : x < 16) (W : World) : (Instr.indexAt 48 (.pointer (some ⟨b, o, none⟩)) (.int .i64 (x : Int))).run Try.prog W = .ok (.pointer (some ⟨b, o + x, none⟩)) W := by
  have hu := Try.underlying48
  have hs : (sizeOf 4).run Try.prog W = .ok 1 W := by kernel_rfl
  simp [Instr.indexAt, asIntOf, run_underlying hu, Instr.sureAddr, show ((x : Int) < 16) from by omega, hs, Addr.add]
  rw [if_pos hx]
  by_cases h0 : x = 0 <;> simp [h0]

--SNIP hand_GridMore
theorem IsGrid.otherRow {w : World} {b : Nat} {f : Nat → Bool} (h : IsGrid w b f) (c : Nat) (cs : Array Value) (hne : b ≠ c) : IsGrid (w.setRow c cs) b f := ⟨(setRow_other w c b cs hne).trans h.out⟩
/-! ### Grids in a region whose order is open: the world told by what it holds -/
section
variable {ops : Array Oper} {rest : List Oper} {o : Oper} {a : Act} {w : World} {Q : Exit → Act → World → Prop}
theorem wpList_alloc_grid_abs (hgd : o.guard = none) (ho : o.op = .alloc 50)
    (h : ∀ (b : Nat) (W : World), (∀ c g, IsGrid w c g → IsGrid W c g ∧ c ≠ b) → w.heap.size ≤ b → IsGrid W b (fun _ => false) → Below w.heap.size w W → wpList Try.prog ops Q rest (a.put o.dst (.pointer (some ⟨b, 0, none⟩))) W) : wpList Try.prog ops Q (o :: rest) a w :=
  wpList_alloc_grid hgd ho (h w.heap.size (w.alloc (.cells (gcells fun _ => false) 50)) (fun c g hg => ⟨hg.alloc _, Nat.ne_of_lt hg.lt⟩) (Nat.le_refl _) (IsGrid.new w _) (below_alloc (Below.refl _ _) _))
theorem wpList_store_grid_abs (hgd : o.guard = none) (x y : Operand) (ho : o.op = .store 50 x y) (g : Nat) (f old : Nat → Bool) (hx : a.eval x = .pointer (some ⟨g, 0, none⟩)) (hy : a.eval y = .agg (gcells f)) (hg : IsGrid w g old)
    (h : ∀ W : World, (∀ c k, IsGrid w c k → c ≠ g → IsGrid W c k) → IsGrid W g f → (∀ B w0, B ≤ g → Below B w0 w → Below B w0 W) → wpList Try.prog ops Q rest (a.put o.dst undef) W) : wpList Try.prog ops Q (o :: rest) a w :=
  wpList_store_grid hgd x y ho g f old hx hy hg (h (w.setRow g (gcells f)) (fun c k hk hne => hk.otherRow _ _ hne) (hg.setRow f) (fun B w0 hB hb => below_setRow hb g (gcells f) hB))
end
/-- The world W, come out of w, holds G and Z in the blocks of w's end, and the grids of a list in later blocks. -/
structure St (w W : World) (G Z : Nat → Bool) (l : List (Nat × (Nat → Bool))) : Prop where
  below : Below w.heap.size w W
  g : IsGrid W w.heap.size G
  z : IsGrid W (w.heap.size + 1) Z
  all : ∀ p ∈ l, IsGrid W p.1 p.2 ∧ w.heap.size + 2 ≤ p.1
  apart : (l.map Prod.fst).Nodup
theorem St.call {w W W' : World} {G Z : Nat → Bool} {l : List (Nat × (Nat → Bool))} (h : St w W G Z l) (hb : Below W.heap.size W W') : St w W' G Z l :=
  ⟨below_step h.below hb, h.g.below hb h.g.lt, h.z.below hb h.z.lt, fun p hp => ⟨(h.all p hp).1.below hb (h.all p hp).1.lt, (h.all p hp).2⟩, h.apart⟩
theorem St.drew {w W : World} {G Z : Nat → Bool} {l : List (Nat × (Nat → Bool))} (h : St w W G Z l) : St w W.drew G Z l :=
  ⟨below_drew1 h.below, h.g.drew, h.z.drew, fun p hp => ⟨(h.all p hp).1.drew, (h.all p hp).2⟩, h.apart⟩
theorem St.alloc {w W W' : World} {G Z : Nat → Bool} {l : List (Nat × (Nat → Bool))} {b : Nat} (h : St w W G Z l) (hc : ∀ c g, IsGrid W c g → IsGrid W' c g ∧ c ≠ b) (hs : W.heap.size ≤ b) (hz : IsGrid W' b (fun _ => false)) (hb : Below W.heap.size W W') : St w W' G Z ((b, fun _ => false) :: l) :=
  ⟨below_step h.below hb, (hc _ _ h.g).1, (hc _ _ h.z).1, fun p hp => by
    rcases List.mem_cons.1 hp with rfl | hp
    · exact ⟨hz, by have := h.z.lt; show w.heap.size + 2 ≤ b; omega⟩
    · exact ⟨(hc _ _ (h.all p hp).1).1, (h.all p hp).2⟩, by
    rw [List.map_cons, List.nodup_cons]
    refine ⟨fun hm => ?_, h.apart⟩
    obtain ⟨p, hp, e⟩ := List.mem_map.1 hm
    exact (hc _ _ (h.all p hp).1).2 e⟩
theorem St.at0 {w W : World} {G Z : Nat → Bool} {l : List (Nat × (Nat → Bool))} {b : Nat} {f : Nat → Bool} (h : St w W G Z ((b, f) :: l)) : IsGrid W b f := (h.all (b, f) (by simp)).1
theorem St.at1 {w W : World} {G Z : Nat → Bool} {l : List (Nat × (Nat → Bool))} {p : Nat × (Nat → Bool)} {b : Nat} {f : Nat → Bool} (h : St w W G Z (p :: (b, f) :: l)) : IsGrid W b f := (h.all (b, f) (by simp)).1
theorem St.swap {w W : World} {G Z : Nat → Bool} {p q : Nat × (Nat → Bool)} {l : List (Nat × (Nat → Bool))} (h : St w W G Z (p :: q :: l)) : St w W G Z (q :: p :: l) :=
  ⟨h.below, h.g, h.z, fun x hx => h.all x (by simp only [List.mem_cons] at hx ⊢; rcases hx with h | h | h; exact .inr (.inl h); exact .inl h; exact .inr (.inr h)), by
    have := h.apart
    simp only [List.map_cons, List.nodup_cons, List.mem_cons, not_or] at this ⊢
    exact ⟨⟨fun e => this.1.1 e.symm, this.2.1⟩, this.1.2, this.2.2⟩⟩
theorem St.store0 {w W W' : World} {G Z : Nat → Bool} {l : List (Nat × (Nat → Bool))} {b : Nat} {f f' : Nat → Bool} (h : St w W G Z ((b, f) :: l)) (hc : ∀ c k, IsGrid W c k → c ≠ b → IsGrid W' c k) (hz : IsGrid W' b f') (hb : ∀ B w0, B ≤ b → Below B w0 W → Below B w0 W') : St w W' G Z ((b, f') :: l) := by
  have h2 := (h.all (b, f) (by simp)).2
  have ha := h.apart
  rw [List.map_cons, List.nodup_cons] at ha
  refine ⟨hb _ _ (by show w.heap.size ≤ b; simp only [] at h2; omega) h.below, hc _ _ h.g (by simp only [] at h2; omega), hc _ _ h.z (by simp only [] at h2; omega), fun p hp => ?_, h.apart⟩
  rcases List.mem_cons.1 hp with rfl | hp
  · exact ⟨hz, h2⟩
  · have hp2 := h.all p (by simp [hp])
    exact ⟨hc _ _ hp2.1 (fun e => ha.1 (List.mem_map.2 ⟨p, hp, e⟩)), hp2.2⟩
theorem St.storeG {w W W' : World} {G G' Z : Nat → Bool} {l : List (Nat × (Nat → Bool))} (h : St w W G Z l) (hc : ∀ c k, IsGrid W c k → c ≠ w.heap.size → IsGrid W' c k) (hz : IsGrid W' w.heap.size G') (hb : ∀ B w0, B ≤ w.heap.size → Below B w0 W → Below B w0 W') : St w W' G' Z l :=
  ⟨hb _ _ (Nat.le_refl _) h.below, hz, hc _ _ h.z (by omega), fun p hp => ⟨hc _ _ (h.all p hp).1 (by have := (h.all p hp).2; omega), (h.all p hp).2⟩, h.apart⟩

--SNIP hand_Runs
/-! ### The runs of a grid, as plain mathematics. -/
def endAt (f : Nat → Bool) (y : Nat) : Nat → Nat
  | 0 => 16
  | d + 1 => if f (16 * y + (15 - d)) = true then endAt f y d else 15 - d
/-- Where the run that stands at column x of row y ends. -/
def endOf (f : Nat → Bool) (y x : Nat) : Nat := endAt f y (16 - x)
theorem endOf_out (f : Nat → Bool) (y x : Nat) (h : 16 ≤ x) : endOf f y x = 16 := by
  unfold endOf
  rw [show 16 - x = 0 by omega]
  rfl
theorem endOf_true (f : Nat → Bool) (y x : Nat) (h : x < 16) (hf : f (16 * y + x) = true) : endOf f y x = endOf f y (x + 1) := by
  unfold endOf
  obtain ⟨d, hd⟩ : ∃ d, 16 - x = d + 1 := ⟨15 - x, by omega⟩
  rw [hd, show 16 - (x + 1) = d by omega]
  simp only [endAt]
  rw [show 15 - d = x by omega, if_pos hf]
theorem endOf_false (f : Nat → Bool) (y x : Nat) (h : x < 16) (hf : f (16 * y + x) = false) : endOf f y x = x := by
  unfold endOf
  obtain ⟨d, hd⟩ : ∃ d, 16 - x = d + 1 := ⟨15 - x, by omega⟩
  rw [hd]
  simp only [endAt]
  rw [show 15 - d = x by omega, if_neg (by rw [hf]; simp)]
theorem endOf_facts (f : Nat → Bool) (y : Nat) (d : Nat) : ∀ x, x ≤ 16 → 16 - x = d → x ≤ endOf f y x ∧ endOf f y x ≤ 16 ∧ (∀ i, x ≤ i → i < endOf f y x → f (16 * y + i) = true) ∧ (endOf f y x < 16 → f (16 * y + endOf f y x) = false) := by
  induction d with
  | zero =>
    intro x hx hd
    rw [endOf_out f y x (by omega)]
    exact ⟨by omega, by omega, fun i h1 h2 => by omega, fun h => by omega⟩
  | succ d ih =>
    intro x hx hd
    cases hf : f (16 * y + x) with
    | true =>
      rw [endOf_true f y x (by omega) hf]
      obtain ⟨h1, h2, h3, h4⟩ := ih (x + 1) (by omega) (by omega)
      refine ⟨by omega, h2, fun i hi hi2 => ?_, h4⟩
      rcases Nat.eq_or_lt_of_le hi with h | h
      · subst h
        exact hf
      · exact h3 i h hi2
    | false =>
      rw [endOf_false f y x (by omega) hf]
      exact ⟨by omega, by omega, fun i h1 h2 => by omega, fun _ => hf⟩
theorem endOf_gt (f : Nat → Bool) (y x : Nat) (h : x < 16) (hf : f (16 * y + x) = true) : x < endOf f y x := by
  rw [endOf_true f y x h hf]
  have := (endOf_facts f y (16 - (x + 1)) (x + 1) (by omega) rfl).1
  omega
/-- Does a run begin at this place? -/
def startB (f : Nat → Bool) (i : Nat) : Bool := f i && (decide (i % 16 = 0) || !f (i - 1))
def runAt (f : Nat → Bool) (i : Nat) : Option S45 := if startB f i = true then some ⟨(i / 16 : Nat), (i % 16 : Nat), (endOf f (i / 16) (i % 16) : Nat)⟩ else none
/-- The runs that begin ahead of place n. -/
def runsUpto (f : Nat → Bool) (n : Nat) : List S45 := (List.range n).filterMap (runAt f)
/-- The runs of a grid. -/
def runsL (f : Nat → Bool) : List S45 := runsUpto f 256
theorem runsUpto_zero (f : Nat → Bool) : runsUpto f 0 = [] := rfl
theorem runsUpto_skip (f : Nat → Bool) (n : Nat) (h : startB f n = false) : runsUpto f (n + 1) = runsUpto f n := by
  unfold runsUpto
  rw [List.range_succ, List.filterMap_append]
  simp [runAt, h]
theorem runsUpto_hit (f : Nat → Bool) (n : Nat) (h : startB f n = true) : runsUpto f (n + 1) = runsUpto f n ++ [⟨(n / 16 : Nat), (n % 16 : Nat), (endOf f (n / 16) (n % 16) : Nat)⟩] := by
  unfold runsUpto
  rw [List.range_succ, List.filterMap_append]
  simp [runAt, h]
theorem runsUpto_false (f : Nat → Bool) (n : Nat) (h : f n = false) : runsUpto f (n + 1) = runsUpto f n := runsUpto_skip f n (by simp [startB, h])
theorem runsUpto_run (f : Nat → Bool) (y x : Nat) (hx : x < 16) (hf : f (16 * y + x) = true) (hs : x = 0 ∨ f (16 * y + x - 1) = false) :
    runsUpto f (16 * y + endOf f y x) = runsUpto f (16 * y + x) ++ [⟨(y : Int), (x : Int), (endOf f y x : Nat)⟩] := by
  have hst : startB f (16 * y + x) = true := by
    unfold startB
    rw [hf]
    rcases hs with h | h
    · simp [show (16 * y + x) % 16 = 0 by omega]
    · simp [h]
  have h0 : runsUpto f (16 * y + x + 1) = runsUpto f (16 * y + x) ++ [⟨(y : Int), (x : Int), (endOf f y x : Nat)⟩] := by
    rw [runsUpto_hit f _ hst, show (16 * y + x) / 16 = y by omega, show (16 * y + x) % 16 = x by omega]
  obtain ⟨h1, h2, h3, _⟩ := endOf_facts f y (16 - x) x (by omega) rfl
  have hgt := endOf_gt f y x hx hf
  have hd : ∀ d, x + 1 + d ≤ endOf f y x → runsUpto f (16 * y + x + 1 + d) = runsUpto f (16 * y + x + 1) := by
    intro d
    induction d with
    | zero => intro _; rfl
    | succ d ih =>
      intro hle
      rw [← ih (by omega), show 16 * y + x + 1 + (d + 1) = 16 * y + x + 1 + d + 1 by omega]
      refine runsUpto_skip f _ ?_
      have hp : f (16 * y + (x + d)) = true := h3 (x + d) (by omega) (by omega)
      unfold startB
      rw [show 16 * y + x + 1 + d - 1 = 16 * y + (x + d) by omega, hp]
      simp
      intro _
      omega
  have := hd (endOf f y x - (x + 1)) (by omega)
  rw [show 16 * y + x + 1 + (endOf f y x - (x + 1)) = 16 * y + endOf f y x by omega] at this
  rw [this, h0]
theorem runsUpto_length (f : Nat → Bool) (n : Nat) : (runsUpto f n).length ≤ n := by
  unfold runsUpto
  have := List.length_filterMap_le (runAt f) (List.range n)
  simpa using this

--SNIP hand_Parts
/-! ### Connected pixels -/
/-- Pixels of one row or column beside each other. -/
def nextTo (p q : Nat) : Prop := (q / 16 = p / 16 ∧ (q % 16 = p % 16 + 1 ∨ q % 16 + 1 = p % 16)) ∨ (q % 16 = p % 16 ∧ (q / 16 = p / 16 + 1 ∨ q / 16 + 1 = p / 16))
instance (p q : Nat) : Decidable (nextTo p q) := by unfold nextTo; exact inferInstance
theorem nextTo_comm {p q : Nat} (h : nextTo p q) : nextTo q p := by unfold nextTo at *; omega
/-- One step of spreading. -/
def spreadF (f S : Nat → Bool) (q : Nat) : Bool := S q || (f q && (List.range 256).any fun p => S p && decide (nextTo p q))
def spreadN (f : Nat → Bool) (s : Nat) : Nat → Nat → Bool
  | 0 => fun p => decide (p = s)
  | n + 1 => spreadF f (spreadN f s n)
/-- The pixels of f that are connected with s. -/
def partF (f : Nat → Bool) (s : Nat) : Nat → Bool := spreadN f s 256
/-- Nothing of f lies beside S. -/
def closedF (f S : Nat → Bool) : Prop := ∀ p q, p < 256 → q < 256 → S p = true → nextTo p q → f q = true → S q = true
def cntB (f : Nat → Bool) : Nat → Nat
  | 0 => 0
  | n + 1 => cntB f n + if f n = true then 1 else 0
theorem cntB_le (f : Nat → Bool) (n : Nat) : cntB f n ≤ n := by
  induction n with
  | zero => exact Nat.le_refl _
  | succ n ih => simp only [cntB]; split <;> omega
theorem cntB_congr {f g : Nat → Bool} (n : Nat) (h : ∀ i, i < n → f i = g i) : cntB f n = cntB g n := by
  induction n with
  | zero => rfl
  | succ n ih => simp only [cntB]; rw [ih (fun i hi => h i (by omega)), h n (by omega)]
theorem cntB_mono {f g : Nat → Bool} (n : Nat) (h : ∀ i, i < n → f i = true → g i = true) : cntB f n ≤ cntB g n := by
  induction n with
  | zero => exact Nat.le_refl _
  | succ n ih =>
    have h1 := ih (fun i hi => h i (by omega))
    have h2 := h n (by omega)
    simp only [cntB]
    cases hf : f n with
    | false => simp; omega
    | true => rw [h2 hf]; simp; exact h1
/-- One more pixel. -/
theorem cntB_one {f : Nat → Bool} (k : Nat) (hk : f k = false) (n : Nat) : cntB (fun j => if j = k then true else f j) n = cntB f n + if k < n then 1 else 0 := by
  induction n with
  | zero => rfl
  | succ n ih =>
    simp only [cntB]
    rw [ih]
    by_cases e : n = k
    · subst e
      simp [hk]
    · simp only [e, if_false]
      by_cases hlt : k < n
      · rw [if_pos hlt, if_pos (show k < n + 1 by omega)]; omega
      · rw [if_neg hlt, if_neg (show ¬ k < n + 1 by omega)]; omega
theorem cntB_lt {f g : Nat → Bool} (n : Nat) (h : ∀ i, i < n → f i = true → g i = true) (k : Nat) (hk : k < n) (h0 : f k = false) (h1 : g k = true) : cntB f n < cntB g n := by
  have h2 := cntB_one k h0 n
  rw [if_pos hk] at h2
  have h3 := cntB_mono (f := fun j => if j = k then true else f j) (g := g) n (fun i hi hh => by
    by_cases e : i = k
    · rw [e]; exact h1
    · simp only [e, if_false] at hh; exact h i hi hh)
  omega
theorem spreadF_sub (f S : Nat → Bool) (q : Nat) (h : S q = true) : spreadF f S q = true := by unfold spreadF; rw [h]; rfl
theorem spreadF_iff (f S : Nat → Bool) (q : Nat) : spreadF f S q = true ↔ S q = true ∨ (f q = true ∧ ∃ p, p < 256 ∧ S p = true ∧ nextTo p q) := by
  unfold spreadF
  rw [Bool.or_eq_true, Bool.and_eq_true, List.any_eq_true]
  simp only [List.mem_range, Bool.and_eq_true, decide_eq_true_eq]
theorem spread_stable (f : Nat → Bool) (s : Nat) (hs : s < 256) (n : Nat) : (∀ p, p < 256 → spreadN f s (n + 1) p = spreadN f s n p) ∨ n + 1 ≤ cntB (spreadN f s n) 256 := by
  induction n with
  | zero =>
    right
    have h := cntB_one (f := fun _ => false) s rfl 256
    rw [if_pos hs] at h
    have e := cntB_congr (f := spreadN f s 0) (g := fun j => if j = s then true else false) 256 (fun i _ => by
      show decide (i = s) = _
      by_cases e : i = s <;> simp [e])
    omega
  | succ n ih =>
    rcases ih with h | h
    · left
      intro p hp
      show spreadF f (spreadN f s (n + 1)) p = spreadF f (spreadN f s n) p
      rw [Bool.eq_iff_iff, spreadF_iff, spreadF_iff, h p hp]
      refine or_congr Iff.rfl (and_congr Iff.rfl ?_)
      exact ⟨fun ⟨q, hq, h1, h2⟩ => ⟨q, hq, by rw [← h q hq]; exact h1, h2⟩, fun ⟨q, hq, h1, h2⟩ => ⟨q, hq, by rw [h q hq]; exact h1, h2⟩⟩
    · by_cases he : ∀ p, p < 256 → spreadN f s (n + 1) p = spreadN f s n p
      · left
        intro p hp
        show spreadF f (spreadN f s (n + 1)) p = spreadF f (spreadN f s n) p
        rw [Bool.eq_iff_iff, spreadF_iff, spreadF_iff, he p hp]
        refine or_congr Iff.rfl (and_congr Iff.rfl ?_)
        exact ⟨fun ⟨q, hq, h1, h2⟩ => ⟨q, hq, by rw [← he q hq]; exact h1, h2⟩, fun ⟨q, hq, h1, h2⟩ => ⟨q, hq, by rw [he q hq]; exact h1, h2⟩⟩
      · right
        obtain ⟨p, hp⟩ := Classical.not_forall.1 he
        obtain ⟨hp, hne⟩ := Classical.not_imp.1 hp
        have h0 : spreadN f s n p = false := by
          cases hh : spreadN f s n p with
          | false => rfl
          | true => exact absurd ((spreadF_sub f _ p hh).trans hh.symm) hne
        have h1 : spreadN f s (n + 1) p = true := by
          cases hh : spreadN f s (n + 1) p with
          | true => rfl
          | false => exact absurd (hh.trans h0.symm) hne
        have := cntB_lt (f := spreadN f s n) (g := spreadN f s (n + 1)) 256 (fun i _ hh => spreadF_sub f _ i hh) p hp h0 h1
        omega
theorem partF_closed (f : Nat → Bool) (s : Nat) (hs : s < 256) : closedF f (partF f s) := by
  intro p q hp hq h1 h2 h3
  rcases spread_stable f s hs 256 with h | h
  · unfold partF
    rw [← h q hq]
    exact (spreadF_iff f _ q).2 (.inr ⟨h3, p, hp, h1, h2⟩)
  · have := cntB_le (spreadN f s 256) 256
    omega
theorem spreadN_self (f : Nat → Bool) (s n : Nat) : spreadN f s n s = true := by
  induction n with
  | zero => exact decide_eq_true rfl
  | succ n ih => exact spreadF_sub f _ s ih
theorem partF_self (f : Nat → Bool) (s : Nat) : partF f s s = true := spreadN_self f s 256
theorem partF_least (f T : Nat → Bool) (s : Nat) (hT : T s = true) (hc : closedF f T) (p : Nat) (hp : p < 256) (h : partF f s p = true) : T p = true := by
  have key : ∀ n q, q < 256 → spreadN f s n q = true → T q = true := by
    intro n
    induction n with
    | zero =>
      intro q _ hq
      have : q = s := by simpa [spreadN] using hq
      rw [this]; exact hT
    | succ n ih =>
      intro q hq hh
      rcases (spreadF_iff f _ q).1 hh with h1 | ⟨h1, r, hr, h2, h3⟩
      · exact ih q hq h1
      · exact hc r q hr hq (ih r hr h2) h3 h1
  exact key 256 p hp h
theorem partF_in (f : Nat → Bool) (s : Nat) (hs : f s = true) (p : Nat) (hp : p < 256) (h : partF f s p = true) : f p = true :=
  partF_least f f s hs (fun _ _ _ _ _ _ h => h) p hp h
/-- What has grown out of s until nothing lies beside it is the part of s. -/
theorem partF_of (f S : Nat → Bool) (s : Nat) (h0 : S s = true) (h1 : ∀ p, p < 256 → S p = true → partF f s p = true) (h2 : closedF f S) (p : Nat) (hp : p < 256) : S p = partF f s p := by
  rw [Bool.eq_iff_iff]
  exact ⟨h1 p hp, partF_least f S s h0 h2 p hp⟩
theorem partF_trans (f : Nat → Bool) (a b c : Nat) (ha : a < 256) (hc : c < 256) (h1 : partF f a b = true) (h2 : partF f b c = true) : partF f a c = true :=
  partF_least f (partF f a) b h1 (partF_closed f a ha) c hc h2
theorem partF_symm (f : Nat → Bool) (s t : Nat) (hs : s < 256) (ht : t < 256) (h0 : f s = true) (h : partF f s t = true) : partF f t s = true := by
  have h1 := partF_least f (fun p => f p && partF f p s) s (by simp [h0, partF_self]) (fun p q hp hq h2 h3 h4 => by
    simp only [Bool.and_eq_true] at h2 ⊢
    refine ⟨h4, partF_trans f q p s hq hs ?_ h2.2⟩
    exact partF_closed f q hq q p hq hp (partF_self f q) (nextTo_comm h3) h2.1) t ht h
  simp only [Bool.and_eq_true] at h1
  exact h1.2
/-- The pixels of the parts that begin before n. -/
def seenF (f : Nat → Bool) (n q : Nat) : Bool := (List.range n).any fun p => f p && partF f p q
theorem seenF_iff (f : Nat → Bool) (n q : Nat) : seenF f n q = true ↔ ∃ p, p < n ∧ f p = true ∧ partF f p q = true := by
  unfold seenF
  rw [List.any_eq_true]
  simp only [List.mem_range, Bool.and_eq_true]
theorem seenF_zero (f : Nat → Bool) (q : Nat) : seenF f 0 q = false := rfl
theorem seenF_succ (f : Nat → Bool) (n q : Nat) : seenF f (n + 1) q = (seenF f n q || (f n && partF f n q)) := by
  rw [Bool.eq_iff_iff, Bool.or_eq_true, Bool.and_eq_true, seenF_iff, seenF_iff]
  constructor
  · rintro ⟨p, h1, h2, h3⟩
    by_cases e : p = n
    · subst e; exact .inr ⟨h2, h3⟩
    · exact .inl ⟨p, by omega, h2, h3⟩
  · rintro (⟨p, h1, h2, h3⟩ | ⟨h2, h3⟩)
    · exact ⟨p, by omega, h2, h3⟩
    · exact ⟨n, by omega, h2, h3⟩
/-- The first pixel of its part. -/
def firstF (f : Nat → Bool) (p : Nat) : Bool := f p && !seenF f p p
/-- The parts that begin before n. -/
def partsUpto (f : Nat → Bool) (n : Nat) : List (List S45) := ((List.range n).filter (firstF f)).map fun p => runsL (partF f p)
theorem partsUpto_zero (f : Nat → Bool) : partsUpto f 0 = [] := rfl
theorem partsUpto_first (f : Nat → Bool) (n : Nat) (h : firstF f n = true) : partsUpto f (n + 1) = partsUpto f n ++ [runsL (partF f n)] := by
  unfold partsUpto
  rw [List.range_succ, List.filter_append, List.map_append, List.filter_cons_of_pos h]
  rfl
theorem partsUpto_not (f : Nat → Bool) (n : Nat) (h : firstF f n = false) : partsUpto f (n + 1) = partsUpto f n := by
  unfold partsUpto
  rw [List.range_succ, List.filter_append, List.map_append, List.filter_cons_of_neg (by rw [h]; decide)]
  simp
theorem partsUpto_length (f : Nat → Bool) (n : Nat) : (partsUpto f n).length ≤ n := by
  unfold partsUpto
  rw [List.length_map]
  have := List.length_filter_le (firstF f) (List.range n)
  simpa using this
/-- No part begins at a pixel that has been seen, nor outside. -/
theorem seenF_seen (f : Nat → Bool) (n q : Nat) (hn : n < 256) (hq : q < 256) (h : firstF f n = false) : seenF f (n + 1) q = seenF f n q := by
  rw [seenF_succ]
  cases hf : f n with
  | false => simp
  | true =>
    have hs : seenF f n n = true := by
      unfold firstF at h
      rw [hf] at h
      simpa using h
    rw [Bool.eq_iff_iff]
    simp only [Bool.true_and, Bool.or_eq_true]
    constructor
    · rintro (h1 | h1)
      · exact h1
      · obtain ⟨p, h2, h3, h4⟩ := (seenF_iff f n n).1 hs
        exact (seenF_iff f n q).2 ⟨p, h2, h3, partF_trans f p n q (by omega) hq h4 h1⟩
    · exact fun h1 => .inl h1

--SNIP hand_Squeeze
/-! ### Words by which long printed proofs are said shorter -/
theorem am_ {p : Prop} (h : p) : Aside0 p := ⟨h⟩
theorem blk4_ {w : World} {g t : Nat} {a b c d : Value} (h : w.heap[g]? = some (.cells #[a, b, c, d] t (0, 0))) :
    w.cell? ⟨g, 0, none⟩ = some a ∧ w.cell? ⟨g, 1, none⟩ = some b ∧ w.cell? ⟨g, 2, none⟩ = some c ∧ w.cell? ⟨g, 3, none⟩ = some d ∧ w.frozen? ⟨g, 0, none⟩ = false ∧ w.frozen? ⟨g, 1, none⟩ = false ∧ w.frozen? ⟨g, 2, none⟩ = false ∧ w.frozen? ⟨g, 3, none⟩ = false :=
  ⟨(blk_cell h 0).trans rfl, (blk_cell h 1).trans rfl, (blk_cell h 2).trans rfl, (blk_cell h 3).trans rfl, blk_frozen h 0, blk_frozen h 1, blk_frozen h 2, blk_frozen h 3⟩
theorem far1_ {w : World} {g g' t : Nat} {cs : Array Value} (h : w.heap[g]? = some (.cells cs t (0, 0))) (hne : g ≠ g') (u0 : Value) :
    (w.setCell ⟨g', 0, none⟩ u0).heap[g]? = some (.cells cs t (0, 0)) := (blk_far (p := ⟨g', 0, none⟩) h hne u0)
theorem put1_ {w : World} {g t : Nat} {a b c d : Value} (h : w.heap[g]? = some (.cells #[a, b, c, d] t (0, 0))) (u0 : Value) :
    (w.setCell ⟨g, 0, none⟩ u0).heap[g]? = some (.cells #[u0, b, c, d] t (0, 0)) := (blk_put h 0 u0 rfl)
theorem far2_ {w : World} {g g' t : Nat} {cs : Array Value} (h : w.heap[g]? = some (.cells cs t (0, 0))) (hne : g ≠ g') (u0 u1 : Value) :
    ((w.setCell ⟨g', 0, none⟩ u0).setCell ⟨g', 1, none⟩ u1).heap[g]? = some (.cells cs t (0, 0)) := (blk_far (p := ⟨g', 1, none⟩) (blk_far (p := ⟨g', 0, none⟩) h hne u0) hne u1)
theorem put2_ {w : World} {g t : Nat} {a b c d : Value} (h : w.heap[g]? = some (.cells #[a, b, c, d] t (0, 0))) (u0 u1 : Value) :
    ((w.setCell ⟨g, 0, none⟩ u0).setCell ⟨g, 1, none⟩ u1).heap[g]? = some (.cells #[u0, u1, c, d] t (0, 0)) := (blk_put (blk_put h 0 u0 rfl) 1 u1 rfl)
theorem far3_ {w : World} {g g' t : Nat} {cs : Array Value} (h : w.heap[g]? = some (.cells cs t (0, 0))) (hne : g ≠ g') (u0 u1 u2 : Value) :
    (((w.setCell ⟨g', 0, none⟩ u0).setCell ⟨g', 1, none⟩ u1).setCell ⟨g', 2, none⟩ u2).heap[g]? = some (.cells cs t (0, 0)) := (blk_far (p := ⟨g', 2, none⟩) (blk_far (p := ⟨g', 1, none⟩) (blk_far (p := ⟨g', 0, none⟩) h hne u0) hne u1) hne u2)
theorem put3_ {w : World} {g t : Nat} {a b c d : Value} (h : w.heap[g]? = some (.cells #[a, b, c, d] t (0, 0))) (u0 u1 u2 : Value) :
    (((w.setCell ⟨g, 0, none⟩ u0).setCell ⟨g, 1, none⟩ u1).setCell ⟨g, 2, none⟩ u2).heap[g]? = some (.cells #[u0, u1, u2, d] t (0, 0)) := (blk_put (blk_put (blk_put h 0 u0 rfl) 1 u1 rfl) 2 u2 rfl)
theorem put1_2 {w : World} {g t : Nat} {a b : Value} (h : w.heap[g]? = some (.cells #[a, b] t (0, 0))) (u0 : Value) :
    (w.setCell ⟨g, 0, none⟩ u0).heap[g]? = some (.cells #[u0, b] t (0, 0)) := (blk_put h 0 u0 rfl)
theorem put2_2 {w : World} {g t : Nat} {a b : Value} (h : w.heap[g]? = some (.cells #[a, b] t (0, 0))) (u0 u1 : Value) :
    ((w.setCell ⟨g, 0, none⟩ u0).setCell ⟨g, 1, none⟩ u1).heap[g]? = some (.cells #[u0, u1] t (0, 0)) := (blk_put (blk_put h 0 u0 rfl) 1 u1 rfl)
theorem put1_3 {w : World} {g t : Nat} {a b c : Value} (h : w.heap[g]? = some (.cells #[a, b, c] t (0, 0))) (u0 : Value) :
    (w.setCell ⟨g, 0, none⟩ u0).heap[g]? = some (.cells #[u0, b, c] t (0, 0)) := (blk_put h 0 u0 rfl)
theorem put2_3 {w : World} {g t : Nat} {a b c : Value} (h : w.heap[g]? = some (.cells #[a, b, c] t (0, 0))) (u0 u1 : Value) :
    ((w.setCell ⟨g, 0, none⟩ u0).setCell ⟨g, 1, none⟩ u1).heap[g]? = some (.cells #[u0, u1, c] t (0, 0)) := (blk_put (blk_put h 0 u0 rfl) 1 u1 rfl)
theorem put3_3 {w : World} {g t : Nat} {a b c : Value} (h : w.heap[g]? = some (.cells #[a, b, c] t (0, 0))) (u0 u1 u2 : Value) :
    (((w.setCell ⟨g, 0, none⟩ u0).setCell ⟨g, 1, none⟩ u1).setCell ⟨g, 2, none⟩ u2).heap[g]? = some (.cells #[u0, u1, u2] t (0, 0)) := (blk_put (blk_put (blk_put h 0 u0 rfl) 1 u1 rfl) 2 u2 rfl)
theorem far4_ {w : World} {g g' t : Nat} {cs : Array Value} (h : w.heap[g]? = some (.cells cs t (0, 0))) (hne : g ≠ g') (u0 u1 u2 u3 : Value) :
    ((((w.setCell ⟨g', 0, none⟩ u0).setCell ⟨g', 1, none⟩ u1).setCell ⟨g', 2, none⟩ u2).setCell ⟨g', 3, none⟩ u3).heap[g]? = some (.cells cs t (0, 0)) := (blk_far (p := ⟨g', 3, none⟩) (blk_far (p := ⟨g', 2, none⟩) (blk_far (p := ⟨g', 1, none⟩) (blk_far (p := ⟨g', 0, none⟩) h hne u0) hne u1) hne u2) hne u3)
theorem put4_ {w : World} {g t : Nat} {a b c d : Value} (h : w.heap[g]? = some (.cells #[a, b, c, d] t (0, 0))) (u0 u1 u2 u3 : Value) :
    ((((w.setCell ⟨g, 0, none⟩ u0).setCell ⟨g, 1, none⟩ u1).setCell ⟨g, 2, none⟩ u2).setCell ⟨g, 3, none⟩ u3).heap[g]? = some (.cells #[u0, u1, u2, u3] t (0, 0)) := (blk_put (blk_put (blk_put (blk_put h 0 u0 rfl) 1 u1 rfl) 2 u2 rfl) 3 u3 rfl)
section
variable {α : Type} {d : Kd α} {e base g t : Nat} {ok : Nat → Prop} {w : World} {v : Value} {xs : List α} {cells : Array Value}
theorem R1_ (h : d.R e w base ok v xs) (hb : w.heap[g]? = some (.cells cells t (0, 0))) (ht : ∀ q, q ∈ e :: d.E → q ≠ t) (u0 : Value) :
    d.R e (w.setCell ⟨g, 0, none⟩ u0) base ok v xs := Kd.R_mono (Kd.R_far (p := ⟨g, 0, none⟩) (Kd.R_types h hb ht) (fun _ hk => hk.2) u0) (fun _ h_ => h_.1)
theorem Q1_ (h : d.Q e w base ok v xs) (hb : w.heap[g]? = some (.cells cells t (0, 0))) (ht : ∀ q, q ∈ e :: d.E → q ≠ t) (u0 : Value) :
    d.Q e (w.setCell ⟨g, 0, none⟩ u0) base ok v xs := Kd.Q_mono (Kd.Q_far (p := ⟨g, 0, none⟩) (Kd.Q_types h hb ht) (fun _ hk => hk.2) u0) (fun _ h_ => h_.1)
theorem R2_ (h : d.R e w base ok v xs) (hb : w.heap[g]? = some (.cells cells t (0, 0))) (ht : ∀ q, q ∈ e :: d.E → q ≠ t) (u0 u1 : Value) :
    d.R e ((w.setCell ⟨g, 0, none⟩ u0).setCell ⟨g, 1, none⟩ u1) base ok v xs := Kd.R_mono (Kd.R_far (p := ⟨g, 1, none⟩) (Kd.R_far (p := ⟨g, 0, none⟩) (Kd.R_types h hb ht) (fun _ hk => hk.2) u0) (fun _ hk => hk.2) u1) (fun _ h_ => h_.1)
theorem Q2_ (h : d.Q e w base ok v xs) (hb : w.heap[g]? = some (.cells cells t (0, 0))) (ht : ∀ q, q ∈ e :: d.E → q ≠ t) (u0 u1 : Value) :
    d.Q e ((w.setCell ⟨g, 0, none⟩ u0).setCell ⟨g, 1, none⟩ u1) base ok v xs := Kd.Q_mono (Kd.Q_far (p := ⟨g, 1, none⟩) (Kd.Q_far (p := ⟨g, 0, none⟩) (Kd.Q_types h hb ht) (fun _ hk => hk.2) u0) (fun _ hk => hk.2) u1) (fun _ h_ => h_.1)
theorem R3_ (h : d.R e w base ok v xs) (hb : w.heap[g]? = some (.cells cells t (0, 0))) (ht : ∀ q, q ∈ e :: d.E → q ≠ t) (u0 u1 u2 : Value) :
    d.R e (((w.setCell ⟨g, 0, none⟩ u0).setCell ⟨g, 1, none⟩ u1).setCell ⟨g, 2, none⟩ u2) base ok v xs := Kd.R_mono (Kd.R_far (p := ⟨g, 2, none⟩) (Kd.R_far (p := ⟨g, 1, none⟩) (Kd.R_far (p := ⟨g, 0, none⟩) (Kd.R_types h hb ht) (fun _ hk => hk.2) u0) (fun _ hk => hk.2) u1) (fun _ hk => hk.2) u2) (fun _ h_ => h_.1)
theorem Q3_ (h : d.Q e w base ok v xs) (hb : w.heap[g]? = some (.cells cells t (0, 0))) (ht : ∀ q, q ∈ e :: d.E → q ≠ t) (u0 u1 u2 : Value) :
    d.Q e (((w.setCell ⟨g, 0, none⟩ u0).setCell ⟨g, 1, none⟩ u1).setCell ⟨g, 2, none⟩ u2) base ok v xs := Kd.Q_mono (Kd.Q_far (p := ⟨g, 2, none⟩) (Kd.Q_far (p := ⟨g, 1, none⟩) (Kd.Q_far (p := ⟨g, 0, none⟩) (Kd.Q_types h hb ht) (fun _ hk => hk.2) u0) (fun _ hk => hk.2) u1) (fun _ hk => hk.2) u2) (fun _ h_ => h_.1)
theorem R4_ (h : d.R e w base ok v xs) (hb : w.heap[g]? = some (.cells cells t (0, 0))) (ht : ∀ q, q ∈ e :: d.E → q ≠ t) (u0 u1 u2 u3 : Value) :
    d.R e ((((w.setCell ⟨g, 0, none⟩ u0).setCell ⟨g, 1, none⟩ u1).setCell ⟨g, 2, none⟩ u2).setCell ⟨g, 3, none⟩ u3) base ok v xs := Kd.R_mono (Kd.R_far (p := ⟨g, 3, none⟩) (Kd.R_far (p := ⟨g, 2, none⟩) (Kd.R_far (p := ⟨g, 1, none⟩) (Kd.R_far (p := ⟨g, 0, none⟩) (Kd.R_types h hb ht) (fun _ hk => hk.2) u0) (fun _ hk => hk.2) u1) (fun _ hk => hk.2) u2) (fun _ hk => hk.2) u3) (fun _ h_ => h_.1)
theorem Q4_ (h : d.Q e w base ok v xs) (hb : w.heap[g]? = some (.cells cells t (0, 0))) (ht : ∀ q, q ∈ e :: d.E → q ≠ t) (u0 u1 u2 u3 : Value) :
    d.Q e ((((w.setCell ⟨g, 0, none⟩ u0).setCell ⟨g, 1, none⟩ u1).setCell ⟨g, 2, none⟩ u2).setCell ⟨g, 3, none⟩ u3) base ok v xs := Kd.Q_mono (Kd.Q_far (p := ⟨g, 3, none⟩) (Kd.Q_far (p := ⟨g, 2, none⟩) (Kd.Q_far (p := ⟨g, 1, none⟩) (Kd.Q_far (p := ⟨g, 0, none⟩) (Kd.Q_types h hb ht) (fun _ hk => hk.2) u0) (fun _ hk => hk.2) u1) (fun _ hk => hk.2) u2) (fun _ hk => hk.2) u3) (fun _ h_ => h_.1)
end

--SNIP hand_Words
/-! ### Words of this work: calls through a function value; a callee that only reads. -/
section
variable {P : Program} {ops : Array Oper} {Q : Exit → Act → World → Prop}
/-- A call through a value that is a function with what it captured. -/
theorem goesV {rest : List Oper} {oi : Oper} {a : Act} {w : World} (N : Option Tmp) (hd : oi.dst = N) (hg : oi.guard = none) {f : FuncId} {fn : Func} {x : Operand} {as0 : Array Operand} {ts : Array TypeId} {caps : Array Value}
    (hf : P.funcs[f]? = some fn) (hname : (fn.name == "runtime.NumGoroutine") = false) (hb : fn.body.isSome = true) (args : Array Value)
    (hop : oi.op = .call { callee := .value x, args := as0, argTypes := ts }) (hx : a.eval x = .func (.func f) #[] caps) (hargs : as0.map a.eval ++ caps = args)
    (h : Calls P f args w fun e w' => ∃ v, e = .returned v ∧ wpList P ops Q rest (a.put N v) w') : wpList P ops Q (oi :: rest) a w := by
  refine wpList_plain hg fun K hK => ?_
  have he := enters_ hf hname hb args w
  have hrun : (execOp a.eval oi).run P w = .ok (.enter f args) w := by
    unfold execOp
    simp [hop, resolve, Deferred.ofValue, invoke, hx, hargs, he]
  unfold Oper.wp
  rw [hrun, Oper.upon_enter]
  refine h.mono fun e w'' hh => ?_
  obtain ⟨v, rfl, hk⟩ := hh
  subst hd
  exact hK _ _ hk
end
/-! ### 'From some number of rounds on': small steps -/
theorem evIf {α : Type} {c : Prop} [Decidable c] {f g : Nat → Option α} {r : α} (h1 : c → Ev f r) (h2 : ¬ c → Ev g r) : Ev (fun k => if c then f k else g k) r := by
  by_cases h : c
  · simp only [if_pos h]; exact h1 h
  · simp only [if_neg h]; exact h2 h
theorem evPos {α : Type} {c : Prop} [Decidable c] {f g : Nat → Option α} {r : α} (h : c) (h1 : Ev f r) : Ev (fun k => if c then f k else g k) r := evIf (fun _ => h1) (fun hn => absurd h hn)
theorem evNeg {α : Type} {c : Prop} [Decidable c] {f g : Nat → Option α} {r : α} (h : ¬ c) (h1 : Ev g r) : Ev (fun k => if c then f k else g k) r := evIf (fun hn => absurd hn h) (fun _ => h1)
theorem evRet {α : Type} {a r : α} (h : a = r) : Ev (fun _ => some a) r := h ▸ Ev.now _
theorem evBind {α β : Type} {g : Nat → Option α} {f : Nat → α → Option β} {a : α} {r : β} (h : Ev g a) (k : Ev (fun n => f n a) r) : Ev (fun n => (g n).bind fun t => f n t) r := Ev.bind h k
theorem evFix {α β : Type} {g : Option α} {f : Nat → α → Option β} {a : α} {r : β} (h : g = some a) (k : Ev (fun n => f n a) r) : Ev (fun n => g.bind fun t => f n t) r := by
  subst h
  exact k
theorem wrapNat (n : Nat) (h : n ≤ 9223372036854775807) : wrap64 (n : Int) = (n : Int) := by unfold wrap64; omega
theorem wrapIn {x : Int} (h0 : -9223372036854775808 ≤ x) (h1 : x ≤ 9223372036854775807) : wrap64 x = x := by unfold wrap64; omega
theorem wrapSucc (n : Nat) (h : n < 9223372036854775807) : wrap64 ((n : Int) + 1) = ((n + 1 : Nat) : Int) := by unfold wrap64; omega
theorem qrow_raise {w : World} {b b' e size n : Nat} {v : Value} {xs : List Value} (h : QRow w b e size v n xs) (hb : ∀ k, v.ownBlock = some k → b' ≤ k) : QRow w b' e size v n xs := by
  obtain ⟨h1, h2⟩ := h
  refine ⟨h1, ?_⟩
  rcases h2 with ⟨hn, A, rfl, hA⟩ | ⟨g, off, cap, cur, rfl, _, r⟩
  · refine .inl ⟨hn, A, rfl, fun a ha => ⟨hb a.block ?_, (hA a ha).2⟩⟩
    rw [ha]
    simp [Value.ownBlock]
  · exact .inr ⟨g, off, cap, cur, rfl, hb g (by simp [Value.ownBlock]), r⟩
/-- As Kd.R_raise, of a part of a row. -/
theorem q_raise {α : Type} {d : Kd α} {e b b' : Nat} {W : World} {ok : Nat → Prop} {v : Value} {xs : List α} (hM : ∀ w ok x cs, d.M w b ok x cs → d.M w b' ok x cs) (h : d.Q e W b ok v xs) (hb : ∀ k, v.ownBlock = some k → b' ≤ k) : d.Q e W b' ok v xs := by
  obtain ⟨h0, inner, ho, hr⟩ := h
  exact ⟨h0, inner, qrow_raise ho hb, hr.imp_ (fun _ _ hp => hM _ _ _ _ hp)⟩

--SNIP impl_gridOf
/-- The pixels of runs. -/
def inRun (r : S45) (i : Nat) : Bool := decide (r.f0 = (i / 16 : Nat)) && decide (r.f1 ≤ (i % 16 : Nat)) && decide (((i % 16 : Nat) : Int) < r.f2)
def gridF (l : List S45) (i : Nat) : Bool := l.any fun r => inRun r i
/-- Each run lies on the grid. -/
def RunsOk (l : List S45) : Prop := ∀ r ∈ l, 0 ≤ r.f0 ∧ r.f0 < 16 ∧ 0 ≤ r.f1 ∧ r.f1 < r.f2 ∧ r.f2 ≤ 16
theorem gridF_nil (i : Nat) : gridF [] i = false := rfl
theorem gridF_snoc (l : List S45) (r : S45) (i : Nat) : gridF (l ++ [r]) i = (gridF l i || inRun r i) := by simp [gridF]
theorem rdRun_get (l : List S45) (k : Nat) (h : k < l.length) : rd_T45 l (k : Int) = l[k] := by
  simp [rd_T45, List.getD_eq_getElem?_getD, List.getElem?_eq_getElem h]
theorem take_snoc_ {α : Type} (l : List α) (k : Nat) (h : k < l.length) : l.take (k + 1) = l.take k ++ [l[k]] := by
  rw [List.take_succ_eq_append_getElem h]
/-- Block b holds one run. -/
structure IsRun (w : World) (b : Nat) (Y F T : Int) : Prop where mk :: (out : w.heap[b]? = some (.cells #[.int .i64 Y, .int .i64 F, .int .i64 T] 45 (0, 0)))
theorem IsRun.c0 {w : World} {b : Nat} {Y F T : Int} (h : IsRun w b Y F T) : w.cell? ⟨b, 0, none⟩ = some (.int .i64 Y) := (cell_of_row w b 0 _ _ _ h.out).trans rfl
theorem IsRun.c1 {w : World} {b : Nat} {Y F T : Int} (h : IsRun w b Y F T) : w.cell? ⟨b, 1, none⟩ = some (.int .i64 F) := (cell_of_row w b 1 _ _ _ h.out).trans rfl
theorem IsRun.c2 {w : World} {b : Nat} {Y F T : Int} (h : IsRun w b Y F T) : w.cell? ⟨b, 2, none⟩ = some (.int .i64 T) := (cell_of_row w b 2 _ _ _ h.out).trans rfl
theorem IsGrid.other {w : World} {b : Nat} {f : Nat → Bool} (h : IsGrid w b f) (a : Addr) (v : Value) (hne : b ≠ a.block) : IsGrid (w.setCell a v) b f := ⟨(heap_setCell_other w a b v hne).trans h.out⟩
theorem IsRun.other {w : World} {b : Nat} {Y F T : Int} (h : IsRun w b Y F T) (a : Addr) (v : Value) (hne : b ≠ a.block) : IsRun (w.setCell a v) b Y F T := ⟨(heap_setCell_other w a b v hne).trans h.out⟩
set_option maxHeartbeats 8000000 in
set_option maxRecDepth 100000 in
theorem impl_gridOf.any (A0 : Option Addr) (c0 : Nat) (l0 : List S45) (w : World) (hr0 : Kd.C k45 w A0 l0.length l0) (hm0 : l0.length ≤ 9223372036854775807) (hv : RunsOk l0) :
    Calls Try.prog 30 #[.slice A0 l0.length c0] w fun e w' => e = .returned (.agg (gcells (gridF l0))) ∧ Below w.heap.size w w' := by
  have hu45 := Try.underlying45
  have HR := Aside0.mk hr0
  have HV := Aside0.mk hv
  clear hr0 hv
  go_enter Try.func30, Try.ntmps30
  go_wp2_with (first | (refine wpList_alloc_grid rfl rfl ?_; (try simp only [gsize_alloc])) | (refine wpList_build_grid rfl rfl ?_) | (refine wpList_store_grid_same rfl _ _ rfl (w.heap.size + 1) (fun _ => false) rfl rfl ⟨heap_alloc2_new w _ _⟩ ?_))
  go_loopw [10] (fun i wr => ∃ k : Nat, k ≤ l0.length ∧ i = .int .i64 k ∧ IsGrid wr (w.heap.size + 1) (gridF (l0.take k)) ∧ IsGrid wr w.heap.size (fun _ => false) ∧ Aside0 (Below w.heap.size w wr)) (fun i _ => l0.length - (intOf i).toNat)
  case atStart => exact ⟨0, by omega, rfl, (⟨heap_alloc2_new w _ _⟩ : IsGrid _ _ (fun _ => false)).congr (fun i _ => by rw [List.take_zero, gridF_nil]), ⟨heap_alloc2_old w _ _⟩, ⟨((Below.refl w.heap.size w).alloc (Nat.le_refl _) _).alloc (by simp) _⟩⟩
  case round =>
    obtain ⟨k, hk, rfl, HG, HZ, HB⟩ := hrel
    by_cases hlt : k < l0.length
    · obtain ⟨wo, rfl⟩ : ∃ wo : World, wo = wr := ⟨_, rfl⟩
      have hdk : decide ((k : Int) < (l0.length : Int)) = true := decide_eq_true (by omega)
      obtain ⟨ad, e, hx0, hx1, hx2⟩ := at_T45 HR.out (k : Int) (by omega) (by omega)
      cases e
      rw [rdRun_get l0 k hlt] at hx0 hx1 hx2
      simp only [Int.toNat_natCast] at hx0 hx1 hx2
      obtain ⟨v0, v1, v2, v3, v4⟩ := HV.out l0[k] (List.getElem_mem hlt)
      obtain ⟨Y, hY⟩ : ∃ Y : Nat, l0[k].f0 = (Y : Int) := ⟨l0[k].f0.toNat, by omega⟩
      obtain ⟨F, hF⟩ : ∃ F : Nat, l0[k].f1 = (F : Int) := ⟨l0[k].f1.toNat, by omega⟩
      obtain ⟨T, hT⟩ : ∃ T : Nat, l0[k].f2 = (T : Int) := ⟨l0[k].f2.toNat, by omega⟩
      have HI : Aside0 (∀ i, inRun l0[k] i = (decide (i / 16 = Y) && decide (F ≤ i % 16) && decide (i % 16 < T))) := ⟨fun i => by
        unfold inRun
        rw [hY, hF, hT]
        congr 1
        · congr 1
          · exact decide_eq_decide.mpr (by omega)
          · exact decide_eq_decide.mpr (by omega)
        · exact decide_eq_decide.mpr (by omega)⟩
      rw [hY] at hx0 v0 v1
      rw [hF] at hx1 v2 v3
      rw [hT] at hx2 v3 v4
      have hY16 : Y < 16 := by omega
      have hFT : F < T := by omega
      have hT16 : T ≤ 16 := by omega
      clear hY hF hT v0 v1 v2 v3 v4
      replace hx0 := (HB.out.cell (World.block_lt_of_cell? w _ hx0)).trans hx0
      replace hx1 := (HB.out.cell (World.block_lt_of_cell? w _ hx1)).trans hx1
      replace hx2 := (HB.out.cell (World.block_lt_of_cell? w _ hx2)).trans hx2
      have HTK := Aside0.mk (take_snoc_ l0 k hlt)
      go_wp2
      go_loopw [6] (fun i wr => ∃ x : Nat, F ≤ x ∧ x ≤ T ∧ i = .int .i64 x ∧ IsGrid wr (w.heap.size + 1) (fun i => gridF (l0.take k) i || (decide (i / 16 = Y) && decide (F ≤ i % 16) && decide (i % 16 < x))) ∧ IsGrid wr w.heap.size (fun _ => false) ∧ IsRun wr wo.heap.size Y F T ∧ Aside0 (Below w.heap.size w wr)) (fun i _ => 16 - (intOf i).toNat)
      case atStart =>
        refine ⟨F, by omega, by omega, rfl, (HG.alloc _).congr (fun i hi => ?_), HZ.alloc _, ⟨heap_alloc_new wo _⟩, ⟨below_alloc HB.out _⟩⟩
        by_cases h1 : F ≤ i % 16
        · rw [decide_eq_false (p := i % 16 < F) (by omega)]
          simp
        · rw [decide_eq_false (p := F ≤ i % 16) h1]
          simp
      case round =>
        have hbs : wo.heap.size ≠ w.heap.size + 1 := by have := HG.lt; omega
        clear hx0 hx1 hx2 HG HZ HB
        obtain ⟨x, hx1, hx2, rfl, HG, HZ, HU, HB⟩ := hrel
        have hr0 := HU.c0
        have hr2 := HU.c2
        by_cases hlx : x < T
        · have hdx : decide ((x : Int) < (T : Int)) = true := decide_eq_true (by omega)
          have hi1 := run_index_grid (w.heap.size + 1) Y hY16
          have hi2 := run_index_line (w.heap.size + 1) (Y * 16) x (by omega)
          have hc := HG.cell (Y * 16 + x) (by omega)
          have hf := HG.frozen (Y * 16 + x)
          go_wp2
          go_roundw
          case rel =>
            refine ⟨x + 1, by omega, by omega, by go_num, (HG.set (Y * 16 + x) true).congr (fun i hi => ?_), HZ.other _ _ (by simp), HU.other _ _ hbs, ⟨below_set HB.out (show w.heap.size ≤ w.heap.size + 1 by omega)⟩⟩
            by_cases h1 : i = Y * 16 + x
            · subst h1
              rw [if_pos rfl, decide_eq_true (by omega), decide_eq_true (by omega), decide_eq_true (by omega)]
              simp
            · rw [if_neg h1]
              congr 1
              by_cases h2 : i / 16 = Y
              · congr 1
                exact decide_eq_decide.mpr (by omega)
              · rw [decide_eq_false h2]
                simp
          case measure => simp [intOf]; omega
        · have hdx : decide ((x : Int) < (T : Int)) = false := decide_eq_false (by omega)
          go_wp2
          go_roundw
          case rel =>
            refine ⟨k + 1, by omega, by go_num, HG.congr (fun i hi => ?_), HZ, HB⟩
            rw [HTK.out, gridF_snoc, HI.out, show x = T by omega]
          case measure => simp [intOf]; omega
    · have hk' : k = l0.length := by omega
      subst hk'
      go_wp2_with (first | (refine wpList_load_grid rfl _ rfl (w.heap.size + 1) _ rfl HG ?_) | (refine wpList_store_grid rfl _ _ rfl w.heap.size _ _ rfl rfl HZ ?_))
      refine bodyPost_ret (results_cell_row rfl _ _ w.heap.size _ _ _ _ rfl (HZ.setRow _).out Try.underlying50 rfl (by rw [gcells_size]; exact grid_size)) rfl ⟨?_, ?_⟩
      · rw [List.take_of_length_le (Nat.le_refl _)]
      · exact below_setRow HB.out _ _ (Nat.le_refl _)

--SNIP impl_grid_runs
set_option maxHeartbeats 8000000 in
set_option maxRecDepth 100000 in
theorem impl_grid_runs.any (f : Nat → Bool) (w : World) :
    Calls Try.prog 32 #[.agg (gcells f)] w fun e w' => ∃ v0_ : Value, e = .returned v0_ ∧ Kd.R k45 45 w' w.heap.size (fun _ => True) v0_ (runsL f) ∧ Below w.heap.size w w' := by
  have hu45 := Try.underlying45
  have HB := Aside0.mk (below_alloc (Below.refl w.heap.size w) (.cells (gcells f) 50))
  have HG := IsGrid.new w f
  go_enter Try.func32, Try.ntmps32
  go_wp2_with (first | (refine wpList_box_grid rfl _ rfl f rfl ?_) | ((with_reducible refine gate_dst (N := 7) rfl ?_); refine Kd.R_lit k45 _ 45 ?hg (N := 7) ?hd (xs := ([] : List (S45))) (inner := []) (ok := fun _ => True) (okp := fun _ => True) ?hr ?hp (fun _ hk => hk) trivial (Below.refl _ _) (Nat.le_refl _) (by simp) ?_; (case hd => rfl); (case hg => rfl); (case hr => first | (go_simp; done) | (go_simp; rfl)); (case hp => exact (Reps.none _ _)); intro v104 w2 ho3 hb hg_ hnew_; clear hg_ hnew_; replace ho3 := Kd.R_lower ho3 (below_size HB.out); have HG1 := HG.below hb HG.lt; replace hb := below_step HB.out hb; clear HB HG))
  go_loopw [3, 8] (fun v i wr => ∃ y : Nat, y ≤ 16 ∧ i = .int .i64 y ∧ IsGrid wr w.heap.size f ∧ Aside0 (Kd.R k45 45 wr w.heap.size (fun _ => True) v (runsUpto f (16 * y))) ∧ Aside0 (Below w.heap.size w wr)) (fun _ i _ => 16 - (intOf i).toNat)
  case atStart => exact ⟨0, by omega, rfl, HG1, ⟨by (with_reducible repeat (first | apply Kd.R_alloc | apply Kd.R_drewN | apply Kd.R_drew)); exact ho3⟩, ⟨hb⟩⟩
  case round =>
    clear HG1 ho3 hb
    obtain ⟨y, hy, rfl, HG, HO, HB⟩ := hrel
    by_cases hlt : y < 16
    · obtain ⟨wo, rfl⟩ : ∃ wo : World, wo = wr := ⟨_, rfl⟩
      have hdy : decide ((y : Int) < 16) = true := decide_eq_true (by omega)
      go_wp2
      go_loopw [3, 5] (fun v i wr => ∃ x : Nat, x ≤ 17 ∧ i = .int .i64 x ∧ Aside0 (x = 0 ∨ 16 ≤ x ∨ f (16 * y + x - 1) = false) ∧ IsGrid wr w.heap.size f ∧ Aside0 (Kd.R k45 45 wr w.heap.size (fun _ => True) v (runsUpto f (16 * y + min x 16))) ∧ Aside0 (Below w.heap.size w wr)) (fun _ i _ => 17 - (intOf i).toNat)
      case atStart => exact ⟨0, by omega, rfl, ⟨.inl rfl⟩, HG, HO, HB⟩
      case round =>
        clear HG HO HB
        obtain ⟨x, hx, rfl, HS, HG, HO, HB⟩ := hrel
        by_cases hlx : x < 16
        · have hdx : decide ((x : Int) < 16) = true := decide_eq_true (by omega)
          have hi1 := run_index_grid w.heap.size y hlt
          have hi2 := run_index_line w.heap.size (y * 16) x hlx
          have hc : wr.cell? ⟨w.heap.size, y * 16 + x, none⟩ = some (.bool (f (16 * y + x))) := by rw [HG.cell _ (by omega), Nat.mul_comm]
          cases hf : f (16 * y + x) with
          | false =>
            have HF := Aside0.mk hf
            rw [hf] at hc
            clear hf
            go_wp2
            go_roundw
            case rel => exact ⟨x + 1, by omega, by go_num, ⟨.inr (.inr (by rw [show 16 * y + (x + 1) - 1 = 16 * y + x by omega]; exact HF.out))⟩, HG, ⟨by rw [show 16 * y + min (x + 1) 16 = 16 * y + x + 1 by omega, runsUpto_false f _ HF.out, show 16 * y + x = 16 * y + min x 16 by omega]; exact HO.out⟩, HB⟩
            case measure => simp [intOf]; omega
          | true =>
            have HF := Aside0.mk hf
            rw [hf] at hc
            clear hf
            have HE := Aside0.mk (endOf_facts f y (16 - x) x (by omega) rfl)
            have HGT := Aside0.mk (endOf_gt f y x hlx HF.out)
            obtain ⟨wi, rfl⟩ : ∃ wi : World, wi = wr := ⟨_, rfl⟩
            go_wp2
            go_loop [5] (fun i => ∃ x' : Nat, x ≤ x' ∧ x' ≤ 16 ∧ i = .int .i64 x' ∧ Aside0 (endOf f y x' = endOf f y x)) (fun i => 16 - (intOf i).toNat)
            case atStart => exact ⟨x, by omega, by omega, rfl, ⟨rfl⟩⟩
            case round =>
              clear hi2 hc hdx
              obtain ⟨x', hx1, hx2, rfl, HX⟩ := hrel
              by_cases hlx' : x' < 16
              · have hdx' : decide ((x' : Int) < 16) = true := decide_eq_true (by omega)
                have hi2 := run_index_line w.heap.size (y * 16) x' hlx'
                have hc : wi.cell? ⟨w.heap.size, y * 16 + x', none⟩ = some (.bool (f (16 * y + x'))) := by rw [HG.cell _ (by omega), Nat.mul_comm]
                replace hc := (pw_cell_below (below_alloc (Below.refl wi.heap.size wi) (.cells #[.int .i64 y, .int .i64 x, .int .i64 0] 45)) hc)
                cases hf : f (16 * y + x') with
                | true =>
                  have HX2 := Aside0.mk ((endOf_true f y x' hlx' hf).symm.trans HX.out)
                  rw [hf] at hc
                  clear hf
                  go_wp2
                  go_round
                  case rel => exact ⟨x' + 1, by omega, by omega, by go_num, HX2⟩
                  case measure => simp [intOf]; omega
                | false =>
                  have HX2 := Aside0.mk ((endOf_false f y x' hlx' hf).symm.trans HX.out)
                  rw [hf] at hc
                  clear hf
                  go_wp2_with (first | ((with_reducible refine gate_builtin (b := .append) (xs := #[.tmp 37, .tmp 39]) rfl ?_); at_builtin; (refine Kd.R_append k45 (w0 := w) w.heap.size rfl (.tmp 37) (.tmp 39) 23 45 (.agg #[(.int .i64 0), (.int .i64 0), (.int .i64 0)]) 24 rfl Try.underlying23 info45 rfl (by decide) (by omega) u3 (runsUpto f (16 * y + min x 16)) (⟨(y : Int), (x : Int), (x' : Int)⟩ : S45) [.int .i64 y, .int .i64 x, .int .i64 x'] (fun _ => True) (fun _ => False) rfl (by rw [gsize_alloc]; rfl) ?aP (fun _ hk => hk.elim) ?aF ?aO ?aB ?aS ?aL ?_); (case aP => exact k45_mkM _ _ _ (⟨(y : Int), (x : Int), (x' : Int)⟩ : S45)); (case aF => exact (fun _ _ => trivial)); (case aO => exact (by (with_reducible repeat (first | apply Kd.R_alloc | apply Kd.R_drewN | apply Kd.R_drew)); exact HO.out)); (case aB => exact (below_alloc HB.out _)); (case aS => exact (below_size (below_alloc HB.out _))); (case aL => have := runsUpto_length f (16 * y + min x 16); omega); intro v108 w17 ho hb hg hat; have HG2 : IsGrid w17 w.heap.size f := ⟨(hg.block w.heap.size (by rw [gsize_alloc]; have := HG.lt; omega) (Kd.R_ne HO.out HG.out (by decide))).trans (HG.alloc _).out⟩; clear hg hat))
                  have HX3 := Aside0.mk (runsUpto_run f y x hlx HF.out (by rcases HS.out with h | h | h; exact .inl h; omega; exact .inr h))
                  have hEx : endOf f y x = x' := HX2.out.symm
                  replace HX3 := Aside0.mk (by have h := HX3.out; rw [hEx] at h; exact h)
                  have hlast := HE.out.2.2.2
                  rw [hEx] at hlast
                  have HL := Aside0.mk hlast
                  clear hEx hlast
                  go_roundw
                  case rel => exact ⟨x' + 1, by omega, by go_num, ⟨by by_cases h16 : 16 ≤ x' + 1
                                                                      · exact .inr (.inl h16)
                                                                      · exact .inr (.inr (by rw [show 16 * y + (x' + 1) - 1 = 16 * y + x' by omega]; exact HL.out (by omega)))⟩, HG2, ⟨by
                      have hm : runsUpto f (16 * y + min (x' + 1) 16) = runsUpto f (16 * y + x') := by
                        by_cases h16 : x' < 16
                        · rw [show 16 * y + min (x' + 1) 16 = 16 * y + x' + 1 by omega, runsUpto_false f _ (HL.out h16)]
                        · rw [show 16 * y + min (x' + 1) 16 = 16 * y + x' by omega]
                      rw [hm, HX3.out, show 16 * y + x = 16 * y + min x 16 by omega]
                      exact ho⟩, ⟨hb⟩⟩
                  case measure => simp [intOf]; omega
              · have hdx' : decide ((x' : Int) < 16) = false := decide_eq_false (by omega)
                have HX2 : Aside0 (x' = endOf f y x) := ⟨by rw [← HX.out, endOf_out f y x' (by omega)]; omega⟩
                go_wp2_with (first | ((with_reducible refine gate_builtin (b := .append) (xs := #[.tmp 37, .tmp 39]) rfl ?_); at_builtin; (refine Kd.R_append k45 (w0 := w) w.heap.size rfl (.tmp 37) (.tmp 39) 23 45 (.agg #[(.int .i64 0), (.int .i64 0), (.int .i64 0)]) 24 rfl Try.underlying23 info45 rfl (by decide) (by omega) u3 (runsUpto f (16 * y + min x 16)) (⟨(y : Int), (x : Int), (x' : Int)⟩ : S45) [.int .i64 y, .int .i64 x, .int .i64 x'] (fun _ => True) (fun _ => False) rfl (by rw [gsize_alloc]; rfl) ?aP (fun _ hk => hk.elim) ?aF ?aO ?aB ?aS ?aL ?_); (case aP => exact k45_mkM _ _ _ (⟨(y : Int), (x : Int), (x' : Int)⟩ : S45)); (case aF => exact (fun _ _ => trivial)); (case aO => exact (by (with_reducible repeat (first | apply Kd.R_alloc | apply Kd.R_drewN | apply Kd.R_drew)); exact HO.out)); (case aB => exact (below_alloc HB.out _)); (case aS => exact (below_size (below_alloc HB.out _))); (case aL => have := runsUpto_length f (16 * y + min x 16); omega); intro v108 w17 ho hb hg hat; have HG2 : IsGrid w17 w.heap.size f := ⟨(hg.block w.heap.size (by rw [gsize_alloc]; have := HG.lt; omega) (Kd.R_ne HO.out HG.out (by decide))).trans (HG.alloc _).out⟩; clear hg hat))
                have HX3 := Aside0.mk (runsUpto_run f y x hlx HF.out (by rcases HS.out with h | h | h; exact .inl h; omega; exact .inr h))
                have hEx : endOf f y x = x' := HX2.out.symm
                replace HX3 := Aside0.mk (by have h := HX3.out; rw [hEx] at h; exact h)
                have hlast := HE.out.2.2.2
                rw [hEx] at hlast
                have HL := Aside0.mk hlast
                clear hEx hlast
                go_roundw
                case rel => exact ⟨x' + 1, by omega, by go_num, ⟨by by_cases h16 : 16 ≤ x' + 1
                                                                    · exact .inr (.inl h16)
                                                                    · exact .inr (.inr (by rw [show 16 * y + (x' + 1) - 1 = 16 * y + x' by omega]; exact HL.out (by omega)))⟩, HG2, ⟨by
                    have hm : runsUpto f (16 * y + min (x' + 1) 16) = runsUpto f (16 * y + x') := by
                      by_cases h16 : x' < 16
                      · rw [show 16 * y + min (x' + 1) 16 = 16 * y + x' + 1 by omega, runsUpto_false f _ (HL.out h16)]
                      · rw [show 16 * y + min (x' + 1) 16 = 16 * y + x' by omega]
                    rw [hm, HX3.out, show 16 * y + x = 16 * y + min x 16 by omega]
                    exact ho⟩, ⟨hb⟩⟩
                case measure => simp [intOf]; omega
        · have hdx : decide ((x : Int) < 16) = false := decide_eq_false (by omega)
          go_wp2
          go_roundw
          case rel => exact ⟨y + 1, by omega, by go_num, HG, ⟨by rw [show 16 * (y + 1) = 16 * y + min x 16 by omega]; exact HO.out⟩, HB⟩
          case measure => simp [intOf]; omega
    · have hy' : y = 16 := by omega
      subst hy'
      go_wp2
      go_ret
      exact ⟨_, rfl, by (with_reducible repeat (first | apply Kd.R_alloc | apply Kd.R_drewN | apply Kd.R_drew)); exact HO.out, HB.out⟩

--SNIP impl_gridBy
set_option maxHeartbeats 8000000 in
set_option maxRecDepth 100000 in
theorem impl_gridBy.any (K : FuncId) (fn : Func) (caps : Array Value) (f : Int → Int → Bool) (hK : Try.prog.funcs[K]? = some fn) (hname : (fn.name == "runtime.NumGoroutine") = false) (hb : fn.body.isSome = true) (w : World)
    (hf : ∀ (x y : Nat) (w' : World), x < 16 → y < 16 → Below w.heap.size w w' → Calls Try.prog K (#[.int .i64 x, .int .i64 y] ++ caps) w' fun e w'' => e = .returned (.bool (f x y)) ∧ Below w'.heap.size w' w'') :
    Calls Try.prog 34 #[.func (.func K) #[] caps] w fun e w' => e = .returned (.agg (gcells fun i => f (i % 16 : Nat) (i / 16 : Nat))) ∧ Below w.heap.size w w' := by
  have HF := Aside0.mk hf
  have hcall : ∀ (args : Array Value) (W : World), (callFunc K args).run Try.prog W = .ok (.enter K args) W := fun args W => enters_ hK hname hb args W
  clear hf hK hname hb
  go_enter Try.func34, Try.ntmps34
  go_wp2_with (first | (refine wpList_alloc_grid rfl rfl ?_; (try simp only [gsize_alloc])) | (refine wpList_build_grid rfl rfl ?_) | (refine wpList_store_grid_same rfl _ _ rfl (w.heap.size + 1) (fun _ => false) rfl rfl ⟨heap_alloc2_new w _ _⟩ ?_))
  go_loopw [7] (fun i wr => ∃ y : Nat, y ≤ 16 ∧ i = .int .i64 y ∧ IsGrid wr (w.heap.size + 1) (fun i => decide (i < 16 * y) && f (i % 16 : Nat) (i / 16 : Nat)) ∧ IsGrid wr w.heap.size (fun _ => false) ∧ Aside0 (Below w.heap.size w wr)) (fun i _ => 16 - (intOf i).toNat)
  case atStart => exact ⟨0, by omega, rfl, (⟨heap_alloc2_new w _ _⟩ : IsGrid _ _ (fun _ => false)).congr (by simp), ⟨heap_alloc2_old w _ _⟩, ⟨((Below.refl w.heap.size w).alloc (Nat.le_refl _) _).alloc (by simp) _⟩⟩
  case round =>
    obtain ⟨y, hy, rfl, HG, HR, HB⟩ := hrel
    by_cases hlt : y < 16
    · obtain ⟨wo, rfl⟩ : ∃ wo : World, wo = wr := ⟨_, rfl⟩
      have hdy : decide ((y : Int) < 16) = true := decide_eq_true (by omega)
      go_wp2
      go_loopw [10] (fun i wr => ∃ x : Nat, x ≤ 16 ∧ i = .int .i64 x ∧ IsGrid wr (w.heap.size + 1) (fun i => decide (i < 16 * y + x) && f (i % 16 : Nat) (i / 16 : Nat)) ∧ IsGrid wr w.heap.size (fun _ => false) ∧ Aside0 (Below w.heap.size w wr)) (fun i _ => 16 - (intOf i).toNat)
      case atStart => exact ⟨0, by omega, rfl, HG, HR, HB⟩
      case round =>
        clear HG HR HB
        obtain ⟨x, hx, rfl, HG, HR, HB⟩ := hrel
        by_cases hlx : x < 16
        · have hi1 := run_index_grid (w.heap.size + 1) y hlt
          have hi2 := run_index_line (w.heap.size + 1) (y * 16) x hlx
          go_wp2_with fail
          go_region_with (refine (HF.out x y _ hlx hlt (by exact (pw_below_drewN HB.out _))).mono ?_; rintro e w' ⟨rfl, hb⟩; have HG1 : IsGrid w' (w.heap.size + 1) (fun i => decide (i < 16 * y + x) && f (i % 16 : Nat) (i / 16 : Nat)) := IsGrid.below (w := wr.drew) ⟨HG.out⟩ hb (by exact HG.lt); have hc1 := HG1.cell (y * 16 + x) (by omega); have hf1 := HG1.frozen (y * 16 + x))
          have HG2 := HG1.set (y * 16 + x) (f x y)
          have HR1 : IsGrid w' w.heap.size (fun _ => false) := IsGrid.below (w := wr.drew) ⟨HR.out⟩ hb (by exact HR.lt)
          have HR2 : IsGrid (w'.setCell ⟨w.heap.size + 1, y * 16 + x, none⟩ (.bool (f x y))) w.heap.size (fun _ => false) := ⟨(heap_setCell_other w' _ _ _ (by simp)).trans HR1.out⟩
          have HB2 := Aside0.mk (below_set (below_then (pw_below_drewN HB.out 1) (by have := HB.out.size; exact this) hb) (show w.heap.size ≤ w.heap.size + 1 by omega) (j := y * 16 + x) (v := .bool (f x y)))
          clear hc1 hf1 hi1 hi2 HG1 HR1 HG HR HB hb
          go_wp2
          go_roundw
          case rel =>
            refine ⟨x + 1, by omega, by go_num, HG2.congr (fun i hi => ?_), HR2, HB2⟩
            by_cases h1 : i = y * 16 + x
            · subst h1
              rw [if_pos rfl, decide_eq_true (by omega), show (y * 16 + x) % 16 = x by omega, show (y * 16 + x) / 16 = y by omega]
              rfl
            · rw [if_neg h1]
              by_cases h2 : i < 16 * y + x
              · rw [decide_eq_true h2, decide_eq_true (by omega)]
              · rw [decide_eq_false h2, decide_eq_false (by omega)]
          case measure => simp [intOf]; omega
        · go_wp2
          go_roundw
          case rel => exact ⟨y + 1, by omega, by go_num, HG.congr (by intro i hi; rw [show x = 16 by omega, show 16 * y + 16 = 16 * (y + 1) by omega]), HR, HB⟩
          case measure => simp [intOf]; omega
    · have hy' : y = 16 := by omega
      subst hy'
      go_wp2_with (first | (refine wpList_load_grid rfl _ rfl (w.heap.size + 1) _ rfl HG ?_) | (refine wpList_store_grid rfl _ _ rfl w.heap.size _ _ rfl rfl HR ?_))
      refine bodyPost_ret (results_cell_row rfl _ _ w.heap.size _ _ _ _ rfl (HR.setRow _).out Try.underlying50 rfl (by rw [gcells_size]; exact grid_size)) rfl ⟨?_, ?_⟩
      · rw [gcells_congr (f := fun i => decide (i < 16 * 16) && f (i % 16 : Nat) (i / 16 : Nat)) (g := fun i => f (i % 16 : Nat) (i / 16 : Nat)) (fun i hi => by rw [decide_eq_true (by omega)]; rfl)]
      · exact below_setRow HB.out _ _ (Nat.le_refl _)
/-- The same, the function told by places. -/
theorem impl_gridBy.at_ (K : FuncId) (fn : Func) (caps : Array Value) (F : Nat → Bool) (hK : Try.prog.funcs[K]? = some fn) (hname : (fn.name == "runtime.NumGoroutine") = false) (hb : fn.body.isSome = true) (w : World)
    (hf : ∀ (x y : Nat) (w' : World), x < 16 → y < 16 → Below w.heap.size w w' → Calls Try.prog K (#[.int .i64 x, .int .i64 y] ++ caps) w' fun e w'' => e = .returned (.bool (F (16 * y + x))) ∧ Below w'.heap.size w' w'') :
    Calls Try.prog 34 #[.func (.func K) #[] caps] w fun e w' => e = .returned (.agg (gcells F)) ∧ Below w.heap.size w w' := by
  refine (impl_gridBy.any K fn caps (fun x y => F (16 * y.toNat + x.toNat)) hK hname hb w hf).mono ?_
  rintro e w' ⟨rfl, h⟩
  refine ⟨?_, h⟩
  rw [gcells_congr (fun i hi => ?_)]
  show F (16 * (i / 16) + i % 16) = F i
  rw [show 16 * (i / 16) + i % 16 = i by omega]

--SNIP impl_grid_has
/-- Is the pixel, which may be anywhere, in the grid? -/
def hasF (f : Nat → Bool) (x y : Int) : Bool := decide (0 ≤ x) && decide (x < 16) && decide (0 ≤ y) && decide (y < 16) && f (16 * y.toNat + x.toNat)
theorem hasF_in (f : Nat → Bool) (x y : Nat) (hx : x < 16) (hy : y < 16) : hasF f x y = f (16 * y + x) := by
  unfold hasF
  rw [decide_eq_true (show (0 : Int) ≤ x by omega), decide_eq_true (show (x : Int) < 16 by omega), decide_eq_true (show (0 : Int) ≤ y by omega), decide_eq_true (show (y : Int) < 16 by omega)]
  rfl
theorem hasF_out (f : Nat → Bool) (x y : Int) (h : x < 0 ∨ 16 ≤ x ∨ y < 0 ∨ 16 ≤ y) : hasF f x y = false := by
  unfold hasF
  rcases h with h | h | h | h
  · rw [decide_eq_false (show ¬ 0 ≤ x by omega)]; rfl
  · rw [decide_eq_false (show ¬ x < 16 by omega)]; simp
  · rw [decide_eq_false (show ¬ 0 ≤ y by omega)]; simp
  · rw [decide_eq_false (show ¬ y < 16 by omega)]; simp
set_option maxHeartbeats 8000000 in
set_option maxRecDepth 100000 in
theorem impl_grid_has.any (f : Nat → Bool) (x y : Int) (w : World) :
    Calls Try.prog 36 #[.agg (gcells f), .int .i64 x, .int .i64 y] w fun e w' => e = .returned (.bool (hasF f x y)) ∧ Below w.heap.size w w' := by
  have HB := Aside0.mk (below_alloc (Below.refl w.heap.size w) (.cells (gcells f) 50))
  have HG := IsGrid.new w f
  by_cases h1 : 0 ≤ x
  · have d1 : decide (0 ≤ x) = true := decide_eq_true h1
    by_cases h2 : x < 16
    · have d2 : decide (x < 16) = true := decide_eq_true h2
      by_cases h3 : 0 ≤ y
      · have d3 : decide (0 ≤ y) = true := decide_eq_true h3
        by_cases h4 : y < 16
        · have d4 : decide (y < 16) = true := decide_eq_true h4
          obtain ⟨n, rfl⟩ := Int.eq_ofNat_of_zero_le h1
          obtain ⟨m, rfl⟩ := Int.eq_ofNat_of_zero_le h3
          have hi1 := run_index_grid w.heap.size m (by omega)
          have hi2 := run_index_line w.heap.size (m * 16) n (by omega)
          have hc : (w.alloc (.cells (gcells f) 50)).cell? ⟨w.heap.size, m * 16 + n, none⟩ = some (.bool (f (16 * m + n))) := by rw [HG.cell _ (by omega), Nat.mul_comm]
          have HF := Aside0.mk (hasF_in f n m (by omega) (by omega))
          go_enter Try.func36, Try.ntmps36
          go_wp2_with (refine wpList_box_grid rfl _ rfl f rfl ?_)
          go_ret
          exact ⟨by rw [HF.out]; rfl, HB.out⟩
        · have d4 : decide (y < 16) = false := decide_eq_false h4
          have HF := Aside0.mk (hasF_out f x y (by omega))
          go_enter Try.func36, Try.ntmps36
          go_wp2_with (refine wpList_box_grid rfl _ rfl f rfl ?_)
          go_ret
          exact ⟨by rw [HF.out]; rfl, HB.out⟩
      · have d3 : decide (0 ≤ y) = false := decide_eq_false h3
        have HF := Aside0.mk (hasF_out f x y (by omega))
        go_enter Try.func36, Try.ntmps36
        go_wp2_with (refine wpList_box_grid rfl _ rfl f rfl ?_)
        go_ret
        exact ⟨by rw [HF.out]; rfl, HB.out⟩
    · have d2 : decide (x < 16) = false := decide_eq_false h2
      have HF := Aside0.mk (hasF_out f x y (by omega))
      go_enter Try.func36, Try.ntmps36
      go_wp2_with (refine wpList_box_grid rfl _ rfl f rfl ?_)
      go_ret
      exact ⟨by rw [HF.out]; rfl, HB.out⟩
  · have d1 : decide (0 ≤ x) = false := decide_eq_false h1
    have HF := Aside0.mk (hasF_out f x y (by omega))
    go_enter Try.func36, Try.ntmps36
    go_wp2_with (refine wpList_box_grid rfl _ rfl f rfl ?_)
    go_ret
    exact ⟨by rw [HF.out]; rfl, HB.out⟩

--SNIP impl_neighbours
theorem nb_info : (Try.prog.info? 68).map (·.size) = some 8 := by kernel_rfl
set_option maxHeartbeats 8000000 in
set_option maxRecDepth 100000 in
theorem impl_neighbours.any (x y : Nat) (hx : x < 16) (hy : y < 16) (w : World) :
    Calls Try.prog 49 #[.int .i64 x, .int .i64 y] w fun e w' => e = .returned (.agg #[.int .i64 ((x : Int) - 1), .int .i64 y, .int .i64 ((x : Int) + 1), .int .i64 y, .int .i64 x, .int .i64 ((y : Int) - 1), .int .i64 x, .int .i64 ((y : Int) + 1)]) ∧ Below w.heap.size w w' := by
  have hu := Try.underlying68
  go_enter Try.func49, Try.ntmps49
  go_wp2
  refine bodyPost_ret (results_cell_row rfl _ _ w.heap.size _ _ _ _ rfl (heap_alloc_new w _) hu rfl (by exact nb_info)) rfl ⟨rfl, below_alloc (Below.refl _ _) _⟩
theorem nb_index (v0 v1 v2 v3 v4 v5 v6 v7 : Value) (W : World) :
    (Instr.index 68 (.agg #[v0, v1, v2, v3, v4, v5, v6, v7]) (.int .i64 0)).run Try.prog W = .ok (.agg #[v0, v1]) W ∧ (Instr.index 68 (.agg #[v0, v1, v2, v3, v4, v5, v6, v7]) (.int .i64 1)).run Try.prog W = .ok (.agg #[v2, v3]) W ∧
    (Instr.index 68 (.agg #[v0, v1, v2, v3, v4, v5, v6, v7]) (.int .i64 2)).run Try.prog W = .ok (.agg #[v4, v5]) W ∧ (Instr.index 68 (.agg #[v0, v1, v2, v3, v4, v5, v6, v7]) (.int .i64 3)).run Try.prog W = .ok (.agg #[v6, v7]) W := by
  refine ⟨?_, ?_, ?_, ?_⟩ <;> kernel_rfl

end Go.Proofs.Ytceoecmjccakgaa.Print

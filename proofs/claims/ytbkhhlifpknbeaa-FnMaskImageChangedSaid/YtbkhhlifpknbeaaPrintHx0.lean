-- laid by hp.py (a program of this work over the kit's print), with contracts by hand for what the print does not take
import Derived.Test.YtbkhhlifpknbeaaPrint0
namespace Go.Proofs.Ytbkhhlifpknbeaa.Print
open Go.RowKit Go.Proofs.YtbkhhlifpknbeaaW.PrintWords Go.Proofs.YtbkhhlifpknbeaaW.PrintLast Go.Proofs.YtbkhhlifpknbeaaW.PrintMore
attribute [local go_sem] max2_int min2_int max_two min_two max_three min_three max_four min_four   -- for this text's walks alone
set_option linter.unusedVariables false
set_option linter.unusedSimpArgs false

--SNIP hand_Call
section
variable {P : Program} {ops : Array Oper} {Q : Exit → Act → World → Prop}
/-- A call through a value that is a function with what it captured, in a region that draws its order. -/
theorem goesF_ {oi : Oper} {N : Option Tmp} {a : Act} {w : World} {K : Act → World → Prop} {f : FuncId} {x : Operand} {as0 : Array Operand} {ts : Array TypeId} {caps : Array Value} (hcall : ∀ (args : Array Value) (W : World), (callFunc f args).run P W = .ok (.enter f args) W) (args : Array Value)
    (hw : Region.wanted oi (yielded ops a.tmps) = true) (hN : oi.dst = N) (hop : oi.op = .call { callee := .value x, args := as0, argTypes := ts }) (hx : a.eval x = .func (.func f) #[] caps) (hargs : as0.map a.eval ++ caps = args)
    (h : Calls P f args w fun e w' => ∃ v, e = .returned v ∧ K (a.put N v) w') : if Region.wanted oi (yielded ops a.tmps) = true then Oper.wp P oi a w K Q else K (a.put N undef) w := by
  refine call_ f args hw hN ?_ h
  have he := hcall args w
  unfold execOp
  simp [hop, resolve, Deferred.ofValue, invoke, hx, hargs, he]
end
/-- From here on more is held. -/
theorem re_ {P : Program} {md : Region.Mode} {ops : Array Oper} {Q : Exit → Act → World → Prop} {S S' : World → Prop} {fuel : Nat} {l : Array Bool} {a : Act} {w : World} (hS : S' w) (hi : ∀ w, S' w → S w) (h : S' w → wpAnyLast P md ops Q S' [] fuel l a w) : wpAnyLast P md ops Q S [] fuel l a w := by
  replace h := h hS
  induction fuel generalizing l a w with
  | zero => exact h
  | succ n ih =>
    obtain ⟨h1, h2⟩ := h
    exact ⟨h1, fun i hi' => wpOp_mono (fun a' w' hk => ⟨fun _ _ => hi _ (hk.1 (by simp) hS), ih (hk.1 (by simp) hS) hk.2⟩) (h2 i hi')⟩
theorem i64_nat (n : Nat) (h : n ≤ 9223372036854775807) : IntKind.i64.wrap (n : Int) = (n : Int) := IntWalk.i64_in _ (by omega)

--SNIP hand_Disc
/-- The pixels of a disc. -/
def discB (x y r i j : Int) : Bool := decide ((i - x) * (i - x) + (j - y) * (j - y) ≤ r * r)
theorem sq_nonneg_ (c : Int) : 0 ≤ c * c := by
  rcases Int.le_total 0 c with h | h
  · exact Int.mul_nonneg h h
  · have := Int.mul_nonneg (a := -c) (b := -c) (by omega) (by omega)
    rwa [Int.neg_mul_neg] at this
theorem sq_bound (a b : Int) (h1 : 0 ≤ a) (h2 : a ≤ 16) (h3 : 0 ≤ b) (h4 : b ≤ 16) : 0 ≤ (a - b) * (a - b) ∧ (a - b) * (a - b) ≤ 256 := by
  have h5 : -16 ≤ a - b := by omega
  have h6 : a - b ≤ 16 := by omega
  generalize a - b = c at *
  constructor
  · exact sq_nonneg_ c
  · have h7 : 0 ≤ (16 - c) * (16 + c) := Int.mul_nonneg (by omega) (by omega)
    have h8 : (16 - c) * (16 + c) = 256 - c * c := by
      rw [Int.sub_mul, Int.mul_add, Int.mul_add, Int.mul_comm c 16]
      omega
    omega
def discOk (x y r : Int) : Prop := 0 ≤ x ∧ x < 16 ∧ 0 ≤ y ∧ y < 16 ∧ 0 ≤ r ∧ r ≤ 16
instance (x y r : Int) : Decidable (discOk x y r) := by unfold discOk; exact inferInstance
def discF (x y r : Int) (p : Nat) : Bool := discB x y r (p % 16 : Nat) (p / 16 : Nat)

--SNIP hand_Grid
/-! ### Grids in memory: 256 cells, a row of 16 behind each other. -/
def gcells (f : Nat → Bool) : Array Value := ((List.range 256).map fun i => Value.bool (f i)).toArray
theorem gcells_size (f : Nat → Bool) : (gcells f).size = 256 := by simp [gcells]
theorem gcells_one (f : Nat → Bool) : (gcells f).all (·.oneCell') = true := by
  rw [Array.all_eq_true_iff_forall_mem]
  intro v hv
  simp only [gcells, List.mem_toArray, List.mem_map] at hv
  obtain ⟨i, _, rfl⟩ := hv
  rfl
theorem gcells_get (f : Nat → Bool) (i : Nat) (hi : i < 256) : (gcells f)[i]? = some (.bool (f i)) := by
  simp [gcells, hi]
theorem gcells_set (f : Nat → Bool) (i : Nat) (b : Bool) : (gcells f).setIfInBounds i (.bool b) = gcells (fun j => if j = i then b else f j) := by
  apply Array.ext_getElem?
  intro j
  rw [Array.getElem?_setIfInBounds]
  by_cases hij : i = j
  · subst hij
    rw [if_pos rfl, gcells_size]
    by_cases hi : i < 256
    · rw [if_pos hi, gcells_get _ i hi, if_pos rfl]
    · rw [if_neg hi, Array.getElem?_eq_none (by rw [gcells_size]; omega)]
  · rw [if_neg hij]
    by_cases hj : j < 256
    · rw [gcells_get _ j hj, gcells_get _ j hj, if_neg (fun h => hij h.symm)]
    · rw [Array.getElem?_eq_none (by rw [gcells_size]; omega), Array.getElem?_eq_none (by rw [gcells_size]; omega)]
theorem gcells_congr {f g : Nat → Bool} (h : ∀ i, i < 256 → f i = g i) : gcells f = gcells g := by
  unfold gcells
  congr 1
  exact List.map_congr_left fun i hi => by rw [h i (by simpa using hi)]
theorem gcells_inj {f g : Nat → Bool} (h : gcells f = gcells g) (i : Nat) (hi : i < 256) : f i = g i := by
  have h1 := gcells_get f i hi
  rw [h, gcells_get g i hi] at h1
  injection h1 with h1
  injection h1 with h1
  exact h1.symm
theorem gsize_alloc (w : World) (o : Obj) : (w.alloc o).heap.size = w.heap.size + 1 := by simp
/-- Block b holds the grid f. -/
structure IsGrid (w : World) (b : Nat) (f : Nat → Bool) : Prop where mk :: (out : w.heap[b]? = some (.cells (gcells f) 53 (0, 0)))
theorem IsGrid.cell {w : World} {b : Nat} {f : Nat → Bool} (h : IsGrid w b f) (i : Nat) (hi : i < 256) : w.cell? ⟨b, i, none⟩ = some (.bool (f i)) := by
  rw [cell_of_row w b i _ _ _ h.out, gcells_get f i hi]
theorem IsGrid.frozen {w : World} {b : Nat} {f : Nat → Bool} (h : IsGrid w b f) (i : Nat) : w.frozen? ⟨b, i, none⟩ = false := frozen_of_row w b i _ _ h.out
theorem IsGrid.below {w w' : World} {b : Nat} {f : Nat → Bool} {B : Nat} (h : IsGrid w b f) (hb : Below B w w') (hB : b < B) : IsGrid w' b f := ⟨(hb.block b hB).trans h.out⟩
theorem IsGrid.lt {w : World} {b : Nat} {f : Nat → Bool} (h : IsGrid w b f) : b < w.heap.size := (Array.getElem?_eq_some_iff.1 h.out).1
theorem IsGrid.set {w : World} {b : Nat} {f : Nat → Bool} (h : IsGrid w b f) (i : Nat) (x : Bool) : IsGrid (w.setCell ⟨b, i, none⟩ (.bool x)) b (fun j => if j = i then x else f j) :=
  ⟨by rw [heap_setCell_same w b i _ _ _ h.out, gcells_set]⟩
theorem IsGrid.alloc {w : World} {b : Nat} {f : Nat → Bool} (h : IsGrid w b f) (o : Obj) : IsGrid (w.alloc o) b f := ⟨(heap_alloc_old w o h.lt).trans h.out⟩
theorem IsGrid.drew {w : World} {b : Nat} {f : Nat → Bool} (h : IsGrid w b f) : IsGrid w.drew b f := ⟨h.out⟩
theorem IsGrid.drewN {w : World} {b : Nat} {f : Nat → Bool} (h : IsGrid w b f) (n : Nat) : IsGrid (w.drewN n) b f := ⟨h.out⟩
theorem IsGrid.new (w : World) (f : Nat → Bool) : IsGrid (w.alloc (.cells (gcells f) 53)) w.heap.size f := ⟨Go.heap_alloc_new w _⟩
theorem IsGrid.congr {w : World} {b : Nat} {f g : Nat → Bool} (h : IsGrid w b f) (e : ∀ i, i < 256 → f i = g i) : IsGrid w b g := ⟨by rw [← gcells_congr e]; exact h.out⟩
theorem grid_info : (Try.prog.info? 53).map (fun i => (i.zero, i.size)) = some (some (.agg (gcells fun _ => false)), 256) := by kernel_rfl
theorem grid_size : (Try.prog.info? 53).map (·.size) = some 256 := by kernel_rfl
theorem run_zero_grid (W : World) : (zeroValue 53).run Try.prog W = .ok (.agg (gcells fun _ => false)) W := by
  have h := grid_info
  cases hi : Try.prog.info? 53 with
  | none => rw [hi] at h; cases h
  | some i =>
    rw [hi] at h
    simp only [Option.map_some, Option.some.injEq, Prod.mk.injEq] at h
    simp [zeroValue, typeInfo, hi, h.1]
section
variable {P : Program} {ops : Array Oper} {rest : List Oper} {o : Oper} {a : Act} {w : World} {Q : Exit → Act → World → Prop}
theorem wpList_alloc_grid (hgd : o.guard = none) (ho : o.op = .alloc 53)
    (h : wpList Try.prog ops Q rest (a.put o.dst (.pointer (some ⟨w.heap.size, 0, none⟩))) (w.alloc (.cells (gcells fun _ => false) 53))) : wpList Try.prog ops Q (o :: rest) a w := by
  refine wpList_plain hgd fun K hK => ?_
  unfold Oper.wp execOp
  simp only [ho, Instr.alloc, Sem.run_bind, run_zero_grid, Result.andThen_ok]
  exact hK _ _ h
theorem wpList_build_grid (hgd : o.guard = none) (ho : o.op = .build 53 #[])
    (h : wpList Try.prog ops Q rest (a.put o.dst (.agg (gcells fun _ => false))) w) : wpList Try.prog ops Q (o :: rest) a w := by
  have hb : Try.prog.built 53 [] = some (gcells fun _ => false) := by kernel_rfl
  exact wpList_build hgd 53 #[] ho (by simp [hb]) (by simpa [hb] using h)
theorem wpList_store_grid (hgd : o.guard = none) (x y : Operand) (ho : o.op = .store 53 x y) (g : Nat) (f old : Nat → Bool) (hx : a.eval x = .pointer (some ⟨g, 0, none⟩)) (hy : a.eval y = .agg (gcells f)) (hg : IsGrid w g old)
    (h : wpList Try.prog ops Q rest (a.put o.dst undef) (w.setRow g (gcells f))) : wpList Try.prog ops Q (o :: rest) a w :=
  wpList_plain hgd fun _ hK => wp_store_row 53 x y ho g (gcells f) hx hy _ _ hg.out (by rw [gcells_size]; exact grid_size) (by rw [gcells_size, gcells_size]) (gcells_one f) (hK _ _ h)
theorem wpList_load_grid (hgd : o.guard = none) (x : Operand) (ho : o.op = .load 53 x) (g : Nat) (f : Nat → Bool) (hx : a.eval x = .pointer (some ⟨g, 0, none⟩)) (hg : IsGrid w g f)
    (h : wpList Try.prog ops Q rest (a.put o.dst (.agg (gcells f))) w) : wpList Try.prog ops Q (o :: rest) a w :=
  wpList_load_row hgd 53 x ho g hx _ _ _ _ hg.out Try.underlying53 rfl (by rw [gcells_size]; exact grid_size) h
theorem wpList_box_grid (hgd : o.guard = none) (x : Operand) (ho : o.op = .box 53 x) (f : Nat → Bool) (hx : a.eval x = .agg (gcells f))
    (h : wpList Try.prog ops Q rest (a.put o.dst (.pointer (some ⟨w.heap.size, 0, none⟩))) (w.alloc (.cells (gcells f) 53))) : wpList Try.prog ops Q (o :: rest) a w := by
  refine wpList_plain hgd fun K hK => ?_
  unfold Oper.wp execOp
  simp only [ho, hx, Instr.box, Value.cells]
  exact hK _ _ h
end
theorem IsGrid.setRow {w : World} {b : Nat} {f : Nat → Bool} (h : IsGrid w b f) (g : Nat → Bool) : IsGrid (w.setRow b (gcells g)) b g := ⟨setRow_heap w b _ _ _ _ h.out⟩
theorem below_setRow {B : Nat} {w W : World} (h : Below B w W) (b : Nat) (cs : Array Value) (hb : B ≤ b) : Below B w (W.setRow b cs) :=
  ⟨h.os, h.tape, h.output, by simpa using h.size, fun i hi => (setRow_other W b i cs (by omega)).trans (h.block i hi)⟩
theorem setRow_same {w : World} {g : Nat} {cs : Array Value} {t : TypeId} (h : w.heap[g]? = some (.cells cs t (0, 0))) : w.setRow g cs = w := by
  have h2 := setCell_eq_setRow
  have hlt : g < w.heap.size := (Array.getElem?_eq_some_iff.1 h).1
  have hv : w.heap[g] = .cells cs t (0, 0) := (Array.getElem?_eq_some_iff.1 h).2
  unfold World.setRow
  cases w with
  | mk heap tape drawn os output =>
    congr 1
    apply Array.ext
    · simp
    · intro k h1 h2
      simp only [Array.getElem_modify]
      split
      · rename_i hk; subst hk; simp at hv; simp [hv]
      · rfl
section
variable {ops : Array Oper} {rest : List Oper} {o : Oper} {a : Act} {w : World} {Q : Exit → Act → World → Prop}
theorem wpList_store_grid_same (hgd : o.guard = none) (x y : Operand) (ho : o.op = .store 53 x y) (g : Nat) (f : Nat → Bool) (hx : a.eval x = .pointer (some ⟨g, 0, none⟩)) (hy : a.eval y = .agg (gcells f)) (hg : IsGrid w g f)
    (h : wpList Try.prog ops Q rest (a.put o.dst undef) w) : wpList Try.prog ops Q (o :: rest) a w :=
  wpList_store_grid hgd x y ho g f f hx hy hg (by rw [setRow_same hg.out]; exact h)
end
theorem run_index_grid (b y : Nat) (hy : y < 16) (W : World) : (Instr.indexAt 53 (.pointer (some ⟨b, 0, none⟩)) (.int .i64 (y : Int))).run Try.prog W = .ok (.pointer (some ⟨b, y * 16, none⟩)) W := by
  have hu := Try.underlying53
  have hs : (sizeOf 51).run Try.prog W = .ok 16 W := by kernel_rfl
  simp [Instr.indexAt, asIntOf, run_underlying hu, Instr.sureAddr, show ((y : Int) < 16) from by omega, hs, Addr.add]
  rw [if_pos hy]
  by_cases h0 : y * 16 = 0 <;> simp [h0]
theorem run_index_line (b o x : Nat) (hx : x < 16) (W : World) : (Instr.indexAt 51 (.pointer (some ⟨b, o, none⟩)) (.int .i64 (x : Int))).run Try.prog W = .ok (.pointer (some ⟨b, o + x, none⟩)) W := by
  have hu := Try.underlying51
  have hs : (sizeOf 4).run Try.prog W = .ok 1 W := by kernel_rfl
  simp [Instr.indexAt, asIntOf, run_underlying hu, Instr.sureAddr, show ((x : Int) < 16) from by omega, hs, Addr.add]
  rw [if_pos hx]
  by_cases h0 : x = 0 <;> simp [h0]

--SNIP hand_GridMore
theorem IsGrid.otherRow {w : World} {b : Nat} {f : Nat → Bool} (h : IsGrid w b f) (c : Nat) (cs : Array Value) (hne : b ≠ c) : IsGrid (w.setRow c cs) b f := ⟨(setRow_other w c b cs hne).trans h.out⟩
/-! ### Grids in a region whose order is open: the world told by what it holds -/
section
variable {ops : Array Oper} {rest : List Oper} {o : Oper} {a : Act} {w : World} {Q : Exit → Act → World → Prop}
theorem wpList_alloc_grid_abs (hgd : o.guard = none) (ho : o.op = .alloc 53)
    (h : ∀ (b : Nat) (W : World), (∀ c g, IsGrid w c g → IsGrid W c g ∧ c ≠ b) → w.heap.size ≤ b → IsGrid W b (fun _ => false) → Below w.heap.size w W → wpList Try.prog ops Q rest (a.put o.dst (.pointer (some ⟨b, 0, none⟩))) W) : wpList Try.prog ops Q (o :: rest) a w :=
  wpList_alloc_grid hgd ho (h w.heap.size (w.alloc (.cells (gcells fun _ => false) 53)) (fun c g hg => ⟨hg.alloc _, Nat.ne_of_lt hg.lt⟩) (Nat.le_refl _) (IsGrid.new w _) (below_alloc (Below.refl _ _) _))
theorem wpList_store_grid_abs (hgd : o.guard = none) (x y : Operand) (ho : o.op = .store 53 x y) (g : Nat) (f old : Nat → Bool) (hx : a.eval x = .pointer (some ⟨g, 0, none⟩)) (hy : a.eval y = .agg (gcells f)) (hg : IsGrid w g old)
    (h : ∀ W : World, (∀ c k, IsGrid w c k → c ≠ g → IsGrid W c k) → IsGrid W g f → (∀ B w0, B ≤ g → Below B w0 w → Below B w0 W) → wpList Try.prog ops Q rest (a.put o.dst undef) W) : wpList Try.prog ops Q (o :: rest) a w :=
  wpList_store_grid hgd x y ho g f old hx hy hg (h (w.setRow g (gcells f)) (fun c k hk hne => hk.otherRow _ _ hne) (hg.setRow f) (fun B w0 hB hb => below_setRow hb g (gcells f) hB))
end
/-- The world W, come out of w, holds G and Z in the blocks of w's end, and the grids of a list in later blocks. -/
structure St (w W : World) (G Z : Nat → Bool) (l : List (Nat × (Nat → Bool))) : Prop where
  below : Below w.heap.size w W
  g : IsGrid W w.heap.size G
  z : IsGrid W (w.heap.size + 1) Z
  all : ∀ p ∈ l, IsGrid W p.1 p.2 ∧ w.heap.size + 2 ≤ p.1
  apart : (l.map Prod.fst).Nodup
theorem St.call {w W W' : World} {G Z : Nat → Bool} {l : List (Nat × (Nat → Bool))} (h : St w W G Z l) (hb : Below W.heap.size W W') : St w W' G Z l :=
  ⟨below_step h.below hb, h.g.below hb h.g.lt, h.z.below hb h.z.lt, fun p hp => ⟨(h.all p hp).1.below hb (h.all p hp).1.lt, (h.all p hp).2⟩, h.apart⟩
theorem St.drew {w W : World} {G Z : Nat → Bool} {l : List (Nat × (Nat → Bool))} (h : St w W G Z l) : St w W.drew G Z l :=
  ⟨below_drew1 h.below, h.g.drew, h.z.drew, fun p hp => ⟨(h.all p hp).1.drew, (h.all p hp).2⟩, h.apart⟩
theorem St.alloc {w W W' : World} {G Z : Nat → Bool} {l : List (Nat × (Nat → Bool))} {b : Nat} (h : St w W G Z l) (hc : ∀ c g, IsGrid W c g → IsGrid W' c g ∧ c ≠ b) (hs : W.heap.size ≤ b) (hz : IsGrid W' b (fun _ => false)) (hb : Below W.heap.size W W') : St w W' G Z ((b, fun _ => false) :: l) :=
  ⟨below_step h.below hb, (hc _ _ h.g).1, (hc _ _ h.z).1, fun p hp => by
    rcases List.mem_cons.1 hp with rfl | hp
    · exact ⟨hz, by have := h.z.lt; show w.heap.size + 2 ≤ b; omega⟩
    · exact ⟨(hc _ _ (h.all p hp).1).1, (h.all p hp).2⟩, by
    rw [List.map_cons, List.nodup_cons]
    refine ⟨fun hm => ?_, h.apart⟩
    obtain ⟨p, hp, e⟩ := List.mem_map.1 hm
    exact (hc _ _ (h.all p hp).1).2 e⟩
theorem St.at0 {w W : World} {G Z : Nat → Bool} {l : List (Nat × (Nat → Bool))} {b : Nat} {f : Nat → Bool} (h : St w W G Z ((b, f) :: l)) : IsGrid W b f := (h.all (b, f) (by simp)).1
theorem St.at1 {w W : World} {G Z : Nat → Bool} {l : List (Nat × (Nat → Bool))} {p : Nat × (Nat → Bool)} {b : Nat} {f : Nat → Bool} (h : St w W G Z (p :: (b, f) :: l)) : IsGrid W b f := (h.all (b, f) (by simp)).1
theorem St.swap {w W : World} {G Z : Nat → Bool} {p q : Nat × (Nat → Bool)} {l : List (Nat × (Nat → Bool))} (h : St w W G Z (p :: q :: l)) : St w W G Z (q :: p :: l) :=
  ⟨h.below, h.g, h.z, fun x hx => h.all x (by simp only [List.mem_cons] at hx ⊢; rcases hx with h | h | h; exact .inr (.inl h); exact .inl h; exact .inr (.inr h)), by
    have := h.apart
    simp only [List.map_cons, List.nodup_cons, List.mem_cons, not_or] at this ⊢
    exact ⟨⟨fun e => this.1.1 e.symm, this.2.1⟩, this.1.2, this.2.2⟩⟩
theorem St.store0 {w W W' : World} {G Z : Nat → Bool} {l : List (Nat × (Nat → Bool))} {b : Nat} {f f' : Nat → Bool} (h : St w W G Z ((b, f) :: l)) (hc : ∀ c k, IsGrid W c k → c ≠ b → IsGrid W' c k) (hz : IsGrid W' b f') (hb : ∀ B w0, B ≤ b → Below B w0 W → Below B w0 W') : St w W' G Z ((b, f') :: l) := by
  have h2 := (h.all (b, f) (by simp)).2
  have ha := h.apart
  rw [List.map_cons, List.nodup_cons] at ha
  refine ⟨hb _ _ (by show w.heap.size ≤ b; simp only [] at h2; omega) h.below, hc _ _ h.g (by simp only [] at h2; omega), hc _ _ h.z (by simp only [] at h2; omega), fun p hp => ?_, h.apart⟩
  rcases List.mem_cons.1 hp with rfl | hp
  · exact ⟨hz, h2⟩
  · have hp2 := h.all p (by simp [hp])
    exact ⟨hc _ _ hp2.1 (fun e => ha.1 (List.mem_map.2 ⟨p, hp, e⟩)), hp2.2⟩
theorem St.storeG {w W W' : World} {G G' Z : Nat → Bool} {l : List (Nat × (Nat → Bool))} (h : St w W G Z l) (hc : ∀ c k, IsGrid W c k → c ≠ w.heap.size → IsGrid W' c k) (hz : IsGrid W' w.heap.size G') (hb : ∀ B w0, B ≤ w.heap.size → Below B w0 W → Below B w0 W') : St w W' G' Z l :=
  ⟨hb _ _ (Nat.le_refl _) h.below, hz, hc _ _ h.z (by omega), fun p hp => ⟨hc _ _ (h.all p hp).1 (by have := (h.all p hp).2; omega), (h.all p hp).2⟩, h.apart⟩

--SNIP hand_Img
/-! ### Images in memory: a block of four cells. -/
/-- Block b holds an image's four fields. -/
structure IsImg (w : World) (b : Nat) (a0 a1 a2 : Int) (v : Value) : Prop where mk :: (out : w.heap[b]? = some (.cells #[.int .i64 a0, .int .i64 a1, .int .i64 a2, v] 25 (0, 0)))
section
variable {w w' : World} {b B : Nat} {a0 a1 a2 : Int} {v : Value}
theorem IsImg.c0 (h : IsImg w b a0 a1 a2 v) : w.cell? ⟨b, 0, none⟩ = some (.int .i64 a0) := (blk_cell h.out 0).trans rfl
theorem IsImg.c1 (h : IsImg w b a0 a1 a2 v) : w.cell? ⟨b, 1, none⟩ = some (.int .i64 a1) := (blk_cell h.out 1).trans rfl
theorem IsImg.c2 (h : IsImg w b a0 a1 a2 v) : w.cell? ⟨b, 2, none⟩ = some (.int .i64 a2) := (blk_cell h.out 2).trans rfl
theorem IsImg.c3 (h : IsImg w b a0 a1 a2 v) : w.cell? ⟨b, 3, none⟩ = some v := (blk_cell h.out 3).trans rfl
theorem IsImg.fz (h : IsImg w b a0 a1 a2 v) (i : Nat) : w.frozen? ⟨b, i, none⟩ = false := blk_frozen h.out i
theorem IsImg.lt (h : IsImg w b a0 a1 a2 v) : b < w.heap.size := blk_lt h.out
theorem IsImg.below (h : IsImg w b a0 a1 a2 v) (hb : Below w.heap.size w w') : IsImg w' b a0 a1 a2 v := ⟨(hb.block b h.lt).trans h.out⟩
theorem IsImg.alloc (h : IsImg w b a0 a1 a2 v) (o : Obj) : IsImg (w.alloc o) b a0 a1 a2 v := ⟨(heap_alloc_old w o h.lt).trans h.out⟩
theorem IsImg.drewN (h : IsImg w b a0 a1 a2 v) (n : Nat) : IsImg (w.drewN n) b a0 a1 a2 v := ⟨h.out⟩
theorem IsImg.drew (h : IsImg w b a0 a1 a2 v) : IsImg w.drew b a0 a1 a2 v := ⟨h.out⟩
theorem IsImg.far (h : IsImg w b a0 a1 a2 v) {p : Addr} (hp : b ≠ p.block) (u : Value) : IsImg (w.setCell p u) b a0 a1 a2 v := ⟨blk_far h.out hp u⟩
theorem IsImg.grown (h : IsImg w b a0 a1 a2 v) {row : Option Nat} (hg : w.grownBy w' row) (hne : some b ≠ row) : IsImg w' b a0 a1 a2 v := ⟨blk_grown h.out hg hne⟩
theorem IsImg.set3 (h : IsImg w b a0 a1 a2 v) (u : Value) : IsImg (w.setCell ⟨b, 3, none⟩ u) b a0 a1 a2 u := ⟨blk_put h.out 3 u rfl⟩
theorem IsImg.new (w : World) (a0 a1 a2 : Int) (v : Value) : IsImg (w.alloc (.cells #[.int .i64 a0, .int .i64 a1, .int .i64 a2, v] 25)) w.heap.size a0 a1 a2 v := ⟨Go.heap_alloc_new w _⟩
theorem IsImg.old (w : World) (a0 a1 a2 : Int) (v : Value) (o : Obj) : IsImg ((w.alloc (.cells #[.int .i64 a0, .int .i64 a1, .int .i64 a2, v] 25)).alloc o) w.heap.size a0 a1 a2 v := (IsImg.new w a0 a1 a2 v).alloc o
theorem IsImg.row (h : IsImg w b a0 a1 a2 v) (x0 x1 x2 : Int) (u : Value) : IsImg (w.setRow b #[.int .i64 x0, .int .i64 x1, .int .i64 x2, u]) b x0 x1 x2 u := ⟨setRow_heap w b _ _ _ _ h.out⟩
theorem IsImg.otherRow (h : IsImg w b a0 a1 a2 v) (c : Nat) (cs : Array Value) (hne : b ≠ c) : IsImg (w.setRow c cs) b a0 a1 a2 v := ⟨(setRow_other w c b cs hne).trans h.out⟩
end
theorem img_size : (Try.prog.info? 25).map (·.size) = some 4 := by kernel_rfl
theorem img_info : (Try.prog.info? 25).map (fun i => (i.zero, i.size)) = some (some (.agg #[.int .i64 0, .int .i64 0, .int .i64 0, .slice none 0 0]), 4) := by kernel_rfl
theorem run_zero_img (W : World) : (zeroValue 25).run Try.prog W = .ok (.agg #[.int .i64 0, .int .i64 0, .int .i64 0, .slice none 0 0]) W := by
  have h := img_info
  cases hi : Try.prog.info? 25 with
  | none => rw [hi] at h; cases h
  | some i =>
    rw [hi] at h
    simp only [Option.map_some, Option.some.injEq, Prod.mk.injEq] at h
    simp [zeroValue, typeInfo, hi, h.1]
theorem wsize_alloc (w : World) (o : Obj) : (w.alloc o).heap.size = w.heap.size + 1 := by simp
theorem wsize_setRow (w : World) (b : Nat) (cs : Array Value) : (w.setRow b cs).heap.size = w.heap.size := by simp [World.setRow]
theorem below_putRow {B : Nat} {w W : World} (h : Below B w W) (b : Nat) (cs : Array Value) (hb : B ≤ b) : Below B w (W.setRow b cs) :=
  ⟨h.os, h.tape, h.output, by rw [wsize_setRow]; exact h.size, fun i hi => (setRow_other W b i cs (by omega)).trans (h.block i hi)⟩
section
variable {ops : Array Oper} {rest : List Oper} {o : Oper} {a : Act} {w : World} {Q : Exit → Act → World → Prop}
theorem wpList_alloc_img (hgd : o.guard = none) (ho : o.op = .alloc 25)
    (h : wpList Try.prog ops Q rest (a.put o.dst (.pointer (some ⟨w.heap.size, 0, none⟩))) (w.alloc (.cells #[.int .i64 0, .int .i64 0, .int .i64 0, .slice none 0 0] 25))) : wpList Try.prog ops Q (o :: rest) a w := by
  refine wpList_plain hgd fun K hK => ?_
  unfold Oper.wp execOp
  simp only [ho, Instr.alloc, Sem.run_bind, run_zero_img, Result.andThen_ok]
  exact hK _ _ h
theorem wpList_box_img (hgd : o.guard = none) (x : Operand) (ho : o.op = .box 25 x) (cs : Array Value) (hx : a.eval x = .agg cs)
    (h : wpList Try.prog ops Q rest (a.put o.dst (.pointer (some ⟨w.heap.size, 0, none⟩))) (w.alloc (.cells cs 25))) : wpList Try.prog ops Q (o :: rest) a w := by
  refine wpList_plain hgd fun K hK => ?_
  unfold Oper.wp execOp
  simp only [ho, hx, Instr.box, Value.cells]
  exact hK _ _ h
theorem wpList_store_img (hgd : o.guard = none) (x y : Operand) (ho : o.op = .store 25 x y) (g : Nat) (x0 x1 x2 a0 a1 a2 : Int) (u v : Value) (hx : a.eval x = .pointer (some ⟨g, 0, none⟩)) (hy : a.eval y = .agg #[.int .i64 a0, .int .i64 a1, .int .i64 a2, v]) (h1 : v.oneCell' = true) (hg : IsImg w g x0 x1 x2 u)
    (h : wpList Try.prog ops Q rest (a.put o.dst undef) (w.setRow g #[.int .i64 a0, .int .i64 a1, .int .i64 a2, v])) : wpList Try.prog ops Q (o :: rest) a w :=
  wpList_plain hgd fun _ hK => wp_store_row 25 x y ho g #[.int .i64 a0, .int .i64 a1, .int .i64 a2, v] hx hy _ _ hg.out img_size rfl (by simp [h1]; exact ⟨rfl, rfl, rfl⟩) (hK _ _ h)
/-- A new image is made and written at once. -/
theorem wpList_put_img (hgd : o.guard = none) (x y : Operand) (ho : o.op = .store 25 x y) (a0 a1 a2 : Int) (v : Value) (hx : a.eval x = .pointer (some ⟨w.heap.size, 0, none⟩)) (hy : a.eval y = .agg #[.int .i64 a0, .int .i64 a1, .int .i64 a2, v]) (h1 : v.oneCell' = true)
    (h : ∀ W : World, Below w.heap.size w W → IsImg W w.heap.size a0 a1 a2 v → W.heap.size = w.heap.size + 1 → wpList Try.prog ops Q rest (a.put o.dst undef) W) : wpList Try.prog ops Q (o :: rest) a (w.alloc (.cells #[.int .i64 0, .int .i64 0, .int .i64 0, .slice none 0 0] 25)) :=
  wpList_store_img hgd x y ho w.heap.size 0 0 0 a0 a1 a2 _ v hx hy h1 (IsImg.new w _ _ _ _) (h _ (below_putRow (below_alloc (Below.refl _ _) _) _ _ (Nat.le_refl _)) ((IsImg.new w _ _ _ _).row a0 a1 a2 v) (by rw [wsize_setRow, wsize_alloc]))
theorem wpList_load_img (hgd : o.guard = none) (x : Operand) (ho : o.op = .load 25 x) (g : Nat) (a0 a1 a2 : Int) (v : Value) (hx : a.eval x = .pointer (some ⟨g, 0, none⟩)) (hg : IsImg w g a0 a1 a2 v)
    (h : wpList Try.prog ops Q rest (a.put o.dst (.agg #[.int .i64 a0, .int .i64 a1, .int .i64 a2, v])) w) : wpList Try.prog ops Q (o :: rest) a w :=
  wpList_load_row hgd 25 x ho g hx _ _ _ _ hg.out Try.underlying25 rfl img_size h
end
theorem IsImg.second (w : World) (o : Obj) (a0 a1 a2 : Int) (v : Value) : IsImg ((w.alloc o).alloc (.cells #[.int .i64 a0, .int .i64 a1, .int .i64 a2, v] 25)) (w.heap.size + 1) a0 a1 a2 v := by
  have h := IsImg.new (w.alloc o) a0 a1 a2 v
  rwa [wsize_alloc] at h
theorem below_two (w : World) (o1 o2 : Obj) : Below w.heap.size w ((w.alloc o1).alloc o2) := below_alloc (below_alloc (Below.refl w.heap.size w) o1) o2
theorem own_one {d : Kd Int} {e base : Nat} {ok : Nat → Prop} {w : World} {v : Value} {xs : List Int} (h : d.R e w base ok v xs) : v.oneCell' = true := by
  obtain ⟨A, c, rfl⟩ := Kd.R_slice h
  rfl
/-! ### Several blocks made at a function's start -/
def allocs (w : World) (os : List Obj) : World := os.foldl World.alloc w
theorem allocs_size (os : List Obj) : ∀ w : World, (allocs w os).heap.size = w.heap.size + os.length := by
  induction os with
  | nil => intro w; rfl
  | cons o t ih =>
    intro w
    show (allocs (w.alloc o) t).heap.size = _
    rw [ih, wsize_alloc, List.length_cons]
    omega
theorem allocs_below (os : List Obj) : ∀ w : World, Below w.heap.size w (allocs w os) := by
  induction os with
  | nil => intro w; exact Below.refl _ _
  | cons o t ih =>
    intro w
    exact below_step (below_alloc (Below.refl _ _) o) (ih (w.alloc o))
theorem allocs_at (os : List Obj) : ∀ (w : World) (k : Nat) (o : Obj), os[k]? = some o → (allocs w os).heap[w.heap.size + k]? = some o := by
  induction os with
  | nil => intro w k o h; simp at h
  | cons a t ih =>
    intro w k o h
    show (allocs (w.alloc a) t).heap[w.heap.size + k]? = some o
    cases k with
    | zero =>
      simp only [List.getElem?_cons_zero, Option.some.injEq] at h
      subst h
      exact ((allocs_below t (w.alloc a)).block w.heap.size (by rw [wsize_alloc]; omega)).trans (Go.heap_alloc_new w a)
    | succ k =>
      simp only [List.getElem?_cons_succ] at h
      have h2 := ih (w.alloc a) k o h
      rw [wsize_alloc] at h2
      rw [show w.heap.size + (k + 1) = w.heap.size + 1 + k by omega]
      exact h2
theorem allocs_cell (os : List Obj) (w : World) (k : Nat) (v : Value) (t : TypeId) (h : os[k]? = some (.cells #[v] t)) : (allocs w os).cell? ⟨w.heap.size + k, 0, none⟩ = some v := (blk_cell (allocs_at os w k _ h) 0).trans rfl
theorem allocs_img (os : List Obj) (w : World) (k : Nat) (a0 a1 a2 : Int) (v : Value) (h : os[k]? = some (.cells #[.int .i64 a0, .int .i64 a1, .int .i64 a2, v] 25)) : IsImg (allocs w os) (w.heap.size + k) a0 a1 a2 v := ⟨allocs_at os w k _ h⟩

--SNIP hand_Runs
/-! ### The runs of a grid, as plain mathematics. -/
def endAt (f : Nat → Bool) (y : Nat) : Nat → Nat
  | 0 => 16
  | d + 1 => if f (16 * y + (15 - d)) = true then endAt f y d else 15 - d
/-- Where the run that stands at column x of row y ends. -/
def endOf (f : Nat → Bool) (y x : Nat) : Nat := endAt f y (16 - x)
theorem endOf_out (f : Nat → Bool) (y x : Nat) (h : 16 ≤ x) : endOf f y x = 16 := by
  unfold endOf
  rw [show 16 - x = 0 by omega]
  rfl
theorem endOf_true (f : Nat → Bool) (y x : Nat) (h : x < 16) (hf : f (16 * y + x) = true) : endOf f y x = endOf f y (x + 1) := by
  unfold endOf
  obtain ⟨d, hd⟩ : ∃ d, 16 - x = d + 1 := ⟨15 - x, by omega⟩
  rw [hd, show 16 - (x + 1) = d by omega]
  simp only [endAt]
  rw [show 15 - d = x by omega, if_pos hf]
theorem endOf_false (f : Nat → Bool) (y x : Nat) (h : x < 16) (hf : f (16 * y + x) = false) : endOf f y x = x := by
  unfold endOf
  obtain ⟨d, hd⟩ : ∃ d, 16 - x = d + 1 := ⟨15 - x, by omega⟩
  rw [hd]
  simp only [endAt]
  rw [show 15 - d = x by omega, if_neg (by rw [hf]; simp)]
theorem endOf_facts (f : Nat → Bool) (y : Nat) (d : Nat) : ∀ x, x ≤ 16 → 16 - x = d → x ≤ endOf f y x ∧ endOf f y x ≤ 16 ∧ (∀ i, x ≤ i → i < endOf f y x → f (16 * y + i) = true) ∧ (endOf f y x < 16 → f (16 * y + endOf f y x) = false) := by
  induction d with
  | zero =>
    intro x hx hd
    rw [endOf_out f y x (by omega)]
    exact ⟨by omega, by omega, fun i h1 h2 => by omega, fun h => by omega⟩
  | succ d ih =>
    intro x hx hd
    cases hf : f (16 * y + x) with
    | true =>
      rw [endOf_true f y x (by omega) hf]
      obtain ⟨h1, h2, h3, h4⟩ := ih (x + 1) (by omega) (by omega)
      refine ⟨by omega, h2, fun i hi hi2 => ?_, h4⟩
      rcases Nat.eq_or_lt_of_le hi with h | h
      · subst h
        exact hf
      · exact h3 i h hi2
    | false =>
      rw [endOf_false f y x (by omega) hf]
      exact ⟨by omega, by omega, fun i h1 h2 => by omega, fun _ => hf⟩
theorem endOf_gt (f : Nat → Bool) (y x : Nat) (h : x < 16) (hf : f (16 * y + x) = true) : x < endOf f y x := by
  rw [endOf_true f y x h hf]
  have := (endOf_facts f y (16 - (x + 1)) (x + 1) (by omega) rfl).1
  omega
/-- Does a run begin at this place? -/
def startB (f : Nat → Bool) (i : Nat) : Bool := f i && (decide (i % 16 = 0) || !f (i - 1))
def runAt (f : Nat → Bool) (i : Nat) : Option S59 := if startB f i = true then some ⟨(i / 16 : Nat), (i % 16 : Nat), (endOf f (i / 16) (i % 16) : Nat)⟩ else none
/-- The runs that begin ahead of place n. -/
def runsUpto (f : Nat → Bool) (n : Nat) : List S59 := (List.range n).filterMap (runAt f)
/-- The runs of a grid. -/
def runsL (f : Nat → Bool) : List S59 := runsUpto f 256
theorem runsUpto_zero (f : Nat → Bool) : runsUpto f 0 = [] := rfl
theorem runsUpto_skip (f : Nat → Bool) (n : Nat) (h : startB f n = false) : runsUpto f (n + 1) = runsUpto f n := by
  unfold runsUpto
  rw [List.range_succ, List.filterMap_append]
  simp [runAt, h]
theorem runsUpto_hit (f : Nat → Bool) (n : Nat) (h : startB f n = true) : runsUpto f (n + 1) = runsUpto f n ++ [⟨(n / 16 : Nat), (n % 16 : Nat), (endOf f (n / 16) (n % 16) : Nat)⟩] := by
  unfold runsUpto
  rw [List.range_succ, List.filterMap_append]
  simp [runAt, h]
theorem runsUpto_false (f : Nat → Bool) (n : Nat) (h : f n = false) : runsUpto f (n + 1) = runsUpto f n := runsUpto_skip f n (by simp [startB, h])
theorem runsUpto_run (f : Nat → Bool) (y x : Nat) (hx : x < 16) (hf : f (16 * y + x) = true) (hs : x = 0 ∨ f (16 * y + x - 1) = false) :
    runsUpto f (16 * y + endOf f y x) = runsUpto f (16 * y + x) ++ [⟨(y : Int), (x : Int), (endOf f y x : Nat)⟩] := by
  have hst : startB f (16 * y + x) = true := by
    unfold startB
    rw [hf]
    rcases hs with h | h
    · simp [show (16 * y + x) % 16 = 0 by omega]
    · simp [h]
  have h0 : runsUpto f (16 * y + x + 1) = runsUpto f (16 * y + x) ++ [⟨(y : Int), (x : Int), (endOf f y x : Nat)⟩] := by
    rw [runsUpto_hit f _ hst, show (16 * y + x) / 16 = y by omega, show (16 * y + x) % 16 = x by omega]
  obtain ⟨h1, h2, h3, _⟩ := endOf_facts f y (16 - x) x (by omega) rfl
  have hgt := endOf_gt f y x hx hf
  have hd : ∀ d, x + 1 + d ≤ endOf f y x → runsUpto f (16 * y + x + 1 + d) = runsUpto f (16 * y + x + 1) := by
    intro d
    induction d with
    | zero => intro _; rfl
    | succ d ih =>
      intro hle
      rw [← ih (by omega), show 16 * y + x + 1 + (d + 1) = 16 * y + x + 1 + d + 1 by omega]
      refine runsUpto_skip f _ ?_
      have hp : f (16 * y + (x + d)) = true := h3 (x + d) (by omega) (by omega)
      unfold startB
      rw [show 16 * y + x + 1 + d - 1 = 16 * y + (x + d) by omega, hp]
      simp
      intro _
      omega
  have := hd (endOf f y x - (x + 1)) (by omega)
  rw [show 16 * y + x + 1 + (endOf f y x - (x + 1)) = 16 * y + endOf f y x by omega] at this
  rw [this, h0]
theorem runsUpto_length (f : Nat → Bool) (n : Nat) : (runsUpto f n).length ≤ n := by
  unfold runsUpto
  have := List.length_filterMap_le (runAt f) (List.range n)
  simpa using this

--SNIP hand_Squeeze
/-! ### Words by which long printed proofs are said shorter -/
theorem am_ {p : Prop} (h : p) : Aside0 p := ⟨h⟩
theorem blk4_ {w : World} {g t : Nat} {a b c d : Value} (h : w.heap[g]? = some (.cells #[a, b, c, d] t (0, 0))) :
    w.cell? ⟨g, 0, none⟩ = some a ∧ w.cell? ⟨g, 1, none⟩ = some b ∧ w.cell? ⟨g, 2, none⟩ = some c ∧ w.cell? ⟨g, 3, none⟩ = some d ∧ w.frozen? ⟨g, 0, none⟩ = false ∧ w.frozen? ⟨g, 1, none⟩ = false ∧ w.frozen? ⟨g, 2, none⟩ = false ∧ w.frozen? ⟨g, 3, none⟩ = false :=
  ⟨(blk_cell h 0).trans rfl, (blk_cell h 1).trans rfl, (blk_cell h 2).trans rfl, (blk_cell h 3).trans rfl, blk_frozen h 0, blk_frozen h 1, blk_frozen h 2, blk_frozen h 3⟩
theorem far1_ {w : World} {g g' t : Nat} {cs : Array Value} (h : w.heap[g]? = some (.cells cs t (0, 0))) (hne : g ≠ g') (u0 : Value) :
    (w.setCell ⟨g', 0, none⟩ u0).heap[g]? = some (.cells cs t (0, 0)) := (blk_far (p := ⟨g', 0, none⟩) h hne u0)
theorem put1_ {w : World} {g t : Nat} {a b c d : Value} (h : w.heap[g]? = some (.cells #[a, b, c, d] t (0, 0))) (u0 : Value) :
    (w.setCell ⟨g, 0, none⟩ u0).heap[g]? = some (.cells #[u0, b, c, d] t (0, 0)) := (blk_put h 0 u0 rfl)
theorem far2_ {w : World} {g g' t : Nat} {cs : Array Value} (h : w.heap[g]? = some (.cells cs t (0, 0))) (hne : g ≠ g') (u0 u1 : Value) :
    ((w.setCell ⟨g', 0, none⟩ u0).setCell ⟨g', 1, none⟩ u1).heap[g]? = some (.cells cs t (0, 0)) := (blk_far (p := ⟨g', 1, none⟩) (blk_far (p := ⟨g', 0, none⟩) h hne u0) hne u1)
theorem put2_ {w : World} {g t : Nat} {a b c d : Value} (h : w.heap[g]? = some (.cells #[a, b, c, d] t (0, 0))) (u0 u1 : Value) :
    ((w.setCell ⟨g, 0, none⟩ u0).setCell ⟨g, 1, none⟩ u1).heap[g]? = some (.cells #[u0, u1, c, d] t (0, 0)) := (blk_put (blk_put h 0 u0 rfl) 1 u1 rfl)
theorem far3_ {w : World} {g g' t : Nat} {cs : Array Value} (h : w.heap[g]? = some (.cells cs t (0, 0))) (hne : g ≠ g') (u0 u1 u2 : Value) :
    (((w.setCell ⟨g', 0, none⟩ u0).setCell ⟨g', 1, none⟩ u1).setCell ⟨g', 2, none⟩ u2).heap[g]? = some (.cells cs t (0, 0)) := (blk_far (p := ⟨g', 2, none⟩) (blk_far (p := ⟨g', 1, none⟩) (blk_far (p := ⟨g', 0, none⟩) h hne u0) hne u1) hne u2)
theorem put3_ {w : World} {g t : Nat} {a b c d : Value} (h : w.heap[g]? = some (.cells #[a, b, c, d] t (0, 0))) (u0 u1 u2 : Value) :
    (((w.setCell ⟨g, 0, none⟩ u0).setCell ⟨g, 1, none⟩ u1).setCell ⟨g, 2, none⟩ u2).heap[g]? = some (.cells #[u0, u1, u2, d] t (0, 0)) := (blk_put (blk_put (blk_put h 0 u0 rfl) 1 u1 rfl) 2 u2 rfl)
theorem put1_2 {w : World} {g t : Nat} {a b : Value} (h : w.heap[g]? = some (.cells #[a, b] t (0, 0))) (u0 : Value) :
    (w.setCell ⟨g, 0, none⟩ u0).heap[g]? = some (.cells #[u0, b] t (0, 0)) := (blk_put h 0 u0 rfl)
theorem put2_2 {w : World} {g t : Nat} {a b : Value} (h : w.heap[g]? = some (.cells #[a, b] t (0, 0))) (u0 u1 : Value) :
    ((w.setCell ⟨g, 0, none⟩ u0).setCell ⟨g, 1, none⟩ u1).heap[g]? = some (.cells #[u0, u1] t (0, 0)) := (blk_put (blk_put h 0 u0 rfl) 1 u1 rfl)
theorem put1_3 {w : World} {g t : Nat} {a b c : Value} (h : w.heap[g]? = some (.cells #[a, b, c] t (0, 0))) (u0 : Value) :
    (w.setCell ⟨g, 0, none⟩ u0).heap[g]? = some (.cells #[u0, b, c] t (0, 0)) := (blk_put h 0 u0 rfl)
theorem put2_3 {w : World} {g t : Nat} {a b c : Value} (h : w.heap[g]? = some (.cells #[a, b, c] t (0, 0))) (u0 u1 : Value) :
    ((w.setCell ⟨g, 0, none⟩ u0).setCell ⟨g, 1, none⟩ u1).heap[g]? = some (.cells #[u0, u1, c] t (0, 0)) := (blk_put (blk_put h 0 u0 rfl) 1 u1 rfl)
theorem put3_3 {w : World} {g t : Nat} {a b c : Value} (h : w.heap[g]? = some (.cells #[a, b, c] t (0, 0))) (u0 u1 u2 : Value) :
    (((w.setCell ⟨g, 0, none⟩ u0).setCell ⟨g, 1, none⟩ u1).setCell ⟨g, 2, none⟩ u2).heap[g]? = some (.cells #[u0, u1, u2] t (0, 0)) := (blk_put (blk_put (blk_put h 0 u0 rfl) 1 u1 rfl) 2 u2 rfl)
theorem far4_ {w : World} {g g' t : Nat} {cs : Array Value} (h : w.heap[g]? = some (.cells cs t (0, 0))) (hne : g ≠ g') (u0 u1 u2 u3 : Value) :
    ((((w.setCell ⟨g', 0, none⟩ u0).setCell ⟨g', 1, none⟩ u1).setCell ⟨g', 2, none⟩ u2).setCell ⟨g', 3, none⟩ u3).heap[g]? = some (.cells cs t (0, 0)) := (blk_far (p := ⟨g', 3, none⟩) (blk_far (p := ⟨g', 2, none⟩) (blk_far (p := ⟨g', 1, none⟩) (blk_far (p := ⟨g', 0, none⟩) h hne u0) hne u1) hne u2) hne u3)
theorem put4_ {w : World} {g t : Nat} {a b c d : Value} (h : w.heap[g]? = some (.cells #[a, b, c, d] t (0, 0))) (u0 u1 u2 u3 : Value) :
    ((((w.setCell ⟨g, 0, none⟩ u0).setCell ⟨g, 1, none⟩ u1).setCell ⟨g, 2, none⟩ u2).setCell ⟨g, 3, none⟩ u3).heap[g]? = some (.cells #[u0, u1, u2, u3] t (0, 0)) := (blk_put (blk_put (blk_put (blk_put h 0 u0 rfl) 1 u1 rfl) 2 u2 rfl) 3 u3 rfl)
section
variable {α : Type} {d : Kd α} {e base g t : Nat} {ok : Nat → Prop} {w : World} {v : Value} {xs : List α} {cells : Array Value}
theorem R1_ (h : d.R e w base ok v xs) (hb : w.heap[g]? = some (.cells cells t (0, 0))) (ht : ∀ q, q ∈ e :: d.E → q ≠ t) (u0 : Value) :
    d.R e (w.setCell ⟨g, 0, none⟩ u0) base ok v xs := Kd.R_mono (Kd.R_far (p := ⟨g, 0, none⟩) (Kd.R_types h hb ht) (fun _ hk => hk.2) u0) (fun _ h_ => h_.1)
theorem Q1_ (h : d.Q e w base ok v xs) (hb : w.heap[g]? = some (.cells cells t (0, 0))) (ht : ∀ q, q ∈ e :: d.E → q ≠ t) (u0 : Value) :
    d.Q e (w.setCell ⟨g, 0, none⟩ u0) base ok v xs := Kd.Q_mono (Kd.Q_far (p := ⟨g, 0, none⟩) (Kd.Q_types h hb ht) (fun _ hk => hk.2) u0) (fun _ h_ => h_.1)
theorem R2_ (h : d.R e w base ok v xs) (hb : w.heap[g]? = some (.cells cells t (0, 0))) (ht : ∀ q, q ∈ e :: d.E → q ≠ t) (u0 u1 : Value) :
    d.R e ((w.setCell ⟨g, 0, none⟩ u0).setCell ⟨g, 1, none⟩ u1) base ok v xs := Kd.R_mono (Kd.R_far (p := ⟨g, 1, none⟩) (Kd.R_far (p := ⟨g, 0, none⟩) (Kd.R_types h hb ht) (fun _ hk => hk.2) u0) (fun _ hk => hk.2) u1) (fun _ h_ => h_.1)
theorem Q2_ (h : d.Q e w base ok v xs) (hb : w.heap[g]? = some (.cells cells t (0, 0))) (ht : ∀ q, q ∈ e :: d.E → q ≠ t) (u0 u1 : Value) :
    d.Q e ((w.setCell ⟨g, 0, none⟩ u0).setCell ⟨g, 1, none⟩ u1) base ok v xs := Kd.Q_mono (Kd.Q_far (p := ⟨g, 1, none⟩) (Kd.Q_far (p := ⟨g, 0, none⟩) (Kd.Q_types h hb ht) (fun _ hk => hk.2) u0) (fun _ hk => hk.2) u1) (fun _ h_ => h_.1)
theorem R3_ (h : d.R e w base ok v xs) (hb : w.heap[g]? = some (.cells cells t (0, 0))) (ht : ∀ q, q ∈ e :: d.E → q ≠ t) (u0 u1 u2 : Value) :
    d.R e (((w.setCell ⟨g, 0, none⟩ u0).setCell ⟨g, 1, none⟩ u1).setCell ⟨g, 2, none⟩ u2) base ok v xs := Kd.R_mono (Kd.R_far (p := ⟨g, 2, none⟩) (Kd.R_far (p := ⟨g, 1, none⟩) (Kd.R_far (p := ⟨g, 0, none⟩) (Kd.R_types h hb ht) (fun _ hk => hk.2) u0) (fun _ hk => hk.2) u1) (fun _ hk => hk.2) u2) (fun _ h_ => h_.1)
theorem Q3_ (h : d.Q e w base ok v xs) (hb : w.heap[g]? = some (.cells cells t (0, 0))) (ht : ∀ q, q ∈ e :: d.E → q ≠ t) (u0 u1 u2 : Value) :
    d.Q e (((w.setCell ⟨g, 0, none⟩ u0).setCell ⟨g, 1, none⟩ u1).setCell ⟨g, 2, none⟩ u2) base ok v xs := Kd.Q_mono (Kd.Q_far (p := ⟨g, 2, none⟩) (Kd.Q_far (p := ⟨g, 1, none⟩) (Kd.Q_far (p := ⟨g, 0, none⟩) (Kd.Q_types h hb ht) (fun _ hk => hk.2) u0) (fun _ hk => hk.2) u1) (fun _ hk => hk.2) u2) (fun _ h_ => h_.1)
theorem R4_ (h : d.R e w base ok v xs) (hb : w.heap[g]? = some (.cells cells t (0, 0))) (ht : ∀ q, q ∈ e :: d.E → q ≠ t) (u0 u1 u2 u3 : Value) :
    d.R e ((((w.setCell ⟨g, 0, none⟩ u0).setCell ⟨g, 1, none⟩ u1).setCell ⟨g, 2, none⟩ u2).setCell ⟨g, 3, none⟩ u3) base ok v xs := Kd.R_mono (Kd.R_far (p := ⟨g, 3, none⟩) (Kd.R_far (p := ⟨g, 2, none⟩) (Kd.R_far (p := ⟨g, 1, none⟩) (Kd.R_far (p := ⟨g, 0, none⟩) (Kd.R_types h hb ht) (fun _ hk => hk.2) u0) (fun _ hk => hk.2) u1) (fun _ hk => hk.2) u2) (fun _ hk => hk.2) u3) (fun _ h_ => h_.1)
theorem Q4_ (h : d.Q e w base ok v xs) (hb : w.heap[g]? = some (.cells cells t (0, 0))) (ht : ∀ q, q ∈ e :: d.E → q ≠ t) (u0 u1 u2 u3 : Value) :
    d.Q e ((((w.setCell ⟨g, 0, none⟩ u0).setCell ⟨g, 1, none⟩ u1).setCell ⟨g, 2, none⟩ u2).setCell ⟨g, 3, none⟩ u3) base ok v xs := Kd.Q_mono (Kd.Q_far (p := ⟨g, 3, none⟩) (Kd.Q_far (p := ⟨g, 2, none⟩) (Kd.Q_far (p := ⟨g, 1, none⟩) (Kd.Q_far (p := ⟨g, 0, none⟩) (Kd.Q_types h hb ht) (fun _ hk => hk.2) u0) (fun _ hk => hk.2) u1) (fun _ hk => hk.2) u2) (fun _ hk => hk.2) u3) (fun _ h_ => h_.1)
end

--SNIP hand_Squeeze2
/-! ### More such words: the scripts that are said again and again lie in auto-params -/
theorem hb_ {B : Nat} {w w' : World} (h : Below B w w' := by repeat (first | (refine Aside0.out ?_; with_reducible assumption) | with_reducible apply below_alloc | with_reducible apply pw_below_drewN | with_reducible apply below_drew1 | (with_reducible refine below_set ?_ ?_; rotate_left; (refine Aside0.out ?_; with_reducible assumption)) | (refine Aside0.out ?_; assumption))) : Below B w w' := h
section
variable {α : Type} {d : Kd α} {e base : Nat} {ok : Nat → Prop} {w w' : World} {v : Value} {xs : List α}
theorem rb_ (h : Aside0 (d.R e w base ok v xs)) (hb : Below w.heap.size w w') : Aside0 (d.R e w' base ok v xs) := ⟨Kd.R_below h.out hb⟩
theorem bb_ {g : Nat} {o : Obj} (h : Aside0 (w.heap[g]? = some o)) (hb : Below w.heap.size w w') : Aside0 (w'.heap[g]? = some o) := ⟨blk_below h.out hb⟩
theorem nb_ {g g' : Nat} {o : Obj} (hg : g' = w.heap.size) (h : Aside0 (w.heap[g]? = some o)) : Aside0 (g ≠ g') := ⟨by rw [hg]; exact Nat.ne_of_lt (blk_lt h.out)⟩
theorem nc_ {g g' : Nat} (h : Aside0 (g ≠ g')) : Aside0 (g' ≠ g) := ⟨fun e => h.out e.symm⟩
theorem s8_ {g g' t t' : Nat} {a b c u a' b' c' u' : Value} (h : Aside0 (w.heap[g]? = some (.cells #[a, b, c, u] t (0, 0)))) (h' : Aside0 (w.heap[g']? = some (.cells #[a', b', c', u'] t' (0, 0)))) :
    w.cell? ⟨g, 0, none⟩ = some a ∧ w.cell? ⟨g, 1, none⟩ = some b ∧ w.cell? ⟨g, 2, none⟩ = some c ∧ w.cell? ⟨g, 3, none⟩ = some u ∧ w.cell? ⟨g', 0, none⟩ = some a' ∧ w.cell? ⟨g', 1, none⟩ = some b' ∧ w.cell? ⟨g', 2, none⟩ = some c' ∧ w.cell? ⟨g', 3, none⟩ = some u' :=
  ⟨(blk_cell h.out 0).trans rfl, (blk_cell h.out 1).trans rfl, (blk_cell h.out 2).trans rfl, (blk_cell h.out 3).trans rfl, (blk_cell h'.out 0).trans rfl, (blk_cell h'.out 1).trans rfl, (blk_cell h'.out 2).trans rfl, (blk_cell h'.out 3).trans rfl⟩
end
theorem nrm_ {P : Program} {ops : Array Oper} {Q : Exit → Act → World → Prop} {md : Region.Mode} {S : World → Prop} {ds : List Nat} {fuel : Nat} {l : Array Bool} {a a' : Act} {w : World} (h : wpAnyLast P md ops Q S ds fuel l a' w)
    (ha : a = a' := by first | (simp only [putAll, Act.put, List.setIfInBounds_toArray, List.set_cons_zero, List.set_cons_succ]; done) | (simp only [putAll, Act.put, List.setIfInBounds_toArray, List.set_cons_zero, List.set_cons_succ]; rfl)) : wpAnyLast P md ops Q S ds fuel l a w := norm_ ha h

--SNIP hand_Words
/-! ### Words of this work: calls through a function value; a callee that only reads. -/
section
variable {P : Program} {ops : Array Oper} {Q : Exit → Act → World → Prop}
/-- A call through a value that is a function with what it captured. -/
theorem goesV {rest : List Oper} {oi : Oper} {a : Act} {w : World} (N : Option Tmp) (hd : oi.dst = N) (hg : oi.guard = none) {f : FuncId} {fn : Func} {x : Operand} {as0 : Array Operand} {ts : Array TypeId} {caps : Array Value}
    (hf : P.funcs[f]? = some fn) (hname : (fn.name == "runtime.NumGoroutine") = false) (hb : fn.body.isSome = true) (args : Array Value)
    (hop : oi.op = .call { callee := .value x, args := as0, argTypes := ts }) (hx : a.eval x = .func (.func f) #[] caps) (hargs : as0.map a.eval ++ caps = args)
    (h : Calls P f args w fun e w' => ∃ v, e = .returned v ∧ wpList P ops Q rest (a.put N v) w') : wpList P ops Q (oi :: rest) a w := by
  refine wpList_plain hg fun K hK => ?_
  have he := enters_ hf hname hb args w
  have hrun : (execOp a.eval oi).run P w = .ok (.enter f args) w := by
    unfold execOp
    simp [hop, resolve, Deferred.ofValue, invoke, hx, hargs, he]
  unfold Oper.wp
  rw [hrun, Oper.upon_enter]
  refine h.mono fun e w'' hh => ?_
  obtain ⟨v, rfl, hk⟩ := hh
  subst hd
  exact hK _ _ hk
end
/-! ### 'From some number of rounds on': small steps -/
theorem evIf {α : Type} {c : Prop} [Decidable c] {f g : Nat → Option α} {r : α} (h1 : c → Ev f r) (h2 : ¬ c → Ev g r) : Ev (fun k => if c then f k else g k) r := by
  by_cases h : c
  · simp only [if_pos h]; exact h1 h
  · simp only [if_neg h]; exact h2 h
theorem evPos {α : Type} {c : Prop} [Decidable c] {f g : Nat → Option α} {r : α} (h : c) (h1 : Ev f r) : Ev (fun k => if c then f k else g k) r := evIf (fun _ => h1) (fun hn => absurd h hn)
theorem evNeg {α : Type} {c : Prop} [Decidable c] {f g : Nat → Option α} {r : α} (h : ¬ c) (h1 : Ev g r) : Ev (fun k => if c then f k else g k) r := evIf (fun hn => absurd hn h) (fun _ => h1)
theorem evRet {α : Type} {a r : α} (h : a = r) : Ev (fun _ => some a) r := h ▸ Ev.now _
theorem evBind {α β : Type} {g : Nat → Option α} {f : Nat → α → Option β} {a : α} {r : β} (h : Ev g a) (k : Ev (fun n => f n a) r) : Ev (fun n => (g n).bind fun t => f n t) r := Ev.bind h k
theorem evFix {α β : Type} {g : Option α} {f : Nat → α → Option β} {a : α} {r : β} (h : g = some a) (k : Ev (fun n => f n a) r) : Ev (fun n => g.bind fun t => f n t) r := by
  subst h
  exact k
theorem wrapNat (n : Nat) (h : n ≤ 9223372036854775807) : wrap64 (n : Int) = (n : Int) := by unfold wrap64; omega
theorem wrapIn {x : Int} (h0 : -9223372036854775808 ≤ x) (h1 : x ≤ 9223372036854775807) : wrap64 x = x := by unfold wrap64; omega
theorem wrapSucc (n : Nat) (h : n < 9223372036854775807) : wrap64 ((n : Int) + 1) = ((n + 1 : Nat) : Int) := by unfold wrap64; omega
theorem qrow_raise {w : World} {b b' e size n : Nat} {v : Value} {xs : List Value} (h : QRow w b e size v n xs) (hb : ∀ k, v.ownBlock = some k → b' ≤ k) : QRow w b' e size v n xs := by
  obtain ⟨h1, h2⟩ := h
  refine ⟨h1, ?_⟩
  rcases h2 with ⟨hn, A, rfl, hA⟩ | ⟨g, off, cap, cur, rfl, _, r⟩
  · refine .inl ⟨hn, A, rfl, fun a ha => ⟨hb a.block ?_, (hA a ha).2⟩⟩
    rw [ha]
    simp [Value.ownBlock]
  · exact .inr ⟨g, off, cap, cur, rfl, hb g (by simp [Value.ownBlock]), r⟩
/-- As Kd.R_raise, of a part of a row. -/
theorem q_raise {α : Type} {d : Kd α} {e b b' : Nat} {W : World} {ok : Nat → Prop} {v : Value} {xs : List α} (hM : ∀ w ok x cs, d.M w b ok x cs → d.M w b' ok x cs) (h : d.Q e W b ok v xs) (hb : ∀ k, v.ownBlock = some k → b' ≤ k) : d.Q e W b' ok v xs := by
  obtain ⟨h0, inner, ho, hr⟩ := h
  exact ⟨h0, inner, qrow_raise ho hb, hr.imp_ (fun _ _ hp => hM _ _ _ _ hp)⟩

--SNIP impl_Image_at
/-- The numbers of a pixel. -/
def pixN (W p : Nat) (l : List Int) (x y : Nat) : List Int := (l.take ((y * W + x) * p + p)).drop ((y * W + x) * p)
theorem pix_lt {W H p x y : Nat} (hx : x < W) (hy : y < H) : (y * W + x) * p + p ≤ W * H * p := by
  have h1 : y * W + x + 1 ≤ W * H := by
    have : (y + 1) * W ≤ H * W := Nat.mul_le_mul_right _ hy
    rw [Nat.succ_mul] at this
    rw [Nat.mul_comm W H]
    omega
  have h2 := Nat.mul_le_mul_right p h1
  rw [Nat.succ_mul] at h2
  exact h2
theorem pixN_length {W H p x y : Nat} {l : List Int} (hx : x < W) (hy : y < H) (hl : l.length = W * H * p) : (pixN W p l x y).length = p := by
  have := pix_lt (p := p) hx hy
  unfold pixN
  rw [List.length_drop, List.length_take]
  omega
set_option maxHeartbeats 8000000 in
set_option maxRecDepth 100000 in
theorem impl_Image_at.any (W H p : Nat) (A : Option Addr) (c : Nat) (l : List Int) (x y : Nat) (w : World) (hr : Kd.C (Kd.int .i64) w A l.length l) (hc : l.length ≤ c) (hl : l.length = W * H * p) (hW : W ≤ 16) (hH : H ≤ 16) (hp : p ≤ 4) (hx : x < W) (hy : y < H) :
    Calls Try.prog 28 #[.agg #[.int .i64 W, .int .i64 H, .int .i64 p, .slice A l.length c], .int .i64 x, .int .i64 y] w fun e w' =>
      ∃ (A' : Option Addr) (c' : Nat), e = .returned (.slice A' (pixN W p l x y).length c') ∧ Kd.C (Kd.int .i64) w' A' (pixN W p l x y).length (pixN W p l x y) ∧ (pixN W p l x y).length ≤ c' ∧ Below w.heap.size w w' := by
  have hlt := pix_lt (p := p) hx hy
  rw [← hl] at hlt
  have b1 : y * W ≤ 16 * 16 := Nat.mul_le_mul (by omega) hW
  have b2 : (y * W + x) * p ≤ 512 * 4 := Nat.mul_le_mul (by omega) hp
  obtain ⟨i, hi⟩ : ∃ i, i = (y * W + x) * p := ⟨_, rfl⟩
  rw [← hi] at hlt b2
  have e1 : (y : Int) * (W : Int) = ((y * W : Nat) : Int) := by push_cast; rfl
  have e2 : (((y * W : Nat) : Int) + (x : Int)) * (p : Int) = (i : Int) := by rw [hi]; push_cast; rfl
  have hm := Kd.C_mid (lo := i) (hi := i + p) hr (by omega) hlt hc
  have hcut := cut_mid (P := Try.prog) 23 3 .i64 .i64 Try.underlying23 (i := (Try.prog.info? 3).get (by kernel_rfl)) (by kernel_rfl) 1 (by kernel_rfl) A l.length c (i : Int) ((i : Int) + (p : Int)) (by omega) (by omega) (by omega) hc
  rw [Int.toNat_natCast, show ((i : Int) + (p : Int)).toNat - i = p by omega] at hcut
  have hlen := pixN_length hx hy hl
  have hq : (l.take (i + p)).drop i = pixN W p l x y := by rw [hi]; rfl
  rw [hq, hlen] at hm
  rw [hlen]
  obtain ⟨A', hA'⟩ : ∃ A' : Option Addr, (if c = i then A else A.map (·.add (i * 1))) = A' := ⟨_, rfl⟩
  rw [hA'] at hcut
  replace hm : Kd.C (Kd.int .i64) w A' p (pixN W p l x y) := by rw [← hA']; exact hm
  have HM := Aside0.mk hm
  have hcc : p ≤ c - i := by omega
  have HB : Aside0 (Below w.heap.size w (w.alloc (.cells #[.int .i64 W, .int .i64 H, .int .i64 p, .slice A l.length c] 25))) := ⟨below_alloc (Below.refl _ _) _⟩
  have e3 : ((y : Int) * (W : Int) + (x : Int)) * (p : Int) = (i : Int) := by rw [e1]; exact e2
  have m1 : (0 : Int) ≤ (y : Int) * (W : Int) := by rw [e1]; omega
  have m2 : (y : Int) * (W : Int) ≤ 256 := by rw [e1]; omega
  have m3 : (0 : Int) ≤ ((y : Int) * (W : Int) + (x : Int)) * (p : Int) := by rw [e3]; omega
  have m4 : ((y : Int) * (W : Int) + (x : Int)) * (p : Int) ≤ 2048 := by rw [e3]; omega
  rw [← e3] at hcut
  have HL := Aside0.mk hlen
  clear hm hq hr hA' hl hlt hi e1 e2 e3 b1 b2 hlen
  go_enter Try.func28, Try.ntmps28
  go_wp2
  go_ret
  exact ⟨_, _, rfl, Kd.C_alloc HM.out _, hcc, HB.out⟩
/-- The same, the address told. -/
theorem at_addr (ad : Addr) (i k : Nat) : (ad.add i).add k = ad.add (i + k) := add_add ad i k
set_option maxHeartbeats 8000000 in
set_option maxRecDepth 100000 in
theorem impl_Image_at.eq (W H p : Nat) (ad : Addr) (c : Nat) (l : List Int) (x y : Nat) (w : World) (hc : l.length ≤ c) (hl : l.length = W * H * p) (hW : W ≤ 16) (hH : H ≤ 16) (hp : p ≤ 4) (hp0 : 1 ≤ p) (hx : x < W) (hy : y < H) :
    Calls Try.prog 28 #[.agg #[.int .i64 W, .int .i64 H, .int .i64 p, .slice (some ad) l.length c], .int .i64 x, .int .i64 y] w fun e w' =>
      e = .returned (.slice (some (ad.add ((y * W + x) * p))) p (c - (y * W + x) * p)) ∧ Below w.heap.size w w' := by
  have hlt := pix_lt (p := p) hx hy
  rw [← hl] at hlt
  have b1 : y * W ≤ 16 * 16 := Nat.mul_le_mul (by omega) hW
  have b2 : (y * W + x) * p ≤ 512 * 4 := Nat.mul_le_mul (by omega) hp
  obtain ⟨i, hi⟩ : ∃ i, i = (y * W + x) * p := ⟨_, rfl⟩
  rw [← hi] at hlt b2 ⊢
  have e1 : (y : Int) * (W : Int) = ((y * W : Nat) : Int) := by push_cast; rfl
  have e2 : (((y * W : Nat) : Int) + (x : Int)) * (p : Int) = (i : Int) := by rw [hi]; push_cast; rfl
  have hcut := cut_mid (P := Try.prog) 23 3 .i64 .i64 Try.underlying23 (i := (Try.prog.info? 3).get (by kernel_rfl)) (by kernel_rfl) 1 (by kernel_rfl) (some ad) l.length c (i : Int) ((i : Int) + (p : Int)) (by omega) (by omega) (by omega) hc
  rw [Int.toNat_natCast, show ((i : Int) + (p : Int)).toNat - i = p by omega, if_neg (show ¬ c = i by omega), Option.map_some, Nat.mul_one] at hcut
  have HB : Aside0 (Below w.heap.size w (w.alloc (.cells #[.int .i64 W, .int .i64 H, .int .i64 p, .slice (some ad) l.length c] 25))) := ⟨below_alloc (Below.refl _ _) _⟩
  have e3 : ((y : Int) * (W : Int) + (x : Int)) * (p : Int) = (i : Int) := by rw [e1]; exact e2
  have m1 : (0 : Int) ≤ (y : Int) * (W : Int) := by rw [e1]; omega
  have m2 : (y : Int) * (W : Int) ≤ 256 := by rw [e1]; omega
  have m3 : (0 : Int) ≤ ((y : Int) * (W : Int) + (x : Int)) * (p : Int) := by rw [e3]; omega
  have m4 : ((y : Int) * (W : Int) + (x : Int)) * (p : Int) ≤ 2048 := by rw [e3]; omega
  rw [← e3] at hcut
  clear hl hlt hi e1 e2 e3 b1 b2
  go_enter Try.func28, Try.ntmps28
  go_wp2
  go_ret
  exact ⟨rfl, HB.out⟩

--SNIP slices_Equal_int_int
theorem eq_of_rds (l q : List Int) (hl : l.length = q.length) (h : ∀ j (h1 : j < l.length) (h2 : j < q.length), l[j] = q[j]) : l = q := List.ext_getElem hl h
theorem rd_getS (l : List Int) (k : Nat) (h : k < l.length) : rd l (k : Int) = l[k] := by
  simp [rd, List.getD_eq_getElem?_getD, List.getElem?_eq_getElem h]
set_option maxHeartbeats 8000000 in
set_option maxRecDepth 100000 in
/-- slices.Equal over []int says whether the two lists are one. -/
theorem slices_Equal_int_int.any (A : Option Addr) (c : Nat) (l : List Int) (B : Option Addr) (d : Nat) (q : List Int) (w : World) (hr : Kd.C (Kd.int .i64) w A l.length l) (hq : Kd.C (Kd.int .i64) w B q.length q) (hm : l.length ≤ 9223372036854775807) (hm2 : q.length ≤ 9223372036854775807) :
    Calls Try.prog 55 #[.slice A l.length c, .slice B q.length d] w fun e w' => e = .returned (.bool (decide (l = q))) ∧ Drawn0 w w' := by
  by_cases hl : l.length = q.length
  · have HR := Aside0.mk hr
    have HQ := Aside0.mk hq
    have d0 : ((l.length : Int) == (q.length : Int)) = true := by rw [hl]; simp
    have d1 : decide ((l.length : Int) = (q.length : Int)) = true := decide_eq_true (by omega)
    have d2 : decide (l.length = q.length) = true := decide_eq_true hl
    clear hr hq
    go_enter Try.func55, Try.ntmps55
    go_wp2
    go_loopw [13] (fun i wr => ∃ k : Nat, k ≤ l.length ∧ i = .int .i64 k ∧ Aside0 (∀ j (h1 : j < l.length) (h2 : j < q.length), j < k → l[j] = q[j]) ∧ Drawn0 w wr) (fun i _ => l.length - (intOf i).toNat)
    case atStart => exact ⟨0, Nat.zero_le _, rfl, ⟨fun j _ _ h => absurd h (by omega)⟩, Drawn0.refl _⟩
    case round =>
      obtain ⟨k, hk, rfl, HJ, ⟨nq, rfl⟩⟩ := hrel
      by_cases hlt : k < l.length
      · obtain ⟨ad, e, hx⟩ := Kd.at_int HR.out (k : Int) (by omega) (by omega)
        cases e
        obtain ⟨bd, e, hy⟩ := Kd.at_int HQ.out (k : Int) (by omega) (by omega)
        cases e
        rw [rd_getS l k hlt] at hx
        rw [rd_getS q k (by omega)] at hy
        simp only [Int.toNat_natCast] at hx hy
        have dk : decide ((k : Int) < (l.length : Int)) = true := decide_eq_true (by omega)
        have hlt2 : k < q.length := by omega
        by_cases he : l[k] = q[k]
        · have e0 : decide (l[k] = q[k]) = true := decide_eq_true he
          have e1 : (l[k] == q[k]) = true := by rw [he]; simp
          go_wp2
          go_quiet (fail)
          go_wp2
          go_roundw
          case rel =>
            refine ⟨k + 1, by omega, by go_num, ⟨fun j h1 h2 h => ?_⟩, by repeat (first | exact Drawn0.refl _ | apply Drawn0.step)⟩
            rcases Nat.lt_or_ge j k with h' | h'
            · exact HJ.out j h1 h2 h'
            · obtain rfl : j = k := by omega
              exact he
          case measure => simp [intOf]; omega
        · have e0 : decide (l[k] = q[k]) = false := decide_eq_false he
          have e1 : (l[k] == q[k]) = false := by simp [he]
          go_wp2
          go_quiet (fail)
          go_wp2
          go_ret
          exact ⟨by rw [decide_eq_false (show ¬ l = q from fun h => he (by subst h; rfl))]; rfl, by repeat (first | exact Drawn0.refl _ | apply Drawn0.step)⟩
      · have dk : decide ((k : Int) < (l.length : Int)) = false := decide_eq_false (by omega)
        go_wp2
        go_ret
        exact ⟨by rw [decide_eq_true (eq_of_rds l q hl (fun j h1 h2 => HJ.out j h1 h2 (by omega)))]; rfl, by repeat (first | exact Drawn0.refl _ | apply Drawn0.step)⟩
  · have d0 : ((l.length : Int) == (q.length : Int)) = false := by simp; omega
    have d1 : decide ((l.length : Int) = (q.length : Int)) = false := decide_eq_false (by omega)
    have d2 : decide (l.length = q.length) = false := decide_eq_false hl
    clear hr hq
    go_enter Try.func55, Try.ntmps55
    go_wp2
    go_ret
    exact ⟨by rw [decide_eq_false (show ¬ l = q from fun h => hl (by rw [h]))]; rfl, by repeat (first | exact Drawn0.refl _ | apply Drawn0.step)⟩

--SNIP slices_IndexFunc_int_int
/-- The first place where the function says yes; -1 if there is none. -/
def idxOf {α : Type} (P : α → Bool) (l : List α) : Int := if l.findIdx P < l.length then (l.findIdx P : Int) else -1
theorem idxOf_hit {α : Type} (P : α → Bool) (l : List α) (k : Nat) (hk : k < l.length) (h : ∀ j (hj : j < l.length), j < k → P l[j] = false) (hp : P l[k] = true) : idxOf P l = k := by
  have e : l.findIdx P = k := by
    rw [List.findIdx_eq hk]
    exact ⟨hp, fun j hj => h j (by omega) hj⟩
  unfold idxOf
  rw [e, if_pos hk]
theorem idxOf_miss {α : Type} (P : α → Bool) (l : List α) (h : ∀ j (hj : j < l.length), P l[j] = false) : idxOf P l = -1 := by
  unfold idxOf
  rw [if_neg]
  intro hlt
  have := List.findIdx_getElem (w := hlt)
  rw [h] at this
  cases this
theorem rd_get (l : List Int) (k : Nat) (h : k < l.length) : rd l (k : Int) = l[k] := by
  simp [rd, List.getD_eq_getElem?_getD, List.getElem?_eq_getElem h]
set_option maxHeartbeats 8000000 in
set_option maxRecDepth 100000 in
/-- slices.IndexFunc over []int, the function given by its contract. -/
theorem slices_IndexFunc_int_int.any (K : FuncId) (fn : Func) (caps : Array Value) (P : Int → Bool) (hK : Try.prog.funcs[K]? = some fn) (hname : (fn.name == "runtime.NumGoroutine") = false) (hb : fn.body.isSome = true)
    (A0 : Option Addr) (c0 : Nat) (l0 : List Int) (w : World) (hr0 : Kd.C (Kd.int .i64) w A0 l0.length l0) (hm0 : l0.length ≤ 9223372036854775807)
    (hf : ∀ (x : Int) (w' : World), x ∈ l0 → Calls Try.prog K (#[.int .i64 x] ++ caps) w' fun e w'' => e = .returned (.bool (P x)) ∧ Drawn0 w' w'') :
    Calls Try.prog 69 #[.slice A0 l0.length c0, .func (.func K) #[] caps] w fun e w' => e = .returned (.int .i64 (idxOf P l0)) ∧ Drawn0 w w' := by
  have HF := Aside0.mk hf
  have HR := Aside0.mk hr0
  have hcall : ∀ (args : Array Value) (W : World), (callFunc K args).run Try.prog W = .ok (.enter K args) W := fun args W => enters_ hK hname hb args W
  clear hf hr0 hK hname hb
  go_enter Try.func69, Try.ntmps69
  go_wp2
  go_loopw [8] (fun i wr => ∃ k : Nat, k ≤ l0.length ∧ i = .int .i64 k ∧ Aside0 (∀ j (hj : j < l0.length), j < k → P l0[j] = false) ∧ Drawn0 w wr) (fun i _ => l0.length - (intOf i).toNat)
  case atStart => exact ⟨0, Nat.zero_le _, rfl, ⟨fun j hj h => absurd h (by omega)⟩, Drawn0.refl _⟩
  case round =>
    obtain ⟨k, hk, rfl, HJ, ⟨nq, rfl⟩⟩ := hrel
    by_cases hlt : k < l0.length
    · obtain ⟨ad, e, hx⟩ := Kd.at_int HR.out (k : Int) (by omega) (by omega)
      cases e
      simp only [Int.toNat_natCast] at hx
      have HD := Aside0.mk (rd_get l0 k hlt)
      have hm : l0[k] ∈ l0 := List.getElem_mem hlt
      cases hP : P l0[k] with
      | true =>
        have HP := Aside0.mk hP
        clear hP
        go_wp2_with (rw [HD.out]; refine (HF.out l0[k] _ hm).mono ?_; rintro e w' ⟨rfl, ⟨nd, rfl⟩⟩; rw [HP.out])
        go_ret
        exact ⟨by rw [idxOf_hit P l0 k hlt HJ.out HP.out]; rfl, by repeat (first | exact Drawn0.refl _ | apply Drawn0.step)⟩
      | false =>
        have HP := Aside0.mk hP
        clear hP
        go_wp2_with (rw [HD.out]; refine (HF.out l0[k] _ hm).mono ?_; rintro e w' ⟨rfl, ⟨nd, rfl⟩⟩; rw [HP.out])
        go_roundw
        case rel =>
          refine ⟨k + 1, by omega, by go_num, ⟨fun j hj h => ?_⟩, by repeat (first | exact Drawn0.refl _ | apply Drawn0.step)⟩
          rcases Nat.lt_or_ge j k with h' | h'
          · exact HJ.out j hj h'
          · obtain rfl : j = k := by omega
            exact HP.out
        case measure => simp [intOf]; omega
    · go_wp2
      go_ret
      exact ⟨by rw [idxOf_miss P l0 fun j hj => HJ.out j hj (by omega)]; rfl, by repeat (first | exact Drawn0.refl _ | apply Drawn0.step)⟩

--SNIP slices_ContainsFunc_int_int
theorem idxOf_any {α : Type} (P : α → Bool) (l : List α) : decide (0 ≤ idxOf P l) = l.any P := by
  unfold idxOf
  by_cases h : l.findIdx P < l.length
  · rw [if_pos h]
    have : l.any P = true := by
      rw [List.any_eq_true]
      exact ⟨_, List.getElem_mem h, List.findIdx_getElem (w := h)⟩
    rw [this]
    simp
  · rw [if_neg h]
    have : l.any P = false := by
      rw [Bool.eq_false_iff]
      intro ha
      exact h (by rw [List.findIdx_lt_length]; simpa using ha)
    rw [this]
    rfl
set_option maxHeartbeats 8000000 in
set_option maxRecDepth 100000 in
theorem slices_ContainsFunc_int_int.any (K : FuncId) (fn : Func) (caps : Array Value) (P : Int → Bool) (hK : Try.prog.funcs[K]? = some fn) (hname : (fn.name == "runtime.NumGoroutine") = false) (hb : fn.body.isSome = true)
    (A0 : Option Addr) (c0 : Nat) (l0 : List Int) (w : World) (hr0 : Kd.C (Kd.int .i64) w A0 l0.length l0) (hm0 : l0.length ≤ 9223372036854775807)
    (hf : ∀ (x : Int) (w' : World), x ∈ l0 → Calls Try.prog K (#[.int .i64 x] ++ caps) w' fun e w'' => e = .returned (.bool (P x)) ∧ Drawn0 w' w'') :
    Calls Try.prog 63 #[.slice A0 l0.length c0, .func (.func K) #[] caps] w fun e w' => e = .returned (.bool (l0.any P)) ∧ Drawn0 w w' := by
  have HI := Aside0.mk (fun W : World => slices_IndexFunc_int_int.any K fn caps P hK hname hb A0 c0 l0 w hr0 hm0 hf)
  clear hf hr0 hK hname hb
  go_enter Try.func63, Try.ntmps63
  go_wp2_with (go_at_call 69; refine (HI.out w).mono ?_; rintro e w' ⟨rfl, ⟨nd, rfl⟩⟩)
  go_ret
  exact ⟨by rw [← idxOf_any P l0]; rfl, by repeat (first | exact Drawn0.refl _ | apply Drawn0.step)⟩

--SNIP impl_areBytes
/-! ### impl_areBytes: function 50, by hand -/
set_option maxHeartbeats 8000000 in
set_option maxRecDepth 100000 in
theorem impl_areBytes_1.any (x : Int) (w : World) :
    Calls Try.prog 64 #[.int .i64 x] w fun e w' => e = .returned (.bool (decide (x < 0) || decide (255 < x))) ∧ Drawn0 w w' := by
  by_cases h : x < 0
  · go_enter Try.func64, Try.ntmps64
    go_wp2
    go_ret
    exact ⟨by simp [h], by repeat (first | exact Drawn0.refl _ | apply Drawn0.step)⟩
  · go_enter Try.func64, Try.ntmps64
    go_wp2
    go_ret
    exact ⟨by rw [decide_eq_false (show ¬ x < 0 by omega)]; simp, by repeat (first | exact Drawn0.refl _ | apply Drawn0.step)⟩
def impl_areBytes.f (l0 : List Int) : Option Bool := some (!(l0.any fun x => decide (x < 0) || decide (255 < x)))
set_option maxHeartbeats 8000000 in
set_option maxRecDepth 100000 in
theorem impl_areBytes.calls (A0 : Option Addr) (c0 : Nat) (l0 : List Int) (r : Bool) (w : World) (hr0 : Kd.C (Kd.int .i64) w A0 l0.length l0) (hc0 : l0.length ≤ c0) (h : impl_areBytes.f l0 = some r) :
    Calls Try.prog 50 #[.slice A0 l0.length c0] w fun e w' => e = .returned (.bool r) ∧ Drawn0 w w' := by
  obtain rfl := Option.some.inj h
  clear h
  have hm := hr0.2.1
  have HC := Aside0.mk (fun W (hW : Drawn0 w W) => slices_ContainsFunc_int_int.any 64 _ #[] (fun x => decide (x < 0) || decide (255 < x)) Try.func64 (by kernel_rfl) rfl A0 c0 l0 W (by obtain ⟨n, rfl⟩ := hW; exact hr0) (by omega) (fun x w' _ => impl_areBytes_1.any x w'))
  clear hr0 hm
  go_enter Try.func50, Try.ntmps50
  go_wp2_with (go_at_call 63; refine (HC.out w (Drawn0.refl w)).mono ?_; rintro e w' ⟨rfl, ⟨nd, rfl⟩⟩)
  go_ret
  exact ⟨rfl, by repeat (first | exact Drawn0.refl _ | apply Drawn0.step)⟩

--SNIP impl_gridOf
/-- The pixels of runs. -/
def inRun (r : S59) (i : Nat) : Bool := decide (r.f0 = (i / 16 : Nat)) && decide (r.f1 ≤ (i % 16 : Nat)) && decide (((i % 16 : Nat) : Int) < r.f2)
def gridF (l : List S59) (i : Nat) : Bool := l.any fun r => inRun r i
/-- Each run lies on the grid. -/
def RunsOk (l : List S59) : Prop := ∀ r ∈ l, 0 ≤ r.f0 ∧ r.f0 < 16 ∧ 0 ≤ r.f1 ∧ r.f1 < r.f2 ∧ r.f2 ≤ 16
theorem gridF_nil (i : Nat) : gridF [] i = false := rfl
theorem gridF_snoc (l : List S59) (r : S59) (i : Nat) : gridF (l ++ [r]) i = (gridF l i || inRun r i) := by simp [gridF]
theorem rdRun_get (l : List S59) (k : Nat) (h : k < l.length) : rd_T59 l (k : Int) = l[k] := by
  simp [rd_T59, List.getD_eq_getElem?_getD, List.getElem?_eq_getElem h]
theorem take_snoc_ {α : Type} (l : List α) (k : Nat) (h : k < l.length) : l.take (k + 1) = l.take k ++ [l[k]] := by
  rw [List.take_succ_eq_append_getElem h]
/-- Block b holds one run. -/
structure IsRun (w : World) (b : Nat) (Y F T : Int) : Prop where mk :: (out : w.heap[b]? = some (.cells #[.int .i64 Y, .int .i64 F, .int .i64 T] 59 (0, 0)))
theorem IsRun.c0 {w : World} {b : Nat} {Y F T : Int} (h : IsRun w b Y F T) : w.cell? ⟨b, 0, none⟩ = some (.int .i64 Y) := (cell_of_row w b 0 _ _ _ h.out).trans rfl
theorem IsRun.c1 {w : World} {b : Nat} {Y F T : Int} (h : IsRun w b Y F T) : w.cell? ⟨b, 1, none⟩ = some (.int .i64 F) := (cell_of_row w b 1 _ _ _ h.out).trans rfl
theorem IsRun.c2 {w : World} {b : Nat} {Y F T : Int} (h : IsRun w b Y F T) : w.cell? ⟨b, 2, none⟩ = some (.int .i64 T) := (cell_of_row w b 2 _ _ _ h.out).trans rfl
theorem IsGrid.other {w : World} {b : Nat} {f : Nat → Bool} (h : IsGrid w b f) (a : Addr) (v : Value) (hne : b ≠ a.block) : IsGrid (w.setCell a v) b f := ⟨(heap_setCell_other w a b v hne).trans h.out⟩
theorem IsRun.other {w : World} {b : Nat} {Y F T : Int} (h : IsRun w b Y F T) (a : Addr) (v : Value) (hne : b ≠ a.block) : IsRun (w.setCell a v) b Y F T := ⟨(heap_setCell_other w a b v hne).trans h.out⟩
set_option maxHeartbeats 8000000 in
set_option maxRecDepth 100000 in
theorem impl_gridOf.any (A0 : Option Addr) (c0 : Nat) (l0 : List S59) (w : World) (hr0 : Kd.C k59 w A0 l0.length l0) (hm0 : l0.length ≤ 9223372036854775807) (hv : RunsOk l0) :
    Calls Try.prog 25 #[.slice A0 l0.length c0] w fun e w' => e = .returned (.agg (gcells (gridF l0))) ∧ Below w.heap.size w w' := by
  have hu45 := Try.underlying59
  have HR := Aside0.mk hr0
  have HV := Aside0.mk hv
  clear hr0 hv
  go_enter Try.func25, Try.ntmps25
  go_wp2_with (first | (refine wpList_alloc_grid rfl rfl ?_; (try simp only [gsize_alloc])) | (refine wpList_build_grid rfl rfl ?_) | (refine wpList_store_grid_same rfl _ _ rfl (w.heap.size + 1) (fun _ => false) rfl rfl ⟨heap_alloc2_new w _ _⟩ ?_))
  go_loopw [10] (fun i wr => ∃ k : Nat, k ≤ l0.length ∧ i = .int .i64 k ∧ IsGrid wr (w.heap.size + 1) (gridF (l0.take k)) ∧ IsGrid wr w.heap.size (fun _ => false) ∧ Aside0 (Below w.heap.size w wr)) (fun i _ => l0.length - (intOf i).toNat)
  case atStart => exact ⟨0, by omega, rfl, (⟨heap_alloc2_new w _ _⟩ : IsGrid _ _ (fun _ => false)).congr (fun i _ => by rw [List.take_zero, gridF_nil]), ⟨heap_alloc2_old w _ _⟩, ⟨((Below.refl w.heap.size w).alloc (Nat.le_refl _) _).alloc (by simp) _⟩⟩
  case round =>
    obtain ⟨k, hk, rfl, HG, HZ, HB⟩ := hrel
    by_cases hlt : k < l0.length
    · obtain ⟨wo, rfl⟩ : ∃ wo : World, wo = wr := ⟨_, rfl⟩
      have hdk : decide ((k : Int) < (l0.length : Int)) = true := decide_eq_true (by omega)
      obtain ⟨ad, e, hx0, hx1, hx2⟩ := at_T59 HR.out (k : Int) (by omega) (by omega)
      cases e
      rw [rdRun_get l0 k hlt] at hx0 hx1 hx2
      simp only [Int.toNat_natCast] at hx0 hx1 hx2
      obtain ⟨v0, v1, v2, v3, v4⟩ := HV.out l0[k] (List.getElem_mem hlt)
      obtain ⟨Y, hY⟩ : ∃ Y : Nat, l0[k].f0 = (Y : Int) := ⟨l0[k].f0.toNat, by omega⟩
      obtain ⟨F, hF⟩ : ∃ F : Nat, l0[k].f1 = (F : Int) := ⟨l0[k].f1.toNat, by omega⟩
      obtain ⟨T, hT⟩ : ∃ T : Nat, l0[k].f2 = (T : Int) := ⟨l0[k].f2.toNat, by omega⟩
      have HI : Aside0 (∀ i, inRun l0[k] i = (decide (i / 16 = Y) && decide (F ≤ i % 16) && decide (i % 16 < T))) := ⟨fun i => by
        unfold inRun
        rw [hY, hF, hT]
        congr 1
        · congr 1
          · exact decide_eq_decide.mpr (by omega)
          · exact decide_eq_decide.mpr (by omega)
        · exact decide_eq_decide.mpr (by omega)⟩
      rw [hY] at hx0 v0 v1
      rw [hF] at hx1 v2 v3
      rw [hT] at hx2 v3 v4
      have hY16 : Y < 16 := by omega
      have hFT : F < T := by omega
      have hT16 : T ≤ 16 := by omega
      clear hY hF hT v0 v1 v2 v3 v4
      replace hx0 := (HB.out.cell (World.block_lt_of_cell? w _ hx0)).trans hx0
      replace hx1 := (HB.out.cell (World.block_lt_of_cell? w _ hx1)).trans hx1
      replace hx2 := (HB.out.cell (World.block_lt_of_cell? w _ hx2)).trans hx2
      have HTK := Aside0.mk (take_snoc_ l0 k hlt)
      go_wp2
      go_loopw [6] (fun i wr => ∃ x : Nat, F ≤ x ∧ x ≤ T ∧ i = .int .i64 x ∧ IsGrid wr (w.heap.size + 1) (fun i => gridF (l0.take k) i || (decide (i / 16 = Y) && decide (F ≤ i % 16) && decide (i % 16 < x))) ∧ IsGrid wr w.heap.size (fun _ => false) ∧ IsRun wr wo.heap.size Y F T ∧ Aside0 (Below w.heap.size w wr)) (fun i _ => 16 - (intOf i).toNat)
      case atStart =>
        refine ⟨F, by omega, by omega, rfl, (HG.alloc _).congr (fun i hi => ?_), HZ.alloc _, ⟨heap_alloc_new wo _⟩, ⟨below_alloc HB.out _⟩⟩
        by_cases h1 : F ≤ i % 16
        · rw [decide_eq_false (p := i % 16 < F) (by omega)]
          simp
        · rw [decide_eq_false (p := F ≤ i % 16) h1]
          simp
      case round =>
        have hbs : wo.heap.size ≠ w.heap.size + 1 := by have := HG.lt; omega
        clear hx0 hx1 hx2 HG HZ HB
        obtain ⟨x, hx1, hx2, rfl, HG, HZ, HU, HB⟩ := hrel
        have hr0 := HU.c0
        have hr2 := HU.c2
        by_cases hlx : x < T
        · have hdx : decide ((x : Int) < (T : Int)) = true := decide_eq_true (by omega)
          have hi1 := run_index_grid (w.heap.size + 1) Y hY16
          have hi2 := run_index_line (w.heap.size + 1) (Y * 16) x (by omega)
          have hc := HG.cell (Y * 16 + x) (by omega)
          have hf := HG.frozen (Y * 16 + x)
          go_wp2
          go_roundw
          case rel =>
            refine ⟨x + 1, by omega, by omega, by go_num, (HG.set (Y * 16 + x) true).congr (fun i hi => ?_), HZ.other _ _ (by simp), HU.other _ _ hbs, ⟨below_set HB.out (show w.heap.size ≤ w.heap.size + 1 by omega)⟩⟩
            by_cases h1 : i = Y * 16 + x
            · subst h1
              rw [if_pos rfl, decide_eq_true (by omega), decide_eq_true (by omega), decide_eq_true (by omega)]
              simp
            · rw [if_neg h1]
              congr 1
              by_cases h2 : i / 16 = Y
              · congr 1
                exact decide_eq_decide.mpr (by omega)
              · rw [decide_eq_false h2]
                simp
          case measure => simp [intOf]; omega
        · have hdx : decide ((x : Int) < (T : Int)) = false := decide_eq_false (by omega)
          go_wp2
          go_roundw
          case rel =>
            refine ⟨k + 1, by omega, by go_num, HG.congr (fun i hi => ?_), HZ, HB⟩
            rw [HTK.out, gridF_snoc, HI.out, show x = T by omega]
          case measure => simp [intOf]; omega
    · have hk' : k = l0.length := by omega
      subst hk'
      go_wp2_with (first | (refine wpList_load_grid rfl _ rfl (w.heap.size + 1) _ rfl HG ?_) | (refine wpList_store_grid rfl _ _ rfl w.heap.size _ _ rfl rfl HZ ?_))
      refine bodyPost_ret (results_cell_row rfl _ _ w.heap.size _ _ _ _ rfl (HZ.setRow _).out Try.underlying53 rfl (by rw [gcells_size]; exact grid_size)) rfl ⟨?_, ?_⟩
      · rw [List.take_of_length_le (Nat.le_refl _)]
      · exact below_setRow HB.out _ _ (Nat.le_refl _)

--SNIP impl_gridBy
set_option maxHeartbeats 8000000 in
set_option maxRecDepth 100000 in
theorem impl_gridBy.any (K : FuncId) (fn : Func) (caps : Array Value) (f : Int → Int → Bool) (hK : Try.prog.funcs[K]? = some fn) (hname : (fn.name == "runtime.NumGoroutine") = false) (hb : fn.body.isSome = true) (w : World)
    (hf : ∀ (x y : Nat) (w' : World), x < 16 → y < 16 → Below w.heap.size w w' → Calls Try.prog K (#[.int .i64 x, .int .i64 y] ++ caps) w' fun e w'' => e = .returned (.bool (f x y)) ∧ Below w'.heap.size w' w'') :
    Calls Try.prog 53 #[.func (.func K) #[] caps] w fun e w' => e = .returned (.agg (gcells fun i => f (i % 16 : Nat) (i / 16 : Nat))) ∧ Below w.heap.size w w' := by
  have HF := Aside0.mk hf
  have hcall : ∀ (args : Array Value) (W : World), (callFunc K args).run Try.prog W = .ok (.enter K args) W := fun args W => enters_ hK hname hb args W
  clear hf hK hname hb
  go_enter Try.func53, Try.ntmps53
  go_wp2_with (first | (refine wpList_alloc_grid rfl rfl ?_; (try simp only [gsize_alloc])) | (refine wpList_build_grid rfl rfl ?_) | (refine wpList_store_grid_same rfl _ _ rfl (w.heap.size + 1) (fun _ => false) rfl rfl ⟨heap_alloc2_new w _ _⟩ ?_))
  go_loopw [7] (fun i wr => ∃ y : Nat, y ≤ 16 ∧ i = .int .i64 y ∧ IsGrid wr (w.heap.size + 1) (fun i => decide (i < 16 * y) && f (i % 16 : Nat) (i / 16 : Nat)) ∧ IsGrid wr w.heap.size (fun _ => false) ∧ Aside0 (Below w.heap.size w wr)) (fun i _ => 16 - (intOf i).toNat)
  case atStart => exact ⟨0, by omega, rfl, (⟨heap_alloc2_new w _ _⟩ : IsGrid _ _ (fun _ => false)).congr (by simp), ⟨heap_alloc2_old w _ _⟩, ⟨((Below.refl w.heap.size w).alloc (Nat.le_refl _) _).alloc (by simp) _⟩⟩
  case round =>
    obtain ⟨y, hy, rfl, HG, HR, HB⟩ := hrel
    by_cases hlt : y < 16
    · obtain ⟨wo, rfl⟩ : ∃ wo : World, wo = wr := ⟨_, rfl⟩
      have hdy : decide ((y : Int) < 16) = true := decide_eq_true (by omega)
      go_wp2
      go_loopw [10] (fun i wr => ∃ x : Nat, x ≤ 16 ∧ i = .int .i64 x ∧ IsGrid wr (w.heap.size + 1) (fun i => decide (i < 16 * y + x) && f (i % 16 : Nat) (i / 16 : Nat)) ∧ IsGrid wr w.heap.size (fun _ => false) ∧ Aside0 (Below w.heap.size w wr)) (fun i _ => 16 - (intOf i).toNat)
      case atStart => exact ⟨0, by omega, rfl, HG, HR, HB⟩
      case round =>
        clear HG HR HB
        obtain ⟨x, hx, rfl, HG, HR, HB⟩ := hrel
        by_cases hlx : x < 16
        · have hi1 := run_index_grid (w.heap.size + 1) y hlt
          have hi2 := run_index_line (w.heap.size + 1) (y * 16) x hlx
          go_wp2_with fail
          go_region_with (refine (HF.out x y _ hlx hlt (by exact (pw_below_drewN HB.out _))).mono ?_; rintro e w' ⟨rfl, hb⟩; have HG1 : IsGrid w' (w.heap.size + 1) (fun i => decide (i < 16 * y + x) && f (i % 16 : Nat) (i / 16 : Nat)) := IsGrid.below (w := wr.drew) ⟨HG.out⟩ hb (by exact HG.lt); have hc1 := HG1.cell (y * 16 + x) (by omega); have hf1 := HG1.frozen (y * 16 + x))
          have HG2 := HG1.set (y * 16 + x) (f x y)
          have HR1 : IsGrid w' w.heap.size (fun _ => false) := IsGrid.below (w := wr.drew) ⟨HR.out⟩ hb (by exact HR.lt)
          have HR2 : IsGrid (w'.setCell ⟨w.heap.size + 1, y * 16 + x, none⟩ (.bool (f x y))) w.heap.size (fun _ => false) := ⟨(heap_setCell_other w' _ _ _ (by simp)).trans HR1.out⟩
          have HB2 := Aside0.mk (below_set (below_then (pw_below_drewN HB.out 1) (by have := HB.out.size; exact this) hb) (show w.heap.size ≤ w.heap.size + 1 by omega) (j := y * 16 + x) (v := .bool (f x y)))
          clear hc1 hf1 hi1 hi2 HG1 HR1 HG HR HB hb
          go_wp2
          go_roundw
          case rel =>
            refine ⟨x + 1, by omega, by go_num, HG2.congr (fun i hi => ?_), HR2, HB2⟩
            by_cases h1 : i = y * 16 + x
            · subst h1
              rw [if_pos rfl, decide_eq_true (by omega), show (y * 16 + x) % 16 = x by omega, show (y * 16 + x) / 16 = y by omega]
              rfl
            · rw [if_neg h1]
              by_cases h2 : i < 16 * y + x
              · rw [decide_eq_true h2, decide_eq_true (by omega)]
              · rw [decide_eq_false h2, decide_eq_false (by omega)]
          case measure => simp [intOf]; omega
        · go_wp2
          go_roundw
          case rel => exact ⟨y + 1, by omega, by go_num, HG.congr (by intro i hi; rw [show x = 16 by omega, show 16 * y + 16 = 16 * (y + 1) by omega]), HR, HB⟩
          case measure => simp [intOf]; omega
    · have hy' : y = 16 := by omega
      subst hy'
      go_wp2_with (first | (refine wpList_load_grid rfl _ rfl (w.heap.size + 1) _ rfl HG ?_) | (refine wpList_store_grid rfl _ _ rfl w.heap.size _ _ rfl rfl HR ?_))
      refine bodyPost_ret (results_cell_row rfl _ _ w.heap.size _ _ _ _ rfl (HR.setRow _).out Try.underlying53 rfl (by rw [gcells_size]; exact grid_size)) rfl ⟨?_, ?_⟩
      · rw [gcells_congr (f := fun i => decide (i < 16 * 16) && f (i % 16 : Nat) (i / 16 : Nat)) (g := fun i => f (i % 16 : Nat) (i / 16 : Nat)) (fun i hi => by rw [decide_eq_true (by omega)]; rfl)]
      · exact below_setRow HB.out _ _ (Nat.le_refl _)
/-- The same, the function told by places. -/
theorem impl_gridBy.at_ (K : FuncId) (fn : Func) (caps : Array Value) (F : Nat → Bool) (hK : Try.prog.funcs[K]? = some fn) (hname : (fn.name == "runtime.NumGoroutine") = false) (hb : fn.body.isSome = true) (w : World)
    (hf : ∀ (x y : Nat) (w' : World), x < 16 → y < 16 → Below w.heap.size w w' → Calls Try.prog K (#[.int .i64 x, .int .i64 y] ++ caps) w' fun e w'' => e = .returned (.bool (F (16 * y + x))) ∧ Below w'.heap.size w' w'') :
    Calls Try.prog 53 #[.func (.func K) #[] caps] w fun e w' => e = .returned (.agg (gcells F)) ∧ Below w.heap.size w w' := by
  refine (impl_gridBy.any K fn caps (fun x y => F (16 * y.toNat + x.toNat)) hK hname hb w hf).mono ?_
  rintro e w' ⟨rfl, h⟩
  refine ⟨?_, h⟩
  rw [gcells_congr (fun i hi => ?_)]
  show F (16 * (i / 16) + i % 16) = F i
  rw [show 16 * (i / 16) + i % 16 = i by omega]

--SNIP impl_grid_runs
set_option maxHeartbeats 8000000 in
set_option maxRecDepth 100000 in
theorem impl_grid_runs.any (f : Nat → Bool) (w : World) :
    Calls Try.prog 56 #[.agg (gcells f)] w fun e w' => ∃ v0_ : Value, e = .returned v0_ ∧ Kd.R k59 59 w' w.heap.size (fun _ => True) v0_ (runsL f) ∧ Below w.heap.size w w' := by
  have hu45 := Try.underlying59
  have HB := Aside0.mk (below_alloc (Below.refl w.heap.size w) (.cells (gcells f) 53))
  have HG := IsGrid.new w f
  go_enter Try.func56, Try.ntmps56
  go_wp2_with (first | (refine wpList_box_grid rfl _ rfl f rfl ?_) | ((with_reducible refine gate_dst (N := 7) rfl ?_); refine Kd.R_lit k59 _ 59 ?hg (N := 7) ?hd (xs := ([] : List (S59))) (inner := []) (ok := fun _ => True) (okp := fun _ => True) ?hr ?hp (fun _ hk => hk) trivial (Below.refl _ _) (Nat.le_refl _) (by simp) ?_; (case hd => rfl); (case hg => rfl); (case hr => first | (go_simp; done) | (go_simp; rfl)); (case hp => exact (Reps.none _ _)); intro v104 w2 ho3 hb hg_ hnew_; clear hg_ hnew_; replace ho3 := Kd.R_lower ho3 (below_size HB.out); have HG1 := HG.below hb HG.lt; replace hb := below_step HB.out hb; clear HB HG))
  go_loopw [3, 8] (fun v i wr => ∃ y : Nat, y ≤ 16 ∧ i = .int .i64 y ∧ IsGrid wr w.heap.size f ∧ Aside0 (Kd.R k59 59 wr w.heap.size (fun _ => True) v (runsUpto f (16 * y))) ∧ Aside0 (Below w.heap.size w wr)) (fun _ i _ => 16 - (intOf i).toNat)
  case atStart => exact ⟨0, by omega, rfl, HG1, ⟨by (with_reducible repeat (first | apply Kd.R_alloc | apply Kd.R_drewN | apply Kd.R_drew)); exact ho3⟩, ⟨hb⟩⟩
  case round =>
    clear HG1 ho3 hb
    obtain ⟨y, hy, rfl, HG, HO, HB⟩ := hrel
    by_cases hlt : y < 16
    · obtain ⟨wo, rfl⟩ : ∃ wo : World, wo = wr := ⟨_, rfl⟩
      have hdy : decide ((y : Int) < 16) = true := decide_eq_true (by omega)
      go_wp2
      go_loopw [3, 5] (fun v i wr => ∃ x : Nat, x ≤ 17 ∧ i = .int .i64 x ∧ Aside0 (x = 0 ∨ 16 ≤ x ∨ f (16 * y + x - 1) = false) ∧ IsGrid wr w.heap.size f ∧ Aside0 (Kd.R k59 59 wr w.heap.size (fun _ => True) v (runsUpto f (16 * y + min x 16))) ∧ Aside0 (Below w.heap.size w wr)) (fun _ i _ => 17 - (intOf i).toNat)
      case atStart => exact ⟨0, by omega, rfl, ⟨.inl rfl⟩, HG, HO, HB⟩
      case round =>
        clear HG HO HB
        obtain ⟨x, hx, rfl, HS, HG, HO, HB⟩ := hrel
        by_cases hlx : x < 16
        · have hdx : decide ((x : Int) < 16) = true := decide_eq_true (by omega)
          have hi1 := run_index_grid w.heap.size y hlt
          have hi2 := run_index_line w.heap.size (y * 16) x hlx
          have hc : wr.cell? ⟨w.heap.size, y * 16 + x, none⟩ = some (.bool (f (16 * y + x))) := by rw [HG.cell _ (by omega), Nat.mul_comm]
          cases hf : f (16 * y + x) with
          | false =>
            have HF := Aside0.mk hf
            rw [hf] at hc
            clear hf
            go_wp2
            go_roundw
            case rel => exact ⟨x + 1, by omega, by go_num, ⟨.inr (.inr (by rw [show 16 * y + (x + 1) - 1 = 16 * y + x by omega]; exact HF.out))⟩, HG, ⟨by rw [show 16 * y + min (x + 1) 16 = 16 * y + x + 1 by omega, runsUpto_false f _ HF.out, show 16 * y + x = 16 * y + min x 16 by omega]; exact HO.out⟩, HB⟩
            case measure => simp [intOf]; omega
          | true =>
            have HF := Aside0.mk hf
            rw [hf] at hc
            clear hf
            have HE := Aside0.mk (endOf_facts f y (16 - x) x (by omega) rfl)
            have HGT := Aside0.mk (endOf_gt f y x hlx HF.out)
            obtain ⟨wi, rfl⟩ : ∃ wi : World, wi = wr := ⟨_, rfl⟩
            go_wp2
            go_loop [5] (fun i => ∃ x' : Nat, x ≤ x' ∧ x' ≤ 16 ∧ i = .int .i64 x' ∧ Aside0 (endOf f y x' = endOf f y x)) (fun i => 16 - (intOf i).toNat)
            case atStart => exact ⟨x, by omega, by omega, rfl, ⟨rfl⟩⟩
            case round =>
              clear hi2 hc hdx
              obtain ⟨x', hx1, hx2, rfl, HX⟩ := hrel
              by_cases hlx' : x' < 16
              · have hdx' : decide ((x' : Int) < 16) = true := decide_eq_true (by omega)
                have hi2 := run_index_line w.heap.size (y * 16) x' hlx'
                have hc : wi.cell? ⟨w.heap.size, y * 16 + x', none⟩ = some (.bool (f (16 * y + x'))) := by rw [HG.cell _ (by omega), Nat.mul_comm]
                replace hc := (pw_cell_below (below_alloc (Below.refl wi.heap.size wi) (.cells #[.int .i64 y, .int .i64 x, .int .i64 0] 59)) hc)
                cases hf : f (16 * y + x') with
                | true =>
                  have HX2 := Aside0.mk ((endOf_true f y x' hlx' hf).symm.trans HX.out)
                  rw [hf] at hc
                  clear hf
                  go_wp2
                  go_round
                  case rel => exact ⟨x' + 1, by omega, by omega, by go_num, HX2⟩
                  case measure => simp [intOf]; omega
                | false =>
                  have HX2 := Aside0.mk ((endOf_false f y x' hlx' hf).symm.trans HX.out)
                  rw [hf] at hc
                  clear hf
                  go_wp2_with (first | ((with_reducible refine gate_builtin (b := .append) (xs := #[.tmp 37, .tmp 39]) rfl ?_); at_builtin; (refine Kd.R_append k59 (w0 := w) w.heap.size rfl (.tmp 37) (.tmp 39) 26 59 (.agg #[(.int .i64 0), (.int .i64 0), (.int .i64 0)]) 24 rfl Try.underlying26 info59 rfl (by decide) (by omega) u3 (runsUpto f (16 * y + min x 16)) (⟨(y : Int), (x : Int), (x' : Int)⟩ : S59) [.int .i64 y, .int .i64 x, .int .i64 x'] (fun _ => True) (fun _ => False) rfl (by rw [gsize_alloc]; rfl) ?aP (fun _ hk => hk.elim) ?aF ?aO ?aB ?aS ?aL ?_); (case aP => exact k59_mkM _ _ _ (⟨(y : Int), (x : Int), (x' : Int)⟩ : S59)); (case aF => exact (fun _ _ => trivial)); (case aO => exact (by (with_reducible repeat (first | apply Kd.R_alloc | apply Kd.R_drewN | apply Kd.R_drew)); exact HO.out)); (case aB => exact (below_alloc HB.out _)); (case aS => exact (below_size (below_alloc HB.out _))); (case aL => have := runsUpto_length f (16 * y + min x 16); omega); intro v108 w17 ho hb hg hat; have HG2 : IsGrid w17 w.heap.size f := ⟨(hg.block w.heap.size (by rw [gsize_alloc]; have := HG.lt; omega) (Kd.R_ne HO.out HG.out (by decide))).trans (HG.alloc _).out⟩; clear hg hat))
                  have HX3 := Aside0.mk (runsUpto_run f y x hlx HF.out (by rcases HS.out with h | h | h; exact .inl h; omega; exact .inr h))
                  have hEx : endOf f y x = x' := HX2.out.symm
                  replace HX3 := Aside0.mk (by have h := HX3.out; rw [hEx] at h; exact h)
                  have hlast := HE.out.2.2.2
                  rw [hEx] at hlast
                  have HL := Aside0.mk hlast
                  clear hEx hlast
                  go_roundw
                  case rel => exact ⟨x' + 1, by omega, by go_num, ⟨by by_cases h16 : 16 ≤ x' + 1
                                                                      · exact .inr (.inl h16)
                                                                      · exact .inr (.inr (by rw [show 16 * y + (x' + 1) - 1 = 16 * y + x' by omega]; exact HL.out (by omega)))⟩, HG2, ⟨by
                      have hm : runsUpto f (16 * y + min (x' + 1) 16) = runsUpto f (16 * y + x') := by
                        by_cases h16 : x' < 16
                        · rw [show 16 * y + min (x' + 1) 16 = 16 * y + x' + 1 by omega, runsUpto_false f _ (HL.out h16)]
                        · rw [show 16 * y + min (x' + 1) 16 = 16 * y + x' by omega]
                      rw [hm, HX3.out, show 16 * y + x = 16 * y + min x 16 by omega]
                      exact ho⟩, ⟨hb⟩⟩
                  case measure => simp [intOf]; omega
              · have hdx' : decide ((x' : Int) < 16) = false := decide_eq_false (by omega)
                have HX2 : Aside0 (x' = endOf f y x) := ⟨by rw [← HX.out, endOf_out f y x' (by omega)]; omega⟩
                go_wp2_with (first | ((with_reducible refine gate_builtin (b := .append) (xs := #[.tmp 37, .tmp 39]) rfl ?_); at_builtin; (refine Kd.R_append k59 (w0 := w) w.heap.size rfl (.tmp 37) (.tmp 39) 26 59 (.agg #[(.int .i64 0), (.int .i64 0), (.int .i64 0)]) 24 rfl Try.underlying26 info59 rfl (by decide) (by omega) u3 (runsUpto f (16 * y + min x 16)) (⟨(y : Int), (x : Int), (x' : Int)⟩ : S59) [.int .i64 y, .int .i64 x, .int .i64 x'] (fun _ => True) (fun _ => False) rfl (by rw [gsize_alloc]; rfl) ?aP (fun _ hk => hk.elim) ?aF ?aO ?aB ?aS ?aL ?_); (case aP => exact k59_mkM _ _ _ (⟨(y : Int), (x : Int), (x' : Int)⟩ : S59)); (case aF => exact (fun _ _ => trivial)); (case aO => exact (by (with_reducible repeat (first | apply Kd.R_alloc | apply Kd.R_drewN | apply Kd.R_drew)); exact HO.out)); (case aB => exact (below_alloc HB.out _)); (case aS => exact (below_size (below_alloc HB.out _))); (case aL => have := runsUpto_length f (16 * y + min x 16); omega); intro v108 w17 ho hb hg hat; have HG2 : IsGrid w17 w.heap.size f := ⟨(hg.block w.heap.size (by rw [gsize_alloc]; have := HG.lt; omega) (Kd.R_ne HO.out HG.out (by decide))).trans (HG.alloc _).out⟩; clear hg hat))
                have HX3 := Aside0.mk (runsUpto_run f y x hlx HF.out (by rcases HS.out with h | h | h; exact .inl h; omega; exact .inr h))
                have hEx : endOf f y x = x' := HX2.out.symm
                replace HX3 := Aside0.mk (by have h := HX3.out; rw [hEx] at h; exact h)
                have hlast := HE.out.2.2.2
                rw [hEx] at hlast
                have HL := Aside0.mk hlast
                clear hEx hlast
                go_roundw
                case rel => exact ⟨x' + 1, by omega, by go_num, ⟨by by_cases h16 : 16 ≤ x' + 1
                                                                    · exact .inr (.inl h16)
                                                                    · exact .inr (.inr (by rw [show 16 * y + (x' + 1) - 1 = 16 * y + x' by omega]; exact HL.out (by omega)))⟩, HG2, ⟨by
                    have hm : runsUpto f (16 * y + min (x' + 1) 16) = runsUpto f (16 * y + x') := by
                      by_cases h16 : x' < 16
                      · rw [show 16 * y + min (x' + 1) 16 = 16 * y + x' + 1 by omega, runsUpto_false f _ (HL.out h16)]
                      · rw [show 16 * y + min (x' + 1) 16 = 16 * y + x' by omega]
                    rw [hm, HX3.out, show 16 * y + x = 16 * y + min x 16 by omega]
                    exact ho⟩, ⟨hb⟩⟩
                case measure => simp [intOf]; omega
        · have hdx : decide ((x : Int) < 16) = false := decide_eq_false (by omega)
          go_wp2
          go_roundw
          case rel => exact ⟨y + 1, by omega, by go_num, HG, ⟨by rw [show 16 * (y + 1) = 16 * y + min x 16 by omega]; exact HO.out⟩, HB⟩
          case measure => simp [intOf]; omega
    · have hy' : y = 16 := by omega
      subst hy'
      go_wp2
      go_ret
      exact ⟨_, rfl, by (with_reducible repeat (first | apply Kd.R_alloc | apply Kd.R_drewN | apply Kd.R_drew)); exact HO.out, HB.out⟩

end Go.Proofs.Ytbkhhlifpknbeaa.Print

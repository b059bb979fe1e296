-- laid by hp.py (a program of this work over the kit's print), with contracts by hand for what the print does not take
import Derived.Test.YtfljcejkgdkkeaaPrint0
namespace Go.Proofs.Ytfljcejkgdkkeaa.Print
open Go.RowKit Go.Proofs.YtfljcejkgdkkeaaW.PrintWords Go.Proofs.YtfljcejkgdkkeaaW.PrintLast Go.Proofs.YtfljcejkgdkkeaaW.PrintMore
attribute [local go_sem] max2_int min2_int max_two min_two max_three min_three max_four min_four   -- for this text's walks alone
set_option linter.unusedVariables false
set_option linter.unusedSimpArgs false

--SNIP hand_EqLaw
/-! ### What FnEqualizeImage looks for at a pixel -/
def eqBad (a a0 u u0 : Int) : Bool := decide ((a < a0 ∧ u0 < u) ∨ (a0 < a ∧ u < u0) ∨ (a = a0 ∧ u ≠ u0))
theorem eqBad_iff (a a0 u u0 : Int) : eqBad a a0 u u0 = true ↔ (a < a0 ∧ u0 < u) ∨ (a0 < a ∧ u < u0) ∨ (a = a0 ∧ u ≠ u0) := by
  unfold eqBad
  rw [decide_eq_true_eq]
theorem eqBad_not (a a0 u u0 : Int) (h : ¬ eqBad a a0 u u0 = true) : (a < a0 ∧ u ≤ u0) ∨ (a0 < a ∧ u0 ≤ u) ∨ (a = a0 ∧ u = u0) := by
  rw [eqBad_iff] at h
  omega

--SNIP hand_Img
/-! ### Images in memory: a block of four cells. -/
/-- Block b holds an image's four fields. -/
structure IsImg (w : World) (b : Nat) (a0 a1 a2 : Int) (v : Value) : Prop where mk :: (out : w.heap[b]? = some (.cells #[.int .i64 a0, .int .i64 a1, .int .i64 a2, v] 25 (0, 0)))
section
variable {w w' : World} {b B : Nat} {a0 a1 a2 : Int} {v : Value}
theorem IsImg.c0 (h : IsImg w b a0 a1 a2 v) : w.cell? ⟨b, 0, none⟩ = some (.int .i64 a0) := (blk_cell h.out 0).trans rfl
theorem IsImg.c1 (h : IsImg w b a0 a1 a2 v) : w.cell? ⟨b, 1, none⟩ = some (.int .i64 a1) := (blk_cell h.out 1).trans rfl
theorem IsImg.c2 (h : IsImg w b a0 a1 a2 v) : w.cell? ⟨b, 2, none⟩ = some (.int .i64 a2) := (blk_cell h.out 2).trans rfl
theorem IsImg.c3 (h : IsImg w b a0 a1 a2 v) : w.cell? ⟨b, 3, none⟩ = some v := (blk_cell h.out 3).trans rfl
theorem IsImg.fz (h : IsImg w b a0 a1 a2 v) (i : Nat) : w.frozen? ⟨b, i, none⟩ = false := blk_frozen h.out i
theorem IsImg.lt (h : IsImg w b a0 a1 a2 v) : b < w.heap.size := blk_lt h.out
theorem IsImg.below (h : IsImg w b a0 a1 a2 v) (hb : Below w.heap.size w w') : IsImg w' b a0 a1 a2 v := ⟨(hb.block b h.lt).trans h.out⟩
theorem IsImg.alloc (h : IsImg w b a0 a1 a2 v) (o : Obj) : IsImg (w.alloc o) b a0 a1 a2 v := ⟨(heap_alloc_old w o h.lt).trans h.out⟩
theorem IsImg.drewN (h : IsImg w b a0 a1 a2 v) (n : Nat) : IsImg (w.drewN n) b a0 a1 a2 v := ⟨h.out⟩
theorem IsImg.drew (h : IsImg w b a0 a1 a2 v) : IsImg w.drew b a0 a1 a2 v := ⟨h.out⟩
theorem IsImg.far (h : IsImg w b a0 a1 a2 v) {p : Addr} (hp : b ≠ p.block) (u : Value) : IsImg (w.setCell p u) b a0 a1 a2 v := ⟨blk_far h.out hp u⟩
theorem IsImg.grown (h : IsImg w b a0 a1 a2 v) {row : Option Nat} (hg : w.grownBy w' row) (hne : some b ≠ row) : IsImg w' b a0 a1 a2 v := ⟨blk_grown h.out hg hne⟩
theorem IsImg.set3 (h : IsImg w b a0 a1 a2 v) (u : Value) : IsImg (w.setCell ⟨b, 3, none⟩ u) b a0 a1 a2 u := ⟨blk_put h.out 3 u rfl⟩
theorem IsImg.new (w : World) (a0 a1 a2 : Int) (v : Value) : IsImg (w.alloc (.cells #[.int .i64 a0, .int .i64 a1, .int .i64 a2, v] 25)) w.heap.size a0 a1 a2 v := ⟨Go.heap_alloc_new w _⟩
theorem IsImg.old (w : World) (a0 a1 a2 : Int) (v : Value) (o : Obj) : IsImg ((w.alloc (.cells #[.int .i64 a0, .int .i64 a1, .int .i64 a2, v] 25)).alloc o) w.heap.size a0 a1 a2 v := (IsImg.new w a0 a1 a2 v).alloc o
theorem IsImg.row (h : IsImg w b a0 a1 a2 v) (x0 x1 x2 : Int) (u : Value) : IsImg (w.setRow b #[.int .i64 x0, .int .i64 x1, .int .i64 x2, u]) b x0 x1 x2 u := ⟨setRow_heap w b _ _ _ _ h.out⟩
theorem IsImg.otherRow (h : IsImg w b a0 a1 a2 v) (c : Nat) (cs : Array Value) (hne : b ≠ c) : IsImg (w.setRow c cs) b a0 a1 a2 v := ⟨(setRow_other w c b cs hne).trans h.out⟩
end
theorem img_size : (Try.prog.info? 25).map (·.size) = some 4 := by kernel_rfl
theorem img_info : (Try.prog.info? 25).map (fun i => (i.zero, i.size)) = some (some (.agg #[.int .i64 0, .int .i64 0, .int .i64 0, .slice none 0 0]), 4) := by kernel_rfl
theorem run_zero_img (W : World) : (zeroValue 25).run Try.prog W = .ok (.agg #[.int .i64 0, .int .i64 0, .int .i64 0, .slice none 0 0]) W := by
  have h := img_info
  cases hi : Try.prog.info? 25 with
  | none => rw [hi] at h; cases h
  | some i =>
    rw [hi] at h
    simp only [Option.map_some, Option.some.injEq, Prod.mk.injEq] at h
    simp [zeroValue, typeInfo, hi, h.1]
theorem wsize_alloc (w : World) (o : Obj) : (w.alloc o).heap.size = w.heap.size + 1 := by simp
theorem wsize_setRow (w : World) (b : Nat) (cs : Array Value) : (w.setRow b cs).heap.size = w.heap.size := by simp [World.setRow]
theorem below_putRow {B : Nat} {w W : World} (h : Below B w W) (b : Nat) (cs : Array Value) (hb : B ≤ b) : Below B w (W.setRow b cs) :=
  ⟨h.os, h.tape, h.output, by rw [wsize_setRow]; exact h.size, fun i hi => (setRow_other W b i cs (by omega)).trans (h.block i hi)⟩
section
variable {ops : Array Oper} {rest : List Oper} {o : Oper} {a : Act} {w : World} {Q : Exit → Act → World → Prop}
theorem wpList_alloc_img (hgd : o.guard = none) (ho : o.op = .alloc 25)
    (h : wpList Try.prog ops Q rest (a.put o.dst (.pointer (some ⟨w.heap.size, 0, none⟩))) (w.alloc (.cells #[.int .i64 0, .int .i64 0, .int .i64 0, .slice none 0 0] 25))) : wpList Try.prog ops Q (o :: rest) a w := by
  refine wpList_plain hgd fun K hK => ?_
  unfold Oper.wp execOp
  simp only [ho, Instr.alloc, Sem.run_bind, run_zero_img, Result.andThen_ok]
  exact hK _ _ h
theorem wpList_box_img (hgd : o.guard = none) (x : Operand) (ho : o.op = .box 25 x) (cs : Array Value) (hx : a.eval x = .agg cs)
    (h : wpList Try.prog ops Q rest (a.put o.dst (.pointer (some ⟨w.heap.size, 0, none⟩))) (w.alloc (.cells cs 25))) : wpList Try.prog ops Q (o :: rest) a w := by
  refine wpList_plain hgd fun K hK => ?_
  unfold Oper.wp execOp
  simp only [ho, hx, Instr.box, Value.cells]
  exact hK _ _ h
theorem wpList_store_img (hgd : o.guard = none) (x y : Operand) (ho : o.op = .store 25 x y) (g : Nat) (x0 x1 x2 a0 a1 a2 : Int) (u v : Value) (hx : a.eval x = .pointer (some ⟨g, 0, none⟩)) (hy : a.eval y = .agg #[.int .i64 a0, .int .i64 a1, .int .i64 a2, v]) (h1 : v.oneCell' = true) (hg : IsImg w g x0 x1 x2 u)
    (h : wpList Try.prog ops Q rest (a.put o.dst undef) (w.setRow g #[.int .i64 a0, .int .i64 a1, .int .i64 a2, v])) : wpList Try.prog ops Q (o :: rest) a w :=
  wpList_plain hgd fun _ hK => wp_store_row 25 x y ho g #[.int .i64 a0, .int .i64 a1, .int .i64 a2, v] hx hy _ _ hg.out img_size rfl (by simp [h1]; exact ⟨rfl, rfl, rfl⟩) (hK _ _ h)
/-- A new image is made and written at once. -/
theorem wpList_put_img (hgd : o.guard = none) (x y : Operand) (ho : o.op = .store 25 x y) (a0 a1 a2 : Int) (v : Value) (hx : a.eval x = .pointer (some ⟨w.heap.size, 0, none⟩)) (hy : a.eval y = .agg #[.int .i64 a0, .int .i64 a1, .int .i64 a2, v]) (h1 : v.oneCell' = true)
    (h : ∀ W : World, Below w.heap.size w W → IsImg W w.heap.size a0 a1 a2 v → W.heap.size = w.heap.size + 1 → wpList Try.prog ops Q rest (a.put o.dst undef) W) : wpList Try.prog ops Q (o :: rest) a (w.alloc (.cells #[.int .i64 0, .int .i64 0, .int .i64 0, .slice none 0 0] 25)) :=
  wpList_store_img hgd x y ho w.heap.size 0 0 0 a0 a1 a2 _ v hx hy h1 (IsImg.new w _ _ _ _) (h _ (below_putRow (below_alloc (Below.refl _ _) _) _ _ (Nat.le_refl _)) ((IsImg.new w _ _ _ _).row a0 a1 a2 v) (by rw [wsize_setRow, wsize_alloc]))
theorem wpList_load_img (hgd : o.guard = none) (x : Operand) (ho : o.op = .load 25 x) (g : Nat) (a0 a1 a2 : Int) (v : Value) (hx : a.eval x = .pointer (some ⟨g, 0, none⟩)) (hg : IsImg w g a0 a1 a2 v)
    (h : wpList Try.prog ops Q rest (a.put o.dst (.agg #[.int .i64 a0, .int .i64 a1, .int .i64 a2, v])) w) : wpList Try.prog ops Q (o :: rest) a w :=
  wpList_load_row hgd 25 x ho g hx _ _ _ _ hg.out Try.underlying25 rfl img_size h
end
theorem IsImg.second (w : World) (o : Obj) (a0 a1 a2 : Int) (v : Value) : IsImg ((w.alloc o).alloc (.cells #[.int .i64 a0, .int .i64 a1, .int .i64 a2, v] 25)) (w.heap.size + 1) a0 a1 a2 v := by
  have h := IsImg.new (w.alloc o) a0 a1 a2 v
  rwa [wsize_alloc] at h
theorem below_two (w : World) (o1 o2 : Obj) : Below w.heap.size w ((w.alloc o1).alloc o2) := below_alloc (below_alloc (Below.refl w.heap.size w) o1) o2
theorem own_one {d : Kd Int} {e base : Nat} {ok : Nat → Prop} {w : World} {v : Value} {xs : List Int} (h : d.R e w base ok v xs) : v.oneCell' = true := by
  obtain ⟨A, c, rfl⟩ := Kd.R_slice h
  rfl
/-! ### Several blocks made at a function's start -/
def allocs (w : World) (os : List Obj) : World := os.foldl World.alloc w
theorem allocs_size (os : List Obj) : ∀ w : World, (allocs w os).heap.size = w.heap.size + os.length := by
  induction os with
  | nil => intro w; rfl
  | cons o t ih =>
    intro w
    show (allocs (w.alloc o) t).heap.size = _
    rw [ih, wsize_alloc, List.length_cons]
    omega
theorem allocs_below (os : List Obj) : ∀ w : World, Below w.heap.size w (allocs w os) := by
  induction os with
  | nil => intro w; exact Below.refl _ _
  | cons o t ih =>
    intro w
    exact below_step (below_alloc (Below.refl _ _) o) (ih (w.alloc o))
theorem allocs_at (os : List Obj) : ∀ (w : World) (k : Nat) (o : Obj), os[k]? = some o → (allocs w os).heap[w.heap.size + k]? = some o := by
  induction os with
  | nil => intro w k o h; simp at h
  | cons a t ih =>
    intro w k o h
    show (allocs (w.alloc a) t).heap[w.heap.size + k]? = some o
    cases k with
    | zero =>
      simp only [List.getElem?_cons_zero, Option.some.injEq] at h
      subst h
      exact ((allocs_below t (w.alloc a)).block w.heap.size (by rw [wsize_alloc]; omega)).trans (Go.heap_alloc_new w a)
    | succ k =>
      simp only [List.getElem?_cons_succ] at h
      have h2 := ih (w.alloc a) k o h
      rw [wsize_alloc] at h2
      rw [show w.heap.size + (k + 1) = w.heap.size + 1 + k by omega]
      exact h2
theorem allocs_cell (os : List Obj) (w : World) (k : Nat) (v : Value) (t : TypeId) (h : os[k]? = some (.cells #[v] t)) : (allocs w os).cell? ⟨w.heap.size + k, 0, none⟩ = some v := (blk_cell (allocs_at os w k _ h) 0).trans rfl
theorem allocs_img (os : List Obj) (w : World) (k : Nat) (a0 a1 a2 : Int) (v : Value) (h : os[k]? = some (.cells #[.int .i64 a0, .int .i64 a1, .int .i64 a2, v] 25)) : IsImg (allocs w os) (w.heap.size + k) a0 a1 a2 v := ⟨allocs_at os w k _ h⟩

--SNIP hand_Squeeze
/-! ### Words by which long printed proofs are said shorter -/
theorem am_ {p : Prop} (h : p) : Aside0 p := ⟨h⟩
theorem blk4_ {w : World} {g t : Nat} {a b c d : Value} (h : w.heap[g]? = some (.cells #[a, b, c, d] t (0, 0))) :
    w.cell? ⟨g, 0, none⟩ = some a ∧ w.cell? ⟨g, 1, none⟩ = some b ∧ w.cell? ⟨g, 2, none⟩ = some c ∧ w.cell? ⟨g, 3, none⟩ = some d ∧ w.frozen? ⟨g, 0, none⟩ = false ∧ w.frozen? ⟨g, 1, none⟩ = false ∧ w.frozen? ⟨g, 2, none⟩ = false ∧ w.frozen? ⟨g, 3, none⟩ = false :=
  ⟨(blk_cell h 0).trans rfl, (blk_cell h 1).trans rfl, (blk_cell h 2).trans rfl, (blk_cell h 3).trans rfl, blk_frozen h 0, blk_frozen h 1, blk_frozen h 2, blk_frozen h 3⟩
theorem far1_ {w : World} {g g' t : Nat} {cs : Array Value} (h : w.heap[g]? = some (.cells cs t (0, 0))) (hne : g ≠ g') (u0 : Value) :
    (w.setCell ⟨g', 0, none⟩ u0).heap[g]? = some (.cells cs t (0, 0)) := (blk_far (p := ⟨g', 0, none⟩) h hne u0)
theorem put1_ {w : World} {g t : Nat} {a b c d : Value} (h : w.heap[g]? = some (.cells #[a, b, c, d] t (0, 0))) (u0 : Value) :
    (w.setCell ⟨g, 0, none⟩ u0).heap[g]? = some (.cells #[u0, b, c, d] t (0, 0)) := (blk_put h 0 u0 rfl)
theorem far2_ {w : World} {g g' t : Nat} {cs : Array Value} (h : w.heap[g]? = some (.cells cs t (0, 0))) (hne : g ≠ g') (u0 u1 : Value) :
    ((w.setCell ⟨g', 0, none⟩ u0).setCell ⟨g', 1, none⟩ u1).heap[g]? = some (.cells cs t (0, 0)) := (blk_far (p := ⟨g', 1, none⟩) (blk_far (p := ⟨g', 0, none⟩) h hne u0) hne u1)
theorem put2_ {w : World} {g t : Nat} {a b c d : Value} (h : w.heap[g]? = some (.cells #[a, b, c, d] t (0, 0))) (u0 u1 : Value) :
    ((w.setCell ⟨g, 0, none⟩ u0).setCell ⟨g, 1, none⟩ u1).heap[g]? = some (.cells #[u0, u1, c, d] t (0, 0)) := (blk_put (blk_put h 0 u0 rfl) 1 u1 rfl)
theorem far3_ {w : World} {g g' t : Nat} {cs : Array Value} (h : w.heap[g]? = some (.cells cs t (0, 0))) (hne : g ≠ g') (u0 u1 u2 : Value) :
    (((w.setCell ⟨g', 0, none⟩ u0).setCell ⟨g', 1, none⟩ u1).setCell ⟨g', 2, none⟩ u2).heap[g]? = some (.cells cs t (0, 0)) := (blk_far (p := ⟨g', 2, none⟩) (blk_far (p := ⟨g', 1, none⟩) (blk_far (p := ⟨g', 0, none⟩) h hne u0) hne u1) hne u2)
theorem put3_ {w : World} {g t : Nat} {a b c d : Value} (h : w.heap[g]? = some (.cells #[a, b, c, d] t (0, 0))) (u0 u1 u2 : Value) :
    (((w.setCell ⟨g, 0, none⟩ u0).setCell ⟨g, 1, none⟩ u1).setCell ⟨g, 2, none⟩ u2).heap[g]? = some (.cells #[u0, u1, u2, d] t (0, 0)) := (blk_put (blk_put (blk_put h 0 u0 rfl) 1 u1 rfl) 2 u2 rfl)
theorem put1_2 {w : World} {g t : Nat} {a b : Value} (h : w.heap[g]? = some (.cells #[a, b] t (0, 0))) (u0 : Value) :
    (w.setCell ⟨g, 0, none⟩ u0).heap[g]? = some (.cells #[u0, b] t (0, 0)) := (blk_put h 0 u0 rfl)
theorem put2_2 {w : World} {g t : Nat} {a b : Value} (h : w.heap[g]? = some (.cells #[a, b] t (0, 0))) (u0 u1 : Value) :
    ((w.setCell ⟨g, 0, none⟩ u0).setCell ⟨g, 1, none⟩ u1).heap[g]? = some (.cells #[u0, u1] t (0, 0)) := (blk_put (blk_put h 0 u0 rfl) 1 u1 rfl)
theorem put1_3 {w : World} {g t : Nat} {a b c : Value} (h : w.heap[g]? = some (.cells #[a, b, c] t (0, 0))) (u0 : Value) :
    (w.setCell ⟨g, 0, none⟩ u0).heap[g]? = some (.cells #[u0, b, c] t (0, 0)) := (blk_put h 0 u0 rfl)
theorem put2_3 {w : World} {g t : Nat} {a b c : Value} (h : w.heap[g]? = some (.cells #[a, b, c] t (0, 0))) (u0 u1 : Value) :
    ((w.setCell ⟨g, 0, none⟩ u0).setCell ⟨g, 1, none⟩ u1).heap[g]? = some (.cells #[u0, u1, c] t (0, 0)) := (blk_put (blk_put h 0 u0 rfl) 1 u1 rfl)
theorem put3_3 {w : World} {g t : Nat} {a b c : Value} (h : w.heap[g]? = some (.cells #[a, b, c] t (0, 0))) (u0 u1 u2 : Value) :
    (((w.setCell ⟨g, 0, none⟩ u0).setCell ⟨g, 1, none⟩ u1).setCell ⟨g, 2, none⟩ u2).heap[g]? = some (.cells #[u0, u1, u2] t (0, 0)) := (blk_put (blk_put (blk_put h 0 u0 rfl) 1 u1 rfl) 2 u2 rfl)
theorem far4_ {w : World} {g g' t : Nat} {cs : Array Value} (h : w.heap[g]? = some (.cells cs t (0, 0))) (hne : g ≠ g') (u0 u1 u2 u3 : Value) :
    ((((w.setCell ⟨g', 0, none⟩ u0).setCell ⟨g', 1, none⟩ u1).setCell ⟨g', 2, none⟩ u2).setCell ⟨g', 3, none⟩ u3).heap[g]? = some (.cells cs t (0, 0)) := (blk_far (p := ⟨g', 3, none⟩) (blk_far (p := ⟨g', 2, none⟩) (blk_far (p := ⟨g', 1, none⟩) (blk_far (p := ⟨g', 0, none⟩) h hne u0) hne u1) hne u2) hne u3)
theorem put4_ {w : World} {g t : Nat} {a b c d : Value} (h : w.heap[g]? = some (.cells #[a, b, c, d] t (0, 0))) (u0 u1 u2 u3 : Value) :
    ((((w.setCell ⟨g, 0, none⟩ u0).setCell ⟨g, 1, none⟩ u1).setCell ⟨g, 2, none⟩ u2).setCell ⟨g, 3, none⟩ u3).heap[g]? = some (.cells #[u0, u1, u2, u3] t (0, 0)) := (blk_put (blk_put (blk_put (blk_put h 0 u0 rfl) 1 u1 rfl) 2 u2 rfl) 3 u3 rfl)
section
variable {α : Type} {d : Kd α} {e base g t : Nat} {ok : Nat → Prop} {w : World} {v : Value} {xs : List α} {cells : Array Value}
theorem R1_ (h : d.R e w base ok v xs) (hb : w.heap[g]? = some (.cells cells t (0, 0))) (ht : ∀ q, q ∈ e :: d.E → q ≠ t) (u0 : Value) :
    d.R e (w.setCell ⟨g, 0, none⟩ u0) base ok v xs := Kd.R_mono (Kd.R_far (p := ⟨g, 0, none⟩) (Kd.R_types h hb ht) (fun _ hk => hk.2) u0) (fun _ h_ => h_.1)
theorem Q1_ (h : d.Q e w base ok v xs) (hb : w.heap[g]? = some (.cells cells t (0, 0))) (ht : ∀ q, q ∈ e :: d.E → q ≠ t) (u0 : Value) :
    d.Q e (w.setCell ⟨g, 0, none⟩ u0) base ok v xs := Kd.Q_mono (Kd.Q_far (p := ⟨g, 0, none⟩) (Kd.Q_types h hb ht) (fun _ hk => hk.2) u0) (fun _ h_ => h_.1)
theorem R2_ (h : d.R e w base ok v xs) (hb : w.heap[g]? = some (.cells cells t (0, 0))) (ht : ∀ q, q ∈ e :: d.E → q ≠ t) (u0 u1 : Value) :
    d.R e ((w.setCell ⟨g, 0, none⟩ u0).setCell ⟨g, 1, none⟩ u1) base ok v xs := Kd.R_mono (Kd.R_far (p := ⟨g, 1, none⟩) (Kd.R_far (p := ⟨g, 0, none⟩) (Kd.R_types h hb ht) (fun _ hk => hk.2) u0) (fun _ hk => hk.2) u1) (fun _ h_ => h_.1)
theorem Q2_ (h : d.Q e w base ok v xs) (hb : w.heap[g]? = some (.cells cells t (0, 0))) (ht : ∀ q, q ∈ e :: d.E → q ≠ t) (u0 u1 : Value) :
    d.Q e ((w.setCell ⟨g, 0, none⟩ u0).setCell ⟨g, 1, none⟩ u1) base ok v xs := Kd.Q_mono (Kd.Q_far (p := ⟨g, 1, none⟩) (Kd.Q_far (p := ⟨g, 0, none⟩) (Kd.Q_types h hb ht) (fun _ hk => hk.2) u0) (fun _ hk => hk.2) u1) (fun _ h_ => h_.1)
theorem R3_ (h : d.R e w base ok v xs) (hb : w.heap[g]? = some (.cells cells t (0, 0))) (ht : ∀ q, q ∈ e :: d.E → q ≠ t) (u0 u1 u2 : Value) :
    d.R e (((w.setCell ⟨g, 0, none⟩ u0).setCell ⟨g, 1, none⟩ u1).setCell ⟨g, 2, none⟩ u2) base ok v xs := Kd.R_mono (Kd.R_far (p := ⟨g, 2, none⟩) (Kd.R_far (p := ⟨g, 1, none⟩) (Kd.R_far (p := ⟨g, 0, none⟩) (Kd.R_types h hb ht) (fun _ hk => hk.2) u0) (fun _ hk => hk.2) u1) (fun _ hk => hk.2) u2) (fun _ h_ => h_.1)
theorem Q3_ (h : d.Q e w base ok v xs) (hb : w.heap[g]? = some (.cells cells t (0, 0))) (ht : ∀ q, q ∈ e :: d.E → q ≠ t) (u0 u1 u2 : Value) :
    d.Q e (((w.setCell ⟨g, 0, none⟩ u0).setCell ⟨g, 1, none⟩ u1).setCell ⟨g, 2, none⟩ u2) base ok v xs := Kd.Q_mono (Kd.Q_far (p := ⟨g, 2, none⟩) (Kd.Q_far (p := ⟨g, 1, none⟩) (Kd.Q_far (p := ⟨g, 0, none⟩) (Kd.Q_types h hb ht) (fun _ hk => hk.2) u0) (fun _ hk => hk.2) u1) (fun _ hk => hk.2) u2) (fun _ h_ => h_.1)
theorem R4_ (h : d.R e w base ok v xs) (hb : w.heap[g]? = some (.cells cells t (0, 0))) (ht : ∀ q, q ∈ e :: d.E → q ≠ t) (u0 u1 u2 u3 : Value) :
    d.R e ((((w.setCell ⟨g, 0, none⟩ u0).setCell ⟨g, 1, none⟩ u1).setCell ⟨g, 2, none⟩ u2).setCell ⟨g, 3, none⟩ u3) base ok v xs := Kd.R_mono (Kd.R_far (p := ⟨g, 3, none⟩) (Kd.R_far (p := ⟨g, 2, none⟩) (Kd.R_far (p := ⟨g, 1, none⟩) (Kd.R_far (p := ⟨g, 0, none⟩) (Kd.R_types h hb ht) (fun _ hk => hk.2) u0) (fun _ hk => hk.2) u1) (fun _ hk => hk.2) u2) (fun _ hk => hk.2) u3) (fun _ h_ => h_.1)
theorem Q4_ (h : d.Q e w base ok v xs) (hb : w.heap[g]? = some (.cells cells t (0, 0))) (ht : ∀ q, q ∈ e :: d.E → q ≠ t) (u0 u1 u2 u3 : Value) :
    d.Q e ((((w.setCell ⟨g, 0, none⟩ u0).setCell ⟨g, 1, none⟩ u1).setCell ⟨g, 2, none⟩ u2).setCell ⟨g, 3, none⟩ u3) base ok v xs := Kd.Q_mono (Kd.Q_far (p := ⟨g, 3, none⟩) (Kd.Q_far (p := ⟨g, 2, none⟩) (Kd.Q_far (p := ⟨g, 1, none⟩) (Kd.Q_far (p := ⟨g, 0, none⟩) (Kd.Q_types h hb ht) (fun _ hk => hk.2) u0) (fun _ hk => hk.2) u1) (fun _ hk => hk.2) u2) (fun _ hk => hk.2) u3) (fun _ h_ => h_.1)
end

--SNIP hand_Words
/-! ### Words of this work: calls through a function value; a callee that only reads. -/
section
variable {P : Program} {ops : Array Oper} {Q : Exit → Act → World → Prop}
/-- A call through a value that is a function with what it captured. -/
theorem goesV {rest : List Oper} {oi : Oper} {a : Act} {w : World} (N : Option Tmp) (hd : oi.dst = N) (hg : oi.guard = none) {f : FuncId} {fn : Func} {x : Operand} {as0 : Array Operand} {ts : Array TypeId} {caps : Array Value}
    (hf : P.funcs[f]? = some fn) (hname : (fn.name == "runtime.NumGoroutine") = false) (hb : fn.body.isSome = true) (args : Array Value)
    (hop : oi.op = .call { callee := .value x, args := as0, argTypes := ts }) (hx : a.eval x = .func (.func f) #[] caps) (hargs : as0.map a.eval ++ caps = args)
    (h : Calls P f args w fun e w' => ∃ v, e = .returned v ∧ wpList P ops Q rest (a.put N v) w') : wpList P ops Q (oi :: rest) a w := by
  refine wpList_plain hg fun K hK => ?_
  have he := enters_ hf hname hb args w
  have hrun : (execOp a.eval oi).run P w = .ok (.enter f args) w := by
    unfold execOp
    simp [hop, resolve, Deferred.ofValue, invoke, hx, hargs, he]
  unfold Oper.wp
  rw [hrun, Oper.upon_enter]
  refine h.mono fun e w'' hh => ?_
  obtain ⟨v, rfl, hk⟩ := hh
  subst hd
  exact hK _ _ hk
end
/-! ### 'From some number of rounds on': small steps -/
theorem evIf {α : Type} {c : Prop} [Decidable c] {f g : Nat → Option α} {r : α} (h1 : c → Ev f r) (h2 : ¬ c → Ev g r) : Ev (fun k => if c then f k else g k) r := by
  by_cases h : c
  · simp only [if_pos h]; exact h1 h
  · simp only [if_neg h]; exact h2 h
theorem evPos {α : Type} {c : Prop} [Decidable c] {f g : Nat → Option α} {r : α} (h : c) (h1 : Ev f r) : Ev (fun k => if c then f k else g k) r := evIf (fun _ => h1) (fun hn => absurd h hn)
theorem evNeg {α : Type} {c : Prop} [Decidable c] {f g : Nat → Option α} {r : α} (h : ¬ c) (h1 : Ev g r) : Ev (fun k => if c then f k else g k) r := evIf (fun hn => absurd hn h) (fun _ => h1)
theorem evRet {α : Type} {a r : α} (h : a = r) : Ev (fun _ => some a) r := h ▸ Ev.now _
theorem evBind {α β : Type} {g : Nat → Option α} {f : Nat → α → Option β} {a : α} {r : β} (h : Ev g a) (k : Ev (fun n => f n a) r) : Ev (fun n => (g n).bind fun t => f n t) r := Ev.bind h k
theorem evFix {α β : Type} {g : Option α} {f : Nat → α → Option β} {a : α} {r : β} (h : g = some a) (k : Ev (fun n => f n a) r) : Ev (fun n => g.bind fun t => f n t) r := by
  subst h
  exact k
theorem wrapNat (n : Nat) (h : n ≤ 9223372036854775807) : wrap64 (n : Int) = (n : Int) := by unfold wrap64; omega
theorem wrapIn {x : Int} (h0 : -9223372036854775808 ≤ x) (h1 : x ≤ 9223372036854775807) : wrap64 x = x := by unfold wrap64; omega
theorem wrapSucc (n : Nat) (h : n < 9223372036854775807) : wrap64 ((n : Int) + 1) = ((n + 1 : Nat) : Int) := by unfold wrap64; omega
theorem qrow_raise {w : World} {b b' e size n : Nat} {v : Value} {xs : List Value} (h : QRow w b e size v n xs) (hb : ∀ k, v.ownBlock = some k → b' ≤ k) : QRow w b' e size v n xs := by
  obtain ⟨h1, h2⟩ := h
  refine ⟨h1, ?_⟩
  rcases h2 with ⟨hn, A, rfl, hA⟩ | ⟨g, off, cap, cur, rfl, _, r⟩
  · refine .inl ⟨hn, A, rfl, fun a ha => ⟨hb a.block ?_, (hA a ha).2⟩⟩
    rw [ha]
    simp [Value.ownBlock]
  · exact .inr ⟨g, off, cap, cur, rfl, hb g (by simp [Value.ownBlock]), r⟩
/-- As Kd.R_raise, of a part of a row. -/
theorem q_raise {α : Type} {d : Kd α} {e b b' : Nat} {W : World} {ok : Nat → Prop} {v : Value} {xs : List α} (hM : ∀ w ok x cs, d.M w b ok x cs → d.M w b' ok x cs) (h : d.Q e W b ok v xs) (hb : ∀ k, v.ownBlock = some k → b' ≤ k) : d.Q e W b' ok v xs := by
  obtain ⟨h0, inner, ho, hr⟩ := h
  exact ⟨h0, inner, qrow_raise ho hb, hr.imp_ (fun _ _ hp => hM _ _ _ _ hp)⟩

--SNIP slices_IndexFunc_int_int
/-- The first place where the function says yes; -1 if there is none. -/
def idxOf {α : Type} (P : α → Bool) (l : List α) : Int := if l.findIdx P < l.length then (l.findIdx P : Int) else -1
theorem idxOf_hit {α : Type} (P : α → Bool) (l : List α) (k : Nat) (hk : k < l.length) (h : ∀ j (hj : j < l.length), j < k → P l[j] = false) (hp : P l[k] = true) : idxOf P l = k := by
  have e : l.findIdx P = k := by
    rw [List.findIdx_eq hk]
    exact ⟨hp, fun j hj => h j (by omega) hj⟩
  unfold idxOf
  rw [e, if_pos hk]
theorem idxOf_miss {α : Type} (P : α → Bool) (l : List α) (h : ∀ j (hj : j < l.length), P l[j] = false) : idxOf P l = -1 := by
  unfold idxOf
  rw [if_neg]
  intro hlt
  have := List.findIdx_getElem (w := hlt)
  rw [h] at this
  cases this
theorem rd_get (l : List Int) (k : Nat) (h : k < l.length) : rd l (k : Int) = l[k] := by
  simp [rd, List.getD_eq_getElem?_getD, List.getElem?_eq_getElem h]
set_option maxHeartbeats 8000000 in
set_option maxRecDepth 100000 in
/-- slices.IndexFunc over []int, the function given by its contract. -/
theorem slices_IndexFunc_int_int.any (K : FuncId) (fn : Func) (caps : Array Value) (P : Int → Bool) (hK : Try.prog.funcs[K]? = some fn) (hname : (fn.name == "runtime.NumGoroutine") = false) (hb : fn.body.isSome = true)
    (A0 : Option Addr) (c0 : Nat) (l0 : List Int) (w : World) (hr0 : Kd.C (Kd.int .i64) w A0 l0.length l0) (hm0 : l0.length ≤ 9223372036854775807)
    (hf : ∀ (x : Int) (w' : World), x ∈ l0 → Calls Try.prog K (#[.int .i64 x] ++ caps) w' fun e w'' => e = .returned (.bool (P x)) ∧ Drawn0 w' w'') :
    Calls Try.prog 36 #[.slice A0 l0.length c0, .func (.func K) #[] caps] w fun e w' => e = .returned (.int .i64 (idxOf P l0)) ∧ Drawn0 w w' := by
  have HF := Aside0.mk hf
  have HR := Aside0.mk hr0
  have hcall : ∀ (args : Array Value) (W : World), (callFunc K args).run Try.prog W = .ok (.enter K args) W := fun args W => enters_ hK hname hb args W
  clear hf hr0 hK hname hb
  go_enter Try.func36, Try.ntmps36
  go_wp2
  go_loopw [8] (fun i wr => ∃ k : Nat, k ≤ l0.length ∧ i = .int .i64 k ∧ Aside0 (∀ j (hj : j < l0.length), j < k → P l0[j] = false) ∧ Drawn0 w wr) (fun i _ => l0.length - (intOf i).toNat)
  case atStart => exact ⟨0, Nat.zero_le _, rfl, ⟨fun j hj h => absurd h (by omega)⟩, Drawn0.refl _⟩
  case round =>
    obtain ⟨k, hk, rfl, HJ, ⟨nq, rfl⟩⟩ := hrel
    by_cases hlt : k < l0.length
    · obtain ⟨ad, e, hx⟩ := Kd.at_int HR.out (k : Int) (by omega) (by omega)
      cases e
      simp only [Int.toNat_natCast] at hx
      have HD := Aside0.mk (rd_get l0 k hlt)
      have hm : l0[k] ∈ l0 := List.getElem_mem hlt
      cases hP : P l0[k] with
      | true =>
        have HP := Aside0.mk hP
        clear hP
        go_wp2_with (rw [HD.out]; refine (HF.out l0[k] _ hm).mono ?_; rintro e w' ⟨rfl, ⟨nd, rfl⟩⟩; rw [HP.out])
        go_ret
        exact ⟨by rw [idxOf_hit P l0 k hlt HJ.out HP.out]; rfl, by repeat (first | exact Drawn0.refl _ | apply Drawn0.step)⟩
      | false =>
        have HP := Aside0.mk hP
        clear hP
        go_wp2_with (rw [HD.out]; refine (HF.out l0[k] _ hm).mono ?_; rintro e w' ⟨rfl, ⟨nd, rfl⟩⟩; rw [HP.out])
        go_roundw
        case rel =>
          refine ⟨k + 1, by omega, by go_num, ⟨fun j hj h => ?_⟩, by repeat (first | exact Drawn0.refl _ | apply Drawn0.step)⟩
          rcases Nat.lt_or_ge j k with h' | h'
          · exact HJ.out j hj h'
          · obtain rfl : j = k := by omega
            exact HP.out
        case measure => simp [intOf]; omega
    · go_wp2
      go_ret
      exact ⟨by rw [idxOf_miss P l0 fun j hj => HJ.out j hj (by omega)]; rfl, by repeat (first | exact Drawn0.refl _ | apply Drawn0.step)⟩

--SNIP slices_ContainsFunc_int_int
theorem idxOf_any {α : Type} (P : α → Bool) (l : List α) : decide (0 ≤ idxOf P l) = l.any P := by
  unfold idxOf
  by_cases h : l.findIdx P < l.length
  · rw [if_pos h]
    have : l.any P = true := by
      rw [List.any_eq_true]
      exact ⟨_, List.getElem_mem h, List.findIdx_getElem (w := h)⟩
    rw [this]
    simp
  · rw [if_neg h]
    have : l.any P = false := by
      rw [Bool.eq_false_iff]
      intro ha
      exact h (by rw [List.findIdx_lt_length]; simpa using ha)
    rw [this]
    rfl
set_option maxHeartbeats 8000000 in
set_option maxRecDepth 100000 in
theorem slices_ContainsFunc_int_int.any (K : FuncId) (fn : Func) (caps : Array Value) (P : Int → Bool) (hK : Try.prog.funcs[K]? = some fn) (hname : (fn.name == "runtime.NumGoroutine") = false) (hb : fn.body.isSome = true)
    (A0 : Option Addr) (c0 : Nat) (l0 : List Int) (w : World) (hr0 : Kd.C (Kd.int .i64) w A0 l0.length l0) (hm0 : l0.length ≤ 9223372036854775807)
    (hf : ∀ (x : Int) (w' : World), x ∈ l0 → Calls Try.prog K (#[.int .i64 x] ++ caps) w' fun e w'' => e = .returned (.bool (P x)) ∧ Drawn0 w' w'') :
    Calls Try.prog 33 #[.slice A0 l0.length c0, .func (.func K) #[] caps] w fun e w' => e = .returned (.bool (l0.any P)) ∧ Drawn0 w w' := by
  have HI := Aside0.mk (fun W : World => slices_IndexFunc_int_int.any K fn caps P hK hname hb A0 c0 l0 w hr0 hm0 hf)
  clear hf hr0 hK hname hb
  go_enter Try.func33, Try.ntmps33
  go_wp2_with (go_at_call 36; refine (HI.out w).mono ?_; rintro e w' ⟨rfl, ⟨nd, rfl⟩⟩)
  go_ret
  exact ⟨by rw [← idxOf_any P l0]; rfl, by repeat (first | exact Drawn0.refl _ | apply Drawn0.step)⟩

--SNIP impl_areBytes
/-! ### impl_areBytes: function 25, by hand -/
set_option maxHeartbeats 8000000 in
set_option maxRecDepth 100000 in
theorem impl_areBytes_1.any (x : Int) (w : World) :
    Calls Try.prog 34 #[.int .i64 x] w fun e w' => e = .returned (.bool (decide (x < 0) || decide (255 < x))) ∧ Drawn0 w w' := by
  by_cases h : x < 0
  · go_enter Try.func34, Try.ntmps34
    go_wp2
    go_ret
    exact ⟨by simp [h], by repeat (first | exact Drawn0.refl _ | apply Drawn0.step)⟩
  · go_enter Try.func34, Try.ntmps34
    go_wp2
    go_ret
    exact ⟨by rw [decide_eq_false (show ¬ x < 0 by omega)]; simp, by repeat (first | exact Drawn0.refl _ | apply Drawn0.step)⟩
def impl_areBytes.f (l0 : List Int) : Option Bool := some (!(l0.any fun x => decide (x < 0) || decide (255 < x)))
set_option maxHeartbeats 8000000 in
set_option maxRecDepth 100000 in
theorem impl_areBytes.calls (A0 : Option Addr) (c0 : Nat) (l0 : List Int) (r : Bool) (w : World) (hr0 : Kd.C (Kd.int .i64) w A0 l0.length l0) (hc0 : l0.length ≤ c0) (h : impl_areBytes.f l0 = some r) :
    Calls Try.prog 25 #[.slice A0 l0.length c0] w fun e w' => e = .returned (.bool r) ∧ Drawn0 w w' := by
  obtain rfl := Option.some.inj h
  clear h
  have hm := hr0.2.1
  have HC := Aside0.mk (fun W (hW : Drawn0 w W) => slices_ContainsFunc_int_int.any 34 _ #[] (fun x => decide (x < 0) || decide (255 < x)) Try.func34 (by kernel_rfl) rfl A0 c0 l0 W (by obtain ⟨n, rfl⟩ := hW; exact hr0) (by omega) (fun x w' _ => impl_areBytes_1.any x w'))
  clear hr0 hm
  go_enter Try.func25, Try.ntmps25
  go_wp2_with (go_at_call 33; refine (HC.out w (Drawn0.refl w)).mono ?_; rintro e w' ⟨rfl, ⟨nd, rfl⟩⟩)
  go_ret
  exact ⟨rfl, by repeat (first | exact Drawn0.refl _ | apply Drawn0.step)⟩

--SNIP slices_Max_int_int
/-! ### slices_Max_int_int: function 12, by hand -/
/-- The greatest one of the first k numbers (and of the first one). -/
def maxUpto (l : List Int) : Nat → Int
  | 0 => rd l 0
  | k + 1 => mx (maxUpto l k) (rd l (k : Int))
theorem maxUpto_one (l : List Int) : maxUpto l 1 = rd l 0 := by
  show mx (rd l 0) (rd l ((0 : Nat) : Int)) = rd l 0
  unfold mx
  simp
def slices_Max_int_int.f (l0 : List Int) : Option Int := if 0 < l0.length then some (maxUpto l0 l0.length) else none
set_option maxHeartbeats 8000000 in
set_option maxRecDepth 100000 in
theorem slices_Max_int_int.calls (A0 : Option Addr) (c0 : Nat) (l0 : List Int) (r : Int) (w : World) (hr0 : Kd.C (Kd.int .i64) w A0 l0.length l0) (hc0 : l0.length ≤ c0) (h : slices_Max_int_int.f l0 = some r) :
    Calls Try.prog 12 #[.slice A0 l0.length c0] w fun e w' => e = .returned (.int .i64 r) ∧ Drawn0 w w' := by
  unfold slices_Max_int_int.f at h
  by_cases hl : 0 < l0.length
  · rw [if_pos hl] at h
    obtain rfl := Option.some.inj h
    clear h
    have HR := Aside0.mk hr0
    have hm := hr0.2.1
    obtain ⟨ad, e0, hx⟩ := Kd.at_int hr0 0 (by omega) (by omega)
    subst e0
    have hd0 : decide ((l0.length : Int) < 1) = false := decide_eq_false (by omega)
    have hd1 : decide (l0.length < 1) = false := decide_eq_false (by omega)
    rw [Int.toNat_zero, show ad.add 0 = ad by unfold Addr.add; simp] at hx
    clear hr0
    go_enter Try.func12, Try.ntmps12
    go_wp2
    go_loop [3, 4] (fun m i => ∃ k : Nat, 1 ≤ k ∧ k ≤ l0.length ∧ i = .int .i64 k ∧ m = .int .i64 (maxUpto l0 k)) (fun _ i => l0.length - (intOf i).toNat)
    case atStart => exact ⟨1, by omega, by omega, rfl, by rw [maxUpto_one]⟩
    case round =>
      obtain ⟨k, hk1, hk2, rfl, rfl⟩ := hrel
      by_cases hlt : k < l0.length
      · have hdk : decide (k < l0.length) = true := decide_eq_true hlt
        obtain ⟨ad', e', hxk⟩ := Kd.at_int HR.out (k : Int) (by omega) (by omega)
        obtain rfl : ad = ad' := by injection e'
        rw [Int.toNat_natCast] at hxk
        go_wp2
        go_round
        case rel => exact ⟨k + 1, by omega, by omega, by go_num, rfl⟩
        case measure => simp [intOf]; omega
      · have hk' : k = l0.length := by omega
        have hdk : decide (k < l0.length) = false := decide_eq_false (by omega)
        go_wp2
        go_ret
        exact ⟨rfl, Drawn0.refl _⟩
  · rw [if_neg hl] at h
    cases h

end Go.Proofs.Ytfljcejkgdkkeaa.Print

-- laid by hp.py (a program of this work over the kit's print), with contracts by hand for what the print does not take
import Derived.Test.YtmaiifghplcjeaaPrint0
import Derived.Test.YtmaiifghplcjeaaPrintHimpleachPlace
import Derived.Test.YtmaiifghplcjeaaPrintHx0
import Derived.Test.YtmaiifghplcjeaaPrintHx2
import Derived.Test.YtmaiifghplcjeaaPrintR1x3
namespace Go.Proofs.Ytmaiifghplcjeaa.Print
open Go.RowKit Go.Proofs.YtmaiifghplcjeaaW.PrintWords Go.Proofs.YtmaiifghplcjeaaW.PrintLast Go.Proofs.YtmaiifghplcjeaaW.PrintMore
attribute [local go_sem] max2_int min2_int max_two min_two max_three min_three max_four min_four   -- for this text's walks alone
set_option linter.unusedVariables false
set_option linter.unusedSimpArgs false

--SNIP impl_FindImage
/-! ### impl_FindImage: function 35, by hand -/
theorem boxf_size : (Try.prog.info? 40).map (·.size) = some 4 := by kernel_rfl
section
variable {ops : Array Oper} {rest : List Oper} {o : Oper} {a : Act} {w : World} {Q : Exit → Act → World → Prop}
theorem wpList_store_box (hgd : o.guard = none) (x y : Operand) (ho : o.op = .store 40 x y) (g : Nat) (z0 z1 z2 z3 a0 a1 a2 a3 : Int) (hx : a.eval x = .pointer (some ⟨g, 0, none⟩)) (hy : a.eval y = .agg #[.int .i64 a0, .int .i64 a1, .int .i64 a2, .int .i64 a3]) (hg : w.heap[g]? = some (.cells #[.int .i64 z0, .int .i64 z1, .int .i64 z2, .int .i64 z3] 40 (0, 0)))
    (h : ∀ W : World, W.heap[g]? = some (.cells #[.int .i64 a0, .int .i64 a1, .int .i64 a2, .int .i64 a3] 40 (0, 0)) → (∀ i, i ≠ g → W.heap[i]? = w.heap[i]?) → W.heap.size = w.heap.size → (∀ B w0, B ≤ g → Below B w0 w → Below B w0 W) → wpList Try.prog ops Q rest (a.put o.dst undef) W) : wpList Try.prog ops Q (o :: rest) a w :=
  wpList_plain hgd fun _ hK => wp_store_row 40 x y ho g #[.int .i64 a0, .int .i64 a1, .int .i64 a2, .int .i64 a3] hx hy _ _ hg boxf_size rfl (by simp; exact ⟨rfl, rfl, rfl, rfl⟩) (hK _ _ (h (w.setRow g #[.int .i64 a0, .int .i64 a1, .int .i64 a2, .int .i64 a3]) (setRow_heap w g _ _ _ _ hg) (fun i hi => setRow_other w g i _ hi) (wsize_setRow _ _ _) (fun B w0 hB hb => below_putRow hb g _ hB)))
end
/-- The two variables of the search. -/
def FindSt (bl bb : Nat) (s : Int × Int × Int × Int × Int) (w : World) : Prop := w.heap[bl]? = some (.cells #[.int .i64 s.2.2.2.2] 3 (0, 0)) ∧ w.heap[bb]? = some (.cells #[.int .i64 s.1, .int .i64 s.2.1, .int .i64 s.2.2.1, .int .i64 s.2.2.2.1] 40 (0, 0))
theorem FindSt.below {bl bb : Nat} {s : Int × Int × Int × Int × Int} {w w' : World} (h : FindSt bl bb s w) (hb : Below w.heap.size w w') : FindSt bl bb s w' := ⟨blk_below h.1 hb, blk_below h.2 hb⟩
set_option maxHeartbeats 8000000 in
set_option maxRecDepth 100000 in
theorem impl_FindImage_1.any (u v : Nat) (s : Int × Int × Int × Int × Int) (x y : Nat) (n : Int) (bl bb : Nat) (w0 w : World) (hw : Below w0.heap.size w0 w) (h0 : w0.heap.size ≤ bl) (h1 : w0.heap.size ≤ bb) (hs : FindSt bl bb s w) :
    Calls Try.prog 80 #[.agg #[.int .i64 x, .int .i64 y, .int .i64 u, .int .i64 v], .int .i64 n, .pointer (some ⟨bl, 0, none⟩), .pointer (some ⟨bb, 0, none⟩)] w fun e w' => e = .returned (.tuple #[]) ∧ FindSt bl bb (stepB u v s x y n) w' ∧ Below w0.heap.size w0 w' ∧ w.heap.size ≤ w'.heap.size ∧ (∀ i, i < w.heap.size → i ≠ bl → i ≠ bb → w'.heap[i]? = w.heap[i]?) := by
  obtain ⟨s0, s1, s2, s3, s4⟩ := s
  have HBX := Aside0.mk (below_then hw hw.size (below_alloc (Below.refl _ _) (.cells #[.int .i64 x, .int .i64 y, .int .i64 u, .int .i64 v] 40)))
  have HL := Aside0.mk (blk_alloc hs.1 (.cells #[.int .i64 x, .int .i64 y, .int .i64 u, .int .i64 v] 40))
  have HBB := Aside0.mk (blk_alloc hs.2 (.cells #[.int .i64 x, .int .i64 y, .int .i64 u, .int .i64 v] 40))
  have HN := Aside0.mk (blk_new w (.cells #[.int .i64 x, .int .i64 y, .int .i64 u, .int .i64 v] 40))
  have HK := Aside0.mk (fun i (hi : i < w.heap.size) => Below.heap_alloc w (.cells #[.int .i64 x, .int .i64 y, .int .i64 u, .int .i64 v] 40) i hi)
  have hne := blk_ne hs.1 hs.2 (by decide)
  have HNE := Aside0.mk hne
  have hs1 : (w.alloc (.cells #[.int .i64 x, .int .i64 y, .int .i64 u, .int .i64 v] 40)).heap.size = w.heap.size + 1 := wsize_alloc _ _
  clear hs hne hw
  generalize hw2 : w.alloc (.cells #[.int .i64 x, .int .i64 y, .int .i64 u, .int .i64 v] 40) = w2 at HBX HL HBB HN HK hs1
  have HW2 := Aside0.mk hw2
  have HS1 := Aside0.mk hs1
  clear hs1 hw2
  simp only [] at HL HBB
  have hcc := (blk_cell HL.out 0).trans rfl
  have hfz := blk_frozen HL.out 0
  by_cases hlow : s4 < 0 ∨ n < s4
  · have hst : stepB u v (s0, s1, s2, s3, s4) x y n = ((x : Int), (y : Int), (u : Int), (v : Int), n) := if_pos hlow
    by_cases h4 : s4 < 0
    · have d4 : decide (s4 < 0) = true := decide_eq_true h4
      clear hlow h4
      go_enter Try.func80, Try.ntmps80
      go_wp2_with (first
        | (rw [HW2.out])
        | (refine wpList_load_row rfl 40 _ rfl w.heap.size rfl _ _ _ _ HN.out Try.underlying40 rfl boxf_size ?_)
        | (refine wpList_store_box rfl _ _ rfl bb _ _ _ _ x y u v rfl rfl HBB.out ?_; intro w3 hbb hoth hsz hbel; have HBB3 := Aside0.mk hbb; have HL3 := Aside0.mk ((hoth bl HNE.out).trans HL.out); have HOTH := Aside0.mk hoth; have HSZ := Aside0.mk hsz; have HBX3 := Aside0.mk (hbel _ _ h1 HBX.out); clear hbb hoth hsz hbel; have hcc3 := (blk_cell HL3.out 0).trans rfl; have hfz3 := blk_frozen HL3.out 0))
      first | go_end0 | ((try simp only [Exit.inBlock, Exit.then]); refine bodyPost_ret (results_none rfl _ _ _) rfl ?_)
      rw [hst]
      exact ⟨rfl, ⟨blk_put HL3.out 0 _ rfl, blk_far (p := ⟨bl, 0, none⟩) HBB3.out (fun e => HNE.out e.symm) _⟩, below_set HBX3.out h0, by have h5 := HS1.out; have h6 := HSZ.out; simp; omega, fun i hi hn1 hn2 => (Below.heap_setCell _ _ _ i hn1).trans ((HOTH.out i hn2).trans (HK.out i hi))⟩
    · have d4 : decide (s4 < 0) = false := decide_eq_false h4
      have d5 : decide (n < s4) = true := decide_eq_true (hlow.resolve_left h4)
      clear hlow h4
      go_enter Try.func80, Try.ntmps80
      go_wp2_with (first
        | (rw [HW2.out])
        | (refine wpList_load_row rfl 40 _ rfl w.heap.size rfl _ _ _ _ HN.out Try.underlying40 rfl boxf_size ?_)
        | (refine wpList_store_box rfl _ _ rfl bb _ _ _ _ x y u v rfl rfl HBB.out ?_; intro w3 hbb hoth hsz hbel; have HBB3 := Aside0.mk hbb; have HL3 := Aside0.mk ((hoth bl HNE.out).trans HL.out); have HOTH := Aside0.mk hoth; have HSZ := Aside0.mk hsz; have HBX3 := Aside0.mk (hbel _ _ h1 HBX.out); clear hbb hoth hsz hbel; have hcc3 := (blk_cell HL3.out 0).trans rfl; have hfz3 := blk_frozen HL3.out 0))
      first | go_end0 | ((try simp only [Exit.inBlock, Exit.then]); refine bodyPost_ret (results_none rfl _ _ _) rfl ?_)
      rw [hst]
      exact ⟨rfl, ⟨blk_put HL3.out 0 _ rfl, blk_far (p := ⟨bl, 0, none⟩) HBB3.out (fun e => HNE.out e.symm) _⟩, below_set HBX3.out h0, by have h5 := HS1.out; have h6 := HSZ.out; simp; omega, fun i hi hn1 hn2 => (Below.heap_setCell _ _ _ i hn1).trans ((HOTH.out i hn2).trans (HK.out i hi))⟩
  · have hst : stepB u v (s0, s1, s2, s3, s4) x y n = (s0, s1, s2, s3, s4) := if_neg hlow
    have d4 : decide (s4 < 0) = false := decide_eq_false (fun h => hlow (.inl h))
    have d5 : decide (n < s4) = false := decide_eq_false (fun h => hlow (.inr h))
    clear hlow
    go_enter Try.func80, Try.ntmps80
    go_wp2_with (rw [HW2.out])
    first | go_end0 | ((try simp only [Exit.inBlock, Exit.then]); refine bodyPost_ret (results_none rfl _ _ _) rfl ?_)
    rw [hst]
    exact ⟨rfl, ⟨HL.out, HBB.out⟩, HBX.out, by have := HS1.out; omega, fun i hi _ _ => HK.out i hi⟩
def impl_FindImage.f (a0_0 : Int) (a0_1 : Int) (a0_2 : Int) (l0_3 : List Int) (a1_0 : Int) (a1_1 : Int) (a1_2 : Int) (l1_3 : List Int) : Option (Int × Int × Int × Int × Int) := some (if SearchOk a0_0 a0_1 a0_2 l0_3 a1_0 a1_1 a1_2 l1_3 then searchFold (stepB a1_0.toNat a1_1.toNat) a0_0 a0_1 a0_2 l0_3 a1_0 a1_1 l1_3 (0, 0, 0, 0, -1) else (0, 0, 0, 0, -1))
set_option maxHeartbeats 8000000 in
set_option maxRecDepth 100000 in
theorem impl_FindImage.no (a0 a1 a2 : Int) (A : Option Addr) (c : Nat) (l : List Int) (b0 b1 b2 : Int) (B : Option Addr) (d : Nat) (q : List Int) (w : World) (hr : Kd.C (Kd.int .i64) w A l.length l) (hc : l.length ≤ c) (hrq : Kd.C (Kd.int .i64) w B q.length q) (hcq : q.length ≤ d) (h : ¬ SearchOk a0 a1 a2 l b0 b1 b2 q) :
    Calls Try.prog 35 #[.agg #[.int .i64 a0, .int .i64 a1, .int .i64 a2, .slice A l.length c], .agg #[.int .i64 b0, .int .i64 b1, .int .i64 b2, .slice B q.length d]] w fun e w' => e = .returned (.tuple #[.agg #[.int .i64 0, .int .i64 0, .int .i64 0, .int .i64 0], .int .i64 (-1)]) ∧ Below w.heap.size w w' := by
  have HS : Aside0 (∀ W' : World, Below w.heap.size w W' → Calls Try.prog 62 #[.agg #[.int .i64 a0, .int .i64 a1, .int .i64 a2, .slice A l.length c], .agg #[.int .i64 b0, .int .i64 b1, .int .i64 b2, .slice B q.length d]] W' fun e w' => e = .returned (.bool false) ∧ Below W'.heap.size W' w') := ⟨fun W' hW => impl_isSearched.calls a0 a1 a2 A c l b0 b1 b2 B d q false W' (Kd.C_below hr hW) hc (Kd.C_below hrq hW) hcq (by rw [impl_isSearched.eq, decide_eq_false h])⟩
  have HI0 := Aside0.mk (allocs_img [.cells #[.int .i64 a0, .int .i64 a1, .int .i64 a2, .slice A l.length c] 26, .cells #[.int .i64 b0, .int .i64 b1, .int .i64 b2, .slice B q.length d] 26, .cells #[.int .i64 0, .int .i64 0, .int .i64 0, .int .i64 0] 40] w 0 _ _ _ _ rfl)
  have HQ0 := Aside0.mk (allocs_img [.cells #[.int .i64 a0, .int .i64 a1, .int .i64 a2, .slice A l.length c] 26, .cells #[.int .i64 b0, .int .i64 b1, .int .i64 b2, .slice B q.length d] 26, .cells #[.int .i64 0, .int .i64 0, .int .i64 0, .int .i64 0] 40] w 1 _ _ _ _ rfl)
  have HB0 := Aside0.mk (allocs_below [.cells #[.int .i64 a0, .int .i64 a1, .int .i64 a2, .slice A l.length c] 26, .cells #[.int .i64 b0, .int .i64 b1, .int .i64 b2, .slice B q.length d] 26, .cells #[.int .i64 0, .int .i64 0, .int .i64 0, .int .i64 0] 40] w)
  have HZ0 := Aside0.mk (allocs_at [.cells #[.int .i64 a0, .int .i64 a1, .int .i64 a2, .slice A l.length c] 26, .cells #[.int .i64 b0, .int .i64 b1, .int .i64 b2, .slice B q.length d] 26, .cells #[.int .i64 0, .int .i64 0, .int .i64 0, .int .i64 0] 40] w 2 _ rfl)
  have hu := Try.underlying26
  have hub := Try.underlying40
  clear hr hc hrq hcq h
  go_enter Try.func35, Try.ntmps35
  go_wp2_with (first
    | (refine wpList_load_img rfl _ rfl w.heap.size a0 a1 a2 _ rfl HI0.out ?_)
    | (refine wpList_load_img rfl _ rfl (w.heap.size + 1) b0 b1 b2 _ rfl HQ0.out ?_)
    | (go_at_call 62; refine (HS.out _ HB0.out).mono ?_; rintro e w1 ⟨rfl, hb⟩; have HI1 := Aside0.mk (HI0.out.below hb); have HQ1 := Aside0.mk (HQ0.out.below hb); have HB1 := Aside0.mk (below_step HB0.out hb); have HZ1 := Aside0.mk (blk_below HZ0.out hb); clear hb)
    | (refine wpList_store_box rfl _ _ rfl (w.heap.size + 2) _ _ _ _ 0 0 0 0 rfl rfl HZ1.out ?_; intro w2 hz hoth hsz hbel; have HZ2 := Aside0.mk hz; have HB2 := Aside0.mk (hbel _ _ (by omega) HB1.out); clear hz hoth hsz hbel))
  refine bodyPost_ret (results_ct rfl _ _ (w.heap.size + 2) _ _ _ _ rfl HZ2.out Try.underlying40 rfl boxf_size) rfl ⟨rfl, HB2.out⟩
set_option maxHeartbeats 8000000 in
set_option maxRecDepth 100000 in
theorem impl_FindImage.yes (W H p u v : Nat) (ad aq : Addr) (c cq : Nat) (l q : List Int) (w : World) (hr : Kd.C (Kd.int .i64) w (some ad) l.length l) (hc : l.length ≤ c) (hrq : Kd.C (Kd.int .i64) w (some aq) q.length q) (hcq : q.length ≤ cq) (h : SearchOk W H p l u v p q) (hl : l.length = W * H * p) (hlq : q.length = u * v * p) (hW : W ≤ 16) (hH : H ≤ 16) (hp0 : 1 ≤ p) (hp : p ≤ 4) (hu0 : 1 ≤ u) (hu : u ≤ W) (hv0 : 1 ≤ v) (hv : v ≤ H) :
    Calls Try.prog 35 #[.agg #[.int .i64 W, .int .i64 H, .int .i64 p, .slice (some ad) l.length c], .agg #[.int .i64 u, .int .i64 v, .int .i64 p, .slice (some aq) q.length cq]] w fun e w' => e = .returned (.tuple #[.agg #[.int .i64 (searchFold (stepB u v) W H p l u v q (0, 0, 0, 0, -1)).1, .int .i64 (searchFold (stepB u v) W H p l u v q (0, 0, 0, 0, -1)).2.1, .int .i64 (searchFold (stepB u v) W H p l u v q (0, 0, 0, 0, -1)).2.2.1, .int .i64 (searchFold (stepB u v) W H p l u v q (0, 0, 0, 0, -1)).2.2.2.1], .int .i64 (searchFold (stepB u v) W H p l u v q (0, 0, 0, 0, -1)).2.2.2.2]) ∧ Below w.heap.size w w' := by
  have HS : Aside0 (∀ W' : World, Below w.heap.size w W' → Calls Try.prog 62 #[.agg #[.int .i64 W, .int .i64 H, .int .i64 p, .slice (some ad) l.length c], .agg #[.int .i64 u, .int .i64 v, .int .i64 p, .slice (some aq) q.length cq]] W' fun e w' => e = .returned (.bool true) ∧ Below W'.heap.size W' w') := ⟨fun W' hW => impl_isSearched.calls W H p (some ad) c l u v p (some aq) cq q true W' (Kd.C_below hr hW) hc (Kd.C_below hrq hW) hcq (by rw [impl_isSearched.eq, decide_eq_true h])⟩
  have HE : Aside0 (∀ (bl bb : Nat) (W' : World), Below w.heap.size w W' → w.heap.size + 2 < bl → w.heap.size + 2 < bb → FindSt bl bb (0, 0, 0, 0, -1) W' → W'.heap[w.heap.size + 2]? = some (.cells #[.int .i64 0, .int .i64 0, .int .i64 0, .int .i64 0] 40 (0, 0)) → Calls Try.prog 63 (#[.agg #[.int .i64 W, .int .i64 H, .int .i64 p, .slice (some ad) l.length c], .agg #[.int .i64 u, .int .i64 v, .int .i64 p, .slice (some aq) q.length cq]].push (.func (.func 80) #[] #[.pointer (some ⟨bl, 0, none⟩), .pointer (some ⟨bb, 0, none⟩)])) W' fun e w' => e = .returned (.tuple #[]) ∧ FindSt bl bb (searchFold (stepB u v) W H p l u v q (0, 0, 0, 0, -1)) w' ∧ w'.heap[w.heap.size + 2]? = some (.cells #[.int .i64 0, .int .i64 0, .int .i64 0, .int .i64 0] 40 (0, 0)) ∧ Below w.heap.size w w') :=
    ⟨fun bl bb W' hb hbl hbb hst hz => by
      have h1 := impl_eachPlace.any 80 _ #[.pointer (some ⟨bl, 0, none⟩), .pointer (some ⟨bb, 0, none⟩)] Try.func80 (by kernel_rfl) rfl W H p u v ad aq c cq l q w W' hW hH hp0 hp hu0 hu hv0 hv hr hc hl h.1.2.2.2.2 hrq hcq hlq h.2.1.2.2.2.2 (stepB u v) (fun s w1 => FindSt bl bb s w1 ∧ w1.heap[w.heap.size + 2]? = some (.cells #[.int .i64 0, .int .i64 0, .int .i64 0, .int .i64 0] 40 (0, 0))) (0, 0, 0, 0, -1) (fun s w1 w2 hs hb2 => ⟨hs.1.below hb2, blk_below hs.2 hb2⟩)
        (fun s x y n w1 _ _ hsz hs hb1 => (impl_FindImage_1.any u v s x y n bl bb w w1 hb1 (by omega) (by omega) hs.1).mono (fun e w2 hh => ⟨hh.1, ⟨hh.2.1, (hh.2.2.2.2 _ (blk_lt hs.2) (by omega) (by omega)).trans hs.2⟩, hh.2.2.1, hh.2.2.2.1, fun i hi hlt => hh.2.2.2.2 i hlt (by have := blk_lt hst.1; omega) (by have := blk_lt hst.2; omega)⟩)) ⟨hst, hz⟩ hb
      refine h1.mono (fun e w2 hh => ⟨hh.1, ?_, hh.2.1.2, hh.2.2⟩)
      have h2 := hh.2.1.1
      unfold searchFold
      simp only [Int.toNat_natCast]
      exact h2⟩
  have HI0 := Aside0.mk (allocs_img [.cells #[.int .i64 W, .int .i64 H, .int .i64 p, .slice (some ad) l.length c] 26, .cells #[.int .i64 u, .int .i64 v, .int .i64 p, .slice (some aq) q.length cq] 26, .cells #[.int .i64 0, .int .i64 0, .int .i64 0, .int .i64 0] 40] w 0 _ _ _ _ rfl)
  have HQ0 := Aside0.mk (allocs_img [.cells #[.int .i64 W, .int .i64 H, .int .i64 p, .slice (some ad) l.length c] 26, .cells #[.int .i64 u, .int .i64 v, .int .i64 p, .slice (some aq) q.length cq] 26, .cells #[.int .i64 0, .int .i64 0, .int .i64 0, .int .i64 0] 40] w 1 _ _ _ _ rfl)
  have HB0 := Aside0.mk (allocs_below [.cells #[.int .i64 W, .int .i64 H, .int .i64 p, .slice (some ad) l.length c] 26, .cells #[.int .i64 u, .int .i64 v, .int .i64 p, .slice (some aq) q.length cq] 26, .cells #[.int .i64 0, .int .i64 0, .int .i64 0, .int .i64 0] 40] w)
  have HZ0 := Aside0.mk (allocs_at [.cells #[.int .i64 W, .int .i64 H, .int .i64 p, .slice (some ad) l.length c] 26, .cells #[.int .i64 u, .int .i64 v, .int .i64 p, .slice (some aq) q.length cq] 26, .cells #[.int .i64 0, .int .i64 0, .int .i64 0, .int .i64 0] 40] w 2 _ rfl)
  have hu := Try.underlying26
  have hub := Try.underlying40
  generalize searchFold (stepB u v) W H p l u v q (0, 0, 0, 0, -1) = fin at HE
  clear hr hc hrq hcq h hl hlq hW hH hp0 hp hu0 hu hv0 hv
  go_enter Try.func35, Try.ntmps35
  go_wp2_with (first
    | (refine wpList_load_img rfl _ rfl w.heap.size W H p _ rfl HI0.out ?_)
    | (refine wpList_load_img rfl _ rfl (w.heap.size + 1) u v p _ rfl HQ0.out ?_)
    | (go_at_call 62; refine (HS.out _ HB0.out).mono ?_; rintro e w1 ⟨rfl, hb⟩; have HI1 := Aside0.mk (HI0.out.below hb); have HQ1 := Aside0.mk (HQ0.out.below hb); have HB1 := Aside0.mk (below_step HB0.out hb); have HZ1 := Aside0.mk (blk_below HZ0.out hb); clear hb)
    | ((with_reducible refine gate_dst (N := 6) rfl ?_); refine box_event ?hg (N := 6) ?hd (cs := #[.int .i64 0, .int .i64 0, .int .i64 0, .int .i64 0]) (t := 40) ?hr ?_; (case hd => rfl); (case hg => rfl); (case hr => first | (go_simp; done) | (go_simp; rfl)); intro gb hg w2 hbox hb; have HK2 := Aside0.mk hbox; have HG := Aside0.mk (show w.heap.size + 2 < gb by rw [hg]; exact blk_lt HZ1.out); have HI2 := Aside0.mk (HI1.out.below hb); have HQ2 := Aside0.mk (HQ1.out.below hb); have HZ2 := Aside0.mk (blk_below HZ1.out hb); have HB2 := Aside0.mk (below_step HB1.out hb); clear hb hbox hg)
    | ((with_reducible refine gate_dst (N := 7) rfl ?_); refine box_event ?hg (N := 7) ?hd (cs := #[.int .i64 0]) (t := 3) ?hr ?_; (case hd => rfl); (case hg => rfl); (case hr => first | (go_simp; done) | (go_simp; rfl)); intro gl hg w3 hbox hb; have HL3 := Aside0.mk hbox; have HGL := Aside0.mk (show w.heap.size + 2 < gl by rw [hg]; exact blk_lt HZ2.out); have HK3 := Aside0.mk (blk_below HK2.out hb); have HI3 := Aside0.mk (HI2.out.below hb); have HQ3 := Aside0.mk (HQ2.out.below hb); have HZ3 := Aside0.mk (blk_below HZ2.out hb); have HB3 := Aside0.mk (below_step HB2.out hb); clear hb hbox hg)
    | (refine wpList_store_box rfl _ _ rfl gb _ _ _ _ 0 0 0 0 rfl rfl HK3.out ?_; intro w4 hz hoth hsz hbel; have HK4 := Aside0.mk hz; have HL4 := Aside0.mk ((hoth gl (blk_ne HL3.out HK3.out (by decide))).trans HL3.out); have HI4 : Aside0 (IsImg w4 w.heap.size W H p (.slice (some ad) l.length c)) := ⟨⟨(hoth _ (blk_ne HI3.out.out HK3.out (by decide))).trans HI3.out.out⟩⟩; have HQ4 : Aside0 (IsImg w4 (w.heap.size + 1) u v p (.slice (some aq) q.length cq)) := ⟨⟨(hoth _ (blk_ne HQ3.out.out HK3.out (by decide))).trans HQ3.out.out⟩⟩; have HZ4 := Aside0.mk ((hoth (w.heap.size + 2) (by have := HG.out; omega)).trans HZ3.out); have HB4 := Aside0.mk (hbel _ _ (by have := HG.out; omega) HB3.out); clear hz hoth hsz hbel; have hcc4 := (blk_cell HL4.out 0).trans rfl; have hfz4 := blk_frozen HL4.out 0)
    | ((with_reducible refine gate_store (t := 3) (p := 7) rfl ?_); refine store_event (t := 3) (p := 7) (v := ?vo) (w1 := (w4.setCell ⟨gl, 0, none⟩ (.int .i64 (-1)))) ?hg ?ho ?hn ?hr ?_; (case ho => rfl); (case hg => rfl); (case hn => rfl); (case hr => first | (go_simp; done) | (go_simp; rfl)); intro w5 hw5; have HS5 : Aside0 (FindSt gl gb (0, 0, 0, 0, -1) w5) := ⟨by rw [hw5]; exact ⟨blk_put HL4.out 0 _ rfl, blk_far (p := ⟨gl, 0, none⟩) HK4.out (blk_ne HK4.out HL4.out (by decide)) _⟩⟩; have HI5 : Aside0 (IsImg w5 w.heap.size W H p (.slice (some ad) l.length c)) := ⟨by rw [hw5]; exact HI4.out.far (p := ⟨gl, 0, none⟩) (blk_ne HI4.out.out HL4.out (by decide)) _⟩; have HQ5 : Aside0 (IsImg w5 (w.heap.size + 1) u v p (.slice (some aq) q.length cq)) := ⟨by rw [hw5]; exact HQ4.out.far (p := ⟨gl, 0, none⟩) (blk_ne HQ4.out.out HL4.out (by decide)) _⟩; have HZ5 : Aside0 (w5.heap[w.heap.size + 2]? = some (.cells #[.int .i64 0, .int .i64 0, .int .i64 0, .int .i64 0] 40 (0, 0))) := ⟨by rw [hw5]; exact blk_far (p := ⟨gl, 0, none⟩) HZ4.out (by have := HGL.out; simp; omega) _⟩; have HB5 : Aside0 (Below w.heap.size w w5) := ⟨by rw [hw5]; exact below_set HB4.out (by have := HGL.out; omega)⟩; clear hw5 hcc4 hfz4 HL4 HK4 HI4 HQ4 HZ4 HB4)
    | (refine wpList_load_img rfl _ rfl w.heap.size W H p _ rfl HI5.out ?_)
    | (refine wpList_load_img rfl _ rfl (w.heap.size + 1) u v p _ rfl HQ5.out ?_)
    | (go_at_call 63; refine (HE.out gl gb _ HB5.out HGL.out HG.out HS5.out HZ5.out).mono ?_; rintro e w6 ⟨rfl, hs, hz, hb⟩; have HB6 := Aside0.mk hb; have HZ6 := Aside0.mk hz; have HS6 := Aside0.mk hs; clear hb hz hs))
  have hl0 := (blk_cell HS6.out.1 0).trans rfl
  have hb0 := (blk_cell HS6.out.2 0).trans rfl
  have hb1 := (blk_cell HS6.out.2 1).trans rfl
  have hb2 := (blk_cell HS6.out.2 2).trans rfl
  have hb3 := (blk_cell HS6.out.2 3).trans rfl
  have hz0 := (blk_cell HZ6.out 0).trans rfl
  have hz1 := (blk_cell HZ6.out 1).trans rfl
  have hz2 := (blk_cell HZ6.out 2).trans rfl
  have hz3 := (blk_cell HZ6.out 3).trans rfl
  have hf0 := blk_frozen HZ6.out 0
  have hf1 := blk_frozen HZ6.out 1
  have hf2 := blk_frozen HZ6.out 2
  have hf3 := blk_frozen HZ6.out 3
  have hg1 : gl ≠ w.heap.size + 1 + 1 := by have := HGL.out; omega
  have hg2 : w.heap.size + 1 + 1 ≠ gl := by have := HGL.out; omega
  have hg3 : gb ≠ w.heap.size + 1 + 1 := by have := HG.out; omega
  have hg4 : w.heap.size + 1 + 1 ≠ gb := by have := HG.out; omega
  have HR := Aside0.mk (put4_ HZ6.out (.int .i64 fin.1) (.int .i64 fin.2.1) (.int .i64 fin.2.2.1) (.int .i64 fin.2.2.2.1))
  have HRB := Aside0.mk (below_set (v := .int .i64 fin.2.2.2.1) (j := 3) (below_set (v := .int .i64 fin.2.2.1) (j := 2) (below_set (v := .int .i64 fin.2.1) (j := 1) (below_set (v := .int .i64 fin.1) (j := 0) HB6.out (show w.heap.size ≤ w.heap.size + 2 by omega)) (show w.heap.size ≤ w.heap.size + 2 by omega)) (show w.heap.size ≤ w.heap.size + 2 by omega)) (show w.heap.size ≤ w.heap.size + 2 by omega))
  go_region
  all_goals
    go_wp2
    refine bodyPost_ret (results_ct rfl _ _ (w.heap.size + 2) _ _ _ _ rfl HR.out Try.underlying40 rfl boxf_size) rfl ⟨rfl, ?_⟩
    exact below_drew HRB.out
theorem impl_FindImage.calls (a0_0 : Int) (a0_1 : Int) (a0_2 : Int) (A0_3 : Option Addr) (c0_3 : Nat) (l0_3 : List Int) (a1_0 : Int) (a1_1 : Int) (a1_2 : Int) (A1_3 : Option Addr) (c1_3 : Nat) (l1_3 : List Int) (r1 : Int) (r2 : Int) (r3 : Int) (r4 : Int) (r5 : Int) (w : World) (hr0_3 : Kd.C (Kd.int .i64) w A0_3 l0_3.length l0_3) (hc0_3 : l0_3.length ≤ c0_3) (hr1_3 : Kd.C (Kd.int .i64) w A1_3 l1_3.length l1_3) (hc1_3 : l1_3.length ≤ c1_3) (h : impl_FindImage.f a0_0 a0_1 a0_2 l0_3 a1_0 a1_1 a1_2 l1_3 = some (r1, r2, r3, r4, r5)) :
    Calls Try.prog 35 #[.agg #[.int .i64 a0_0, .int .i64 a0_1, .int .i64 a0_2, .slice A0_3 l0_3.length c0_3], .agg #[.int .i64 a1_0, .int .i64 a1_1, .int .i64 a1_2, .slice A1_3 l1_3.length c1_3]] w fun e w' => e = .returned (.tuple #[.agg #[.int .i64 r1, .int .i64 r2, .int .i64 r3, .int .i64 r4], .int .i64 r5]) ∧ Below w.heap.size w w' := by
  unfold impl_FindImage.f at h
  by_cases hk : SearchOk a0_0 a0_1 a0_2 l0_3 a1_0 a1_1 a1_2 l1_3
  · rw [if_pos hk] at h
    have h' := Option.some.inj h
    have hk2 := hk
    obtain ⟨hi, hj, rfl, h1, h2⟩ := hk2
    obtain ⟨ad, rfl, _⟩ := hr0_3.2.2 (by have := hi.len.1; omega)
    obtain ⟨aq, rfl, _⟩ := hr1_3.2.2 (by have := hj.len.1; omega)
    obtain ⟨W, H, p, rfl, rfl, rfl, hl, b1, b2, b3, b4, b5, b6⟩ := hi.nats
    obtain ⟨u, v, p', rfl, rfl, hpp, hlq, d1, d2, d3, d4, d5, d6⟩ := hj.nats
    obtain rfl : p' = p := by omega
    rw [Int.toNat_natCast, Int.toNat_natCast] at h'
    have hy := impl_FindImage.yes W H p' u v ad aq c0_3 c1_3 l0_3 l1_3 w hr0_3 hc0_3 hr1_3 hc1_3 hk hl hlq b4 b5 b3 b6 d1 (by omega) d2 (by omega)
    rw [h'] at hy
    exact hy
  · rw [if_neg hk] at h
    simp only [Option.some.injEq, Prod.mk.injEq] at h
    obtain ⟨rfl, rfl, rfl, rfl, rfl⟩ := h
    exact impl_FindImage.no _ _ _ A0_3 c0_3 l0_3 _ _ _ A1_3 c1_3 l1_3 w hr0_3 hc0_3 hr1_3 hc1_3 hk

end Go.Proofs.Ytmaiifghplcjeaa.Print

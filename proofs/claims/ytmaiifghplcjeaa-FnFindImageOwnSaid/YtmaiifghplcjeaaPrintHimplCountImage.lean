-- laid by hp.py (a program of this work over the kit's print), with contracts by hand for what the print does not take
import Derived.Test.YtmaiifghplcjeaaPrint0
import Derived.Test.YtmaiifghplcjeaaPrintHimpleachPlace
import Derived.Test.YtmaiifghplcjeaaPrintHx0
import Derived.Test.YtmaiifghplcjeaaPrintHx2
import Derived.Test.YtmaiifghplcjeaaPrintR1x0
namespace Go.Proofs.Ytmaiifghplcjeaa.Print
open Go.RowKit Go.Proofs.YtmaiifghplcjeaaW.PrintWords Go.Proofs.YtmaiifghplcjeaaW.PrintLast Go.Proofs.YtmaiifghplcjeaaW.PrintMore
attribute [local go_sem] max2_int min2_int max_two min_two max_three min_three max_four min_four   -- for this text's walks alone
set_option linter.unusedVariables false
set_option linter.unusedSimpArgs false

--SNIP impl_CountImage
/-! ### impl_CountImage: function 24, by hand -/
/-- One more place where nothing differs. -/
def stepC (s : Int) (_ _ : Nat) (n : Int) : Int := if n = 0 then wrap64 (s + 1) else s
set_option maxHeartbeats 8000000 in
set_option maxRecDepth 100000 in
theorem impl_CountImage_1.any (u v : Nat) (s : Int) (x y : Nat) (n : Int) (bl : Nat) (w0 w : World) (hw : Below w0.heap.size w0 w) (h0 : w0.heap.size ≤ bl) (hc : w.heap[bl]? = some (.cells #[.int .i64 s] 3 (0, 0))) :
    Calls Try.prog 64 #[.agg #[.int .i64 x, .int .i64 y, .int .i64 u, .int .i64 v], .int .i64 n, .pointer (some ⟨bl, 0, none⟩)] w fun e w' => e = .returned (.tuple #[]) ∧ w'.heap[bl]? = some (.cells #[.int .i64 (stepC s x y n)] 3 (0, 0)) ∧ Below w0.heap.size w0 w' ∧ w.heap.size ≤ w'.heap.size ∧ (∀ i, i < w.heap.size → i ≠ bl → w'.heap[i]? = w.heap[i]?) := by
  have HBX := Aside0.mk (below_then hw hw.size (below_alloc (Below.refl _ _) (.cells #[.int .i64 x, .int .i64 y, .int .i64 u, .int .i64 v] 40)))
  have HC := Aside0.mk (blk_alloc hc (.cells #[.int .i64 x, .int .i64 y, .int .i64 u, .int .i64 v] 40))
  have HK := Aside0.mk (fun i (hi : i < w.heap.size) => Below.heap_alloc w (.cells #[.int .i64 x, .int .i64 y, .int .i64 u, .int .i64 v] 40) i hi)
  have hs1 : (w.alloc (.cells #[.int .i64 x, .int .i64 y, .int .i64 u, .int .i64 v] 40)).heap.size = w.heap.size + 1 := wsize_alloc _ _
  generalize hw2 : w.alloc (.cells #[.int .i64 x, .int .i64 y, .int .i64 u, .int .i64 v] 40) = w2 at HBX HC HK hs1
  have HW2 := Aside0.mk hw2
  have HS1 := Aside0.mk hs1
  clear hs1 hw2
  have hcc := (blk_cell HC.out 0).trans rfl
  have hfz := blk_frozen HC.out 0
  by_cases hn : n = 0
  · have dn : (n == 0) = true := beq_iff_eq.mpr hn
    have hst : stepC s x y n = wrap64 (s + 1) := if_pos hn
    clear hn
    go_enter Try.func64, Try.ntmps64
    go_wp2_with (rw [HW2.out])
    first | go_end0 | ((try simp only [Exit.inBlock, Exit.then]); refine bodyPost_ret (results_none rfl _ _ _) rfl ?_)
    rw [hst]
    exact ⟨rfl, blk_put HC.out 0 _ rfl, below_set HBX.out h0, by have := HS1.out; simp; omega, fun i hi hne => (Below.heap_setCell _ _ _ i hne).trans (HK.out i hi)⟩
  · have dn : (n == 0) = false := beq_eq_false_iff_ne.mpr hn
    have hst : stepC s x y n = s := if_neg hn
    clear hn
    go_enter Try.func64, Try.ntmps64
    go_wp2_with (rw [HW2.out])
    first | go_end0 | ((try simp only [Exit.inBlock, Exit.then]); refine bodyPost_ret (results_none rfl _ _ _) rfl ?_)
    rw [hst]
    exact ⟨rfl, HC.out, HBX.out, by have := HS1.out; omega, fun i hi _ => HK.out i hi⟩
def impl_CountImage.f (a0_0 : Int) (a0_1 : Int) (a0_2 : Int) (l0_3 : List Int) (a1_0 : Int) (a1_1 : Int) (a1_2 : Int) (l1_3 : List Int) : Option Int := some (if SearchOk a0_0 a0_1 a0_2 l0_3 a1_0 a1_1 a1_2 l1_3 then searchFold stepC a0_0 a0_1 a0_2 l0_3 a1_0 a1_1 l1_3 0 else -1)
set_option maxHeartbeats 8000000 in
set_option maxRecDepth 100000 in
theorem impl_CountImage.no (a0 a1 a2 : Int) (A : Option Addr) (c : Nat) (l : List Int) (b0 b1 b2 : Int) (B : Option Addr) (d : Nat) (q : List Int) (w : World) (hr : Kd.C (Kd.int .i64) w A l.length l) (hc : l.length ≤ c) (hrq : Kd.C (Kd.int .i64) w B q.length q) (hcq : q.length ≤ d) (h : ¬ SearchOk a0 a1 a2 l b0 b1 b2 q) :
    Calls Try.prog 24 #[.agg #[.int .i64 a0, .int .i64 a1, .int .i64 a2, .slice A l.length c], .agg #[.int .i64 b0, .int .i64 b1, .int .i64 b2, .slice B q.length d]] w fun e w' => e = .returned (.int .i64 (-1)) ∧ Below w.heap.size w w' := by
  have HS : Aside0 (∀ W' : World, Below w.heap.size w W' → Calls Try.prog 62 #[.agg #[.int .i64 a0, .int .i64 a1, .int .i64 a2, .slice A l.length c], .agg #[.int .i64 b0, .int .i64 b1, .int .i64 b2, .slice B q.length d]] W' fun e w' => e = .returned (.bool false) ∧ Below W'.heap.size W' w') := ⟨fun W' hW => impl_isSearched.calls a0 a1 a2 A c l b0 b1 b2 B d q false W' (Kd.C_below hr hW) hc (Kd.C_below hrq hW) hcq (by rw [impl_isSearched.eq, decide_eq_false h])⟩
  have HI0 := Aside0.mk (allocs_img [.cells #[.int .i64 a0, .int .i64 a1, .int .i64 a2, .slice A l.length c] 26, .cells #[.int .i64 b0, .int .i64 b1, .int .i64 b2, .slice B q.length d] 26] w 0 _ _ _ _ rfl)
  have HQ0 := Aside0.mk (allocs_img [.cells #[.int .i64 a0, .int .i64 a1, .int .i64 a2, .slice A l.length c] 26, .cells #[.int .i64 b0, .int .i64 b1, .int .i64 b2, .slice B q.length d] 26] w 1 _ _ _ _ rfl)
  have HB0 := Aside0.mk (allocs_below [.cells #[.int .i64 a0, .int .i64 a1, .int .i64 a2, .slice A l.length c] 26, .cells #[.int .i64 b0, .int .i64 b1, .int .i64 b2, .slice B q.length d] 26] w)
  have hu := Try.underlying26
  clear hr hc hrq hcq h
  go_enter Try.func24, Try.ntmps24
  go_wp2_with (first
    | (refine wpList_load_img rfl _ rfl w.heap.size a0 a1 a2 _ rfl HI0.out ?_)
    | (refine wpList_load_img rfl _ rfl (w.heap.size + 1) b0 b1 b2 _ rfl HQ0.out ?_)
    | (go_at_call 62; refine (HS.out _ HB0.out).mono ?_; rintro e w1 ⟨rfl, hb⟩; have HI1 := Aside0.mk (HI0.out.below hb); have HQ1 := Aside0.mk (HQ0.out.below hb); have HB1 := Aside0.mk (below_step HB0.out hb); clear hb))
  go_ret
  exact ⟨rfl, HB1.out⟩
set_option maxHeartbeats 8000000 in
set_option maxRecDepth 100000 in
theorem impl_CountImage.yes (W H p u v : Nat) (ad aq : Addr) (c cq : Nat) (l q : List Int) (w : World) (hr : Kd.C (Kd.int .i64) w (some ad) l.length l) (hc : l.length ≤ c) (hrq : Kd.C (Kd.int .i64) w (some aq) q.length q) (hcq : q.length ≤ cq) (h : SearchOk W H p l u v p q) (hl : l.length = W * H * p) (hlq : q.length = u * v * p) (hW : W ≤ 16) (hH : H ≤ 16) (hp0 : 1 ≤ p) (hp : p ≤ 4) (hu0 : 1 ≤ u) (hu : u ≤ W) (hv0 : 1 ≤ v) (hv : v ≤ H) :
    Calls Try.prog 24 #[.agg #[.int .i64 W, .int .i64 H, .int .i64 p, .slice (some ad) l.length c], .agg #[.int .i64 u, .int .i64 v, .int .i64 p, .slice (some aq) q.length cq]] w fun e w' => e = .returned (.int .i64 (searchFold stepC W H p l u v q 0)) ∧ Below w.heap.size w w' := by
  have HS : Aside0 (∀ W' : World, Below w.heap.size w W' → Calls Try.prog 62 #[.agg #[.int .i64 W, .int .i64 H, .int .i64 p, .slice (some ad) l.length c], .agg #[.int .i64 u, .int .i64 v, .int .i64 p, .slice (some aq) q.length cq]] W' fun e w' => e = .returned (.bool true) ∧ Below W'.heap.size W' w') := ⟨fun W' hW => impl_isSearched.calls W H p (some ad) c l u v p (some aq) cq q true W' (Kd.C_below hr hW) hc (Kd.C_below hrq hW) hcq (by rw [impl_isSearched.eq, decide_eq_true h])⟩
  have HE : Aside0 (∀ (bl : Nat) (W' : World), Below w.heap.size w W' → w.heap.size ≤ bl → W'.heap[bl]? = some (.cells #[.int .i64 0] 3 (0, 0)) → Calls Try.prog 63 (#[.agg #[.int .i64 W, .int .i64 H, .int .i64 p, .slice (some ad) l.length c], .agg #[.int .i64 u, .int .i64 v, .int .i64 p, .slice (some aq) q.length cq]].push (.func (.func 64) #[] #[.pointer (some ⟨bl, 0, none⟩)])) W' fun e w' => e = .returned (.tuple #[]) ∧ w'.heap[bl]? = some (.cells #[.int .i64 (searchFold stepC W H p l u v q 0)] 3 (0, 0)) ∧ Below w.heap.size w w') :=
    ⟨fun bl W' hb hbl hblk => by
      have h1 := impl_eachPlace.any 64 _ #[.pointer (some ⟨bl, 0, none⟩)] Try.func64 (by kernel_rfl) rfl W H p u v ad aq c cq l q w W' hW hH hp0 hp hu0 hu hv0 hv hr hc hl h.1.2.2.2.2 hrq hcq hlq h.2.1.2.2.2.2 stepC (fun s w1 => w1.heap[bl]? = some (.cells #[.int .i64 s] 3 (0, 0))) 0 (fun s w1 w2 hs hb2 => blk_below hs hb2)
        (fun s x y n w1 _ _ hsz hs hb1 => (impl_CountImage_1.any u v s x y n bl w w1 hb1 hbl hs).mono (fun e w2 hh => ⟨hh.1, hh.2.1, hh.2.2.1, hh.2.2.2.1, fun i hi hlt => hh.2.2.2.2 i hlt (by have := blk_lt hblk; omega)⟩)) hblk hb
      refine h1.mono (fun e w2 hh => ⟨hh.1, ?_, hh.2.2⟩)
      have h2 := hh.2.1
      unfold searchFold
      simp only [Int.toNat_natCast]
      exact h2⟩
  have HI0 := Aside0.mk (allocs_img [.cells #[.int .i64 W, .int .i64 H, .int .i64 p, .slice (some ad) l.length c] 26, .cells #[.int .i64 u, .int .i64 v, .int .i64 p, .slice (some aq) q.length cq] 26] w 0 _ _ _ _ rfl)
  have HQ0 := Aside0.mk (allocs_img [.cells #[.int .i64 W, .int .i64 H, .int .i64 p, .slice (some ad) l.length c] 26, .cells #[.int .i64 u, .int .i64 v, .int .i64 p, .slice (some aq) q.length cq] 26] w 1 _ _ _ _ rfl)
  have HB0 := Aside0.mk (allocs_below [.cells #[.int .i64 W, .int .i64 H, .int .i64 p, .slice (some ad) l.length c] 26, .cells #[.int .i64 u, .int .i64 v, .int .i64 p, .slice (some aq) q.length cq] 26] w)
  have hu := Try.underlying26
  clear hr hc hrq hcq h hl hlq hW hH hp0 hp hu0 hu hv0 hv
  go_enter Try.func24, Try.ntmps24
  go_wp2_with (first
    | (refine wpList_load_img rfl _ rfl w.heap.size W H p _ rfl HI0.out ?_)
    | (refine wpList_load_img rfl _ rfl (w.heap.size + 1) u v p _ rfl HQ0.out ?_)
    | (go_at_call 62; refine (HS.out _ HB0.out).mono ?_; rintro e w1 ⟨rfl, hb⟩; have HI1 := Aside0.mk (HI0.out.below hb); have HQ1 := Aside0.mk (HQ0.out.below hb); have HB1 := Aside0.mk (below_step HB0.out hb); clear hb)
    | ((with_reducible refine gate_dst (N := 5) rfl ?_); refine box_event ?hg (N := 5) ?hd (cs := #[.int .i64 0]) (t := 3) ?hr ?_; (case hd => rfl); (case hg => rfl); (case hr => first | (go_simp; done) | (go_simp; rfl)); intro gb hg w2 hbox hb; have HK2 := Aside0.mk hbox; have HG := Aside0.mk (show w.heap.size ≤ gb by rw [hg]; exact below_size HB1.out); have HI2 := Aside0.mk (HI1.out.below hb); have HQ2 := Aside0.mk (HQ1.out.below hb); have HB2 := Aside0.mk (below_step HB1.out hb); have hcc2 := (blk_cell HK2.out 0).trans rfl; have hfz2 := blk_frozen HK2.out 0; clear hb hbox hg)
    | ((with_reducible refine gate_store (t := 3) (p := 5) rfl ?_); refine store_event (t := 3) (p := 5) (v := ?vo) (w1 := (w2.setCell ⟨gb, 0, none⟩ (.int .i64 0))) ?hg ?ho ?hn ?hr ?_; (case ho => rfl); (case hg => rfl); (case hn => rfl); (case hr => first | (go_simp; done) | (go_simp; rfl)); intro w3 hw3; have HK3 : Aside0 (w3.heap[gb]? = some (.cells #[.int .i64 0] 3 (0, 0))) := ⟨by rw [hw3]; exact blk_put HK2.out 0 _ rfl⟩; have hne1 := Aside0.mk (blk_ne HI2.out.out HK2.out (by decide)); have hne2 := Aside0.mk (blk_ne HQ2.out.out HK2.out (by decide)); have HI3 : Aside0 (IsImg w3 w.heap.size W H p (.slice (some ad) l.length c)) := ⟨by rw [hw3]; exact HI2.out.far (p := ⟨gb, 0, none⟩) hne1.out _⟩; have HQ3 : Aside0 (IsImg w3 (w.heap.size + 1) u v p (.slice (some aq) q.length cq)) := ⟨by rw [hw3]; exact HQ2.out.far (p := ⟨gb, 0, none⟩) hne2.out _⟩; have HB3 : Aside0 (Below w.heap.size w w3) := ⟨by rw [hw3]; exact below_set HB2.out HG.out⟩; clear hw3 hne1 hne2 HI2 HQ2 HB2 HK2 hcc2 hfz2)
    | (refine wpList_load_img rfl _ rfl w.heap.size W H p _ rfl HI3.out ?_)
    | (refine wpList_load_img rfl _ rfl (w.heap.size + 1) u v p _ rfl HQ3.out ?_)
    | (go_at_call 63; refine (HE.out gb _ HB3.out HG.out HK3.out).mono ?_; rintro e w4 ⟨rfl, hk4, hb⟩; have HB4 := Aside0.mk hb; have hcc4 := (blk_cell hk4 0).trans rfl; clear hb hk4))
  go_ret
  exact ⟨rfl, HB4.out⟩
theorem impl_CountImage.calls (a0_0 : Int) (a0_1 : Int) (a0_2 : Int) (A0_3 : Option Addr) (c0_3 : Nat) (l0_3 : List Int) (a1_0 : Int) (a1_1 : Int) (a1_2 : Int) (A1_3 : Option Addr) (c1_3 : Nat) (l1_3 : List Int) (r : Int) (w : World) (hr0_3 : Kd.C (Kd.int .i64) w A0_3 l0_3.length l0_3) (hc0_3 : l0_3.length ≤ c0_3) (hr1_3 : Kd.C (Kd.int .i64) w A1_3 l1_3.length l1_3) (hc1_3 : l1_3.length ≤ c1_3) (h : impl_CountImage.f a0_0 a0_1 a0_2 l0_3 a1_0 a1_1 a1_2 l1_3 = some r) :
    Calls Try.prog 24 #[.agg #[.int .i64 a0_0, .int .i64 a0_1, .int .i64 a0_2, .slice A0_3 l0_3.length c0_3], .agg #[.int .i64 a1_0, .int .i64 a1_1, .int .i64 a1_2, .slice A1_3 l1_3.length c1_3]] w fun e w' => e = .returned (.int .i64 r) ∧ Below w.heap.size w w' := by
  unfold impl_CountImage.f at h
  by_cases hk : SearchOk a0_0 a0_1 a0_2 l0_3 a1_0 a1_1 a1_2 l1_3
  · rw [if_pos hk] at h
    obtain rfl := Option.some.inj h
    have hk2 := hk
    obtain ⟨hi, hj, rfl, h1, h2⟩ := hk2
    obtain ⟨ad, rfl, _⟩ := hr0_3.2.2 (by have := hi.len.1; omega)
    obtain ⟨aq, rfl, _⟩ := hr1_3.2.2 (by have := hj.len.1; omega)
    obtain ⟨W, H, p, rfl, rfl, rfl, hl, b1, b2, b3, b4, b5, b6⟩ := hi.nats
    obtain ⟨u, v, p', rfl, rfl, hpp, hlq, d1, d2, d3, d4, d5, d6⟩ := hj.nats
    obtain rfl : p' = p := by omega
    exact impl_CountImage.yes W H p' u v ad aq c0_3 c1_3 l0_3 l1_3 w hr0_3 hc0_3 hr1_3 hc1_3 hk hl hlq b4 b5 b3 b6 d1 (by omega) d2 (by omega)
  · rw [if_neg hk] at h
    obtain rfl := Option.some.inj h
    exact impl_CountImage.no _ _ _ A0_3 c0_3 l0_3 _ _ _ A1_3 c1_3 l1_3 w hr0_3 hc0_3 hr1_3 hc1_3 hk

end Go.Proofs.Ytmaiifghplcjeaa.Print

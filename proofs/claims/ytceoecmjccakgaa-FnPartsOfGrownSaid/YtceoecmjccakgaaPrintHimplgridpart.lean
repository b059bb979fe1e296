-- laid by hp.py (a program of this work over the kit's print), with contracts by hand for what the print does not take
import Derived.Test.YtceoecmjccakgaaPrint0
import Derived.Test.YtceoecmjccakgaaPrintHx0
namespace Go.Proofs.Ytceoecmjccakgaa.Print
open Go.RowKit Go.Proofs.YtceoecmjccakgaaW.PrintWords Go.Proofs.YtceoecmjccakgaaW.PrintLast Go.Proofs.YtceoecmjccakgaaW.PrintMore
attribute [local go_sem] max2_int min2_int max_two min_two max_three min_three max_four min_four   -- for this text's walks alone
set_option linter.unusedVariables false
set_option linter.unusedSimpArgs false

--SNIP impl_grid_part
/-! ### The part of a region at a pixel -/
def kpt : Kd (Int × Int) := Kd.pair (Kd.int .i64) (Kd.int .i64)
/-- A pixel of a queue. -/
def ptN (q : Int × Int) : Nat := 16 * q.2.toNat + q.1.toNat
def PtsOk (out : Nat → Bool) (qs : List (Int × Int)) : Prop := ∀ q ∈ qs, 0 ≤ q.1 ∧ q.1 < 16 ∧ 0 ≤ q.2 ∧ q.2 < 16 ∧ out (ptN q) = true
/-- How far the search has come: what is out is of the part, what is out and not in the queue has no neighbour outside. -/
structure SpreadSt (f : Nat → Bool) (s : Nat) (out : Nat → Bool) (qs : List (Int × Int)) : Prop where
  seed : out s = true
  sub : ∀ p, p < 256 → out p = true → partF f s p = true
  pts : PtsOk out qs
  shut : ∀ p, p < 256 → out p = true → (∃ q ∈ qs, ptN q = p) ∨ ∀ r, r < 256 → nextTo p r → f r = true → out r = true
theorem SpreadSt.start (f : Nat → Bool) (x y : Nat) (hx : x < 16) (hy : y < 16) : SpreadSt f (16 * y + x) (fun j => if j = 16 * y + x then true else false) [((x : Int), (y : Int))] := by
  have e : ptN ((x : Int), (y : Int)) = 16 * y + x := by unfold ptN; simp
  refine ⟨by simp, fun p hp h => ?_, fun q hq => ?_, fun p hp h => ?_⟩
  · have : p = 16 * y + x := by simpa using h
    rw [this]; exact partF_self f _
  · rw [List.mem_singleton] at hq
    subst hq
    exact ⟨by simp, by simp; omega, by simp, by simp; omega, by rw [e]; simp⟩
  · have : p = 16 * y + x := by simpa using h
    exact .inl ⟨_, List.mem_singleton.2 rfl, by rw [e, this]⟩
/-- The end: the queue is empty. -/
theorem SpreadSt.done {f : Nat → Bool} {s : Nat} {out : Nat → Bool} (h : SpreadSt f s out []) (p : Nat) (hp : p < 256) : out p = partF f s p :=
  partF_of f out s h.seed h.sub (fun a b ha hb h1 h2 h3 => by
    rcases h.shut a ha h1 with ⟨q, hq, _⟩ | h4
    · cases hq
    · exact h4 b hb h2 h3) p hp
/-- While pixel p is looked at: the first n of its neighbours are done. -/
structure LookSt (f : Nat → Bool) (s : Nat) (out : Nat → Bool) (qs : List (Int × Int)) (p : Nat) (nb : List Nat) : Prop where
  seed : out s = true
  sub : ∀ p, p < 256 → out p = true → partF f s p = true
  pts : PtsOk out qs
  own : out p = true
  shut : ∀ a, a < 256 → out a = true → (∃ q ∈ qs, ptN q = a) ∨ a = p ∨ ∀ r, r < 256 → nextTo a r → f r = true → out r = true
  dones : ∀ r, r < 256 → nextTo p r → f r = true → r ∈ nb → out r = true
theorem SpreadSt.look {f : Nat → Bool} {s : Nat} {out : Nat → Bool} {q : Int × Int} {qs : List (Int × Int)} (h : SpreadSt f s out (q :: qs)) : LookSt f s out qs (ptN q) [] :=
  ⟨h.seed, h.sub, fun z hz => h.pts z (List.mem_cons_of_mem _ hz), (h.pts q List.mem_cons_self).2.2.2.2, fun a ha h1 => by
    rcases h.shut a ha h1 with ⟨z, hz, e⟩ | h4
    · rcases List.mem_cons.1 hz with rfl | hz
      · exact .inr (.inl e.symm)
      · exact .inl ⟨z, hz, e⟩
    · exact .inr (.inr h4), fun r _ _ _ hr => by cases hr⟩
theorem LookSt.end_ {f : Nat → Bool} {s : Nat} {out : Nat → Bool} {qs : List (Int × Int)} {p : Nat} {nb : List Nat} (h : LookSt f s out qs p nb) (hall : ∀ r, r < 256 → nextTo p r → r ∈ nb) : SpreadSt f s out qs :=
  ⟨h.seed, h.sub, h.pts, fun a ha h1 => by
    rcases h.shut a ha h1 with h2 | rfl | h2
    · exact .inl h2
    · exact .inr (fun r hr hn hf => h.dones r hr hn hf (hall r hr hn))
    · exact .inr h2⟩
/-- A neighbour that is not on the grid, not in the region or out already. -/
theorem LookSt.skip {f : Nat → Bool} {s : Nat} {out : Nat → Bool} {qs : List (Int × Int)} {p : Nat} {nb : List Nat} (h : LookSt f s out qs p nb) (r : Nat) (hr : f r = true → out r = true) : LookSt f s out qs p (r :: nb) :=
  ⟨h.seed, h.sub, h.pts, h.own, h.shut, fun a ha hn hf hm => by
    rcases List.mem_cons.1 hm with rfl | hm
    · exact hr hf
    · exact h.dones a ha hn hf hm⟩
/-- A neighbour that comes out. -/
theorem LookSt.add {f : Nat → Bool} {s : Nat} {out : Nat → Bool} {qs : List (Int × Int)} {p : Nat} {nb : List Nat} (hs : s < 256) (hp : p < 256) (h : LookSt f s out qs p nb) (u v : Nat) (hu : u < 16) (hv : v < 16) (hn : nextTo p (16 * v + u)) (hf : f (16 * v + u) = true) : LookSt f s (fun j => if j = 16 * v + u then true else out j) (qs ++ [((u : Int), (v : Int))]) p ((16 * v + u) :: nb) := by
  have e : ptN ((u : Int), (v : Int)) = 16 * v + u := by unfold ptN; simp
  have up : ∀ j, out j = true → (if j = 16 * v + u then true else out j) = true := fun j hj => by split; rfl; exact hj
  refine ⟨up _ h.seed, fun a ha h1 => ?_, fun z hz => ?_, up _ h.own, fun a ha h1 => ?_, fun a ha hna hfa hm => ?_⟩
  · by_cases e2 : a = 16 * v + u
    · rw [e2]
      exact partF_closed f s hs p (16 * v + u) hp (by omega) (h.sub p hp h.own) hn hf
    · simp only [e2, if_false] at h1
      exact h.sub a ha h1
  · rcases List.mem_append.1 hz with hz | hz
    · have := h.pts z hz
      exact ⟨this.1, this.2.1, this.2.2.1, this.2.2.2.1, up _ this.2.2.2.2⟩
    · rw [List.mem_singleton] at hz
      subst hz
      exact ⟨by simp, by simp; omega, by simp, by simp; omega, by rw [e]; simp⟩
  · by_cases e2 : a = 16 * v + u
    · exact .inl ⟨_, List.mem_append.2 (.inr (List.mem_singleton.2 rfl)), by rw [e, e2]⟩
    · simp only [e2, if_false] at h1
      rcases h.shut a ha h1 with ⟨z, hz, ez⟩ | h2 | h2
      · exact .inl ⟨z, List.mem_append.2 (.inl hz), ez⟩
      · exact .inr (.inl h2)
      · exact .inr (.inr (fun r hr hnr hfr => up r (h2 r hr hnr hfr)))
  · rcases List.mem_cons.1 hm with rfl | hm
    · simp
    · exact up a (h.dones a ha hna hfa hm)
theorem kpt_mkM (w : World) (base : Nat) (ok : Nat → Prop) (x y : Int) : kpt.M w base ok (x, y) [.int .i64 x, .int .i64 y] := ⟨[.int .i64 x], [.int .i64 y], rfl, rfl, rfl⟩
theorem at_pt {w : World} {A : Option Addr} {n : Nat} {x : Int × Int} {xs : List (Int × Int)} (h : Kd.C kpt w A n (x :: xs)) (h1 : 0 < n) : ∃ ad, A = some ad ∧ w.cell? ad = some (.int .i64 x.1) ∧ w.cell? ⟨ad.block, ad.off + 1, none⟩ = some (.int .i64 x.2) := by
  obtain ⟨ad, c, e, _, hK, hc⟩ := Kd.C_get h (0, 0) 0 (by omega) (by omega)
  obtain ⟨c0, c1, rfl, rfl, rfl⟩ := hK
  have h0 := hc 0 _ rfl
  have h2 := hc 1 _ rfl
  refine ⟨ad, e, ?_, ?_⟩
  · simpa [Addr.add] using h0
  · simpa [Addr.add] using h2
/-- The neighbours of a pixel, in the order of the program. -/
def nbP (X Y : Nat) (k : Nat) : Int × Int := if k = 0 then ((X : Int) - 1, (Y : Int)) else if k = 1 then ((X : Int) + 1, (Y : Int)) else if k = 2 then ((X : Int), (Y : Int) - 1) else ((X : Int), (Y : Int) + 1)
theorem nbP_index (X Y k : Nat) (hk : k < 4) : ∀ W : World, (Instr.index 68 (.agg #[.int .i64 ((X : Int) - 1), .int .i64 Y, .int .i64 ((X : Int) + 1), .int .i64 Y, .int .i64 X, .int .i64 ((Y : Int) - 1), .int .i64 X, .int .i64 ((Y : Int) + 1)]) (.int .i64 (k : Int))).run Try.prog W = .ok (.agg #[.int .i64 (nbP X Y k).1, .int .i64 (nbP X Y k).2]) W := by
  intro W
  have h := nb_index (.int .i64 ((X : Int) - 1)) (.int .i64 Y) (.int .i64 ((X : Int) + 1)) (.int .i64 Y) (.int .i64 X) (.int .i64 ((Y : Int) - 1)) (.int .i64 X) (.int .i64 ((Y : Int) + 1)) W
  match k, hk with
  | 0, _ => exact h.1
  | 1, _ => exact h.2.1
  | 2, _ => exact h.2.2.1
  | 3, _ => exact h.2.2.2
theorem nbP_all (X Y : Nat) (hX : X < 16) (hY : Y < 16) (nb : List Nat) (h : ∀ j, j < 4 → 0 ≤ (nbP X Y j).1 → (nbP X Y j).1 < 16 → 0 ≤ (nbP X Y j).2 → (nbP X Y j).2 < 16 → 16 * (nbP X Y j).2.toNat + (nbP X Y j).1.toNat ∈ nb) (r : Nat) (hr : r < 256) (hn : nextTo (ptN ((X : Int), (Y : Int))) r) : r ∈ nb := by
  have e : ptN ((X : Int), (Y : Int)) = 16 * Y + X := by unfold ptN; simp
  rw [e] at hn
  have key : ∀ j, j < 4 → ∀ u v : Nat, nbP X Y j = ((u : Int), (v : Int)) → u < 16 → v < 16 → r = 16 * v + u → r ∈ nb := fun j hj u v e1 hu hv e2 => by
    have h1 := h j hj
    rw [e1] at h1
    have h2 := h1 (by simp) (by simp; omega) (by simp) (by simp; omega)
    simp only [Int.toNat_natCast] at h2
    rw [e2]
    exact h2
  unfold nextTo at hn
  by_cases h1 : r / 16 = Y
  · by_cases h2 : r % 16 = X + 1
    · exact key 1 (by omega) (X + 1) Y (by unfold nbP; simp) (by omega) hY (by omega)
    · exact key 0 (by omega) (X - 1) Y (by unfold nbP; simp; omega) (by omega) hY (by omega)
  · by_cases h2 : r / 16 = Y + 1
    · exact key 3 (by omega) X (Y + 1) (by unfold nbP; simp) hX (by omega) (by omega)
    · exact key 2 (by omega) X (Y - 1) (by unfold nbP; simp; omega) hX (by omega) (by omega)
theorem nbP_next (X Y : Nat) (hX : X < 16) (hY : Y < 16) (k U V : Nat) (h : nbP X Y k = ((U : Int), (V : Int))) (hU : U < 16) (hV : V < 16) : nextTo (ptN ((X : Int), (Y : Int))) (16 * V + U) := by
  have e : ptN ((X : Int), (Y : Int)) = 16 * Y + X := by unfold ptN; simp
  rw [e]
  unfold nbP at h
  unfold nextTo
  split at h
  · simp only [Prod.mk.injEq] at h; omega
  · split at h
    · simp only [Prod.mk.injEq] at h; omega
    · split at h
      · simp only [Prod.mk.injEq] at h; omega
      · simp only [Prod.mk.injEq] at h; omega
theorem pt_rows : Try.prog.underlying 70 = some (.slice 67) := by kernel_rfl
theorem pt_info : (Try.prog.info? 67).map (fun i => (i.zero, i.size, i.bytes)) = some (some (.agg #[.int .i64 0, .int .i64 0]), 2, 16) := by kernel_rfl
theorem pt_under : Try.prog.underlying 67 = some (.array 2 3) := by kernel_rfl
section
variable {ops : Array Oper} {o : Oper} {a : Act} {w : World}
theorem exec_load_gridP (x : Operand) (ho : o.op = .load 50 x) (g : Nat) (f : Nat → Bool) (hx : a.eval x = .pointer (some ⟨g, 0, none⟩)) (hg : IsGrid w g f) :
    (execOp a.eval o).run Try.prog w = .ok (.value (.agg (gcells f))) w := by
  unfold execOp
  simp only [ho, hx, Instr.loadAt, Instr.sureAddr, Sem.run_bind, Sem.run_pure, Result.andThen_ok, run_loadVar_row w g _ 50 _ _ _ hg.out Try.underlying50 rfl (by rw [gcells_size]; exact grid_size)]
end
def cntW (W : World) (b : Nat) : Nat := match W.heap[b]? with
  | some (.cells cs _ _) => cntB (fun i => match cs[i]? with | some (.bool true) => true | _ => false) 256
  | _ => 0
theorem cntW_grid {W : World} {b : Nat} {f : Nat → Bool} (h : IsGrid W b f) : cntW W b = cntB f 256 := by
  unfold cntW
  rw [h.out]
  refine cntB_congr 256 (fun i hi => ?_)
  rw [gcells_get f i hi]
  cases f i <;> rfl
def vlen (v : Value) : Nat := match v with
  | .slice _ n _ => n
  | _ => 0
set_option maxHeartbeats 8000000 in
set_option maxRecDepth 100000 in
theorem impl_grid_part.any (f : Nat → Bool) (x y : Nat) (hx : x < 16) (hy : y < 16) (w : World) :
    Calls Try.prog 44 #[.agg (gcells f), .int .i64 x, .int .i64 y] w fun e w' => e = .returned (.agg (gcells (partF f (16 * y + x)))) ∧ Below w.heap.size w w' := by
  have hi1 := run_index_grid (w.heap.size + 1 + 1) y hy
  have hi2 := run_index_line (w.heap.size + 1 + 1) (y * 16) x hx
  obtain ⟨w3, hw3⟩ : ∃ w3, w3 = (((w.alloc (.cells (gcells f) 50)).alloc (.cells (gcells fun _ => false) 50)).alloc (.cells (gcells fun _ => false) 50)) := ⟨_, rfl⟩
  have HG3 : Aside0 (IsGrid w3 w.heap.size f) := ⟨by rw [hw3]; exact ((IsGrid.new w f).alloc _).alloc _⟩
  have HZ3 : Aside0 (IsGrid w3 (w.heap.size + 1) (fun _ => false)) := ⟨by
    have h := (IsGrid.new (w.alloc (.cells (gcells f) 50)) (fun _ => false)).alloc (.cells (gcells fun _ => false) 50)
    rw [gsize_alloc, ← hw3] at h
    exact h⟩
  have HO3 : Aside0 (IsGrid w3 (w.heap.size + 1 + 1) (fun _ => false)) := ⟨by
    have h := IsGrid.new ((w.alloc (.cells (gcells f) 50)).alloc (.cells (gcells fun _ => false) 50)) (fun _ => false)
    rw [gsize_alloc, gsize_alloc, ← hw3] at h
    exact h⟩
  have HB3 : Aside0 (Below w.heap.size w w3) := ⟨by rw [hw3]; exact below_alloc (below_alloc (below_alloc (Below.refl w.heap.size w) _) _) _⟩
  have hc3 : w3.cell? ⟨w.heap.size + 1 + 1, y * 16 + x, none⟩ = some (.bool false) := HO3.out.cell (y * 16 + x) (by omega)
  have hf3 := HO3.out.frozen (y * 16 + x)
  have HW3 := Aside0.mk hw3
  clear hw3
  go_enter Try.func44, Try.ntmps44
  go_wp2_with (first
    | (refine wpList_box_grid rfl _ rfl f rfl ?_; (try simp only [gsize_alloc]))
    | (refine wpList_alloc_grid rfl rfl ?_; (try simp only [gsize_alloc]))
    | (refine wpList_build_grid rfl rfl ?_)
    | (rw [← HW3.out]; refine wpList_store_grid_same rfl _ _ rfl (w.heap.size + 1 + 1) (fun _ => false) rfl rfl HO3.out ?_)
    | ((with_reducible refine gate_dst (N := 20) rfl ?_); obtain ⟨w4, hw4⟩ : ∃ w4, w4 = w3.setCell ⟨w.heap.size + 1 + 1, y * 16 + x, none⟩ (.bool true) := ⟨_, rfl⟩; rw [← hw4]; have HW4 := Aside0.mk hw4; clear hw4; have HB4 : Aside0 (Below w.heap.size w w4) := ⟨by rw [HW4.out]; exact below_set HB3.out (by omega)⟩; refine Kd.R_lit kpt (w0 := w) w.heap.size 67 ?hg (N := 20) ?hd (xs := [((x : Int), (y : Int))]) (inner := [.int .i64 x, .int .i64 y]) (ok := fun _ => True) (okp := fun _ => False) ?hr ?hp (fun _ hk => hk.elim) trivial HB4.out (below_size HB4.out) (by simp) ?_; (case hd => rfl); (case hg => rfl); (case hr => first | (go_simp; done) | (go_simp; rfl)); (case hp => exact Reps.snoc (Reps.none _ _) (kpt_mkM _ _ _ _ _) rfl); intro v5 w5 ho hb hg_ hnew_))
  have HG5 : Aside0 (IsGrid w5 w.heap.size f) := ⟨by
    have h4 : IsGrid w4 w.heap.size f := by rw [HW4.out]; exact HG3.out.other _ _ (by simp; omega)
    exact ⟨(hg_.block _ h4.lt (by simp)).trans h4.out⟩⟩
  have HZ5 : Aside0 (IsGrid w5 (w.heap.size + 1) (fun _ => false)) := ⟨by
    have h4 : IsGrid w4 (w.heap.size + 1) (fun _ => false) := by rw [HW4.out]; exact HZ3.out.other _ _ (by simp)
    exact ⟨(hg_.block _ h4.lt (by simp)).trans h4.out⟩⟩
  have HO5 : Aside0 (IsGrid w5 (w.heap.size + 1 + 1) (fun j => if j = 16 * y + x then true else false)) := ⟨by
    have h4 : IsGrid w4 (w.heap.size + 1 + 1) (fun j => if j = 16 * y + x then true else false) := by
      rw [HW4.out, show 16 * y + x = y * 16 + x by omega]
      exact HO3.out.set _ _
    exact ⟨(hg_.block _ h4.lt (by simp)).trans h4.out⟩⟩
  have HQ5 := Aside0.mk (Kd.Q_of_R ho)
  have HB5 := Aside0.mk hb
  clear HG3 HZ3 HO3 HB3 HB4 HW3 HW4 hc3 hf3 hi1 hi2 ho hb hg_ hnew_
  go_loopw [8] (fun v wr => ∃ (out : Nat → Bool) (qs : List (Int × Int)), Aside0 (SpreadSt f (16 * y + x) out qs) ∧ Aside0 (IsGrid wr w.heap.size f) ∧ Aside0 (IsGrid wr (w.heap.size + 1) (fun _ => false)) ∧ Aside0 (IsGrid wr (w.heap.size + 1 + 1) out) ∧ Aside0 (Kd.Q kpt 67 wr w.heap.size (fun _ => True) v qs) ∧ Aside0 (qs.length + (256 - cntB out 256) ≤ 256) ∧ Aside0 (Below w.heap.size w wr)) (fun v W => vlen v + (256 - cntW W (w.heap.size + 1 + 1)))
  case atStart => exact ⟨_, _, ⟨SpreadSt.start f x y hx hy⟩, HG5, HZ5, HO5, HQ5, ⟨by
    have h := cntB_one (f := fun _ => false) (16 * y + x) rfl 256
    rw [if_pos (by omega)] at h
    simp only [List.length_singleton]
    rw [h]
    omega⟩, HB5⟩
  case round =>
    clear HG5 HZ5 HO5 HQ5 HB5
    obtain ⟨out, qs, HS, HG, HZ, HO, HQ, HT, HB⟩ := hrel
    obtain ⟨wo, rfl⟩ : ∃ wo : World, wo = wr := ⟨_, rfl⟩
    obtain ⟨A, c, ev, hcap⟩ := Kd.Q_slice HQ.out
    subst ev
    cases qs with
    | nil =>
      have HE := Aside0.mk (HO.out.congr (fun p hp => HS.out.done p hp))
      clear HS HO
      go_wp2_with (first
        | (refine wpList_load_grid rfl _ rfl (w.heap.size + 1 + 1) _ rfl HE.out ?_)
        | (refine wpList_store_grid rfl _ _ rfl (w.heap.size + 1) _ _ rfl rfl HZ.out ?_))
      refine bodyPost_ret (results_cell_row rfl _ _ (w.heap.size + 1) _ _ _ _ rfl (HZ.out.setRow _).out Try.underlying50 rfl (by rw [gcells_size]; exact grid_size)) rfl ⟨rfl, ?_⟩
      exact below_setRow HB.out _ _ (Nat.le_succ _)
    | cons q qs =>
      obtain ⟨qx, qy⟩ := q
      obtain ⟨h0, h1, h2, h3, h4⟩ := HS.out.pts _ List.mem_cons_self
      obtain ⟨X, rfl⟩ := Int.eq_ofNat_of_zero_le h0
      obtain ⟨Y, rfl⟩ := Int.eq_ofNat_of_zero_le h2
      have hX : X < 16 := by simp only [] at h1; omega
      have hY : Y < 16 := by simp only [] at h3; omega
      have hlen : ((X : Int), (Y : Int)) :: qs ≠ [] := by simp
      obtain ⟨_, _, hC⟩ := Kd.Q_reads' HQ.out
      obtain ⟨ad, ea, hx0, hx1⟩ := at_pt hC (by simp)
      subst ea
      clear h0 h1 h2 h3 h4 hC hcap hlen
      have HLK := Aside0.mk HS.out.look
      have hup := pt_under
      have HD := Kd.Q_drop (k := 1) HQ.out (by simp)
      simp only [List.drop_succ_cons, List.drop_zero, List.length_cons, Nat.add_sub_cancel, Option.map_some, show 1 * kpt.sz = 2 from rfl, show ad.add 2 = ⟨ad.block, ad.off + 2, none⟩ from rfl] at HD
      obtain ⟨A2, hA2⟩ : ∃ A2, (if c = 1 then some ad else some ⟨ad.block, ad.off + 2, none⟩) = A2 := ⟨_, rfl⟩
      rw [hA2] at HD
      have HQ2 := Aside0.mk HD
      clear HD
      clear HS
      have HNB := Aside0.mk (impl_neighbours.any X Y hX hY)
      go_wp2_with (first | (go_at_call 49; refine (HNB.out _).mono ?_; rintro e w6 ⟨rfl, hb⟩; have hb6 := below_step (below_alloc (Below.refl wo.heap.size wo) _) hb; have HG6 := Aside0.mk (HG.out.below hb6 HG.out.lt); have HZ6 := Aside0.mk (HZ.out.below hb6 HZ.out.lt); have HO6 := Aside0.mk (HO.out.below hb6 HO.out.lt); have HQ6 := Aside0.mk (Kd.Q_below HQ2.out hb6); have HB6 := Aside0.mk (below_step HB.out hb6); clear hb hb6))
      clear HNB hx0 hx1 hA2
      have HC0 := Aside0.mk (cntW_grid HO.out)
      go_loopw [8, 34] (fun v i wr => ∃ (k : Nat) (out' : Nat → Bool) (qs' : List (Int × Int)) (nb : List Nat), k ≤ 4 ∧ i = .int .i64 k ∧ Aside0 (LookSt f (16 * y + x) out' qs' (ptN ((X : Int), (Y : Int))) nb) ∧ Aside0 (∀ j, j < k → 0 ≤ (nbP X Y j).1 → (nbP X Y j).1 < 16 → 0 ≤ (nbP X Y j).2 → (nbP X Y j).2 < 16 → 16 * (nbP X Y j).2.toNat + (nbP X Y j).1.toNat ∈ nb) ∧ Aside0 (qs'.length + (256 - cntB out' 256) = qs.length + (256 - cntB out 256)) ∧ Aside0 (IsGrid wr w.heap.size f) ∧ Aside0 (IsGrid wr (w.heap.size + 1) (fun _ => false)) ∧ Aside0 (IsGrid wr (w.heap.size + 1 + 1) out') ∧ Aside0 (Kd.Q kpt 67 wr w.heap.size (fun _ => True) v qs') ∧ Aside0 (Below w.heap.size w wr)) (fun _ i _ => 4 - (intOf i).toNat)
      case atStart => exact ⟨0, out, qs, [], by omega, rfl, HLK, ⟨fun j hj => absurd hj (by omega)⟩, ⟨rfl⟩, HG6, HZ6, HO6, HQ6, HB6⟩
      case round =>
        clear HG6 HZ6 HO6 HQ6 HB6 HLK HQ2 HG HZ HO HQ HB
        obtain ⟨k, out', qs', nb, hk, rfl, HL, HN, HM, HG, HZ, HO, HQ, HB⟩ := hrel
        obtain ⟨wi, rfl⟩ : ∃ wi : World, wi = wr := ⟨_, rfl⟩
        by_cases hlt : k < 4
        · have hdk : decide ((k : Int) < 4) = true := decide_eq_true (by omega)
          have hdk2 : decide (k < 4) = true := decide_eq_true hlt
          have hix := nbP_index X Y k hlt
          obtain ⟨u, v, huv⟩ : ∃ u v, nbP X Y k = (u, v) := ⟨_, _, rfl⟩
          have HUV := Aside0.mk huv
          rw [huv] at hix
          simp only [] at hix
          clear huv
          have HG7 : ∀ o, IsGrid (wi.alloc o) w.heap.size f := fun o => HG.out.alloc o
          go_wp2_with fail
          obtain ⟨w7, hw7⟩ : ∃ w7, w7 = (wi.alloc (.cells #[.int .i64 u, .int .i64 v] 67)).drew := ⟨_, rfl⟩
          replace HG7 : Aside0 (IsGrid w7 w.heap.size f) := ⟨by rw [hw7]; exact (HG.out.alloc _).drew⟩
          have HZ7 : Aside0 (IsGrid w7 (w.heap.size + 1) (fun _ => false)) := ⟨by rw [hw7]; exact (HZ.out.alloc _).drew⟩
          have HO7 : Aside0 (IsGrid w7 (w.heap.size + 1 + 1) out') := ⟨by rw [hw7]; exact (HO.out.alloc _).drew⟩
          have HK7 : Aside0 (w7.heap[wi.heap.size]? = some (.cells #[.int .i64 u, .int .i64 v] 67 (0, 0))) := ⟨by rw [hw7]; exact heap_alloc_new wi _⟩
          have hb7 : Below wi.heap.size wi w7 := by rw [hw7]; exact below_drew (below_alloc (Below.refl _ _) _)
          have HQ7 := Aside0.mk (Kd.Q_below HQ.out hb7)
          have HB7 := Aside0.mk (below_step HB.out hb7)
          have HSZ := Aside0.mk (HO.out.lt)
          clear hb7 HG HZ HO HQ HB
          have hdrew : w7 = (wi.alloc (.cells #[.int .i64 u, .int .i64 v] 67)).drew := hw7
          clear hw7
          cases hh : hasF f u v with
          | false =>
            have HHAS := Aside0.mk (fun W => show Calls Try.prog 36 #[.agg (gcells f), .int .i64 u, .int .i64 v] W fun e w' => e = .returned (.bool false) ∧ Below W.heap.size W w' from by have h := impl_grid_has.any f u v W; rw [hh] at h; exact h)
            have HH := Aside0.mk hh
            clear hh
            refine start_ (n := 16) (S := fun w' => IsGrid w' w.heap.size f ∧ w'.cell? ⟨wi.heap.size, 0, none⟩ = some (.int .i64 u) ∧ w'.cell? ⟨wi.heap.size, 1, none⟩ = some (.int .i64 v)) (ds := []) #[false, false, false, false, false, false, false, false, false, false, false, false, false, false, false, false] (by kernel_rfl) rfl rfl (by rw [← hdrew]; exact ⟨HG7.out, (blk_cell HK7.out 0).trans rfl, (blk_cell HK7.out 1).trans rfl⟩) (fun hHeld => ?_)
            rw [← hdrew] at hHeld ⊢
            clear hdrew
            refine take_ (i := 0) (N := some 37) (v := .agg (gcells f)) (a' := ?_) #[true, false, false, false, false, false, false, false, false, false, false, false, false, false, false, false] rfl rfl (by kernel_rfl) (fun _ _ _ h => h) (Or.inl ⟨by rfl, fun w' hw' => exec_load_gridP _ rfl w.heap.size _ rfl hw'.1⟩) hHeld ?_ ?_
            rotate_left
            · simp only [Act.put, List.setIfInBounds_toArray, List.set_cons_zero, List.set_cons_succ]
              rfl
            refine pure_ (i := 1) (N := some 38) (v := ?_) (a' := ?_) #[true, true, false, false, false, false, false, false, false, false, false, false, false, false, false, false] rfl rfl (by kernel_rfl) (fun _ _ _ h => h) (Or.inl ⟨by rfl, ?_⟩) ?_ ?_
            rotate_left
            · intro w'
              go_simp
              with_reducible rfl
            rotate_left
            · simp only [Act.put, List.setIfInBounds_toArray, List.set_cons_zero, List.set_cons_succ]
              rfl
            refine take_ (i := 2) (N := some 39) (v := ?_) (a' := ?_) #[true, true, true, false, false, false, false, false, false, false, false, false, false, false, false, false] rfl rfl (by kernel_rfl) (fun _ _ _ h => h) (Or.inl ⟨by rfl, ?_⟩) hHeld ?_ ?_
            rotate_left
            · rintro w' ⟨s0, s1, s2⟩
              go_simp
              with_reducible rfl
            rotate_left
            · simp only [Act.put, List.setIfInBounds_toArray, List.set_cons_zero, List.set_cons_succ]
              rfl
            refine pure_ (i := 3) (N := some 40) (v := ?_) (a' := ?_) #[true, true, true, true, false, false, false, false, false, false, false, false, false, false, false, false] rfl rfl (by kernel_rfl) (fun _ _ _ h => h) (Or.inl ⟨by rfl, ?_⟩) ?_ ?_
            rotate_left
            · intro w'
              go_simp
              with_reducible rfl
            rotate_left
            · simp only [Act.put, List.setIfInBounds_toArray, List.set_cons_zero, List.set_cons_succ]
              rfl
            refine take_ (i := 4) (N := some 41) (v := ?_) (a' := ?_) #[true, true, true, true, true, false, false, false, false, false, false, false, false, false, false, false] rfl rfl (by kernel_rfl) (fun _ _ _ h => h) (Or.inl ⟨by rfl, ?_⟩) hHeld ?_ ?_
            rotate_left
            · rintro w' ⟨s0, s1, s2⟩
              go_simp
              with_reducible rfl
            rotate_left
            · simp only [Act.put, List.setIfInBounds_toArray, List.set_cons_zero, List.set_cons_succ]
              rfl
            refine one_ (i := 5) (N := some 42) #[true, true, true, true, true, true, false, false, false, false, false, false, false, false, false, false] rfl rfl (by kernel_rfl) (by decide) (fun K1 hK1 => ?_)
            refine goes_ Try.func36 (by kernel_rfl) rfl #[.agg (gcells f), .int .i64 u, .int .i64 v] (by rfl) rfl rfl (by simp only [List.map_toArray, List.map_cons, List.map_nil]; rfl) ?_
            refine (HHAS.out _).mono ?_
            rintro e w9 ⟨rfl, hb⟩
            refine ⟨_, rfl, ?_⟩
            have HG9 := Aside0.mk (HG7.out.below hb HG7.out.lt)
            have HZ9 := Aside0.mk (HZ7.out.below hb HZ7.out.lt)
            have HO9 := Aside0.mk (HO7.out.below hb HO7.out.lt)
            have HK9 := Aside0.mk (blk_below HK7.out hb)
            have HQ9 := Aside0.mk (Kd.Q_below HQ7.out hb)
            have HB9 := Aside0.mk (below_step HB7.out hb)
            clear hb hHeld HG7 HZ7 HO7 HK7 HQ7 HB7
            refine hK1.out _ _ ⟨HG9.out, (blk_cell HK9.out 0).trans rfl, (blk_cell HK9.out 1).trans rfl⟩ (fun hHeld => ?_)
            clear hK1 K1
            refine norm_ (a' := ?_) ?_ ?_
            rotate_left
            · show Act.put _ (some 42) _ = _
              simp only [Act.put, List.setIfInBounds_toArray, List.set_cons_zero, List.set_cons_succ]
              rfl
            refine pure_ (i := 6) (N := some 43) (v := ?_) (a' := ?_) #[true, true, true, true, true, true, true, false, false, false, false, false, false, false, false, false] rfl rfl (by kernel_rfl) (fun _ _ _ h => h) (Or.inl ⟨by rfl, ?_⟩) ?_ ?_
            rotate_left
            · intro w'
              go_simp
              with_reducible rfl
            rotate_left
            · simp only [Act.put, List.setIfInBounds_toArray, List.set_cons_zero, List.set_cons_succ]
              rfl
            refine pure_ (i := 7) (N := some 44) (v := undef) (a' := ?_) #[true, true, true, true, true, true, true, true, false, false, false, false, false, false, false, false] rfl rfl (by kernel_rfl) (fun _ _ _ h => h) (Or.inr ⟨by rfl, rfl⟩) ?_ ?_
            rotate_left
            · simp only [Act.put, List.setIfInBounds_toArray, List.set_cons_zero, List.set_cons_succ]
              rfl
            refine pure_ (i := 8) (N := some 45) (v := undef) (a' := ?_) #[true, true, true, true, true, true, true, true, true, false, false, false, false, false, false, false] rfl rfl (by kernel_rfl) (fun _ _ _ h => h) (Or.inr ⟨by rfl, rfl⟩) ?_ ?_
            rotate_left
            · simp only [Act.put, List.setIfInBounds_toArray, List.set_cons_zero, List.set_cons_succ]
              rfl
            refine pure_ (i := 9) (N := some 46) (v := undef) (a' := ?_) #[true, true, true, true, true, true, true, true, true, true, false, false, false, false, false, false] rfl rfl (by kernel_rfl) (fun _ _ _ h => h) (Or.inr ⟨by rfl, rfl⟩) ?_ ?_
            rotate_left
            · simp only [Act.put, List.setIfInBounds_toArray, List.set_cons_zero, List.set_cons_succ]
              rfl
            refine pure_ (i := 10) (N := some 47) (v := undef) (a' := ?_) #[true, true, true, true, true, true, true, true, true, true, true, false, false, false, false, false] rfl rfl (by kernel_rfl) (fun _ _ _ h => h) (Or.inr ⟨by rfl, rfl⟩) ?_ ?_
            rotate_left
            · simp only [Act.put, List.setIfInBounds_toArray, List.set_cons_zero, List.set_cons_succ]
              rfl
            refine pure_ (i := 11) (N := some 48) (v := undef) (a' := ?_) #[true, true, true, true, true, true, true, true, true, true, true, true, false, false, false, false] rfl rfl (by kernel_rfl) (fun _ _ _ h => h) (Or.inr ⟨by rfl, rfl⟩) ?_ ?_
            rotate_left
            · simp only [Act.put, List.setIfInBounds_toArray, List.set_cons_zero, List.set_cons_succ]
              rfl
            refine pure_ (i := 12) (N := some 49) (v := undef) (a' := ?_) #[true, true, true, true, true, true, true, true, true, true, true, true, true, false, false, false] rfl rfl (by kernel_rfl) (fun _ _ _ h => h) (Or.inr ⟨by rfl, rfl⟩) ?_ ?_
            rotate_left
            · simp only [Act.put, List.setIfInBounds_toArray, List.set_cons_zero, List.set_cons_succ]
              rfl
            refine pure_ (i := 13) (N := some 50) (v := undef) (a' := ?_) #[true, true, true, true, true, true, true, true, true, true, true, true, true, true, false, false] rfl rfl (by kernel_rfl) (fun _ _ _ h => h) (Or.inr ⟨by rfl, rfl⟩) ?_ ?_
            rotate_left
            · simp only [Act.put, List.setIfInBounds_toArray, List.set_cons_zero, List.set_cons_succ]
              rfl
            refine pure_ (i := 14) (N := some 51) (v := undef) (a' := ?_) #[true, true, true, true, true, true, true, true, true, true, true, true, true, true, true, false] rfl rfl (by kernel_rfl) (fun _ _ _ h => h) (Or.inr ⟨by rfl, rfl⟩) ?_ ?_
            rotate_left
            · simp only [Act.put, List.setIfInBounds_toArray, List.set_cons_zero, List.set_cons_succ]
              rfl
            refine pure_ (i := 15) (N := some 52) (v := ?_) (a' := ?_) #[true, true, true, true, true, true, true, true, true, true, true, true, true, true, true, true] rfl rfl (by kernel_rfl) (fun _ _ _ h => h) (Or.inl ⟨by rfl, ?_⟩) ?_ ?_
            rotate_left
            · intro w'
              go_simp
              with_reducible rfl
            rotate_left
            · simp only [Act.put, List.setIfInBounds_toArray, List.set_cons_zero, List.set_cons_succ]
              rfl
            refine done_ (by kernel_rfl) ?_
            clear hHeld
            go_wp2
            go_roundw
            case rel =>
              by_cases hin : 0 ≤ u ∧ u < 16 ∧ 0 ≤ v ∧ v < 16
              · refine ⟨k + 1, out', qs', (16 * v.toNat + u.toNat) :: nb, by omega, by go_num, ⟨HL.out.skip _ (fun hf => ?_)⟩, ⟨fun j hj a1 a2 a3 a4 => ?_⟩, HM, HG9, HZ9, HO9, HQ9, HB9⟩
                · have h := HH.out
                  unfold hasF at h
                  rw [decide_eq_true hin.1, decide_eq_true hin.2.1, decide_eq_true hin.2.2.1, decide_eq_true hin.2.2.2, hf] at h
                  exact absurd h (by simp)
                · by_cases ej : j = k
                  · subst ej
                    rw [HUV.out]
                    exact List.mem_cons_self
                  · exact List.mem_cons_of_mem _ (HN.out j (by omega) a1 a2 a3 a4)
              · refine ⟨k + 1, out', qs', nb, by omega, by go_num, HL, ⟨fun j hj a1 a2 a3 a4 => ?_⟩, HM, HG9, HZ9, HO9, HQ9, HB9⟩
                by_cases ej : j = k
                · subst ej
                  rw [HUV.out] at a1 a2 a3 a4
                  exact absurd ⟨a1, a2, a3, a4⟩ hin
                · exact HN.out j (by omega) a1 a2 a3 a4
            case measure => simp [intOf]; omega
          | true =>
            have hin : 0 ≤ u ∧ u < 16 ∧ 0 ≤ v ∧ v < 16 := by
              unfold hasF at hh
              simp only [Bool.and_eq_true, decide_eq_true_eq] at hh
              omega
            obtain ⟨U, rfl⟩ := Int.eq_ofNat_of_zero_le hin.1
            obtain ⟨V, rfl⟩ := Int.eq_ofNat_of_zero_le hin.2.2.1
            have hU : U < 16 := by omega
            have hV : V < 16 := by omega
            have hfv : f (16 * V + U) = true := by rw [← hasF_in f U V hU hV]; exact hh
            have HHAS := Aside0.mk (fun W => show Calls Try.prog 36 #[.agg (gcells f), .int .i64 (U : Int), .int .i64 (V : Int)] W fun e w' => e = .returned (.bool true) ∧ Below W.heap.size W w' from by have h := impl_grid_has.any f U V W; rw [hh] at h; exact h)
            have HFV := Aside0.mk hfv
            clear hh hin hfv
            have hj1 := run_index_grid (w.heap.size + 1 + 1) V hV
            have hj2 := run_index_line (w.heap.size + 1 + 1) (V * 16) U hU
            obtain ⟨bo, hbo⟩ : ∃ bo, out' (16 * V + U) = bo := ⟨_, rfl⟩
            have HOC : Aside0 (∀ W, IsGrid W (w.heap.size + 1 + 1) out' → W.cell? ⟨w.heap.size + 1 + 1, V * 16 + U, none⟩ = some (.bool bo)) := ⟨fun W h => by rw [h.cell (V * 16 + U) (by omega), show V * 16 + U = 16 * V + U by omega, hbo]⟩
            have HBO := Aside0.mk hbo
            clear hbo
            refine start_ (n := 16) (S := fun w' => IsGrid w' w.heap.size f ∧ w'.cell? ⟨wi.heap.size, 0, none⟩ = some (.int .i64 (U : Int)) ∧ w'.cell? ⟨wi.heap.size, 1, none⟩ = some (.int .i64 (V : Int)) ∧ w'.cell? ⟨w.heap.size + 1 + 1, V * 16 + U, none⟩ = some (.bool bo)) (ds := []) #[false, false, false, false, false, false, false, false, false, false, false, false, false, false, false, false] (by kernel_rfl) rfl rfl (by rw [← hdrew]; exact ⟨HG7.out, (blk_cell HK7.out 0).trans rfl, (blk_cell HK7.out 1).trans rfl, HOC.out _ HO7.out⟩) (fun hHeld => ?_)
            rw [← hdrew] at hHeld ⊢
            clear hdrew
            refine take_ (i := 0) (N := some 37) (v := .agg (gcells f)) (a' := ?_) #[true, false, false, false, false, false, false, false, false, false, false, false, false, false, false, false] rfl rfl (by kernel_rfl) (fun _ _ _ h => h) (Or.inl ⟨by rfl, fun w' hw' => exec_load_gridP _ rfl w.heap.size _ rfl hw'.1⟩) hHeld ?_ ?_
            rotate_left
            · simp only [Act.put, List.setIfInBounds_toArray, List.set_cons_zero, List.set_cons_succ]
              rfl
            refine pure_ (i := 1) (N := some 38) (v := ?_) (a' := ?_) #[true, true, false, false, false, false, false, false, false, false, false, false, false, false, false, false] rfl rfl (by kernel_rfl) (fun _ _ _ h => h) (Or.inl ⟨by rfl, ?_⟩) ?_ ?_
            rotate_left
            · intro w'
              go_simp
              with_reducible rfl
            rotate_left
            · simp only [Act.put, List.setIfInBounds_toArray, List.set_cons_zero, List.set_cons_succ]
              rfl
            refine take_ (i := 2) (N := some 39) (v := ?_) (a' := ?_) #[true, true, true, false, false, false, false, false, false, false, false, false, false, false, false, false] rfl rfl (by kernel_rfl) (fun _ _ _ h => h) (Or.inl ⟨by rfl, ?_⟩) hHeld ?_ ?_
            rotate_left
            · rintro w' ⟨s0, s1, s2, s3⟩
              go_simp
              with_reducible rfl
            rotate_left
            · simp only [Act.put, List.setIfInBounds_toArray, List.set_cons_zero, List.set_cons_succ]
              rfl
            refine pure_ (i := 3) (N := some 40) (v := ?_) (a' := ?_) #[true, true, true, true, false, false, false, false, false, false, false, false, false, false, false, false] rfl rfl (by kernel_rfl) (fun _ _ _ h => h) (Or.inl ⟨by rfl, ?_⟩) ?_ ?_
            rotate_left
            · intro w'
              go_simp
              with_reducible rfl
            rotate_left
            · simp only [Act.put, List.setIfInBounds_toArray, List.set_cons_zero, List.set_cons_succ]
              rfl
            refine take_ (i := 4) (N := some 41) (v := ?_) (a' := ?_) #[true, true, true, true, true, false, false, false, false, false, false, false, false, false, false, false] rfl rfl (by kernel_rfl) (fun _ _ _ h => h) (Or.inl ⟨by rfl, ?_⟩) hHeld ?_ ?_
            rotate_left
            · rintro w' ⟨s0, s1, s2, s3⟩
              go_simp
              with_reducible rfl
            rotate_left
            · simp only [Act.put, List.setIfInBounds_toArray, List.set_cons_zero, List.set_cons_succ]
              rfl
            refine one_ (i := 5) (N := some 42) #[true, true, true, true, true, true, false, false, false, false, false, false, false, false, false, false] rfl rfl (by kernel_rfl) (by decide) (fun K1 hK1 => ?_)
            refine goes_ Try.func36 (by kernel_rfl) rfl #[.agg (gcells f), .int .i64 (U : Int), .int .i64 (V : Int)] (by rfl) rfl rfl (by simp only [List.map_toArray, List.map_cons, List.map_nil]; rfl) ?_
            refine (HHAS.out _).mono ?_
            rintro e w9 ⟨rfl, hb⟩
            refine ⟨_, rfl, ?_⟩
            have HG9 := Aside0.mk (HG7.out.below hb HG7.out.lt)
            have HZ9 := Aside0.mk (HZ7.out.below hb HZ7.out.lt)
            have HO9 := Aside0.mk (HO7.out.below hb HO7.out.lt)
            have HK9 := Aside0.mk (blk_below HK7.out hb)
            have HQ9 := Aside0.mk (Kd.Q_below HQ7.out hb)
            have HB9 := Aside0.mk (below_step HB7.out hb)
            clear hb hHeld HG7 HZ7 HO7 HK7 HQ7 HB7
            refine hK1.out _ _ ⟨HG9.out, (blk_cell HK9.out 0).trans rfl, (blk_cell HK9.out 1).trans rfl, HOC.out _ HO9.out⟩ (fun hHeld => ?_)
            clear hK1 K1
            refine norm_ (a' := ?_) ?_ ?_
            rotate_left
            · show Act.put _ (some 42) _ = _
              simp only [Act.put, List.setIfInBounds_toArray, List.set_cons_zero, List.set_cons_succ]
              rfl
            refine pure_ (i := 6) (N := some 43) (v := ?_) (a' := ?_) #[true, true, true, true, true, true, true, false, false, false, false, false, false, false, false, false] rfl rfl (by kernel_rfl) (fun _ _ _ h => h) (Or.inl ⟨by rfl, ?_⟩) ?_ ?_
            rotate_left
            · intro w'
              go_simp
              with_reducible rfl
            rotate_left
            · simp only [Act.put, List.setIfInBounds_toArray, List.set_cons_zero, List.set_cons_succ]
              rfl
            refine pure_ (i := 7) (N := some 44) (v := ?_) (a' := ?_) #[true, true, true, true, true, true, true, true, false, false, false, false, false, false, false, false] rfl rfl (by kernel_rfl) (fun _ _ _ h => h) (Or.inl ⟨by rfl, ?_⟩) ?_ ?_
            rotate_left
            · intro w'
              go_simp
              with_reducible rfl
            rotate_left
            · simp only [Act.put, List.setIfInBounds_toArray, List.set_cons_zero, List.set_cons_succ]
              rfl
            refine take_ (i := 8) (N := some 45) (v := ?_) (a' := ?_) #[true, true, true, true, true, true, true, true, true, false, false, false, false, false, false, false] rfl rfl (by kernel_rfl) (fun _ _ _ h => h) (Or.inl ⟨by rfl, ?_⟩) hHeld ?_ ?_
            rotate_left
            · rintro w' ⟨s0, s1, s2, s3⟩
              go_simp
              with_reducible rfl
            rotate_left
            · simp only [Act.put, List.setIfInBounds_toArray, List.set_cons_zero, List.set_cons_succ]
              rfl
            refine pure_ (i := 9) (N := some 46) (v := ?_) (a' := ?_) #[true, true, true, true, true, true, true, true, true, true, false, false, false, false, false, false] rfl rfl (by kernel_rfl) (fun _ _ _ h => h) (Or.inl ⟨by rfl, ?_⟩) ?_ ?_
            rotate_left
            · intro w'
              go_simp
              with_reducible rfl
            rotate_left
            · simp only [Act.put, List.setIfInBounds_toArray, List.set_cons_zero, List.set_cons_succ]
              rfl
            refine take_ (i := 10) (N := some 47) (v := ?_) (a' := ?_) #[true, true, true, true, true, true, true, true, true, true, true, false, false, false, false, false] rfl rfl (by kernel_rfl) (fun _ _ _ h => h) (Or.inl ⟨by rfl, ?_⟩) hHeld ?_ ?_
            rotate_left
            · rintro w' ⟨s0, s1, s2, s3⟩
              go_simp
              with_reducible rfl
            rotate_left
            · simp only [Act.put, List.setIfInBounds_toArray, List.set_cons_zero, List.set_cons_succ]
              rfl
            refine pure_ (i := 11) (N := some 48) (v := ?_) (a' := ?_) #[true, true, true, true, true, true, true, true, true, true, true, true, false, false, false, false] rfl rfl (by kernel_rfl) (fun _ _ _ h => h) (Or.inl ⟨by rfl, ?_⟩) ?_ ?_
            rotate_left
            · intro w'
              go_simp
              with_reducible rfl
            rotate_left
            · simp only [Act.put, List.setIfInBounds_toArray, List.set_cons_zero, List.set_cons_succ]
              rfl
            refine pure_ (i := 12) (N := some 49) (v := ?_) (a' := ?_) #[true, true, true, true, true, true, true, true, true, true, true, true, true, false, false, false] rfl rfl (by kernel_rfl) (fun _ _ _ h => h) (Or.inl ⟨by rfl, ?_⟩) ?_ ?_
            rotate_left
            · intro w'
              go_simp
              with_reducible rfl
            rotate_left
            · simp only [Act.put, List.setIfInBounds_toArray, List.set_cons_zero, List.set_cons_succ]
              rfl
            refine take_ (i := 13) (N := some 50) (v := ?_) (a' := ?_) #[true, true, true, true, true, true, true, true, true, true, true, true, true, true, false, false] rfl rfl (by kernel_rfl) (fun _ _ _ h => h) (Or.inl ⟨by rfl, ?_⟩) hHeld ?_ ?_
            rotate_left
            · rintro w' ⟨s0, s1, s2, s3⟩
              go_simp
              with_reducible rfl
            rotate_left
            · simp only [Act.put, List.setIfInBounds_toArray, List.set_cons_zero, List.set_cons_succ]
              rfl
            refine pure_ (i := 14) (N := some 51) (v := ?_) (a' := ?_) #[true, true, true, true, true, true, true, true, true, true, true, true, true, true, true, false] rfl rfl (by kernel_rfl) (fun _ _ _ h => h) (Or.inl ⟨by rfl, ?_⟩) ?_ ?_
            rotate_left
            · intro w'
              go_simp
              with_reducible rfl
            rotate_left
            · simp only [Act.put, List.setIfInBounds_toArray, List.set_cons_zero, List.set_cons_succ]
              rfl
            refine pure_ (i := 15) (N := some 52) (v := ?_) (a' := ?_) #[true, true, true, true, true, true, true, true, true, true, true, true, true, true, true, true] rfl rfl (by kernel_rfl) (fun _ _ _ h => h) (Or.inl ⟨by rfl, ?_⟩) ?_ ?_
            rotate_left
            · intro w'
              go_simp
              with_reducible rfl
            rotate_left
            · simp only [Act.put, List.setIfInBounds_toArray, List.set_cons_zero, List.set_cons_succ]
              rfl
            refine done_ (by kernel_rfl) ?_
            clear hHeld
            cases bo with
            | true =>
              go_wp2
              go_roundw
              case rel =>
                refine ⟨k + 1, out', qs', (16 * V + U) :: nb, by omega, by go_num, ⟨HL.out.skip _ (fun _ => HBO.out)⟩, ⟨fun j hj a1 a2 a3 a4 => ?_⟩, HM, HG9, HZ9, HO9, HQ9, HB9⟩
                by_cases ej : j = k
                · subst ej
                  rw [HUV.out]
                  exact List.mem_cons_self
                · exact List.mem_cons_of_mem _ (HN.out j (by omega) a1 a2 a3 a4)
              case measure => simp [intOf]; omega
            | false =>
              have hk0 := (blk_cell HK9.out 0).trans rfl
              have hk1 := (blk_cell HK9.out 1).trans rfl
              have hoc := HOC.out _ HO9.out
              have hof := HO9.out.frozen (V * 16 + U)
              go_wp2_with fail
              go_region
              all_goals
                obtain ⟨w10, hw10⟩ : ∃ w10, w10 = (w9.setCell ⟨w.heap.size + 1 + 1, V * 16 + U, none⟩ (.bool true)).drew := ⟨_, rfl⟩
                rw [← hw10]
                have HG10 : Aside0 (IsGrid w10 w.heap.size f) := ⟨by rw [hw10]; exact (HG9.out.other _ _ (by simp; omega)).drew⟩
                have HZ10 : Aside0 (IsGrid w10 (w.heap.size + 1) (fun _ => false)) := ⟨by rw [hw10]; exact (HZ9.out.other _ _ (by simp)).drew⟩
                have HO10 : Aside0 (IsGrid w10 (w.heap.size + 1 + 1) (fun j => if j = 16 * V + U then true else out' j)) := ⟨by rw [hw10, show 16 * V + U = V * 16 + U by omega]; exact (HO9.out.set _ _).drew⟩
                have HK10 : Aside0 (w10.heap[wi.heap.size]? = some (.cells #[.int .i64 (U : Int), .int .i64 (V : Int)] 67 (0, 0))) := ⟨by rw [hw10]; exact blk_drew (blk_far HK9.out (by have := HSZ.out; simp; omega) _)⟩
                have HQ10 : Aside0 (Kd.Q kpt 67 w10 w.heap.size (fun _ => True) u8 qs') := ⟨by rw [hw10]; exact Kd.Q_drew (Kd.Q_set HQ9.out HO9.out.out (by decide) _ _)⟩
                have HB10 : Aside0 (Below w.heap.size w w10) := ⟨by rw [hw10]; exact below_drew (below_set HB9.out (by omega))⟩
                clear hw10 hk0 hk1 hoc hof HG9 HZ9 HO9 HK9 HQ9 HB9 HOC
                have hk0 := (blk_cell HK10.out 0).trans rfl
                have hk1 := (blk_cell HK10.out 1).trans rfl
                have hup := pt_under
                have hLN : qs'.length ≤ 256 := by have h1 := HM.out; have h2 := HT.out; simp only [List.length_cons] at h2; omega
                have HLN := Aside0.mk hLN
                clear hLN
                go_wp2_with (first
                  | ((with_reducible refine gate_builtin (b := .append) (xs := #[.tmp 59, .tmp 61]) rfl ?_); at_builtin; refine Kd.Q_append kpt (w0 := w) w.heap.size rfl (.tmp 59) (.tmp 61) 70 67 (.agg #[.int .i64 0, .int .i64 0]) 16 rfl pt_rows pt_info rfl (by decide) (by omega) u8 qs' ((U : Int), (V : Int)) [.int .i64 (U : Int), .int .i64 (V : Int)] (fun _ => True) (fun _ => False) rfl rfl ?aP (fun _ h => h.elim) (fun _ _ => trivial) HQ10.out HB10.out (below_size HB10.out) ?aL ?_; (case aP => exact kpt_mkM _ _ _ _ _); (case aL => have := HLN.out; omega); intro v11 w11 ho hb hg hat; have HG11 : Aside0 (IsGrid w11 w.heap.size f) := ⟨⟨(hg.block _ HG10.out.lt (Kd.Q_ne HQ10.out HG10.out.out (by decide))).trans HG10.out.out⟩⟩; have HZ11 : Aside0 (IsGrid w11 (w.heap.size + 1) (fun _ => false)) := ⟨⟨(hg.block _ HZ10.out.lt (Kd.Q_ne HQ10.out HZ10.out.out (by decide))).trans HZ10.out.out⟩⟩; have HO11 : Aside0 (IsGrid w11 (w.heap.size + 1 + 1) (fun j => if j = 16 * V + U then true else out' j)) := ⟨⟨(hg.block _ HO10.out.lt (Kd.Q_ne HQ10.out HO10.out.out (by decide))).trans HO10.out.out⟩⟩; have HQ11 := Aside0.mk ho; have HB11 := Aside0.mk hb; clear ho hb hg hat))
                go_roundw
                case rel =>
                  have hc1 := cntB_one (f := out') (16 * V + U) HBO.out 256
                  rw [if_pos (by omega)] at hc1
                  have hc2 := cntB_le (fun j => if j = 16 * V + U then true else out' j) 256
                  have hm := HM.out
                  refine ⟨k + 1, _, qs' ++ [((U : Int), (V : Int))], (16 * V + U) :: nb, by omega, by go_num, ⟨LookSt.add (by omega) (by unfold ptN; simp; omega) HL.out U V hU hV (nbP_next X Y hX hY k U V HUV.out hU hV) HFV.out⟩, ⟨fun j hj a1 a2 a3 a4 => ?_⟩, ⟨by rw [List.length_append, List.length_singleton]; omega⟩, HG11, HZ11, HO11, HQ11, HB11⟩
                  by_cases ej : j = k
                  · subst ej
                    rw [HUV.out]
                    exact List.mem_cons_self
                  · exact List.mem_cons_of_mem _ (HN.out j (by omega) a1 a2 a3 a4)
                case measure => simp [intOf]; omega
        · obtain rfl : k = 4 := by omega
          have HS := Aside0.mk (HL.out.end_ (nbP_all X Y hX hY nb HN.out))
          have HM2 := HM.out
          have HC1 := cntW_grid HO.out
          go_wp2
          go_roundw
          case rel => exact ⟨out', qs', HS, HG, HZ, HO, HQ, ⟨by have h := HT.out; simp only [List.length_cons] at h; omega⟩, HB⟩
          case measure =>
            obtain ⟨A3, c3, ev, -⟩ := Kd.Q_slice HQ.out
            subst ev
            simp only [vlen, HC1, HC0.out, List.length_cons]
            omega

end Go.Proofs.Ytceoecmjccakgaa.Print

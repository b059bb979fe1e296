-- laid by hp.py (a program of this work over the kit's print), with contracts by hand for what the print does not take
import Derived.Test.YtllodpaghkohbaaPrint0
import Derived.Test.YtllodpaghkohbaaPrintHimplgridedge
import Derived.Test.YtllodpaghkohbaaPrintHx0
namespace Go.Proofs.Ytllodpaghkohbaa.Print
open Go.RowKit Go.Proofs.YtllodpaghkohbaaW.PrintWords Go.Proofs.YtllodpaghkohbaaW.PrintLast Go.Proofs.YtllodpaghkohbaaW.PrintMore
attribute [local go_sem] max2_int min2_int max_two min_two max_three min_three max_four min_four   -- for this text's walks alone
set_option linter.unusedVariables false
set_option linter.unusedSimpArgs false

--SNIP impl_grid_shrunk
/-- A grid without its edge. -/
def shrunkF (f : Nat → Bool) (p : Nat) : Bool := f p && !edgeF f p
def shrinkN (f : Nat → Bool) : Nat → Nat → Bool
  | 0 => f
  | n + 1 => shrunkF (shrinkN f n)
set_option maxHeartbeats 8000000 in
set_option maxRecDepth 100000 in
theorem impl_grid_shrunk_1.any (f g : Nat → Bool) (x y : Nat) (hx : x < 16) (hy : y < 16) (b c : Nat) (w : World) (hf : IsGrid w b f) (hg : IsGrid w c g) :
    Calls Try.prog 69 #[.int .i64 x, .int .i64 y, .pointer (some ⟨b, 0, none⟩), .pointer (some ⟨c, 0, none⟩)] w fun e w' => e = .returned (.bool (f (16 * y + x) && !g (16 * y + x))) ∧ Below w.heap.size w w' := by
  have hi1 := run_index_grid b y hy
  have hi2 := run_index_line b (y * 16) x hx
  have hi3 := run_index_grid c y hy
  have hi4 := run_index_line c (y * 16) x hx
  have hc := hf.cell (y * 16 + x) (by omega)
  have hd := hg.cell (y * 16 + x) (by omega)
  rw [show 16 * y + x = y * 16 + x by omega]
  clear hf hg
  cases e : f (y * 16 + x) with
  | false =>
    rw [e] at hc
    clear e
    go_enter Try.func69, Try.ntmps69
    go_wp2
    go_ret
    exact ⟨rfl, Below.refl _ _⟩
  | true =>
    rw [e] at hc
    clear e
    cases e : g (y * 16 + x) with
    | false =>
      rw [e] at hd
      clear e
      go_enter Try.func69, Try.ntmps69
      go_wp2
      go_ret
      exact ⟨rfl, Below.refl _ _⟩
    | true =>
      rw [e] at hd
      clear e
      go_enter Try.func69, Try.ntmps69
      go_wp2
      go_ret
      exact ⟨rfl, Below.refl _ _⟩
section
variable {ops : Array Oper} {o : Oper} {a : Act} {w : World} {Q : Exit → Act → World → Prop} {K : Act → World → Prop} {N : Option Tmp}
theorem exec_load_grid (x : Operand) (ho : o.op = .load 55 x) (g : Nat) (f : Nat → Bool) (hx : a.eval x = .pointer (some ⟨g, 0, none⟩)) (hg : IsGrid w g f) :
    (execOp a.eval o).run Try.prog w = .ok (.value (.agg (gcells f))) w := by
  unfold execOp
  simp only [ho, hx, Instr.loadAt, Instr.sureAddr, Sem.run_bind, Sem.run_pure, Result.andThen_ok, run_loadVar_row w g _ 55 _ _ _ hg.out Try.underlying55 rfl (by rw [gcells_size]; exact grid_size)]
theorem reg_alloc_grid (hw : Region.wanted o (yielded ops a.tmps) = true) (hN : o.dst = N) (ho : o.op = .alloc 55)
    (h : ∀ (b : Nat) (W : World), (∀ c g, IsGrid w c g → IsGrid W c g ∧ c ≠ b) → w.heap.size ≤ b → IsGrid W b (fun _ => false) → Below w.heap.size w W → K (a.put N (.pointer (some ⟨b, 0, none⟩))) W) : if Region.wanted o (yielded ops a.tmps) = true then Oper.wp Try.prog o a w K Q else K (a.put N undef) w := by
  subst hN
  rw [if_pos hw]
  unfold Oper.wp execOp
  simp only [ho, Instr.alloc, Sem.run_bind, run_zero_grid, Result.andThen_ok]
  exact h w.heap.size (w.alloc (.cells (gcells fun _ => false) 55)) (fun c g hg => ⟨hg.alloc _, Nat.ne_of_lt hg.lt⟩) (Nat.le_refl _) (IsGrid.new w _) (below_alloc (Below.refl _ _) _)
theorem reg_store_grid (hw : Region.wanted o (yielded ops a.tmps) = true) (hN : o.dst = N) (x y : Operand) (ho : o.op = .store 55 x y) (g : Nat) (f old : Nat → Bool) (hx : a.eval x = .pointer (some ⟨g, 0, none⟩)) (hy : a.eval y = .agg (gcells f)) (hg : IsGrid w g old)
    (h : ∀ W : World, (∀ c k, IsGrid w c k → c ≠ g → IsGrid W c k) → IsGrid W g f → (∀ B w0, B ≤ g → Below B w0 w → Below B w0 W) → K (a.put N undef) W) : if Region.wanted o (yielded ops a.tmps) = true then Oper.wp Try.prog o a w K Q else K (a.put N undef) w := by
  subst hN
  rw [if_pos hw]
  exact wp_store_row 55 x y ho g (gcells f) hx hy _ _ hg.out (by rw [gcells_size]; exact grid_size) (by rw [gcells_size, gcells_size]) (gcells_one f) (h (w.setRow g (gcells f)) (fun c k hk hne => hk.otherRow _ _ hne) (hg.setRow f) (fun B w0 hB hb => below_setRow hb g (gcells f) hB))
end
set_option maxHeartbeats 8000000 in
set_option maxRecDepth 100000 in
theorem impl_grid_shrunk.any (f : Nat → Bool) (n : Nat) (hn : n ≤ 16) (w : World) :
    Calls Try.prog 58 #[.agg (gcells f), .int .i64 n] w fun e w' => e = .returned (.agg (gcells (shrinkN f n))) ∧ Below w.heap.size w w' := by
  have HCL : Aside0 (∀ (g : Nat → Bool) (b0 b1 : Nat) (W : World), IsGrid W b0 g → IsGrid W b1 (edgeF g) → Calls Try.prog 45 #[.func (.func 69) #[] #[.pointer (some ⟨b0, 0, none⟩), .pointer (some ⟨b1, 0, none⟩)]] W fun e w' => e = .returned (.agg (gcells (shrunkF g))) ∧ Below W.heap.size W w') :=
    ⟨fun g b0 b1 W g0 g1 => impl_gridBy.at_ 69 _ _ (shrunkF g) Try.func69 (by kernel_rfl) rfl W (fun x y w' hx hy hb => impl_grid_shrunk_1.any g (edgeF g) x y hx hy _ _ w' (g0.below hb g0.lt) (g1.below hb g1.lt))⟩
  have hO := @IsGrid.otherRow
  clear hO
  go_enter Try.func58, Try.ntmps58
  go_wp2_with (first | (refine wpList_box_grid rfl _ rfl f rfl ?_; (try simp only [gsize_alloc])) | (refine wpList_alloc_grid rfl rfl ?_; (try simp only [gsize_alloc])))
  go_loopw [8] (fun i wr => ∃ k : Nat, k ≤ n ∧ i = .int .i64 k ∧ IsGrid wr w.heap.size (shrinkN f k) ∧ IsGrid wr (w.heap.size + 1) (fun _ => false) ∧ Aside0 (Below w.heap.size w wr)) (fun i _ => n - (intOf i).toNat)
  case atStart => exact ⟨0, by omega, rfl, ⟨heap_alloc2_old w _ _⟩, ⟨heap_alloc2_new w _ _⟩, ⟨below_alloc (below_alloc (Below.refl w.heap.size w) _) _⟩⟩
  case round =>
    obtain ⟨k, hk, rfl, HG, HZ, HB⟩ := hrel
    by_cases hlt : k < n
    · have hdk : decide ((k : Int) < (n : Int)) = true := decide_eq_true (by omega)
      have HS := Aside0.mk (St.mk (l := []) HB.out HG HZ (fun p hp => by simp at hp) (by simp))
      clear HG HZ HB
      go_wp2_with fail
      refine start_ (n := 7) (S := fun w' => IsGrid w' w.heap.size (shrinkN f k)) (ds := []) #[false, false, false, false, false, false, false] (by kernel_rfl) rfl rfl (HS.out.drew.g) (fun hHeld => ?_)
      replace HS := Aside0.mk HS.out.drew
      generalize wr.drew = w0 at HS hHeld ⊢
      refine take_ (i := 0) (N := some 10) (v := .agg (gcells (shrinkN f k))) (a' := ?_) #[true, false, false, false, false, false, false] rfl rfl (by kernel_rfl) (fun _ _ _ h => h) (Or.inl ⟨by rfl, fun w' hw' => exec_load_grid _ rfl w.heap.size _ rfl hw'⟩) hHeld ?_ ?_
      rotate_left
      · simp only [Act.put, List.setIfInBounds_toArray, List.set_cons_zero, List.set_cons_succ]
        rfl
      refine take_ (i := 1) (N := some 11) (v := .agg (gcells (shrinkN f k))) (a' := ?_) #[true, true, false, false, false, false, false] rfl rfl (by kernel_rfl) (fun _ _ _ h => h) (Or.inl ⟨by rfl, fun w' hw' => exec_load_grid _ rfl w.heap.size _ rfl hw'⟩) hHeld ?_ ?_
      rotate_left
      · simp only [Act.put, List.setIfInBounds_toArray, List.set_cons_zero, List.set_cons_succ]
        rfl
      refine join_ (σ := Nat × Nat) 2 #[true, true, true, true, true, false, false] (fun s => [(12, .agg (gcells (edgeF (shrinkN f k)))), (5, .pointer (some ⟨s.1, 0, none⟩)), (6, .pointer (some ⟨s.2, 0, none⟩))]) (fun s W => St w W (shrinkN f k) (fun _ => false) [(s.2, fun _ => false), (s.1, fun _ => false)]) ?_ (fun hcont => ?_)
      rotate_left
      · refine three_ (i := 2) (j := 3) (k := 4) (Ni := some 12) (Nj := some 5) (Nk := some 6) #[true, true, true, false, false, false, false] #[true, true, false, true, false, false, false] #[true, true, false, false, true, false, false] rfl rfl rfl rfl rfl rfl (by kernel_rfl) (by decide) (by decide) (by decide) (fun K1 hK1 => ?_) (fun K1 hK1 => ?_) (fun K1 hK1 => ?_)
        · refine goes_ Try.func56 (by kernel_rfl) rfl #[.agg (gcells (shrinkN f k))] (by rfl) rfl rfl (by simp only [List.map_toArray, List.map_cons, List.map_nil]; rfl) ?_
          refine (impl_grid_edge.any _ _).mono ?_
          rintro e W ⟨rfl, hb⟩
          refine ⟨_, rfl, ?_⟩
          replace HS := Aside0.mk (HS.out.call hb)
          clear hb
          refine hK1.out _ _ HS.out.g (fun hHeld => ?_)
          clear hK1
          refine norm_ (a' := ?_) ?_ ?_
          rotate_left
          · show Act.put _ (some 12) _ = _
            simp only [Act.put, List.setIfInBounds_toArray, List.set_cons_zero, List.set_cons_succ]
            rfl
          refine two_ (i := 3) (j := 4) (Ni := some 5) (Nj := some 6) #[true, true, true, true, false, false, false] #[true, true, true, false, true, false, false] rfl rfl rfl rfl (by kernel_rfl) (by decide) (by decide) (fun K2 hK2 => ?_) (fun K2 hK2 => ?_)
          · refine reg_alloc_grid (by rfl) rfl rfl ?_
            intro b5 W hc hbs hz hb
            replace HS := Aside0.mk (HS.out.alloc hc hbs hz hb)
            clear hc hbs hz hb
            refine hK2.out _ _ HS.out.g (fun hHeld => ?_)
            clear hK2
            refine norm_ (a' := ?_) ?_ ?_
            rotate_left
            · show Act.put _ (some 5) _ = _
              simp only [Act.put, List.setIfInBounds_toArray, List.set_cons_zero, List.set_cons_succ]
              rfl
            refine one_ (i := 4) (N := some 6) #[true, true, true, true, true, false, false] rfl rfl (by kernel_rfl) (by decide) (fun K3 hK3 => ?_)
            refine reg_alloc_grid (by rfl) rfl rfl ?_
            intro b6 W hc hbs hz hb
            replace HS := Aside0.mk (HS.out.alloc hc hbs hz hb)
            clear hc hbs hz hb
            refine hK3.out _ _ HS.out.g (fun hHeld => ?_)
            clear hK3
            refine norm_ (Eq.symm ?_) (hcont (b5, b6) _ HS.out)
            simp only [putAll, Act.put, List.setIfInBounds_toArray, List.set_cons_zero, List.set_cons_succ]
          · refine reg_alloc_grid (by rfl) rfl rfl ?_
            intro b6 W hc hbs hz hb
            replace HS := Aside0.mk (HS.out.alloc hc hbs hz hb)
            clear hc hbs hz hb
            refine hK2.out _ _ HS.out.g (fun hHeld => ?_)
            clear hK2
            refine norm_ (a' := ?_) ?_ ?_
            rotate_left
            · show Act.put _ (some 6) _ = _
              simp only [Act.put, List.setIfInBounds_toArray, List.set_cons_zero, List.set_cons_succ]
              rfl
            refine one_ (i := 3) (N := some 5) #[true, true, true, true, true, false, false] rfl rfl (by kernel_rfl) (by decide) (fun K3 hK3 => ?_)
            refine reg_alloc_grid (by rfl) rfl rfl ?_
            intro b5 W hc hbs hz hb
            replace HS := Aside0.mk (HS.out.alloc hc hbs hz hb)
            clear hc hbs hz hb
            refine hK3.out _ _ HS.out.g (fun hHeld => ?_)
            clear hK3
            refine norm_ (Eq.symm ?_) (hcont (b5, b6) _ HS.out.swap)
            simp only [putAll, Act.put, List.setIfInBounds_toArray, List.set_cons_zero, List.set_cons_succ]
        · refine reg_alloc_grid (by rfl) rfl rfl ?_
          intro b5 W hc hbs hz hb
          replace HS := Aside0.mk (HS.out.alloc hc hbs hz hb)
          clear hc hbs hz hb
          refine hK1.out _ _ HS.out.g (fun hHeld => ?_)
          clear hK1
          refine norm_ (a' := ?_) ?_ ?_
          rotate_left
          · show Act.put _ (some 5) _ = _
            simp only [Act.put, List.setIfInBounds_toArray, List.set_cons_zero, List.set_cons_succ]
            rfl
          refine two_ (i := 2) (j := 4) (Ni := some 12) (Nj := some 6) #[true, true, true, true, false, false, false] #[true, true, false, true, true, false, false] rfl rfl rfl rfl (by kernel_rfl) (by decide) (by decide) (fun K2 hK2 => ?_) (fun K2 hK2 => ?_)
          · refine goes_ Try.func56 (by kernel_rfl) rfl #[.agg (gcells (shrinkN f k))] (by rfl) rfl rfl (by simp only [List.map_toArray, List.map_cons, List.map_nil]; rfl) ?_
            refine (impl_grid_edge.any _ _).mono ?_
            rintro e W ⟨rfl, hb⟩
            refine ⟨_, rfl, ?_⟩
            replace HS := Aside0.mk (HS.out.call hb)
            clear hb
            refine hK2.out _ _ HS.out.g (fun hHeld => ?_)
            clear hK2
            refine norm_ (a' := ?_) ?_ ?_
            rotate_left
            · show Act.put _ (some 12) _ = _
              simp only [Act.put, List.setIfInBounds_toArray, List.set_cons_zero, List.set_cons_succ]
              rfl
            refine one_ (i := 4) (N := some 6) #[true, true, true, true, true, false, false] rfl rfl (by kernel_rfl) (by decide) (fun K3 hK3 => ?_)
            refine reg_alloc_grid (by rfl) rfl rfl ?_
            intro b6 W hc hbs hz hb
            replace HS := Aside0.mk (HS.out.alloc hc hbs hz hb)
            clear hc hbs hz hb
            refine hK3.out _ _ HS.out.g (fun hHeld => ?_)
            clear hK3
            refine norm_ (Eq.symm ?_) (hcont (b5, b6) _ HS.out)
            simp only [putAll, Act.put, List.setIfInBounds_toArray, List.set_cons_zero, List.set_cons_succ]
          · refine reg_alloc_grid (by rfl) rfl rfl ?_
            intro b6 W hc hbs hz hb
            replace HS := Aside0.mk (HS.out.alloc hc hbs hz hb)
            clear hc hbs hz hb
            refine hK2.out _ _ HS.out.g (fun hHeld => ?_)
            clear hK2
            refine norm_ (a' := ?_) ?_ ?_
            rotate_left
            · show Act.put _ (some 6) _ = _
              simp only [Act.put, List.setIfInBounds_toArray, List.set_cons_zero, List.set_cons_succ]
              rfl
            refine one_ (i := 2) (N := some 12) #[true, true, true, true, true, false, false] rfl rfl (by kernel_rfl) (by decide) (fun K3 hK3 => ?_)
            refine goes_ Try.func56 (by kernel_rfl) rfl #[.agg (gcells (shrinkN f k))] (by rfl) rfl rfl (by simp only [List.map_toArray, List.map_cons, List.map_nil]; rfl) ?_
            refine (impl_grid_edge.any _ _).mono ?_
            rintro e W ⟨rfl, hb⟩
            refine ⟨_, rfl, ?_⟩
            replace HS := Aside0.mk (HS.out.call hb)
            clear hb
            refine hK3.out _ _ HS.out.g (fun hHeld => ?_)
            clear hK3
            refine norm_ (Eq.symm ?_) (hcont (b5, b6) _ HS.out)
            simp only [putAll, Act.put, List.setIfInBounds_toArray, List.set_cons_zero, List.set_cons_succ]
        · refine reg_alloc_grid (by rfl) rfl rfl ?_
          intro b6 W hc hbs hz hb
          replace HS := Aside0.mk (HS.out.alloc hc hbs hz hb)
          clear hc hbs hz hb
          refine hK1.out _ _ HS.out.g (fun hHeld => ?_)
          clear hK1
          refine norm_ (a' := ?_) ?_ ?_
          rotate_left
          · show Act.put _ (some 6) _ = _
            simp only [Act.put, List.setIfInBounds_toArray, List.set_cons_zero, List.set_cons_succ]
            rfl
          refine two_ (i := 2) (j := 3) (Ni := some 12) (Nj := some 5) #[true, true, true, false, true, false, false] #[true, true, false, true, true, false, false] rfl rfl rfl rfl (by kernel_rfl) (by decide) (by decide) (fun K2 hK2 => ?_) (fun K2 hK2 => ?_)
          · refine goes_ Try.func56 (by kernel_rfl) rfl #[.agg (gcells (shrinkN f k))] (by rfl) rfl rfl (by simp only [List.map_toArray, List.map_cons, List.map_nil]; rfl) ?_
            refine (impl_grid_edge.any _ _).mono ?_
            rintro e W ⟨rfl, hb⟩
            refine ⟨_, rfl, ?_⟩
            replace HS := Aside0.mk (HS.out.call hb)
            clear hb
            refine hK2.out _ _ HS.out.g (fun hHeld => ?_)
            clear hK2
            refine norm_ (a' := ?_) ?_ ?_
            rotate_left
            · show Act.put _ (some 12) _ = _
              simp only [Act.put, List.setIfInBounds_toArray, List.set_cons_zero, List.set_cons_succ]
              rfl
            refine one_ (i := 3) (N := some 5) #[true, true, true, true, true, false, false] rfl rfl (by kernel_rfl) (by decide) (fun K3 hK3 => ?_)
            refine reg_alloc_grid (by rfl) rfl rfl ?_
            intro b5 W hc hbs hz hb
            replace HS := Aside0.mk (HS.out.alloc hc hbs hz hb)
            clear hc hbs hz hb
            refine hK3.out _ _ HS.out.g (fun hHeld => ?_)
            clear hK3
            refine norm_ (Eq.symm ?_) (hcont (b5, b6) _ HS.out.swap)
            simp only [putAll, Act.put, List.setIfInBounds_toArray, List.set_cons_zero, List.set_cons_succ]
          · refine reg_alloc_grid (by rfl) rfl rfl ?_
            intro b5 W hc hbs hz hb
            replace HS := Aside0.mk (HS.out.alloc hc hbs hz hb)
            clear hc hbs hz hb
            refine hK2.out _ _ HS.out.g (fun hHeld => ?_)
            clear hK2
            refine norm_ (a' := ?_) ?_ ?_
            rotate_left
            · show Act.put _ (some 5) _ = _
              simp only [Act.put, List.setIfInBounds_toArray, List.set_cons_zero, List.set_cons_succ]
              rfl
            refine one_ (i := 2) (N := some 12) #[true, true, true, true, true, false, false] rfl rfl (by kernel_rfl) (by decide) (fun K3 hK3 => ?_)
            refine goes_ Try.func56 (by kernel_rfl) rfl #[.agg (gcells (shrinkN f k))] (by rfl) rfl rfl (by simp only [List.map_toArray, List.map_cons, List.map_nil]; rfl) ?_
            refine (impl_grid_edge.any _ _).mono ?_
            rintro e W ⟨rfl, hb⟩
            refine ⟨_, rfl, ?_⟩
            replace HS := Aside0.mk (HS.out.call hb)
            clear hb
            refine hK3.out _ _ HS.out.g (fun hHeld => ?_)
            clear hK3
            refine norm_ (Eq.symm ?_) (hcont (b5, b6) _ HS.out.swap)
            simp only [putAll, Act.put, List.setIfInBounds_toArray, List.set_cons_zero, List.set_cons_succ]
      clear HS hHeld
      rintro ⟨b5, b6⟩ W HS0
      have HS := Aside0.mk HS0
      clear HS0
      refine norm_ (a' := ?_) ?_ ?_
      rotate_left
      · simp only [putAll, Act.put, List.setIfInBounds_toArray, List.set_cons_zero, List.set_cons_succ]
        rfl
      refine one_ (i := 5) (N := none) #[true, true, true, true, true, true, false] rfl rfl (by kernel_rfl) (by decide) (fun K4 hK4 => ?_)
      refine reg_store_grid (by rfl) rfl _ _ rfl b5 (shrinkN f k) (fun _ => false) rfl rfl HS.out.at1 ?_
      intro W5 hc hz hb
      replace HS := Aside0.mk (HS.out.swap.store0 hc hz hb)
      clear hc hz hb
      refine hK4.out _ _ HS.out.g (fun hHeld => ?_)
      clear hK4 K4
      refine norm_ (a' := ?_) ?_ ?_
      rotate_left
      · show Act.put _ none _ = _
        simp only [Act.put]
        rfl
      refine one_ (i := 6) (N := none) #[true, true, true, true, true, true, true] rfl rfl (by kernel_rfl) (by decide) (fun K5 hK5 => ?_)
      refine reg_store_grid (by rfl) rfl _ _ rfl b6 (edgeF (shrinkN f k)) (fun _ => false) rfl rfl HS.out.at1 ?_
      intro W6 hc hz hb
      replace HS := Aside0.mk (HS.out.swap.store0 hc hz hb)
      clear hc hz hb
      refine hK5.out _ _ HS.out.g (fun hHeld => ?_)
      clear hK5 K5 hHeld
      refine norm_ (a' := ?_) ?_ ?_
      rotate_left
      · show Act.put _ none _ = _
        simp only [Act.put]
        rfl
      refine done_ (by kernel_rfl) ?_
      have HQ := Aside0.mk (HCL.out (shrinkN f k) b5 b6 _ HS.out.at1 HS.out.at0)
      go_wp2_with (first | (go_at_call 45; refine HQ.out.mono ?_; rintro e W7 ⟨rfl, hb⟩; replace HS := Aside0.mk (HS.out.call hb); clear hb HQ) | (refine wpList_store_grid_abs rfl _ _ rfl w.heap.size (shrunkF (shrinkN f k)) (shrinkN f k) rfl rfl HS.out.g ?_; intro W8 hc hz hb; replace HS := Aside0.mk (HS.out.storeG hc hz hb); clear hc hz hb))
      go_roundw
      case rel => exact ⟨k + 1, by omega, by go_num, HS.out.g, HS.out.z, ⟨HS.out.below⟩⟩
      case measure => simp [intOf]; omega
    · have hk' : k = n := by omega
      subst hk'
      have hdk : decide ((k : Int) < (k : Int)) = false := decide_eq_false (by omega)
      go_wp2_with (first | (refine wpList_load_grid rfl _ rfl w.heap.size _ rfl HG ?_) | (refine wpList_store_grid rfl _ _ rfl (w.heap.size + 1) _ _ rfl rfl HZ ?_))
      refine bodyPost_ret (results_cell_row rfl _ _ (w.heap.size + 1) _ _ _ _ rfl (HZ.setRow _).out Try.underlying55 rfl (by rw [gcells_size]; exact grid_size)) rfl ⟨rfl, ?_⟩
      exact below_setRow HB.out _ _ (Nat.le_succ _)

end Go.Proofs.Ytllodpaghkohbaa.Print

-- laid by hp.py (a program of this work over the kit's print), with contracts by hand for what the print does not take
import Derived.Test.YtbpeonhhlfadcaaPrint0
import Derived.Test.YtbpeonhhlfadcaaPrintHhandSort
import Derived.Test.YtbpeonhhlfadcaaPrintHx0
import Derived.Test.YtbpeonhhlfadcaaPrintHx1
namespace Go.Proofs.Ytbpeonhhlfadcaa.Print
open Go.RowKit Go.Proofs.YtbpeonhhlfadcaaW.PrintWords Go.Proofs.YtbpeonhhlfadcaaW.PrintLast Go.Proofs.YtbpeonhhlfadcaaW.PrintMore
attribute [local go_sem] max2_int min2_int max_two min_two max_three min_three max_four min_four   -- for this text's walks alone
set_option linter.unusedVariables false
set_option linter.unusedSimpArgs false

--SNIP impl_PackSprites
/-! ### impl_PackSprites: function 6, by hand -/
/-- One sprite more. -/
def packStep (l : List S33) (wd : Int) (st : List S31 × List S31 × Int) (i : Nat) : List S31 × List S31 × Int :=
  if st.2.1.findIdx (fun x => decide (x.f2 + (rd_T33 l (i : Int)).f0 ≤ wd)) < st.2.1.length then
    (st.1.set i ⟨(rd_T31 st.2.1 ((st.2.1.findIdx (fun x => decide (x.f2 + (rd_T33 l (i : Int)).f0 ≤ wd)) : Nat) : Int)).f2, (rd_T31 st.2.1 ((st.2.1.findIdx (fun x => decide (x.f2 + (rd_T33 l (i : Int)).f0 ≤ wd)) : Nat) : Int)).f1, (rd_T33 l (i : Int)).f0, (rd_T33 l (i : Int)).f1⟩,
      st.2.1.set (st.2.1.findIdx (fun x => decide (x.f2 + (rd_T33 l (i : Int)).f0 ≤ wd))) ⟨(rd_T31 st.2.1 ((st.2.1.findIdx (fun x => decide (x.f2 + (rd_T33 l (i : Int)).f0 ≤ wd)) : Nat) : Int)).f0, (rd_T31 st.2.1 ((st.2.1.findIdx (fun x => decide (x.f2 + (rd_T33 l (i : Int)).f0 ≤ wd)) : Nat) : Int)).f1, (rd_T31 st.2.1 ((st.2.1.findIdx (fun x => decide (x.f2 + (rd_T33 l (i : Int)).f0 ≤ wd)) : Nat) : Int)).f2 + (rd_T33 l (i : Int)).f0, (rd_T31 st.2.1 ((st.2.1.findIdx (fun x => decide (x.f2 + (rd_T33 l (i : Int)).f0 ≤ wd)) : Nat) : Int)).f3⟩, st.2.2)
  else
    (st.1.set i ⟨0, st.2.2, (rd_T33 l (i : Int)).f0, (rd_T33 l (i : Int)).f1⟩, st.2.1 ++ [⟨0, st.2.2, (rd_T33 l (i : Int)).f0, 0⟩], st.2.2 + (rd_T33 l (i : Int)).f1)
/-- The first k sprites, in their order. -/
def packTo (l : List S33) (wd : Int) (k : Nat) : List S31 × List S31 × Int := ((orderL (hOf l) l.length).take k).foldl (packStep l wd) (List.replicate l.length z31, [], 0)
theorem packTo_zero (l : List S33) (wd : Int) : packTo l wd 0 = (List.replicate l.length z31, [], 0) := rfl
theorem packTo_succ (l : List S33) (wd : Int) (k : Nat) (h : k < (orderL (hOf l) l.length).length) : packTo l wd (k + 1) = packStep l wd (packTo l wd k) (orderL (hOf l) l.length)[k] := by
  unfold packTo
  rw [List.take_succ_eq_append_getElem h, List.foldl_append]
  rfl
/-- Where the next sprite goes. -/
def shelfOf (wd s0 : Int) (sh : List S31) : Nat := sh.findIdx fun x => decide (x.f2 + s0 ≤ wd)
def PackInv (n : Nat) (wd : Int) (k : Nat) (st : List S31 × List S31 × Int) : Prop := st.1.length = n ∧ (∀ x ∈ st.2.1, 0 ≤ x.f2 ∧ x.f2 ≤ wd ∧ 0 ≤ x.f1 ∧ x.f1 ≤ 192) ∧ 0 ≤ st.2.2 ∧ st.2.2 ≤ 16 * (k : Int) ∧ st.2.1.length ≤ k
theorem packStep_inv (l : List S33) (wd : Int) (hok : SprOk l wd) (k : Nat) (hk : k < l.length) (st : List S31 × List S31 × Int) (i : Nat) (hi : i < l.length) (h : PackInv l.length wd k st) : PackInv l.length wd (k + 1) (packStep l wd st i) := by
  obtain ⟨h1, h2, h3, h4, h5⟩ := h
  have hs := hok.2.2.2 _ (List.getElem_mem hi)
  rw [← rdSize_get l i hi] at hs
  have hn := hok.1
  unfold packStep
  generalize rd_T33 l (i : Int) = s at hs
  generalize hj : st.2.1.findIdx (fun x => decide (x.f2 + s.f0 ≤ wd)) = j
  by_cases hlt : j < st.2.1.length
  · rw [if_pos hlt]
    have hp : decide ((st.2.1[j]).f2 + s.f0 ≤ wd) = true := by
      subst hj
      exact List.findIdx_getElem (w := hlt)
    rw [decide_eq_true_eq] at hp
    rw [rdBox_get st.2.1 j hlt]
    have hb := h2 _ (List.getElem_mem hlt)
    refine ⟨by simp only [List.length_set]; exact h1, fun x hx => ?_, h3, by simp only []; omega, by simp only [List.length_set]; omega⟩
    rcases List.mem_or_eq_of_mem_set hx with hx | rfl
    · exact h2 x hx
    · exact ⟨by simp only []; omega, hp, hb.2.2.1, hb.2.2.2⟩
  · rw [if_neg hlt]
    refine ⟨by simp only [List.length_set]; exact h1, fun x hx => ?_, by simp only []; omega, by simp only []; omega, by simp only [List.length_append, List.length_singleton]; omega⟩
    rcases List.mem_append.1 hx with hx | hx
    · exact h2 x hx
    · rw [List.mem_singleton] at hx
      subst hx
      exact ⟨by simp only []; omega, by simp only []; omega, h3, by simp only []; omega⟩
theorem packTo_inv (l : List S33) (wd : Int) (hok : SprOk l wd) (k : Nat) (hk : k ≤ l.length) : PackInv l.length wd k (packTo l wd k) := by
  induction k with
  | zero =>
    rw [packTo_zero]
    refine ⟨List.length_replicate, ?_, Int.le_refl _, Int.le_refl _, Nat.le_refl _⟩
    intro x hx
    cases hx
  | succ k ih =>
    have hko : k < (orderL (hOf l) l.length).length := by rw [orderL_length]; omega
    rw [packTo_succ l wd k hko]
    exact packStep_inv l wd hok k (by omega) _ _ (orderL_lt _ _ _ (List.getElem_mem hko)) (ih (by omega))
def impl_PackSprites.f (l0 : List S33) (a1 : Int) : Option (List S31 × Int) := if l0.length ≤ 9223372036854775807 then some (if SprOk l0 a1 then ((packTo l0 a1 l0.length).1, (packTo l0 a1 l0.length).2.2) else ([], -1)) else none
set_option maxHeartbeats 8000000 in
set_option maxRecDepth 100000 in
theorem impl_PackSprites.no (A : Option Addr) (c : Nat) (l : List S33) (wd : Int) (w : World) (hr : Kd.C k33 w A l.length l) (hm : l.length ≤ 9223372036854775807) (hok : ¬ SprOk l wd) :
    Calls Try.prog 6 #[.slice A l.length c, .int .i64 wd] w fun e w' => e = .returned (.tuple #[.slice none 0 0, .int .i64 (-1)]) ∧ Below w.heap.size w w' := by
  have HAS : Aside0 (∀ W' : World, Below w.heap.size w W' → Calls Try.prog 20 #[.slice A l.length c, .int .i64 wd] W' fun e w' => e = .returned (.bool false) ∧ Below W'.heap.size W' w') := ⟨fun W' hW => by have h := impl_areSprites.any A c l wd W' (Kd.C_below hr hW) hm; rw [decide_eq_false hok] at h; exact h⟩
  have HB0 := Aside0.mk (allocs_below [.cells #[.slice A l.length c] 23, .cells #[.int .i64 wd] 3] w)
  have hc2_0 : (allocs w [.cells #[.slice A l.length c] 23, .cells #[.int .i64 wd] 3]).cell? ⟨w.heap.size, 0, none⟩ = some (.slice A l.length c) := allocs_cell [.cells #[.slice A l.length c] 23, .cells #[.int .i64 wd] 3] w 0 _ _ rfl
  have hc3_0 : (allocs w [.cells #[.slice A l.length c] 23, .cells #[.int .i64 wd] 3]).cell? ⟨w.heap.size + 1, 0, none⟩ = some (.int .i64 wd) := allocs_cell [.cells #[.slice A l.length c] 23, .cells #[.int .i64 wd] 3] w 1 _ _ rfl
  clear hr hok
  go_enter Try.func6, Try.ntmps6
  go_wp2_with (go_at_call 20; refine (HAS.out _ HB0.out).mono ?_; rintro e w1 ⟨rfl, hb⟩; have HB1 := Aside0.mk (below_step HB0.out hb); clear hb)
  go_ret2
  exact ⟨rfl, HB1.out⟩
set_option maxHeartbeats 8000000 in
set_option maxRecDepth 100000 in
theorem impl_PackSprites.yes (A : Option Addr) (c : Nat) (l : List S33) (wd : Int) (w : World) (hr : Kd.C k33 w A l.length l) (hok : SprOk l wd) :
    Calls Try.prog 6 #[.slice A l.length c, .int .i64 wd] w fun e w' => ∃ v0_ : Value, e = .returned (.tuple #[v0_, .int .i64 (packTo l wd l.length).2.2]) ∧ Kd.R k31 31 w' w.heap.size (fun _ => True) v0_ (packTo l wd l.length).1 ∧ Below w.heap.size w w' := by
  have HAS : Aside0 (∀ W' : World, Below w.heap.size w W' → Calls Try.prog 20 #[.slice A l.length c, .int .i64 wd] W' fun e w' => e = .returned (.bool true) ∧ Below W'.heap.size W' w') := ⟨fun W' hW => by have h := impl_areSprites.any A c l wd W' (Kd.C_below hr hW) (by have := hok.1; omega); rw [decide_eq_true hok] at h; exact h⟩
  have HB0 := Aside0.mk (allocs_below [.cells #[.slice A l.length c] 23, .cells #[.int .i64 wd] 3] w)
  have hc2_0 : (allocs w [.cells #[.slice A l.length c] 23, .cells #[.int .i64 wd] 3]).cell? ⟨w.heap.size, 0, none⟩ = some (.slice A l.length c) := allocs_cell [.cells #[.slice A l.length c] 23, .cells #[.int .i64 wd] 3] w 0 _ _ rfl
  have hc3_0 : (allocs w [.cells #[.slice A l.length c] 23, .cells #[.int .i64 wd] 3]).cell? ⟨w.heap.size + 1, 0, none⟩ = some (.int .i64 wd) := allocs_cell [.cells #[.slice A l.length c] 23, .cells #[.int .i64 wd] 3] w 1 _ _ rfl
  have HROW := Aside0.mk hr
  have HSO := Aside0.mk hok
  have hn12 : l.length ≤ 12 := hok.1
  clear hr hok
  go_enter Try.func6, Try.ntmps6
  go_wp2_with (first
    | (go_at_call 20; refine (HAS.out _ HB0.out).mono ?_; rintro e w1 ⟨rfl, hb⟩; have HB1 := Aside0.mk (below_step HB0.out hb); have HC2 := Aside0.mk (pw_cell_below hb hc2_0); have HC3 := Aside0.mk (pw_cell_below hb hc3_0); clear hb)
    | ((with_reducible refine gate_dst (N := 19) rfl ?_); refine Kd.R_lit (Kd.int .i64) _ 3 ?hg (N := 19) ?hd (xs := ([] : List Int)) (inner := []) (ok := fun _ => True) (okp := fun _ => True) ?hr ?hp (fun _ hk => hk) trivial (Below.refl w1.heap.size w1) (Nat.le_refl _) (by simp) ?_; (case hd => rfl); (case hg => rfl); (case hr => first | (go_simp; done) | (go_simp; rfl)); (case hp => exact (Reps.none _ _)); intro v0 w2 ho hb hg_ hnew_; clear hg_ hnew_; have HO2 := Aside0.mk ho; have HB2 := Aside0.mk hb; have hc2_2 := pw_cell_below hb HC2.out; clear hb ho))
  clear hc2_0 hc3_0 HAS
  have HR1 := Aside0.mk (Kd.C_below HROW.out HB1.out)
  clear HROW
  go_loopw [6, 22] (fun v i wr => ∃ k : Nat, k ≤ l.length ∧ i = .int .i64 k ∧ Aside0 (Kd.R (Kd.int .i64) 3 wr w1.heap.size (fun _ => True) v (intsN (List.range k))) ∧ Aside0 (Below w1.heap.size w1 wr)) (fun _ i _ => l.length - (intOf i).toNat)
  case atStart => exact ⟨0, by omega, rfl, HO2, HB2⟩
  case round =>
    clear HO2 HB2 hc2_2
    obtain ⟨k, hk, rfl, HO, HB⟩ := hrel
    by_cases hlt : k < l.length
    · have hdk : decide ((k : Int) < (l.length : Int)) = true := decide_eq_true (by omega)
      have hdk2 : decide (k < l.length) = true := decide_eq_true hlt
      have hrl : (intsN (List.range k)).length = k := by rw [intsN_length, List.length_range]
      have HSN : Aside0 (intsN (List.range k) ++ [(k : Int)] = intsN (List.range (k + 1))) := ⟨by unfold intsN; rw [List.range_succ, List.map_append]; rfl⟩
      go_wp2_with (at_builtin; refine Kd.R_append (Kd.int .i64) (w0 := w1) w1.heap.size rfl (.tmp 25) (.tmp 27) 47 3 (.int .i64 0) 8 rfl Try.underlying47 info3 rfl (by decide) (by omega) u6 (intsN (List.range k)) (k : Int) [.int .i64 (k : Int)] (fun _ => True) (fun _ => False) rfl rfl ?aP (fun _ hk => hk.elim) (fun _ _ => trivial) HO.out HB.out HB.out.size ?aL ?_; (case aP => exact rfl); (case aL => rw [hrl]; omega); intro v1 w3 ho hb hg hat; rw [HSN.out] at ho; have HO3 := Aside0.mk ho; have HB3 := Aside0.mk hb; clear ho hb hg hat)
      clear hrl
      go_roundw
      case rel => exact ⟨k + 1, by omega, by go_num, HO3, HB3⟩
      case measure => simp [intOf]; omega
    · obtain rfl : k = l.length := by omega
      have hdk : decide ((l.length : Int) < (l.length : Int)) = false := decide_eq_false (by omega)
      have hdk2 : decide (l.length < l.length) = false := decide_eq_false (by omega)
      have HSORT := Aside0.mk (slices_SortStable.any 22 _ #[.pointer (some ⟨w.heap.size, 0, none⟩)] (hOf l) Try.func22 (by kernel_rfl) rfl w1.heap.size l.length hn12 (fun x hx => by
          unfold hOf
          rw [rdSize_get l x hx]
          have h := HSO.out.2.2.2 _ (List.getElem_mem hx)
          exact ⟨h.2.2.1, h.2.2.2⟩) u6 wr HB.out.size HO.out
        (fun x y w' hx hy hb => impl_PackSprites_1.any x y A c l w.heap.size w' hx hy (Kd.C_below HR1.out (HB.out.trans hb)) (pw_cell_below (HB.out.trans hb) HC2.out) (fun s hs => ⟨(HSO.out.2.2.2 s hs).2.2.1, (HSO.out.2.2.2 s hs).2.2.2⟩) hn12))
      go_wp2_with (first
        | (go_at_call 21; refine HSORT.out.mono ?_; rintro e w3 ⟨rfl, ho, hb⟩; have HO3 := Aside0.mk ho; have HB3 := Aside0.mk (HB.out.trans hb); have hc2_3 := pw_cell_below (HB.out.trans hb) HC2.out; clear ho hb HO; obtain ⟨A6, c6, e6⟩ := Kd.R_slice HO3.out; subst e6; rw [intsN_length, orderL_length] at HO3 ⊢)
        | ((with_reducible refine gate_dst (N := 35) rfl ?_); refine Kd.R_make k31 _ 31 rfl (N := 35) rfl 26 _ _ rfl (l.length : Int) rfl rfl Try.underlying26 _ _ info31 rfl (by decide) (by omega) z31 (ok := fun _ => True) (okp := fun _ => True) (k31_mkM _ _ _ _) (fun _ hk => hk) trivial (by omega) (by omega) (Below.refl w3.heap.size w3) (Nat.le_refl _) ?_; intro v8 w4 hro hb hg_ hnew_; clear hg_ hnew_; have HO4 := Aside0.mk (Kd.R_below HO3.out hb); have HX4 := Aside0.mk (Kd.R_lower hro HB3.out.size); have HB4 := Aside0.mk (below_step HB3.out hb); clear hb hro)
        | ((with_reducible refine gate_dst (N := 36) rfl ?_); refine Kd.R_lit k31 _ 31 ?hg (N := 36) ?hd (xs := ([] : List S31)) (inner := []) (ok := fun _ => True) (okp := fun _ => True) ?hr ?hp (fun _ hk => hk) trivial (Below.refl w4.heap.size w4) (Nat.le_refl _) (by simp) ?_; (case hd => rfl); (case hg => rfl); (case hr => first | (go_simp; done) | (go_simp; rfl)); (case hp => exact (Reps.none _ _)); intro v9 w5 hro hb hg_ hnew_; clear hg_ hnew_; have HO5 := Aside0.mk (Kd.R_below HO4.out hb); have HY5 := Aside0.mk (Kd.R_lower (Kd.R_new' hro (Kd.R_lt HX4.out)) HB4.out.size); have HX5 := Aside0.mk (Kd.R_elder' HX4.out (Kd.R_base hro) hb); have HB5 := Aside0.mk (below_step HB4.out hb); clear hb hro))
      clear HO3 HO4 HX4 HB3 HB4 hc2_3 HSORT HB
      go_loopw [9, 10, 39] (fun v h i wr => ∃ k : Nat, k ≤ l.length ∧ i = .int .i64 k ∧ h = .int .i64 (packTo l wd k).2.2 ∧ Aside0 (Kd.R (Kd.int .i64) 3 wr w1.heap.size (fun _ => True) (.slice A6 l.length c6) (intsN (orderL (hOf l) l.length))) ∧ Aside0 (Kd.R k31 31 wr w1.heap.size (fun k_ => True ∧ some k_ ≠ v.ownBlock) v8 (packTo l wd k).1) ∧ Aside0 (Kd.R k31 31 wr w1.heap.size (fun k_ => True ∧ some k_ ≠ v8.ownBlock) v (packTo l wd k).2.1) ∧ Aside0 (Below w1.heap.size w1 wr)) (fun _ _ i _ => l.length - (intOf i).toNat)
      case atStart => exact ⟨0, by omega, rfl, by rw [packTo_zero], HO5, ⟨by rw [packTo_zero]; exact HX5.out⟩, ⟨by rw [packTo_zero]; exact HY5.out⟩, HB5⟩
      case round =>
        clear HO5 HX5 HY5 HB5
        obtain ⟨k, hk, rfl, rfl, HO, HX, HY, HB⟩ := hrel
        by_cases hlt : k < l.length
        · have hdk : decide ((k : Int) < (l.length : Int)) = true := decide_eq_true (by omega)
          have hdk2 : decide (k < l.length) = true := decide_eq_true hlt
          have hlo := orderL_length (hOf l) l.length
          have hko : k < (orderL (hOf l) l.length).length := by omega
          have HPS := Aside0.mk (packTo_succ l wd k hko)
          have hil : (orderL (hOf l) l.length)[k] < l.length := orderL_lt _ _ _ (List.getElem_mem hko)
          obtain ⟨ad6, e, hx⟩ := Kd.at_int (Kd.R_reads' HO.out).2.2 (k : Int) (by omega) (by rw [intsN_length]; omega)
          cases e
          rw [intsN_rd _ _ hko, List.getD_eq_getElem?_getD, List.getElem?_eq_getElem hko, Option.getD_some] at hx
          simp only [Int.toNat_natCast] at hx
          generalize (orderL (hOf l) l.length)[k] = i at HPS hil hx
          obtain ⟨ad2, e, hs0, hs1⟩ := at_T33 (Kd.C_below HR1.out HB.out) (i : Int) (by omega) (by omega)
          cases e
          simp only [Int.toNat_natCast] at hs0 hs1
          have HSZ := Aside0.mk (HSO.out.2.2.2 l[i] (List.getElem_mem hil))
          have HRS := Aside0.mk (rdSize_get l i hil)
          have hc2 := pw_cell_below HB.out HC2.out
          have p1 : ((i : Int) < (l.length : Int)) = True := eq_true (by omega)
          have hu := Try.underlying33
          have hinv := packTo_inv l wd HSO.out k hk
          have hwd := HSO.out.2.2.1
          generalize packTo l wd k = st at HX HY HPS hinv ⊢
          obtain ⟨bx, sh, ht⟩ := st
          unfold packStep at HPS
          rw [HRS.out] at HPS hs0 hs1
          have hsz := HSZ.out
          clear HSZ HRS
          generalize l[i] = s at HPS hs0 hs1 hsz
          obtain ⟨s0, s1⟩ := s
          dsimp only at HX HY HPS hs0 hs1 hsz ⊢
          obtain ⟨iv1, iv2, iv3, iv4, iv5⟩ := hinv
          dsimp only at iv1 iv2 iv3 iv4 iv5
          obtain ⟨A9, c9, e9⟩ := Kd.R_slice HY.out
          subst e9
          have hcs0 : (wr.alloc (.cells #[.int .i64 s0, .int .i64 s1] 33)).cell? ⟨wr.heap.size, 0, none⟩ = some (.int .i64 s0) := (blk_cell (Go.heap_alloc_new wr _) 0).trans rfl
          have HIX := Aside0.mk (indexBox.any 24 _ #[.pointer (some ⟨wr.heap.size, 0, none⟩), .pointer (some ⟨w.heap.size + 1, 0, none⟩)] (fun x => decide (x.f2 + s0 ≤ wd)) Try.func24 (by kernel_rfl) rfl A9 c9 sh (wr.alloc (.cells #[.int .i64 s0, .int .i64 s1] 33)) (Kd.R_reads' (Kd.R_alloc HY.out _)).2.2 (by omega)
            (fun x w' hx hb => impl_PackSprites_2.any x s0 wd wr.heap.size (w.heap.size + 1) w' (pw_cell_below hb hcs0) (pw_cell_below (below_step (below_alloc HB.out _) hb) HC3.out) ⟨(iv2 x hx).1, by have := (iv2 x hx).2.1; omega⟩ (by omega)))
          clear hcs0
          have HIV := Aside0.mk (And.intro iv2 (And.intro iv3 (And.intro iv4 iv5)))
          clear iv2
          generalize hj : sh.findIdx (fun x => decide (x.f2 + s0 ≤ wd)) = j at HPS
          by_cases hjl : j < sh.length
          · have hix : idxP (fun x => decide (x.f2 + s0 ≤ wd)) sh = (j : Int) := by unfold idxP; rw [hj, if_pos hjl]
            rw [hix] at HIX
            rw [if_pos hjl] at HPS
            have hdj : decide ((j : Int) < 0) = false := decide_eq_false (by omega)
            clear hix
            go_wp2_with (go_at_call 23; refine HIX.out.mono ?_; rintro e w6 ⟨rfl, hb⟩; have HO6 := Aside0.mk (Kd.R_below (Kd.R_alloc HO.out _) hb); have HX6 := Aside0.mk (Kd.R_below (Kd.R_alloc HX.out _) hb); have HY6 := Aside0.mk (Kd.R_below (Kd.R_alloc HY.out _) hb); have HB6 := Aside0.mk (below_step (below_alloc HB.out _) hb); have HS6 : Aside0 (w6.heap[wr.heap.size]? = some (.cells #[.int .i64 s0, .int .i64 s1] 33 (0, 0))) := ⟨blk_below (Go.heap_alloc_new wr _) hb⟩; clear hb HO HX HY HB HIX)
            have HBD : Aside0 (0 ≤ (rd_T31 sh (j : Int)).f2 ∧ (rd_T31 sh (j : Int)).f2 ≤ 64 ∧ 0 ≤ s0 ∧ s0 ≤ 64) := ⟨by rw [rdBox_get sh j hjl]; have h := HIV.out.1 _ (List.getElem_mem hjl); omega⟩
            clear hj
            obtain ⟨g8, cap8, e8, -, -, -⟩ := Kd.R_form HX6.out (by omega)
            rw [iv1] at e8
            obtain ⟨g9, cap9, e9, -, -, cells9, hg9⟩ := Kd.R_form HY6.out (by omega)
            injection e9 with e91 e92 e93
            subst e91 e93
            subst e8
            obtain ⟨ad9, e, hq0, hq1, hq2, hq3⟩ := at_T31 (Kd.R_reads' HY6.out).2.2 (j : Int) (by omega) (by omega)
            obtain rfl : (⟨g9, 0, none⟩ : Addr) = ad9 := by injection e
            simp only [Int.toNat_natCast, add_plain] at hq0 hq1 hq2 hq3
            obtain ⟨ad8, e, hb0, hb1, hb2, hb3⟩ := at_T31 (Kd.R_reads' HX6.out).2.2 (i : Int) (by omega) (by omega)
            obtain rfl : (⟨g8, 0, none⟩ : Addr) = ad8 := by injection e
            simp only [Int.toNat_natCast, add_plain] at hb0 hb1 hb2 hb3
            obtain ⟨cells8, hg8⟩ := Kd.R_typed HX6.out g8 rfl
            have hfb := fun q => blk_frozen hg8 q
            have hcs0 := (blk_cell HS6.out 0).trans rfl
            have hcs1 := (blk_cell HS6.out 1).trans rfl
            have pj : ((j : Int) < (sh.length : Int)) = True := eq_true (by omega)
            have hub := Try.underlying31
            have HP1 := Aside0.mk (Kd.R_seg (d := k31) HX6.out (i : Int) (by omega) (by omega) (c := [.int .i64 (rd_T31 bx (i : Int)).f0, .int .i64 (rd_T31 bx (i : Int)).f1, .int .i64 (rd_T31 bx (i : Int)).f2, .int .i64 (rd_T31 bx (i : Int)).f3]) (seg := [.int .i64 (rd_T31 sh (j : Int)).f2, .int .i64 (rd_T31 sh (j : Int)).f1, .int .i64 s0, .int .i64 s1]) (j := 0) rfl
              (fun q u hq => by
                match q, hq with
                | 0, hq => simp at hq; subst hq; exact hb0
                | 1, hq => simp at hq; subst hq; exact hb1
                | 2, hq => simp at hq; subst hq; exact hb2
                | 3, hq => simp at hq; subst hq; exact hb3
                | n + 4, hq => simp at hq) (by show 0 + 4 ≤ 4; omega) (k31_mkM _ _ _ ⟨(rd_T31 sh (j : Int)).f2, (rd_T31 sh (j : Int)).f1, s0, s1⟩) (okp := fun _ => False) (fun _ hk => hk.elim))
            simp only [Int.toNat_natCast] at HP1
            go_wp2_with fail
            go_region
            obtain ⟨w7, hw7⟩ : ∃ w7 : World, w7 = (w6.setCells g8 (i * k31.sz + 0) [.int .i64 (rd_T31 sh (j : Int)).f2, .int .i64 (rd_T31 sh (j : Int)).f1, .int .i64 s0, .int .i64 s1]).drew := ⟨_, rfl⟩
            have hww : ((((w6.setCell ⟨g8, i * 4, none⟩ (.int .i64 (rd_T31 sh (j : Int)).f2)).setCell ⟨g8, i * 4 + 1, none⟩ (.int .i64 (rd_T31 sh (j : Int)).f1)).setCell ⟨g8, i * 4 + 2, none⟩ (.int .i64 s0)).setCell ⟨g8, i * 4 + 3, none⟩ (.int .i64 s1)).drew = w7 := by rw [hw7]; rfl
            have HX7 : Aside0 (Kd.R k31 31 w7 w1.heap.size (fun k_ => True ∧ some k_ ≠ (.slice (some ⟨g9, 0, none⟩) sh.length c9 : Value).ownBlock) (.slice (some ⟨g8, 0, none⟩) l.length cap8) (bx.set i ⟨(rd_T31 sh (j : Int)).f2, (rd_T31 sh (j : Int)).f1, s0, s1⟩)) := ⟨by rw [hw7]; exact Kd.R_drew HP1.out.1⟩
            have HY7 : Aside0 (Kd.R k31 31 w7 w1.heap.size (fun k_ => True ∧ some k_ ≠ (.slice (some ⟨g8, 0, none⟩) l.length cap8 : Value).ownBlock) (.slice (some ⟨g9, 0, none⟩) sh.length c9) sh) := ⟨by rw [hw7]; exact Kd.R_drew (Kd.R_grown HY6.out HP1.out.2 (fun k hk => hk.2))⟩
            have HO7 : Aside0 (Kd.R (Kd.int .i64) 3 w7 w1.heap.size (fun _ => True) (.slice (some ad6) l.length c6) (intsN (orderL (hOf l) l.length))) := ⟨by rw [hw7]; exact Kd.R_drew (Kd.R_over' HO6.out (Kd.R_typed HX6.out) (by decide) HP1.out.2)⟩
            have HS7 : Aside0 (w7.heap[wr.heap.size]? = some (.cells #[.int .i64 s0, .int .i64 s1] 33 (0, 0))) := ⟨by rw [hw7]; exact blk_drew (blk_grown HS6.out HP1.out.2 (Kd.R_ne HX6.out HS6.out (by decide)))⟩
            have HB7 : Aside0 (Below w1.heap.size w1 w7) := ⟨by rw [hw7]; exact below_drew (HB6.out.grown HP1.out.2 HB6.out.size (fun k hk => Kd.R_base HX6.out k hk))⟩
            rw [hww]
            clear hww hw7 HP1 hq0 hq1 hq2 hq3 hb0 hb1 hb2 hb3 hfb hcs0 hcs1 hg8 hg9 HX6 HY6 HO6 HS6 HB6 cells8 cells9
            obtain ⟨ad9, e, hq0, hq1, hq2, hq3⟩ := at_T31 (Kd.R_reads' HY7.out).2.2 (j : Int) (by omega) (by omega)
            obtain rfl : (⟨g9, 0, none⟩ : Addr) = ad9 := by injection e
            simp only [Int.toNat_natCast, add_plain] at hq0 hq1 hq2 hq3
            obtain ⟨cells9, hg9⟩ := Kd.R_typed HY7.out g9 rfl
            have hfq := fun q => blk_frozen hg9 q
            have hcs0 := (blk_cell HS7.out 0).trans rfl
            have HP2 := Aside0.mk (Kd.R_seg (d := k31) HY7.out (j : Int) (by omega) (by omega) (c := [.int .i64 (rd_T31 sh (j : Int)).f0, .int .i64 (rd_T31 sh (j : Int)).f1, .int .i64 (rd_T31 sh (j : Int)).f2, .int .i64 (rd_T31 sh (j : Int)).f3]) (seg := [.int .i64 ((rd_T31 sh (j : Int)).f2 + s0)]) (j := 2) rfl
              (fun q u hq => by
                match q, hq with
                | 0, hq => simp at hq; subst hq; exact hq0
                | 1, hq => simp at hq; subst hq; exact hq1
                | 2, hq => simp at hq; subst hq; exact hq2
                | 3, hq => simp at hq; subst hq; exact hq3
                | n + 4, hq => simp at hq) (by show 2 + 1 ≤ 4; omega) (k31_mkM _ _ _ ⟨(rd_T31 sh (j : Int)).f0, (rd_T31 sh (j : Int)).f1, (rd_T31 sh (j : Int)).f2 + s0, (rd_T31 sh (j : Int)).f3⟩) (okp := fun _ => False) (fun _ hk => hk.elim))
            simp only [Int.toNat_natCast] at HP2
            have gs : IntKind.i64.wrap ((rd_T31 sh (j : Int)).f2 + s0) = (rd_T31 sh (j : Int)).f2 + s0 := IntWalk.i64_in _ (by have := HBD.out; omega)
            go_wp2_with fail
            go_region
            obtain ⟨w8, hw8⟩ : ∃ w8 : World, w8 = (w7.setCells g9 (j * k31.sz + 2) [.int .i64 ((rd_T31 sh (j : Int)).f2 + s0)]).drew := ⟨_, rfl⟩
            have hww : (w7.setCell ⟨g9, j * 4 + 2, none⟩ (.int .i64 ((rd_T31 sh (j : Int)).f2 + s0))).drew = w8 := by rw [hw8]; rfl
            have HY8 : Aside0 (Kd.R k31 31 w8 w1.heap.size (fun k_ => True ∧ some k_ ≠ (.slice (some ⟨g8, 0, none⟩) l.length cap8 : Value).ownBlock) (.slice (some ⟨g9, 0, none⟩) sh.length c9) (sh.set j ⟨(rd_T31 sh (j : Int)).f0, (rd_T31 sh (j : Int)).f1, (rd_T31 sh (j : Int)).f2 + s0, (rd_T31 sh (j : Int)).f3⟩)) := ⟨by rw [hw8]; exact Kd.R_drew HP2.out.1⟩
            have HX8 : Aside0 (Kd.R k31 31 w8 w1.heap.size (fun k_ => True ∧ some k_ ≠ (.slice (some ⟨g9, 0, none⟩) sh.length c9 : Value).ownBlock) (.slice (some ⟨g8, 0, none⟩) l.length cap8) (bx.set i ⟨(rd_T31 sh (j : Int)).f2, (rd_T31 sh (j : Int)).f1, s0, s1⟩)) := ⟨by rw [hw8]; exact Kd.R_drew (Kd.R_grown HX7.out HP2.out.2 (fun k hk => hk.2))⟩
            have HO8 : Aside0 (Kd.R (Kd.int .i64) 3 w8 w1.heap.size (fun _ => True) (.slice (some ad6) l.length c6) (intsN (orderL (hOf l) l.length))) := ⟨by rw [hw8]; exact Kd.R_drew (Kd.R_over' HO7.out (Kd.R_typed HY7.out) (by decide) HP2.out.2)⟩
            have HB8 : Aside0 (Below w1.heap.size w1 w8) := ⟨by rw [hw8]; exact below_drew (HB7.out.grown HP2.out.2 HB7.out.size (fun k hk => Kd.R_base HY7.out k hk))⟩
            rw [hww]
            clear hww hw8 HP2 hq0 hq1 hq2 hq3 hfq hcs0 hg9 HX7 HY7 HO7 HS7 HB7 cells9 gs
            go_wp2
            go_roundw
            case rel => exact ⟨k + 1, by omega, by go_num, by rw [HPS.out], HO8, ⟨by rw [HPS.out]; exact HX8.out⟩, ⟨by rw [HPS.out]; exact HY8.out⟩, HB8⟩
            case measure => simp [intOf]; omega
          · have hix : idxP (fun x => decide (x.f2 + s0 ≤ wd)) sh = -1 := by unfold idxP; rw [hj, if_neg hjl]
            obtain ⟨ng, hng⟩ : ∃ z : Int, z = -1 := ⟨_, rfl⟩
            rw [hix, ← hng] at HIX
            rw [if_neg hjl] at HPS
            have HJE : Aside0 (sh.length = j) := ⟨by
              have h : sh.findIdx (fun x => decide (x.f2 + s0 ≤ wd)) ≤ sh.length := List.findIdx_le_length
              omega⟩
            have hdm : decide (ng < 0) = true := decide_eq_true (by omega)
            clear hng
            have gh : IntKind.i64.wrap (ht + s1) = ht + s1 := IntWalk.i64_in _ (by omega)
            have HSL : Aside0 (sh.length ≤ 12) := ⟨by omega⟩
            have HSB : Aside0 (0 ≤ s0 ∧ s0 ≤ 64) := ⟨by omega⟩
            clear hix hj
            go_wp2_with (first
              | (go_at_call 23; refine HIX.out.mono ?_; rintro e w5 ⟨rfl, hb⟩; have HO5 := Aside0.mk (Kd.R_below (Kd.R_alloc HO.out _) hb); have HX5 := Aside0.mk (Kd.R_below (Kd.R_alloc HX.out _) hb); have HY5 := Aside0.mk (Kd.R_below (Kd.R_alloc HY.out _) hb); have HB5 := Aside0.mk (below_step (below_alloc HB.out _) hb); have HS5 : Aside0 (w5.heap[wr.heap.size]? = some (.cells #[.int .i64 s0, .int .i64 s1] 33 (0, 0))) := ⟨blk_below (Go.heap_alloc_new wr _) hb⟩; clear hb HO HX HY HB HIX)
              | (at_builtin; refine Kd.R_append k31 (w0 := w1) w1.heap.size rfl (.tmp 54) (.tmp 57) 26 31 (.agg #[(.int .i64 0), (.int .i64 0), (.int .i64 0), (.int .i64 0)]) 32 rfl Try.underlying26 info31 rfl (by decide) (by omega) (.slice A9 sh.length c9) sh (⟨0, ht, 0, 0⟩ : S31) [.int .i64 0, .int .i64 ht, .int .i64 0, .int .i64 0] (fun k_ => True ∧ some k_ ≠ v8.ownBlock) (fun _ => False) rfl rfl ?aP (fun _ hk => hk.elim) ?aF HY5.out HB5.out (below_size HB5.out) ?aL ?_; (case aP => exact k31_mkM _ _ _ (⟨0, ht, 0, 0⟩ : S31)); (case aF => exact (fun k hk => ⟨trivial, fun he => by have := Kd.R_lt HX5.out _ he.symm; omega⟩)); (case aL => have := HSL.out; omega); intro v10 w6 ho hb hg hat; have HY6 := Aside0.mk ho; have HX6 := Aside0.mk (Kd.R_after (ok := fun _ => True) HX5.out hg hat); have HO6 := Aside0.mk (Kd.R_over' HO5.out (Kd.R_typed HY5.out) (by decide) hg); have HS6 := Aside0.mk (blk_grown HS5.out hg (Kd.R_ne HY5.out HS5.out (by decide))); have HB6 := Aside0.mk hb; have hcm1 := (blk_cell HS6.out 1).trans rfl; clear ho hb hg hat HY5 HX5 HO5 HS5 HB5))
            clear hcm1 gh hdm
            have hje := HJE.out
            obtain ⟨sh', hsh⟩ : ∃ x, x = sh ++ [(⟨0, ht, 0, 0⟩ : S31)] := ⟨_, rfl⟩
            have hrs : rd_T31 sh' (j : Int) = ⟨0, ht, 0, 0⟩ := by rw [rdBox_get sh' j (by rw [hsh, List.length_append]; simp only [List.length_singleton]; omega)]; subst hsh hje; exact List.getElem_concat_length rfl _
            have hjl' : j < sh'.length := by rw [hsh, List.length_append]; simp only [List.length_singleton]; omega
            have HBD : Aside0 (0 ≤ (rd_T31 sh' (j : Int)).f2 ∧ (rd_T31 sh' (j : Int)).f2 ≤ 64 ∧ 0 ≤ s0 ∧ s0 ≤ 64) := ⟨by rw [hrs]; have h := HSB.out; simp only []; omega⟩
            have hset : sh'.set j (⟨0, ht, 0 + s0, 0⟩ : S31) = sh ++ [⟨0, ht, s0, 0⟩] := by subst hsh hje; rw [List.set_append_right _ _ (Nat.le_refl _), Nat.sub_self, Int.zero_add]; rfl
            have HPS' : Aside0 (packTo l wd (k + 1) = (bx.set i ⟨(rd_T31 sh' (j : Int)).f2, (rd_T31 sh' (j : Int)).f1, s0, s1⟩, sh'.set j ⟨(rd_T31 sh' (j : Int)).f0, (rd_T31 sh' (j : Int)).f1, (rd_T31 sh' (j : Int)).f2 + s0, (rd_T31 sh' (j : Int)).f3⟩, ht + s1)) := ⟨by rw [hrs]; dsimp only; rw [hset]; exact HPS.out⟩
            rw [← hsh] at HY6
            obtain ⟨A9', c9', e9⟩ := Kd.R_slice HY6.out
            subst e9
            rw [hje]
            clear HPS hset hrs hsh HIV iv3 iv4 iv5 hjl hje HJE HSL HSB
            have HPS := HPS'
            have hjl := hjl'
            clear HPS'
            obtain ⟨g8, cap8, e8, -, -, -⟩ := Kd.R_form HX6.out (by omega)
            rw [iv1] at e8
            obtain ⟨g9, cap9, e9, -, -, cells9, hg9⟩ := Kd.R_form HY6.out (by omega)
            injection e9 with e91 e92 e93
            subst e91 e93
            subst e8
            obtain ⟨ad9, e, hq0, hq1, hq2, hq3⟩ := at_T31 (Kd.R_reads' HY6.out).2.2 (j : Int) (by omega) (by omega)
            obtain rfl : (⟨g9, 0, none⟩ : Addr) = ad9 := by injection e
            simp only [Int.toNat_natCast, add_plain] at hq0 hq1 hq2 hq3
            obtain ⟨ad8, e, hb0, hb1, hb2, hb3⟩ := at_T31 (Kd.R_reads' HX6.out).2.2 (i : Int) (by omega) (by omega)
            obtain rfl : (⟨g8, 0, none⟩ : Addr) = ad8 := by injection e
            simp only [Int.toNat_natCast, add_plain] at hb0 hb1 hb2 hb3
            obtain ⟨cells8, hg8⟩ := Kd.R_typed HX6.out g8 rfl
            have hfb := fun q => blk_frozen hg8 q
            have hcs0 := (blk_cell HS6.out 0).trans rfl
            have hcs1 := (blk_cell HS6.out 1).trans rfl
            have pj : ((j : Int) < (sh'.length : Int)) = True := eq_true (by omega)
            have hub := Try.underlying31
            have HP1 := Aside0.mk (Kd.R_seg (d := k31) HX6.out (i : Int) (by omega) (by omega) (c := [.int .i64 (rd_T31 bx (i : Int)).f0, .int .i64 (rd_T31 bx (i : Int)).f1, .int .i64 (rd_T31 bx (i : Int)).f2, .int .i64 (rd_T31 bx (i : Int)).f3]) (seg := [.int .i64 (rd_T31 sh' (j : Int)).f2, .int .i64 (rd_T31 sh' (j : Int)).f1, .int .i64 s0, .int .i64 s1]) (j := 0) rfl
              (fun q u hq => by
                match q, hq with
                | 0, hq => simp at hq; subst hq; exact hb0
                | 1, hq => simp at hq; subst hq; exact hb1
                | 2, hq => simp at hq; subst hq; exact hb2
                | 3, hq => simp at hq; subst hq; exact hb3
                | n + 4, hq => simp at hq) (by show 0 + 4 ≤ 4; omega) (k31_mkM _ _ _ ⟨(rd_T31 sh' (j : Int)).f2, (rd_T31 sh' (j : Int)).f1, s0, s1⟩) (okp := fun _ => False) (fun _ hk => hk.elim))
            simp only [Int.toNat_natCast] at HP1
            go_wp2_with fail
            go_region
            obtain ⟨w7, hw7⟩ : ∃ w7 : World, w7 = (w6.setCells g8 (i * k31.sz + 0) [.int .i64 (rd_T31 sh' (j : Int)).f2, .int .i64 (rd_T31 sh' (j : Int)).f1, .int .i64 s0, .int .i64 s1]).drew := ⟨_, rfl⟩
            have hww : ((((w6.setCell ⟨g8, i * 4, none⟩ (.int .i64 (rd_T31 sh' (j : Int)).f2)).setCell ⟨g8, i * 4 + 1, none⟩ (.int .i64 (rd_T31 sh' (j : Int)).f1)).setCell ⟨g8, i * 4 + 2, none⟩ (.int .i64 s0)).setCell ⟨g8, i * 4 + 3, none⟩ (.int .i64 s1)).drew = w7 := by rw [hw7]; rfl
            have HX7 : Aside0 (Kd.R k31 31 w7 w1.heap.size (fun k_ => True ∧ some k_ ≠ (.slice (some ⟨g9, 0, none⟩) sh'.length c9 : Value).ownBlock) (.slice (some ⟨g8, 0, none⟩) l.length cap8) (bx.set i ⟨(rd_T31 sh' (j : Int)).f2, (rd_T31 sh' (j : Int)).f1, s0, s1⟩)) := ⟨by rw [hw7]; exact Kd.R_drew HP1.out.1⟩
            have HY7 : Aside0 (Kd.R k31 31 w7 w1.heap.size (fun k_ => True ∧ some k_ ≠ (.slice (some ⟨g8, 0, none⟩) l.length cap8 : Value).ownBlock) (.slice (some ⟨g9, 0, none⟩) sh'.length c9') sh') := ⟨by rw [hw7]; exact Kd.R_drew (Kd.R_grown HY6.out HP1.out.2 (fun k hk => hk.2))⟩
            have HO7 : Aside0 (Kd.R (Kd.int .i64) 3 w7 w1.heap.size (fun _ => True) (.slice (some ad6) l.length c6) (intsN (orderL (hOf l) l.length))) := ⟨by rw [hw7]; exact Kd.R_drew (Kd.R_over' HO6.out (Kd.R_typed HX6.out) (by decide) HP1.out.2)⟩
            have HS7 : Aside0 (w7.heap[wr.heap.size]? = some (.cells #[.int .i64 s0, .int .i64 s1] 33 (0, 0))) := ⟨by rw [hw7]; exact blk_drew (blk_grown HS6.out HP1.out.2 (Kd.R_ne HX6.out HS6.out (by decide)))⟩
            have HB7 : Aside0 (Below w1.heap.size w1 w7) := ⟨by rw [hw7]; exact below_drew (HB6.out.grown HP1.out.2 HB6.out.size (fun k hk => Kd.R_base HX6.out k hk))⟩
            rw [hww]
            clear hww hw7 HP1 hq0 hq1 hq2 hq3 hb0 hb1 hb2 hb3 hfb hcs0 hcs1 hg8 hg9 HX6 HY6 HO6 HS6 HB6 cells8 cells9
            obtain ⟨ad9, e, hq0, hq1, hq2, hq3⟩ := at_T31 (Kd.R_reads' HY7.out).2.2 (j : Int) (by omega) (by omega)
            obtain rfl : (⟨g9, 0, none⟩ : Addr) = ad9 := by injection e
            simp only [Int.toNat_natCast, add_plain] at hq0 hq1 hq2 hq3
            obtain ⟨cells9, hg9⟩ := Kd.R_typed HY7.out g9 rfl
            have hfq := fun q => blk_frozen hg9 q
            have hcs0 := (blk_cell HS7.out 0).trans rfl
            have HP2 := Aside0.mk (Kd.R_seg (d := k31) HY7.out (j : Int) (by omega) (by omega) (c := [.int .i64 (rd_T31 sh' (j : Int)).f0, .int .i64 (rd_T31 sh' (j : Int)).f1, .int .i64 (rd_T31 sh' (j : Int)).f2, .int .i64 (rd_T31 sh' (j : Int)).f3]) (seg := [.int .i64 ((rd_T31 sh' (j : Int)).f2 + s0)]) (j := 2) rfl
              (fun q u hq => by
                match q, hq with
                | 0, hq => simp at hq; subst hq; exact hq0
                | 1, hq => simp at hq; subst hq; exact hq1
                | 2, hq => simp at hq; subst hq; exact hq2
                | 3, hq => simp at hq; subst hq; exact hq3
                | n + 4, hq => simp at hq) (by show 2 + 1 ≤ 4; omega) (k31_mkM _ _ _ ⟨(rd_T31 sh' (j : Int)).f0, (rd_T31 sh' (j : Int)).f1, (rd_T31 sh' (j : Int)).f2 + s0, (rd_T31 sh' (j : Int)).f3⟩) (okp := fun _ => False) (fun _ hk => hk.elim))
            simp only [Int.toNat_natCast] at HP2
            have gs : IntKind.i64.wrap ((rd_T31 sh' (j : Int)).f2 + s0) = (rd_T31 sh' (j : Int)).f2 + s0 := IntWalk.i64_in _ (by have := HBD.out; omega)
            go_wp2_with fail
            go_region
            obtain ⟨w8, hw8⟩ : ∃ w8 : World, w8 = (w7.setCells g9 (j * k31.sz + 2) [.int .i64 ((rd_T31 sh' (j : Int)).f2 + s0)]).drew := ⟨_, rfl⟩
            have hww : (w7.setCell ⟨g9, j * 4 + 2, none⟩ (.int .i64 ((rd_T31 sh' (j : Int)).f2 + s0))).drew = w8 := by rw [hw8]; rfl
            have HY8 : Aside0 (Kd.R k31 31 w8 w1.heap.size (fun k_ => True ∧ some k_ ≠ (.slice (some ⟨g8, 0, none⟩) l.length cap8 : Value).ownBlock) (.slice (some ⟨g9, 0, none⟩) sh'.length c9') (sh'.set j ⟨(rd_T31 sh' (j : Int)).f0, (rd_T31 sh' (j : Int)).f1, (rd_T31 sh' (j : Int)).f2 + s0, (rd_T31 sh' (j : Int)).f3⟩)) := ⟨by rw [hw8]; exact Kd.R_drew HP2.out.1⟩
            have HX8 : Aside0 (Kd.R k31 31 w8 w1.heap.size (fun k_ => True ∧ some k_ ≠ (.slice (some ⟨g9, 0, none⟩) sh'.length c9 : Value).ownBlock) (.slice (some ⟨g8, 0, none⟩) l.length cap8) (bx.set i ⟨(rd_T31 sh' (j : Int)).f2, (rd_T31 sh' (j : Int)).f1, s0, s1⟩)) := ⟨by rw [hw8]; exact Kd.R_drew (Kd.R_grown HX7.out HP2.out.2 (fun k hk => hk.2))⟩
            have HO8 : Aside0 (Kd.R (Kd.int .i64) 3 w8 w1.heap.size (fun _ => True) (.slice (some ad6) l.length c6) (intsN (orderL (hOf l) l.length))) := ⟨by rw [hw8]; exact Kd.R_drew (Kd.R_over' HO7.out (Kd.R_typed HY7.out) (by decide) HP2.out.2)⟩
            have HB8 : Aside0 (Below w1.heap.size w1 w8) := ⟨by rw [hw8]; exact below_drew (HB7.out.grown HP2.out.2 HB7.out.size (fun k hk => Kd.R_base HY7.out k hk))⟩
            rw [hww]
            clear hww hw8 HP2 hq0 hq1 hq2 hq3 hfq hcs0 hg9 HX7 HY7 HO7 HS7 HB7 cells9 gs
            go_wp2
            go_roundw
            case rel => exact ⟨k + 1, by omega, by go_num, by rw [HPS.out], HO8, ⟨by rw [HPS.out]; exact HX8.out⟩, ⟨by rw [HPS.out]; exact HY8.out⟩, HB8⟩
            case measure => simp [intOf]; omega
        · obtain rfl : k = l.length := by omega
          have hdk3 : decide ((l.length : Int) < (l.length : Int)) = false := decide_eq_false (by omega)
          go_wp2
          go_ret2
          exact ⟨_, rfl, Kd.R_lower (Kd.R_mono HX.out (fun _ _ => trivial)) HB1.out.size, below_step HB1.out HB.out⟩
theorem impl_PackSprites.calls (A0 : Option Addr) (c0 : Nat) (l0 : List S33) (a1 : Int) (r1 : List S31) (r2 : Int) (w : World) (hr0 : Kd.C k33 w A0 l0.length l0) (hc0 : l0.length ≤ c0) (h : impl_PackSprites.f l0 a1 = some (r1, r2)) :
    Calls Try.prog 6 #[.slice A0 l0.length c0, .int .i64 a1] w fun e w' => ∃ v0_ : Value, e = .returned (.tuple #[v0_, .int .i64 r2]) ∧ Kd.R k31 31 w' w.heap.size (fun _ => True) v0_ r1 ∧ Below w.heap.size w w' := by
  unfold impl_PackSprites.f at h
  by_cases hm : l0.length ≤ 9223372036854775807
  case neg => rw [if_neg hm] at h; cases h
  rw [if_pos hm] at h
  by_cases hk : SprOk l0 a1
  · rw [if_pos hk] at h
    obtain ⟨rfl, rfl⟩ := Prod.mk.inj (Option.some.inj h)
    exact impl_PackSprites.yes A0 c0 l0 a1 w hr0 hk
  · rw [if_neg hk] at h
    obtain ⟨rfl, rfl⟩ := Prod.mk.inj (Option.some.inj h)
    refine (impl_PackSprites.no A0 c0 l0 a1 w hr0 hm hk).mono ?_
    rintro e w1 ⟨rfl, hb⟩
    exact ⟨_, rfl, Kd.R_nil _ _ _ _ _, hb⟩

end Go.Proofs.Ytbpeonhhlfadcaa.Print

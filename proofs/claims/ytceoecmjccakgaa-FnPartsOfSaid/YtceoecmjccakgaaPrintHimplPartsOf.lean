-- laid by hp.py (a program of this work over the kit's print), with contracts by hand for what the print does not take
import Derived.Test.YtceoecmjccakgaaPrint0
import Derived.Test.YtceoecmjccakgaaPrintHimplgridpart
import Derived.Test.YtceoecmjccakgaaPrintHx0
import Derived.Test.YtceoecmjccakgaaPrintHx2
namespace Go.Proofs.Ytceoecmjccakgaa.Print
open Go.RowKit Go.Proofs.YtceoecmjccakgaaW.PrintWords Go.Proofs.YtceoecmjccakgaaW.PrintLast Go.Proofs.YtceoecmjccakgaaW.PrintMore
attribute [local go_sem] max2_int min2_int max_two min_two max_three min_three max_four min_four   -- for this text's walks alone
set_option linter.unusedVariables false
set_option linter.unusedSimpArgs false

--SNIP impl_PartsOf
/-! ### impl_PartsOf: function 8, by hand -/
/-! ### The parts of a region, one after another -/
theorem partsUpto_gap (f : Nat → Bool) (n m : Nat) (hnm : n ≤ m) (hm : m ≤ 256) (h : ∀ p, n ≤ p → p < m → f p = false) : partsUpto f m = partsUpto f n ∧ ∀ q, q < 256 → seenF f m q = seenF f n q := by
  obtain ⟨d, rfl⟩ : ∃ d, m = n + d := ⟨m - n, by omega⟩
  clear hnm
  induction d with
  | zero => exact ⟨rfl, fun _ _ => rfl⟩
  | succ d ih =>
    obtain ⟨h1, h2⟩ := ih (by omega) (fun p a b => h p a (by omega))
    have hf := h (n + d) (by omega) (by omega)
    have h3 : firstF f (n + d) = false := by unfold firstF; rw [hf]; rfl
    exact ⟨by rw [← Nat.add_assoc, partsUpto_not f _ h3, h1], fun q hq => by rw [← Nat.add_assoc, seenF_seen f _ q (by omega) hq h3, h2 q hq]⟩
/-- Where run k begins; 256 behind the last one. -/
def startAt (l : List S45) (k : Nat) : Nat := match l[k]? with
  | some r => 16 * r.f0.toNat + r.f1.toNat
  | none => 256
theorem startAt_run (l : List S45) (k : Nat) (h : k < l.length) : startAt l k = 16 * l[k].f0.toNat + l[k].f1.toNat := by
  unfold startAt
  rw [List.getElem?_eq_getElem h]
theorem startAt_end (l : List S45) (k : Nat) (h : l.length ≤ k) : startAt l k = 256 := by
  unfold startAt
  rw [List.getElem?_eq_none h]
theorem gridF_at (l : List S45) (p : Nat) : gridF l p = true ↔ ∃ j, ∃ h : j < l.length, inRun l[j] p = true := by
  unfold gridF
  rw [List.any_eq_true]
  constructor
  · rintro ⟨r, hr, h⟩
    obtain ⟨j, hj, rfl⟩ := List.getElem_of_mem hr
    exact ⟨j, hj, h⟩
  · rintro ⟨j, hj, h⟩
    exact ⟨_, List.getElem_mem hj, h⟩
theorem run_order (l : List S45) (hv : Valid l) (i j : Nat) (hij : i < j) (hj : j < l.length) : before (l[i]'(by omega)) l[j] := List.pairwise_iff_getElem.1 hv.2 i j (by omega) hj hij
/-- Between two runs there is nothing. -/
theorem gap_runs (l : List S45) (hv : Valid l) (k : Nat) (hk : k < l.length) (p : Nat) (h1 : 16 * l[k].f0.toNat + l[k].f2.toNat ≤ p) (h2 : p < startAt l (k + 1)) : gridF l p = false := by
  cases hg : gridF l p with
  | false => rfl
  | true =>
    obtain ⟨j, hj, hin⟩ := (gridF_at l p).1 hg
    have okj := hv.1 l[j] (List.getElem_mem hj)
    have okk := hv.1 l[k] (List.getElem_mem hk)
    unfold okRun at okj okk
    unfold inRun at hin
    simp only [Bool.and_eq_true, decide_eq_true_eq] at hin
    rcases Nat.lt_trichotomy j k with h | h | h
    · have hb := run_order l hv j k h hk
      unfold before at hb
      omega
    · subst h
      omega
    · have hs : startAt l (k + 1) ≤ 16 * l[j].f0.toNat + l[j].f1.toNat := by
        rw [startAt_run l (k + 1) (by omega)]
        by_cases e : j = k + 1
        · subst e
          exact Nat.le_refl _
        · have hb := run_order l hv (k + 1) j (by omega) hj
          have ok1 := hv.1 l[k + 1] (List.getElem_mem (by omega))
          unfold before at hb
          unfold okRun at ok1
          omega
      omega
theorem gap_first (l : List S45) (hv : Valid l) (p : Nat) (h2 : p < startAt l 0) : gridF l p = false := by
  cases hg : gridF l p with
  | false => rfl
  | true =>
    obtain ⟨j, hj, hin⟩ := (gridF_at l p).1 hg
    have okj := hv.1 l[j] (List.getElem_mem hj)
    unfold okRun at okj
    unfold inRun at hin
    simp only [Bool.and_eq_true, decide_eq_true_eq] at hin
    have hs : startAt l 0 ≤ 16 * l[j].f0.toNat + l[j].f1.toNat := by
      rw [startAt_run l 0 (by omega)]
      by_cases e : j = 0
      · subst e
        exact Nat.le_refl _
      · have hb := run_order l hv 0 j (by omega) hj
        have ok1 := hv.1 l[0] (List.getElem_mem (by omega))
        unfold before at hb
        unfold okRun at ok1
        omega
    omega
theorem startAt_le (l : List S45) (hv : Valid l) (k : Nat) : startAt l k ≤ 256 := by
  by_cases h : k < l.length
  · have ok := hv.1 l[k] (List.getElem_mem h)
    unfold okRun at ok
    rw [startAt_run l k h]
    omega
  · rw [startAt_end l k (by omega)]
    exact Nat.le_refl _
theorem end_start (l : List S45) (hv : Valid l) (k : Nat) (hk : k < l.length) : 16 * l[k].f0.toNat + l[k].f2.toNat ≤ startAt l (k + 1) := by
  have ok := hv.1 l[k] (List.getElem_mem hk)
  unfold okRun at ok
  by_cases h : k + 1 < l.length
  · have hb := run_order l hv k (k + 1) (by omega) h
    have ok1 := hv.1 l[k + 1] (List.getElem_mem h)
    unfold before at hb
    unfold okRun at ok1
    rw [startAt_run l (k + 1) h]
    omega
  · rw [startAt_end l (k + 1) (by omega)]
    omega
set_option maxHeartbeats 8000000 in
set_option maxRecDepth 100000 in
theorem impl_partsOf_1.any (f g : Nat → Bool) (x y : Nat) (hx : x < 16) (hy : y < 16) (b c : Nat) (w : World) (hf : IsGrid w b f) (hg : IsGrid w c g) :
    Calls Try.prog 45 #[.int .i64 x, .int .i64 y, .pointer (some ⟨b, 0, none⟩), .pointer (some ⟨c, 0, none⟩)] w fun e w' => e = .returned (.bool (f (16 * y + x) || g (16 * y + x))) ∧ Below w.heap.size w w' := by
  have hi1 := run_index_grid b y hy
  have hi2 := run_index_line b (y * 16) x hx
  have hi3 := run_index_grid c y hy
  have hi4 := run_index_line c (y * 16) x hx
  have hc := hf.cell (y * 16 + x) (by omega)
  have hd := hg.cell (y * 16 + x) (by omega)
  rw [show 16 * y + x = y * 16 + x by omega]
  clear hf hg
  cases e : f (y * 16 + x) with
  | true =>
    rw [e] at hc
    clear e
    go_enter Try.func45, Try.ntmps45
    go_wp2
    go_ret
    exact ⟨rfl, Below.refl _ _⟩
  | false =>
    rw [e] at hc
    clear e
    cases e : g (y * 16 + x) with
    | false =>
      rw [e] at hd
      clear e
      go_enter Try.func45, Try.ntmps45
      go_wp2
      go_ret
      exact ⟨rfl, Below.refl _ _⟩
    | true =>
      rw [e] at hd
      clear e
      go_enter Try.func45, Try.ntmps45
      go_wp2
      go_ret
      exact ⟨rfl, Below.refl _ _⟩
section
variable {α : Type} {d : Kd α} {e : Nat} {w : World} {base : Nat} {ok : Nat → Prop} {v : Value} {xs : List α}
theorem S_setRow (h : Kd.S d e w base ok v xs) {g : Nat} {old : Nat → Bool} (hg : IsGrid w g old) (ht : ∀ q, q ∈ e :: d.E → q ≠ 50) (f : Nat → Bool) : Kd.S d e (w.setRow g (gcells f)) base ok v xs := by
  have h1 := Kd.S_types h hg.out ht
  exact Kd.S_mono (Kd.S_step h1 (fun k ho _ => setRow_other w g k (gcells f) ho.2)) (fun k hk => hk.1)
theorem blk_setRow {g t b : Nat} {cs : Array Value} (h : w.heap[g]? = some (.cells cs t (0, 0))) (hne : g ≠ b) (f : Nat → Bool) : (w.setRow b (gcells f)).heap[g]? = some (.cells cs t (0, 0)) := (setRow_other w b g (gcells f) hne).trans h
end
theorem run_in (l : List S45) (k : Nat) (h : k < l.length) (Y F T x : Nat) (h0 : l[k].f0 = (Y : Int)) (h1 : l[k].f1 = (F : Int)) (h2 : l[k].f2 = (T : Int)) (hF : F ≤ x) (hT : x < T) (hT16 : T ≤ 16) : gridF l (16 * Y + x) = true := by
  refine (gridF_at l _).2 ⟨k, h, ?_⟩
  unfold inRun
  simp only [Bool.and_eq_true, decide_eq_true_eq]
  rw [h0, h1, h2]
  omega
theorem rows_types : Try.prog.underlying 25 = some (.slice 23) := by kernel_rfl
theorem rows_info : (Try.prog.info? 23).map (fun i => (i.zero, i.size, i.bytes)) = some (some (.slice none 0 0), 1, 24) := by kernel_rfl
set_option maxHeartbeats 8000000 in
set_option maxRecDepth 100000 in
theorem impl_partsOf.any (A0 : Option Addr) (c0 : Nat) (l0 : List S45) (w : World) (hr0 : Kd.C k45 w A0 l0.length l0) (hm0 : l0.length ≤ 9223372036854775807) (hv : Valid l0) :
    Calls Try.prog 26 #[.slice A0 l0.length c0] w fun e w' => ∃ v0_ : Value, e = .returned v0_ ∧ Kd.S (Kd.slice 45 k45) 23 w' w.heap.size (fun _ => True) v0_ (partsUpto (gridF l0) 256) ∧ Below w.heap.size w w' := by
  have hu45 := Try.underlying45
  have HR := Aside0.mk hr0
  have HV := Aside0.mk hv
  have HGO := Aside0.mk (impl_gridOf.any A0 c0 l0 w hr0 hm0 hv.runsOk)
  obtain ⟨f, hf⟩ : ∃ f, f = gridF l0 := ⟨_, rfl⟩
  have HF := Aside0.mk hf
  rw [← hf] at HGO ⊢
  clear hf hr0 hv
  go_enter Try.func26, Try.ntmps26
  go_wp2_with (first
    | (go_at_call 30; refine HGO.out.mono ?_; rintro e w1 ⟨rfl, hb⟩; have HB1 := Aside0.mk hb; clear hb)
    | ((with_reducible refine gate_dst (N := 3) rfl ?_); refine wpList_alloc_grid_abs rfl rfl ?_; intro b3 w2 hc hs hz hb; have HZ2 := Aside0.mk hz; have HB2 := Aside0.mk (below_step HB1.out hb); have HS3 := Aside0.mk (show w.heap.size ≤ b3 from Nat.le_trans (below_size HB1.out) hs); clear hc hs hz hb)
    | ((with_reducible refine gate_store (t := 50) (p := 3) rfl ?_); refine wpList_store_grid_abs rfl _ _ rfl b3 f (fun _ => false) rfl rfl HZ2.out ?_; intro w3 hc hg hb; have HG3 := Aside0.mk hg; have HB3 := Aside0.mk (hb _ _ HS3.out HB2.out); clear hc hg hb)
    | (refine wpList_build_grid rfl rfl ?_)
    | ((with_reducible refine gate_dst (N := 4) rfl ?_); refine wpList_alloc_grid_abs rfl rfl ?_; intro b4 w4 hc hs hz hb; have HZ4 := Aside0.mk hz; have HG4 := Aside0.mk (hc _ _ HG3.out).1; have HNE := Aside0.mk (hc _ _ HG3.out).2; have HB4 := Aside0.mk (below_step HB3.out hb); have HS4 := Aside0.mk (show w.heap.size ≤ b4 from Nat.le_trans (below_size HB3.out) hs); clear hc hs hz hb)
    | ((with_reducible refine gate_store (t := 50) (p := 4) rfl ?_); refine wpList_store_grid_abs rfl _ _ rfl b4 (fun _ => false) (fun _ => false) rfl rfl HZ4.out ?_; intro w5 hc hg hb; have HZ5 := Aside0.mk hg; have HG5 := Aside0.mk (hc _ _ HG4.out HNE.out); have HB5 := Aside0.mk (hb _ _ HS4.out HB4.out); clear hc hg hb)
    | ((with_reducible refine gate_dst (N := 13) rfl ?_); refine Kd.S_lit (Kd.slice 45 k45) _ 23 ?hg (N := 13) ?hd (xs := ([] : List (List S45))) (inner := []) (ok := fun _ => True) (okp := fun _ => True) ?hr ?hp (fun _ hk => hk) trivial (Below.refl _ _) (Nat.le_refl _) (by simp) ?_; (case hd => rfl); (case hg => rfl); (case hr => first | (go_simp; done) | (go_simp; rfl)); (case hp => exact (Reps.none _ _)); intro v6 w6 ho hb hg_ hnew_; clear hg_ hnew_; have HG6 := Aside0.mk (HG5.out.below hb HG5.out.lt); have HZ6 := Aside0.mk (HZ5.out.below hb HZ5.out.lt); have HO6 := Aside0.mk (Kd.S_lower ho (below_size HB5.out)); have HB6 := Aside0.mk (below_step HB5.out hb); clear hb ho))
  clear HGO HB1 HZ2 HB2 HG3 HB3 HZ4 HG4 HB4 HZ5 HG5 HB5
  have HP0 := Aside0.mk (partsUpto_gap f 0 (startAt l0 0) (Nat.zero_le _) (startAt_le l0 HV.out 0) (fun p _ h => by rw [HF.out]; exact gap_first l0 HV.out p h))
  go_loopw [5, 16] (fun v i wr => ∃ k : Nat, k ≤ l0.length ∧ i = .int .i64 k ∧ Aside0 (IsGrid wr b3 f) ∧ Aside0 (IsGrid wr b4 (seenF f (startAt l0 k))) ∧ Aside0 (Kd.S (Kd.slice 45 k45) 23 wr w.heap.size (fun _ => True) v (partsUpto f (startAt l0 k))) ∧ Aside0 (Below w.heap.size w wr)) (fun _ i _ => l0.length - (intOf i).toNat)
  case atStart => exact ⟨0, Nat.zero_le _, rfl, HG6, ⟨HZ6.out.congr (fun p hp => by rw [HP0.out.2 p hp]; rfl)⟩, ⟨by rw [HP0.out.1]; exact HO6.out⟩, HB6⟩
  case round =>
    clear HG6 HZ6 HO6 HB6 HP0
    obtain ⟨k, hk, rfl, HG, HZ, HO, HB⟩ := hrel
    by_cases hlt : k < l0.length
    · obtain ⟨wo, rfl⟩ : ∃ wo : World, wo = wr := ⟨_, rfl⟩
      have hdk : decide ((k : Int) < (l0.length : Int)) = true := decide_eq_true (by omega)
      obtain ⟨ad, e, hx0, hx1, hx2⟩ := at_T45 HR.out (k : Int) (by omega) (by omega)
      cases e
      rw [rdRun_get l0 k hlt] at hx0 hx1 hx2
      simp only [Int.toNat_natCast] at hx0 hx1 hx2
      obtain ⟨v0, v1, v2, v3, v4⟩ := HV.out.1 l0[k] (List.getElem_mem hlt)
      obtain ⟨Y, hY⟩ : ∃ Y : Nat, l0[k].f0 = (Y : Int) := ⟨l0[k].f0.toNat, by omega⟩
      obtain ⟨F, hF⟩ : ∃ F : Nat, l0[k].f1 = (F : Int) := ⟨l0[k].f1.toNat, by omega⟩
      obtain ⟨T, hT⟩ : ∃ T : Nat, l0[k].f2 = (T : Int) := ⟨l0[k].f2.toNat, by omega⟩
      have hY16 : Y < 16 := by omega
      have hFT : F < T := by omega
      have hT16 : T ≤ 16 := by omega
      have HIN : Aside0 (∀ x, F ≤ x → x < T → f (16 * Y + x) = true) := ⟨fun x a b => by rw [HF.out]; exact run_in l0 k hlt Y F T x hY hF hT a b hT16⟩
      have HST : Aside0 (startAt l0 k = 16 * Y + F) := ⟨by rw [startAt_run l0 k hlt, hY, hF]; simp⟩
      have HGP := Aside0.mk (partsUpto_gap f (16 * Y + T) (startAt l0 (k + 1)) (by have h := end_start l0 HV.out k hlt; rw [hY, hT] at h; simpa using h) (startAt_le l0 HV.out (k + 1)) (fun p a b => by rw [HF.out]; exact gap_runs l0 HV.out k hlt p (by rw [hY, hT]; simpa using a) b))
      rw [hY] at hx0
      rw [hF] at hx1
      rw [hT] at hx2
      clear hY hF hT v0 v1 v2 v3 v4
      replace hx0 := (HB.out.cell (World.block_lt_of_cell? w _ hx0)).trans hx0
      replace hx1 := (HB.out.cell (World.block_lt_of_cell? w _ hx1)).trans hx1
      replace hx2 := (HB.out.cell (World.block_lt_of_cell? w _ hx2)).trans hx2
      have HL4 := Aside0.mk HZ.out.lt
      rw [HST.out] at HZ HO
      go_wp2
      go_loopw [5, 8] (fun v i wr => ∃ x : Nat, F ≤ x ∧ x ≤ T ∧ i = .int .i64 x ∧ Aside0 (IsGrid wr b3 f) ∧ Aside0 (IsGrid wr b4 (seenF f (16 * Y + x))) ∧ Aside0 (Kd.S (Kd.slice 45 k45) 23 wr w.heap.size (fun _ => True) v (partsUpto f (16 * Y + x))) ∧ Aside0 (wr.heap[wo.heap.size]? = some (.cells #[.int .i64 Y, .int .i64 F, .int .i64 T] 45 (0, 0))) ∧ Aside0 (Below w.heap.size w wr)) (fun _ i _ => 16 - (intOf i).toNat)
      case atStart => exact ⟨F, by omega, by omega, rfl, ⟨HG.out.alloc _⟩, ⟨HZ.out.alloc _⟩, ⟨Kd.S_alloc HO.out _⟩, ⟨heap_alloc_new wo _⟩, ⟨below_alloc HB.out _⟩⟩
      case round =>
        clear hx0 hx1 hx2 HG HZ HO HB
        obtain ⟨x, hx1, hx2, rfl, HG, HZ, HO, HU, HB⟩ := hrel
        obtain ⟨wi, rfl⟩ : ∃ wi : World, wi = wr := ⟨_, rfl⟩
        have hr0 := (blk_cell HU.out 0).trans rfl
        have hr2 := (blk_cell HU.out 2).trans rfl
        by_cases hlx : x < T
        · have hdx : decide ((x : Int) < (T : Int)) = true := decide_eq_true (by omega)
          have hi1 := run_index_grid b4 Y hY16
          have hi2 := run_index_line b4 (Y * 16) x (by omega)
          have hfn := HIN.out x hx1 hlx
          have hc := HZ.out.cell (Y * 16 + x) (by omega)
          rw [show seenF f (16 * Y + x) (Y * 16 + x) = seenF f (16 * Y + x) (16 * Y + x) by rw [show Y * 16 + x = 16 * Y + x by omega]] at hc
          have HFN := Aside0.mk hfn
          clear hfn
          cases hsn : seenF f (16 * Y + x) (16 * Y + x) with
          | true =>
            rw [hsn] at hc
            have hff : firstF f (16 * Y + x) = false := by unfold firstF; rw [hsn]; simp
            have HN1 := Aside0.mk (partsUpto_not f _ hff)
            have HN2 := Aside0.mk (fun q hq => seenF_seen f (16 * Y + x) q (by omega) hq hff)
            clear hsn hff
            go_wp2
            go_roundw
            case rel => exact ⟨x + 1, by omega, by omega, by go_num, HG, ⟨HZ.out.congr (fun p hp => by rw [← Nat.add_assoc, HN2.out p hp])⟩, ⟨by rw [← Nat.add_assoc, HN1.out]; exact HO.out⟩, HU, HB⟩
            case measure => simp [intOf]; omega
          | false =>
            rw [hsn] at hc
            have hff : firstF f (16 * Y + x) = true := by unfold firstF; rw [hsn, HFN.out]; rfl
            have HN1 := Aside0.mk (partsUpto_first f _ hff)
            have HN2 : Aside0 (∀ q, seenF f (16 * Y + x + 1) q = (seenF f (16 * Y + x) q || partF f (16 * Y + x) q)) := ⟨fun q => by rw [seenF_succ, HFN.out, Bool.true_and]⟩
            have hlen := partsUpto_length f (16 * Y + x)
            have HLEN := Aside0.mk hlen
            clear hsn hff hlen
            have HPT := Aside0.mk (impl_grid_part.any f x Y (by omega) hY16)
            have HCL := Aside0.mk (fun (b9 : Nat) (W : World) (g1 : IsGrid W b4 (seenF f (16 * Y + x))) (g2 : IsGrid W b9 (partF f (16 * Y + x))) => impl_gridBy.at_ 45 _ #[.pointer (some ⟨b4, 0, none⟩), .pointer (some ⟨b9, 0, none⟩)] (fun p => seenF f (16 * Y + x) p || partF f (16 * Y + x) p) Try.func45 (by kernel_rfl) rfl W (fun x' y' w' hx' hy' hb => impl_partsOf_1.any (seenF f (16 * Y + x)) (partF f (16 * Y + x)) x' y' hx' hy' b4 b9 w' (g1.below hb g1.lt) (g2.below hb g2.lt)))
            have HRN := Aside0.mk (impl_grid_runs.any (partF f (16 * Y + x)))
            have HXY := Aside0.mk (show 16 * Y + (x + 1) = 16 * Y + x + 1 by omega)
            generalize hn : 16 * Y + x = n at *
            have HNN := Aside0.mk hn
            clear hn
            have HN43 := Aside0.mk (show b4 ≠ wo.heap.size by have := HL4.out; omega)
            have HL4i := Aside0.mk HZ.out.lt
            go_wp2_with (first
              | (refine wpList_load_grid rfl _ rfl b3 f rfl HG.out ?_)
              | (go_at_call 44; refine (HPT.out _).mono ?_; rintro e w1 ⟨rfl, hb⟩; have HG1 := Aside0.mk (HG.out.below hb HG.out.lt); have HZ1 := Aside0.mk (HZ.out.below hb HZ.out.lt); have HO1 := Aside0.mk (Kd.S_below HO.out hb); have HU1 := Aside0.mk (blk_below HU.out hb); have HB1 := Aside0.mk (below_step HB.out hb); clear hb)
              | ((with_reducible refine gate_dst (N := 9) rfl ?_); refine wpList_alloc_grid_abs rfl rfl ?_; intro b9 w2 hc hs hz hb; have HP2 := Aside0.mk hz; have HSZ9 := Aside0.mk hs; have HB12 := Aside0.mk hb; clear hc hs hz hb)
              | ((with_reducible refine gate_store (t := 50) (p := 9) rfl ?_); refine wpList_store_grid_abs rfl _ _ rfl b9 (partF f n) (fun _ => false) rfl rfl HP2.out ?_; intro w3 hc hg hb; have hb13 := hb _ _ HSZ9.out HB12.out; have HP3 := Aside0.mk hg; have HG3 := Aside0.mk (HG1.out.below hb13 HG1.out.lt); have HZ3 := Aside0.mk (HZ1.out.below hb13 HZ1.out.lt); have HN94 := Aside0.mk (show b9 ≠ b4 by have h1 := HZ1.out.lt; have h2 := HSZ9.out; omega); have HO3 := Aside0.mk (Kd.S_below HO1.out hb13); have HU3 := Aside0.mk (blk_below HU1.out hb13); have HB3 := Aside0.mk (below_step HB1.out hb13); clear hc hg hb hb13)
              | (go_at_call 34; refine (HCL.out b9 _ HZ3.out HP3.out).mono ?_; rintro e w4 ⟨rfl, hb⟩; have HG4 := Aside0.mk (HG3.out.below hb HG3.out.lt); have HZ4 := Aside0.mk (HZ3.out.below hb HZ3.out.lt); have HP4 := Aside0.mk (HP3.out.below hb HP3.out.lt); have HO4 := Aside0.mk (Kd.S_below HO3.out hb); have HU4 := Aside0.mk (blk_below HU3.out hb); have HB4 := Aside0.mk (below_step HB3.out hb); clear hb)
              | ((with_reducible refine gate_store (t := 50) (p := 4) rfl ?_); refine wpList_store_grid rfl _ _ rfl b4 (fun p => seenF f n p || partF f n p) (seenF f n) rfl rfl HZ4.out ?_; obtain ⟨w5, hw5⟩ : ∃ w5, w5 = w4.setRow b4 (gcells fun p => seenF f n p || partF f n p) := ⟨_, rfl⟩; rw [← hw5]; have HG5 : Aside0 (IsGrid w5 b3 f) := ⟨by rw [hw5]; exact HG4.out.otherRow _ _ HNE.out⟩; have HZ5 : Aside0 (IsGrid w5 b4 (fun p => seenF f n p || partF f n p)) := ⟨by rw [hw5]; exact HZ4.out.setRow _⟩; have HP5 : Aside0 (IsGrid w5 b9 (partF f n)) := ⟨by rw [hw5]; exact HP4.out.otherRow _ _ HN94.out⟩; have HO5 : Aside0 (Kd.S (Kd.slice 45 k45) 23 w5 w.heap.size (fun _ => True) u5 (partsUpto f n)) := ⟨by rw [hw5]; exact S_setRow HO4.out HZ4.out (by decide) _⟩; have HU5 : Aside0 (w5.heap[wo.heap.size]? = some (.cells #[.int .i64 Y, .int .i64 F, .int .i64 T] 45 (0, 0))) := ⟨by rw [hw5]; exact blk_setRow HU4.out (fun h => HN43.out h.symm) _⟩; have HB5 : Aside0 (Below w.heap.size w w5) := ⟨by rw [hw5]; exact below_setRow HB4.out _ _ HS4.out⟩; clear hw5)
              | (refine wpList_load_grid rfl _ rfl b9 (partF f n) rfl HP5.out ?_)
              | (go_at_call 32; refine (HRN.out _).mono ?_; rintro e w6 ⟨v6, rfl, hro, hb⟩; have HG6 := Aside0.mk (HG5.out.below hb HG5.out.lt); have HZ6 := Aside0.mk (HZ5.out.below hb HZ5.out.lt); have HO6 := Aside0.mk (Kd.S_old HO5.out hb); have HU6 := Aside0.mk (blk_below HU5.out hb); have HB6 := Aside0.mk (below_step HB5.out hb); have HK6 := Aside0.mk (show ∀ k, w5.heap.size ≤ k → True ∧ some k ≠ (u5 : Value).ownBlock from fun k hk => ⟨trivial, fun he => by have := Kd.S_lt HO5.out k he.symm; omega⟩); obtain ⟨A6, c6, e6⟩ := Kd.R_slice hro; subst e6; have HL6 := Aside0.mk (Kd.R_lower (Kd.R_mono (ok' := fun k => w5.heap.size ≤ k) (Kd.R_bound hro) (fun k hk => hk.2.1)) (below_size HB5.out)); clear hro hb)
              | ((with_reducible refine gate_builtin (b := .append) (xs := #[.tmp 41, .tmp 44]) rfl ?_); at_builtin; refine Kd.S_append (Kd.slice 45 k45) (w0 := w) w.heap.size rfl (.tmp 41) (.tmp 44) 25 23 (.slice none 0 0) 24 rfl rows_types rows_info rfl (by decide) (by omega) u5 (partsUpto f n) (runsL (partF f n)) [.slice A6 (runsL (partF f n)).length c6] (fun _ => True) (fun k => w5.heap.size ≤ k) rfl rfl ?aP ?aK (fun _ _ => trivial) (Kd.S_mono HO6.out (fun k hk => ⟨hk.1, Nat.not_le.2 hk.2⟩)) HB6.out (below_size HB6.out) ?aL ?_; (case aP => exact ⟨_, rfl, HL6.out⟩); (case aK => exact HK6.out); (case aL => have h1 := HLEN.out; have h2 := HNN.out; omega); intro v7 w7 ho hb hg hat; have HO7 := Aside0.mk ho; have HG7 : Aside0 (IsGrid w7 b3 f) := ⟨⟨(hg.block _ HG6.out.lt (Kd.S_ne HO6.out HG6.out.out (by decide))).trans HG6.out.out⟩⟩; have HZ7 : Aside0 (IsGrid w7 b4 (fun p => seenF f n p || partF f n p)) := ⟨⟨(hg.block _ HZ6.out.lt (Kd.S_ne HO6.out HZ6.out.out (by decide))).trans HZ6.out.out⟩⟩; have HU7 : Aside0 (w7.heap[wo.heap.size]? = some (.cells #[.int .i64 Y, .int .i64 F, .int .i64 T] 45 (0, 0))) := ⟨(hg.block _ (blk_lt HU6.out) (Kd.S_ne HO6.out HU6.out (by decide))).trans HU6.out⟩; have HB7 := Aside0.mk hb; clear ho hb hg hat))
            go_roundw
            case rel => exact ⟨x + 1, by omega, by omega, by go_num, HG7, ⟨HZ7.out.congr (fun p _ => by rw [HXY.out, HN2.out])⟩, ⟨by rw [HXY.out, HN1.out]; exact HO7.out⟩, HU7, HB7⟩
            case measure => simp [intOf]; omega
        · have hx' : x = T := by omega
          subst hx'
          have hdx : decide ((x : Int) < (x : Int)) = false := decide_eq_false (by omega)
          go_wp2
          go_roundw
          case rel => exact ⟨k + 1, by omega, by go_num, HG, ⟨HZ.out.congr (fun p hp => (HGP.out.2 p hp).symm)⟩, ⟨by rw [HGP.out.1]; exact HO.out⟩, HB⟩
          case measure => simp [intOf]; omega
    · have hk' : k = l0.length := by omega
      subst hk'
      have he := startAt_end l0 l0.length (Nat.le_refl _)
      rw [he] at HO
      clear he
      go_wp2
      go_ret
      exact ⟨_, rfl, HO.out, HB.out⟩
def impl_PartsOf.f (l0 : List S45) : Option (List (List S45)) := some (if Valid l0 then partsUpto (gridF l0) 256 else [])
set_option maxHeartbeats 8000000 in
set_option maxRecDepth 100000 in
theorem impl_PartsOf.no (A0 : Option Addr) (c0 : Nat) (l0 : List S45) (w : World) (hr0 : Kd.C k45 w A0 l0.length l0) (hc0 : l0.length ≤ c0) (h : ¬ Valid l0) :
    Calls Try.prog 8 #[.slice A0 l0.length c0] w fun e w' => e = .returned (.slice none 0 0) ∧ Below w.heap.size w w' := by
  have HV := Aside0.mk (isRegion_calls A0 c0 l0 w hr0 hc0)
  have HD := Aside0.mk (decide_eq_false h)
  clear hr0 hc0 h
  go_enter Try.func8, Try.ntmps8
  go_wp2_with (go_at_call 25; rw [HD.out] at HV; refine HV.out.mono ?_; rintro e w1 ⟨rfl, hb1⟩; have HB1 := Aside0.mk hb1; clear hb1)
  go_ret
  exact ⟨rfl, HB1.out⟩
set_option maxHeartbeats 8000000 in
set_option maxRecDepth 100000 in
theorem impl_PartsOf.yes (A0 : Option Addr) (c0 : Nat) (l0 : List S45) (w : World) (hr0 : Kd.C k45 w A0 l0.length l0) (hc0 : l0.length ≤ c0) (h : Valid l0) :
    Calls Try.prog 8 #[.slice A0 l0.length c0] w fun e w' => ∃ v0_ : Value, e = .returned v0_ ∧ Kd.S (Kd.slice 45 k45) 23 w' w.heap.size (fun _ => True) v0_ (partsUpto (gridF l0) 256) ∧ Below w.heap.size w w' := by
  have HV := Aside0.mk (isRegion_calls A0 c0 l0 w hr0 hc0)
  have HD := Aside0.mk (decide_eq_true h)
  have HP := Aside0.mk (fun (W : World) (hW : Below w.heap.size w W) => impl_partsOf.any A0 c0 l0 W (Kd.C_below hr0 hW) hr0.2.1 h)
  clear hr0 hc0 h
  go_enter Try.func8, Try.ntmps8
  go_wp2_with (first
    | (go_at_call 25; rw [HD.out] at HV; refine HV.out.mono ?_; rintro e w1 ⟨rfl, hb1⟩; have HB1 := Aside0.mk hb1; clear hb1)
    | (go_at_call 26; refine (HP.out _ HB1.out).mono ?_; rintro e w2 ⟨v0, rfl, ho, hb2⟩; have HO := Aside0.mk (Kd.S_lower ho (below_size HB1.out)); have HB2 := Aside0.mk (below_step HB1.out hb2); clear hb2 ho))
  go_ret
  exact ⟨_, rfl, HO.out, HB2.out⟩
theorem impl_PartsOf.calls (A0 : Option Addr) (c0 : Nat) (l0 : List S45) (r : List (List S45)) (w : World) (hr0 : Kd.C k45 w A0 l0.length l0) (hc0 : l0.length ≤ c0) (h : impl_PartsOf.f l0 = some r) :
    Calls Try.prog 8 #[.slice A0 l0.length c0] w fun e w' => ∃ v0_ : Value, e = .returned v0_ ∧ Kd.S (Kd.slice 45 k45) 23 w' w.heap.size (fun _ => True) v0_ r ∧ Below w.heap.size w w' := by
  obtain rfl := Option.some.inj h
  by_cases hv : Valid l0
  · rw [if_pos hv]
    exact impl_PartsOf.yes A0 c0 l0 w hr0 hc0 hv
  · rw [if_neg hv]
    refine (impl_PartsOf.no A0 c0 l0 w hr0 hc0 hv).mono ?_
    rintro e w1 ⟨rfl, hb⟩
    exact ⟨_, rfl, Kd.S_nil _ _ _ _ _, hb⟩

end Go.Proofs.Ytceoecmjccakgaa.Print

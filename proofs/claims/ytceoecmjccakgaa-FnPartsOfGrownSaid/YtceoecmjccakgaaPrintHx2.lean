-- laid by hp.py (a program of this work over the kit's print), with contracts by hand for what the print does not take
import Derived.Test.YtceoecmjccakgaaPrint0
import Derived.Test.YtceoecmjccakgaaPrintHimplgridgrown
import Derived.Test.YtceoecmjccakgaaPrintHx0
import Derived.Test.YtceoecmjccakgaaPrintR1x4
namespace Go.Proofs.Ytceoecmjccakgaa.Print
open Go.RowKit Go.Proofs.YtceoecmjccakgaaW.PrintWords Go.Proofs.YtceoecmjccakgaaW.PrintLast Go.Proofs.YtceoecmjccakgaaW.PrintMore
attribute [local go_sem] max2_int min2_int max_two min_two max_three min_three max_four min_four   -- for this text's walks alone
set_option linter.unusedVariables false
set_option linter.unusedSimpArgs false

--SNIP hand_Valid
/-! ### Regions: lists of runs in order -/
def okRun (r : S45) : Prop := 0 ≤ r.f0 ∧ r.f0 < 16 ∧ 0 ≤ r.f1 ∧ r.f1 < r.f2 ∧ r.f2 ≤ 16
/-- One run stands ahead of another one. -/
def before (a b : S45) : Prop := a.f0 < b.f0 ∨ (a.f0 = b.f0 ∧ a.f2 < b.f1)
instance (r : S45) : Decidable (okRun r) := by unfold okRun; exact inferInstance
instance (a b : S45) : Decidable (before a b) := by unfold before; exact inferInstance
/-- A region. -/
def Valid (l : List S45) : Prop := (∀ r ∈ l, okRun r) ∧ l.Pairwise before
instance (l : List S45) : Decidable (Valid l) := by unfold Valid; exact inferInstance
theorem Valid.runsOk {l : List S45} (h : Valid l) : RunsOk l := h.1
theorem before_trans {a b c : S45} (hb : okRun b) (h1 : before a b) (h2 : before b c) : before a c := by
  unfold before okRun at *
  omega
/-- What the run at a place must meet. -/
def okAt (l : List S45) (j : Nat) : Prop := okRun (rd_T45 l (j : Int)) ∧ (j = 0 ∨ before (rd_T45 l ((j - 1 : Nat) : Int)) (rd_T45 l (j : Int)))
instance (l : List S45) (j : Nat) : Decidable (okAt l j) := by unfold okAt; exact inferInstance
theorem valid_iff (l : List S45) : Valid l ↔ ∀ j, j < l.length → okAt l j := by
  constructor
  · rintro ⟨h1, h2⟩ j hj
    refine ⟨?_, ?_⟩
    · rw [rdRun_get l j hj]
      exact h1 _ (List.getElem_mem hj)
    · rcases Nat.eq_zero_or_pos j with h0 | h0
      · exact .inl h0
      · rw [rdRun_get l j hj, rdRun_get l (j - 1) (by omega)]
        exact .inr (List.pairwise_iff_getElem.1 h2 (j - 1) j (by omega) hj (by omega))
  · intro h
    have hok : ∀ j (hj : j < l.length), okRun l[j] := fun j hj => by
      have := (h j hj).1
      rwa [rdRun_get l j hj] at this
    have hnext : ∀ j (hj : j + 1 < l.length), before l[j] l[j + 1] := fun j hj => by
      have := (h (j + 1) hj).2
      rw [rdRun_get l (j + 1) hj, show j + 1 - 1 = j by omega, rdRun_get l j (by omega)] at this
      rcases this with h0 | h0
      · omega
      · exact h0
    refine ⟨fun r hr => ?_, List.pairwise_iff_getElem.2 ?_⟩
    · obtain ⟨j, hj, rfl⟩ := List.getElem_of_mem hr
      exact hok j hj
    · intro i j hi hj hij
      obtain ⟨d, rfl⟩ : ∃ d, j = i + 1 + d := ⟨j - (i + 1), by omega⟩
      induction d with
      | zero => exact hnext i hj
      | succ d ih => exact before_trans (hok (i + 1 + d) (by omega)) (ih (by omega) (by omega)) (hnext (i + 1 + d) hj)
theorem impl_isRegion.ev_l0 (l : List S45) (hl : l.length ≤ 9223372036854775807) (d : Nat) : ∀ i, i ≤ l.length → l.length - i = d →
    Ev (fun k => impl_isRegion.l0 k l l (l.length : Int) (i : Int)) (decide (∀ j, j < l.length → i ≤ j → okAt l j)) := by
  induction d with
  | zero =>
    intro i hi hd
    refine Ev.step (fun k => by simp only [impl_isRegion.l0]; rfl) (evNeg (by omega) (evRet ?_))
    rw [eq_comm, decide_eq_true_eq]
    intro j h1 h2
    omega
  | succ d ih =>
    intro i hi hd
    have hlt : i < l.length := by omega
    have hnot : ¬ okAt l i → decide (∀ j, j < l.length → i ≤ j → okAt l j) = false := fun h => by
      rw [decide_eq_false_iff_not]
      exact fun hh => h (hh i hlt (Nat.le_refl _))
    have hyes : okAt l i → decide (∀ j, j < l.length → i ≤ j → okAt l j) = decide (∀ j, j < l.length → i + 1 ≤ j → okAt l j) := fun h => by
      refine decide_eq_decide.mpr ⟨fun hh j h1 h2 => hh j h1 (by omega), fun hh j h1 h2 => ?_⟩
      rcases Nat.eq_or_lt_of_le h2 with h3 | h3
      · subst h3
        exact h
      · exact hh j h1 h3
    have hbad : ∀ a b c, ¬ okAt l i → Ev (fun k => impl_isRegion.j1 k l (i : Int) l (l.length : Int) (i : Int) true a b c) (decide (∀ j, j < l.length → i ≤ j → okAt l j)) := fun a b c h =>
      Ev.step (fun k => by simp only [impl_isRegion.j1]; rfl) (evPos (by trivial) (evRet (hnot h).symm))
    refine Ev.step (fun k => by simp only [impl_isRegion.l0]; rfl) (evPos (by omega) (evPos (by omega) (evPos (by omega) ?_)))
    refine evIf (fun h1 => hbad _ _ _ (fun h => ?_)) (fun h1 => evIf (fun h2 => hbad _ _ _ (fun h => ?_)) (fun h2 => evIf (fun h3 => hbad _ _ _ (fun h => ?_)) (fun h3 => evIf (fun h4 => hbad _ _ _ (fun h => ?_)) (fun h4 => ?_))))
    · have := h.1.1; omega
    · have := h.1.2.1; omega
    · have := h.1.2.2.1; omega
    · have := h.1.2.2.2.1; omega
    · refine Ev.step (fun k => by simp only [impl_isRegion.j1]; rfl) (evIf (fun h5 => evRet (hnot (fun h => ?_)).symm) (fun h5 => ?_))
      · have := h.1.2.2.2.2
        simp at h5
        omega
      · have hr : okRun (rd_T45 l (i : Int)) := by
          simp at h5
          unfold okRun
          omega
        have hw : wrap64 ((i : Int) + 1) = ((i + 1 : Nat) : Int) := wrapSucc i (by omega)
        rw [hw]
        refine evIf (fun h6 => ?_) (fun h6 => ?_)
        · rw [hyes ⟨hr, .inl (by omega)⟩]
          exact ih (i + 1) (by omega) (by omega)
        · have hw2 : wrap64 ((i : Int) - 1) = ((i - 1 : Nat) : Int) := by unfold wrap64; omega
          rw [hw2]
          refine evPos (by omega) (evPos (by omega) (evIf (fun h7 => evRet (hnot fun h => ?_).symm) (fun h7 => evIf (fun h8 => evIf (fun h9 => evRet (hnot fun h => ?_).symm) (fun h9 => ?_)) (fun h8 => ?_))))
          · have := h.2
            unfold before at this
            omega
          · have := h.2
            unfold before at this
            omega
          · rw [hyes ⟨hr, .inr (by unfold before; omega)⟩]
            exact ih (i + 1) (by omega) (by omega)
          · rw [hyes ⟨hr, .inr (by unfold before; omega)⟩]
            exact ih (i + 1) (by omega) (by omega)
/-- impl.isRegion tells whether a list is a region. -/
theorem impl_isRegion.ev (l : List S45) (hl : l.length ≤ 9223372036854775807) : Ev (fun k => impl_isRegion.f k l) (decide (Valid l)) := by
  have h := impl_isRegion.ev_l0 l hl l.length 0 (by omega) (by omega)
  unfold impl_isRegion.f
  have e : decide (∀ j, j < l.length → 0 ≤ j → okAt l j) = decide (Valid l) := decide_eq_decide.mpr (by rw [valid_iff]; exact ⟨fun h j hj => h j hj (Nat.zero_le _), fun h j hj _ => h j hj⟩)
  rw [e] at h
  exact h
/-- .. and so does the call of it. -/
theorem isRegion_calls (A0 : Option Addr) (c0 : Nat) (l0 : List S45) (w : World) (hr0 : Kd.C k45 w A0 l0.length l0) (hc0 : l0.length ≤ c0) :
    Calls Try.prog 25 #[.slice A0 l0.length c0] w fun e w' => e = .returned (.bool (decide (Valid l0))) ∧ Below w.heap.size w w' := by
  obtain ⟨k, hk⟩ := (impl_isRegion.ev l0 hr0.2.1).rounds
  exact impl_isRegion.calls k A0 c0 l0 _ w hr0 hc0 hk

--SNIP impl_GrowRegion
/-! ### impl_GrowRegion: function 14, by hand -/
def impl_GrowRegion.f (l0 : List S45) (a1 : Int) : Option (List S45) := some (if Valid l0 ∧ 0 ≤ a1 ∧ a1 ≤ 16 then runsL (growN (gridF l0) a1.toNat) else [])
set_option maxHeartbeats 8000000 in
set_option maxRecDepth 100000 in
theorem impl_GrowRegion.no (A0 : Option Addr) (c0 : Nat) (l0 : List S45) (a1 : Int) (w : World) (hr0 : Kd.C k45 w A0 l0.length l0) (hc0 : l0.length ≤ c0) (h : ¬ Valid l0) :
    Calls Try.prog 14 #[.slice A0 l0.length c0, .int .i64 a1] w fun e w' => e = .returned (.slice none 0 0) ∧ Below w.heap.size w w' := by
  have HV := Aside0.mk (isRegion_calls A0 c0 l0 w hr0 hc0)
  have HD := Aside0.mk (decide_eq_false h)
  clear hr0 hc0 h
  go_enter Try.func14, Try.ntmps14
  go_wp2_with (go_at_call 25; rw [HD.out] at HV; refine HV.out.mono ?_; rintro e w1 ⟨rfl, hb1⟩; have HB1 := Aside0.mk hb1; clear hb1)
  go_ret
  exact ⟨rfl, HB1.out⟩
set_option maxHeartbeats 8000000 in
set_option maxRecDepth 100000 in
theorem impl_GrowRegion.low (A0 : Option Addr) (c0 : Nat) (l0 : List S45) (a1 : Int) (w : World) (hr0 : Kd.C k45 w A0 l0.length l0) (hc0 : l0.length ≤ c0) (h : Valid l0) (hn : a1 < 0) :
    Calls Try.prog 14 #[.slice A0 l0.length c0, .int .i64 a1] w fun e w' => e = .returned (.slice none 0 0) ∧ Below w.heap.size w w' := by
  have HV := Aside0.mk (isRegion_calls A0 c0 l0 w hr0 hc0)
  have HD := Aside0.mk (decide_eq_true h)
  have d0 : decide (a1 < 0) = true := decide_eq_true hn
  clear hr0 hc0 h hn
  go_enter Try.func14, Try.ntmps14
  go_wp2_with (go_at_call 25; rw [HD.out] at HV; refine HV.out.mono ?_; rintro e w1 ⟨rfl, hb1⟩; have HB1 := Aside0.mk hb1; clear hb1)
  go_ret
  exact ⟨rfl, HB1.out⟩
set_option maxHeartbeats 8000000 in
set_option maxRecDepth 100000 in
theorem impl_GrowRegion.high (A0 : Option Addr) (c0 : Nat) (l0 : List S45) (a1 : Int) (w : World) (hr0 : Kd.C k45 w A0 l0.length l0) (hc0 : l0.length ≤ c0) (h : Valid l0) (hn : 16 < a1) :
    Calls Try.prog 14 #[.slice A0 l0.length c0, .int .i64 a1] w fun e w' => e = .returned (.slice none 0 0) ∧ Below w.heap.size w w' := by
  have HV := Aside0.mk (isRegion_calls A0 c0 l0 w hr0 hc0)
  have HD := Aside0.mk (decide_eq_true h)
  have d0 : decide (a1 < 0) = false := decide_eq_false (by omega)
  have d1 : decide (16 < a1) = true := decide_eq_true hn
  clear hr0 hc0 h hn
  go_enter Try.func14, Try.ntmps14
  go_wp2_with (go_at_call 25; rw [HD.out] at HV; refine HV.out.mono ?_; rintro e w1 ⟨rfl, hb1⟩; have HB1 := Aside0.mk hb1; clear hb1)
  go_ret
  exact ⟨rfl, HB1.out⟩
set_option maxHeartbeats 8000000 in
set_option maxRecDepth 100000 in
theorem impl_GrowRegion.yes (A0 : Option Addr) (c0 : Nat) (l0 : List S45) (a1 : Int) (w : World) (hr0 : Kd.C k45 w A0 l0.length l0) (hc0 : l0.length ≤ c0) (h : Valid l0) (h0 : 0 ≤ a1) (h1 : a1 ≤ 16) :
    Calls Try.prog 14 #[.slice A0 l0.length c0, .int .i64 a1] w fun e w' => ∃ v0_ : Value, e = .returned v0_ ∧ Kd.R k45 45 w' w.heap.size (fun _ => True) v0_ (runsL (growN (gridF l0) a1.toNat)) ∧ Below w.heap.size w w' := by
  obtain ⟨n, rfl⟩ := Int.eq_ofNat_of_zero_le h0
  have d0 : decide ((n : Int) < 0) = false := decide_eq_false (by omega)
  have d1 : decide (16 < (n : Int)) = false := decide_eq_false (by omega)
  have hn16 : n ≤ 16 := by omega
  clear h0 h1
  have HV := Aside0.mk (isRegion_calls A0 c0 l0 w hr0 hc0)
  have HD := Aside0.mk (decide_eq_true h)
  have HR := Aside0.mk hr0
  have HV2 := Aside0.mk h
  clear hr0 hc0 h
  go_enter Try.func14, Try.ntmps14
  go_wp2_with (first
    | (go_at_call 25; rw [HD.out] at HV; refine HV.out.mono ?_; rintro e w1 ⟨rfl, hb1⟩; have HB1 := Aside0.mk hb1; clear hb1)
    | (go_at_call 30; refine (impl_gridOf.any A0 c0 l0 _ (Kd.C_below HR.out HB1.out) HR.out.2.1 HV2.out.runsOk).mono ?_; rintro e w2 ⟨rfl, hb2⟩; have HB2 := Aside0.mk (below_step HB1.out hb2); clear hb2)
    | (go_at_call 31; refine (impl_grid_grown.any _ n hn16 _).mono ?_; rintro e w3 ⟨rfl, hb3⟩; have HB3 := Aside0.mk (below_step HB2.out hb3); clear hb3)
    | (go_at_call 32; refine (impl_grid_runs.any _ _).mono ?_; rintro e w4 ⟨v0, rfl, ho, hb4⟩; have HO := Aside0.mk (Kd.R_lower ho (below_size HB3.out)); have HB4 := Aside0.mk (below_step HB3.out hb4); clear hb4 ho))
  go_ret
  exact ⟨_, rfl, HO.out, HB4.out⟩
theorem impl_GrowRegion.calls (A0 : Option Addr) (c0 : Nat) (l0 : List S45) (a1 : Int) (r : List S45) (w : World) (hr0 : Kd.C k45 w A0 l0.length l0) (hc0 : l0.length ≤ c0) (h : impl_GrowRegion.f l0 a1 = some r) :
    Calls Try.prog 14 #[.slice A0 l0.length c0, .int .i64 a1] w fun e w' => ∃ v0_ : Value, e = .returned v0_ ∧ Kd.R k45 45 w' w.heap.size (fun _ => True) v0_ r ∧ Below w.heap.size w w' := by
  obtain rfl := Option.some.inj h
  clear h
  by_cases hv : Valid l0
  · by_cases h0 : 0 ≤ a1
    · by_cases h1 : a1 ≤ 16
      · rw [if_pos ⟨hv, h0, h1⟩]
        exact impl_GrowRegion.yes A0 c0 l0 a1 w hr0 hc0 hv h0 h1
      · rw [if_neg (fun h => h1 h.2.2)]
        refine (impl_GrowRegion.high A0 c0 l0 a1 w hr0 hc0 hv (by omega)).mono ?_
        rintro e w1 ⟨rfl, hb⟩
        exact ⟨_, rfl, Kd.R_nil _ _ _ _ _, hb⟩
    · rw [if_neg (fun h => h0 h.2.1)]
      refine (impl_GrowRegion.low A0 c0 l0 a1 w hr0 hc0 hv (by omega)).mono ?_
      rintro e w1 ⟨rfl, hb⟩
      exact ⟨_, rfl, Kd.R_nil _ _ _ _ _, hb⟩
  · rw [if_neg (fun h => hv h.1)]
    refine (impl_GrowRegion.no A0 c0 l0 a1 w hr0 hc0 hv).mono ?_
    rintro e w1 ⟨rfl, hb⟩
    exact ⟨_, rfl, Kd.R_nil _ _ _ _ _, hb⟩

end Go.Proofs.Ytceoecmjccakgaa.Print

/- FnHalveImage answers true for every code: halving is scaling by areas to half the size. No condition. -/
import Derived.Test.YtebnppmojkgndaaPrintHimplHalveImage
import Derived.Test.YtebnppmojkgndaaPrintHimplScaleArea
import Derived.Test.YtebnppmojkgndaaPrintHimplimageBy
import Derived.Test.YtebnppmojkgndaaPrintHx0
import Derived.Test.YtebnppmojkgndaaPrintHx2
import Derived.Test.YtebnppmojkgndaaPrintLFnHalveImage
import Derived.Test.YtebnppmojkgndaaPrintR0x0
import Derived.Test.YtebnppmojkgndaaPrintR1x0
import Derived.Test.YtebnppmojkgndaaPrintR1x1
import Derived.Test.YtebnppmojkgndaaPrintR1x2
import Derived.Test.YtebnppmojkgndaaPrintR1x3
import Derived.Test.YtebnppmojkgndaaPrintR1x4
import Derived.Test.YtebnppmojkgndaaPrintR1x5
namespace Go.Proofs.Ytebnppmojkgndaa.Pure
open Go.RowKit Go.Proofs.Ytebnppmojkgndaa.Print Go.Proofs.YtebnppmojkgndaaW.PrintWords Go.Proofs.YtebnppmojkgndaaW.PrintLast Go.Proofs.YtebnppmojkgndaaW.PrintMore
set_option linter.unusedVariables false
set_option linter.unusedSimpArgs false
theorem rdN (l : List Int) (k : Nat) (h : k < l.length) : rd l (k : Int) = l[k] := by
  simp [rd, List.getD_eq_getElem?_getD, List.getElem?_eq_getElem h]
theorem drop_cons_ {α : Type} (l : List α) (k : Nat) (h : k < l.length) : l.drop k = l[k] :: l.drop (k + 1) := List.drop_eq_getElem_cons h
/-- Two lists of one length, from a place on. -/
theorem decide_drop_eq {α : Type} [DecidableEq α] (a b : List α) (i : Nat) (h1 : i < a.length) (h2 : i < b.length) : decide (a.drop i = b.drop i) = (decide (a[i] = b[i]) && decide (a.drop (i + 1) = b.drop (i + 1))) := by
  rw [drop_cons_ a i h1, drop_cons_ b i h2]
  rw [Bool.eq_iff_iff]
  simp only [decide_eq_true_eq, Bool.and_eq_true, List.cons.injEq]

/-- A code that a reader reads. -/
def CodeOk (b : List Int) : Prop := b.length ≤ 2000 ∧ ∀ x ∈ b, 0 ≤ x ∧ x ≤ 255
theorem code_rd (b : List Int) (h : CodeOk b) (i : Int) (h0 : 0 ≤ i) (h1 : i < b.length) : 0 ≤ rd b i ∧ rd b i ≤ 255 := by
  obtain ⟨n, rfl⟩ := Int.eq_ofNat_of_zero_le h0
  rw [rdN b n (by omega)]
  exact h.2 _ (List.getElem_mem _)
theorem xor_nonneg (a b : Int) (ha : 0 ≤ a) (ha1 : a < 4611686018427387904) (hb : 0 ≤ b) (hb1 : b < 4611686018427387904) : 0 ≤ Go.bits .xor .i64 a b := by
  obtain ⟨n, rfl⟩ := Int.eq_ofNat_of_zero_le ha
  obtain ⟨m, rfl⟩ := Int.eq_ofNat_of_zero_le hb
  have hx : n ^^^ m < 2 ^ 62 := Nat.xor_lt_two_pow (by omega) (by omega)
  have e : Go.bits .xor .i64 (n : Int) (m : Int) = ((n ^^^ m : Nat) : Int) := by
    have hp : (2 : Nat) ^ IntKind.i64.bits = 18446744073709551616 := by decide
    have ha' : n % 2 ^ IntKind.i64.bits = n := Nat.mod_eq_of_lt (by omega)
    have hb' : m % 2 ^ IntKind.i64.bits = m := Nat.mod_eq_of_lt (by omega)
    simp only [bits, BitVec.ofInt_natCast, BitVec.toNat_xor, BitVec.toNat_ofNat, ha', hb']
    rw [IntKind.wrap_i64]
    omega
  rw [e]
  omega
theorem spec_reader_pick.ev (b : List Int) (h : CodeOk b) (p n : Int) (hp0 : 0 ≤ p) (hp1 : p < 1000000000) (hn : n ≤ 1000000) : ∃ v, Ev (fun k => spec_reader_pick.f k b p n) (v, p + 1) ∧ 0 ≤ v ∧ (v < n ∨ v = 0) := by
  have hw : wrap64 (p + 1) = p + 1 := wrapIn (by omega) (by omega)
  have hw1 : wrap64 (p + 1 - 1) = p := by rw [wrapIn (by omega) (by omega)]; omega
  unfold spec_reader_pick.f
  rw [hw]
  by_cases hn1 : n < 1
  · refine ⟨0, evPos hn1 (Ev.step (fun k => by simp only [spec_reader_pick.j0]; rfl) (evPos (by trivial) (evRet rfl))), by omega, .inr rfl⟩
  by_cases hb : (b.length : Int) = 0
  · refine ⟨0, evNeg hn1 (Ev.step (fun k => by simp only [spec_reader_pick.j0]; rfl) (evPos (by simp [hb]) (evRet rfl))), by omega, .inr rfl⟩
  have hbf : ((b.length : Int) == 0) = false := by simpa using hb
  have hl := h.1
  by_cases hlt : p < (b.length : Int)
  · have hr := code_rd b h p hp0 hlt
    refine ⟨Int.tmod (wrap64 (rd b p)) n, evNeg hn1 (Ev.step (fun k => by simp only [spec_reader_pick.j0, hbf, hw1]; rfl) (evNeg (by simp) (evPos hlt (evPos hp0 (evNeg (by omega) (evRet rfl)))))), ?_, .inl ?_⟩
    · exact Int.tmod_nonneg _ (by rw [wrapIn (by omega) (by omega)]; omega)
    · exact Int.tmod_lt_of_pos _ (by omega)
  · have hm0 : 0 ≤ Int.tmod p (b.length : Int) := Int.tmod_nonneg _ hp0
    have hm1 : Int.tmod p (b.length : Int) < b.length := Int.tmod_lt_of_pos _ (by omega)
    have hq : wrap64 (wrap64 (p * 7) + 3) = p * 7 + 3 := by rw [wrapIn (x := p * 7) (by omega) (by omega), wrapIn (by omega) (by omega)]
    have hk0 : 0 ≤ Int.tmod (p * 7 + 3) (b.length : Int) := Int.tmod_nonneg _ (by omega)
    have hk1 : Int.tmod (p * 7 + 3) (b.length : Int) < b.length := Int.tmod_lt_of_pos _ (by omega)
    have r1 := code_rd b h _ hm0 hm1
    have r2 := code_rd b h _ hk0 hk1
    have hd0 : 0 ≤ Int.tdiv p (b.length : Int) := Int.tdiv_nonneg hp0 (by omega)
    have hd1 : Int.tdiv p (b.length : Int) ≤ p := by
      have := Int.natAbs_tdiv_le_natAbs p (b.length : Int)
      omega
    refine ⟨_, evNeg hn1 (Ev.step (fun k => by simp only [spec_reader_pick.j0, hbf, hw1, hq]; rfl) (evNeg (by simp) (evNeg hlt (evNeg hb (evPos hm0 (evPos hm1 (evPos hk0 (evPos hk1 (evNeg (by omega) (evRet rfl)))))))))), ?_, .inl (Int.tmod_lt_of_pos _ (by omega))⟩
    generalize rd b (Int.tmod p (b.length : Int)) = u at *
    generalize rd b (Int.tmod (p * 7 + 3) (b.length : Int)) = t at *
    generalize Int.tdiv p (b.length : Int) = q at *
    rw [wrapIn (x := u) (by omega) (by omega), wrapIn (x := t) (by omega) (by omega), wrapIn (x := q) (by omega) (by omega), wrapIn (x := u * 131) (by omega) (by omega), wrapIn (x := t * 1117) (by omega) (by omega), wrapIn (x := u * 131 + t * 1117) (by omega) (by omega), wrapIn (x := p * 29) (by omega) (by omega), wrapIn (x := u * 131 + t * 1117 + p * 29) (by omega) (by omega), wrapIn (x := q * 53) (by omega) (by omega), wrapIn (x := u * 131 + t * 1117 + p * 29 + q * 53) (by omega) (by omega)]
    generalize hX : u * 131 + t * 1117 + p * 29 + q * 53 = X
    have hX0 : 0 ≤ X := by omega
    have hX1 : X < 4611686018427387904 := by omega
    have hT0 : 0 ≤ Int.tdiv X 64 := Int.tdiv_nonneg hX0 (by omega)
    have hT1 : Int.tdiv X 64 ≤ X := by
      have := Int.natAbs_tdiv_le_natAbs X 64
      omega
    rw [wrapIn (x := Int.tdiv X 64) (by omega) (by omega)]
    exact Int.tmod_nonneg _ (xor_nonneg _ _ hX0 hX1 hT0 (by omega))
theorem spec_newReader.ev (l : List Int) (hw : ∀ x ∈ l, (Lit.int .u8 x).wf = true) : ∃ b, spec_newReader.f l = some (b, 0) ∧ CodeOk b := by
  have hx : ∀ x ∈ l, 0 ≤ x ∧ x ≤ 255 := fun x hx => by
    have := hw x hx
    have hmin : IntKind.u8.min = 0 := rfl
    have hmax : IntKind.u8.max = 255 := rfl
    simp only [Lit.wf, Bool.and_eq_true, decide_eq_true_eq] at this
    omega
  unfold spec_newReader.f
  by_cases h : (l.length : Int) > 2000
  · rw [if_pos h, if_pos (by omega)]
    exact ⟨_, rfl, by simp; omega, fun x h2 => hx x (List.mem_of_mem_take h2)⟩
  · rw [if_neg h]
    exact ⟨_, rfl, by omega, hx⟩

theorem spec_reader_one.ev (b : List Int) (h : CodeOk b) (p : Int) (hp0 : 0 ≤ p) (hp1 : p < 1000000000) (l : List Int) (hl0 : 0 < l.length) (hl1 : l.length ≤ 1000) : ∃ v, Ev (fun k => spec_reader_one.f k b p l) (v, p + 1) ∧ v ∈ l := by
  obtain ⟨v, hv, h0, h1⟩ := spec_reader_pick.ev b h p (l.length : Int) hp0 hp1 (by omega)
  have hlt : v < l.length := by omega
  refine ⟨rd l v, ?_, ?_⟩
  · unfold spec_reader_one.f
    exact evBind hv (evPos h0 (evPos hlt (evRet rfl)))
  · obtain ⟨n, rfl⟩ := Int.eq_ofNat_of_zero_le h0
    rw [rdN l n (by omega)]
    exact List.getElem_mem _

def Bytes (l : List Int) : Prop := ∀ x ∈ l, 0 ≤ x ∧ x ≤ 255
theorem Bytes.set {l : List Int} (h : Bytes l) (i : Nat) (v : Int) (h0 : 0 ≤ v) (h1 : v ≤ 255) : Bytes (l.set i v) := by
  intro x hx
  rcases List.mem_or_eq_of_mem_set hx with hx | rfl
  · exact h x hx
  · exact ⟨h0, h1⟩
theorem spec_newImage.val (a b c : Int) (ha : 1 ≤ a ∧ a ≤ 16) (hb : 1 ≤ b ∧ b ≤ 16) (hc : 1 ≤ c ∧ c ≤ 4) : spec_newImage.f a b c = some (a, b, c, List.replicate (a * b * c).toNat 0) := by
  obtain ⟨h1, h2, h3, h4⟩ := shape_prod ha hb hc
  unfold spec_newImage.f
  rw [shape_wrap ha hb hc, if_pos (by omega), if_pos (by omega)]
theorem spec_randomImage.ev_l0 (b : List Int) (h : CodeOk b) (kind W H n : Int) (N : Nat) (hN : N ≤ 100000) (d : Nat) : ∀ (i : Nat) (at_ p : Int) (l : List Int), l.length = N → i ≤ N → N - i = d → 0 ≤ at_ → at_ ≤ 255 → Bytes l → 0 ≤ p → p + d < 1000000000 →
    ∃ l' q, Ev (fun k => spec_randomImage.l0 k kind at_ (i : Int) b p W H n l) (W, H, n, l', q) ∧ l'.length = N ∧ Bytes l' ∧ p ≤ q ∧ q ≤ p + d := by
  induction d with
  | zero =>
    intro i at_ p l hl hi hd _ _ hb hp _
    exact ⟨l, p, Ev.step (fun k => by simp only [spec_randomImage.l0]; rfl) (evNeg (by omega) (evRet rfl)), hl, hb, by omega, by omega⟩
  | succ d ih =>
    intro i at_ p l hl hi hd h0 h1 hb hp hpd
    have hlt : (i : Int) < (l.length : Int) := by omega
    by_cases k0 : kind = 0
    · obtain ⟨v, hv, v0, v1⟩ := spec_reader_pick.ev b h p 256 hp (by omega) (by omega)
      obtain ⟨l', q, he, e1, e2, e3, e4⟩ := ih (i + 1) v (p + 1) (l.set (i : Int).toNat v) (by simpa using hl) (by omega) (by omega) v0 (by omega) (hb.set _ v v0 (by omega)) (by omega) (by omega)
      refine ⟨l', q, Ev.step (fun k => by simp only [spec_randomImage.l0, wrapSucc i (by omega)]; rfl) (evPos hlt (evPos k0 (evBind hv ?_))), e1, e2, by omega, by omega⟩
      exact evPos (show (0 : Int) ≤ (i : Int) by omega) he
    by_cases k1 : kind = 1
    · obtain ⟨v, hv, v0, v1⟩ := spec_reader_pick.ev b h p 5 hp (by omega) (by omega)
      have hw : wrap64 (wrap64 (at_ + v) + 254) = at_ + v + 254 := by rw [wrapIn (x := at_ + v) (by omega) (by omega), wrapIn (by omega) (by omega)]
      have t0 := Int.tmod_nonneg 256 (show 0 ≤ at_ + v + 254 by omega)
      have t1 := Int.tmod_lt_of_pos (at_ + v + 254) (show (0 : Int) < 256 by omega)
      obtain ⟨l', q, he, e1, e2, e3, e4⟩ := ih (i + 1) (Int.tmod (at_ + v + 254) 256) (p + 1) (l.set (i : Int).toNat (Int.tmod (at_ + v + 254) 256)) (by simpa using hl) (by omega) (by omega) t0 (by omega) (hb.set _ _ t0 (by omega)) (by omega) (by omega)
      refine ⟨l', q, Ev.step (fun k => by simp only [spec_randomImage.l0, wrapSucc i (by omega)]; rfl) (evPos hlt (evNeg k0 (evPos k1 (evBind hv ?_)))), e1, e2, by omega, by omega⟩
      simp only [hw]
      exact evPos (show (0 : Int) ≤ (i : Int) by omega) he
    by_cases k2 : kind = 2
    · obtain ⟨v, hv, v0, v1⟩ := spec_reader_pick.ev b h p 4 hp (by omega) (by omega)
      have hw : wrap64 (60 * v) = 60 * v := wrapIn (by omega) (by omega)
      obtain ⟨l', q, he, e1, e2, e3, e4⟩ := ih (i + 1) (60 * v) (p + 1) (l.set (i : Int).toNat (60 * v)) (by simpa using hl) (by omega) (by omega) (by omega) (by omega) (hb.set _ _ (by omega) (by omega)) (by omega) (by omega)
      refine ⟨l', q, Ev.step (fun k => by simp only [spec_randomImage.l0, wrapSucc i (by omega)]; rfl) (evPos hlt (evNeg k0 (evNeg k1 (evPos k2 (evBind hv ?_))))), e1, e2, by omega, by omega⟩
      simp only [hw]
      exact evPos (show (0 : Int) ≤ (i : Int) by omega) he
    · obtain ⟨l', q, he, e1, e2, e3, e4⟩ := ih (i + 1) at_ p (l.set (i : Int).toNat at_) (by simpa using hl) (by omega) (by omega) h0 h1 (hb.set _ _ h0 h1) (by omega) (by omega)
      exact ⟨l', q, Ev.step (fun k => by simp only [spec_randomImage.l0, wrapSucc i (by omega)]; rfl) (evPos hlt (evNeg k0 (evNeg k1 (evNeg k2 (evPos (by omega) he))))), e1, e2, by omega, by omega⟩
theorem spec_randomImage.ev (b : List Int) (h : CodeOk b) (p : Int) (hp0 : 0 ≤ p) (hp1 : p < 900000000) (n : Int) (hn : 1 ≤ n ∧ n ≤ 4) :
    ∃ W H l q, Ev (fun k => spec_randomImage.f k b p n) (W, H, n, l, q) ∧ ImgOk W H n l ∧ W ≤ 8 ∧ H ≤ 8 ∧ p ≤ q ∧ q ≤ p + 2000 := by
  obtain ⟨W, hW, mW⟩ := spec_reader_one.ev b h p hp0 (by omega) [3, 4, 2, 5, 1, 8, 6] (by simp) (by simp)
  obtain ⟨H, hH, mH⟩ := spec_reader_one.ev b h (p + 1) (by omega) (by omega) [3, 2, 4, 1, 5, 8] (by simp) (by simp)
  obtain ⟨kd, hk, k0, k1⟩ := spec_reader_pick.ev b h (p + 1 + 1) 4 (by omega) (by omega) (by omega)
  obtain ⟨at_, ha, a0, a1⟩ := spec_reader_pick.ev b h (p + 1 + 1 + 1) 256 (by omega) (by omega) (by omega)
  have bW : 1 ≤ W ∧ W ≤ 8 := by
    simp only [List.mem_cons, List.mem_nil_iff, or_false] at mW
    omega
  have bH : 1 ≤ H ∧ H ≤ 8 := by
    simp only [List.mem_cons, List.mem_nil_iff, or_false] at mH
    omega
  have hI := spec_newImage.val W H n ⟨bW.1, by omega⟩ ⟨bH.1, by omega⟩ hn
  obtain ⟨_, _, h3, h4⟩ := shape_prod (a := W) (b := H) (c := n) ⟨bW.1, by omega⟩ ⟨bH.1, by omega⟩ hn
  obtain ⟨l', q, he, e1, e2, e3, e4⟩ := spec_randomImage.ev_l0 b h kd W H n (W * H * n).toNat (by omega) (W * H * n).toNat 0 at_ (p + 1 + 1 + 1 + 1) (List.replicate (W * H * n).toNat 0) (by simp) (by omega) (by omega) a0 (by omega)
    (fun x hx => by rw [List.mem_replicate] at hx; omega) (by omega) (by omega)
  refine ⟨W, H, l', q, ?_, ⟨⟨bW.1, by omega⟩, ⟨bH.1, by omega⟩, hn, by omega, e2⟩, bW.2, bH.2, by omega, by omega⟩
  unfold spec_randomImage.f
  exact evBind hW (evBind hH (evFix hI (evBind hk (evBind ha he))))
theorem spec_spoilImage.ev (b : List Int) (h : CodeOk b) (p : Int) (hp0 : 0 ≤ p) (hp1 : p < 900000000) (W H n : Int) (l : List Int) (hl : 0 < l.length) :
    ∃ W' H' n' l' q, Ev (fun k => spec_spoilImage.f k b p W H n l) (W', H', n', l', q) ∧ l'.length ≤ l.length ∧ p ≤ q ∧ q ≤ p + 2 := by
  obtain ⟨v, hv, v0, v1⟩ := spec_reader_pick.ev b h p 40 hp0 (by omega) (by omega)
  unfold spec_spoilImage.f
  by_cases e0 : v = 0
  · obtain ⟨u, hu, _⟩ := spec_reader_one.ev b h (p + 1) (by omega) (by omega) [0, 17, wrap64 (W + 1)] (by simp) (by simp)
    exact ⟨u, H, n, l, p + 1 + 1, evBind hv (evPos e0 (evBind hu (evRet rfl))), by omega, by omega, by omega⟩
  by_cases e1 : v = 1
  · exact ⟨W, H, n, l.drop (1 : Int).toNat, p + 1, evBind hv (evNeg e0 (evPos e1 (evPos (by omega) (evRet rfl)))), by simp, by omega, by omega⟩
  by_cases e2 : v = 2
  · obtain ⟨u, hu, _⟩ := spec_reader_one.ev b h (p + 1) (by omega) (by omega) [-1, 256] (by simp) (by simp)
    exact ⟨W, H, n, l.set (0 : Int).toNat u, p + 1 + 1, evBind hv (evNeg e0 (evNeg e1 (evPos e2 (evBind hu (evPos (by omega) (evRet rfl)))))), by simp, by omega, by omega⟩
  by_cases e3 : v = 3
  · obtain ⟨u, hu, _⟩ := spec_reader_one.ev b h (p + 1) (by omega) (by omega) [0, 5] (by simp) (by simp)
    exact ⟨W, H, u, l, p + 1 + 1, evBind hv (evNeg e0 (evNeg e1 (evNeg e2 (evPos e3 (evBind hu (evRet rfl)))))), by omega, by omega, by omega⟩
  · exact ⟨W, H, n, l, p + 1, evBind hv (evNeg e0 (evNeg e1 (evNeg e2 (evNeg e3 (evRet rfl))))), by omega, by omega, by omega⟩
theorem spec_anyPlanes.ev (b : List Int) (h : CodeOk b) (p : Int) (hp0 : 0 ≤ p) (hp1 : p < 900000000) : ∃ n, Ev (fun k => spec_anyPlanes.f k b p) (n, p + 1) ∧ 1 ≤ n ∧ n ≤ 4 := by
  obtain ⟨u, hu, mu⟩ := spec_reader_one.ev b h p hp0 (by omega) [1, 3, 1, 4, 2] (by simp) (by simp)
  refine ⟨u, ?_, ?_⟩
  · unfold spec_anyPlanes.f
    exact evBind hu (evRet rfl)
  · simp only [List.mem_cons, List.mem_nil_iff, or_false] at mu
    omega
theorem spec_anyImage.ev (b : List Int) (h : CodeOk b) (p : Int) (hp0 : 0 ≤ p) (hp1 : p < 800000000) : ∃ W H n l q, Ev (fun k => spec_anyImage.f k b p) (W, H, n, l, q) ∧ l.length ≤ 1024 ∧ p ≤ q ∧ q ≤ p + 3000 := by
  obtain ⟨n, hn, n0, n1⟩ := spec_anyPlanes.ev b h p hp0 (by omega)
  obtain ⟨W, H, l, q, hr, ok, _, _, q0, q1⟩ := spec_randomImage.ev b h (p + 1) (by omega) (by omega) n ⟨n0, n1⟩
  obtain ⟨W', H', n', l', q', hs, e1, e2, e3⟩ := spec_spoilImage.ev b h q (by omega) (by omega) W H n l ok.len.1
  refine ⟨W', H', n', l', q', ?_, by have := ok.len.2; omega, by omega, by omega⟩
  unfold spec_anyImage.f
  exact evBind hn (evBind hr (evBind hs (evRet rfl)))

theorem inRange_val (a lo hi : Int) : spec_inRange.f a lo hi = some (decide (lo ≤ a ∧ a ≤ hi)) := by
  unfold spec_inRange.f
  split
  · rename_i h; simp [h]
  · rename_i h; simp [h]

/-- All numbers of a list lie in a range. -/
def allB (lo hi : Int) (l : List Int) : Bool := l.all fun x => decide (lo ≤ x ∧ x ≤ hi)
theorem allB_iff (lo hi : Int) (l : List Int) : allB lo hi l = true ↔ ∀ x ∈ l, lo ≤ x ∧ x ≤ hi := by
  unfold allB
  rw [List.all_eq_true]
  simp only [decide_eq_true_eq]
theorem spec_allIn.ev_l0 (l : List Int) (lo hi : Int) (hl : l.length ≤ 9223372036854775806) (d : Nat) : ∀ i, i ≤ l.length → l.length - i = d →
    Ev (fun k => spec_allIn.l0 k l lo hi (i : Int)) (allB lo hi (l.drop i)) := by
  induction d with
  | zero =>
    intro i hi' hd
    refine Ev.step (fun k => by simp only [spec_allIn.l0]; rfl) (evNeg (by omega) (evRet ?_))
    rw [List.drop_of_length_le (by omega)]
    rfl
  | succ d ih =>
    intro i hi' hd
    have hw : wrap64 ((i : Int) + 1) = ((i + 1 : Nat) : Int) := wrapSucc i (by omega)
    refine Ev.step (fun k => by simp only [spec_allIn.l0, hw]; rfl) (evPos (by omega) (evPos (by omega) ?_))
    rw [rdN l i (by omega), drop_cons_ l i (by omega)]
    have hr : spec_inRange.f l[i] lo hi = some (decide (lo ≤ l[i] ∧ l[i] ≤ hi)) := by
      unfold spec_inRange.f
      split
      · rename_i h; simp [h]
      · rename_i h; simp [h]
    have e : allB lo hi (l[i] :: l.drop (i + 1)) = (decide (lo ≤ l[i] ∧ l[i] ≤ hi) && allB lo hi (l.drop (i + 1))) := by
      unfold allB
      rw [List.all_cons]
    rw [e]
    refine evFix hr (evIf (fun h => ?_) (fun h => evRet ?_))
    · rw [h, Bool.true_and]
      exact ih (i + 1) (by omega) (by omega)
    · rw [Bool.eq_false_iff.mpr h, Bool.false_and]
theorem spec_allIn.ev (l : List Int) (lo hi : Int) (hl : l.length ≤ 9223372036854775806) : Ev (fun k => spec_allIn.f k l lo hi) (allB lo hi l) := by
  have := spec_allIn.ev_l0 l lo hi hl l.length 0 (by omega) (by omega)
  unfold spec_allIn.f
  simpa using this

theorem spec_validShape.val (a b c : Int) : spec_validShape.f a b c = some (decide ((1 ≤ a ∧ a ≤ 16) ∧ (1 ≤ b ∧ b ≤ 16) ∧ (1 ≤ c ∧ c ≤ 4))) := by
  unfold spec_validShape.f
  rw [inRange_val, inRange_val, inRange_val]
  simp only [Option.bind_some, decide_eq_true_eq]
  by_cases h1 : 1 ≤ a ∧ a ≤ 16
  · rw [if_pos h1]
    by_cases h2 : 1 ≤ b ∧ b ≤ 16
    · rw [if_pos h2]
      congr 1
      rw [Bool.eq_iff_iff]
      simp only [decide_eq_true_eq]
      exact ⟨fun h => ⟨h1, h2, h⟩, fun h => h.2.2⟩
    · rw [if_neg h2, decide_eq_false (fun h => h2 h.2.1)]
  · rw [if_neg h1, decide_eq_false (fun h => h1 h.1)]
theorem allB_bytes (l : List Int) : allB 0 255 l = decide (∀ x ∈ l, 0 ≤ x ∧ x ≤ 255) := by
  rw [Bool.eq_iff_iff, allB_iff, decide_eq_true_eq]
theorem spec_validImage.ev (a b c : Int) (l : List Int) (hl : l.length ≤ 9223372036854775806) : Ev (fun k => spec_validImage.f k a b c l) (decide (ImgOk a b c l)) := by
  unfold spec_validImage.f
  refine evFix (spec_validShape.val a b c) ?_
  by_cases h : (1 ≤ a ∧ a ≤ 16) ∧ (1 ≤ b ∧ b ≤ 16) ∧ (1 ≤ c ∧ c ≤ 4)
  · refine evPos (decide_eq_true h) ?_
    rw [shape_wrap h.1 h.2.1 h.2.2]
    by_cases h2 : (l.length : Int) = a * b * c
    · refine evPos h2 ?_
      have h3 := spec_allIn.ev l 0 255 hl
      refine evBind h3 (evRet ?_)
      rw [allB_bytes, Bool.eq_iff_iff]
      simp only [decide_eq_true_eq]
      exact ⟨fun h3 => ⟨h.1, h.2.1, h.2.2, h2, h3⟩, fun hh => hh.2.2.2.2⟩
    · exact evNeg h2 (evRet (decide_eq_false (fun hh : ImgOk a b c l => h2 hh.2.2.2.1)).symm)
  · exact evNeg (by rw [decide_eq_false h]; simp) (evRet (decide_eq_false (fun hh : ImgOk a b c l => h ⟨hh.1, hh.2.1, hh.2.2.1⟩)).symm)

theorem spec_copyInts.val (l : List Int) (h : l.length < 17592186044416) : spec_copyInts.f l = some l := by
  unfold spec_copyInts.f
  simp [h]

theorem place_wrap (W p x y : Nat) (hW : W ≤ 16) (hp : p ≤ 4) (hx : x ≤ 16) (hy : y ≤ 16) : wrap64 (wrap64 (wrap64 ((y : Int) * (W : Int)) + (x : Int)) * (p : Int)) = (((y * W + x) * p : Nat) : Int) := by
  have h1 : y * W ≤ 16 * 16 := Nat.mul_le_mul hy hW
  have h2 : (y * W + x) * p ≤ 272 * 4 := Nat.mul_le_mul (by omega) hp
  have e1 : (y : Int) * (W : Int) = ((y * W : Nat) : Int) := by push_cast; rfl
  have e2 : ((y * W + x : Nat) : Int) * (p : Int) = (((y * W + x) * p : Nat) : Int) := by push_cast; rfl
  rw [e1, wrapNat (y * W) (by omega), show ((y * W : Nat) : Int) + (x : Int) = ((y * W + x : Nat) : Int) by omega, wrapNat (y * W + x) (by omega), e2, wrapNat _ (by omega)]
theorem spec_pixelAt.val (W H p : Nat) (l : List Int) (x y : Nat) (hl : l.length = W * H * p) (hW : W ≤ 16) (hH : H ≤ 16) (hp : p ≤ 4) (hx : x < W) (hy : y < H) : spec_pixelAt.f (W : Int) (H : Int) (p : Int) l (x : Int) (y : Int) = some (pixN W p l x y) := by
  have h := pix_lt (p := p) hx hy
  rw [← hl] at h
  have hlen := pixN_length hx hy hl
  have h2 : (y * W + x) * p ≤ 272 * 4 := Nat.mul_le_mul (by have : y * W ≤ 16 * 16 := Nat.mul_le_mul (by omega) hW; omega) hp
  unfold spec_pixelAt.f
  rw [place_wrap W p x y hW hp (by omega) (by omega)]
  have e : wrap64 ((((y * W + x) * p : Nat) : Int) + (p : Int)) = (((y * W + x) * p + p : Nat) : Int) := by rw [wrapIn (by omega) (by omega)]; omega
  rw [e, if_pos (by omega), if_pos (by omega), if_pos (by omega), Int.toNat_natCast, Int.toNat_natCast]
  have hc := spec_copyInts.val (pixN W p l x y) (by omega)
  unfold pixN at hc ⊢
  rw [hc]
  rfl
/-- A list with a pixel's numbers put in. -/
def putPix (l px : List Int) (i : Nat) : List Int := l.take i ++ px ++ l.drop (i + px.length)
theorem putPix_upto (l px : List Int) (i q : Nat) (hi : i + px.length ≤ l.length) (hq : q < px.length) : (putPix l (px.take q) i).set (i + q) px[q] = putPix l (px.take (q + 1)) i := by
  unfold putPix
  have e1 : (l.take i).length = i := by rw [List.length_take]; omega
  have e2 : (px.take q).length = q := by rw [List.length_take]; omega
  have e3 : (px.take (q + 1)).length = q + 1 := by rw [List.length_take]; omega
  rw [e2, e3, List.set_append_right _ _ (by rw [List.length_append, e1, e2]; omega), List.length_append, e1, e2, Nat.sub_self, List.drop_eq_getElem_cons (show i + q < l.length by omega), List.set_cons_zero, List.take_succ_eq_append_getElem hq]
  simp only [List.append_assoc, List.singleton_append, Nat.add_assoc]
theorem putPix_length (l px : List Int) (i : Nat) (hi : i + px.length ≤ l.length) : (putPix l px i).length = l.length := by
  unfold putPix
  simp only [List.length_append, List.length_take, List.length_drop]
  omega
theorem putPix_nil (l : List Int) (i : Nat) : putPix l [] i = l := by unfold putPix; simp
theorem spec_setPixel.ev_l0 (W H p i : Nat) (l px : List Int) (x y : Nat) (hpx : px.length = p) (hl : i + p ≤ l.length) (hi : i ≤ 4096) (hp : p ≤ 4) (hw : wrap64 (wrap64 (wrap64 ((y : Int) * (W : Int)) + (x : Int)) * (p : Int)) = (i : Int)) (d : Nat) : ∀ q, q ≤ p → p - q = d →
    Ev (fun k => spec_setPixel.l0 k (x : Int) (y : Int) px (q : Int) (W : Int) (H : Int) (p : Int) (putPix l (px.take q) i)) (putPix l px i) := by
  induction d with
  | zero =>
    intro q hq hd
    refine Ev.step (fun k => by simp only [spec_setPixel.l0]; rfl) (evNeg (by clear hw; omega) (evRet ?_))
    rw [List.take_of_length_le (by clear hw; omega)]
  | succ d ih =>
    intro q hq hd
    have hn := ih (q + 1) (by clear hw ih; omega) (by clear hw ih; omega)
    clear ih
    have hlt : q < px.length := by clear hw; omega
    have hs := putPix_upto l px i q (by clear hw; omega) hlt
    have hle : (putPix l (px.take q) i).length = l.length := putPix_length _ _ _ (by rw [List.length_take]; clear hw; omega)
    have e : wrap64 ((i : Int) + (q : Int)) = ((i + q : Nat) : Int) := by rw [wrapIn (by clear hw; omega) (by clear hw; omega)]; rfl
    refine Ev.step (g := fun k => spec_setPixel.l0 k (x : Int) (y : Int) px (q : Int) (W : Int) (H : Int) (p : Int) (putPix l (px.take q) i)) (f := fun k => spec_setPixel.l0 k (x : Int) (y : Int) px ((q + 1 : Nat) : Int) (W : Int) (H : Int) (p : Int) (putPix l (px.take (q + 1)) i)) (fun k => ?_) hn
    simp only [spec_setPixel.l0]
    rw [hw, e]
    clear hw e hn
    rw [if_pos (show (q : Int) < (p : Int) by omega), if_pos (show (0 : Int) ≤ (q : Int) by omega), if_pos (show (q : Int) < (px.length : Int) by omega), if_pos (show (0 : Int) ≤ ((i + q : Nat) : Int) by omega), if_pos (show ((i + q : Nat) : Int) < ((putPix l (px.take q) i).length : Int) by omega), Int.toNat_natCast, rdN px q hlt, hs, wrapSucc q (by omega)]
theorem spec_setPixel.ev (W H p : Nat) (l px : List Int) (x y : Nat) (hpx : px.length = p) (hl : (y * W + x) * p + p ≤ l.length) (hW : W ≤ 16) (hp : p ≤ 4) (hx : x ≤ 15) (hy : y ≤ 15) :
    Ev (fun k => spec_setPixel.f k (W : Int) (H : Int) (p : Int) l (x : Int) (y : Int) px) (putPix l px ((y * W + x) * p)) := by
  have h2 : (y * W + x) * p ≤ 272 * 4 := Nat.mul_le_mul (by have : y * W ≤ 16 * 16 := Nat.mul_le_mul (by omega) hW; omega) hp
  have h := spec_setPixel.ev_l0 W H p ((y * W + x) * p) l px x y hpx hl (by omega) hp (place_wrap W p x y hW hp (by omega) (by omega)) p 0 (by omega) (by omega)
  rw [List.take_zero, putPix_nil] at h
  unfold spec_setPixel.f
  exact h
/-- An image that is being filled, pixel by pixel. -/
def fillTo (f : Nat → Nat → List Int) (W p N n : Nat) : List Int := pixelsUpto f W n ++ List.replicate ((N - n) * p) 0
theorem pixels_len (f : Nat → Nat → List Int) (W H p : Nat) (hf : ∀ x y, x < W → y < H → (f x y).length = p) (n : Nat) (hn : n ≤ W * H) : (pixelsUpto f W n).length = n * p := by
  induction n with
  | zero => simp [pixelsUpto]
  | succ n ih =>
    have h1 := ih (by omega)
    have hW : 0 < W := by
      rcases Nat.eq_zero_or_pos W with h | h
      · subst h; omega
      · exact h
    unfold pixelsUpto at h1 ⊢
    rw [List.range_succ, List.flatMap_append, List.length_append, h1]
    have h2 := hf (n % W) (n / W) (Nat.mod_lt _ hW) (by rw [Nat.div_lt_iff_lt_mul hW, Nat.mul_comm]; omega)
    rw [List.flatMap_cons, List.flatMap_nil, List.append_nil, h2, Nat.succ_mul]
theorem fillTo_zero (f : Nat → Nat → List Int) (W p N : Nat) : fillTo f W p N 0 = List.replicate (N * p) 0 := by simp [fillTo, pixelsUpto]
theorem fillTo_all (f : Nat → Nat → List Int) (W p N : Nat) : fillTo f W p N N = pixelsUpto f W N := by simp [fillTo]
theorem fillTo_len (f : Nat → Nat → List Int) (W H p : Nat) (hf : ∀ x y, x < W → y < H → (f x y).length = p) (n : Nat) (hn : n ≤ W * H) : (fillTo f W p (W * H) n).length = W * H * p := by
  unfold fillTo
  rw [List.length_append, pixels_len f W H p hf n hn, List.length_replicate, ← Nat.add_mul]
  congr 1
  omega
theorem row_lt {W H x y : Nat} (hx : x < W) (hy : y < H) : W * y + x < W * H := by
  have : W * (y + 1) ≤ W * H := Nat.mul_le_mul_left _ hy
  rw [Nat.mul_succ] at this
  omega
theorem fillTo_put (f : Nat → Nat → List Int) (W H p : Nat) (hf : ∀ x y, x < W → y < H → (f x y).length = p) (x y : Nat) (hx : x < W) (hy : y < H) :
    putPix (fillTo f W p (W * H) (W * y + x)) (f x y) ((y * W + x) * p) = fillTo f W p (W * H) (W * y + x + 1) := by
  have hlt := row_lt hx hy
  have hlen := pixels_len f W H p hf (W * y + x) (by omega)
  unfold putPix fillTo
  rw [Nat.mul_comm y W, hf x y hx hy, List.take_append_of_le_length (by omega), List.take_of_length_le (by omega), List.drop_append, hlen, List.drop_eq_nil_of_le (by omega), pixelsUpto_snoc f W x y hx, List.nil_append]
  congr 1
  rw [show (W * y + x) * p + p - (W * y + x) * p = p by omega, List.drop_replicate]
  congr 1
  rw [show W * H - (W * y + x) = (W * H - (W * y + x + 1)) + 1 by omega, Nat.succ_mul]
  omega

def nearestF (a0 a1 a2 : Int) (l : List Int) (m n : Nat) (x y : Nat) : List Int := pixN a0.toNat a2.toNat l (x * a0.toNat / m) (y * a1.toNat / n)
def SizeOk (a0 a1 a2 : Int) (l : List Int) (a3 a4 : Int) : Prop := ImgOk a0 a1 a2 l ∧ (1 ≤ a3 ∧ a3 ≤ 16) ∧ (1 ≤ a4 ∧ a4 ≤ 16)
instance (a0 a1 a2 : Int) (l : List Int) (a3 a4 : Int) : Decidable (SizeOk a0 a1 a2 l a3 a4) := by unfold SizeOk; exact inferInstance
theorem scale_lt {x m W : Nat} (hx : x < m) (hW : 1 ≤ W) : x * W / m < W := by
  rw [Nat.div_lt_iff_lt_mul (by omega), Nat.mul_comm W m]
  exact Nat.mul_lt_mul_of_pos_right hx (by omega)
theorem scale_wrap {x m W : Nat} (hx : x ≤ 16) (hW : W ≤ 16) : wrap64 (Int.tdiv (wrap64 ((x : Int) * (W : Int))) (m : Int)) = ((x * W / m : Nat) : Int) := by
  have h1 : x * W ≤ 16 * 16 := Nat.mul_le_mul hx hW
  have h2 : x * W / m ≤ x * W := Nat.div_le_self _ _
  rw [show (x : Int) * (W : Int) = ((x * W : Nat) : Int) by push_cast; rfl, wrapNat (x * W) (by omega)]
  exact wrapNat (x * W / m) (by omega)
theorem near_len {W H p : Nat} {l : List Int} (hl : l.length = W * H * p) (hW : 1 ≤ W) (hH : 1 ≤ H) (m n x y : Nat) (hx : x < m) (hy : y < n) : (pixN W p l (x * W / m) (y * H / n)).length = p := pixN_length (scale_lt hx hW) (scale_lt hy hH) hl
theorem spec_ScaleNearest.ev_l1 (W H p m n : Nat) (l : List Int) (hl : l.length = W * H * p) (hW0 : 1 ≤ W) (hH0 : 1 ≤ H) (hW : W ≤ 16) (hH : H ≤ 16) (hp : p ≤ 4) (hm : m ≤ 16) (hn : n ≤ 16) (y : Nat) (hy : y < n) (R : Int × Int × Int × List Int)
    (hR : Ev (fun k => spec_ScaleNearest.l0 k (m : Int) (n : Int) (wrap64 ((y : Int) + 1)) W H p l m n p (fillTo (fun x y => pixN W p l (x * W / m) (y * H / n)) m p (m * n) (m * (y + 1)))) R) (d : Nat) : ∀ x, x ≤ m → m - x = d →
    Ev (fun k => spec_ScaleNearest.l1 k (m : Int) (n : Int) (y : Int) (x : Int) W H p l m n p (fillTo (fun x y => pixN W p l (x * W / m) (y * H / n)) m p (m * n) (m * y + x))) R := by
  induction d with
  | zero =>
    intro x hx hd
    refine Ev.step (fun k => by simp only [spec_ScaleNearest.l1]; rfl) (evNeg (by omega) ?_)
    rw [show m * y + x = m * (y + 1) by rw [Nat.mul_succ]; omega]
    exact hR
  | succ d ih =>
    intro x hx hd
    have hlt : x < m := by omega
    have hf : ∀ x y, x < m → y < n → (pixN W p l (x * W / m) (y * H / n)).length = p := fun x y hx hy => near_len hl hW0 hH0 m n x y hx hy
    have h1 := spec_pixelAt.val W H p l (x * W / m) (y * H / n) hl hW hH hp (scale_lt hlt hW0) (scale_lt hy hH0)
    have hr := row_lt hlt hy
    have hle := fillTo_len (fun x y => pixN W p l (x * W / m) (y * H / n)) m n p hf (m * y + x) (by omega)
    have h2 := spec_setPixel.ev m n p (fillTo (fun x y => pixN W p l (x * W / m) (y * H / n)) m p (m * n) (m * y + x)) (pixN W p l (x * W / m) (y * H / n)) x y (hf x y hlt hy) (by rw [hle]; exact pix_lt hlt hy) hm hp (by omega) (by omega)
    rw [fillTo_put (fun x y => pixN W p l (x * W / m) (y * H / n)) m n p hf x y hlt hy] at h2
    have hn' := ih (x + 1) (by omega) (by omega)
    have t1 : wrap64 (Int.tdiv (wrap64 ((x : Int) * (W : Int))) (m : Int)) = ((x * W / m : Nat) : Int) := scale_wrap (by omega) hW
    have t2 : wrap64 (Int.tdiv (wrap64 ((y : Int) * (H : Int))) (n : Int)) = ((y * H / n : Nat) : Int) := scale_wrap (by clear t1; omega) hH
    have t3 := wrapSucc x (by clear t1 t2; omega)
    refine Ev.step (fun k => by simp only [spec_ScaleNearest.l1, t1, t2, t3]; rfl) ?_
    clear t1 t2 t3
    refine evPos (by omega) (evNeg (by omega) (evNeg (by omega) (evFix h1 (evBind h2 ?_))))
    exact hn'
theorem spec_ScaleNearest.ev_l0 (W H p m n : Nat) (l : List Int) (hl : l.length = W * H * p) (hW0 : 1 ≤ W) (hH0 : 1 ≤ H) (hW : W ≤ 16) (hH : H ≤ 16) (hp : p ≤ 4) (hm : m ≤ 16) (hn : n ≤ 16) (d : Nat) : ∀ y, y ≤ n → n - y = d →
    Ev (fun k => spec_ScaleNearest.l0 k (m : Int) (n : Int) (y : Int) W H p l m n p (fillTo (fun x y => pixN W p l (x * W / m) (y * H / n)) m p (m * n) (m * y))) ((m : Int), (n : Int), (p : Int), pixelsUpto (fun x y => pixN W p l (x * W / m) (y * H / n)) m (m * n)) := by
  induction d with
  | zero =>
    intro y hy hd
    refine Ev.step (fun k => by simp only [spec_ScaleNearest.l0]; rfl) (evNeg (by omega) (evRet ?_))
    rw [show y = n by omega, fillTo_all]
  | succ d ih =>
    intro y hy hd
    have h := ih (y + 1) (by omega) (by omega)
    rw [← wrapSucc y (by omega)] at h
    refine Ev.step (fun k => by simp only [spec_ScaleNearest.l0]; rfl) (evPos (by omega) ?_)
    exact spec_ScaleNearest.ev_l1 W H p m n l hl hW0 hH0 hW hH hp hm hn y (by omega) _ h m 0 (by omega) (by omega)
theorem SizeOk.nats {a b c : Int} {l : List Int} {u v : Int} (h : SizeOk a b c l u v) : ∃ m n : Nat, u = m ∧ v = n ∧ 1 ≤ m ∧ 1 ≤ n ∧ m ≤ 16 ∧ n ≤ 16 := by
  obtain ⟨_, h1, h2⟩ := h
  exact ⟨u.toNat, v.toNat, by omega, by omega, by omega, by omega, by omega, by omega⟩
theorem spec_ScaleNearest.ev (a b c : Int) (l : List Int) (u v : Int) (hl : l.length ≤ 9223372036854775806) : Ev (fun k => spec_ScaleNearest.f k a b c l u v) (if SizeOk a b c l u v then (u, v, c, pixelsUpto (nearestF a b c l u.toNat v.toNat) u.toNat (u.toNat * v.toNat)) else (0, 0, 0, [])) := by
  unfold spec_ScaleNearest.f
  refine evBind (spec_validImage.ev a b c l hl) ?_
  by_cases h : ImgOk a b c l
  · refine evPos (decide_eq_true h) (evFix (spec_validShape.val u v c) ?_)
    by_cases h2 : (1 ≤ u ∧ u ≤ 16) ∧ (1 ≤ v ∧ v ≤ 16)
    · have ok : SizeOk a b c l u v := ⟨h, h2⟩
      rw [if_pos ok, decide_eq_true (show (1 ≤ u ∧ u ≤ 16) ∧ (1 ≤ v ∧ v ≤ 16) ∧ (1 ≤ c ∧ c ≤ 4) from ⟨h2.1, h2.2, h.2.2.1⟩)]
      have hn := spec_newImage.val u v c h2.1 h2.2 h.2.2.1
      refine Ev.step (fun k => by simp only [spec_ScaleNearest.j0]; rfl) (evNeg (by simp) (evFix hn ?_))
      obtain ⟨W, H, p, rfl, rfl, rfl, hlen, b1, b2, b3, b4, b5, b6⟩ := h.nats
      obtain ⟨m, n, rfl, rfl, c1, c2, c3, c4⟩ := SizeOk.nats ok
      have h4 := spec_ScaleNearest.ev_l0 W H p m n l hlen b1 b2 b4 b5 b6 c3 c4 n 0 (by omega) (by omega)
      rw [Nat.mul_zero, fillTo_zero] at h4
      have e : ((m : Int) * (n : Int) * (p : Int)).toNat = m * n * p := by
        rw [show (m : Int) * (n : Int) * (p : Int) = ((m * n * p : Nat) : Int) by push_cast; rfl, Int.toNat_natCast]
      have e2 : nearestF (W : Int) (H : Int) (p : Int) l m n = fun x y => pixN W p l (x * W / m) (y * H / n) := by
        funext x y
        unfold nearestF
        simp only [Int.toNat_natCast]
      simp only [e, Int.toNat_natCast, e2]
      exact h4
    · rw [if_neg (fun ok : SizeOk a b c l u v => h2 ok.2), decide_eq_false (fun hh => h2 ⟨hh.1, hh.2.1⟩)]
      exact Ev.step (fun k => by simp only [spec_ScaleNearest.j0]; rfl) (evPos (by trivial) (evRet rfl))
  · rw [if_neg (fun ok : SizeOk a b c l u v => h ok.1)]
    exact evNeg (by rw [decide_eq_false h]; simp) (Ev.step (fun k => by simp only [spec_ScaleNearest.j0]; rfl) (evPos (by trivial) (evRet rfl)))
theorem near_size (a b c : Int) (l : List Int) (u v : Int) : (if SizeOk a b c l u v then (u, v, c, pixelsUpto (nearestF a b c l u.toNat v.toNat) u.toNat (u.toNat * v.toNat)) else (0, 0, 0, [])).2.2.2.length ≤ 1024 := by
  split
  · rename_i ok
    obtain ⟨W, H, p, rfl, rfl, rfl, hlen, b1, b2, b3, b4, b5, b6⟩ := ImgOk.nats ok.1
    obtain ⟨m, n, rfl, rfl, c1, c2, c3, c4⟩ := SizeOk.nats ok
    have e2 : nearestF (W : Int) (H : Int) (p : Int) l m n = fun x y => pixN W p l (x * W / m) (y * H / n) := by
      funext x y
      unfold nearestF
      simp only [Int.toNat_natCast]
    simp only [Int.toNat_natCast, e2]
    rw [pixels_len (fun x y => pixN W p l (x * W / m) (y * H / n)) m n p (fun x y hx hy => near_len hlen b1 b2 m n x y hx hy) (m * n) (Nat.le_refl _)]
    have : m * n * p ≤ 16 * 16 * 4 := Nat.mul_le_mul (Nat.mul_le_mul c3 c4) b6
    omega
  · simp

theorem spec_DrawHalveImage.ev (l : List Int) (hw : ∀ x ∈ l, (Lit.int .u8 x).wf = true) : ∃ W H n r, Ev (fun k => spec_DrawHalveImage.f k l) (W, H, n, r) ∧ r.length ≤ 1024 := by
  obtain ⟨b, hb, hc⟩ := spec_newReader.ev l hw
  obtain ⟨n, hn, n0, n1⟩ := spec_anyPlanes.ev b hc 0 (by omega) (by omega)
  obtain ⟨W, H, r, q, hr, ok, w8, h8, q0, q1⟩ := spec_randomImage.ev b hc (0 + 1) (by omega) (by omega) n ⟨n0, n1⟩
  obtain ⟨t, ht, t0, t1⟩ := spec_reader_pick.ev b hc q 4 (by omega) (by omega) (by omega)
  obtain ⟨W2, H2, n2, r2, q2, h2, l2, _, _⟩ := spec_anyImage.ev b hc (q + 1) (by omega) (by omega)
  have h3 := spec_ScaleNearest.ev W H n r (wrap64 (2 * (wrap64 (Int.tdiv (wrap64 (W + 1)) 2)))) (wrap64 (2 * (wrap64 (Int.tdiv (wrap64 (H + 1)) 2)))) (by have := ok.len; omega)
  have l3 := near_size W H n r (wrap64 (2 * (wrap64 (Int.tdiv (wrap64 (W + 1)) 2)))) (wrap64 (2 * (wrap64 (Int.tdiv (wrap64 (H + 1)) 2))))
  generalize (if SizeOk W H n r (wrap64 (2 * (wrap64 (Int.tdiv (wrap64 (W + 1)) 2)))) (wrap64 (2 * (wrap64 (Int.tdiv (wrap64 (H + 1)) 2)))) then _ else _ : Int × Int × Int × List Int) = s at h3 l3
  by_cases h0 : t = 0
  · exact ⟨W2, H2, n2, r2, by unfold spec_DrawHalveImage.f; exact evFix hb (evBind hn (evBind hr (evBind ht (evPos h0 (evBind h2 (evRet rfl)))))), l2⟩
  · exact ⟨s.1, s.2.1, s.2.2.1, s.2.2.2, by unfold spec_DrawHalveImage.f; exact evFix hb (evBind hn (evBind hr (evBind ht (evNeg h0 (evBind h3 (evRet rfl)))))), l3⟩

theorem laws_equalInts.ev_l0 (a b : List Int) (hab : a.length = b.length) (hl : a.length ≤ 9223372036854775807) (d : Nat) : ∀ i, i ≤ a.length → a.length - i = d →
    Ev (fun k => laws_equalInts.l0 k a b (i : Int)) (decide (a.drop i = b.drop i)) := by
  induction d with
  | zero =>
    intro i hi hd
    refine Ev.step (fun k => by simp only [laws_equalInts.l0]; rfl) (evNeg (by omega) (evRet ?_))
    rw [List.drop_of_length_le (by omega), List.drop_of_length_le (by omega)]
    rfl
  | succ d ih =>
    intro i hi hd
    have hw : wrap64 ((i : Int) + 1) = ((i + 1 : Nat) : Int) := wrapSucc i (by omega)
    refine Ev.step (fun k => by simp only [laws_equalInts.l0, hw]; rfl) (evPos (by omega) (evPos (by omega) (evPos (by omega) ?_)))
    rw [decide_drop_eq a b i (by omega) (by omega), rdN a i (by omega), rdN b i (by omega)]
    refine evIf (fun h => ?_) (fun h => evRet ?_)
    · rw [decide_eq_true h, Bool.true_and]
      exact ih (i + 1) (by omega) (by omega)
    · rw [decide_eq_false h, Bool.false_and]
theorem laws_equalInts.ev (a b : List Int) (hl : a.length ≤ 9223372036854775807) : Ev (fun k => laws_equalInts.f k a b) (decide (a = b)) := by
  unfold laws_equalInts.f
  refine evIf (fun h => ?_) (fun h => evRet ?_)
  · have := laws_equalInts.ev_l0 a b (by omega) hl a.length 0 (by omega) (by omega)
    simpa using this
  · rw [eq_comm, decide_eq_false_iff_not]
    intro hab
    exact h (by rw [hab])

theorem laws_equalImage.ev (a b c : Int) (l : List Int) (a' b' c' : Int) (l' : List Int) (hl : l.length ≤ 9223372036854775807) : Ev (fun k => laws_equalImage.f k a b c l a' b' c' l') (decide (a = a' ∧ b = b' ∧ c = c' ∧ l = l')) := by
  have h := laws_equalInts.ev l l' hl
  unfold laws_equalImage.f
  refine evIf (fun e1 => evIf (fun e2 => evIf (fun e3 => evBind h (evRet ?_)) (fun e3 => evRet ?_)) (fun e2 => evRet ?_)) (fun e1 => evRet ?_)
  · rw [Bool.eq_iff_iff]
    simp only [decide_eq_true_eq]
    exact ⟨fun h => ⟨e1, e2, e3, h⟩, fun h => h.2.2.2⟩
  · exact (decide_eq_false (fun h => e3 h.2.2.1)).symm
  · exact (decide_eq_false (fun h => e2 h.2.1)).symm
  · exact (decide_eq_false (fun h => e1 h.1)).symm
theorem laws_equalImage.refl (a b c : Int) (l : List Int) (hl : l.length ≤ 9223372036854775807) : Ev (fun k => laws_equalImage.f k a b c l a b c l) true := by
  have h := laws_equalImage.ev a b c l a b c l hl
  rwa [decide_eq_true ⟨rfl, rfl, rfl, rfl⟩] at h

theorem rd_app_l (A B : List Int) (i : Nat) (h : i < A.length) : rd (A ++ B) (i : Int) = rd A (i : Int) := by
  simp [rd, List.getD_eq_getElem?_getD, List.getElem?_append_left h]
theorem rd_app_r (A B : List Int) (r : Nat) : rd (A ++ B) ((A.length + r : Nat) : Int) = rd B (r : Int) := by
  simp [rd, List.getD_eq_getElem?_getD, List.getElem?_append_right, -Int.natCast_add, Int.toNat_natCast]
theorem pixels_lenp (f : Nat → Nat → List Int) (W p : Nat) (hf : ∀ x y, (f x y).length = p) (n : Nat) : (pixelsUpto f W n).length = n * p := by
  induction n with
  | zero => simp [pixelsUpto]
  | succ n ih =>
    unfold pixelsUpto at ih ⊢
    rw [List.range_succ, List.flatMap_append, List.length_append, ih, List.flatMap_cons, List.flatMap_nil, List.append_nil, hf, Nat.succ_mul]
theorem pixelsUpto_get (f : Nat → Nat → List Int) (W p : Nat) (hp : 0 < p) (hf : ∀ x y, (f x y).length = p) (n : Nat) : ∀ i, i < n * p → rd (pixelsUpto f W n) (i : Int) = rd (f (i / p % W) (i / p / W)) ((i % p : Nat) : Int) := by
  induction n with
  | zero => intro i hi; omega
  | succ n ih =>
    intro i hi
    have hlen := pixels_lenp f W p hf n
    have e : pixelsUpto f W (n + 1) = pixelsUpto f W n ++ f (n % W) (n / W) := by
      unfold pixelsUpto
      rw [List.range_succ, List.flatMap_append, List.flatMap_cons, List.flatMap_nil, List.append_nil]
    rw [e]
    by_cases h : i < n * p
    · rw [rd_app_l _ _ i (by omega)]
      exact ih i h
    · rw [Nat.succ_mul] at hi
      obtain ⟨r, rfl⟩ : ∃ r, i = n * p + r := ⟨i - n * p, by omega⟩
      have h2 : rd (pixelsUpto f W n ++ f (n % W) (n / W)) ((n * p + r : Nat) : Int) = rd (f (n % W) (n / W)) (r : Int) := by
        rw [← hlen]
        exact rd_app_r _ _ r
      have h3 : (n * p + r) / p = n := by rw [Nat.mul_comm, Nat.mul_add_div hp, Nat.div_eq_of_lt (by omega), Nat.add_zero]
      have h4 : (n * p + r) % p = r := by rw [Nat.mul_comm, Nat.mul_add_mod, Nat.mod_eq_of_lt (by omega)]
      rw [h2, h3, h4]
theorem part_set (F : List Int) (i : Nat) (h : i < F.length) : (F.take i ++ List.replicate (F.length - i) 0).set i (rd F (i : Int)) = F.take (i + 1) ++ List.replicate (F.length - (i + 1)) 0 := by
  have e : (F.take i).length = i := by rw [List.length_take]; omega
  rw [rdN F i h, List.set_append_right _ _ (by omega), e, Nat.sub_self, show F.length - i = (F.length - (i + 1)) + 1 by omega, List.replicate_succ, List.set_cons_zero, List.take_succ_eq_append_getElem h, List.append_assoc]
  rfl
theorem pixN_rd {W H p x y k : Nat} {l : List Int} (hx : x < W) (hy : y < H) (hk : k < p) (hl : l.length = W * H * p) : rd (pixN W p l x y) (k : Int) = rd l (((y * W + x) * p + k : Nat) : Int) := by
  have h1 := half_place hx hy hk
  have h2 := pixN_length hx hy hl
  rw [rdN _ k (by omega), rdN l _ (by omega)]
  unfold pixN
  rw [List.getElem_drop, List.getElem_take]
theorem half_wrap {a b c d : Int} (ha : 0 ≤ a ∧ a ≤ 255) (hb : 0 ≤ b ∧ b ≤ 255) (hc : 0 ≤ c ∧ c ≤ 255) (hd : 0 ≤ d ∧ d ≤ 255) : wrap64 (Int.tdiv (wrap64 (wrap64 (wrap64 (wrap64 (a + b) + c) + d) + 2)) 4) = (a + b + c + d + 2) / 4 := by
  rw [wrapIn (x := a + b) (by omega) (by omega), wrapIn (x := a + b + c) (by omega) (by omega), wrapIn (x := a + b + c + d) (by omega) (by omega), wrapIn (x := a + b + c + d + 2) (by omega) (by omega), Int.tdiv_eq_ediv_of_nonneg (by omega), wrapIn (by omega) (by omega)]
theorem halfL_rd (W p : Nat) (l : List Int) (x y n k : Nat) (h : k < n) : rd (halfL W p l x y n) (k : Int) = halfN W p l x y k := by
  rw [rdN _ k (by rw [halfL_length]; exact h)]
  simp [halfL]
theorem wN (n : Nat) (h : n ≤ 2000) : wrap64 (n : Int) = (n : Int) := wrapNat n (by omega)
theorem wS (n : Nat) (h : n ≤ 2000) : wrap64 ((n : Int) + 1) = ((n + 1 : Nat) : Int) := wrapSucc n (by omega)
theorem wD (n : Nat) (h : n ≤ 2000) : wrap64 ((n : Int) * 2) = ((2 * n : Nat) : Int) := by rw [wrapIn (by omega) (by omega)]; omega
theorem spec_HalveImage.ev_l0 (w h p : Nat) (l : List Int) (hl : l.length = (2 * w) * (2 * h) * p) (hw : 1 ≤ w ∧ w ≤ 8) (hh : 1 ≤ h ∧ h ≤ 8) (hp : 1 ≤ p ∧ p ≤ 4) (hb : ∀ z ∈ l, 0 ≤ z ∧ z ≤ 255) (F : List Int) (hF : F = pixelsUpto (fun x y => halfL (2 * w) p l x y p) w (w * h)) (hlen : F.length = w * h * p) (d : Nat) : ∀ i, i ≤ F.length → F.length - i = d →
    Ev (fun k => spec_HalveImage.l0 k (i : Int) ((2 * w : Nat) : Int) ((2 * h : Nat) : Int) (p : Int) l (w : Int) (h : Int) (p : Int) (F.take i ++ List.replicate (F.length - i) 0)) ((w : Int), (h : Int), (p : Int), F) := by
  induction d with
  | zero =>
    intro i hi hd
    refine Ev.step (fun k => by simp only [spec_HalveImage.l0]; rfl) (evNeg (by rw [List.length_append, List.length_take, List.length_replicate]; omega) (evRet ?_))
    rw [show i = F.length by omega, List.take_length, Nat.sub_self]
    simp
  | succ d ih =>
    intro i hi hd
    have hlt : i < F.length := by omega
    have hn := ih (i + 1) (by omega) (by omega)
    clear ih
    have hbig : F.length ≤ 8 * 8 * 4 := by rw [hlen]; exact Nat.mul_le_mul (Nat.mul_le_mul hw.2 hh.2) hp.2
    have hle : (F.take i ++ List.replicate (F.length - i) 0).length = F.length := by rw [List.length_append, List.length_take, List.length_replicate]; omega
    obtain ⟨x, hx⟩ : ∃ x, x = i / p % w := ⟨_, rfl⟩
    obtain ⟨y, hy⟩ : ∃ y, y = i / p / w := ⟨_, rfl⟩
    obtain ⟨q, hq⟩ : ∃ q, q = i % p := ⟨_, rfl⟩
    have hxw : x < w := by rw [hx]; exact Nat.mod_lt _ (by omega)
    have hqp : q < p := by rw [hq]; exact Nat.mod_lt _ (by omega)
    have hyh : y < h := by
      rw [hy]
      have : i / p < w * h := by rw [Nat.div_lt_iff_lt_mul (by omega)]; omega
      rw [Nat.div_lt_iff_lt_mul (by omega), Nat.mul_comm]
      exact this
    have P1 := spec_pixelAt.val (2 * w) (2 * h) p l (2 * x) (2 * y) hl (by omega) (by omega) (by omega) (by omega) (by omega)
    have P2 := spec_pixelAt.val (2 * w) (2 * h) p l (2 * x + 1) (2 * y) hl (by omega) (by omega) (by omega) (by omega) (by omega)
    have P3 := spec_pixelAt.val (2 * w) (2 * h) p l (2 * x) (2 * y + 1) hl (by omega) (by omega) (by omega) (by omega) (by omega)
    have P4 := spec_pixelAt.val (2 * w) (2 * h) p l (2 * x + 1) (2 * y + 1) hl (by omega) (by omega) (by omega) (by omega) (by omega)
    have hip : i / p ≤ i := Nat.div_le_self _ _
    have hiw : i / p / w ≤ i / p := Nat.div_le_self _ _
    have b1 : i ≤ 2000 := by omega
    have b2 : i / p ≤ 2000 := by omega
    have b3 : i / p / w ≤ 2000 := by omega
    have b4 : x ≤ 2000 := by omega
    have b5 : y ≤ 2000 := by omega
    have b6 : 2 * x ≤ 2000 := by omega
    have b7 : 2 * y ≤ 2000 := by omega
    have hv : rd F (i : Int) = halfN (2 * w) p l x y q := by
      rw [hF, pixelsUpto_get _ w p (by omega) (fun x y => halfL_length _ _ _ _ _ _) (w * h) i (by omega), ← hx, ← hy, ← hq]
      exact halfL_rd _ _ _ _ _ _ _ hqp
    have g : ∀ x' y', x' < 2 * w → y' < 2 * h → 0 ≤ rd (pixN (2 * w) p l x' y') (q : Int) ∧ rd (pixN (2 * w) p l x' y') (q : Int) ≤ 255 := by
      intro x' y' h1 h2
      have h3 := half_place h1 h2 hqp
      rw [pixN_rd h1 h2 hqp hl, rdN l _ (by omega)]
      exact hb _ (List.getElem_mem _)
    have gl : ∀ x' y', x' < 2 * w → y' < 2 * h → (pixN (2 * w) p l x' y').length = p := fun x' y' h1 h2 => pixN_length h1 h2 hl
    unfold halfN at hv
    rw [← pixN_rd (x := 2 * x) (y := 2 * y) (by omega) (by omega) hqp hl, ← pixN_rd (x := 2 * x + 1) (y := 2 * y) (by omega) (by omega) hqp hl, ← pixN_rd (x := 2 * x) (y := 2 * y + 1) (by omega) (by omega) hqp hl, ← pixN_rd (x := 2 * x + 1) (y := 2 * y + 1) (by omega) (by omega) hqp hl,
      ← half_wrap (g (2 * x) (2 * y) (by omega) (by omega)) (g (2 * x + 1) (2 * y) (by omega) (by omega)) (g (2 * x) (2 * y + 1) (by omega) (by omega)) (g (2 * x + 1) (2 * y + 1) (by omega) (by omega))] at hv
    rw [← part_set F i hlt, hv] at hn
    have t0 : Int.tmod (i : Int) (p : Int) = (q : Int) := by rw [hq]; rfl
    have t1 : wrap64 (Int.tdiv (i : Int) (p : Int)) = ((i / p : Nat) : Int) := wN (i / p) b2
    have t2 : Int.tmod ((i / p : Nat) : Int) (w : Int) = (x : Int) := by rw [hx]; rfl
    have t3 : wrap64 (Int.tdiv ((i / p : Nat) : Int) (w : Int)) = (y : Int) := by rw [hy]; exact wN (i / p / w) b3
    have t4 := wD x b4
    have t5 := wD y b5
    have t6 := wS (2 * x) b6
    have t7 := wS (2 * y) b7
    have t8 := wS i b1
    refine Ev.step (fun k => by simp only [spec_HalveImage.l0, t0, t1, t2, t3, t4, t5, t6, t7, t8, Int.toNat_natCast]; rfl) ?_
    clear t0 t1 t2 t3 t4 t5 t6 t7 t8 hv hx hy hq
    refine evPos (by rw [hle]; omega) (evNeg (by omega) (evNeg (by omega) (evFix P1 (evPos (by omega) (evPos (by rw [gl _ _ (by omega) (by omega)]; omega) (evFix P2 (evPos (by rw [gl _ _ (by omega) (by omega)]; omega) (evFix P3 (evPos (by rw [gl _ _ (by omega) (by omega)]; omega) (evFix P4 (evPos (by rw [gl _ _ (by omega) (by omega)]; omega) (evPos (by omega) ?_))))))))))))
    exact hn
theorem spec_HalveImage.ev (a b c : Int) (l : List Int) (hl : l.length ≤ 9223372036854775806) : Ev (fun k => spec_HalveImage.f k a b c l) (if HalfOk a b c l then (a / 2, b / 2, c, pixelsUpto (fun x y => halfL a.toNat c.toNat l x y c.toNat) (a.toNat / 2) (a.toNat / 2 * (b.toNat / 2))) else (0, 0, 0, [])) := by
  unfold spec_HalveImage.f
  refine evBind (spec_validImage.ev a b c l hl) ?_
  by_cases hi : ImgOk a b c l
  · refine evPos (decide_eq_true hi) ?_
    obtain ⟨W, H, p, rfl, rfl, rfl, hlen, b1, b2, b3, b4, b5, b6⟩ := hi.nats
    have m1 : Int.tmod (W : Int) 2 = ((W % 2 : Nat) : Int) := rfl
    have m2 : Int.tmod (H : Int) 2 = ((H % 2 : Nat) : Int) := rfl
    by_cases h2 : W % 2 = 0
    · refine evPos (by rw [m1]; omega) ?_
      by_cases h3 : H % 2 = 0
      · have hb : (Int.tmod (H : Int) 2 != 0) = false := by rw [m2, h3]; rfl
        rw [hb, if_pos (show HalfOk (W : Int) (H : Int) (p : Int) l from ⟨hi, by omega, by omega⟩)]
        clear m1 m2 hb
        obtain ⟨w, rfl⟩ : ∃ w, W = 2 * w := ⟨W / 2, by omega⟩
        obtain ⟨h, rfl⟩ : ∃ h, H = 2 * h := ⟨H / 2, by omega⟩
        have e1 : wrap64 (Int.tdiv ((2 * w : Nat) : Int) 2) = (w : Int) := by
          have : Int.tdiv ((2 * w : Nat) : Int) 2 = ((2 * w / 2 : Nat) : Int) := rfl
          rw [this, wrapNat _ (by omega)]; omega
        have e2 : wrap64 (Int.tdiv ((2 * h : Nat) : Int) 2) = (h : Int) := by
          have : Int.tdiv ((2 * h : Nat) : Int) 2 = ((2 * h / 2 : Nat) : Int) := rfl
          rw [this, wrapNat _ (by omega)]; omega
        have hn := spec_newImage.val (w : Int) (h : Int) (p : Int) ⟨by omega, by omega⟩ ⟨by omega, by omega⟩ ⟨by omega, by omega⟩
        refine Ev.step (fun k => by simp only [spec_HalveImage.j0, e1, e2]; rfl) (evNeg (by simp) (evFix hn ?_))
        clear e1 e2 hn
        have hF := pixels_lenp (fun x y => halfL (2 * w) p l x y p) w p (fun x y => halfL_length _ _ _ _ _ _) (w * h)
        have h4 := spec_HalveImage.ev_l0 w h p l hlen (by omega) (by omega) (by omega) hi.2.2.2.2 _ rfl hF (w * h * p) 0 (by omega) (by omega)
        rw [List.take_zero, List.nil_append, Nat.sub_zero, hF] at h4
        have e : ((w : Int) * (h : Int) * (p : Int)).toNat = w * h * p := by
          rw [show (w : Int) * (h : Int) * (p : Int) = ((w * h * p : Nat) : Int) by push_cast; rfl, Int.toNat_natCast]
        have r1 : ((2 * w : Nat) : Int) / 2 = (w : Int) := by omega
        have r2 : ((2 * h : Nat) : Int) / 2 = (h : Int) := by omega
        have r3 : 2 * w / 2 = w := by omega
        have r4 : 2 * h / 2 = h := by omega
        simp only [e, Int.toNat_natCast, r1, r2, r3, r4]
        exact h4
      · have hb : (Int.tmod (H : Int) 2 != 0) = true := by rw [m2, show H % 2 = 1 by omega]; rfl
        rw [hb, if_neg (fun hk : HalfOk (W : Int) (H : Int) (p : Int) l => h3 (by have := hk.2.2; omega))]
        exact Ev.step (fun k => by simp only [spec_HalveImage.j0]; rfl) (evPos (by trivial) (evRet rfl))
    · rw [if_neg (fun hk : HalfOk (W : Int) (H : Int) (p : Int) l => h2 (by have := hk.2.1; omega))]
      exact evNeg (by rw [m1]; omega) (Ev.step (fun k => by simp only [spec_HalveImage.j0]; rfl) (evPos (by trivial) (evRet rfl)))
  · rw [if_neg (fun hk : HalfOk a b c l => hi hk.1)]
    exact evNeg (by rw [decide_eq_false hi]; simp) (Ev.step (fun k => by simp only [spec_HalveImage.j0]; rfl) (evPos (by trivial) (evRet rfl)))

theorem half_same (a b c : Int) (l : List Int) (hk : HalfOk a b c l) : impl_ScaleArea.f a b c l (wrap64 (Int.tdiv a 2)) (wrap64 (Int.tdiv b 2)) = some (a / 2, b / 2, c, pixelsUpto (fun x y => halfL a.toNat c.toNat l x y c.toNat) (a.toNat / 2) (a.toNat / 2 * (b.toNat / 2))) := by
  obtain ⟨hi, h1, h2⟩ := hk
  obtain ⟨W, H, p, rfl, rfl, rfl, hlen, b1, b2, b3, b4, b5, b6⟩ := hi.nats
  obtain ⟨m, rfl⟩ : ∃ m, W = 2 * m := ⟨W / 2, by omega⟩
  obtain ⟨n, rfl⟩ : ∃ n, H = 2 * n := ⟨H / 2, by omega⟩
  have e1 : wrap64 (Int.tdiv ((2 * m : Nat) : Int) 2) = (m : Int) := by
    rw [Int.tdiv_eq_ediv_of_nonneg (by omega), wrapIn (by omega) (by omega)]
    omega
  have e2 : wrap64 (Int.tdiv ((2 * n : Nat) : Int) 2) = (n : Int) := by
    rw [Int.tdiv_eq_ediv_of_nonneg (by omega), wrapIn (by omega) (by omega)]
    omega
  rw [e1, e2]
  unfold impl_ScaleArea.f
  rw [if_pos ⟨hi, by clear e1 e2; omega, by clear e1 e2; omega⟩]
  clear e1 e2
  rw [show ((2 * m : Nat) : Int) / 2 = (m : Int) by omega, show ((2 * n : Nat) : Int) / 2 = (n : Int) by omega]
  simp only [Int.toNat_natCast, show 2 * m / 2 = m by omega, show 2 * n / 2 = n by omega]
theorem FnHalveImage : laws_FnHalveImage.Pure := by
  intro l0 _ _ hw
  refine Ev.rounds ?_
  obtain ⟨a, b, c, l, hd, hll⟩ := spec_DrawHalveImage.ev l0 hw
  have h3 := spec_HalveImage.ev a b c l (by omega)
  have h4 : impl_HalveImage.f a b c l = some (if HalfOk a b c l then (a / 2, b / 2, c, pixelsUpto (fun x y => halfL a.toNat c.toNat l x y c.toNat) (a.toNat / 2) (a.toNat / 2 * (b.toNat / 2))) else (0, 0, 0, [])) := rfl
  have hr : (if HalfOk a b c l then (a / 2, b / 2, c, pixelsUpto (fun x y => halfL a.toNat c.toNat l x y c.toNat) (a.toNat / 2) (a.toNat / 2 * (b.toNat / 2))) else (0, 0, 0, [])).2.2.2.length ≤ 1048576 := by
    split
    · rename_i ok
      obtain ⟨W, H, p, rfl, rfl, rfl, hlen, b1, b2, b3, b4, b5, b6⟩ := ok.1.nats
      simp only [Int.toNat_natCast]
      have h5 := pixels_lenp (fun x y => halfL W p l x y p) (W / 2) p (fun x y => halfL_length _ _ _ _ _ _) (W / 2 * (H / 2))
      have h6 : W / 2 * (H / 2) * p ≤ 16 * 16 * 4 := Nat.mul_le_mul (Nat.mul_le_mul (by omega) (by omega)) b6
      omega
    · simp
  have hz : ∃ ra rb rc rl, (if HalfOk a b c l then (a / 2, b / 2, c, pixelsUpto (fun x y => halfL a.toNat c.toNat l x y c.toNat) (a.toNat / 2) (a.toNat / 2 * (b.toNat / 2))) else (0, 0, 0, [])) = (ra, rb, rc, rl) ∧ ((ra == 0) = false → impl_ScaleArea.f a b c l (wrap64 (Int.tdiv a 2)) (wrap64 (Int.tdiv b 2)) = some (ra, rb, rc, rl)) := by
    by_cases hk : HalfOk a b c l
    · exact ⟨_, _, _, _, by rw [if_pos hk], fun _ => half_same a b c l hk⟩
    · exact ⟨_, _, _, _, by rw [if_neg hk], fun h => by cases h⟩
  obtain ⟨ra, rb, rc, rl, e, hz⟩ := hz
  rw [e] at h3 h4 hr
  simp only [] at hr
  have heq := laws_equalImage.refl ra rb rc rl (by omega)
  have hno : Ev (fun k => laws_FnHalveImage.j0 k true a b c l ra rb rc rl) true :=
    Ev.step (fun k => by simp only [laws_FnHalveImage.j0]; rfl) (evPos (by trivial) (evBind h3 (evBind heq (evRet rfl))))
  unfold laws_FnHalveImage.f
  refine evIf (fun _ => evRet rfl) (fun _ => evBind hd (evFix h4 (evBind h3 (evBind heq (evPos rfl ?_)))))
  show Ev (fun k => laws_FnHalveImage.j0 k (ra == 0) a b c l ra rb rc rl) true
  cases hc : (ra == 0) with
  | true => exact hno
  | false =>
    exact Ev.step (fun k => by simp only [laws_FnHalveImage.j0]; rfl) (evNeg (by first | exact not_false | simp) (evFix (hz hc) (evBind heq (evRet rfl))))

end Go.Proofs.Ytebnppmojkgndaa.Pure

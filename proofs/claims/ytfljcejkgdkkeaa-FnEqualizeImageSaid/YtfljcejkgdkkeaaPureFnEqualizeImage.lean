/- FnEqualizeImage answers true for every code: an equalized image reaches from 0 to 255, unless all pixels are equal, and keeps the order of numbers. No condition. -/
import Derived.Test.YtfljcejkgdkkeaaPrintHimplEqualizeImage
import Derived.Test.YtfljcejkgdkkeaaPrintHx0
import Derived.Test.YtfljcejkgdkkeaaPrintHx2
import Derived.Test.YtfljcejkgdkkeaaPrintLFnEqualizeImage
import Derived.Test.YtfljcejkgdkkeaaPrintR0x0
import Derived.Test.YtfljcejkgdkkeaaPrintR0x1
import Derived.Test.YtfljcejkgdkkeaaPrintR1x0
import Derived.Test.YtfljcejkgdkkeaaPrintR1x1
import Derived.Test.YtfljcejkgdkkeaaPrintR1x2
import Derived.Test.YtfljcejkgdkkeaaPrintR1x3
import Derived.Test.YtfljcejkgdkkeaaPrintR1x4
namespace Go.Proofs.Ytfljcejkgdkkeaa.Pure
open Go.RowKit Go.Proofs.Ytfljcejkgdkkeaa.Print Go.Proofs.YtfljcejkgdkkeaaW.PrintWords Go.Proofs.YtfljcejkgdkkeaaW.PrintLast Go.Proofs.YtfljcejkgdkkeaaW.PrintMore
set_option linter.unusedVariables false
set_option linter.unusedSimpArgs false
theorem rdN (l : List Int) (k : Nat) (h : k < l.length) : rd l (k : Int) = l[k] := by
  simp [rd, List.getD_eq_getElem?_getD, List.getElem?_eq_getElem h]
theorem drop_cons_ {α : Type} (l : List α) (k : Nat) (h : k < l.length) : l.drop k = l[k] :: l.drop (k + 1) := List.drop_eq_getElem_cons h
theorem take_snocN {α : Type} (l : List α) (k : Nat) (h : k < l.length) : l.take (k + 1) = l.take k ++ [l[k]] := by
  rw [List.take_succ_eq_append_getElem h]
/-- Two lists of one length, from a place on. -/
theorem decide_drop_eq {α : Type} [DecidableEq α] (a b : List α) (i : Nat) (h1 : i < a.length) (h2 : i < b.length) : decide (a.drop i = b.drop i) = (decide (a[i] = b[i]) && decide (a.drop (i + 1) = b.drop (i + 1))) := by
  rw [drop_cons_ a i h1, drop_cons_ b i h2]
  rw [Bool.eq_iff_iff]
  simp only [decide_eq_true_eq, Bool.and_eq_true, List.cons.injEq]

/-- A code that a reader reads. -/
def CodeOk (b : List Int) : Prop := b.length ≤ 2000 ∧ ∀ x ∈ b, 0 ≤ x ∧ x ≤ 255
theorem code_rd (b : List Int) (h : CodeOk b) (i : Int) (h0 : 0 ≤ i) (h1 : i < b.length) : 0 ≤ rd b i ∧ rd b i ≤ 255 := by
  obtain ⟨n, rfl⟩ := Int.eq_ofNat_of_zero_le h0
  rw [rdN b n (by omega)]
  exact h.2 _ (List.getElem_mem _)
theorem xor_nonneg (a b : Int) (ha : 0 ≤ a) (ha1 : a < 4611686018427387904) (hb : 0 ≤ b) (hb1 : b < 4611686018427387904) : 0 ≤ Go.bits .xor .i64 a b := by
  obtain ⟨n, rfl⟩ := Int.eq_ofNat_of_zero_le ha
  obtain ⟨m, rfl⟩ := Int.eq_ofNat_of_zero_le hb
  have hx : n ^^^ m < 2 ^ 62 := Nat.xor_lt_two_pow (by omega) (by omega)
  have e : Go.bits .xor .i64 (n : Int) (m : Int) = ((n ^^^ m : Nat) : Int) := by
    have hp : (2 : Nat) ^ IntKind.i64.bits = 18446744073709551616 := by decide
    have ha' : n % 2 ^ IntKind.i64.bits = n := Nat.mod_eq_of_lt (by omega)
    have hb' : m % 2 ^ IntKind.i64.bits = m := Nat.mod_eq_of_lt (by omega)
    simp only [bits, BitVec.ofInt_natCast, BitVec.toNat_xor, BitVec.toNat_ofNat, ha', hb']
    rw [IntKind.wrap_i64]
    omega
  rw [e]
  omega
theorem spec_reader_pick.ev (b : List Int) (h : CodeOk b) (p n : Int) (hp0 : 0 ≤ p) (hp1 : p < 1000000000) (hn : n ≤ 1000000) : ∃ v, Ev (fun k => spec_reader_pick.f k b p n) (v, p + 1) ∧ 0 ≤ v ∧ (v < n ∨ v = 0) := by
  have hw : wrap64 (p + 1) = p + 1 := wrapIn (by omega) (by omega)
  have hw1 : wrap64 (p + 1 - 1) = p := by rw [wrapIn (by omega) (by omega)]; omega
  unfold spec_reader_pick.f
  rw [hw]
  by_cases hn1 : n < 1
  · refine ⟨0, evPos hn1 (Ev.step (fun k => by simp only [spec_reader_pick.j0]; rfl) (evPos (by trivial) (evRet rfl))), by omega, .inr rfl⟩
  by_cases hb : (b.length : Int) = 0
  · refine ⟨0, evNeg hn1 (Ev.step (fun k => by simp only [spec_reader_pick.j0]; rfl) (evPos (by simp [hb]) (evRet rfl))), by omega, .inr rfl⟩
  have hbf : ((b.length : Int) == 0) = false := by simpa using hb
  have hl := h.1
  by_cases hlt : p < (b.length : Int)
  · have hr := code_rd b h p hp0 hlt
    refine ⟨Int.tmod (wrap64 (rd b p)) n, evNeg hn1 (Ev.step (fun k => by simp only [spec_reader_pick.j0, hbf, hw1]; rfl) (evNeg (by simp) (evPos hlt (evPos hp0 (evNeg (by omega) (evRet rfl)))))), ?_, .inl ?_⟩
    · exact Int.tmod_nonneg _ (by rw [wrapIn (by omega) (by omega)]; omega)
    · exact Int.tmod_lt_of_pos _ (by omega)
  · have hm0 : 0 ≤ Int.tmod p (b.length : Int) := Int.tmod_nonneg _ hp0
    have hm1 : Int.tmod p (b.length : Int) < b.length := Int.tmod_lt_of_pos _ (by omega)
    have hq : wrap64 (wrap64 (p * 7) + 3) = p * 7 + 3 := by rw [wrapIn (x := p * 7) (by omega) (by omega), wrapIn (by omega) (by omega)]
    have hk0 : 0 ≤ Int.tmod (p * 7 + 3) (b.length : Int) := Int.tmod_nonneg _ (by omega)
    have hk1 : Int.tmod (p * 7 + 3) (b.length : Int) < b.length := Int.tmod_lt_of_pos _ (by omega)
    have r1 := code_rd b h _ hm0 hm1
    have r2 := code_rd b h _ hk0 hk1
    have hd0 : 0 ≤ Int.tdiv p (b.length : Int) := Int.tdiv_nonneg hp0 (by omega)
    have hd1 : Int.tdiv p (b.length : Int) ≤ p := by
      have := Int.natAbs_tdiv_le_natAbs p (b.length : Int)
      omega
    refine ⟨_, evNeg hn1 (Ev.step (fun k => by simp only [spec_reader_pick.j0, hbf, hw1, hq]; rfl) (evNeg (by simp) (evNeg hlt (evNeg hb (evPos hm0 (evPos hm1 (evPos hk0 (evPos hk1 (evNeg (by omega) (evRet rfl)))))))))), ?_, .inl (Int.tmod_lt_of_pos _ (by omega))⟩
    generalize rd b (Int.tmod p (b.length : Int)) = u at *
    generalize rd b (Int.tmod (p * 7 + 3) (b.length : Int)) = t at *
    generalize Int.tdiv p (b.length : Int) = q at *
    rw [wrapIn (x := u) (by omega) (by omega), wrapIn (x := t) (by omega) (by omega), wrapIn (x := q) (by omega) (by omega), wrapIn (x := u * 131) (by omega) (by omega), wrapIn (x := t * 1117) (by omega) (by omega), wrapIn (x := u * 131 + t * 1117) (by omega) (by omega), wrapIn (x := p * 29) (by omega) (by omega), wrapIn (x := u * 131 + t * 1117 + p * 29) (by omega) (by omega), wrapIn (x := q * 53) (by omega) (by omega), wrapIn (x := u * 131 + t * 1117 + p * 29 + q * 53) (by omega) (by omega)]
    generalize hX : u * 131 + t * 1117 + p * 29 + q * 53 = X
    have hX0 : 0 ≤ X := by omega
    have hX1 : X < 4611686018427387904 := by omega
    have hT0 : 0 ≤ Int.tdiv X 64 := Int.tdiv_nonneg hX0 (by omega)
    have hT1 : Int.tdiv X 64 ≤ X := by
      have := Int.natAbs_tdiv_le_natAbs X 64
      omega
    rw [wrapIn (x := Int.tdiv X 64) (by omega) (by omega)]
    exact Int.tmod_nonneg _ (xor_nonneg _ _ hX0 hX1 hT0 (by omega))
theorem spec_newReader.ev (l : List Int) (hw : ∀ x ∈ l, (Lit.int .u8 x).wf = true) : ∃ b, spec_newReader.f l = some (b, 0) ∧ CodeOk b := by
  have hx : ∀ x ∈ l, 0 ≤ x ∧ x ≤ 255 := fun x hx => by
    have := hw x hx
    have hmin : IntKind.u8.min = 0 := rfl
    have hmax : IntKind.u8.max = 255 := rfl
    simp only [Lit.wf, Bool.and_eq_true, decide_eq_true_eq] at this
    omega
  unfold spec_newReader.f
  by_cases h : (l.length : Int) > 2000
  · rw [if_pos h, if_pos (by omega)]
    exact ⟨_, rfl, by simp; omega, fun x h2 => hx x (List.mem_of_mem_take h2)⟩
  · rw [if_neg h]
    exact ⟨_, rfl, by omega, hx⟩

theorem spec_reader_one.ev (b : List Int) (h : CodeOk b) (p : Int) (hp0 : 0 ≤ p) (hp1 : p < 1000000000) (l : List Int) (hl0 : 0 < l.length) (hl1 : l.length ≤ 1000) : ∃ v, Ev (fun k => spec_reader_one.f k b p l) (v, p + 1) ∧ v ∈ l := by
  obtain ⟨v, hv, h0, h1⟩ := spec_reader_pick.ev b h p (l.length : Int) hp0 hp1 (by omega)
  have hlt : v < l.length := by omega
  refine ⟨rd l v, ?_, ?_⟩
  · unfold spec_reader_one.f
    exact evBind hv (evPos h0 (evPos hlt (evRet rfl)))
  · obtain ⟨n, rfl⟩ := Int.eq_ofNat_of_zero_le h0
    rw [rdN l n (by omega)]
    exact List.getElem_mem _

def Bytes (l : List Int) : Prop := ∀ x ∈ l, 0 ≤ x ∧ x ≤ 255
theorem Bytes.set {l : List Int} (h : Bytes l) (i : Nat) (v : Int) (h0 : 0 ≤ v) (h1 : v ≤ 255) : Bytes (l.set i v) := by
  intro x hx
  rcases List.mem_or_eq_of_mem_set hx with hx | rfl
  · exact h x hx
  · exact ⟨h0, h1⟩
theorem spec_newImage.val (a b c : Int) (ha : 1 ≤ a ∧ a ≤ 16) (hb : 1 ≤ b ∧ b ≤ 16) (hc : 1 ≤ c ∧ c ≤ 4) : spec_newImage.f a b c = some (a, b, c, List.replicate (a * b * c).toNat 0) := by
  obtain ⟨h1, h2, h3, h4⟩ := shape_prod ha hb hc
  unfold spec_newImage.f
  rw [shape_wrap ha hb hc, if_pos (by omega), if_pos (by omega)]
theorem spec_randomImage.ev_l0 (b : List Int) (h : CodeOk b) (kind W H n : Int) (N : Nat) (hN : N ≤ 100000) (d : Nat) : ∀ (i : Nat) (at_ p : Int) (l : List Int), l.length = N → i ≤ N → N - i = d → 0 ≤ at_ → at_ ≤ 255 → Bytes l → 0 ≤ p → p + d < 1000000000 →
    ∃ l' q, Ev (fun k => spec_randomImage.l0 k kind at_ (i : Int) b p W H n l) (W, H, n, l', q) ∧ l'.length = N ∧ Bytes l' ∧ p ≤ q ∧ q ≤ p + d := by
  induction d with
  | zero =>
    intro i at_ p l hl hi hd _ _ hb hp _
    exact ⟨l, p, Ev.step (fun k => by simp only [spec_randomImage.l0]; rfl) (evNeg (by omega) (evRet rfl)), hl, hb, by omega, by omega⟩
  | succ d ih =>
    intro i at_ p l hl hi hd h0 h1 hb hp hpd
    have hlt : (i : Int) < (l.length : Int) := by omega
    by_cases k0 : kind = 0
    · obtain ⟨v, hv, v0, v1⟩ := spec_reader_pick.ev b h p 256 hp (by omega) (by omega)
      obtain ⟨l', q, he, e1, e2, e3, e4⟩ := ih (i + 1) v (p + 1) (l.set (i : Int).toNat v) (by simpa using hl) (by omega) (by omega) v0 (by omega) (hb.set _ v v0 (by omega)) (by omega) (by omega)
      refine ⟨l', q, Ev.step (fun k => by simp only [spec_randomImage.l0, wrapSucc i (by omega)]; rfl) (evPos hlt (evPos k0 (evBind hv ?_))), e1, e2, by omega, by omega⟩
      exact evPos (show (0 : Int) ≤ (i : Int) by omega) he
    by_cases k1 : kind = 1
    · obtain ⟨v, hv, v0, v1⟩ := spec_reader_pick.ev b h p 5 hp (by omega) (by omega)
      have hw : wrap64 (wrap64 (at_ + v) + 254) = at_ + v + 254 := by rw [wrapIn (x := at_ + v) (by omega) (by omega), wrapIn (by omega) (by omega)]
      have t0 := Int.tmod_nonneg 256 (show 0 ≤ at_ + v + 254 by omega)
      have t1 := Int.tmod_lt_of_pos (at_ + v + 254) (show (0 : Int) < 256 by omega)
      obtain ⟨l', q, he, e1, e2, e3, e4⟩ := ih (i + 1) (Int.tmod (at_ + v + 254) 256) (p + 1) (l.set (i : Int).toNat (Int.tmod (at_ + v + 254) 256)) (by simpa using hl) (by omega) (by omega) t0 (by omega) (hb.set _ _ t0 (by omega)) (by omega) (by omega)
      refine ⟨l', q, Ev.step (fun k => by simp only [spec_randomImage.l0, wrapSucc i (by omega)]; rfl) (evPos hlt (evNeg k0 (evPos k1 (evBind hv ?_)))), e1, e2, by omega, by omega⟩
      simp only [hw]
      exact evPos (show (0 : Int) ≤ (i : Int) by omega) he
    by_cases k2 : kind = 2
    · obtain ⟨v, hv, v0, v1⟩ := spec_reader_pick.ev b h p 4 hp (by omega) (by omega)
      have hw : wrap64 (60 * v) = 60 * v := wrapIn (by omega) (by omega)
      obtain ⟨l', q, he, e1, e2, e3, e4⟩ := ih (i + 1) (60 * v) (p + 1) (l.set (i : Int).toNat (60 * v)) (by simpa using hl) (by omega) (by omega) (by omega) (by omega) (hb.set _ _ (by omega) (by omega)) (by omega) (by omega)
      refine ⟨l', q, Ev.step (fun k => by simp only [spec_randomImage.l0, wrapSucc i (by omega)]; rfl) (evPos hlt (evNeg k0 (evNeg k1 (evPos k2 (evBind hv ?_))))), e1, e2, by omega, by omega⟩
      simp only [hw]
      exact evPos (show (0 : Int) ≤ (i : Int) by omega) he
    · obtain ⟨l', q, he, e1, e2, e3, e4⟩ := ih (i + 1) at_ p (l.set (i : Int).toNat at_) (by simpa using hl) (by omega) (by omega) h0 h1 (hb.set _ _ h0 h1) (by omega) (by omega)
      exact ⟨l', q, Ev.step (fun k => by simp only [spec_randomImage.l0, wrapSucc i (by omega)]; rfl) (evPos hlt (evNeg k0 (evNeg k1 (evNeg k2 (evPos (by omega) he))))), e1, e2, by omega, by omega⟩
theorem spec_randomImage.ev (b : List Int) (h : CodeOk b) (p : Int) (hp0 : 0 ≤ p) (hp1 : p < 900000000) (n : Int) (hn : 1 ≤ n ∧ n ≤ 4) :
    ∃ W H l q, Ev (fun k => spec_randomImage.f k b p n) (W, H, n, l, q) ∧ ImgOk W H n l ∧ W ≤ 8 ∧ H ≤ 8 ∧ p ≤ q ∧ q ≤ p + 2000 := by
  obtain ⟨W, hW, mW⟩ := spec_reader_one.ev b h p hp0 (by omega) [3, 4, 2, 5, 1, 8, 6] (by simp) (by simp)
  obtain ⟨H, hH, mH⟩ := spec_reader_one.ev b h (p + 1) (by omega) (by omega) [3, 2, 4, 1, 5, 8] (by simp) (by simp)
  obtain ⟨kd, hk, k0, k1⟩ := spec_reader_pick.ev b h (p + 1 + 1) 4 (by omega) (by omega) (by omega)
  obtain ⟨at_, ha, a0, a1⟩ := spec_reader_pick.ev b h (p + 1 + 1 + 1) 256 (by omega) (by omega) (by omega)
  have bW : 1 ≤ W ∧ W ≤ 8 := by
    simp only [List.mem_cons, List.mem_nil_iff, or_false] at mW
    omega
  have bH : 1 ≤ H ∧ H ≤ 8 := by
    simp only [List.mem_cons, List.mem_nil_iff, or_false] at mH
    omega
  have hI := spec_newImage.val W H n ⟨bW.1, by omega⟩ ⟨bH.1, by omega⟩ hn
  obtain ⟨_, _, h3, h4⟩ := shape_prod (a := W) (b := H) (c := n) ⟨bW.1, by omega⟩ ⟨bH.1, by omega⟩ hn
  obtain ⟨l', q, he, e1, e2, e3, e4⟩ := spec_randomImage.ev_l0 b h kd W H n (W * H * n).toNat (by omega) (W * H * n).toNat 0 at_ (p + 1 + 1 + 1 + 1) (List.replicate (W * H * n).toNat 0) (by simp) (by omega) (by omega) a0 (by omega)
    (fun x hx => by rw [List.mem_replicate] at hx; omega) (by omega) (by omega)
  refine ⟨W, H, l', q, ?_, ⟨⟨bW.1, by omega⟩, ⟨bH.1, by omega⟩, hn, by omega, e2⟩, bW.2, bH.2, by omega, by omega⟩
  unfold spec_randomImage.f
  exact evBind hW (evBind hH (evFix hI (evBind hk (evBind ha he))))
theorem spec_spoilImage.ev (b : List Int) (h : CodeOk b) (p : Int) (hp0 : 0 ≤ p) (hp1 : p < 900000000) (W H n : Int) (l : List Int) (hl : 0 < l.length) :
    ∃ W' H' n' l' q, Ev (fun k => spec_spoilImage.f k b p W H n l) (W', H', n', l', q) ∧ l'.length ≤ l.length ∧ p ≤ q ∧ q ≤ p + 2 := by
  obtain ⟨v, hv, v0, v1⟩ := spec_reader_pick.ev b h p 40 hp0 (by omega) (by omega)
  unfold spec_spoilImage.f
  by_cases e0 : v = 0
  · obtain ⟨u, hu, _⟩ := spec_reader_one.ev b h (p + 1) (by omega) (by omega) [0, 17, wrap64 (W + 1)] (by simp) (by simp)
    exact ⟨u, H, n, l, p + 1 + 1, evBind hv (evPos e0 (evBind hu (evRet rfl))), by omega, by omega, by omega⟩
  by_cases e1 : v = 1
  · exact ⟨W, H, n, l.drop (1 : Int).toNat, p + 1, evBind hv (evNeg e0 (evPos e1 (evPos (by omega) (evRet rfl)))), by simp, by omega, by omega⟩
  by_cases e2 : v = 2
  · obtain ⟨u, hu, _⟩ := spec_reader_one.ev b h (p + 1) (by omega) (by omega) [-1, 256] (by simp) (by simp)
    exact ⟨W, H, n, l.set (0 : Int).toNat u, p + 1 + 1, evBind hv (evNeg e0 (evNeg e1 (evPos e2 (evBind hu (evPos (by omega) (evRet rfl)))))), by simp, by omega, by omega⟩
  by_cases e3 : v = 3
  · obtain ⟨u, hu, _⟩ := spec_reader_one.ev b h (p + 1) (by omega) (by omega) [0, 5] (by simp) (by simp)
    exact ⟨W, H, u, l, p + 1 + 1, evBind hv (evNeg e0 (evNeg e1 (evNeg e2 (evPos e3 (evBind hu (evRet rfl)))))), by omega, by omega, by omega⟩
  · exact ⟨W, H, n, l, p + 1, evBind hv (evNeg e0 (evNeg e1 (evNeg e2 (evNeg e3 (evRet rfl))))), by omega, by omega, by omega⟩
theorem spec_anyPlanes.ev (b : List Int) (h : CodeOk b) (p : Int) (hp0 : 0 ≤ p) (hp1 : p < 900000000) : ∃ n, Ev (fun k => spec_anyPlanes.f k b p) (n, p + 1) ∧ 1 ≤ n ∧ n ≤ 4 := by
  obtain ⟨u, hu, mu⟩ := spec_reader_one.ev b h p hp0 (by omega) [1, 3, 1, 4, 2] (by simp) (by simp)
  refine ⟨u, ?_, ?_⟩
  · unfold spec_anyPlanes.f
    exact evBind hu (evRet rfl)
  · simp only [List.mem_cons, List.mem_nil_iff, or_false] at mu
    omega
theorem spec_anyImage.ev (b : List Int) (h : CodeOk b) (p : Int) (hp0 : 0 ≤ p) (hp1 : p < 800000000) : ∃ W H n l q, Ev (fun k => spec_anyImage.f k b p) (W, H, n, l, q) ∧ l.length ≤ 1024 ∧ p ≤ q ∧ q ≤ p + 3000 := by
  obtain ⟨n, hn, n0, n1⟩ := spec_anyPlanes.ev b h p hp0 (by omega)
  obtain ⟨W, H, l, q, hr, ok, _, _, q0, q1⟩ := spec_randomImage.ev b h (p + 1) (by omega) (by omega) n ⟨n0, n1⟩
  obtain ⟨W', H', n', l', q', hs, e1, e2, e3⟩ := spec_spoilImage.ev b h q (by omega) (by omega) W H n l ok.len.1
  refine ⟨W', H', n', l', q', ?_, by have := ok.len.2; omega, by omega, by omega⟩
  unfold spec_anyImage.f
  exact evBind hn (evBind hr (evBind hs (evRet rfl)))

theorem spec_grayImage.ev (b : List Int) (h : CodeOk b) (p : Int) (hp0 : 0 ≤ p) (hp1 : p < 700000000) : ∃ W H n l q, Ev (fun k => spec_grayImage.f k b p) (W, H, n, l, q) ∧ l.length ≤ 1024 := by
  obtain ⟨v, hv, v0, v1⟩ := spec_reader_pick.ev b h p 20 hp0 (by omega) (by omega)
  unfold spec_grayImage.f
  by_cases e0 : v = 0
  · obtain ⟨W, H, n, l, q, he, h1, _, _⟩ := spec_anyImage.ev b h (p + 1) (by omega) (by omega)
    exact ⟨W, H, n, l, q, evBind hv (evPos e0 (evBind he (evRet rfl))), h1⟩
  · obtain ⟨W, H, l, q, hr, ok, _, _, q0, q1⟩ := spec_randomImage.ev b h (p + 1) (by omega) (by omega) 1 (by omega)
    obtain ⟨W', H', n', l', q', hs, e1, e2, e3⟩ := spec_spoilImage.ev b h q (by omega) (by omega) W H 1 l ok.len.1
    exact ⟨W', H', n', l', q', evBind hv (evNeg e0 (evBind hr (evBind hs (evRet rfl)))), by have := ok.len.2; omega⟩

theorem spec_DrawEqualizeImage.ev (l : List Int) (hw : ∀ x ∈ l, (Lit.int .u8 x).wf = true) : ∃ W H n r, Ev (fun k => spec_DrawEqualizeImage.f k l) (W, H, n, r) ∧ r.length ≤ 1024 := by
  obtain ⟨b, hb, hc⟩ := spec_newReader.ev l hw
  obtain ⟨W, H, n, r, q, he, h1⟩ := spec_grayImage.ev b hc 0 (by omega) (by omega)
  refine ⟨W, H, n, r, ?_, h1⟩
  unfold spec_DrawEqualizeImage.f
  exact evFix hb (evBind he (evRet rfl))

theorem laws_equalInts.ev_l0 (a b : List Int) (hab : a.length = b.length) (hl : a.length ≤ 9223372036854775807) (d : Nat) : ∀ i, i ≤ a.length → a.length - i = d →
    Ev (fun k => laws_equalInts.l0 k a b (i : Int)) (decide (a.drop i = b.drop i)) := by
  induction d with
  | zero =>
    intro i hi hd
    refine Ev.step (fun k => by simp only [laws_equalInts.l0]; rfl) (evNeg (by omega) (evRet ?_))
    rw [List.drop_of_length_le (by omega), List.drop_of_length_le (by omega)]
    rfl
  | succ d ih =>
    intro i hi hd
    have hw : wrap64 ((i : Int) + 1) = ((i + 1 : Nat) : Int) := wrapSucc i (by omega)
    refine Ev.step (fun k => by simp only [laws_equalInts.l0, hw]; rfl) (evPos (by omega) (evPos (by omega) (evPos (by omega) ?_)))
    rw [decide_drop_eq a b i (by omega) (by omega), rdN a i (by omega), rdN b i (by omega)]
    refine evIf (fun h => ?_) (fun h => evRet ?_)
    · rw [decide_eq_true h, Bool.true_and]
      exact ih (i + 1) (by omega) (by omega)
    · rw [decide_eq_false h, Bool.false_and]
theorem laws_equalInts.ev (a b : List Int) (hl : a.length ≤ 9223372036854775807) : Ev (fun k => laws_equalInts.f k a b) (decide (a = b)) := by
  unfold laws_equalInts.f
  refine evIf (fun h => ?_) (fun h => evRet ?_)
  · have := laws_equalInts.ev_l0 a b (by omega) hl a.length 0 (by omega) (by omega)
    simpa using this
  · rw [eq_comm, decide_eq_false_iff_not]
    intro hab
    exact h (by rw [hab])

theorem laws_equalImage.ev (a b c : Int) (l : List Int) (a' b' c' : Int) (l' : List Int) (hl : l.length ≤ 9223372036854775807) : Ev (fun k => laws_equalImage.f k a b c l a' b' c' l') (decide (a = a' ∧ b = b' ∧ c = c' ∧ l = l')) := by
  have h := laws_equalInts.ev l l' hl
  unfold laws_equalImage.f
  refine evIf (fun e1 => evIf (fun e2 => evIf (fun e3 => evBind h (evRet ?_)) (fun e3 => evRet ?_)) (fun e2 => evRet ?_)) (fun e1 => evRet ?_)
  · rw [Bool.eq_iff_iff]
    simp only [decide_eq_true_eq]
    exact ⟨fun h => ⟨e1, e2, e3, h⟩, fun h => h.2.2.2⟩
  · exact (decide_eq_false (fun h => e3 h.2.2.1)).symm
  · exact (decide_eq_false (fun h => e2 h.2.1)).symm
  · exact (decide_eq_false (fun h => e1 h.1)).symm
theorem laws_equalImage.refl (a b c : Int) (l : List Int) (hl : l.length ≤ 9223372036854775807) : Ev (fun k => laws_equalImage.f k a b c l a b c l) true := by
  have h := laws_equalImage.ev a b c l a b c l hl
  rwa [decide_eq_true ⟨rfl, rfl, rfl, rfl⟩] at h

theorem spec_copyInts.val (l : List Int) (h : l.length < 17592186044416) : spec_copyInts.f l = some l := by
  unfold spec_copyInts.f
  simp [h]

theorem spec_copyImage.val (a b c : Int) (l : List Int) (h : l.length < 17592186044416) : spec_copyImage.f a b c l = some (a, b, c, l) := by
  unfold spec_copyImage.f
  rw [spec_copyInts.val l h]
  rfl

/-- How often each number of 0..255 stands in a list. -/
def histL (l : List Int) : List Int := (List.range 256).map fun (n : Nat) => ((l.count (n : Int) : Nat) : Int)
theorem histL_length (l : List Int) : (histL l).length = 256 := by simp [histL]
theorem histL_get (l : List Int) (n : Nat) (h : n < (histL l).length) : (histL l)[n] = ((l.count (n : Int) : Nat) : Int) := by simp [histL]
theorem histL_rd (l : List Int) (n : Nat) (h : n < 256) : rd (histL l) (n : Int) = ((l.count (n : Int) : Nat) : Int) := by
  rw [rdN _ n (by rw [histL_length]; exact h), histL_get]
theorem histL_nil : histL [] = List.replicate 256 0 := by
  apply List.ext_getElem
  · rw [histL_length, List.length_replicate]
  · intro j h1 h2
    rw [histL_get, List.getElem_replicate]
    rfl
theorem histL_snoc (l : List Int) (x : Int) (h0 : 0 ≤ x) (h1 : x ≤ 255) : (histL l).set x.toNat (rd (histL l) x + 1) = histL (l ++ [x]) := by
  obtain ⟨m, rfl⟩ := Int.eq_ofNat_of_zero_le h0
  rw [Int.toNat_natCast, histL_rd l m (by omega)]
  apply List.ext_getElem
  · rw [List.length_set, histL_length, histL_length]
  · intro j h2 h3
    rw [List.length_set, histL_length] at h2
    rw [List.getElem_set, histL_get, histL_get, List.count_append]
    by_cases e : m = j
    · subst e
      rw [if_pos rfl, List.count_singleton_self]
      omega
    · rw [if_neg e, List.count_singleton, if_neg (by simp; omega)]
      omega
theorem hist_wrap (l : List Int) (x : Int) (h0 : 0 ≤ x) (h1 : x ≤ 255) (hl : l.length ≤ 1000000) : wrap64 (rd (histL l) x + 1) = rd (histL l) x + 1 := by
  obtain ⟨m, rfl⟩ := Int.eq_ofNat_of_zero_le h0
  have hc := List.count_le_length (l := l) (a := (m : Int))
  rw [histL_rd l m (by omega)]
  exact wrapIn (by omega) (by omega)
theorem spec_histogram.ev_l0 (l : List Int) (hb : ∀ x ∈ l, 0 ≤ x ∧ x ≤ 255) (hl : l.length ≤ 1000000) (d : Nat) : ∀ i, i ≤ l.length → l.length - i = d →
    Ev (fun k => spec_histogram.l0 k l (histL (l.take i)) (i : Int)) (histL l) := by
  induction d with
  | zero =>
    intro i hi hd
    refine Ev.step (fun k => by simp only [spec_histogram.l0]; rfl) (evNeg (by omega) (evRet ?_))
    rw [List.take_of_length_le (by omega)]
  | succ d ih =>
    intro i hi hd
    have hlt : i < l.length := by omega
    have h1 := hb l[i] (List.getElem_mem hlt)
    have hs := histL_snoc (l.take i) l[i] h1.1 h1.2
    rw [← take_snocN l i hlt] at hs
    have hw := hist_wrap (l.take i) l[i] h1.1 h1.2 (by rw [List.length_take]; omega)
    refine Ev.step (fun k => by simp only [spec_histogram.l0, rdN l i hlt, wrapSucc i (by omega), hw, hs]; rfl) ?_
    refine evPos (by omega) (evPos (by omega) (evPos h1.1 (evPos (by rw [histL_length]; omega) ?_)))
    exact ih (i + 1) (by omega) (by omega)
theorem spec_histogram.ev (l : List Int) (hb : ∀ x ∈ l, 0 ≤ x ∧ x ≤ 255) (hl : l.length ≤ 1000000) : Ev (fun k => spec_histogram.f k l) (histL l) := by
  have h := spec_histogram.ev_l0 l hb hl l.length 0 (by omega) (by omega)
  unfold spec_histogram.f
  refine evPos (by omega) ?_
  rw [← histL_nil]
  exact h
theorem impl_histogram.ev_l0 (l : List Int) (hb : ∀ x ∈ l, 0 ≤ x ∧ x ≤ 255) (hl : l.length ≤ 1000000) (d : Nat) : ∀ i, i ≤ l.length → l.length - i = d →
    Ev (fun k => impl_histogram.l0 k (histL (l.take i)) l (l.length : Int) (i : Int)) (histL l) := by
  induction d with
  | zero =>
    intro i hi hd
    refine Ev.step (fun k => by simp only [impl_histogram.l0]; rfl) (evNeg (by omega) (evRet ?_))
    rw [List.take_of_length_le (by omega)]
  | succ d ih =>
    intro i hi hd
    have hlt : i < l.length := by omega
    have h1 := hb l[i] (List.getElem_mem hlt)
    have hs := histL_snoc (l.take i) l[i] h1.1 h1.2
    rw [← take_snocN l i hlt] at hs
    have hw := hist_wrap (l.take i) l[i] h1.1 h1.2 (by rw [List.length_take]; omega)
    refine Ev.step (fun k => by simp only [impl_histogram.l0, rdN l i hlt, wrapSucc i (by omega), hw, hs]; rfl) ?_
    refine evPos (by omega) (evPos (by omega) (evPos (by omega) (evPos h1.1 (evPos (by rw [histL_length]; omega) ?_))))
    exact ih (i + 1) (by omega) (by omega)
theorem impl_histogram.ev (a b c : Int) (l : List Int) (hb : ∀ x ∈ l, 0 ≤ x ∧ x ≤ 255) (hl : l.length ≤ 1000000) : Ev (fun k => impl_histogram.f k a b c l) (histL l) := by
  have h := impl_histogram.ev_l0 l hb hl l.length 0 (by omega) (by omega)
  unfold impl_histogram.f
  refine evPos (by omega) ?_
  rw [← histL_nil]
  exact h
theorem inRange_val (a lo hi : Int) : spec_inRange.f a lo hi = some (decide (lo ≤ a ∧ a ≤ hi)) := by
  unfold spec_inRange.f
  split
  · rename_i h; simp [h]
  · rename_i h; simp [h]

/-- All numbers of a list lie in a range. -/
def allB (lo hi : Int) (l : List Int) : Bool := l.all fun x => decide (lo ≤ x ∧ x ≤ hi)
theorem allB_iff (lo hi : Int) (l : List Int) : allB lo hi l = true ↔ ∀ x ∈ l, lo ≤ x ∧ x ≤ hi := by
  unfold allB
  rw [List.all_eq_true]
  simp only [decide_eq_true_eq]
theorem spec_allIn.ev_l0 (l : List Int) (lo hi : Int) (hl : l.length ≤ 9223372036854775806) (d : Nat) : ∀ i, i ≤ l.length → l.length - i = d →
    Ev (fun k => spec_allIn.l0 k l lo hi (i : Int)) (allB lo hi (l.drop i)) := by
  induction d with
  | zero =>
    intro i hi' hd
    refine Ev.step (fun k => by simp only [spec_allIn.l0]; rfl) (evNeg (by omega) (evRet ?_))
    rw [List.drop_of_length_le (by omega)]
    rfl
  | succ d ih =>
    intro i hi' hd
    have hw : wrap64 ((i : Int) + 1) = ((i + 1 : Nat) : Int) := wrapSucc i (by omega)
    refine Ev.step (fun k => by simp only [spec_allIn.l0, hw]; rfl) (evPos (by omega) (evPos (by omega) ?_))
    rw [rdN l i (by omega), drop_cons_ l i (by omega)]
    have hr : spec_inRange.f l[i] lo hi = some (decide (lo ≤ l[i] ∧ l[i] ≤ hi)) := by
      unfold spec_inRange.f
      split
      · rename_i h; simp [h]
      · rename_i h; simp [h]
    have e : allB lo hi (l[i] :: l.drop (i + 1)) = (decide (lo ≤ l[i] ∧ l[i] ≤ hi) && allB lo hi (l.drop (i + 1))) := by
      unfold allB
      rw [List.all_cons]
    rw [e]
    refine evFix hr (evIf (fun h => ?_) (fun h => evRet ?_))
    · rw [h, Bool.true_and]
      exact ih (i + 1) (by omega) (by omega)
    · rw [Bool.eq_false_iff.mpr h, Bool.false_and]
theorem spec_allIn.ev (l : List Int) (lo hi : Int) (hl : l.length ≤ 9223372036854775806) : Ev (fun k => spec_allIn.f k l lo hi) (allB lo hi l) := by
  have := spec_allIn.ev_l0 l lo hi hl l.length 0 (by omega) (by omega)
  unfold spec_allIn.f
  simpa using this

theorem spec_validShape.val (a b c : Int) : spec_validShape.f a b c = some (decide ((1 ≤ a ∧ a ≤ 16) ∧ (1 ≤ b ∧ b ≤ 16) ∧ (1 ≤ c ∧ c ≤ 4))) := by
  unfold spec_validShape.f
  rw [inRange_val, inRange_val, inRange_val]
  simp only [Option.bind_some, decide_eq_true_eq]
  by_cases h1 : 1 ≤ a ∧ a ≤ 16
  · rw [if_pos h1]
    by_cases h2 : 1 ≤ b ∧ b ≤ 16
    · rw [if_pos h2]
      congr 1
      rw [Bool.eq_iff_iff]
      simp only [decide_eq_true_eq]
      exact ⟨fun h => ⟨h1, h2, h⟩, fun h => h.2.2⟩
    · rw [if_neg h2, decide_eq_false (fun h => h2 h.2.1)]
  · rw [if_neg h1, decide_eq_false (fun h => h1 h.1)]
theorem allB_bytes (l : List Int) : allB 0 255 l = decide (∀ x ∈ l, 0 ≤ x ∧ x ≤ 255) := by
  rw [Bool.eq_iff_iff, allB_iff, decide_eq_true_eq]
theorem spec_validImage.ev (a b c : Int) (l : List Int) (hl : l.length ≤ 9223372036854775806) : Ev (fun k => spec_validImage.f k a b c l) (decide (ImgOk a b c l)) := by
  unfold spec_validImage.f
  refine evFix (spec_validShape.val a b c) ?_
  by_cases h : (1 ≤ a ∧ a ≤ 16) ∧ (1 ≤ b ∧ b ≤ 16) ∧ (1 ≤ c ∧ c ≤ 4)
  · refine evPos (decide_eq_true h) ?_
    rw [shape_wrap h.1 h.2.1 h.2.2]
    by_cases h2 : (l.length : Int) = a * b * c
    · refine evPos h2 ?_
      have h3 := spec_allIn.ev l 0 255 hl
      refine evBind h3 (evRet ?_)
      rw [allB_bytes, Bool.eq_iff_iff]
      simp only [decide_eq_true_eq]
      exact ⟨fun h3 => ⟨h.1, h.2.1, h.2.2, h2, h3⟩, fun hh => hh.2.2.2.2⟩
    · exact evNeg h2 (evRet (decide_eq_false (fun hh : ImgOk a b c l => h2 hh.2.2.2.1)).symm)
  · exact evNeg (by rw [decide_eq_false h]; simp) (evRet (decide_eq_false (fun hh : ImgOk a b c l => h ⟨hh.1, hh.2.1, hh.2.2.1⟩)).symm)

/-- How many numbers are less than n. -/
def lessC (l : List Int) (n : Int) : Nat := l.countP (fun x => decide (x < n))
def topL (l : List Int) : Int := maxUpto l l.length
/-- How many numbers are not the greatest one. -/
def restC (l : List Int) : Nat := l.length - l.count (topL l)
def eqNum (l : List Int) (x : Int) : Int := 255 * (lessC l x : Int) / (restC l : Int)
def eqData (l : List Int) : List Int := if restC l = 0 then l else l.map (eqNum l)
theorem mx_ge (a b : Int) : a ≤ mx a b ∧ b ≤ mx a b := by unfold mx; split <;> omega
theorem mx_or (a b : Int) : mx a b = a ∨ mx a b = b := by unfold mx; split <;> simp
theorem maxUpto_ge (l : List Int) (k : Nat) : ∀ i : Nat, i < k → rd l (i : Int) ≤ maxUpto l k := by
  induction k with
  | zero => intro i h; omega
  | succ k ih =>
    intro i h
    have h1 := mx_ge (maxUpto l k) (rd l (k : Int))
    show rd l (i : Int) ≤ mx (maxUpto l k) (rd l (k : Int))
    by_cases e : i = k
    · subst e; exact h1.2
    · exact Int.le_trans (ih i (by omega)) h1.1
theorem maxUpto_mem (l : List Int) (k : Nat) (h0 : 0 < l.length) (hk : k ≤ l.length) : maxUpto l k ∈ l := by
  induction k with
  | zero =>
    have : rd l ((0 : Nat) : Int) = l[0] := rdN l 0 h0
    show rd l 0 ∈ l
    rw [show (0 : Int) = ((0 : Nat) : Int) from rfl, this]
    exact List.getElem_mem h0
  | succ k ih =>
    show mx (maxUpto l k) (rd l (k : Int)) ∈ l
    rcases mx_or (maxUpto l k) (rd l (k : Int)) with e | e
    · rw [e]; exact ih (by omega)
    · rw [e, rdN l k (by omega)]; exact List.getElem_mem _
theorem topL_mem (l : List Int) (h : 0 < l.length) : topL l ∈ l := maxUpto_mem l l.length h (Nat.le_refl _)
theorem topL_ge (l : List Int) (x : Int) (h : x ∈ l) : x ≤ topL l := by
  obtain ⟨i, hi, rfl⟩ := List.getElem_of_mem h
  rw [← rdN l i hi]
  exact maxUpto_ge l l.length i hi
theorem lessC_succ (l : List Int) (n : Int) : lessC l (n + 1) = lessC l n + l.count n := by
  unfold lessC
  induction l with
  | nil => rfl
  | cons a t ih =>
    rw [List.countP_cons, List.countP_cons, List.count_cons, ih]
    by_cases h1 : a < n
    · rw [if_pos (by simp; omega), if_pos (by simp; omega), if_neg (by simp; omega)]; omega
    · by_cases h2 : a = n
      · rw [if_pos (by simp; omega), if_neg (by simp; omega), if_pos (by simp; omega)]; omega
      · rw [if_neg (by simp; omega), if_neg (by simp; omega), if_neg (by simp; omega)]; omega
theorem lessC_le (l : List Int) (n : Int) : lessC l n ≤ l.length := List.countP_le_length
theorem lessC_zero (l : List Int) (h : ∀ x ∈ l, 0 ≤ x) : lessC l 0 = 0 := by
  unfold lessC
  rw [List.countP_eq_zero]
  intro x hx
  have := h x hx
  simp
  omega
theorem lessC_top (l : List Int) : lessC l (topL l) = restC l := by
  have key : ∀ (m : Int) (t : List Int), (∀ x ∈ t, x ≤ m) → t.countP (fun x => decide (x < m)) + t.count m = t.length := by
    intro m t
    induction t with
    | nil => intro _; rfl
    | cons a t ih =>
      intro h
      have h1 := ih (fun x hx => h x (by simp [hx]))
      have h2 := h a (by simp)
      rw [List.countP_cons, List.count_cons, List.length_cons]
      by_cases e : a = m
      · rw [if_neg (by simp; omega), if_pos (by simp; omega)]; omega
      · rw [if_pos (by simp; omega), if_neg (by simp; omega)]; omega
  have := key (topL l) l (topL_ge l)
  unfold restC lessC
  omega
theorem lessC_mono (l : List Int) (m n : Int) (h : m ≤ n) : lessC l m ≤ lessC l n := by
  unfold lessC
  refine List.countP_mono_left fun x _ hx => ?_
  simp only [decide_eq_true_eq] at hx ⊢
  omega
theorem eqNum_bounds (l : List Int) (x : Int) (hx : x ∈ l) (h : restC l ≠ 0) : 0 ≤ eqNum l x ∧ eqNum l x ≤ 255 := by
  have h1 := lessC_mono l x (topL l) (topL_ge l x hx)
  rw [lessC_top] at h1
  unfold eqNum
  refine ⟨Int.ediv_nonneg (by omega) (by omega), ?_⟩
  have : 255 * (lessC l x : Int) / (restC l : Int) ≤ 255 * (restC l : Int) / (restC l : Int) := Int.ediv_le_ediv (by omega) (by omega)
  rwa [Int.mul_ediv_cancel _ (by omega)] at this
theorem eqLess_hist (l : List Int) (hb : ∀ x ∈ l, 0 ≤ x ∧ x ≤ 255) (hl : l.length ≤ 1024) (n : Nat) (hn : n ≤ 256) : eqLess (histL l) n = (lessC l (n : Int) : Int) := by
  induction n with
  | zero => rw [show ((0 : Nat) : Int) = 0 from rfl, lessC_zero l (fun x hx => (hb x hx).1)]; rfl
  | succ n ih =>
    have h1 := lessC_succ l (n : Int)
    have h2 := lessC_le l ((n : Int) + 1)
    show wrap64 (eqLess (histL l) n + rd (histL l) (n : Int)) = _
    rw [ih (by omega), histL_rd l n (by omega), show ((n + 1 : Nat) : Int) = (n : Int) + 1 by omega, h1, wrapIn (by omega) (by omega)]
    omega
theorem eqVal_hist (l : List Int) (hb : ∀ x ∈ l, 0 ≤ x ∧ x ≤ 255) (hl : l.length ≤ 1024) (n : Nat) (hn : n ≤ 256) (h : restC l ≠ 0) : eqVal (histL l) (restC l : Int) n = eqNum l (n : Int) := by
  have h1 := lessC_le l (n : Int)
  have h2 : (255 * (lessC l (n : Int) : Int)).tdiv (restC l : Int) = 255 * (lessC l (n : Int) : Int) / (restC l : Int) := Int.tdiv_eq_ediv_of_nonneg (by omega)
  have h3 : 0 ≤ 255 * (lessC l (n : Int) : Int) / (restC l : Int) := Int.ediv_nonneg (by omega) (by omega)
  have h4 : 255 * (lessC l (n : Int) : Int) / (restC l : Int) ≤ 255 * (lessC l (n : Int) : Int) := Int.ediv_le_self _ (by omega)
  unfold eqVal eqNum
  rw [eqLess_hist l hb hl n hn, wrapIn (x := 255 * (lessC l (n : Int) : Int)) (by omega) (by omega), h2, wrapIn (by omega) (by omega)]
theorem rd_map_range (v : Nat → Int) (N n : Nat) (h : n < N) : rd ((List.range N).map v) (n : Int) = v n := by
  rw [rdN _ n (by simp; exact h)]
  simp
theorem eqTab_rd (cs : List Int) (o : Int) (n : Nat) (h : n < 256) : rd (eqTab cs o 256) (n : Int) = eqVal cs o n := by
  unfold eqTab
  rw [show 256 - 256 = 0 from rfl, List.replicate_zero, List.append_nil, rd_map_range _ _ _ h]
theorem rest_wrap (l : List Int) (hb : ∀ x ∈ l, 0 ≤ x ∧ x ≤ 255) (hl : l.length ≤ 1024) (h0 : 0 < l.length) : wrap64 ((l.length : Int) - rd (histL l) (topL l)) = (restC l : Int) := by
  obtain ⟨m, hm⟩ := Int.eq_ofNat_of_zero_le (hb _ (topL_mem l h0)).1
  have h1 := (hb _ (topL_mem l h0)).2
  have h2 := List.count_le_length (l := l) (a := topL l)
  unfold restC
  rw [hm] at h1 h2 ⊢
  rw [histL_rd l m (by omega), wrapIn (by omega) (by omega)]
  omega
theorem impl_EqualizeImage.ev (a b c : Int) (l : List Int) : Ev (fun k => impl_EqualizeImage.f k a b c l) (if EqOk a b c l then (a, b, c, eqData l) else (0, 0, 0, [])) := by
  unfold impl_EqualizeImage.f
  by_cases hk : EqOk a b c l
  · rw [if_pos hk]
    have hb := hk.1.2.2.2.2
    have hl := hk.1.len
    have e : eqOut a b c l (histL l) = some (a, b, c, eqData l) := by
      have ht := hb _ (topL_mem l hl.1)
      unfold eqOut slices_Max_int_int.f
      rw [if_pos hl.1]
      show (if (histL l).length = 256 ∧ 0 ≤ topL l ∧ topL l ≤ 255 then _ else _) = _
      rw [if_pos ⟨histL_length l, ht.1, ht.2⟩]
      show (if wrap64 ((l.length : Int) - rd (histL l) (topL l)) = 0 then some (a, b, c, l) else some (a, b, c, l.map (rd (eqTab (histL l) (wrap64 ((l.length : Int) - rd (histL l) (topL l))) 256)))) = _
      rw [rest_wrap l hb hl.2 hl.1]
      unfold eqData
      by_cases h0 : restC l = 0
      · rw [if_pos (by omega), if_pos h0]
      · rw [if_neg (by omega), if_neg h0]
        congr 4
        refine List.map_congr_left fun x hx => ?_
        obtain ⟨n, rfl⟩ := Int.eq_ofNat_of_zero_le (hb x hx).1
        have := (hb _ hx).2
        rw [eqTab_rd _ _ n (by omega), eqVal_hist l hb hl.2 n (by omega) h0]
    refine evPos hk (evBind (impl_histogram.ev a b c l hb (by omega)) ?_)
    simp only [e]
    exact evRet rfl
  · rw [if_neg hk]
    exact evNeg hk (evRet rfl)
/-- The reference's table, as far as it is filled. -/
def tabUpto (v : Nat → Int) (n : Nat) : List Int := (List.range n).map v ++ List.replicate (256 - n) 0
theorem tabUpto_length (v : Nat → Int) (n : Nat) (h : n ≤ 256) : (tabUpto v n).length = 256 := by simp [tabUpto]; omega
theorem tabUpto_set (v : Nat → Int) (n : Nat) (h : n < 256) : (tabUpto v n).set ((n : Int)).toNat (v n) = tabUpto v (n + 1) := by
  unfold tabUpto
  have e : ((List.range n).map v).length = n := by simp
  rw [Int.toNat_natCast, List.set_append_right _ _ (by omega), e, Nat.sub_self, show 256 - n = (256 - (n + 1)) + 1 by omega, List.replicate_succ, List.set_cons_zero, List.range_succ, List.map_append, List.append_assoc]
  rfl
theorem tabUpto_rd (v : Nat → Int) (n : Nat) (h : n < 256) : rd (tabUpto v 256) (n : Int) = v n := by
  unfold tabUpto
  rw [show 256 - 256 = 0 from rfl, List.replicate_zero, List.append_nil, rd_map_range _ _ _ h]
theorem spec_EqualizeImage.ev_l2 (t l : List Int) (ht : t.length = 256) (hb : ∀ x ∈ l, 0 ≤ x ∧ x ≤ 255) (hlen : l.length ≤ 1024) (a b c a' b' c' : Int) (d : Nat) : ∀ i, i ≤ l.length → l.length - i = d →
    Ev (fun k => spec_EqualizeImage.l2 k t (i : Int) a b c l a' b' c' (mapUpto (rd t) l i)) (a', b', c', l.map (rd t)) := by
  induction d with
  | zero =>
    intro i hi hd
    refine Ev.step (fun k => by simp only [spec_EqualizeImage.l2]; rfl) (evNeg (by rw [mapUpto_length _ _ _ hi]; omega) (evRet ?_))
    rw [show i = l.length by omega, mapUpto_all]
  | succ d ih =>
    intro i hi hd
    have hlt : i < l.length := by omega
    have h1 := hb l[i] (List.getElem_mem hlt)
    have hs := mapUpto_set (rd t) l i hlt
    refine Ev.step (fun k => by simp only [spec_EqualizeImage.l2, rdN l i hlt, wrapSucc i (by omega), hs]; rfl) ?_
    refine evPos (by rw [mapUpto_length _ _ _ hi]; omega) (evPos (by omega) (evPos (by omega) (evPos h1.1 (evPos (by omega) ?_))))
    exact ih (i + 1) (by omega) (by omega)
/-- What the reference's table says of a number. -/
def specNum (l : List Int) (n : Nat) : Int := mn 255 (eqVal (histL l) (restC l : Int) n)
theorem spec_EqualizeImage.ev_l1 (l : List Int) (hb : ∀ x ∈ l, 0 ≤ x ∧ x ≤ 255) (hlen : l.length ≤ 1024) (h0 : restC l ≠ 0) (a b c a' b' c' : Int) (d : Nat) : ∀ n, n ≤ 256 → 256 - n = d →
    Ev (fun k => spec_EqualizeImage.l1 k (histL l) (restC l : Int) (eqLess (histL l) n) (tabUpto (specNum l) n) (n : Int) a b c l a' b' c' l) (a', b', c', l.map (rd (tabUpto (specNum l) 256))) := by
  induction d with
  | zero =>
    intro n hn hd
    obtain rfl : n = 256 := by omega
    have h := spec_EqualizeImage.ev_l2 (tabUpto (specNum l) 256) l (tabUpto_length _ _ (Nat.le_refl _)) hb hlen a b c a' b' c' l.length 0 (by omega) (by omega)
    rw [mapUpto_zero] at h
    exact Ev.step (fun k => by simp only [spec_EqualizeImage.l1]; rfl) (evNeg (by omega) h)
  | succ d ih =>
    intro n hn hd
    have h := ih (n + 1) (by omega) (by omega)
    have hs := tabUpto_set (specNum l) n (by omega)
    have hv : mn 255 (wrap64 (Int.tdiv (wrap64 (255 * eqLess (histL l) n)) (restC l : Int))) = specNum l n := rfl
    have hw : wrap64 (eqLess (histL l) n + rd (histL l) (n : Int)) = eqLess (histL l) (n + 1) := rfl
    refine Ev.step (fun k => by simp only [spec_EqualizeImage.l1, hv, hw, hs, wrapSucc n (by omega)]; rfl) ?_
    clear hv hw
    exact evPos (by omega) (evNeg (by omega) (evPos (by omega) (evPos (by rw [tabUpto_length _ _ hn]; omega) (evPos (by rw [histL_length]; omega) h))))
theorem spec_data (l : List Int) (hb : ∀ x ∈ l, 0 ≤ x ∧ x ≤ 255) (hlen : l.length ≤ 1024) (h0 : restC l ≠ 0) : l.map (rd (tabUpto (specNum l) 256)) = eqData l := by
  unfold eqData
  rw [if_neg h0]
  refine List.map_congr_left fun x hx => ?_
  have h1 := eqNum_bounds l x hx h0
  obtain ⟨n, rfl⟩ := Int.eq_ofNat_of_zero_le (hb x hx).1
  have := (hb _ hx).2
  rw [tabUpto_rd _ n (by omega)]
  unfold specNum mn
  rw [eqVal_hist l hb hlen n (by omega) h0]
  split <;> omega
theorem spec_EqualizeImage.ev_l0 (l : List Int) (hb : ∀ x ∈ l, 0 ≤ x ∧ x ≤ 255) (hlen : l.length ≤ 1024) (hpos : 0 < l.length) (a b c : Int) (d : Nat) : ∀ (n : Nat) (m : Int), n ≤ 256 → 256 - n = d → 0 ≤ m → m ≤ 255 → (m = 0 ∨ m ∈ l) → (∀ x ∈ l, x < (n : Int) → x ≤ m) →
    Ev (fun k => spec_EqualizeImage.l0 k (histL l) m (n : Int) a b c l) (a, b, c, eqData l) := by
  induction d with
  | zero =>
    intro n m hn hd m0 m1 hm hall
    obtain rfl : n = 256 := by omega
    have e : m = topL l := by
      have t1 := topL_mem l hpos
      have t2 := hb _ t1
      have t3 := hall _ t1 (by omega)
      rcases hm with rfl | hm
      · omega
      · have := topL_ge l m hm; omega
    subst e
    have hr := rest_wrap l hb hlen hpos
    refine Ev.step (fun k => by simp only [spec_EqualizeImage.l0, hr]; rfl) ?_
    clear hr
    refine evNeg (by omega) (evPos m0 (evPos (by rw [histL_length]; omega) ?_))
    by_cases h0 : restC l = 0
    · refine evPos (by omega) (evFix (spec_copyImage.val a b c l (by omega)) (evRet ?_))
      unfold eqData
      rw [if_pos h0]
    · refine evNeg (by omega) (evFix (spec_copyImage.val a b c l (by omega)) (evPos (by omega) ?_))
      have h := spec_EqualizeImage.ev_l1 l hb hlen h0 a b c a b c 256 0 (by omega) (by omega)
      rw [spec_data l hb hlen h0] at h
      exact h
  | succ d ih =>
    intro n m hn hd m0 m1 hm hall
    refine Ev.step (fun k => by simp only [spec_EqualizeImage.l0, wrapSucc n (by omega)]; rfl) ?_
    refine evPos (by omega) (evPos (by omega) (evPos (by rw [histL_length]; omega) ?_))
    have hc := histL_rd l n (by omega)
    refine evIf (fun h => ?_) (fun h => ?_)
    · rw [hc] at h
      have hin : (n : Int) ∈ l := List.count_pos_iff.1 (by omega)
      exact ih (n + 1) (n : Int) (by omega) (by omega) (by omega) (by omega) (.inr hin) (fun x hx hlt => by omega)
    · rw [hc] at h
      have hout : (n : Int) ∉ l := fun hin => h (by have := List.count_pos_iff.2 hin; omega)
      exact ih (n + 1) m (by omega) (by omega) m0 m1 hm (fun x hx hlt => by
        by_cases e : x = n
        · exact absurd (e ▸ hx) hout
        · exact hall x hx (by omega))
theorem spec_EqualizeImage.ev (a b c : Int) (l : List Int) (hl : l.length ≤ 9223372036854775806) : Ev (fun k => spec_EqualizeImage.f k a b c l) (if EqOk a b c l then (a, b, c, eqData l) else (0, 0, 0, [])) := by
  unfold spec_EqualizeImage.f
  refine evBind (spec_validImage.ev a b c l hl) ?_
  by_cases h : ImgOk a b c l
  · refine evPos (decide_eq_true h) ?_
    by_cases h1 : c = 1
    · rw [if_pos (show EqOk a b c l from ⟨h, h1⟩)]
      have hh := spec_histogram.ev l h.2.2.2.2 (by have := h.len; omega)
      have h2 := spec_EqualizeImage.ev_l0 l h.2.2.2.2 h.len.2 h.len.1 a b c 256 0 0 (by omega) (by omega) (by omega) (by omega) (.inl rfl) (fun x hx hlt => by omega)
      exact Ev.step (fun k => by simp only [spec_EqualizeImage.j0]; rfl) (evNeg (by simp [h1]) (evBind hh h2))
    · rw [if_neg (fun hk : EqOk a b c l => h1 hk.2)]
      exact Ev.step (fun k => by simp only [spec_EqualizeImage.j0]; rfl) (evPos (by simp [h1]) (evRet rfl))
  · rw [if_neg (fun hk : EqOk a b c l => h hk.1)]
    exact evNeg (by rw [decide_eq_false h]; simp) (Ev.step (fun k => by simp only [spec_EqualizeImage.j0]; rfl) (evPos (by trivial) (evRet rfl)))
theorem eqData_length (l : List Int) : (eqData l).length = l.length := by unfold eqData; split <;> simp

def eqFn (l : List Int) (x : Int) : Int := if restC l = 0 then x else eqNum l x
theorem eqData_rd (l : List Int) (i : Nat) (h : i < l.length) : rd (eqData l) (i : Int) = eqFn l (rd l (i : Int)) := by
  have h2 : i < (eqData l).length := by rw [eqData_length]; exact h
  rw [rdN _ i h2, rdN l i h]
  unfold eqData eqFn
  by_cases h0 : restC l = 0
  · simp only [if_pos h0]
  · simp only [if_neg h0]
    rw [List.getElem_map]
theorem eqFn_mono (l : List Int) (x y : Int) (h : x ≤ y) : eqFn l x ≤ eqFn l y := by
  unfold eqFn
  by_cases h0 : restC l = 0
  · rw [if_pos h0, if_pos h0]; exact h
  · rw [if_neg h0, if_neg h0]
    have h1 := lessC_mono l x y h
    unfold eqNum
    exact Int.ediv_le_ediv (by omega) (by omega)
theorem eqBad_none (l : List Int) (x y : Int) : ¬ eqBad x y (eqFn l x) (eqFn l y) = true := by
  rw [eqBad_iff]
  rintro (⟨h1, h2⟩ | ⟨h1, h2⟩ | ⟨h1, h2⟩)
  · have := eqFn_mono l x y (by omega); omega
  · have := eqFn_mono l y x (by omega); omega
  · exact h2 (by rw [h1])
theorem rest_same (l : List Int) (h0 : 0 < l.length) : restC l = 0 ↔ ∀ j : Nat, j < l.length → rd l (j : Int) = rd l 0 := by
  have ht := topL_mem l h0
  have e0 : rd l 0 = l[0] := rdN l 0 h0
  have hc := List.count_le_length (l := l) (a := topL l)
  constructor
  · intro h j hj
    have h1 : l.count (topL l) = l.length := by unfold restC at h; omega
    have h2 := List.count_eq_length.1 h1
    rw [e0, rdN l j hj, ← h2 _ (List.getElem_mem hj), ← h2 _ (List.getElem_mem h0)]
  · intro h
    have h2 : ∀ x ∈ l, x = rd l 0 := fun x hx => by
      obtain ⟨j, hj, rfl⟩ := List.getElem_of_mem hx
      rw [← rdN l j hj]
      exact h j hj
    have h1 : l.count (topL l) = l.length := List.count_eq_length.2 fun x hx => by rw [h2 x hx, h2 _ ht]
    unfold restC
    omega
theorem least_of (l : List Int) (h : 0 < l.length) : ∃ j : Nat, ∃ hj : j < l.length, ∀ x ∈ l, l[j] ≤ x := by
  have key : ∀ t : List Int, 0 < t.length → ∃ m ∈ t, ∀ x ∈ t, m ≤ x := by
    intro t
    induction t with
    | nil => intro h; simp at h
    | cons a t ih =>
      intro _
      by_cases ht : 0 < t.length
      · obtain ⟨m, hm, hall⟩ := ih ht
        by_cases ha : a ≤ m
        · exact ⟨a, by simp, fun x hx => by
            rcases List.mem_cons.1 hx with rfl | hx
            · exact Int.le_refl _
            · exact Int.le_trans ha (hall x hx)⟩
        · exact ⟨m, by simp [hm], fun x hx => by
            rcases List.mem_cons.1 hx with rfl | hx
            · omega
            · exact hall x hx⟩
      · have : t = [] := List.eq_nil_of_length_eq_zero (by omega)
        subst this
        exact ⟨a, by simp, fun x hx => by simp at hx; omega⟩
  obtain ⟨m, hm, hall⟩ := key l h
  obtain ⟨j, hj, rfl⟩ := List.getElem_of_mem hm
  exact ⟨j, hj, hall⟩
theorem eq_low (l : List Int) (h : 0 < l.length) (h0 : restC l ≠ 0) : ∃ j : Nat, j < l.length ∧ rd (eqData l) (j : Int) = 0 := by
  obtain ⟨j, hj, hall⟩ := least_of l h
  refine ⟨j, hj, ?_⟩
  rw [eqData_rd l j hj, rdN l j hj]
  have e : lessC l l[j] = 0 := by
    unfold lessC
    rw [List.countP_eq_zero]
    intro x hx
    have := hall x hx
    simp
    omega
  unfold eqFn eqNum
  rw [if_neg h0, e]
  simp
theorem eq_high (l : List Int) (h : 0 < l.length) (h0 : restC l ≠ 0) : ∃ j : Nat, j < l.length ∧ rd (eqData l) (j : Int) = 255 := by
  obtain ⟨j, hj, e⟩ := List.getElem_of_mem (topL_mem l h)
  refine ⟨j, hj, ?_⟩
  rw [eqData_rd l j hj, rdN l j hj, e]
  unfold eqFn eqNum
  rw [if_neg h0, lessC_top, Int.mul_ediv_cancel _ (by omega)]
theorem eq_range (l : List Int) (hb : ∀ x ∈ l, 0 ≤ x ∧ x ≤ 255) (i : Nat) (h : i < l.length) : 0 ≤ rd (eqData l) (i : Int) ∧ rd (eqData l) (i : Int) ≤ 255 := by
  rw [eqData_rd l i h, rdN l i h]
  unfold eqFn
  by_cases h0 : restC l = 0
  · rw [if_pos h0]; exact hb _ (List.getElem_mem h)
  · rw [if_neg h0]; exact eqNum_bounds l _ (List.getElem_mem h) h0
theorem laws_FnEqualizeImage.ev_l0 (a b c : Int) (l : List Int) (hpos : 0 < l.length) (hlen : l.length ≤ 1024) (hb : ∀ x ∈ l, 0 ≤ x ∧ x ≤ 255) (d : Nat) : ∀ (i : Nat) (low high : Int) (eq : Bool), i ≤ l.length → l.length - i = d → 0 ≤ low → (∀ j : Nat, j < i → low ≤ rd (eqData l) (j : Int)) → high ≤ 255 → (∀ j : Nat, j < i → rd (eqData l) (j : Int) ≤ high) → (eq = true ↔ ∀ j : Nat, j < i → rd l (j : Int) = rd l 0) →
    Ev (fun k => laws_FnEqualizeImage.l0 k low high eq (i : Int) a b c l a b c (eqData l)) true := by
  have hU := eqData_length l
  induction d with
  | zero =>
    intro i low high eq hi hd h0 h1 h2 h3 h4
    obtain rfl : i = l.length := by omega
    refine Ev.step (fun k => by simp only [laws_FnEqualizeImage.l0]; rfl) (evNeg (by omega) ?_)
    rw [← rest_same l hpos] at h4
    cases eq with
    | true =>
      have e : eqData l = l := by unfold eqData; rw [if_pos (h4.1 rfl)]
      have q := laws_equalImage.refl a b c l (by omega)
      rw [e]
      exact evPos rfl (evBind q (evPos rfl (evRet rfl)))
    | false =>
      have hr : restC l ≠ 0 := fun h => by have := h4.2 h; cases this
      obtain ⟨j, hj, e⟩ := eq_low l hpos hr
      obtain ⟨j2, hj2, e2⟩ := eq_high l hpos hr
      have a1 := h1 j hj
      have a2 := h3 j2 hj2
      have e3 : low = 0 := by omega
      have e4 : (high == 255) = true := by rw [beq_iff_eq]; omega
      refine evNeg (by simp) (evPos e3 (evRet e4))
  | succ d ih =>
    intro i low high eq hi hd h0 h1 h2 h3 h4
    have hlt : i < l.length := by omega
    have hr := eq_range l hb i hlt
    have hbad := eqBad_none l (rd l (i : Int)) (rd l 0)
    have e0 : rd (eqData l) 0 = eqFn l (rd l 0) := eqData_rd l 0 hpos
    rw [← eqData_rd l i hlt, ← e0] at hbad
    have hn := ih (i + 1) (mn low (rd (eqData l) (i : Int))) (mx high (rd (eqData l) (i : Int))) (eq && (rd l (i : Int) == rd l 0)) (by omega) (by omega) (by unfold mn; split <;> omega) (fun j hj => by
        unfold mn
        by_cases e : j = i
        · subst e; split <;> omega
        · have := h1 j (by omega); split <;> omega) (by unfold mx; split <;> omega) (fun j hj => by
        unfold mx
        by_cases e : j = i
        · subst e; split <;> omega
        · have := h3 j (by omega); split <;> omega) (by
        rw [Bool.and_eq_true, h4, beq_iff_eq]
        constructor
        · rintro ⟨g1, g2⟩ j hj
          by_cases e : j = i
          · subst e; exact g2
          · exact g1 j (by omega)
        · intro g
          exact ⟨fun j hj => g j (by omega), g i (by omega)⟩)
    refine Ev.step (fun k => by simp only [laws_FnEqualizeImage.l0, wrapSucc i (by omega)]; rfl) ?_
    exact evPos (by omega) (evPos (by omega) (evPos (by omega) (evPos (by omega) (evPos (by omega) (evNeg hbad hn)))))
theorem FnEqualizeImage : laws_FnEqualizeImage.Pure := by
  intro code _ _ hw
  refine Ev.rounds ?_
  obtain ⟨a, b, c, l, hd, hl⟩ := spec_DrawEqualizeImage.ev code hw
  have h3 := spec_EqualizeImage.ev a b c l (by omega)
  have h4 := impl_EqualizeImage.ev a b c l
  unfold laws_FnEqualizeImage.f
  refine evIf (fun _ => evRet rfl) (fun _ => ?_)
  by_cases hk : EqOk a b c l
  · rw [if_pos hk] at h3 h4
    have hlen := eqData_length l
    have q := laws_equalImage.refl a b c (eqData l) (by omega)
    have hl2 := hk.1.len
    have hz : (a == 0) = false := by rw [beq_eq_false_iff_ne]; have := hk.1.1; omega
    refine evBind hd (evBind h4 (evBind h3 (evBind q (evPos rfl ?_))))
    simp only [hz]
    refine Ev.step (fun k => by simp only [laws_FnEqualizeImage.j0]; rfl) (evNeg (by simp) ?_)
    exact laws_FnEqualizeImage.ev_l0 a b c l hl2.1 (by omega) hk.1.2.2.2.2 l.length 0 255 0 true (by omega) (by omega) (by omega) (fun j hj => absurd hj (by omega)) (by omega) (fun j hj => absurd hj (by omega)) ⟨fun _ j hj => absurd hj (by omega), fun _ => rfl⟩
  · rw [if_neg hk] at h3 h4
    have q := laws_equalImage.refl 0 0 0 [] (by simp)
    refine evBind hd (evBind h4 (evBind h3 (evBind q (evPos rfl ?_))))
    refine Ev.step (fun k => by simp only [laws_FnEqualizeImage.j0]; rfl) (evPos (by simp) (evBind h3 ?_))
    exact evBind q (evRet rfl)

end Go.Proofs.Ytfljcejkgdkkeaa.Pure

/- FnRepeatImage answers true for every code: repeating an image to its own size changes nothing, and a repetition that is large enough has the image at all its places. No condition. -/
import Derived.Test.YtmaiifghplcjeaaPrintHimplCountImage
import Derived.Test.YtmaiifghplcjeaaPrintHimplRepeatImage
import Derived.Test.YtmaiifghplcjeaaPrintHimpleachPlace
import Derived.Test.YtmaiifghplcjeaaPrintHimplimageBy
import Derived.Test.YtmaiifghplcjeaaPrintHx0
import Derived.Test.YtmaiifghplcjeaaPrintHx2
import Derived.Test.YtmaiifghplcjeaaPrintLFnRepeatImage
import Derived.Test.YtmaiifghplcjeaaPrintR0x0
import Derived.Test.YtmaiifghplcjeaaPrintR1x0
import Derived.Test.YtmaiifghplcjeaaPrintR1x1
import Derived.Test.YtmaiifghplcjeaaPrintR1x2
import Derived.Test.YtmaiifghplcjeaaPrintR1x3
import Derived.Test.YtmaiifghplcjeaaPrintR1x4
namespace Go.Proofs.Ytmaiifghplcjeaa.Pure
open Go.RowKit Go.Proofs.Ytmaiifghplcjeaa.Print Go.Proofs.YtmaiifghplcjeaaW.PrintWords Go.Proofs.YtmaiifghplcjeaaW.PrintLast Go.Proofs.YtmaiifghplcjeaaW.PrintMore
set_option linter.unusedVariables false
set_option linter.unusedSimpArgs false
theorem rdN (l : List Int) (k : Nat) (h : k < l.length) : rd l (k : Int) = l[k] := by
  simp [rd, List.getD_eq_getElem?_getD, List.getElem?_eq_getElem h]
theorem drop_cons_ {α : Type} (l : List α) (k : Nat) (h : k < l.length) : l.drop k = l[k] :: l.drop (k + 1) := List.drop_eq_getElem_cons h
/-- Two lists of one length, from a place on. -/
theorem decide_drop_eq {α : Type} [DecidableEq α] (a b : List α) (i : Nat) (h1 : i < a.length) (h2 : i < b.length) : decide (a.drop i = b.drop i) = (decide (a[i] = b[i]) && decide (a.drop (i + 1) = b.drop (i + 1))) := by
  rw [drop_cons_ a i h1, drop_cons_ b i h2]
  rw [Bool.eq_iff_iff]
  simp only [decide_eq_true_eq, Bool.and_eq_true, List.cons.injEq]

/-- A code that a reader reads. -/
def CodeOk (b : List Int) : Prop := b.length ≤ 2000 ∧ ∀ x ∈ b, 0 ≤ x ∧ x ≤ 255
theorem code_rd (b : List Int) (h : CodeOk b) (i : Int) (h0 : 0 ≤ i) (h1 : i < b.length) : 0 ≤ rd b i ∧ rd b i ≤ 255 := by
  obtain ⟨n, rfl⟩ := Int.eq_ofNat_of_zero_le h0
  rw [rdN b n (by omega)]
  exact h.2 _ (List.getElem_mem _)
theorem xor_nonneg (a b : Int) (ha : 0 ≤ a) (ha1 : a < 4611686018427387904) (hb : 0 ≤ b) (hb1 : b < 4611686018427387904) : 0 ≤ Go.bits .xor .i64 a b := by
  obtain ⟨n, rfl⟩ := Int.eq_ofNat_of_zero_le ha
  obtain ⟨m, rfl⟩ := Int.eq_ofNat_of_zero_le hb
  have hx : n ^^^ m < 2 ^ 62 := Nat.xor_lt_two_pow (by omega) (by omega)
  have e : Go.bits .xor .i64 (n : Int) (m : Int) = ((n ^^^ m : Nat) : Int) := by
    have hp : (2 : Nat) ^ IntKind.i64.bits = 18446744073709551616 := by decide
    have ha' : n % 2 ^ IntKind.i64.bits = n := Nat.mod_eq_of_lt (by omega)
    have hb' : m % 2 ^ IntKind.i64.bits = m := Nat.mod_eq_of_lt (by omega)
    simp only [bits, BitVec.ofInt_natCast, BitVec.toNat_xor, BitVec.toNat_ofNat, ha', hb']
    rw [IntKind.wrap_i64]
    omega
  rw [e]
  omega
theorem spec_reader_pick.ev (b : List Int) (h : CodeOk b) (p n : Int) (hp0 : 0 ≤ p) (hp1 : p < 1000000000) (hn : n ≤ 1000000) : ∃ v, Ev (fun k => spec_reader_pick.f k b p n) (v, p + 1) ∧ 0 ≤ v ∧ (v < n ∨ v = 0) := by
  have hw : wrap64 (p + 1) = p + 1 := wrapIn (by omega) (by omega)
  have hw1 : wrap64 (p + 1 - 1) = p := by rw [wrapIn (by omega) (by omega)]; omega
  unfold spec_reader_pick.f
  rw [hw]
  by_cases hn1 : n < 1
  · refine ⟨0, evPos hn1 (Ev.step (fun k => by simp only [spec_reader_pick.j0]; rfl) (evPos (by trivial) (evRet rfl))), by omega, .inr rfl⟩
  by_cases hb : (b.length : Int) = 0
  · refine ⟨0, evNeg hn1 (Ev.step (fun k => by simp only [spec_reader_pick.j0]; rfl) (evPos (by simp [hb]) (evRet rfl))), by omega, .inr rfl⟩
  have hbf : ((b.length : Int) == 0) = false := by simpa using hb
  have hl := h.1
  by_cases hlt : p < (b.length : Int)
  · have hr := code_rd b h p hp0 hlt
    refine ⟨Int.tmod (wrap64 (rd b p)) n, evNeg hn1 (Ev.step (fun k => by simp only [spec_reader_pick.j0, hbf, hw1]; rfl) (evNeg (by simp) (evPos hlt (evPos hp0 (evNeg (by omega) (evRet rfl)))))), ?_, .inl ?_⟩
    · exact Int.tmod_nonneg _ (by rw [wrapIn (by omega) (by omega)]; omega)
    · exact Int.tmod_lt_of_pos _ (by omega)
  · have hm0 : 0 ≤ Int.tmod p (b.length : Int) := Int.tmod_nonneg _ hp0
    have hm1 : Int.tmod p (b.length : Int) < b.length := Int.tmod_lt_of_pos _ (by omega)
    have hq : wrap64 (wrap64 (p * 7) + 3) = p * 7 + 3 := by rw [wrapIn (x := p * 7) (by omega) (by omega), wrapIn (by omega) (by omega)]
    have hk0 : 0 ≤ Int.tmod (p * 7 + 3) (b.length : Int) := Int.tmod_nonneg _ (by omega)
    have hk1 : Int.tmod (p * 7 + 3) (b.length : Int) < b.length := Int.tmod_lt_of_pos _ (by omega)
    have r1 := code_rd b h _ hm0 hm1
    have r2 := code_rd b h _ hk0 hk1
    have hd0 : 0 ≤ Int.tdiv p (b.length : Int) := Int.tdiv_nonneg hp0 (by omega)
    have hd1 : Int.tdiv p (b.length : Int) ≤ p := by
      have := Int.natAbs_tdiv_le_natAbs p (b.length : Int)
      omega
    refine ⟨_, evNeg hn1 (Ev.step (fun k => by simp only [spec_reader_pick.j0, hbf, hw1, hq]; rfl) (evNeg (by simp) (evNeg hlt (evNeg hb (evPos hm0 (evPos hm1 (evPos hk0 (evPos hk1 (evNeg (by omega) (evRet rfl)))))))))), ?_, .inl (Int.tmod_lt_of_pos _ (by omega))⟩
    generalize rd b (Int.tmod p (b.length : Int)) = u at *
    generalize rd b (Int.tmod (p * 7 + 3) (b.length : Int)) = t at *
    generalize Int.tdiv p (b.length : Int) = q at *
    rw [wrapIn (x := u) (by omega) (by omega), wrapIn (x := t) (by omega) (by omega), wrapIn (x := q) (by omega) (by omega), wrapIn (x := u * 131) (by omega) (by omega), wrapIn (x := t * 1117) (by omega) (by omega), wrapIn (x := u * 131 + t * 1117) (by omega) (by omega), wrapIn (x := p * 29) (by omega) (by omega), wrapIn (x := u * 131 + t * 1117 + p * 29) (by omega) (by omega), wrapIn (x := q * 53) (by omega) (by omega), wrapIn (x := u * 131 + t * 1117 + p * 29 + q * 53) (by omega) (by omega)]
    generalize hX : u * 131 + t * 1117 + p * 29 + q * 53 = X
    have hX0 : 0 ≤ X := by omega
    have hX1 : X < 4611686018427387904 := by omega
    have hT0 : 0 ≤ Int.tdiv X 64 := Int.tdiv_nonneg hX0 (by omega)
    have hT1 : Int.tdiv X 64 ≤ X := by
      have := Int.natAbs_tdiv_le_natAbs X 64
      omega
    rw [wrapIn (x := Int.tdiv X 64) (by omega) (by omega)]
    exact Int.tmod_nonneg _ (xor_nonneg _ _ hX0 hX1 hT0 (by omega))
theorem spec_newReader.ev (l : List Int) (hw : ∀ x ∈ l, (Lit.int .u8 x).wf = true) : ∃ b, spec_newReader.f l = some (b, 0) ∧ CodeOk b := by
  have hx : ∀ x ∈ l, 0 ≤ x ∧ x ≤ 255 := fun x hx => by
    have := hw x hx
    have hmin : IntKind.u8.min = 0 := rfl
    have hmax : IntKind.u8.max = 255 := rfl
    simp only [Lit.wf, Bool.and_eq_true, decide_eq_true_eq] at this
    omega
  unfold spec_newReader.f
  by_cases h : (l.length : Int) > 2000
  · rw [if_pos h, if_pos (by omega)]
    exact ⟨_, rfl, by simp; omega, fun x h2 => hx x (List.mem_of_mem_take h2)⟩
  · rw [if_neg h]
    exact ⟨_, rfl, by omega, hx⟩

theorem spec_reader_one.ev (b : List Int) (h : CodeOk b) (p : Int) (hp0 : 0 ≤ p) (hp1 : p < 1000000000) (l : List Int) (hl0 : 0 < l.length) (hl1 : l.length ≤ 1000) : ∃ v, Ev (fun k => spec_reader_one.f k b p l) (v, p + 1) ∧ v ∈ l := by
  obtain ⟨v, hv, h0, h1⟩ := spec_reader_pick.ev b h p (l.length : Int) hp0 hp1 (by omega)
  have hlt : v < l.length := by omega
  refine ⟨rd l v, ?_, ?_⟩
  · unfold spec_reader_one.f
    exact evBind hv (evPos h0 (evPos hlt (evRet rfl)))
  · obtain ⟨n, rfl⟩ := Int.eq_ofNat_of_zero_le h0
    rw [rdN l n (by omega)]
    exact List.getElem_mem _

def Bytes (l : List Int) : Prop := ∀ x ∈ l, 0 ≤ x ∧ x ≤ 255
theorem Bytes.set {l : List Int} (h : Bytes l) (i : Nat) (v : Int) (h0 : 0 ≤ v) (h1 : v ≤ 255) : Bytes (l.set i v) := by
  intro x hx
  rcases List.mem_or_eq_of_mem_set hx with hx | rfl
  · exact h x hx
  · exact ⟨h0, h1⟩
theorem spec_newImage.val (a b c : Int) (ha : 1 ≤ a ∧ a ≤ 16) (hb : 1 ≤ b ∧ b ≤ 16) (hc : 1 ≤ c ∧ c ≤ 4) : spec_newImage.f a b c = some (a, b, c, List.replicate (a * b * c).toNat 0) := by
  obtain ⟨h1, h2, h3, h4⟩ := shape_prod ha hb hc
  unfold spec_newImage.f
  rw [shape_wrap ha hb hc, if_pos (by omega), if_pos (by omega)]
theorem spec_randomImage.ev_l0 (b : List Int) (h : CodeOk b) (kind W H n : Int) (N : Nat) (hN : N ≤ 100000) (d : Nat) : ∀ (i : Nat) (at_ p : Int) (l : List Int), l.length = N → i ≤ N → N - i = d → 0 ≤ at_ → at_ ≤ 255 → Bytes l → 0 ≤ p → p + d < 1000000000 →
    ∃ l' q, Ev (fun k => spec_randomImage.l0 k kind at_ (i : Int) b p W H n l) (W, H, n, l', q) ∧ l'.length = N ∧ Bytes l' ∧ p ≤ q ∧ q ≤ p + d := by
  induction d with
  | zero =>
    intro i at_ p l hl hi hd _ _ hb hp _
    exact ⟨l, p, Ev.step (fun k => by simp only [spec_randomImage.l0]; rfl) (evNeg (by omega) (evRet rfl)), hl, hb, by omega, by omega⟩
  | succ d ih =>
    intro i at_ p l hl hi hd h0 h1 hb hp hpd
    have hlt : (i : Int) < (l.length : Int) := by omega
    by_cases k0 : kind = 0
    · obtain ⟨v, hv, v0, v1⟩ := spec_reader_pick.ev b h p 256 hp (by omega) (by omega)
      obtain ⟨l', q, he, e1, e2, e3, e4⟩ := ih (i + 1) v (p + 1) (l.set (i : Int).toNat v) (by simpa using hl) (by omega) (by omega) v0 (by omega) (hb.set _ v v0 (by omega)) (by omega) (by omega)
      refine ⟨l', q, Ev.step (fun k => by simp only [spec_randomImage.l0, wrapSucc i (by omega)]; rfl) (evPos hlt (evPos k0 (evBind hv ?_))), e1, e2, by omega, by omega⟩
      exact evPos (show (0 : Int) ≤ (i : Int) by omega) he
    by_cases k1 : kind = 1
    · obtain ⟨v, hv, v0, v1⟩ := spec_reader_pick.ev b h p 5 hp (by omega) (by omega)
      have hw : wrap64 (wrap64 (at_ + v) + 254) = at_ + v + 254 := by rw [wrapIn (x := at_ + v) (by omega) (by omega), wrapIn (by omega) (by omega)]
      have t0 := Int.tmod_nonneg 256 (show 0 ≤ at_ + v + 254 by omega)
      have t1 := Int.tmod_lt_of_pos (at_ + v + 254) (show (0 : Int) < 256 by omega)
      obtain ⟨l', q, he, e1, e2, e3, e4⟩ := ih (i + 1) (Int.tmod (at_ + v + 254) 256) (p + 1) (l.set (i : Int).toNat (Int.tmod (at_ + v + 254) 256)) (by simpa using hl) (by omega) (by omega) t0 (by omega) (hb.set _ _ t0 (by omega)) (by omega) (by omega)
      refine ⟨l', q, Ev.step (fun k => by simp only [spec_randomImage.l0, wrapSucc i (by omega)]; rfl) (evPos hlt (evNeg k0 (evPos k1 (evBind hv ?_)))), e1, e2, by omega, by omega⟩
      simp only [hw]
      exact evPos (show (0 : Int) ≤ (i : Int) by omega) he
    by_cases k2 : kind = 2
    · obtain ⟨v, hv, v0, v1⟩ := spec_reader_pick.ev b h p 4 hp (by omega) (by omega)
      have hw : wrap64 (60 * v) = 60 * v := wrapIn (by omega) (by omega)
      obtain ⟨l', q, he, e1, e2, e3, e4⟩ := ih (i + 1) (60 * v) (p + 1) (l.set (i : Int).toNat (60 * v)) (by simpa using hl) (by omega) (by omega) (by omega) (by omega) (hb.set _ _ (by omega) (by omega)) (by omega) (by omega)
      refine ⟨l', q, Ev.step (fun k => by simp only [spec_randomImage.l0, wrapSucc i (by omega)]; rfl) (evPos hlt (evNeg k0 (evNeg k1 (evPos k2 (evBind hv ?_))))), e1, e2, by omega, by omega⟩
      simp only [hw]
      exact evPos (show (0 : Int) ≤ (i : Int) by omega) he
    · obtain ⟨l', q, he, e1, e2, e3, e4⟩ := ih (i + 1) at_ p (l.set (i : Int).toNat at_) (by simpa using hl) (by omega) (by omega) h0 h1 (hb.set _ _ h0 h1) (by omega) (by omega)
      exact ⟨l', q, Ev.step (fun k => by simp only [spec_randomImage.l0, wrapSucc i (by omega)]; rfl) (evPos hlt (evNeg k0 (evNeg k1 (evNeg k2 (evPos (by omega) he))))), e1, e2, by omega, by omega⟩
theorem spec_randomImage.ev (b : List Int) (h : CodeOk b) (p : Int) (hp0 : 0 ≤ p) (hp1 : p < 900000000) (n : Int) (hn : 1 ≤ n ∧ n ≤ 4) :
    ∃ W H l q, Ev (fun k => spec_randomImage.f k b p n) (W, H, n, l, q) ∧ ImgOk W H n l ∧ W ≤ 8 ∧ H ≤ 8 ∧ p ≤ q ∧ q ≤ p + 2000 := by
  obtain ⟨W, hW, mW⟩ := spec_reader_one.ev b h p hp0 (by omega) [3, 4, 2, 5, 1, 8, 6] (by simp) (by simp)
  obtain ⟨H, hH, mH⟩ := spec_reader_one.ev b h (p + 1) (by omega) (by omega) [3, 2, 4, 1, 5, 8] (by simp) (by simp)
  obtain ⟨kd, hk, k0, k1⟩ := spec_reader_pick.ev b h (p + 1 + 1) 4 (by omega) (by omega) (by omega)
  obtain ⟨at_, ha, a0, a1⟩ := spec_reader_pick.ev b h (p + 1 + 1 + 1) 256 (by omega) (by omega) (by omega)
  have bW : 1 ≤ W ∧ W ≤ 8 := by
    simp only [List.mem_cons, List.mem_nil_iff, or_false] at mW
    omega
  have bH : 1 ≤ H ∧ H ≤ 8 := by
    simp only [List.mem_cons, List.mem_nil_iff, or_false] at mH
    omega
  have hI := spec_newImage.val W H n ⟨bW.1, by omega⟩ ⟨bH.1, by omega⟩ hn
  obtain ⟨_, _, h3, h4⟩ := shape_prod (a := W) (b := H) (c := n) ⟨bW.1, by omega⟩ ⟨bH.1, by omega⟩ hn
  obtain ⟨l', q, he, e1, e2, e3, e4⟩ := spec_randomImage.ev_l0 b h kd W H n (W * H * n).toNat (by omega) (W * H * n).toNat 0 at_ (p + 1 + 1 + 1 + 1) (List.replicate (W * H * n).toNat 0) (by simp) (by omega) (by omega) a0 (by omega)
    (fun x hx => by rw [List.mem_replicate] at hx; omega) (by omega) (by omega)
  refine ⟨W, H, l', q, ?_, ⟨⟨bW.1, by omega⟩, ⟨bH.1, by omega⟩, hn, by omega, e2⟩, bW.2, bH.2, by omega, by omega⟩
  unfold spec_randomImage.f
  exact evBind hW (evBind hH (evFix hI (evBind hk (evBind ha he))))
theorem spec_spoilImage.ev (b : List Int) (h : CodeOk b) (p : Int) (hp0 : 0 ≤ p) (hp1 : p < 900000000) (W H n : Int) (l : List Int) (hl : 0 < l.length) :
    ∃ W' H' n' l' q, Ev (fun k => spec_spoilImage.f k b p W H n l) (W', H', n', l', q) ∧ l'.length ≤ l.length ∧ p ≤ q ∧ q ≤ p + 2 := by
  obtain ⟨v, hv, v0, v1⟩ := spec_reader_pick.ev b h p 40 hp0 (by omega) (by omega)
  unfold spec_spoilImage.f
  by_cases e0 : v = 0
  · obtain ⟨u, hu, _⟩ := spec_reader_one.ev b h (p + 1) (by omega) (by omega) [0, 17, wrap64 (W + 1)] (by simp) (by simp)
    exact ⟨u, H, n, l, p + 1 + 1, evBind hv (evPos e0 (evBind hu (evRet rfl))), by omega, by omega, by omega⟩
  by_cases e1 : v = 1
  · exact ⟨W, H, n, l.drop (1 : Int).toNat, p + 1, evBind hv (evNeg e0 (evPos e1 (evPos (by omega) (evRet rfl)))), by simp, by omega, by omega⟩
  by_cases e2 : v = 2
  · obtain ⟨u, hu, _⟩ := spec_reader_one.ev b h (p + 1) (by omega) (by omega) [-1, 256] (by simp) (by simp)
    exact ⟨W, H, n, l.set (0 : Int).toNat u, p + 1 + 1, evBind hv (evNeg e0 (evNeg e1 (evPos e2 (evBind hu (evPos (by omega) (evRet rfl)))))), by simp, by omega, by omega⟩
  by_cases e3 : v = 3
  · obtain ⟨u, hu, _⟩ := spec_reader_one.ev b h (p + 1) (by omega) (by omega) [0, 5] (by simp) (by simp)
    exact ⟨W, H, u, l, p + 1 + 1, evBind hv (evNeg e0 (evNeg e1 (evNeg e2 (evPos e3 (evBind hu (evRet rfl)))))), by omega, by omega, by omega⟩
  · exact ⟨W, H, n, l, p + 1, evBind hv (evNeg e0 (evNeg e1 (evNeg e2 (evNeg e3 (evRet rfl))))), by omega, by omega, by omega⟩
theorem spec_anyPlanes.ev (b : List Int) (h : CodeOk b) (p : Int) (hp0 : 0 ≤ p) (hp1 : p < 900000000) : ∃ n, Ev (fun k => spec_anyPlanes.f k b p) (n, p + 1) ∧ 1 ≤ n ∧ n ≤ 4 := by
  obtain ⟨u, hu, mu⟩ := spec_reader_one.ev b h p hp0 (by omega) [1, 3, 1, 4, 2] (by simp) (by simp)
  refine ⟨u, ?_, ?_⟩
  · unfold spec_anyPlanes.f
    exact evBind hu (evRet rfl)
  · simp only [List.mem_cons, List.mem_nil_iff, or_false] at mu
    omega
theorem spec_anyImage.ev (b : List Int) (h : CodeOk b) (p : Int) (hp0 : 0 ≤ p) (hp1 : p < 800000000) : ∃ W H n l q, Ev (fun k => spec_anyImage.f k b p) (W, H, n, l, q) ∧ l.length ≤ 1024 ∧ p ≤ q ∧ q ≤ p + 3000 := by
  obtain ⟨n, hn, n0, n1⟩ := spec_anyPlanes.ev b h p hp0 (by omega)
  obtain ⟨W, H, l, q, hr, ok, _, _, q0, q1⟩ := spec_randomImage.ev b h (p + 1) (by omega) (by omega) n ⟨n0, n1⟩
  obtain ⟨W', H', n', l', q', hs, e1, e2, e3⟩ := spec_spoilImage.ev b h q (by omega) (by omega) W H n l ok.len.1
  refine ⟨W', H', n', l', q', ?_, by have := ok.len.2; omega, by omega, by omega⟩
  unfold spec_anyImage.f
  exact evBind hn (evBind hr (evBind hs (evRet rfl)))

theorem spec_copyInts.val (l : List Int) (h : l.length < 17592186044416) : spec_copyInts.f l = some l := by
  unfold spec_copyInts.f
  simp [h]

theorem place_wrap (W p x y : Nat) (hW : W ≤ 16) (hp : p ≤ 4) (hx : x ≤ 16) (hy : y ≤ 16) : wrap64 (wrap64 (wrap64 ((y : Int) * (W : Int)) + (x : Int)) * (p : Int)) = (((y * W + x) * p : Nat) : Int) := by
  have h1 : y * W ≤ 16 * 16 := Nat.mul_le_mul hy hW
  have h2 : (y * W + x) * p ≤ 272 * 4 := Nat.mul_le_mul (by omega) hp
  have e1 : (y : Int) * (W : Int) = ((y * W : Nat) : Int) := by push_cast; rfl
  have e2 : ((y * W + x : Nat) : Int) * (p : Int) = (((y * W + x) * p : Nat) : Int) := by push_cast; rfl
  rw [e1, wrapNat (y * W) (by omega), show ((y * W : Nat) : Int) + (x : Int) = ((y * W + x : Nat) : Int) by omega, wrapNat (y * W + x) (by omega), e2, wrapNat _ (by omega)]
theorem spec_pixelAt.val (W H p : Nat) (l : List Int) (x y : Nat) (hl : l.length = W * H * p) (hW : W ≤ 16) (hH : H ≤ 16) (hp : p ≤ 4) (hx : x < W) (hy : y < H) : spec_pixelAt.f (W : Int) (H : Int) (p : Int) l (x : Int) (y : Int) = some (pixN W p l x y) := by
  have h := pix_lt (p := p) hx hy
  rw [← hl] at h
  have hlen := pixN_length hx hy hl
  have h2 : (y * W + x) * p ≤ 272 * 4 := Nat.mul_le_mul (by have : y * W ≤ 16 * 16 := Nat.mul_le_mul (by omega) hW; omega) hp
  unfold spec_pixelAt.f
  rw [place_wrap W p x y hW hp (by omega) (by omega)]
  have e : wrap64 ((((y * W + x) * p : Nat) : Int) + (p : Int)) = (((y * W + x) * p + p : Nat) : Int) := by rw [wrapIn (by omega) (by omega)]; omega
  rw [e, if_pos (by omega), if_pos (by omega), if_pos (by omega), Int.toNat_natCast, Int.toNat_natCast]
  have hc := spec_copyInts.val (pixN W p l x y) (by omega)
  unfold pixN at hc ⊢
  rw [hc]
  rfl
/-- A list with a pixel's numbers put in. -/
def putPix (l px : List Int) (i : Nat) : List Int := l.take i ++ px ++ l.drop (i + px.length)
theorem putPix_upto (l px : List Int) (i q : Nat) (hi : i + px.length ≤ l.length) (hq : q < px.length) : (putPix l (px.take q) i).set (i + q) px[q] = putPix l (px.take (q + 1)) i := by
  unfold putPix
  have e1 : (l.take i).length = i := by rw [List.length_take]; omega
  have e2 : (px.take q).length = q := by rw [List.length_take]; omega
  have e3 : (px.take (q + 1)).length = q + 1 := by rw [List.length_take]; omega
  rw [e2, e3, List.set_append_right _ _ (by rw [List.length_append, e1, e2]; omega), List.length_append, e1, e2, Nat.sub_self, List.drop_eq_getElem_cons (show i + q < l.length by omega), List.set_cons_zero, List.take_succ_eq_append_getElem hq]
  simp only [List.append_assoc, List.singleton_append, Nat.add_assoc]
theorem putPix_length (l px : List Int) (i : Nat) (hi : i + px.length ≤ l.length) : (putPix l px i).length = l.length := by
  unfold putPix
  simp only [List.length_append, List.length_take, List.length_drop]
  omega
theorem putPix_nil (l : List Int) (i : Nat) : putPix l [] i = l := by unfold putPix; simp
theorem spec_setPixel.ev_l0 (W H p i : Nat) (l px : List Int) (x y : Nat) (hpx : px.length = p) (hl : i + p ≤ l.length) (hi : i ≤ 4096) (hp : p ≤ 4) (hw : wrap64 (wrap64 (wrap64 ((y : Int) * (W : Int)) + (x : Int)) * (p : Int)) = (i : Int)) (d : Nat) : ∀ q, q ≤ p → p - q = d →
    Ev (fun k => spec_setPixel.l0 k (x : Int) (y : Int) px (q : Int) (W : Int) (H : Int) (p : Int) (putPix l (px.take q) i)) (putPix l px i) := by
  induction d with
  | zero =>
    intro q hq hd
    refine Ev.step (fun k => by simp only [spec_setPixel.l0]; rfl) (evNeg (by clear hw; omega) (evRet ?_))
    rw [List.take_of_length_le (by clear hw; omega)]
  | succ d ih =>
    intro q hq hd
    have hn := ih (q + 1) (by clear hw ih; omega) (by clear hw ih; omega)
    clear ih
    have hlt : q < px.length := by clear hw; omega
    have hs := putPix_upto l px i q (by clear hw; omega) hlt
    have hle : (putPix l (px.take q) i).length = l.length := putPix_length _ _ _ (by rw [List.length_take]; clear hw; omega)
    have e : wrap64 ((i : Int) + (q : Int)) = ((i + q : Nat) : Int) := by rw [wrapIn (by clear hw; omega) (by clear hw; omega)]; rfl
    refine Ev.step (g := fun k => spec_setPixel.l0 k (x : Int) (y : Int) px (q : Int) (W : Int) (H : Int) (p : Int) (putPix l (px.take q) i)) (f := fun k => spec_setPixel.l0 k (x : Int) (y : Int) px ((q + 1 : Nat) : Int) (W : Int) (H : Int) (p : Int) (putPix l (px.take (q + 1)) i)) (fun k => ?_) hn
    simp only [spec_setPixel.l0]
    rw [hw, e]
    clear hw e hn
    rw [if_pos (show (q : Int) < (p : Int) by omega), if_pos (show (0 : Int) ≤ (q : Int) by omega), if_pos (show (q : Int) < (px.length : Int) by omega), if_pos (show (0 : Int) ≤ ((i + q : Nat) : Int) by omega), if_pos (show ((i + q : Nat) : Int) < ((putPix l (px.take q) i).length : Int) by omega), Int.toNat_natCast, rdN px q hlt, hs, wrapSucc q (by omega)]
theorem spec_setPixel.ev (W H p : Nat) (l px : List Int) (x y : Nat) (hpx : px.length = p) (hl : (y * W + x) * p + p ≤ l.length) (hW : W ≤ 16) (hp : p ≤ 4) (hx : x ≤ 15) (hy : y ≤ 15) :
    Ev (fun k => spec_setPixel.f k (W : Int) (H : Int) (p : Int) l (x : Int) (y : Int) px) (putPix l px ((y * W + x) * p)) := by
  have h2 : (y * W + x) * p ≤ 272 * 4 := Nat.mul_le_mul (by have : y * W ≤ 16 * 16 := Nat.mul_le_mul (by omega) hW; omega) hp
  have h := spec_setPixel.ev_l0 W H p ((y * W + x) * p) l px x y hpx hl (by omega) hp (place_wrap W p x y hW hp (by omega) (by omega)) p 0 (by omega) (by omega)
  rw [List.take_zero, putPix_nil] at h
  unfold spec_setPixel.f
  exact h
/-- An image that is being filled, pixel by pixel. -/
def fillTo (f : Nat → Nat → List Int) (W p N n : Nat) : List Int := pixelsUpto f W n ++ List.replicate ((N - n) * p) 0
theorem pixels_len (f : Nat → Nat → List Int) (W H p : Nat) (hf : ∀ x y, x < W → y < H → (f x y).length = p) (n : Nat) (hn : n ≤ W * H) : (pixelsUpto f W n).length = n * p := by
  induction n with
  | zero => simp [pixelsUpto]
  | succ n ih =>
    have h1 := ih (by omega)
    have hW : 0 < W := by
      rcases Nat.eq_zero_or_pos W with h | h
      · subst h; omega
      · exact h
    unfold pixelsUpto at h1 ⊢
    rw [List.range_succ, List.flatMap_append, List.length_append, h1]
    have h2 := hf (n % W) (n / W) (Nat.mod_lt _ hW) (by rw [Nat.div_lt_iff_lt_mul hW, Nat.mul_comm]; omega)
    rw [List.flatMap_cons, List.flatMap_nil, List.append_nil, h2, Nat.succ_mul]
theorem fillTo_zero (f : Nat → Nat → List Int) (W p N : Nat) : fillTo f W p N 0 = List.replicate (N * p) 0 := by simp [fillTo, pixelsUpto]
theorem fillTo_all (f : Nat → Nat → List Int) (W p N : Nat) : fillTo f W p N N = pixelsUpto f W N := by simp [fillTo]
theorem fillTo_len (f : Nat → Nat → List Int) (W H p : Nat) (hf : ∀ x y, x < W → y < H → (f x y).length = p) (n : Nat) (hn : n ≤ W * H) : (fillTo f W p (W * H) n).length = W * H * p := by
  unfold fillTo
  rw [List.length_append, pixels_len f W H p hf n hn, List.length_replicate, ← Nat.add_mul]
  congr 1
  omega
theorem row_lt {W H x y : Nat} (hx : x < W) (hy : y < H) : W * y + x < W * H := by
  have : W * (y + 1) ≤ W * H := Nat.mul_le_mul_left _ hy
  rw [Nat.mul_succ] at this
  omega
theorem fillTo_put (f : Nat → Nat → List Int) (W H p : Nat) (hf : ∀ x y, x < W → y < H → (f x y).length = p) (x y : Nat) (hx : x < W) (hy : y < H) :
    putPix (fillTo f W p (W * H) (W * y + x)) (f x y) ((y * W + x) * p) = fillTo f W p (W * H) (W * y + x + 1) := by
  have hlt := row_lt hx hy
  have hlen := pixels_len f W H p hf (W * y + x) (by omega)
  unfold putPix fillTo
  rw [Nat.mul_comm y W, hf x y hx hy, List.take_append_of_le_length (by omega), List.take_of_length_le (by omega), List.drop_append, hlen, List.drop_eq_nil_of_le (by omega), pixelsUpto_snoc f W x y hx, List.nil_append]
  congr 1
  rw [show (W * y + x) * p + p - (W * y + x) * p = p by omega, List.drop_replicate]
  congr 1
  rw [show W * H - (W * y + x) = (W * H - (W * y + x + 1)) + 1 by omega, Nat.succ_mul]
  omega

theorem inRange_val (a lo hi : Int) : spec_inRange.f a lo hi = some (decide (lo ≤ a ∧ a ≤ hi)) := by
  unfold spec_inRange.f
  split
  · rename_i h; simp [h]
  · rename_i h; simp [h]

/-- All numbers of a list lie in a range. -/
def allB (lo hi : Int) (l : List Int) : Bool := l.all fun x => decide (lo ≤ x ∧ x ≤ hi)
theorem allB_iff (lo hi : Int) (l : List Int) : allB lo hi l = true ↔ ∀ x ∈ l, lo ≤ x ∧ x ≤ hi := by
  unfold allB
  rw [List.all_eq_true]
  simp only [decide_eq_true_eq]
theorem spec_allIn.ev_l0 (l : List Int) (lo hi : Int) (hl : l.length ≤ 9223372036854775806) (d : Nat) : ∀ i, i ≤ l.length → l.length - i = d →
    Ev (fun k => spec_allIn.l0 k l lo hi (i : Int)) (allB lo hi (l.drop i)) := by
  induction d with
  | zero =>
    intro i hi' hd
    refine Ev.step (fun k => by simp only [spec_allIn.l0]; rfl) (evNeg (by omega) (evRet ?_))
    rw [List.drop_of_length_le (by omega)]
    rfl
  | succ d ih =>
    intro i hi' hd
    have hw : wrap64 ((i : Int) + 1) = ((i + 1 : Nat) : Int) := wrapSucc i (by omega)
    refine Ev.step (fun k => by simp only [spec_allIn.l0, hw]; rfl) (evPos (by omega) (evPos (by omega) ?_))
    rw [rdN l i (by omega), drop_cons_ l i (by omega)]
    have hr : spec_inRange.f l[i] lo hi = some (decide (lo ≤ l[i] ∧ l[i] ≤ hi)) := by
      unfold spec_inRange.f
      split
      · rename_i h; simp [h]
      · rename_i h; simp [h]
    have e : allB lo hi (l[i] :: l.drop (i + 1)) = (decide (lo ≤ l[i] ∧ l[i] ≤ hi) && allB lo hi (l.drop (i + 1))) := by
      unfold allB
      rw [List.all_cons]
    rw [e]
    refine evFix hr (evIf (fun h => ?_) (fun h => evRet ?_))
    · rw [h, Bool.true_and]
      exact ih (i + 1) (by omega) (by omega)
    · rw [Bool.eq_false_iff.mpr h, Bool.false_and]
theorem spec_allIn.ev (l : List Int) (lo hi : Int) (hl : l.length ≤ 9223372036854775806) : Ev (fun k => spec_allIn.f k l lo hi) (allB lo hi l) := by
  have := spec_allIn.ev_l0 l lo hi hl l.length 0 (by omega) (by omega)
  unfold spec_allIn.f
  simpa using this

theorem spec_validShape.val (a b c : Int) : spec_validShape.f a b c = some (decide ((1 ≤ a ∧ a ≤ 16) ∧ (1 ≤ b ∧ b ≤ 16) ∧ (1 ≤ c ∧ c ≤ 4))) := by
  unfold spec_validShape.f
  rw [inRange_val, inRange_val, inRange_val]
  simp only [Option.bind_some, decide_eq_true_eq]
  by_cases h1 : 1 ≤ a ∧ a ≤ 16
  · rw [if_pos h1]
    by_cases h2 : 1 ≤ b ∧ b ≤ 16
    · rw [if_pos h2]
      congr 1
      rw [Bool.eq_iff_iff]
      simp only [decide_eq_true_eq]
      exact ⟨fun h => ⟨h1, h2, h⟩, fun h => h.2.2⟩
    · rw [if_neg h2, decide_eq_false (fun h => h2 h.2.1)]
  · rw [if_neg h1, decide_eq_false (fun h => h1 h.1)]
theorem allB_bytes (l : List Int) : allB 0 255 l = decide (∀ x ∈ l, 0 ≤ x ∧ x ≤ 255) := by
  rw [Bool.eq_iff_iff, allB_iff, decide_eq_true_eq]
theorem spec_validImage.ev (a b c : Int) (l : List Int) (hl : l.length ≤ 9223372036854775806) : Ev (fun k => spec_validImage.f k a b c l) (decide (ImgOk a b c l)) := by
  unfold spec_validImage.f
  refine evFix (spec_validShape.val a b c) ?_
  by_cases h : (1 ≤ a ∧ a ≤ 16) ∧ (1 ≤ b ∧ b ≤ 16) ∧ (1 ≤ c ∧ c ≤ 4)
  · refine evPos (decide_eq_true h) ?_
    rw [shape_wrap h.1 h.2.1 h.2.2]
    by_cases h2 : (l.length : Int) = a * b * c
    · refine evPos h2 ?_
      have h3 := spec_allIn.ev l 0 255 hl
      refine evBind h3 (evRet ?_)
      rw [allB_bytes, Bool.eq_iff_iff]
      simp only [decide_eq_true_eq]
      exact ⟨fun h3 => ⟨h.1, h.2.1, h.2.2, h2, h3⟩, fun hh => hh.2.2.2.2⟩
    · exact evNeg h2 (evRet (decide_eq_false (fun hh : ImgOk a b c l => h2 hh.2.2.2.1)).symm)
  · exact evNeg (by rw [decide_eq_false h]; simp) (evRet (decide_eq_false (fun hh : ImgOk a b c l => h ⟨hh.1, hh.2.1, hh.2.2.1⟩)).symm)

theorem rd_app_l (A B : List Int) (i : Nat) (h : i < A.length) : rd (A ++ B) (i : Int) = rd A (i : Int) := by
  simp [rd, List.getD_eq_getElem?_getD, List.getElem?_append_left h]
theorem rd_app_r (A B : List Int) (r : Nat) : rd (A ++ B) ((A.length + r : Nat) : Int) = rd B (r : Int) := by
  simp [rd, List.getD_eq_getElem?_getD, List.getElem?_append_right, -Int.natCast_add, Int.toNat_natCast]
theorem pixels_lenp (f : Nat → Nat → List Int) (W p : Nat) (hf : ∀ x y, (f x y).length = p) (n : Nat) : (pixelsUpto f W n).length = n * p := by
  induction n with
  | zero => simp [pixelsUpto]
  | succ n ih =>
    unfold pixelsUpto at ih ⊢
    rw [List.range_succ, List.flatMap_append, List.length_append, ih, List.flatMap_cons, List.flatMap_nil, List.append_nil, hf, Nat.succ_mul]
theorem pixelsUpto_get (f : Nat → Nat → List Int) (W p : Nat) (hp : 0 < p) (hf : ∀ x y, (f x y).length = p) (n : Nat) : ∀ i, i < n * p → rd (pixelsUpto f W n) (i : Int) = rd (f (i / p % W) (i / p / W)) ((i % p : Nat) : Int) := by
  induction n with
  | zero => intro i hi; omega
  | succ n ih =>
    intro i hi
    have hlen := pixels_lenp f W p hf n
    have e : pixelsUpto f W (n + 1) = pixelsUpto f W n ++ f (n % W) (n / W) := by
      unfold pixelsUpto
      rw [List.range_succ, List.flatMap_append, List.flatMap_cons, List.flatMap_nil, List.append_nil]
    rw [e]
    by_cases h : i < n * p
    · rw [rd_app_l _ _ i (by omega)]
      exact ih i h
    · rw [Nat.succ_mul] at hi
      obtain ⟨r, rfl⟩ : ∃ r, i = n * p + r := ⟨i - n * p, by omega⟩
      have h2 : rd (pixelsUpto f W n ++ f (n % W) (n / W)) ((n * p + r : Nat) : Int) = rd (f (n % W) (n / W)) (r : Int) := by
        rw [← hlen]
        exact rd_app_r _ _ r
      have h3 : (n * p + r) / p = n := by rw [Nat.mul_comm, Nat.mul_add_div hp, Nat.div_eq_of_lt (by omega), Nat.add_zero]
      have h4 : (n * p + r) % p = r := by rw [Nat.mul_comm, Nat.mul_add_mod, Nat.mod_eq_of_lt (by omega)]
      rw [h2, h3, h4]
theorem pixelsUpto_congr (f g : Nat → Nat → List Int) (W H : Nat) (h : ∀ x y, x < W → y < H → f x y = g x y) (n : Nat) (hn : n ≤ W * H) : pixelsUpto f W n = pixelsUpto g W n := by
  induction n with
  | zero => rfl
  | succ n ih =>
    have h1 := ih (by omega)
    have hW : 0 < W := by
      rcases Nat.eq_zero_or_pos W with h | h
      · subst h; omega
      · exact h
    unfold pixelsUpto at h1 ⊢
    rw [List.range_succ, List.flatMap_append, List.flatMap_append, h1, List.flatMap_cons, List.flatMap_cons, List.flatMap_nil, List.flatMap_nil, h (n % W) (n / W) (Nat.mod_lt _ hW) (by rw [Nat.div_lt_iff_lt_mul hW, Nat.mul_comm]; omega)]
theorem pixN_mem {W p : Nat} {l : List Int} {x y : Nat} {v : Int} (h : v ∈ pixN W p l x y) : v ∈ l := List.mem_of_mem_take (List.mem_of_mem_drop h)
/-- An image is all its pixels. -/
theorem pixels_self (W H p : Nat) (l : List Int) (hl : l.length = W * H * p) : pixelsUpto (pixN W p l) W (W * H) = l := by
  have key : ∀ n, n ≤ W * H → pixelsUpto (pixN W p l) W n = l.take (n * p) := by
    intro n
    induction n with
    | zero => intro _; simp [pixelsUpto]
    | succ n ih =>
      intro hn
      have h1 := ih (by omega)
      have h2 : (n + 1) * p ≤ W * H * p := Nat.mul_le_mul_right _ hn
      rw [Nat.succ_mul] at h2
      unfold pixelsUpto at h1 ⊢
      rw [List.range_succ, List.flatMap_append, h1, List.flatMap_cons, List.flatMap_nil, List.append_nil]
      unfold pixN
      rw [show n / W * W + n % W = n by rw [Nat.mul_comm]; exact Nat.div_add_mod n W, Nat.succ_mul]
      have h3 := List.take_append_drop (n * p) (l.take (n * p + p))
      rw [List.take_take, Nat.min_eq_left (by omega)] at h3
      exact h3
  rw [key _ (Nat.le_refl _), ← hl, List.take_length]
theorem pixN_num {W H p x y k : Nat} {l : List Int} (hx : x < W) (hy : y < H) (hk : k < p) (hl : l.length = W * H * p) : rd (pixN W p l x y) (k : Int) = rd l (((y * W + x) * p + k : Nat) : Int) := by
  have h1 := pix_lt (p := p) hx hy
  have h2 := pixN_length hx hy hl
  rw [rdN _ k (by omega), rdN l _ (by omega)]
  unfold pixN
  rw [List.getElem_drop, List.getElem_take]
theorem SearchOk.nats {a b c : Int} {l : List Int} {a' b' c' : Int} {q : List Int} (h : SearchOk a b c l a' b' c' q) : ∃ W H p u v : Nat, a = W ∧ b = H ∧ c = p ∧ a' = u ∧ b' = v ∧ c' = p ∧ l.length = W * H * p ∧ q.length = u * v * p ∧ W ≤ 16 ∧ H ≤ 16 ∧ 1 ≤ p ∧ p ≤ 4 ∧ 1 ≤ u ∧ 1 ≤ v ∧ u ≤ W ∧ v ≤ H := by
  obtain ⟨hi, hj, e, h1, h2⟩ := h
  obtain ⟨W, H, p, rfl, rfl, rfl, hl, b1, b2, b3, b4, b5, b6⟩ := hi.nats
  obtain ⟨u, v, p', rfl, rfl, rfl, hlq, d1, d2, d3, d4, d5, d6⟩ := hj.nats
  obtain rfl : p' = p := by omega
  exact ⟨W, H, p', u, v, rfl, rfl, rfl, rfl, rfl, rfl, hl, hlq, b4, b5, b3, b6, d1, d2, by omega, by omega⟩
/-- The count, as far as it has come. -/
def cntAt (W p u v : Nat) (l q : List Int) (C n : Nat) : Int := placeFold stepC (fun x y => gapU W p u l q x y (u * v * p)) C 0 n
theorem stepC_wrap (s : Int) (x y : Nat) (n : Int) (h0 : 0 ≤ s) (h1 : s ≤ 1000) : stepC s x y n = if n = 0 then s + 1 else s := by
  unfold stepC
  rw [wrapIn (x := s + 1) (by omega) (by omega)]
theorem cntAt_bounds (W p u v : Nat) (l q : List Int) (C n : Nat) (hn : n ≤ 256) : 0 ≤ cntAt W p u v l q C n ∧ cntAt W p u v l q C n ≤ n := by
  induction n with
  | zero => exact ⟨Int.le_refl _, Int.le_refl _⟩
  | succ n ih =>
    have h := ih (by omega)
    show 0 ≤ stepC (cntAt W p u v l q C n) (n % C) (n / C) _ ∧ stepC (cntAt W p u v l q C n) (n % C) (n / C) _ ≤ ((n + 1 : Nat) : Int)
    rw [stepC_wrap _ _ _ _ h.1 (by omega)]
    split <;> omega
/-- What CountImage answers. -/
def countR (a b c : Int) (l : List Int) (a' b' c' : Int) (q : List Int) : Int := if SearchOk a b c l a' b' c' q then searchFold stepC a b c l a' b' q 0 else -1
theorem countR_at (W H p u v : Nat) (l q : List Int) (h : SearchOk W H p l u v p q) : countR W H p l u v p q = cntAt W p u v l q (W - u + 1) ((W - u + 1) * (H - v + 1)) := by
  unfold countR
  rw [if_pos h]
  unfold searchFold cntAt
  simp only [Int.toNat_natCast]
theorem impl_CountImage.val (a b c : Int) (l : List Int) (a' b' c' : Int) (q : List Int) : impl_CountImage.f a b c l a' b' c' q = some (countR a b c l a' b' c' q) := rfl
theorem spec_anySide.ev (b : List Int) (h : CodeOk b) (p : Int) (hp0 : 0 ≤ p) (hp1 : p < 800000000) : ∃ v, Ev (fun k => spec_anySide.f k b p) (v, p + 1) := by
  obtain ⟨v, hv, _⟩ := spec_reader_one.ev b h p hp0 (by omega) [1, 2, 3, 4, 6, 8, 16, 17, 0] (by simp) (by simp)
  exact ⟨v, by unfold spec_anySide.f; exact evBind hv (evRet rfl)⟩
theorem spec_DrawScaleNearest.ev (l : List Int) (hw : ∀ x ∈ l, (Lit.int .u8 x).wf = true) : ∃ W H n r u v, Ev (fun k => spec_DrawScaleNearest.f k l) (W, H, n, r, u, v) ∧ r.length ≤ 1024 := by
  obtain ⟨s, hb, h⟩ := spec_newReader.ev l hw
  obtain ⟨W, H, n, r, q, he, h1, q0, q1⟩ := spec_anyImage.ev s h 0 (by omega) (by omega)
  obtain ⟨u, hu⟩ := spec_anySide.ev s h q (by omega) (by omega)
  obtain ⟨v, hv⟩ := spec_anySide.ev s h (q + 1) (by omega) (by omega)
  exact ⟨W, H, n, r, u, v, by unfold spec_DrawScaleNearest.f; exact evFix hb (evBind he (evBind hu (evBind hv (evRet rfl)))), h1⟩

theorem laws_equalInts.ev_l0 (a b : List Int) (hab : a.length = b.length) (hl : a.length ≤ 9223372036854775807) (d : Nat) : ∀ i, i ≤ a.length → a.length - i = d →
    Ev (fun k => laws_equalInts.l0 k a b (i : Int)) (decide (a.drop i = b.drop i)) := by
  induction d with
  | zero =>
    intro i hi hd
    refine Ev.step (fun k => by simp only [laws_equalInts.l0]; rfl) (evNeg (by omega) (evRet ?_))
    rw [List.drop_of_length_le (by omega), List.drop_of_length_le (by omega)]
    rfl
  | succ d ih =>
    intro i hi hd
    have hw : wrap64 ((i : Int) + 1) = ((i + 1 : Nat) : Int) := wrapSucc i (by omega)
    refine Ev.step (fun k => by simp only [laws_equalInts.l0, hw]; rfl) (evPos (by omega) (evPos (by omega) (evPos (by omega) ?_)))
    rw [decide_drop_eq a b i (by omega) (by omega), rdN a i (by omega), rdN b i (by omega)]
    refine evIf (fun h => ?_) (fun h => evRet ?_)
    · rw [decide_eq_true h, Bool.true_and]
      exact ih (i + 1) (by omega) (by omega)
    · rw [decide_eq_false h, Bool.false_and]
theorem laws_equalInts.ev (a b : List Int) (hl : a.length ≤ 9223372036854775807) : Ev (fun k => laws_equalInts.f k a b) (decide (a = b)) := by
  unfold laws_equalInts.f
  refine evIf (fun h => ?_) (fun h => evRet ?_)
  · have := laws_equalInts.ev_l0 a b (by omega) hl a.length 0 (by omega) (by omega)
    simpa using this
  · rw [eq_comm, decide_eq_false_iff_not]
    intro hab
    exact h (by rw [hab])

theorem laws_equalImage.ev (a b c : Int) (l : List Int) (a' b' c' : Int) (l' : List Int) (hl : l.length ≤ 9223372036854775807) : Ev (fun k => laws_equalImage.f k a b c l a' b' c' l') (decide (a = a' ∧ b = b' ∧ c = c' ∧ l = l')) := by
  have h := laws_equalInts.ev l l' hl
  unfold laws_equalImage.f
  refine evIf (fun e1 => evIf (fun e2 => evIf (fun e3 => evBind h (evRet ?_)) (fun e3 => evRet ?_)) (fun e2 => evRet ?_)) (fun e1 => evRet ?_)
  · rw [Bool.eq_iff_iff]
    simp only [decide_eq_true_eq]
    exact ⟨fun h => ⟨e1, e2, e3, h⟩, fun h => h.2.2.2⟩
  · exact (decide_eq_false (fun h => e3 h.2.2.1)).symm
  · exact (decide_eq_false (fun h => e2 h.2.1)).symm
  · exact (decide_eq_false (fun h => e1 h.1)).symm
theorem laws_equalImage.refl (a b c : Int) (l : List Int) (hl : l.length ≤ 9223372036854775807) : Ev (fun k => laws_equalImage.f k a b c l a b c l) true := by
  have h := laws_equalImage.ev a b c l a b c l hl
  rwa [decide_eq_true ⟨rfl, rfl, rfl, rfl⟩] at h

def sumN (g : Nat → Nat) : Nat → Nat
  | 0 => 0
  | n + 1 => sumN g n + g n
theorem sumN_congr {g h : Nat → Nat} (n : Nat) (e : ∀ i, i < n → g i = h i) : sumN g n = sumN h n := by
  induction n with
  | zero => rfl
  | succ n ih =>
    show sumN g n + g n = sumN h n + h n
    rw [ih (fun i hi => e i (by omega)), e n (by omega)]
/-- The places of an image, row by row. -/
theorem sumN_rows (g : Nat → Nat → Nat) (W H : Nat) (hW : 0 < W) : sumN (fun i => g (i % W) (i / W)) (W * H) = sumN (fun y => sumN (fun x => g x y) W) H := by
  have row : ∀ y n, n ≤ W → sumN (fun i => g (i % W) (i / W)) (W * y + n) = sumN (fun i => g (i % W) (i / W)) (W * y) + sumN (fun x => g x y) n := by
    intro y n
    induction n with
    | zero => intro _; rfl
    | succ n ih =>
      intro hn
      show sumN (fun i => g (i % W) (i / W)) (W * y + n) + g ((W * y + n) % W) ((W * y + n) / W) = sumN (fun i => g (i % W) (i / W)) (W * y) + (sumN (fun x => g x y) n + g n y)
      rw [ih (by omega), Nat.mul_add_mod, Nat.mod_eq_of_lt (by omega), Nat.mul_add_div hW, Nat.div_eq_of_lt (by omega), Nat.add_zero]
      omega
  induction H with
  | zero => rfl
  | succ H ih =>
    rw [Nat.mul_succ, row H W (Nat.le_refl _), ih]
    rfl

def gapG (W p u v : Nat) (l q : List Int) (x y : Nat) : Int := gapU W p u l q x y (u * v * p)
theorem cntAt_sum (W p u v : Nat) (l q : List Int) (C n : Nat) (hn : n ≤ 256) : cntAt W p u v l q C n = (sumN (fun i => if gapG W p u v l q (i % C) (i / C) = 0 then 1 else 0) n : Int) := by
  induction n with
  | zero => rfl
  | succ n ih =>
    have hb := cntAt_bounds W p u v l q C n (by omega)
    have e : cntAt W p u v l q C (n + 1) = stepC (cntAt W p u v l q C n) (n % C) (n / C) (gapG W p u v l q (n % C) (n / C)) := rfl
    have e2 : sumN (fun i => if gapG W p u v l q (i % C) (i / C) = 0 then 1 else 0) (n + 1) = sumN (fun i => if gapG W p u v l q (i % C) (i / C) = 0 then 1 else 0) n + if gapG W p u v l q (n % C) (n / C) = 0 then 1 else 0 := rfl
    rw [e, e2, stepC_wrap _ _ _ _ hb.1 (by omega), ih (by omega)]
    split <;> omega
/-- What is equal number by number has no gap. -/
theorem gap_none (W p u v : Nat) (l q : List Int) (x y : Nat) (h : ∀ t, t < u * v * p → rd q (t : Int) = rd l ((((y + t / p / u) * W + (x + t / p % u)) * p + t % p : Nat) : Int)) : gapG W p u v l q x y = 0 := by
  have key : ∀ n, n ≤ u * v * p → gapU W p u l q x y n = 0 := by
    intro n
    induction n with
    | zero => intro _; rfl
    | succ n ih =>
      intro hn
      show gapU W p u l q x y n + gapT W p u l q x y n = 0
      rw [ih (by omega)]
      unfold gapT
      rw [h n (by omega), Int.sub_self]
      rfl
  exact key _ (Nat.le_refl _)
theorem repeat_len {W H p : Nat} {l : List Int} (hl : l.length = W * H * p) (hW0 : 1 ≤ W) (hH0 : 1 ≤ H) (x y : Nat) : (pixN W p l (x % W) (y % H)).length = p := pixN_length (Nat.mod_lt _ (by omega)) (Nat.mod_lt _ (by omega)) hl
theorem spec_RepeatImage.ev_l1 (W H p m n : Nat) (l : List Int) (hl : l.length = W * H * p) (hW0 : 1 ≤ W) (hH0 : 1 ≤ H) (hW : W ≤ 16) (hH : H ≤ 16) (hp : p ≤ 4) (hm : m ≤ 16) (hn : n ≤ 16) (y : Nat) (hy : y < n) (R : Int × Int × Int × List Int)
    (hR : Ev (fun k => spec_RepeatImage.l0 k (m : Int) (n : Int) (wrap64 ((y : Int) + 1)) W H p l m n p (fillTo (fun x y => pixN W p l (x % W) (y % H)) m p (m * n) (m * (y + 1)))) R) (d : Nat) : ∀ x, x ≤ m → m - x = d →
    Ev (fun k => spec_RepeatImage.l1 k (m : Int) (n : Int) (y : Int) (x : Int) W H p l m n p (fillTo (fun x y => pixN W p l (x % W) (y % H)) m p (m * n) (m * y + x))) R := by
  induction d with
  | zero =>
    intro x hx hd
    refine Ev.step (fun k => by simp only [spec_RepeatImage.l1]; rfl) (evNeg (by omega) ?_)
    rw [show m * y + x = m * (y + 1) by rw [Nat.mul_succ]; omega]
    exact hR
  | succ d ih =>
    intro x hx hd
    have hlt : x < m := by omega
    have t1 : Int.tmod (x : Int) (W : Int) = ((x % W : Nat) : Int) := rfl
    have t2 : Int.tmod (y : Int) (H : Int) = ((y % H : Nat) : Int) := rfl
    have h1 := spec_pixelAt.val W H p l (x % W) (y % H) hl hW hH hp (Nat.mod_lt _ (by omega)) (Nat.mod_lt _ (by omega))
    have hf : ∀ x y, x < m → y < n → (pixN W p l (x % W) (y % H)).length = p := fun x y _ _ => repeat_len hl hW0 hH0 x y
    have hr := row_lt hlt hy
    have hle := fillTo_len (fun x y => pixN W p l (x % W) (y % H)) m n p hf (m * y + x) (by omega)
    have h2 := spec_setPixel.ev m n p (fillTo (fun x y => pixN W p l (x % W) (y % H)) m p (m * n) (m * y + x)) (pixN W p l (x % W) (y % H)) x y (hf x y hlt hy) (by rw [hle]; exact pix_lt hlt hy) hm hp (by omega) (by omega)
    rw [fillTo_put (fun x y => pixN W p l (x % W) (y % H)) m n p hf x y hlt hy] at h2
    refine Ev.step (fun k => by simp only [spec_RepeatImage.l1, t1, t2, wrapSucc x (by omega)]; rfl) (evPos (by omega) (evNeg (by omega) (evNeg (by omega) (evFix h1 (evBind h2 ?_)))))
    exact ih (x + 1) (by omega) (by omega)
theorem spec_RepeatImage.ev_l0 (W H p m n : Nat) (l : List Int) (hl : l.length = W * H * p) (hW0 : 1 ≤ W) (hH0 : 1 ≤ H) (hW : W ≤ 16) (hH : H ≤ 16) (hp : p ≤ 4) (hm : m ≤ 16) (hn : n ≤ 16) (d : Nat) : ∀ y, y ≤ n → n - y = d →
    Ev (fun k => spec_RepeatImage.l0 k (m : Int) (n : Int) (y : Int) W H p l m n p (fillTo (fun x y => pixN W p l (x % W) (y % H)) m p (m * n) (m * y))) ((m : Int), (n : Int), (p : Int), pixelsUpto (fun x y => pixN W p l (x % W) (y % H)) m (m * n)) := by
  induction d with
  | zero =>
    intro y hy hd
    refine Ev.step (fun k => by simp only [spec_RepeatImage.l0]; rfl) (evNeg (by omega) (evRet ?_))
    rw [show y = n by omega, fillTo_all]
  | succ d ih =>
    intro y hy hd
    have h := ih (y + 1) (by omega) (by omega)
    rw [← wrapSucc y (by omega)] at h
    refine Ev.step (fun k => by simp only [spec_RepeatImage.l0]; rfl) (evPos (by omega) ?_)
    exact spec_RepeatImage.ev_l1 W H p m n l hl hW0 hH0 hW hH hp hm hn y (by omega) _ h m 0 (by omega) (by omega)
theorem RepeatOk.nats {a b c : Int} {l : List Int} {u v : Int} (h : RepeatOk a b c l u v) : ∃ m n : Nat, u = m ∧ v = n ∧ 1 ≤ m ∧ 1 ≤ n ∧ m ≤ 16 ∧ n ≤ 16 := by
  obtain ⟨_, h1, h2⟩ := h
  exact ⟨u.toNat, v.toNat, by omega, by omega, by omega, by omega, by omega, by omega⟩
theorem spec_RepeatImage.ev (a b c : Int) (l : List Int) (u v : Int) (hl : l.length ≤ 9223372036854775806) : Ev (fun k => spec_RepeatImage.f k a b c l u v) (if RepeatOk a b c l u v then (u, v, c, pixelsUpto (repeatF a b c l) u.toNat (u.toNat * v.toNat)) else (0, 0, 0, [])) := by
  unfold spec_RepeatImage.f
  refine evBind (spec_validImage.ev a b c l hl) ?_
  by_cases h : ImgOk a b c l
  · refine evPos (decide_eq_true h) (evFix (spec_validShape.val u v c) ?_)
    by_cases h2 : (1 ≤ u ∧ u ≤ 16) ∧ (1 ≤ v ∧ v ≤ 16)
    · have ok : RepeatOk a b c l u v := ⟨h, h2⟩
      rw [if_pos ok, decide_eq_true (show (1 ≤ u ∧ u ≤ 16) ∧ (1 ≤ v ∧ v ≤ 16) ∧ (1 ≤ c ∧ c ≤ 4) from ⟨h2.1, h2.2, h.2.2.1⟩)]
      have hn := spec_newImage.val u v c h2.1 h2.2 h.2.2.1
      refine Ev.step (fun k => by simp only [spec_RepeatImage.j0]; rfl) (evNeg (by simp) (evFix hn ?_))
      obtain ⟨W, H, p, rfl, rfl, rfl, hlen, b1, b2, b3, b4, b5, b6⟩ := h.nats
      obtain ⟨m, n, rfl, rfl, c1, c2, c3, c4⟩ := RepeatOk.nats ok
      have h4 := spec_RepeatImage.ev_l0 W H p m n l hlen b1 b2 b4 b5 b6 c3 c4 n 0 (by omega) (by omega)
      rw [Nat.mul_zero, fillTo_zero] at h4
      have e : ((m : Int) * (n : Int) * (p : Int)).toNat = m * n * p := by
        rw [show (m : Int) * (n : Int) * (p : Int) = ((m * n * p : Nat) : Int) by push_cast; rfl, Int.toNat_natCast]
      simp only [e, repeatF, Int.toNat_natCast]
      exact h4
    · rw [if_neg (fun ok : RepeatOk a b c l u v => h2 ok.2), decide_eq_false (fun hh => h2 ⟨hh.1, hh.2.1⟩)]
      exact Ev.step (fun k => by simp only [spec_RepeatImage.j0]; rfl) (evPos (by trivial) (evRet rfl))
  · rw [if_neg (fun ok : RepeatOk a b c l u v => h ok.1)]
    exact evNeg (by rw [decide_eq_false h]; simp) (Ev.step (fun k => by simp only [spec_RepeatImage.j0]; rfl) (evPos (by trivial) (evRet rfl)))

theorem sumN_mono (g : Nat → Nat) (m n : Nat) (h : m ≤ n) : sumN g m ≤ sumN g n := by
  induction n with
  | zero => obtain rfl : m = 0 := by omega
            exact Nat.le_refl _
  | succ n ih =>
    by_cases e : m = n + 1
    · subst e; exact Nat.le_refl _
    · have := ih (by omega)
      show sumN g m ≤ sumN g n + g n
      omega
theorem sumN_le {g h : Nat → Nat} (n : Nat) (e : ∀ i, i < n → g i ≤ h i) : sumN g n ≤ sumN h n := by
  induction n with
  | zero => exact Nat.le_refl _
  | succ n ih =>
    have h1 := ih (fun i hi => e i (by omega))
    have h2 := e n (by omega)
    show sumN g n + g n ≤ sumN h n + h n
    omega
theorem sumN_const (c n : Nat) : sumN (fun _ => c) n = c * n := by
  induction n with
  | zero => rfl
  | succ n ih => show sumN (fun _ => c) n + c = c * (n + 1); rw [ih, Nat.mul_succ]
/-- Every W-th place alone has at most as much as all places. -/
theorem sumN_step (g : Nat → Nat) (W : Nat) (hW : 1 ≤ W) (K : Nat) : sumN (fun i => g (i * W)) (K + 1) ≤ sumN g (K * W + 1) := by
  induction K with
  | zero =>
    show sumN (fun i => g (i * W)) 0 + g (0 * W) ≤ sumN g (0 * W) + g (0 * W)
    rw [Nat.zero_mul]
    exact Nat.le_refl _
  | succ K ih =>
    have h1 := sumN_mono g (K * W + 1) ((K + 1) * W) (by rw [Nat.succ_mul]; omega)
    show sumN (fun i => g (i * W)) (K + 1) + g ((K + 1) * W) ≤ sumN g ((K + 1) * W) + g ((K + 1) * W)
    omega
theorem repeat_count (W H p m n : Nat) (l U : List Int) (hi : ImgOk (W : Int) (H : Int) (p : Int) l) (hl : l.length = W * H * p) (hW : 1 ≤ W) (hH : 1 ≤ H) (hp0 : 1 ≤ p) (hp : p ≤ 4) (hm : W ≤ m ∧ m ≤ 16) (hn : H ≤ n ∧ n ≤ 16) (hUL : U.length = m * n * p)
    (hU : ∀ x y k, x < m → y < n → k < p → rd U (((y * m + x) * p + k : Nat) : Int) = rd l (((y % H * W + x % W) * p + k : Nat) : Int)) :
    ((m / W * (n / H) : Nat) : Int) ≤ cntAt m p W H U l (m - W + 1) ((m - W + 1) * (n - H + 1)) := by
  have hC : (m - W + 1) * (n - H + 1) ≤ 16 * 16 := Nat.mul_le_mul (by omega) (by omega)
  rw [cntAt_sum _ _ _ _ _ _ _ _ (by omega)]
  have key : m / W * (n / H) ≤ sumN (fun i => if gapG m p W H U l (i % (m - W + 1)) (i / (m - W + 1)) = 0 then 1 else 0) ((m - W + 1) * (n - H + 1)) := by
    rw [sumN_rows (fun x y => if gapG m p W H U l x y = 0 then 1 else 0) (m - W + 1) (n - H + 1) (by omega)]
    have hz : ∀ i j, i < m / W → j < n / H → gapG m p W H U l (i * W) (j * H) = 0 := by
      intro i j hi2 hj2
      have q1 : (i + 1) * W ≤ m := Nat.le_trans (Nat.mul_le_mul_right _ hi2) (Nat.div_mul_le_self _ _)
      have q2 : (j + 1) * H ≤ n := Nat.le_trans (Nat.mul_le_mul_right _ hj2) (Nat.div_mul_le_self _ _)
      rw [Nat.succ_mul] at q1 q2
      refine gap_none m p W H U l (i * W) (j * H) (fun t ht => ?_)
      have hq : t / p < W * H := by rw [Nat.div_lt_iff_lt_mul (by omega)]; exact ht
      have h1 : t / p % W < W := Nat.mod_lt _ (by omega)
      have h2 : t / p / W < H := by rw [Nat.div_lt_iff_lt_mul (by omega), Nat.mul_comm]; exact hq
      have h3 : t % p < p := Nat.mod_lt _ (by omega)
      rw [hU (i * W + t / p % W) (j * H + t / p / W) (t % p) (by omega) (by omega) h3, Nat.mul_comm j H, Nat.mul_add_mod, Nat.mod_eq_of_lt h2, Nat.mul_comm i W, Nat.mul_add_mod, Nat.mod_eq_of_lt h1]
      congr 2
      have e1 := Nat.div_add_mod (t / p) W
      have e2 := Nat.div_add_mod t p
      rw [Nat.mul_comm (t / p / W) W, e1, Nat.mul_comm, e2]
    obtain ⟨K, hK⟩ : ∃ K, m / W = K + 1 := ⟨m / W - 1, by have : 0 < m / W := Nat.div_pos hm.1 (by omega); omega⟩
    obtain ⟨L, hL⟩ : ∃ L, n / H = L + 1 := ⟨n / H - 1, by have : 0 < n / H := Nat.div_pos hn.1 (by omega); omega⟩
    have r1 : (K + 1) * W ≤ m := by rw [← hK]; exact Nat.div_mul_le_self _ _
    have r2 : (L + 1) * H ≤ n := by rw [← hL]; exact Nat.div_mul_le_self _ _
    rw [Nat.succ_mul] at r1 r2
    have rowle : ∀ j, j < L + 1 → K + 1 ≤ sumN (fun x => if gapG m p W H U l x (j * H) = 0 then 1 else 0) (m - W + 1) := by
      intro j hj
      have s1 := sumN_step (fun x => if gapG m p W H U l x (j * H) = 0 then 1 else 0) W hW K
      have s2 := sumN_mono (fun x => if gapG m p W H U l x (j * H) = 0 then 1 else 0) (K * W + 1) (m - W + 1) (by omega)
      have s3 : sumN (fun i => if gapG m p W H U l (i * W) (j * H) = 0 then 1 else 0) (K + 1) = K + 1 := by
        rw [sumN_congr (h := fun _ => 1) (K + 1) (fun i hi2 => if_pos (hz i j (by omega) (by omega))), sumN_const]
        omega
      omega
    have t1 := sumN_step (fun y => sumN (fun x => if gapG m p W H U l x y = 0 then 1 else 0) (m - W + 1)) H hH L
    have t2 := sumN_mono (fun y => sumN (fun x => if gapG m p W H U l x y = 0 then 1 else 0) (m - W + 1)) (L * H + 1) (n - H + 1) (by omega)
    have t3 : (K + 1) * (L + 1) ≤ sumN (fun j => sumN (fun x => if gapG m p W H U l x (j * H) = 0 then 1 else 0) (m - W + 1)) (L + 1) := by
      rw [← sumN_const (K + 1) (L + 1)]
      exact sumN_le (L + 1) rowle
    rw [hK, hL]
    omega
  omega
theorem repeat_self (W H p : Nat) (l : List Int) (hl : l.length = W * H * p) : pixelsUpto (repeatF (W : Int) (H : Int) (p : Int) l) W (W * H) = l := by
  rw [pixelsUpto_congr (repeatF (W : Int) (H : Int) (p : Int) l) (pixN W p l) W H (fun x y hx hy => by
    unfold repeatF
    simp only [Int.toNat_natCast]
    rw [Nat.mod_eq_of_lt hx, Nat.mod_eq_of_lt hy]) (W * H) (Nat.le_refl _)]
  exact pixels_self W H p l hl
theorem repeat_yes (W H p m n : Nat) (l : List Int) (hok : ImgOk (W : Int) (H : Int) (p : Int) l) (hl : l.length = W * H * p) (hW0 : 1 ≤ W) (hH0 : 1 ≤ H) (hp0 : 1 ≤ p) (hW : W ≤ 16) (hH : H ≤ 16) (hp : p ≤ 4) (hm : 1 ≤ m ∧ m ≤ 16) (hn : 1 ≤ n ∧ n ≤ 16) :
    Ev (fun k => laws_FnRepeatImage.j0 k (m : Int) (n : Int) false (W : Int) (H : Int) (p : Int) l (m : Int) (n : Int) (p : Int) (pixelsUpto (repeatF (W : Int) (H : Int) (p : Int) l) m (m * n))) true := by
  have hf : ∀ x y, (repeatF (W : Int) (H : Int) (p : Int) l x y).length = p := fun x y => by
    unfold repeatF
    simp only [Int.toNat_natCast]
    exact repeat_len hl hW0 hH0 x y
  have hUL := pixels_lenp (repeatF (W : Int) (H : Int) (p : Int) l) m p hf (m * n)
  have hU : ∀ x y k, x < m → y < n → k < p → rd (pixelsUpto (repeatF (W : Int) (H : Int) (p : Int) l) m (m * n)) (((y * m + x) * p + k : Nat) : Int) = rd l (((y % H * W + x % W) * p + k : Nat) : Int) := by
    intro x y k hx hy hk
    have hb := pix_lt (p := p) hx hy
    rw [pixelsUpto_get (repeatF (W : Int) (H : Int) (p : Int) l) m p (by omega) hf (m * n) _ (by omega)]
    have e1 : ((y * m + x) * p + k) / p = y * m + x := by rw [Nat.mul_comm, Nat.mul_add_div (by omega), Nat.div_eq_of_lt hk, Nat.add_zero]
    have e2 : ((y * m + x) * p + k) % p = k := by rw [Nat.mul_comm, Nat.mul_add_mod, Nat.mod_eq_of_lt hk]
    have e3 : (y * m + x) / m = y := by rw [Nat.mul_comm, Nat.mul_add_div (by omega), Nat.div_eq_of_lt hx, Nat.add_zero]
    have e4 : (y * m + x) % m = x := by rw [Nat.mul_comm, Nat.mul_add_mod, Nat.mod_eq_of_lt hx]
    rw [e1, e2, e3, e4]
    unfold repeatF
    simp only [Int.toNat_natCast]
    exact pixN_num (Nat.mod_lt _ (by omega)) (Nat.mod_lt _ (by omega)) hk hl
  have hUok : ImgOk (m : Int) (n : Int) (p : Int) (pixelsUpto (repeatF (W : Int) (H : Int) (p : Int) l) m (m * n)) := by
    refine ⟨by omega, by omega, by omega, by rw [hUL]; push_cast; rfl, fun z hz => ?_⟩
    unfold pixelsUpto at hz
    obtain ⟨i, _, hm⟩ := List.mem_flatMap.1 hz
    unfold repeatF at hm
    exact hok.2.2.2.2 z (pixN_mem hm)
  have h1 : impl_RepeatImage.f (W : Int) (H : Int) (p : Int) l (W : Int) (H : Int) = some ((W : Int), (H : Int), (p : Int), l) := by
    unfold impl_RepeatImage.f
    rw [if_pos (show RepeatOk (W : Int) (H : Int) (p : Int) l (W : Int) (H : Int) from ⟨hok, by omega, by omega⟩)]
    simp only [Int.toNat_natCast]
    rw [repeat_self W H p l hl]
  have hlen : l.length ≤ 1024 := hok.len.2
  have q := laws_equalImage.refl (W : Int) (H : Int) (p : Int) l (by omega)
  generalize pixelsUpto (repeatF (W : Int) (H : Int) (p : Int) l) m (m * n) = U at *
  have h2 := impl_CountImage.val (m : Int) (n : Int) (p : Int) U (W : Int) (H : Int) (p : Int) l
  have hd1 : wrap64 (Int.tdiv (m : Int) (W : Int)) = ((m / W : Nat) : Int) := by
    have : m / W ≤ m := Nat.div_le_self _ _
    rw [Int.tdiv_eq_ediv_of_nonneg (by omega), show (m : Int) / (W : Int) = ((m / W : Nat) : Int) from rfl]
    exact wrapNat _ (by omega)
  have hd2 : wrap64 (Int.tdiv (n : Int) (H : Int)) = ((n / H : Nat) : Int) := by
    have : n / H ≤ n := Nat.div_le_self _ _
    clear hd1
    rw [Int.tdiv_eq_ediv_of_nonneg (by omega), show (n : Int) / (H : Int) = ((n / H : Nat) : Int) from rfl]
    exact wrapNat _ (by omega)
  have hd3 : wrap64 (((m / W : Nat) : Int) * ((n / H : Nat) : Int)) = ((m / W * (n / H) : Nat) : Int) := by
    have a1 : m / W * (n / H) ≤ 16 * 16 := Nat.mul_le_mul (Nat.le_trans (Nat.div_le_self _ _) hm.2) (Nat.le_trans (Nat.div_le_self _ _) hn.2)
    clear hd1 hd2
    rw [show ((m / W : Nat) : Int) * ((n / H : Nat) : Int) = ((m / W * (n / H) : Nat) : Int) by push_cast; rfl]
    exact wrapNat _ (by omega)
  refine Ev.step (fun k => by simp only [laws_FnRepeatImage.j0, hd1, hd2, hd3]; rfl) ?_
  clear hd1 hd2 hd3
  refine evNeg (by simp) (evFix h2 (evFix h1 (evBind q (evPos rfl (evIf (fun _ => evRet rfl) (fun g1 => evIf (fun _ => evRet rfl) (fun g2 => evNeg (by omega) (evNeg (by omega) (evRet ?_)))))))))
  have hs : SearchOk (m : Int) (n : Int) (p : Int) U (W : Int) (H : Int) (p : Int) l := ⟨hUok, hok, rfl, by omega, by omega⟩
  rw [countR_at m n p W H U l hs]
  have := repeat_count W H p m n l U hok hl hW0 hH0 hp0 hp (by omega) (by omega) hUL hU
  exact decide_eq_true this
theorem FnRepeatImage : laws_FnRepeatImage.Pure := by
  intro l _ _ hw
  refine Ev.rounds ?_
  obtain ⟨a, b, c, r, u, v, hd0, hlr⟩ := spec_DrawScaleNearest.ev l hw
  have hd : Ev (fun k => spec_DrawRepeatImage.f k l) (a, b, c, r, u, v) := by unfold spec_DrawRepeatImage.f; exact evBind hd0 (evRet rfl)
  have h3 := spec_RepeatImage.ev a b c r u v (by omega)
  have h4 : impl_RepeatImage.f a b c r u v = some (if RepeatOk a b c r u v then (u, v, c, pixelsUpto (repeatF a b c r) u.toNat (u.toNat * v.toNat)) else (0, 0, 0, [])) := rfl
  unfold laws_FnRepeatImage.f
  refine evIf (fun _ => evRet rfl) (fun _ => ?_)
  by_cases hk : RepeatOk a b c r u v
  · rw [if_pos hk] at h3 h4
    obtain ⟨hi, h1, h2⟩ := hk
    obtain ⟨W, H, p, rfl, rfl, rfl, hlen, b1, b2, b3, b4, b5, b6⟩ := hi.nats
    obtain ⟨m, rfl⟩ := Int.eq_ofNat_of_zero_le (show 0 ≤ u by omega)
    obtain ⟨n, rfl⟩ := Int.eq_ofNat_of_zero_le (show 0 ≤ v by omega)
    simp only [Int.toNat_natCast] at h3 h4
    have e := pixels_lenp (repeatF (W : Int) (H : Int) (p : Int) r) m p (fun x y => by unfold repeatF; simp only [Int.toNat_natCast]; exact repeat_len hlen b1 b2 x y) (m * n)
    have e2 : m * n * p ≤ 16 * 16 * 4 := Nat.mul_le_mul (Nat.mul_le_mul (by omega) (by omega)) b6
    have q := laws_equalImage.refl (m : Int) (n : Int) (p : Int) (pixelsUpto (repeatF (W : Int) (H : Int) (p : Int) r) m (m * n)) (by omega)
    have hy := repeat_yes W H p m n r hi hlen b1 b2 b3 b4 b5 b6 (by omega) (by omega)
    refine evBind hd (evFix h4 (evBind h3 (evBind q (evPos rfl ?_))))
    rw [show ((m : Int) == 0) = false from by rw [beq_eq_false_iff_ne]; omega]
    exact hy
  · rw [if_neg hk] at h3 h4
    have q := laws_equalImage.refl 0 0 0 [] (by simp)
    exact evBind hd (evFix h4 (evBind h3 (evBind q (evPos rfl (Ev.step (fun k => by simp only [laws_FnRepeatImage.j0]; rfl) (evPos (by simp) (evBind h3 (evBind q (evRet rfl)))))))))

end Go.Proofs.Ytmaiifghplcjeaa.Pure

/- FnFindImage answers true for every code: the part that is found has the gap that is told, and no other part has a smaller one. No condition. -/
import Derived.Test.YtmaiifghplcjeaaPrintHimplCropImage
import Derived.Test.YtmaiifghplcjeaaPrintHimplFindImage
import Derived.Test.YtmaiifghplcjeaaPrintHimpleachPlace
import Derived.Test.YtmaiifghplcjeaaPrintHimplimageBy
import Derived.Test.YtmaiifghplcjeaaPrintHx0
import Derived.Test.YtmaiifghplcjeaaPrintHx2
import Derived.Test.YtmaiifghplcjeaaPrintLFnFindImage
import Derived.Test.YtmaiifghplcjeaaPrintR0x0
import Derived.Test.YtmaiifghplcjeaaPrintR1x0
import Derived.Test.YtmaiifghplcjeaaPrintR1x1
import Derived.Test.YtmaiifghplcjeaaPrintR1x2
import Derived.Test.YtmaiifghplcjeaaPrintR1x3
import Derived.Test.YtmaiifghplcjeaaPrintR1x4
import Derived.Test.YtmaiifghplcjeaaPrintR1x5
import Derived.Test.YtmaiifghplcjeaaPrintR1x6
import Derived.Test.YtmaiifghplcjeaaPrintR1x7
namespace Go.Proofs.Ytmaiifghplcjeaa.Pure
open Go.RowKit Go.Proofs.Ytmaiifghplcjeaa.Print Go.Proofs.YtmaiifghplcjeaaW.PrintWords Go.Proofs.YtmaiifghplcjeaaW.PrintLast Go.Proofs.YtmaiifghplcjeaaW.PrintMore
set_option linter.unusedVariables false
set_option linter.unusedSimpArgs false
theorem rdN (l : List Int) (k : Nat) (h : k < l.length) : rd l (k : Int) = l[k] := by
  simp [rd, List.getD_eq_getElem?_getD, List.getElem?_eq_getElem h]
theorem drop_cons_ {α : Type} (l : List α) (k : Nat) (h : k < l.length) : l.drop k = l[k] :: l.drop (k + 1) := List.drop_eq_getElem_cons h
/-- A code that a reader reads. -/
def CodeOk (b : List Int) : Prop := b.length ≤ 2000 ∧ ∀ x ∈ b, 0 ≤ x ∧ x ≤ 255
theorem code_rd (b : List Int) (h : CodeOk b) (i : Int) (h0 : 0 ≤ i) (h1 : i < b.length) : 0 ≤ rd b i ∧ rd b i ≤ 255 := by
  obtain ⟨n, rfl⟩ := Int.eq_ofNat_of_zero_le h0
  rw [rdN b n (by omega)]
  exact h.2 _ (List.getElem_mem _)
theorem xor_nonneg (a b : Int) (ha : 0 ≤ a) (ha1 : a < 4611686018427387904) (hb : 0 ≤ b) (hb1 : b < 4611686018427387904) : 0 ≤ Go.bits .xor .i64 a b := by
  obtain ⟨n, rfl⟩ := Int.eq_ofNat_of_zero_le ha
  obtain ⟨m, rfl⟩ := Int.eq_ofNat_of_zero_le hb
  have hx : n ^^^ m < 2 ^ 62 := Nat.xor_lt_two_pow (by omega) (by omega)
  have e : Go.bits .xor .i64 (n : Int) (m : Int) = ((n ^^^ m : Nat) : Int) := by
    have hp : (2 : Nat) ^ IntKind.i64.bits = 18446744073709551616 := by decide
    have ha' : n % 2 ^ IntKind.i64.bits = n := Nat.mod_eq_of_lt (by omega)
    have hb' : m % 2 ^ IntKind.i64.bits = m := Nat.mod_eq_of_lt (by omega)
    simp only [bits, BitVec.ofInt_natCast, BitVec.toNat_xor, BitVec.toNat_ofNat, ha', hb']
    rw [IntKind.wrap_i64]
    omega
  rw [e]
  omega
theorem spec_reader_pick.ev (b : List Int) (h : CodeOk b) (p n : Int) (hp0 : 0 ≤ p) (hp1 : p < 1000000000) (hn : n ≤ 1000000) : ∃ v, Ev (fun k => spec_reader_pick.f k b p n) (v, p + 1) ∧ 0 ≤ v ∧ (v < n ∨ v = 0) := by
  have hw : wrap64 (p + 1) = p + 1 := wrapIn (by omega) (by omega)
  have hw1 : wrap64 (p + 1 - 1) = p := by rw [wrapIn (by omega) (by omega)]; omega
  unfold spec_reader_pick.f
  rw [hw]
  by_cases hn1 : n < 1
  · refine ⟨0, evPos hn1 (Ev.step (fun k => by simp only [spec_reader_pick.j0]; rfl) (evPos (by trivial) (evRet rfl))), by omega, .inr rfl⟩
  by_cases hb : (b.length : Int) = 0
  · refine ⟨0, evNeg hn1 (Ev.step (fun k => by simp only [spec_reader_pick.j0]; rfl) (evPos (by simp [hb]) (evRet rfl))), by omega, .inr rfl⟩
  have hbf : ((b.length : Int) == 0) = false := by simpa using hb
  have hl := h.1
  by_cases hlt : p < (b.length : Int)
  · have hr := code_rd b h p hp0 hlt
    refine ⟨Int.tmod (wrap64 (rd b p)) n, evNeg hn1 (Ev.step (fun k => by simp only [spec_reader_pick.j0, hbf, hw1]; rfl) (evNeg (by simp) (evPos hlt (evPos hp0 (evNeg (by omega) (evRet rfl)))))), ?_, .inl ?_⟩
    · exact Int.tmod_nonneg _ (by rw [wrapIn (by omega) (by omega)]; omega)
    · exact Int.tmod_lt_of_pos _ (by omega)
  · have hm0 : 0 ≤ Int.tmod p (b.length : Int) := Int.tmod_nonneg _ hp0
    have hm1 : Int.tmod p (b.length : Int) < b.length := Int.tmod_lt_of_pos _ (by omega)
    have hq : wrap64 (wrap64 (p * 7) + 3) = p * 7 + 3 := by rw [wrapIn (x := p * 7) (by omega) (by omega), wrapIn (by omega) (by omega)]
    have hk0 : 0 ≤ Int.tmod (p * 7 + 3) (b.length : Int) := Int.tmod_nonneg _ (by omega)
    have hk1 : Int.tmod (p * 7 + 3) (b.length : Int) < b.length := Int.tmod_lt_of_pos _ (by omega)
    have r1 := code_rd b h _ hm0 hm1
    have r2 := code_rd b h _ hk0 hk1
    have hd0 : 0 ≤ Int.tdiv p (b.length : Int) := Int.tdiv_nonneg hp0 (by omega)
    have hd1 : Int.tdiv p (b.length : Int) ≤ p := by
      have := Int.natAbs_tdiv_le_natAbs p (b.length : Int)
      omega
    refine ⟨_, evNeg hn1 (Ev.step (fun k => by simp only [spec_reader_pick.j0, hbf, hw1, hq]; rfl) (evNeg (by simp) (evNeg hlt (evNeg hb (evPos hm0 (evPos hm1 (evPos hk0 (evPos hk1 (evNeg (by omega) (evRet rfl)))))))))), ?_, .inl (Int.tmod_lt_of_pos _ (by omega))⟩
    generalize rd b (Int.tmod p (b.length : Int)) = u at *
    generalize rd b (Int.tmod (p * 7 + 3) (b.length : Int)) = t at *
    generalize Int.tdiv p (b.length : Int) = q at *
    rw [wrapIn (x := u) (by omega) (by omega), wrapIn (x := t) (by omega) (by omega), wrapIn (x := q) (by omega) (by omega), wrapIn (x := u * 131) (by omega) (by omega), wrapIn (x := t * 1117) (by omega) (by omega), wrapIn (x := u * 131 + t * 1117) (by omega) (by omega), wrapIn (x := p * 29) (by omega) (by omega), wrapIn (x := u * 131 + t * 1117 + p * 29) (by omega) (by omega), wrapIn (x := q * 53) (by omega) (by omega), wrapIn (x := u * 131 + t * 1117 + p * 29 + q * 53) (by omega) (by omega)]
    generalize hX : u * 131 + t * 1117 + p * 29 + q * 53 = X
    have hX0 : 0 ≤ X := by omega
    have hX1 : X < 4611686018427387904 := by omega
    have hT0 : 0 ≤ Int.tdiv X 64 := Int.tdiv_nonneg hX0 (by omega)
    have hT1 : Int.tdiv X 64 ≤ X := by
      have := Int.natAbs_tdiv_le_natAbs X 64
      omega
    rw [wrapIn (x := Int.tdiv X 64) (by omega) (by omega)]
    exact Int.tmod_nonneg _ (xor_nonneg _ _ hX0 hX1 hT0 (by omega))
theorem spec_newReader.ev (l : List Int) (hw : ∀ x ∈ l, (Lit.int .u8 x).wf = true) : ∃ b, spec_newReader.f l = some (b, 0) ∧ CodeOk b := by
  have hx : ∀ x ∈ l, 0 ≤ x ∧ x ≤ 255 := fun x hx => by
    have := hw x hx
    have hmin : IntKind.u8.min = 0 := rfl
    have hmax : IntKind.u8.max = 255 := rfl
    simp only [Lit.wf, Bool.and_eq_true, decide_eq_true_eq] at this
    omega
  unfold spec_newReader.f
  by_cases h : (l.length : Int) > 2000
  · rw [if_pos h, if_pos (by omega)]
    exact ⟨_, rfl, by simp; omega, fun x h2 => hx x (List.mem_of_mem_take h2)⟩
  · rw [if_neg h]
    exact ⟨_, rfl, by omega, hx⟩

theorem spec_reader_one.ev (b : List Int) (h : CodeOk b) (p : Int) (hp0 : 0 ≤ p) (hp1 : p < 1000000000) (l : List Int) (hl0 : 0 < l.length) (hl1 : l.length ≤ 1000) : ∃ v, Ev (fun k => spec_reader_one.f k b p l) (v, p + 1) ∧ v ∈ l := by
  obtain ⟨v, hv, h0, h1⟩ := spec_reader_pick.ev b h p (l.length : Int) hp0 hp1 (by omega)
  have hlt : v < l.length := by omega
  refine ⟨rd l v, ?_, ?_⟩
  · unfold spec_reader_one.f
    exact evBind hv (evPos h0 (evPos hlt (evRet rfl)))
  · obtain ⟨n, rfl⟩ := Int.eq_ofNat_of_zero_le h0
    rw [rdN l n (by omega)]
    exact List.getElem_mem _

def Bytes (l : List Int) : Prop := ∀ x ∈ l, 0 ≤ x ∧ x ≤ 255
theorem Bytes.set {l : List Int} (h : Bytes l) (i : Nat) (v : Int) (h0 : 0 ≤ v) (h1 : v ≤ 255) : Bytes (l.set i v) := by
  intro x hx
  rcases List.mem_or_eq_of_mem_set hx with hx | rfl
  · exact h x hx
  · exact ⟨h0, h1⟩
theorem spec_newImage.val (a b c : Int) (ha : 1 ≤ a ∧ a ≤ 16) (hb : 1 ≤ b ∧ b ≤ 16) (hc : 1 ≤ c ∧ c ≤ 4) : spec_newImage.f a b c = some (a, b, c, List.replicate (a * b * c).toNat 0) := by
  obtain ⟨h1, h2, h3, h4⟩ := shape_prod ha hb hc
  unfold spec_newImage.f
  rw [shape_wrap ha hb hc, if_pos (by omega), if_pos (by omega)]
theorem spec_randomImage.ev_l0 (b : List Int) (h : CodeOk b) (kind W H n : Int) (N : Nat) (hN : N ≤ 100000) (d : Nat) : ∀ (i : Nat) (at_ p : Int) (l : List Int), l.length = N → i ≤ N → N - i = d → 0 ≤ at_ → at_ ≤ 255 → Bytes l → 0 ≤ p → p + d < 1000000000 →
    ∃ l' q, Ev (fun k => spec_randomImage.l0 k kind at_ (i : Int) b p W H n l) (W, H, n, l', q) ∧ l'.length = N ∧ Bytes l' ∧ p ≤ q ∧ q ≤ p + d := by
  induction d with
  | zero =>
    intro i at_ p l hl hi hd _ _ hb hp _
    exact ⟨l, p, Ev.step (fun k => by simp only [spec_randomImage.l0]; rfl) (evNeg (by omega) (evRet rfl)), hl, hb, by omega, by omega⟩
  | succ d ih =>
    intro i at_ p l hl hi hd h0 h1 hb hp hpd
    have hlt : (i : Int) < (l.length : Int) := by omega
    by_cases k0 : kind = 0
    · obtain ⟨v, hv, v0, v1⟩ := spec_reader_pick.ev b h p 256 hp (by omega) (by omega)
      obtain ⟨l', q, he, e1, e2, e3, e4⟩ := ih (i + 1) v (p + 1) (l.set (i : Int).toNat v) (by simpa using hl) (by omega) (by omega) v0 (by omega) (hb.set _ v v0 (by omega)) (by omega) (by omega)
      refine ⟨l', q, Ev.step (fun k => by simp only [spec_randomImage.l0, wrapSucc i (by omega)]; rfl) (evPos hlt (evPos k0 (evBind hv ?_))), e1, e2, by omega, by omega⟩
      exact evPos (show (0 : Int) ≤ (i : Int) by omega) he
    by_cases k1 : kind = 1
    · obtain ⟨v, hv, v0, v1⟩ := spec_reader_pick.ev b h p 5 hp (by omega) (by omega)
      have hw : wrap64 (wrap64 (at_ + v) + 254) = at_ + v + 254 := by rw [wrapIn (x := at_ + v) (by omega) (by omega), wrapIn (by omega) (by omega)]
      have t0 := Int.tmod_nonneg 256 (show 0 ≤ at_ + v + 254 by omega)
      have t1 := Int.tmod_lt_of_pos (at_ + v + 254) (show (0 : Int) < 256 by omega)
      obtain ⟨l', q, he, e1, e2, e3, e4⟩ := ih (i + 1) (Int.tmod (at_ + v + 254) 256) (p + 1) (l.set (i : Int).toNat (Int.tmod (at_ + v + 254) 256)) (by simpa using hl) (by omega) (by omega) t0 (by omega) (hb.set _ _ t0 (by omega)) (by omega) (by omega)
      refine ⟨l', q, Ev.step (fun k => by simp only [spec_randomImage.l0, wrapSucc i (by omega)]; rfl) (evPos hlt (evNeg k0 (evPos k1 (evBind hv ?_)))), e1, e2, by omega, by omega⟩
      simp only [hw]
      exact evPos (show (0 : Int) ≤ (i : Int) by omega) he
    by_cases k2 : kind = 2
    · obtain ⟨v, hv, v0, v1⟩ := spec_reader_pick.ev b h p 4 hp (by omega) (by omega)
      have hw : wrap64 (60 * v) = 60 * v := wrapIn (by omega) (by omega)
      obtain ⟨l', q, he, e1, e2, e3, e4⟩ := ih (i + 1) (60 * v) (p + 1) (l.set (i : Int).toNat (60 * v)) (by simpa using hl) (by omega) (by omega) (by omega) (by omega) (hb.set _ _ (by omega) (by omega)) (by omega) (by omega)
      refine ⟨l', q, Ev.step (fun k => by simp only [spec_randomImage.l0, wrapSucc i (by omega)]; rfl) (evPos hlt (evNeg k0 (evNeg k1 (evPos k2 (evBind hv ?_))))), e1, e2, by omega, by omega⟩
      simp only [hw]
      exact evPos (show (0 : Int) ≤ (i : Int) by omega) he
    · obtain ⟨l', q, he, e1, e2, e3, e4⟩ := ih (i + 1) at_ p (l.set (i : Int).toNat at_) (by simpa using hl) (by omega) (by omega) h0 h1 (hb.set _ _ h0 h1) (by omega) (by omega)
      exact ⟨l', q, Ev.step (fun k => by simp only [spec_randomImage.l0, wrapSucc i (by omega)]; rfl) (evPos hlt (evNeg k0 (evNeg k1 (evNeg k2 (evPos (by omega) he))))), e1, e2, by omega, by omega⟩
theorem spec_randomImage.ev (b : List Int) (h : CodeOk b) (p : Int) (hp0 : 0 ≤ p) (hp1 : p < 900000000) (n : Int) (hn : 1 ≤ n ∧ n ≤ 4) :
    ∃ W H l q, Ev (fun k => spec_randomImage.f k b p n) (W, H, n, l, q) ∧ ImgOk W H n l ∧ W ≤ 8 ∧ H ≤ 8 ∧ p ≤ q ∧ q ≤ p + 2000 := by
  obtain ⟨W, hW, mW⟩ := spec_reader_one.ev b h p hp0 (by omega) [3, 4, 2, 5, 1, 8, 6] (by simp) (by simp)
  obtain ⟨H, hH, mH⟩ := spec_reader_one.ev b h (p + 1) (by omega) (by omega) [3, 2, 4, 1, 5, 8] (by simp) (by simp)
  obtain ⟨kd, hk, k0, k1⟩ := spec_reader_pick.ev b h (p + 1 + 1) 4 (by omega) (by omega) (by omega)
  obtain ⟨at_, ha, a0, a1⟩ := spec_reader_pick.ev b h (p + 1 + 1 + 1) 256 (by omega) (by omega) (by omega)
  have bW : 1 ≤ W ∧ W ≤ 8 := by
    simp only [List.mem_cons, List.mem_nil_iff, or_false] at mW
    omega
  have bH : 1 ≤ H ∧ H ≤ 8 := by
    simp only [List.mem_cons, List.mem_nil_iff, or_false] at mH
    omega
  have hI := spec_newImage.val W H n ⟨bW.1, by omega⟩ ⟨bH.1, by omega⟩ hn
  obtain ⟨_, _, h3, h4⟩ := shape_prod (a := W) (b := H) (c := n) ⟨bW.1, by omega⟩ ⟨bH.1, by omega⟩ hn
  obtain ⟨l', q, he, e1, e2, e3, e4⟩ := spec_randomImage.ev_l0 b h kd W H n (W * H * n).toNat (by omega) (W * H * n).toNat 0 at_ (p + 1 + 1 + 1 + 1) (List.replicate (W * H * n).toNat 0) (by simp) (by omega) (by omega) a0 (by omega)
    (fun x hx => by rw [List.mem_replicate] at hx; omega) (by omega) (by omega)
  refine ⟨W, H, l', q, ?_, ⟨⟨bW.1, by omega⟩, ⟨bH.1, by omega⟩, hn, by omega, e2⟩, bW.2, bH.2, by omega, by omega⟩
  unfold spec_randomImage.f
  exact evBind hW (evBind hH (evFix hI (evBind hk (evBind ha he))))
theorem spec_spoilImage.ev (b : List Int) (h : CodeOk b) (p : Int) (hp0 : 0 ≤ p) (hp1 : p < 900000000) (W H n : Int) (l : List Int) (hl : 0 < l.length) :
    ∃ W' H' n' l' q, Ev (fun k => spec_spoilImage.f k b p W H n l) (W', H', n', l', q) ∧ l'.length ≤ l.length ∧ p ≤ q ∧ q ≤ p + 2 := by
  obtain ⟨v, hv, v0, v1⟩ := spec_reader_pick.ev b h p 40 hp0 (by omega) (by omega)
  unfold spec_spoilImage.f
  by_cases e0 : v = 0
  · obtain ⟨u, hu, _⟩ := spec_reader_one.ev b h (p + 1) (by omega) (by omega) [0, 17, wrap64 (W + 1)] (by simp) (by simp)
    exact ⟨u, H, n, l, p + 1 + 1, evBind hv (evPos e0 (evBind hu (evRet rfl))), by omega, by omega, by omega⟩
  by_cases e1 : v = 1
  · exact ⟨W, H, n, l.drop (1 : Int).toNat, p + 1, evBind hv (evNeg e0 (evPos e1 (evPos (by omega) (evRet rfl)))), by simp, by omega, by omega⟩
  by_cases e2 : v = 2
  · obtain ⟨u, hu, _⟩ := spec_reader_one.ev b h (p + 1) (by omega) (by omega) [-1, 256] (by simp) (by simp)
    exact ⟨W, H, n, l.set (0 : Int).toNat u, p + 1 + 1, evBind hv (evNeg e0 (evNeg e1 (evPos e2 (evBind hu (evPos (by omega) (evRet rfl)))))), by simp, by omega, by omega⟩
  by_cases e3 : v = 3
  · obtain ⟨u, hu, _⟩ := spec_reader_one.ev b h (p + 1) (by omega) (by omega) [0, 5] (by simp) (by simp)
    exact ⟨W, H, u, l, p + 1 + 1, evBind hv (evNeg e0 (evNeg e1 (evNeg e2 (evPos e3 (evBind hu (evRet rfl)))))), by omega, by omega, by omega⟩
  · exact ⟨W, H, n, l, p + 1, evBind hv (evNeg e0 (evNeg e1 (evNeg e2 (evNeg e3 (evRet rfl))))), by omega, by omega, by omega⟩
theorem spec_anyPlanes.ev (b : List Int) (h : CodeOk b) (p : Int) (hp0 : 0 ≤ p) (hp1 : p < 900000000) : ∃ n, Ev (fun k => spec_anyPlanes.f k b p) (n, p + 1) ∧ 1 ≤ n ∧ n ≤ 4 := by
  obtain ⟨u, hu, mu⟩ := spec_reader_one.ev b h p hp0 (by omega) [1, 3, 1, 4, 2] (by simp) (by simp)
  refine ⟨u, ?_, ?_⟩
  · unfold spec_anyPlanes.f
    exact evBind hu (evRet rfl)
  · simp only [List.mem_cons, List.mem_nil_iff, or_false] at mu
    omega
theorem spec_anyImage.ev (b : List Int) (h : CodeOk b) (p : Int) (hp0 : 0 ≤ p) (hp1 : p < 800000000) : ∃ W H n l q, Ev (fun k => spec_anyImage.f k b p) (W, H, n, l, q) ∧ l.length ≤ 1024 ∧ p ≤ q ∧ q ≤ p + 3000 := by
  obtain ⟨n, hn, n0, n1⟩ := spec_anyPlanes.ev b h p hp0 (by omega)
  obtain ⟨W, H, l, q, hr, ok, _, _, q0, q1⟩ := spec_randomImage.ev b h (p + 1) (by omega) (by omega) n ⟨n0, n1⟩
  obtain ⟨W', H', n', l', q', hs, e1, e2, e3⟩ := spec_spoilImage.ev b h q (by omega) (by omega) W H n l ok.len.1
  refine ⟨W', H', n', l', q', ?_, by have := ok.len.2; omega, by omega, by omega⟩
  unfold spec_anyImage.f
  exact evBind hn (evBind hr (evBind hs (evRet rfl)))

theorem spec_copyInts.val (l : List Int) (h : l.length < 17592186044416) : spec_copyInts.f l = some l := by
  unfold spec_copyInts.f
  simp [h]

theorem place_wrap (W p x y : Nat) (hW : W ≤ 16) (hp : p ≤ 4) (hx : x ≤ 16) (hy : y ≤ 16) : wrap64 (wrap64 (wrap64 ((y : Int) * (W : Int)) + (x : Int)) * (p : Int)) = (((y * W + x) * p : Nat) : Int) := by
  have h1 : y * W ≤ 16 * 16 := Nat.mul_le_mul hy hW
  have h2 : (y * W + x) * p ≤ 272 * 4 := Nat.mul_le_mul (by omega) hp
  have e1 : (y : Int) * (W : Int) = ((y * W : Nat) : Int) := by push_cast; rfl
  have e2 : ((y * W + x : Nat) : Int) * (p : Int) = (((y * W + x) * p : Nat) : Int) := by push_cast; rfl
  rw [e1, wrapNat (y * W) (by omega), show ((y * W : Nat) : Int) + (x : Int) = ((y * W + x : Nat) : Int) by omega, wrapNat (y * W + x) (by omega), e2, wrapNat _ (by omega)]
theorem spec_pixelAt.val (W H p : Nat) (l : List Int) (x y : Nat) (hl : l.length = W * H * p) (hW : W ≤ 16) (hH : H ≤ 16) (hp : p ≤ 4) (hx : x < W) (hy : y < H) : spec_pixelAt.f (W : Int) (H : Int) (p : Int) l (x : Int) (y : Int) = some (pixN W p l x y) := by
  have h := pix_lt (p := p) hx hy
  rw [← hl] at h
  have hlen := pixN_length hx hy hl
  have h2 : (y * W + x) * p ≤ 272 * 4 := Nat.mul_le_mul (by have : y * W ≤ 16 * 16 := Nat.mul_le_mul (by omega) hW; omega) hp
  unfold spec_pixelAt.f
  rw [place_wrap W p x y hW hp (by omega) (by omega)]
  have e : wrap64 ((((y * W + x) * p : Nat) : Int) + (p : Int)) = (((y * W + x) * p + p : Nat) : Int) := by rw [wrapIn (by omega) (by omega)]; omega
  rw [e, if_pos (by omega), if_pos (by omega), if_pos (by omega), Int.toNat_natCast, Int.toNat_natCast]
  have hc := spec_copyInts.val (pixN W p l x y) (by omega)
  unfold pixN at hc ⊢
  rw [hc]
  rfl
/-- A list with a pixel's numbers put in. -/
def putPix (l px : List Int) (i : Nat) : List Int := l.take i ++ px ++ l.drop (i + px.length)
theorem putPix_upto (l px : List Int) (i q : Nat) (hi : i + px.length ≤ l.length) (hq : q < px.length) : (putPix l (px.take q) i).set (i + q) px[q] = putPix l (px.take (q + 1)) i := by
  unfold putPix
  have e1 : (l.take i).length = i := by rw [List.length_take]; omega
  have e2 : (px.take q).length = q := by rw [List.length_take]; omega
  have e3 : (px.take (q + 1)).length = q + 1 := by rw [List.length_take]; omega
  rw [e2, e3, List.set_append_right _ _ (by rw [List.length_append, e1, e2]; omega), List.length_append, e1, e2, Nat.sub_self, List.drop_eq_getElem_cons (show i + q < l.length by omega), List.set_cons_zero, List.take_succ_eq_append_getElem hq]
  simp only [List.append_assoc, List.singleton_append, Nat.add_assoc]
theorem putPix_length (l px : List Int) (i : Nat) (hi : i + px.length ≤ l.length) : (putPix l px i).length = l.length := by
  unfold putPix
  simp only [List.length_append, List.length_take, List.length_drop]
  omega
theorem putPix_nil (l : List Int) (i : Nat) : putPix l [] i = l := by unfold putPix; simp
theorem spec_setPixel.ev_l0 (W H p i : Nat) (l px : List Int) (x y : Nat) (hpx : px.length = p) (hl : i + p ≤ l.length) (hi : i ≤ 4096) (hp : p ≤ 4) (hw : wrap64 (wrap64 (wrap64 ((y : Int) * (W : Int)) + (x : Int)) * (p : Int)) = (i : Int)) (d : Nat) : ∀ q, q ≤ p → p - q = d →
    Ev (fun k => spec_setPixel.l0 k (x : Int) (y : Int) px (q : Int) (W : Int) (H : Int) (p : Int) (putPix l (px.take q) i)) (putPix l px i) := by
  induction d with
  | zero =>
    intro q hq hd
    refine Ev.step (fun k => by simp only [spec_setPixel.l0]; rfl) (evNeg (by clear hw; omega) (evRet ?_))
    rw [List.take_of_length_le (by clear hw; omega)]
  | succ d ih =>
    intro q hq hd
    have hn := ih (q + 1) (by clear hw ih; omega) (by clear hw ih; omega)
    clear ih
    have hlt : q < px.length := by clear hw; omega
    have hs := putPix_upto l px i q (by clear hw; omega) hlt
    have hle : (putPix l (px.take q) i).length = l.length := putPix_length _ _ _ (by rw [List.length_take]; clear hw; omega)
    have e : wrap64 ((i : Int) + (q : Int)) = ((i + q : Nat) : Int) := by rw [wrapIn (by clear hw; omega) (by clear hw; omega)]; rfl
    refine Ev.step (g := fun k => spec_setPixel.l0 k (x : Int) (y : Int) px (q : Int) (W : Int) (H : Int) (p : Int) (putPix l (px.take q) i)) (f := fun k => spec_setPixel.l0 k (x : Int) (y : Int) px ((q + 1 : Nat) : Int) (W : Int) (H : Int) (p : Int) (putPix l (px.take (q + 1)) i)) (fun k => ?_) hn
    simp only [spec_setPixel.l0]
    rw [hw, e]
    clear hw e hn
    rw [if_pos (show (q : Int) < (p : Int) by omega), if_pos (show (0 : Int) ≤ (q : Int) by omega), if_pos (show (q : Int) < (px.length : Int) by omega), if_pos (show (0 : Int) ≤ ((i + q : Nat) : Int) by omega), if_pos (show ((i + q : Nat) : Int) < ((putPix l (px.take q) i).length : Int) by omega), Int.toNat_natCast, rdN px q hlt, hs, wrapSucc q (by omega)]
theorem spec_setPixel.ev (W H p : Nat) (l px : List Int) (x y : Nat) (hpx : px.length = p) (hl : (y * W + x) * p + p ≤ l.length) (hW : W ≤ 16) (hp : p ≤ 4) (hx : x ≤ 15) (hy : y ≤ 15) :
    Ev (fun k => spec_setPixel.f k (W : Int) (H : Int) (p : Int) l (x : Int) (y : Int) px) (putPix l px ((y * W + x) * p)) := by
  have h2 : (y * W + x) * p ≤ 272 * 4 := Nat.mul_le_mul (by have : y * W ≤ 16 * 16 := Nat.mul_le_mul (by omega) hW; omega) hp
  have h := spec_setPixel.ev_l0 W H p ((y * W + x) * p) l px x y hpx hl (by omega) hp (place_wrap W p x y hW hp (by omega) (by omega)) p 0 (by omega) (by omega)
  rw [List.take_zero, putPix_nil] at h
  unfold spec_setPixel.f
  exact h
/-- An image that is being filled, pixel by pixel. -/
def fillTo (f : Nat → Nat → List Int) (W p N n : Nat) : List Int := pixelsUpto f W n ++ List.replicate ((N - n) * p) 0
theorem pixels_len (f : Nat → Nat → List Int) (W H p : Nat) (hf : ∀ x y, x < W → y < H → (f x y).length = p) (n : Nat) (hn : n ≤ W * H) : (pixelsUpto f W n).length = n * p := by
  induction n with
  | zero => simp [pixelsUpto]
  | succ n ih =>
    have h1 := ih (by omega)
    have hW : 0 < W := by
      rcases Nat.eq_zero_or_pos W with h | h
      · subst h; omega
      · exact h
    unfold pixelsUpto at h1 ⊢
    rw [List.range_succ, List.flatMap_append, List.length_append, h1]
    have h2 := hf (n % W) (n / W) (Nat.mod_lt _ hW) (by rw [Nat.div_lt_iff_lt_mul hW, Nat.mul_comm]; omega)
    rw [List.flatMap_cons, List.flatMap_nil, List.append_nil, h2, Nat.succ_mul]
theorem fillTo_zero (f : Nat → Nat → List Int) (W p N : Nat) : fillTo f W p N 0 = List.replicate (N * p) 0 := by simp [fillTo, pixelsUpto]
theorem fillTo_all (f : Nat → Nat → List Int) (W p N : Nat) : fillTo f W p N N = pixelsUpto f W N := by simp [fillTo]
theorem fillTo_len (f : Nat → Nat → List Int) (W H p : Nat) (hf : ∀ x y, x < W → y < H → (f x y).length = p) (n : Nat) (hn : n ≤ W * H) : (fillTo f W p (W * H) n).length = W * H * p := by
  unfold fillTo
  rw [List.length_append, pixels_len f W H p hf n hn, List.length_replicate, ← Nat.add_mul]
  congr 1
  omega
theorem row_lt {W H x y : Nat} (hx : x < W) (hy : y < H) : W * y + x < W * H := by
  have : W * (y + 1) ≤ W * H := Nat.mul_le_mul_left _ hy
  rw [Nat.mul_succ] at this
  omega
theorem fillTo_put (f : Nat → Nat → List Int) (W H p : Nat) (hf : ∀ x y, x < W → y < H → (f x y).length = p) (x y : Nat) (hx : x < W) (hy : y < H) :
    putPix (fillTo f W p (W * H) (W * y + x)) (f x y) ((y * W + x) * p) = fillTo f W p (W * H) (W * y + x + 1) := by
  have hlt := row_lt hx hy
  have hlen := pixels_len f W H p hf (W * y + x) (by omega)
  unfold putPix fillTo
  rw [Nat.mul_comm y W, hf x y hx hy, List.take_append_of_le_length (by omega), List.take_of_length_le (by omega), List.drop_append, hlen, List.drop_eq_nil_of_le (by omega), pixelsUpto_snoc f W x y hx, List.nil_append]
  congr 1
  rw [show (W * y + x) * p + p - (W * y + x) * p = p by omega, List.drop_replicate]
  congr 1
  rw [show W * H - (W * y + x) = (W * H - (W * y + x + 1)) + 1 by omega, Nat.succ_mul]
  omega

theorem wrapAddN (a b : Nat) (ha : a ≤ 1000) (hb : b ≤ 1000) : wrap64 ((a : Int) + (b : Int)) = ((a + b : Nat) : Int) := by rw [wrapIn (by omega) (by omega)]; omega
theorem crop_len {W H p u v X Y : Nat} {l : List Int} (hl : l.length = W * H * p) (hX : X + u ≤ W) (hY : Y + v ≤ H) (x y : Nat) (hx : x < u) (hy : y < v) : (pixN W p l (X + x) (Y + y)).length = p := pixN_length (by omega) (by omega) hl
theorem spec_crop.ev_l1 (W H p u v X Y : Nat) (l : List Int) (hl : l.length = W * H * p) (hW : W ≤ 16) (hH : H ≤ 16) (hp : p ≤ 4) (hX : X + u ≤ W) (hY : Y + v ≤ H) (y : Nat) (hy : y < v) (R : Int × Int × Int × List Int)
    (hR : Ev (fun k => spec_crop.l0 k (X : Int) (Y : Int) (u : Int) (v : Int) (wrap64 ((y : Int) + 1)) W H p l u v p (fillTo (fun x y => pixN W p l (X + x) (Y + y)) u p (u * v) (u * (y + 1)))) R) (d : Nat) : ∀ x, x ≤ u → u - x = d →
    Ev (fun k => spec_crop.l1 k (X : Int) (Y : Int) (u : Int) (v : Int) (y : Int) (x : Int) W H p l u v p (fillTo (fun x y => pixN W p l (X + x) (Y + y)) u p (u * v) (u * y + x))) R := by
  induction d with
  | zero =>
    intro x hx hd
    refine Ev.step (fun k => by simp only [spec_crop.l1]; rfl) (evNeg (by omega) ?_)
    rw [show u * y + x = u * (y + 1) by rw [Nat.mul_succ]; omega]
    exact hR
  | succ d ih =>
    intro x hx hd
    have hlt : x < u := by omega
    have h1 := spec_pixelAt.val W H p l (X + x) (Y + y) hl hW hH hp (by omega) (by omega)
    have hf : ∀ x y, x < u → y < v → (pixN W p l (X + x) (Y + y)).length = p := crop_len hl hX hY
    have hr := row_lt hlt hy
    have hle := fillTo_len (fun x y => pixN W p l (X + x) (Y + y)) u v p hf (u * y + x) (by omega)
    have h2 := spec_setPixel.ev u v p (fillTo (fun x y => pixN W p l (X + x) (Y + y)) u p (u * v) (u * y + x)) (pixN W p l (X + x) (Y + y)) x y (hf x y hlt hy) (by rw [hle]; exact pix_lt hlt hy) (by omega) hp (by omega) (by omega)
    rw [fillTo_put (fun x y => pixN W p l (X + x) (Y + y)) u v p hf x y hlt hy] at h2
    refine Ev.step (fun k => by simp only [spec_crop.l1, wrapAddN X x (by omega) (by omega), wrapAddN Y y (by omega) (by omega), wrapSucc x (by omega)]; rfl) ?_
    refine evPos (by omega) (evFix h1 (evBind h2 ?_))
    exact ih (x + 1) (by omega) (by omega)
theorem spec_crop.ev_l0 (W H p u v X Y : Nat) (l : List Int) (hl : l.length = W * H * p) (hW : W ≤ 16) (hH : H ≤ 16) (hp : p ≤ 4) (hX : X + u ≤ W) (hY : Y + v ≤ H) (d : Nat) : ∀ y, y ≤ v → v - y = d →
    Ev (fun k => spec_crop.l0 k (X : Int) (Y : Int) (u : Int) (v : Int) (y : Int) W H p l u v p (fillTo (fun x y => pixN W p l (X + x) (Y + y)) u p (u * v) (u * y))) ((u : Int), (v : Int), (p : Int), pixelsUpto (fun x y => pixN W p l (X + x) (Y + y)) u (u * v)) := by
  induction d with
  | zero =>
    intro y hy hd
    refine Ev.step (fun k => by simp only [spec_crop.l0]; rfl) (evNeg (by omega) (evRet ?_))
    rw [show y = v by omega, fillTo_all]
  | succ d ih =>
    intro y hy hd
    have h := ih (y + 1) (by omega) (by omega)
    rw [← wrapSucc y (by omega)] at h
    refine Ev.step (fun k => by simp only [spec_crop.l0]; rfl) (evPos (by omega) ?_)
    exact spec_crop.ev_l1 W H p u v X Y l hl hW hH hp hX hY y (by omega) _ h u 0 (by omega) (by omega)
theorem spec_crop.ev (W H p u v X Y : Nat) (l : List Int) (hl : l.length = W * H * p) (hW : W ≤ 16) (hH : H ≤ 16) (hp0 : 1 ≤ p) (hp : p ≤ 4) (hu : 1 ≤ u) (hv : 1 ≤ v) (hX : X + u ≤ W) (hY : Y + v ≤ H) :
    Ev (fun k => spec_crop.f k (W : Int) (H : Int) (p : Int) l (X : Int) (Y : Int) (u : Int) (v : Int)) ((u : Int), (v : Int), (p : Int), pixelsUpto (fun x y => pixN W p l (X + x) (Y + y)) u (u * v)) := by
  have hn := spec_newImage.val (u : Int) (v : Int) (p : Int) (by omega) (by omega) (by omega)
  have h4 := spec_crop.ev_l0 W H p u v X Y l hl hW hH hp hX hY v 0 (by omega) (by omega)
  rw [Nat.mul_zero, fillTo_zero] at h4
  have e : ((u : Int) * (v : Int) * (p : Int)).toNat = u * v * p := by
    rw [show (u : Int) * (v : Int) * (p : Int) = ((u * v * p : Nat) : Int) by push_cast; rfl, Int.toNat_natCast]
  unfold spec_crop.f
  refine evFix hn ?_
  simp only [e]
  exact h4

theorem inRange_val (a lo hi : Int) : spec_inRange.f a lo hi = some (decide (lo ≤ a ∧ a ≤ hi)) := by
  unfold spec_inRange.f
  split
  · rename_i h; simp [h]
  · rename_i h; simp [h]

/-- All numbers of a list lie in a range. -/
def allB (lo hi : Int) (l : List Int) : Bool := l.all fun x => decide (lo ≤ x ∧ x ≤ hi)
theorem allB_iff (lo hi : Int) (l : List Int) : allB lo hi l = true ↔ ∀ x ∈ l, lo ≤ x ∧ x ≤ hi := by
  unfold allB
  rw [List.all_eq_true]
  simp only [decide_eq_true_eq]
theorem spec_allIn.ev_l0 (l : List Int) (lo hi : Int) (hl : l.length ≤ 9223372036854775806) (d : Nat) : ∀ i, i ≤ l.length → l.length - i = d →
    Ev (fun k => spec_allIn.l0 k l lo hi (i : Int)) (allB lo hi (l.drop i)) := by
  induction d with
  | zero =>
    intro i hi' hd
    refine Ev.step (fun k => by simp only [spec_allIn.l0]; rfl) (evNeg (by omega) (evRet ?_))
    rw [List.drop_of_length_le (by omega)]
    rfl
  | succ d ih =>
    intro i hi' hd
    have hw : wrap64 ((i : Int) + 1) = ((i + 1 : Nat) : Int) := wrapSucc i (by omega)
    refine Ev.step (fun k => by simp only [spec_allIn.l0, hw]; rfl) (evPos (by omega) (evPos (by omega) ?_))
    rw [rdN l i (by omega), drop_cons_ l i (by omega)]
    have hr : spec_inRange.f l[i] lo hi = some (decide (lo ≤ l[i] ∧ l[i] ≤ hi)) := by
      unfold spec_inRange.f
      split
      · rename_i h; simp [h]
      · rename_i h; simp [h]
    have e : allB lo hi (l[i] :: l.drop (i + 1)) = (decide (lo ≤ l[i] ∧ l[i] ≤ hi) && allB lo hi (l.drop (i + 1))) := by
      unfold allB
      rw [List.all_cons]
    rw [e]
    refine evFix hr (evIf (fun h => ?_) (fun h => evRet ?_))
    · rw [h, Bool.true_and]
      exact ih (i + 1) (by omega) (by omega)
    · rw [Bool.eq_false_iff.mpr h, Bool.false_and]
theorem spec_allIn.ev (l : List Int) (lo hi : Int) (hl : l.length ≤ 9223372036854775806) : Ev (fun k => spec_allIn.f k l lo hi) (allB lo hi l) := by
  have := spec_allIn.ev_l0 l lo hi hl l.length 0 (by omega) (by omega)
  unfold spec_allIn.f
  simpa using this

theorem spec_validShape.val (a b c : Int) : spec_validShape.f a b c = some (decide ((1 ≤ a ∧ a ≤ 16) ∧ (1 ≤ b ∧ b ≤ 16) ∧ (1 ≤ c ∧ c ≤ 4))) := by
  unfold spec_validShape.f
  rw [inRange_val, inRange_val, inRange_val]
  simp only [Option.bind_some, decide_eq_true_eq]
  by_cases h1 : 1 ≤ a ∧ a ≤ 16
  · rw [if_pos h1]
    by_cases h2 : 1 ≤ b ∧ b ≤ 16
    · rw [if_pos h2]
      congr 1
      rw [Bool.eq_iff_iff]
      simp only [decide_eq_true_eq]
      exact ⟨fun h => ⟨h1, h2, h⟩, fun h => h.2.2⟩
    · rw [if_neg h2, decide_eq_false (fun h => h2 h.2.1)]
  · rw [if_neg h1, decide_eq_false (fun h => h1 h.1)]
theorem allB_bytes (l : List Int) : allB 0 255 l = decide (∀ x ∈ l, 0 ≤ x ∧ x ≤ 255) := by
  rw [Bool.eq_iff_iff, allB_iff, decide_eq_true_eq]
theorem spec_validImage.ev (a b c : Int) (l : List Int) (hl : l.length ≤ 9223372036854775806) : Ev (fun k => spec_validImage.f k a b c l) (decide (ImgOk a b c l)) := by
  unfold spec_validImage.f
  refine evFix (spec_validShape.val a b c) ?_
  by_cases h : (1 ≤ a ∧ a ≤ 16) ∧ (1 ≤ b ∧ b ≤ 16) ∧ (1 ≤ c ∧ c ≤ 4)
  · refine evPos (decide_eq_true h) ?_
    rw [shape_wrap h.1 h.2.1 h.2.2]
    by_cases h2 : (l.length : Int) = a * b * c
    · refine evPos h2 ?_
      have h3 := spec_allIn.ev l 0 255 hl
      refine evBind h3 (evRet ?_)
      rw [allB_bytes, Bool.eq_iff_iff]
      simp only [decide_eq_true_eq]
      exact ⟨fun h3 => ⟨h.1, h.2.1, h.2.2, h2, h3⟩, fun hh => hh.2.2.2.2⟩
    · exact evNeg h2 (evRet (decide_eq_false (fun hh : ImgOk a b c l => h2 hh.2.2.2.1)).symm)
  · exact evNeg (by rw [decide_eq_false h]; simp) (evRet (decide_eq_false (fun hh : ImgOk a b c l => h ⟨hh.1, hh.2.1, hh.2.2.1⟩)).symm)

theorem spec_anyBox.ev (b : List Int) (h : CodeOk b) (p : Int) (hp0 : 0 ≤ p) (hp1 : p < 800000000) : ∃ x y u v, Ev (fun k => spec_anyBox.f k b p) (x, y, u, v, p + 1 + 1 + 1 + 1) := by
  obtain ⟨x, hx, _⟩ := spec_reader_one.ev b h p hp0 (by omega) [0, 1, 2, (-1), 0, 4] (by simp) (by simp)
  obtain ⟨y, hy, _⟩ := spec_reader_one.ev b h (p + 1) (by omega) (by omega) [0, 1, 0, 2, (-1)] (by simp) (by simp)
  obtain ⟨u, hu, _⟩ := spec_reader_one.ev b h (p + 1 + 1) (by omega) (by omega) [1, 2, 3, 1, 0, 16] (by simp) (by simp)
  obtain ⟨v, hv, _⟩ := spec_reader_one.ev b h (p + 1 + 1 + 1) (by omega) (by omega) [1, 2, 1, 3, 0] (by simp) (by simp)
  exact ⟨x, y, u, v, by unfold spec_anyBox.f; exact evBind hx (evBind hy (evBind hu (evBind hv (evRet rfl))))⟩
theorem spec_validBox.any (W H : Nat) (c : Int) (l : List Int) (x y u v : Int) (hW : 1 ≤ W ∧ W ≤ 16) (hH : 1 ≤ H ∧ H ≤ 16) : ∃ t, spec_validBox.f (W : Int) (H : Int) c l x y u v = some t ∧ (t = true → 0 ≤ x ∧ 0 ≤ y ∧ 1 ≤ u ∧ 1 ≤ v ∧ x + u ≤ W ∧ y + v ≤ H) := by
  unfold spec_validBox.f
  rw [wrapIn (x := (W : Int) - 1) (by omega) (by omega), wrapIn (x := (H : Int) - 1) (by omega) (by omega), inRange_val, inRange_val]
  simp only [Option.bind_some, decide_eq_true_eq]
  by_cases h1 : 0 ≤ x ∧ x ≤ (W : Int) - 1
  · rw [if_pos h1]
    by_cases h2 : 0 ≤ y ∧ y ≤ (H : Int) - 1
    · rw [if_pos h2, wrapIn (x := (W : Int) - x) (by omega) (by omega), wrapIn (x := (H : Int) - y) (by omega) (by omega), inRange_val, inRange_val]
      simp only [Option.bind_some, decide_eq_true_eq]
      by_cases h3 : 1 ≤ u ∧ u ≤ (W : Int) - x
      · rw [if_pos h3]
        refine ⟨_, rfl, fun h4 => ?_⟩
        rw [decide_eq_true_eq] at h4
        omega
      · rw [if_neg h3]
        exact ⟨false, rfl, fun h => by cases h⟩
    · rw [if_neg h2]
      exact ⟨false, rfl, fun h => by cases h⟩
  · rw [if_neg h1]
    exact ⟨false, rfl, fun h => by cases h⟩
theorem spec_CropImage.any (a b c : Int) (l : List Int) (hl : l.length ≤ 1024) (x y u v : Int) : ∃ W H n r t, Ev (fun k => spec_CropImage.f k a b c l x y u v) (W, H, n, r, t) ∧ r.length ≤ 1024 ∧ (t = true → 0 < r.length) := by
  unfold spec_CropImage.f
  have hv := spec_validImage.ev a b c l (by omega)
  by_cases hi : ImgOk a b c l
  · obtain ⟨W, H, p, rfl, rfl, rfl, hll, b1, b2, b3, b4, b5, b6⟩ := hi.nats
    rw [decide_eq_true hi] at hv
    obtain ⟨t, ht, hok⟩ := spec_validBox.any W H (p : Int) l x y u v ⟨b1, b4⟩ ⟨b2, b5⟩
    cases t with
    | true =>
      obtain ⟨h0, h1, h2, h3, h4, h5⟩ := hok rfl
      obtain ⟨X, rfl⟩ := Int.eq_ofNat_of_zero_le h0
      obtain ⟨Y, rfl⟩ := Int.eq_ofNat_of_zero_le h1
      obtain ⟨m, rfl⟩ := Int.eq_ofNat_of_zero_le (show 0 ≤ u by omega)
      obtain ⟨n, rfl⟩ := Int.eq_ofNat_of_zero_le (show 0 ≤ v by omega)
      have hc := spec_crop.ev W H p m n X Y l hll b4 b5 b3 b6 (by omega) (by omega) (by omega) (by omega)
      have hlen := pixels_len (fun x y => pixN W p l (X + x) (Y + y)) m n p (crop_len hll (by omega) (by omega)) (m * n) (Nat.le_refl _)
      refine ⟨_, _, _, _, true, evBind hv (evPos rfl (evFix ht (evPos rfl (evBind hc (evRet rfl))))), ?_, fun _ => ?_⟩
      · simp only []
        rw [hlen]
        exact (Nat.mul_le_mul (Nat.mul_le_mul (show m ≤ 16 by omega) (show n ≤ 16 by omega)) b6 : m * n * p ≤ 16 * 16 * 4)
      · simp only []
        rw [hlen]
        exact Nat.mul_pos (Nat.mul_pos (by omega) (by omega)) (by omega)
    | false => exact ⟨0, 0, 0, [], false, evBind hv (evPos rfl (evFix ht (evNeg (by simp) (evRet rfl)))), by simp, fun h => by cases h⟩
  · rw [decide_eq_false hi] at hv
    exact ⟨0, 0, 0, [], false, evBind hv (evNeg (by simp) (evRet rfl)), by simp, fun h => by cases h⟩
theorem spec_DrawFindImage.ev_j0 (b : List Int) (h : CodeOk b) (p : Int) (hp0 : 0 ≤ p) (hp1 : p < 800000000) (W H n : Int) (l : List Int) (W' H' n' : Int) (q : List Int) (hq : 0 < q.length) (hq2 : q.length ≤ 1024) :
    ∃ r, Ev (fun k => spec_DrawFindImage.j0 k b p W H n l W' H' n' q) (W, H, n, l, W', H', n', r) ∧ r.length ≤ 1024 := by
  obtain ⟨v, hv, v0, v1⟩ := spec_reader_pick.ev b h p 3 hp0 (by omega) (by omega)
  by_cases e : v = 0
  · obtain ⟨z, hz, z0, z1⟩ := spec_reader_pick.ev b h (p + 1) 256 (by omega) (by omega) (by omega)
    exact ⟨q.set (0 : Int).toNat z, Ev.step (fun k => by simp only [spec_DrawFindImage.j0]; rfl) (evBind hv (evPos e (evBind hz (evPos (show (0 : Int) < (q.length : Int) by omega) (evRet rfl))))), by simp; exact hq2⟩
  · exact ⟨q, Ev.step (fun k => by simp only [spec_DrawFindImage.j0]; rfl) (evBind hv (evNeg e (evRet rfl))), hq2⟩
theorem mx_mn_planes (n : Int) : 1 ≤ mx 1 (mn 4 n) ∧ mx 1 (mn 4 n) ≤ 4 := by
  unfold mx mn
  split <;> split <;> omega
theorem spec_DrawFindImage.ev (l : List Int) (hw : ∀ x ∈ l, (Lit.int .u8 x).wf = true) : ∃ W H n r W' H' n' q, Ev (fun k => spec_DrawFindImage.f k l) (W, H, n, r, W', H', n', q) ∧ r.length ≤ 1024 ∧ q.length ≤ 1024 := by
  obtain ⟨s, hb, h⟩ := spec_newReader.ev l hw
  obtain ⟨W, H, n, r, q0, he, h1, p0, p1⟩ := spec_anyImage.ev s h 0 (by omega) (by omega)
  obtain ⟨x, y, u, v, hx⟩ := spec_anyBox.ev s h q0 (by omega) (by omega)
  obtain ⟨W', H', n', r', t, hc, c1, c2⟩ := spec_CropImage.any W H n r h1 x y u v
  unfold spec_DrawFindImage.f
  cases t with
  | true =>
    obtain ⟨q, hj, hq⟩ := spec_DrawFindImage.ev_j0 s h (q0 + 1 + 1 + 1 + 1) (by omega) (by omega) W H n r W' H' n' r' (c2 rfl) c1
    exact ⟨W, H, n, r, W', H', n', q, evFix hb (evBind he (evBind hx (evBind hc (evPos rfl hj)))), h1, hq⟩
  | false =>
    obtain ⟨W2, H2, l2, q2, hr, ok, _, _, d0, d1⟩ := spec_randomImage.ev s h (q0 + 1 + 1 + 1 + 1) (by omega) (by omega) (mx 1 (mn 4 n)) (mx_mn_planes n)
    obtain ⟨q, hj, hq⟩ := spec_DrawFindImage.ev_j0 s h q2 (by omega) (by omega) W H n r W2 H2 (mx 1 (mn 4 n)) l2 ok.len.1 ok.len.2
    exact ⟨W, H, n, r, W2, H2, mx 1 (mn 4 n), q, evFix hb (evBind he (evBind hx (evBind hc (evNeg (by simp) (evBind hr hj))))), h1, hq⟩

theorem rd_app_l (A B : List Int) (i : Nat) (h : i < A.length) : rd (A ++ B) (i : Int) = rd A (i : Int) := by
  simp [rd, List.getD_eq_getElem?_getD, List.getElem?_append_left h]
theorem rd_app_r (A B : List Int) (r : Nat) : rd (A ++ B) ((A.length + r : Nat) : Int) = rd B (r : Int) := by
  simp [rd, List.getD_eq_getElem?_getD, List.getElem?_append_right, -Int.natCast_add, Int.toNat_natCast]
theorem pixels_lenp (f : Nat → Nat → List Int) (W p : Nat) (hf : ∀ x y, (f x y).length = p) (n : Nat) : (pixelsUpto f W n).length = n * p := by
  induction n with
  | zero => simp [pixelsUpto]
  | succ n ih =>
    unfold pixelsUpto at ih ⊢
    rw [List.range_succ, List.flatMap_append, List.length_append, ih, List.flatMap_cons, List.flatMap_nil, List.append_nil, hf, Nat.succ_mul]
theorem pixelsUpto_get (f : Nat → Nat → List Int) (W p : Nat) (hp : 0 < p) (hf : ∀ x y, (f x y).length = p) (n : Nat) : ∀ i, i < n * p → rd (pixelsUpto f W n) (i : Int) = rd (f (i / p % W) (i / p / W)) ((i % p : Nat) : Int) := by
  induction n with
  | zero => intro i hi; omega
  | succ n ih =>
    intro i hi
    have hlen := pixels_lenp f W p hf n
    have e : pixelsUpto f W (n + 1) = pixelsUpto f W n ++ f (n % W) (n / W) := by
      unfold pixelsUpto
      rw [List.range_succ, List.flatMap_append, List.flatMap_cons, List.flatMap_nil, List.append_nil]
    rw [e]
    by_cases h : i < n * p
    · rw [rd_app_l _ _ i (by omega)]
      exact ih i h
    · rw [Nat.succ_mul] at hi
      obtain ⟨r, rfl⟩ : ∃ r, i = n * p + r := ⟨i - n * p, by omega⟩
      have h2 : rd (pixelsUpto f W n ++ f (n % W) (n / W)) ((n * p + r : Nat) : Int) = rd (f (n % W) (n / W)) (r : Int) := by
        rw [← hlen]
        exact rd_app_r _ _ r
      have h3 : (n * p + r) / p = n := by rw [Nat.mul_comm, Nat.mul_add_div hp, Nat.div_eq_of_lt (by omega), Nat.add_zero]
      have h4 : (n * p + r) % p = r := by rw [Nat.mul_comm, Nat.mul_add_mod, Nat.mod_eq_of_lt (by omega)]
      rw [h2, h3, h4]
theorem pixelsUpto_congr (f g : Nat → Nat → List Int) (W H : Nat) (h : ∀ x y, x < W → y < H → f x y = g x y) (n : Nat) (hn : n ≤ W * H) : pixelsUpto f W n = pixelsUpto g W n := by
  induction n with
  | zero => rfl
  | succ n ih =>
    have h1 := ih (by omega)
    have hW : 0 < W := by
      rcases Nat.eq_zero_or_pos W with h | h
      · subst h; omega
      · exact h
    unfold pixelsUpto at h1 ⊢
    rw [List.range_succ, List.flatMap_append, List.flatMap_append, h1, List.flatMap_cons, List.flatMap_cons, List.flatMap_nil, List.flatMap_nil, h (n % W) (n / W) (Nat.mod_lt _ hW) (by rw [Nat.div_lt_iff_lt_mul hW, Nat.mul_comm]; omega)]
theorem pixN_mem {W p : Nat} {l : List Int} {x y : Nat} {v : Int} (h : v ∈ pixN W p l x y) : v ∈ l := List.mem_of_mem_take (List.mem_of_mem_drop h)
def gapL (a b : List Int) : Nat → Int
  | 0 => 0
  | n + 1 => gapL a b n + (rd a (n : Int) - rd b (n : Int)) * (rd a (n : Int) - rd b (n : Int))
theorem gapL_bounds (a b : List Int) (ha : ∀ z ∈ a, 0 ≤ z ∧ z ≤ 255) (hb : ∀ z ∈ b, 0 ≤ z ∧ z ≤ 255) (n : Nat) : 0 ≤ gapL a b n ∧ gapL a b n ≤ 65025 * n := by
  induction n with
  | zero => exact ⟨Int.le_refl _, Int.le_refl _⟩
  | succ n ih =>
    have h := sq_bounds (rd_bytes ha n) (rd_bytes hb n)
    show 0 ≤ gapL a b n + (rd a (n : Int) - rd b (n : Int)) * (rd a (n : Int) - rd b (n : Int)) ∧ gapL a b n + (rd a (n : Int) - rd b (n : Int)) * (rd a (n : Int) - rd b (n : Int)) ≤ 65025 * ((n + 1 : Nat) : Int)
    omega
theorem spec_gap.ev_l0 (a b : List Int) (ha : ∀ z ∈ a, 0 ≤ z ∧ z ≤ 255) (hb : ∀ z ∈ b, 0 ≤ z ∧ z ≤ 255) (hl : a.length = b.length) (hlen : a.length ≤ 1024) (d : Nat) : ∀ i, i ≤ a.length → a.length - i = d →
    Ev (fun k => spec_gap.l0 k a b (gapL a b i) (i : Int)) (gapL a b a.length) := by
  induction d with
  | zero =>
    intro i hi hd
    obtain rfl : i = a.length := by omega
    exact Ev.step (fun k => by simp only [spec_gap.l0]; rfl) (evNeg (by omega) (evRet rfl))
  | succ d ih =>
    intro i hi hd
    have h := ih (i + 1) (by omega) (by omega)
    have g1 := gapL_bounds a b ha hb i
    have r1 := rd_bytes ha i
    have r2 := rd_bytes hb i
    have s1 := sq_bounds r1 r2
    have e : gapL a b (i + 1) = gapL a b i + (rd a (i : Int) - rd b (i : Int)) * (rd a (i : Int) - rd b (i : Int)) := rfl
    rw [e] at h
    have w0 : wrap64 (rd a (i : Int) - rd b (i : Int)) = rd a (i : Int) - rd b (i : Int) := wrapIn (by omega) (by omega)
    have w1 : wrap64 ((rd a (i : Int) - rd b (i : Int)) * (rd a (i : Int) - rd b (i : Int))) = (rd a (i : Int) - rd b (i : Int)) * (rd a (i : Int) - rd b (i : Int)) := wrapIn (by omega) (by omega)
    have w2 : wrap64 (gapL a b i + (rd a (i : Int) - rd b (i : Int)) * (rd a (i : Int) - rd b (i : Int))) = gapL a b i + (rd a (i : Int) - rd b (i : Int)) * (rd a (i : Int) - rd b (i : Int)) := wrapIn (by omega) (by omega)
    refine Ev.step (fun k => by simp only [spec_gap.l0, w0, w1, w2, wrapSucc i (by omega)]; rfl) ?_
    clear w0 w1 w2
    exact evPos (by omega) (evPos (by omega) (evPos (by omega) h))
theorem spec_gap.ev (a b : List Int) (ha : ∀ z ∈ a, 0 ≤ z ∧ z ≤ 255) (hb : ∀ z ∈ b, 0 ≤ z ∧ z ≤ 255) (hl : a.length = b.length) (hlen : a.length ≤ 1024) : Ev (fun k => spec_gap.f k a b) (gapL a b a.length) := by
  unfold spec_gap.f
  exact spec_gap.ev_l0 a b ha hb hl hlen a.length 0 (by omega) (by omega)
theorem pixN_num {W H p x y k : Nat} {l : List Int} (hx : x < W) (hy : y < H) (hk : k < p) (hl : l.length = W * H * p) : rd (pixN W p l x y) (k : Int) = rd l (((y * W + x) * p + k : Nat) : Int) := by
  have h1 := pix_lt (p := p) hx hy
  have h2 := pixN_length hx hy hl
  rw [rdN _ k (by omega), rdN l _ (by omega)]
  unfold pixN
  rw [List.getElem_drop, List.getElem_take]
/-- A number of a part. -/
theorem crop_rd (W H p u v X Y : Nat) (l : List Int) (hl : l.length = W * H * p) (hp : 0 < p) (hX : X + u ≤ W) (hY : Y + v ≤ H) (t : Nat) (ht : t < u * v * p) :
    rd (pixelsUpto (fun x y => pixN W p l (X + x) (Y + y)) u (u * v)) (t : Int) = rd l ((((Y + t / p / u) * W + (X + t / p % u)) * p + t % p : Nat) : Int) := by
  have hq : t / p < u * v := by rw [Nat.div_lt_iff_lt_mul hp]; exact ht
  have hu : 0 < u := by
    rcases Nat.eq_zero_or_pos u with h | h
    · subst h; omega
    · exact h
  have h1 : t / p % u < u := Nat.mod_lt _ hu
  have h2 : t / p / u < v := by rw [Nat.div_lt_iff_lt_mul hu, Nat.mul_comm]; exact hq
  have e := pixelsUpto_congr (fun x y => pixN W p l (X + x) (Y + y)) (fun x y => if x < u ∧ y < v then pixN W p l (X + x) (Y + y) else List.replicate p 0) u v (fun x y hx hy => by rw [if_pos ⟨hx, hy⟩]) (u * v) (Nat.le_refl _)
  rw [e, pixelsUpto_get (fun x y => if x < u ∧ y < v then pixN W p l (X + x) (Y + y) else List.replicate p 0) u p hp (fun x y => by
    split
    · rename_i h; exact crop_len hl hX hY x y h.1 h.2
    · simp) (u * v) t ht]
  simp only [h1, h2, and_self, if_true]
  rw [pixN_num (by omega) (by omega) (Nat.mod_lt _ hp) hl]
theorem crop_bytes (W H p u v X Y : Nat) (l : List Int) (hby : ∀ z ∈ l, 0 ≤ z ∧ z ≤ 255) : ∀ z ∈ pixelsUpto (fun x y => pixN W p l (X + x) (Y + y)) u (u * v), 0 ≤ z ∧ z ≤ 255 := by
  intro z hz
  unfold pixelsUpto at hz
  obtain ⟨i, _, hi⟩ := List.mem_flatMap.1 hz
  exact hby z (pixN_mem hi)
theorem gapL_gapU (W H p u v X Y : Nat) (l q : List Int) (hl : l.length = W * H * p) (hp : 0 < p) (hX : X + u ≤ W) (hY : Y + v ≤ H) (n : Nat) (hn : n ≤ u * v * p) :
    gapL (pixelsUpto (fun x y => pixN W p l (X + x) (Y + y)) u (u * v)) q n = gapU W p u l q X Y n := by
  induction n with
  | zero => rfl
  | succ n ih =>
    show gapL _ q n + _ = gapU W p u l q X Y n + gapT W p u l q X Y n
    rw [ih (by omega), crop_rd W H p u v X Y l hl hp hX hY n (by omega)]
    unfold gapT
    generalize rd l _ = a
    generalize rd q _ = b
    congr 1
    rw [show a - b = -(b - a) by omega, Int.neg_mul_neg]
theorem spec_gapAt.ev (W H p u v X Y : Nat) (l q : List Int) (hl : l.length = W * H * p) (hby : ∀ z ∈ l, 0 ≤ z ∧ z ≤ 255) (hlq : q.length = u * v * p) (hbq : ∀ z ∈ q, 0 ≤ z ∧ z ≤ 255) (hW : W ≤ 16) (hH : H ≤ 16) (hp0 : 1 ≤ p) (hp : p ≤ 4) (hu : 1 ≤ u) (hv : 1 ≤ v) (hX : X + u ≤ W) (hY : Y + v ≤ H) :
    Ev (fun k => spec_gapAt.f k (W : Int) (H : Int) (p : Int) l (u : Int) (v : Int) (p : Int) q (X : Int) (Y : Int)) (gapU W p u l q X Y (u * v * p)) := by
  have h1 := spec_crop.ev W H p u v X Y l hl hW hH hp0 hp hu hv hX hY
  have hlen := pixels_len (fun x y => pixN W p l (X + x) (Y + y)) u v p (crop_len hl hX hY) (u * v) (Nat.le_refl _)
  have h1024 : u * v * p ≤ 16 * 16 * 4 := Nat.mul_le_mul (Nat.mul_le_mul (by omega) (by omega)) hp
  have h2 := spec_gap.ev (pixelsUpto (fun x y => pixN W p l (X + x) (Y + y)) u (u * v)) q (crop_bytes W H p u v X Y l hby) hbq (by omega) (by omega)
  rw [hlen, gapL_gapU W H p u v X Y l q hl hp0 hX hY _ (Nat.le_refl _)] at h2
  unfold spec_gapAt.f
  exact evBind h1 (evBind h2 (evRet rfl))

/-- The search, as far as it has come. -/
def findAt (W p u v : Nat) (l q : List Int) (C n : Nat) : Int × Int × Int × Int × Int := placeFold (stepB u v) (fun x y => gapU W p u l q x y (u * v * p)) C (0, 0, 0, 0, -1) n
theorem findAt_least (W p u v : Nat) (l q : List Int) (hby : ∀ z ∈ l, 0 ≤ z ∧ z ≤ 255) (hbq : ∀ z ∈ q, 0 ≤ z ∧ z ≤ 255) (C n : Nat) : 0 ≤ (findAt W p u v l q C (n + 1)).2.2.2.2 := by
  induction n with
  | zero =>
    have h := (gapU_bounds W p u l q (0 % C) (0 / C) hby hbq (u * v * p)).1
    show 0 ≤ (stepB u v (0, 0, 0, 0, -1) (0 % C) (0 / C) _).2.2.2.2
    unfold stepB
    rw [if_pos (.inl (by simp only []; omega))]
    exact h
  | succ n ih =>
    have h := (gapU_bounds W p u l q ((n + 1) % C) ((n + 1) / C) hby hbq (u * v * p)).1
    show 0 ≤ (stepB u v (findAt W p u v l q C (n + 1)) ((n + 1) % C) ((n + 1) / C) _).2.2.2.2
    unfold stepB
    split
    · exact h
    · exact ih
/-- The reference's variables behind n places. -/
def specAt (W p u v : Nat) (l q : List Int) (C n : Nat) : Int × Int × Int × Int × Int := if n = 0 then (0, 0, (u : Int), (v : Int), gapU W p u l q 0 0 (u * v * p)) else findAt W p u v l q C n
theorem specAt_succ (W p u v : Nat) (l q : List Int) (hby : ∀ z ∈ l, 0 ≤ z ∧ z ≤ 255) (hbq : ∀ z ∈ q, 0 ≤ z ∧ z ≤ 255) (C x y : Nat) (hx : x < C) :
    specAt W p u v l q C (C * y + x + 1) = if gapU W p u l q x y (u * v * p) < (specAt W p u v l q C (C * y + x)).2.2.2.2 then ((x : Int), (y : Int), (u : Int), (v : Int), gapU W p u l q x y (u * v * p)) else specAt W p u v l q C (C * y + x) := by
  have e := placeFold_at (stepB u v) (fun x y => gapU W p u l q x y (u * v * p)) C (0, 0, 0, 0, -1) x y hx
  have e1 : specAt W p u v l q C (C * y + x + 1) = stepB u v (findAt W p u v l q C (C * y + x)) x y (gapU W p u l q x y (u * v * p)) := by
    unfold specAt
    rw [if_neg (by omega)]
    exact e
  rw [e1]
  by_cases h0 : C * y + x = 0
  · have hx0 : x = 0 := by omega
    have hy0 : y = 0 := by
      rcases Nat.eq_zero_or_pos y with h | h
      · exact h
      · have : C * 1 ≤ C * y := Nat.mul_le_mul_left _ h
        omega
    subst hx0 hy0
    rw [h0]
    unfold specAt
    rw [if_pos rfl, if_neg (Int.lt_irrefl _)]
    unfold stepB findAt
    rw [if_pos (.inl (by show (-1 : Int) < 0; omega))]
    rfl
  · obtain ⟨m, hm⟩ : ∃ m, C * y + x = m + 1 := ⟨C * y + x - 1, by omega⟩
    have hl := findAt_least W p u v l q hby hbq C m
    have e2 : specAt W p u v l q C (C * y + x) = findAt W p u v l q C (C * y + x) := by unfold specAt; rw [if_neg h0]
    rw [e2, hm]
    unfold stepB
    by_cases hc : gapU W p u l q x y (u * v * p) < (findAt W p u v l q C (m + 1)).2.2.2.2
    · rw [if_pos (.inr hc), if_pos hc]
    · rw [if_neg (by omega), if_neg hc]
theorem spec_FindImage.ev_l1 (W H p u v : Nat) (l q : List Int) (hl : l.length = W * H * p) (hby : ∀ z ∈ l, 0 ≤ z ∧ z ≤ 255) (hlq : q.length = u * v * p) (hbq : ∀ z ∈ q, 0 ≤ z ∧ z ≤ 255) (hW : W ≤ 16) (hH : H ≤ 16) (hp0 : 1 ≤ p) (hp : p ≤ 4) (hu : 1 ≤ u) (hv : 1 ≤ v) (huW : u ≤ W) (C : Nat) (hC : C = W - u + 1) (y : Nat) (hy : y + v ≤ H) (R : Int × Int × Int × Int × Int)
    (hR : ∀ s, s = specAt W p u v l q C (C * (y + 1)) → Ev (fun k => spec_FindImage.l0 k s.2.2.2.2 (wrap64 ((y : Int) + 1)) W H p l u v p q s.1 s.2.1 s.2.2.1 s.2.2.2.1) R) (d : Nat) : ∀ x s, x ≤ C → C - x = d → s = specAt W p u v l q C (C * y + x) →
    Ev (fun k => spec_FindImage.l1 k s.2.2.2.2 (y : Int) (x : Int) W H p l u v p q s.1 s.2.1 s.2.2.1 s.2.2.2.1) R := by
  induction d with
  | zero =>
    intro x s hx hd hs
    refine Ev.step (fun k => by simp only [spec_FindImage.l1, wrapIn (x := (x : Int) + (u : Int)) (by omega) (by omega)]; rfl) ?_
    refine evNeg (by omega) (hR s ?_)
    rw [hs, show C * y + x = C * (y + 1) by rw [Nat.mul_succ]; omega]
  | succ d ih =>
    intro x s hx hd hs
    have hg := spec_gapAt.ev W H p u v x y l q hl hby hlq hbq hW hH hp0 hp hu hv (by omega) hy
    have hsu := specAt_succ W p u v l q hby hbq C x y (by omega)
    rw [← hs] at hsu
    refine Ev.step (fun k => by simp only [spec_FindImage.l1, wrapIn (x := (x : Int) + (u : Int)) (by omega) (by omega), wrapSucc x (by omega)]; rfl) ?_
    refine evPos (by omega) (evBind hg (evIf (fun hc => ?_) (fun hc => ?_)))
    · rw [if_pos hc] at hsu
      have h := ih (x + 1) _ (by omega) (by omega) hsu.symm
      exact h
    · rw [if_neg hc] at hsu
      exact ih (x + 1) s (by omega) (by omega) hsu.symm
theorem spec_FindImage.ev_l0 (W H p u v : Nat) (l q : List Int) (hl : l.length = W * H * p) (hby : ∀ z ∈ l, 0 ≤ z ∧ z ≤ 255) (hlq : q.length = u * v * p) (hbq : ∀ z ∈ q, 0 ≤ z ∧ z ≤ 255) (hW : W ≤ 16) (hH : H ≤ 16) (hp0 : 1 ≤ p) (hp : p ≤ 4) (hu : 1 ≤ u) (hv : 1 ≤ v) (huW : u ≤ W) (hvH : v ≤ H) (C : Nat) (hC : C = W - u + 1) (d : Nat) : ∀ y s, y ≤ H - v + 1 → H - v + 1 - y = d → s = specAt W p u v l q C (C * y) →
    Ev (fun k => spec_FindImage.l0 k s.2.2.2.2 (y : Int) W H p l u v p q s.1 s.2.1 s.2.2.1 s.2.2.2.1) (specAt W p u v l q C (C * (H - v + 1))) := by
  induction d with
  | zero =>
    intro y s hy hd hs
    refine Ev.step (fun k => by simp only [spec_FindImage.l0, wrapIn (x := (y : Int) + (v : Int)) (by omega) (by omega)]; rfl) ?_
    refine evNeg (by omega) (evRet ?_)
    rw [hs, show y = H - v + 1 by omega]
  | succ d ih =>
    intro y s hy hd hs
    refine Ev.step (fun k => by simp only [spec_FindImage.l0, wrapIn (x := (y : Int) + (v : Int)) (by omega) (by omega)]; rfl) ?_
    refine evPos (by omega) ?_
    refine spec_FindImage.ev_l1 W H p u v l q hl hby hlq hbq hW hH hp0 hp hu hv huW C hC y (by omega) _ (fun s' hs' => ?_) C 0 s (by omega) (by omega) hs
    have h := ih (y + 1) s' (by omega) (by omega) hs'
    rw [← wrapSucc y (by omega)] at h
    exact h
theorem SearchOk.nats {a b c : Int} {l : List Int} {a' b' c' : Int} {q : List Int} (h : SearchOk a b c l a' b' c' q) : ∃ W H p u v : Nat, a = W ∧ b = H ∧ c = p ∧ a' = u ∧ b' = v ∧ c' = p ∧ l.length = W * H * p ∧ q.length = u * v * p ∧ W ≤ 16 ∧ H ≤ 16 ∧ 1 ≤ p ∧ p ≤ 4 ∧ 1 ≤ u ∧ 1 ≤ v ∧ u ≤ W ∧ v ≤ H := by
  obtain ⟨hi, hj, e, h1, h2⟩ := h
  obtain ⟨W, H, p, rfl, rfl, rfl, hl, b1, b2, b3, b4, b5, b6⟩ := hi.nats
  obtain ⟨u, v, p', rfl, rfl, rfl, hlq, d1, d2, d3, d4, d5, d6⟩ := hj.nats
  obtain rfl : p' = p := by omega
  exact ⟨W, H, p', u, v, rfl, rfl, rfl, rfl, rfl, rfl, hl, hlq, b4, b5, b3, b6, d1, d2, by omega, by omega⟩
/-- What FindImage answers. -/
def findR (a b c : Int) (l : List Int) (a' b' c' : Int) (q : List Int) : Int × Int × Int × Int × Int := if SearchOk a b c l a' b' c' q then searchFold (stepB a'.toNat b'.toNat) a b c l a' b' q (0, 0, 0, 0, -1) else (0, 0, 0, 0, -1)
theorem findR_at (W H p u v : Nat) (l q : List Int) (h : SearchOk W H p l u v p q) : findR W H p l u v p q = findAt W p u v l q (W - u + 1) ((W - u + 1) * (H - v + 1)) := by
  unfold findR
  rw [if_pos h]
  unfold searchFold findAt
  simp only [Int.toNat_natCast]
theorem impl_FindImage.val (a b c : Int) (l : List Int) (a' b' c' : Int) (q : List Int) : impl_FindImage.f a b c l a' b' c' q = some (findR a b c l a' b' c' q) := rfl
theorem spec_FindImage.ev (a b c : Int) (l : List Int) (a' b' c' : Int) (q : List Int) (hl : l.length ≤ 9223372036854775806) (hq : q.length ≤ 9223372036854775806) : Ev (fun k => spec_FindImage.f k a b c l a' b' c' q) (findR a b c l a' b' c' q) := by
  have hno : ¬ SearchOk a b c l a' b' c' q → ∀ t, t = true → Ev (fun k => spec_FindImage.j0 k t a b c l a' b' c' q) (findR a b c l a' b' c' q) := fun h t ht => by
    subst ht
    unfold findR
    rw [if_neg h]
    exact Ev.step (fun k => by simp only [spec_FindImage.j0]; rfl) (evPos (by trivial) (evRet rfl))
  unfold spec_FindImage.f
  refine evBind (spec_validImage.ev a b c l hl) (evIf (fun h1 => evBind (spec_validImage.ev a' b' c' q hq) (evIf (fun h2 => evIf (fun h3 => evIf (fun h4 => ?_) (fun h4 => ?_)) (fun h3 => ?_)) (fun h2 => ?_))) (fun h1 => ?_))
  · exact hno (fun h => by have := h.2.2.2.1; omega) true rfl
  · rw [decide_eq_true_eq] at h1 h2
    by_cases h5 : b' > b
    · exact hno (fun h => by have := h.2.2.2.2; omega) _ (decide_eq_true h5)
    · have ok : SearchOk a b c l a' b' c' q := ⟨h1, h2, h3.symm, by omega, by omega⟩
      obtain ⟨W, H, p, u, v, rfl, rfl, rfl, rfl, rfl, rfl, hll, hlq, b1, b2, b3, b4, b5, b6, b7, b8⟩ := SearchOk.nats ok
      have h00 := spec_gapAt.ev W H p u v 0 0 l q hll h1.2.2.2.2 hlq h2.2.2.2.2 b1 b2 b3 b4 b5 b6 (by omega) (by omega)
      have h := spec_FindImage.ev_l0 W H p u v l q hll h1.2.2.2.2 hlq h2.2.2.2.2 b1 b2 b3 b4 b5 b6 b7 b8 (W - u + 1) rfl (H - v + 1) 0 (0, 0, (u : Int), (v : Int), gapU W p u l q 0 0 (u * v * p)) (by omega) (by omega) (by unfold specAt; rw [if_pos (Nat.mul_zero _)])
      have hpos : (W - u + 1) * (H - v + 1) ≠ 0 := Nat.mul_ne_zero (by omega) (by omega)
      have e : specAt W p u v l q (W - u + 1) ((W - u + 1) * (H - v + 1)) = findR W H p l u v p q := by
        rw [findR_at W H p u v l q ok]
        unfold specAt
        rw [if_neg hpos]
      rw [e] at h
      rw [decide_eq_false h5]
      exact Ev.step (fun k => by simp only [spec_FindImage.j0]; rfl) (evNeg (by simp) (evBind h00 h))
  · exact hno (fun h => h3 h.2.2.1.symm) true rfl
  · rw [decide_eq_true_eq] at h2
    exact hno (fun h => h2 h.2.1) true rfl
  · rw [decide_eq_true_eq] at h1
    exact hno (fun h => h1 h.1) true rfl

def gapG (W p u v : Nat) (l q : List Int) (x y : Nat) : Int := gapU W p u l q x y (u * v * p)
theorem findAt_best (W p u v : Nat) (l q : List Int) (hby : ∀ z ∈ l, 0 ≤ z ∧ z ≤ 255) (hbq : ∀ z ∈ q, 0 ≤ z ∧ z ≤ 255) (C n : Nat) : ∃ i, i ≤ n ∧ findAt W p u v l q C (n + 1) = (((i % C : Nat) : Int), ((i / C : Nat) : Int), (u : Int), (v : Int), gapG W p u v l q (i % C) (i / C)) ∧ ∀ j, j ≤ n → gapG W p u v l q (i % C) (i / C) ≤ gapG W p u v l q (j % C) (j / C) := by
  induction n with
  | zero =>
    refine ⟨0, Nat.le_refl _, ?_, fun j hj => ?_⟩
    · show stepB u v (0, 0, 0, 0, -1) (0 % C) (0 / C) _ = _
      unfold stepB
      rw [if_pos (.inl (by show (-1 : Int) < 0; omega))]
      rfl
    · obtain rfl : j = 0 := by omega
      exact Int.le_refl _
  | succ n ih =>
    obtain ⟨i, hi, he, hall⟩ := ih
    have h0 := (gapU_bounds W p u l q (i % C) (i / C) hby hbq (u * v * p)).1
    have e : findAt W p u v l q C (n + 1 + 1) = stepB u v (findAt W p u v l q C (n + 1)) ((n + 1) % C) ((n + 1) / C) (gapG W p u v l q ((n + 1) % C) ((n + 1) / C)) := rfl
    rw [e, he]
    unfold stepB
    by_cases hc : gapG W p u v l q ((n + 1) % C) ((n + 1) / C) < gapG W p u v l q (i % C) (i / C)
    · refine ⟨n + 1, Nat.le_refl _, if_pos (.inr hc), fun j hj => ?_⟩
      by_cases ej : j = n + 1
      · subst ej; exact Int.le_refl _
      · exact Int.le_of_lt (Int.lt_of_lt_of_le hc (hall j (by omega)))
    · have h0' : 0 ≤ gapG W p u v l q (i % C) (i / C) := h0
      refine ⟨i, by omega, if_neg (fun h => h.elim (fun h => absurd h (by show ¬ gapG W p u v l q (i % C) (i / C) < 0; omega)) hc), fun j hj => ?_⟩
      by_cases ej : j = n + 1
      · subst ej; omega
      · exact hall j (by omega)
theorem wS64 (n : Nat) (h : n ≤ 2000) : wrap64 ((n : Int) + 1) = ((n + 1 : Nat) : Int) := wrapSucc n (by omega)
/-- The last place. -/
theorem places_last {W H u v : Nat} (hu : u ≤ W) (hv : v ≤ H) : ∃ M, (W - u + 1) * (H - v + 1) = M + 1 ∧ M % (W - u + 1) = W - u ∧ M / (W - u + 1) = H - v ∧ ∀ i, i ≤ M → i % (W - u + 1) ≤ W - u ∧ i / (W - u + 1) ≤ H - v := by
  refine ⟨(W - u + 1) * (H - v) + (W - u), by rw [Nat.mul_succ]; omega, ?_, ?_, fun i hi => ⟨?_, ?_⟩⟩
  · rw [Nat.mul_add_mod, Nat.mod_eq_of_lt (by omega)]
  · rw [Nat.mul_add_div (by omega), Nat.div_eq_of_lt (by omega), Nat.add_zero]
  · have := Nat.mod_lt i (show 0 < W - u + 1 by omega); omega
  · have h2 : i / (W - u + 1) < H - v + 1 := by
      rw [Nat.div_lt_iff_lt_mul (by omega), Nat.mul_comm, Nat.mul_succ]
      omega
    omega
theorem places_all {W H u v x y : Nat} (hx : x ≤ W - u) (hy : y ≤ H - v) (M : Nat) (hM : (W - u + 1) * (H - v + 1) = M + 1) : (W - u + 1) * y + x ≤ M ∧ ((W - u + 1) * y + x) % (W - u + 1) = x ∧ ((W - u + 1) * y + x) / (W - u + 1) = y := by
  have h1 : (W - u + 1) * (y + 1) ≤ (W - u + 1) * (H - v + 1) := Nat.mul_le_mul_left _ (by omega)
  rw [Nat.mul_succ] at h1
  refine ⟨by omega, ?_, ?_⟩
  · rw [Nat.mul_add_mod, Nat.mod_eq_of_lt (by omega)]
  · rw [Nat.mul_add_div (by omega), Nat.div_eq_of_lt (by omega), Nat.add_zero]
theorem impl_GapOf.ev_l0 (a b : List Int) (x y z : Int) (ha : ∀ z ∈ a, 0 ≤ z ∧ z ≤ 255) (hb : ∀ z ∈ b, 0 ≤ z ∧ z ≤ 255) (hl : a.length = b.length) (hlen : a.length ≤ 1024) (d : Nat) : ∀ i, i ≤ a.length → a.length - i = d →
    Ev (fun k => impl_GapOf.l0 k (gapL a b i) a (a.length : Int) (i : Int) x y z b) (gapL a b a.length) := by
  induction d with
  | zero =>
    intro i hi hd
    obtain rfl : i = a.length := by omega
    exact Ev.step (fun k => by simp only [impl_GapOf.l0]; rfl) (evNeg (by omega) (evRet rfl))
  | succ d ih =>
    intro i hi hd
    have h := ih (i + 1) (by omega) (by omega)
    have g1 := gapL_bounds a b ha hb i
    have r1 := rd_bytes ha i
    have r2 := rd_bytes hb i
    have s1 := sq_bounds r1 r2
    have e : gapL a b (i + 1) = gapL a b i + (rd a (i : Int) - rd b (i : Int)) * (rd a (i : Int) - rd b (i : Int)) := rfl
    rw [e] at h
    have w0 : wrap64 (rd a (i : Int) - rd b (i : Int)) = rd a (i : Int) - rd b (i : Int) := wrapIn (by omega) (by omega)
    have w1 : wrap64 ((rd a (i : Int) - rd b (i : Int)) * (rd a (i : Int) - rd b (i : Int))) = (rd a (i : Int) - rd b (i : Int)) * (rd a (i : Int) - rd b (i : Int)) := by clear w0; exact wrapIn (by omega) (by omega)
    have w2 : wrap64 (gapL a b i + (rd a (i : Int) - rd b (i : Int)) * (rd a (i : Int) - rd b (i : Int))) = gapL a b i + (rd a (i : Int) - rd b (i : Int)) * (rd a (i : Int) - rd b (i : Int)) := by clear w0 w1; exact wrapIn (by omega) (by omega)
    refine Ev.step (fun k => by simp only [impl_GapOf.l0, w0, w1, w2, wS64 i (show i ≤ 2000 by clear w0 w1 w2; omega)]; rfl) ?_
    clear w0 w1 w2
    exact evPos (by omega) (evPos (by omega) (evPos (by omega) (evPos (by omega) h)))
theorem impl_GapOf.ev (a b c : Int) (l q : List Int) (h1 : ImgOk a b c l) (h2 : ImgOk a b c q) : Ev (fun k => impl_GapOf.f k a b c l a b c q) (gapL l q l.length) := by
  have hl : l.length = q.length := by have e1 := h1.2.2.2.1; have e2 := h2.2.2.2.1; omega
  have h := impl_GapOf.ev_l0 l q a b c h1.2.2.2.2 h2.2.2.2.2 hl h1.len.2 l.length 0 (by omega) (by omega)
  have ha : impl_alikeImages.f a b c l a b c q = some true := by unfold impl_alikeImages.f; simp
  have i1 : impl_isImage.f a b c l = some true := by rw [impl_isImage.eq, decide_eq_true h1]
  have i2 : impl_isImage.f a b c q = some true := by rw [impl_isImage.eq, decide_eq_true h2]
  unfold impl_GapOf.f
  exact evFix i1 (evPos rfl (evFix i2 (evPos rfl (evFix ha (Ev.step (fun k => by simp only [impl_GapOf.j0]; rfl) (evNeg (by simp) h))))))

theorem pixels_bytes (f : Nat → Nat → List Int) (W H : Nat) (hf : ∀ x y, x < W → y < H → ∀ z ∈ f x y, 0 ≤ z ∧ z ≤ 255) : ∀ z ∈ pixelsUpto f W (W * H), 0 ≤ z ∧ z ≤ 255 := by
  intro z hz
  unfold pixelsUpto at hz
  obtain ⟨i, hi, hm⟩ := List.mem_flatMap.1 hz
  rw [List.mem_range] at hi
  have hW : 0 < W := by
    rcases Nat.eq_zero_or_pos W with h | h
    · subst h; omega
    · exact h
  exact hf (i % W) (i / W) (Nat.mod_lt _ hW) (by rw [Nat.div_lt_iff_lt_mul hW, Nat.mul_comm]; exact hi) z hm
/-- An image whose pixels are told is valid. -/
theorem pixels_ok (f : Nat → Nat → List Int) (W H p : Nat) (hW : 1 ≤ W ∧ W ≤ 16) (hH : 1 ≤ H ∧ H ≤ 16) (hp : 1 ≤ p ∧ p ≤ 4) (hf : ∀ x y, x < W → y < H → (f x y).length = p) (hb : ∀ x y, x < W → y < H → ∀ z ∈ f x y, 0 ≤ z ∧ z ≤ 255) : ImgOk (W : Int) (H : Int) (p : Int) (pixelsUpto f W (W * H)) := by
  refine ⟨by omega, by omega, by omega, ?_, pixels_bytes f W H hb⟩
  rw [pixels_len f W H p hf _ (Nat.le_refl _)]
  push_cast
  rfl
theorem crop_at (W H p u v X Y : Nat) (l : List Int) (hi : ImgOk (W : Int) (H : Int) (p : Int) l) (hu : 1 ≤ u) (hv : 1 ≤ v) (hX : X + u ≤ W) (hY : Y + v ≤ H) : impl_CropImage.f (W : Int) (H : Int) (p : Int) l (X : Int) (Y : Int) (u : Int) (v : Int) = some ((u : Int), (v : Int), (p : Int), pixelsUpto (fun x y => pixN W p l (X + x) (Y + y)) u (u * v), true) := by
  unfold impl_CropImage.f
  rw [if_pos (show CropOk (W : Int) (H : Int) (p : Int) l (X : Int) (Y : Int) (u : Int) (v : Int) from ⟨hi, by unfold BoxOn; omega⟩)]
  simp only [Int.toNat_natCast]
  rfl
theorem gap_at (W H p u v X Y : Nat) (l q : List Int) (hi : ImgOk (W : Int) (H : Int) (p : Int) l) (hl : l.length = W * H * p) (hq : ImgOk (u : Int) (v : Int) (p : Int) q) (hlq : q.length = u * v * p) (hu : 1 ≤ u) (hv : 1 ≤ v) (hp0 : 1 ≤ p) (hp : p ≤ 4) (hW : W ≤ 16) (hH : H ≤ 16) (hX : X + u ≤ W) (hY : Y + v ≤ H) :
    Ev (fun k => impl_GapOf.f k (u : Int) (v : Int) (p : Int) (pixelsUpto (fun x y => pixN W p l (X + x) (Y + y)) u (u * v)) (u : Int) (v : Int) (p : Int) q) (gapG W p u v l q X Y) := by
  have hok : ImgOk (u : Int) (v : Int) (p : Int) (pixelsUpto (fun x y => pixN W p l (X + x) (Y + y)) u (u * v)) :=
    pixels_ok _ u v p ⟨hu, by omega⟩ ⟨hv, by omega⟩ ⟨hp0, hp⟩ (crop_len hl hX hY) (fun x y _ _ z hz => hi.2.2.2.2 z (pixN_mem hz))
  have h := impl_GapOf.ev (u : Int) (v : Int) (p : Int) _ q hok hq
  rw [pixels_len (fun x y => pixN W p l (X + x) (Y + y)) u v p (crop_len hl hX hY) (u * v) (Nat.le_refl _), gapL_gapU W H p u v X Y l q hl (by omega) hX hY _ (Nat.le_refl _)] at h
  exact h
theorem find_l1 (W H p u v : Nat) (l q best : List Int) (n : Int) (hi : ImgOk (W : Int) (H : Int) (p : Int) l) (hl : l.length = W * H * p) (hq : ImgOk (u : Int) (v : Int) (p : Int) q) (hlq : q.length = u * v * p) (hu : 1 ≤ u) (hv : 1 ≤ v) (hp0 : 1 ≤ p) (hp : p ≤ 4) (hW : W ≤ 16) (hH : H ≤ 16) (y : Nat) (hy : y + v ≤ H) (huW : u ≤ W)
    (hg : ∀ x, x + u ≤ W → n ≤ gapG W p u v l q x y)
    (hR : Ev (fun k => laws_FnFindImage.l0 k n true (wrap64 ((y : Int) + 1)) W H p l u v p q u v p best) true) (d : Nat) : ∀ x, x ≤ W - u + 1 → W - u + 1 - x = d →
    Ev (fun k => laws_FnFindImage.l1 k n true (y : Int) (x : Int) W H p l u v p q u v p best) true := by
  induction d with
  | zero =>
    intro x hx hd
    exact Ev.step (fun k => by simp only [laws_FnFindImage.l1, wrapIn (x := (x : Int) + (u : Int)) (by omega) (by omega)]; rfl) (evNeg (by omega) hR)
  | succ d ih =>
    intro x hx hd
    have h1 := crop_at W H p u v x y l hi hu hv (by omega) hy
    have h2 := gap_at W H p u v x y l q hi hl hq hlq hu hv hp0 hp hW hH (by omega) hy
    have h3 := hg x (by omega)
    have h4 := ih (x + 1) (by omega) (by omega)
    have bx : x < 9223372036854775807 := by omega
    have w1 : wrap64 ((x : Int) + (u : Int)) = ((x + u : Nat) : Int) := by rw [wrapIn (by omega) (by omega)]; push_cast; rfl
    have w2 := wrapSucc x bx
    refine Ev.step (fun k => by simp only [laws_FnFindImage.l1, w1, w2]; rfl) ?_
    clear w1 w2
    refine evPos (by omega) (evFix h1 (evPos rfl (evBind h2 ?_)))
    exact evNeg (by show ¬ gapG W p u v l q x y < n; omega) h4
theorem find_l0 (W H p u v : Nat) (l q best : List Int) (n : Int) (hi : ImgOk (W : Int) (H : Int) (p : Int) l) (hl : l.length = W * H * p) (hq : ImgOk (u : Int) (v : Int) (p : Int) q) (hlq : q.length = u * v * p) (hu : 1 ≤ u) (hv : 1 ≤ v) (hp0 : 1 ≤ p) (hp : p ≤ 4) (hW : W ≤ 16) (hH : H ≤ 16) (huW : u ≤ W) (hvH : v ≤ H)
    (hg : ∀ x y, x + u ≤ W → y + v ≤ H → n ≤ gapG W p u v l q x y)
    (hb : Ev (fun k => impl_GapOf.f k (u : Int) (v : Int) (p : Int) best (u : Int) (v : Int) (p : Int) q) n) (d : Nat) : ∀ y, y ≤ H - v + 1 → H - v + 1 - y = d →
    Ev (fun k => laws_FnFindImage.l0 k n true (y : Int) W H p l u v p q u v p best) true := by
  induction d with
  | zero =>
    intro y hy hd
    refine Ev.step (fun k => by simp only [laws_FnFindImage.l0, wrapIn (x := (y : Int) + (v : Int)) (by omega) (by omega)]; rfl) (evNeg (by omega) (evPos (show true = true from rfl) (evBind hb ?_)))
    exact evRet (decide_eq_true rfl)
  | succ d ih =>
    intro y hy hd
    have h := ih (y + 1) (by omega) (by omega)
    rw [← wrapSucc y (by omega)] at h
    exact Ev.step (fun k => by simp only [laws_FnFindImage.l0, wrapIn (x := (y : Int) + (v : Int)) (by omega) (by omega)]; rfl) (evPos (by omega) (find_l1 W H p u v l q best n hi hl hq hlq hu hv hp0 hp hW hH y (by omega) huW (fun x hx => hg x y hx (by omega)) h (W - u + 1) 0 (by omega) (by omega)))
theorem FnFindImage : laws_FnFindImage.Pure := by
  intro l _ _ hw
  refine Ev.rounds ?_
  obtain ⟨a, b, c, r, a', b', c', q, hd, hlr, hlq⟩ := spec_DrawFindImage.ev l hw
  have h3 := spec_FindImage.ev a b c r a' b' c' q (by omega) (by omega)
  have h4 := impl_FindImage.val a b c r a' b' c' q
  unfold laws_FnFindImage.f
  refine evIf (fun _ => evRet rfl) (fun _ => evBind hd (evFix h4 (evBind h3 (evNeg (by simp) (evPos rfl ?_)))))
  by_cases hs : SearchOk a b c r a' b' c' q
  · obtain ⟨W, H, p, u, v, rfl, rfl, rfl, rfl, rfl, rfl, hll, hlq2, b1, b2, b3, b4, b5, b6, b7, b8⟩ := SearchOk.nats hs
    obtain ⟨M, hM, _, _, hplace⟩ := places_last b7 b8
    obtain ⟨i, hi, he, hall⟩ := findAt_best W p u v r q hs.1.2.2.2.2 hs.2.1.2.2.2.2 (W - u + 1) M
    have g0 : 0 ≤ gapG W p u v r q (i % (W - u + 1)) (i / (W - u + 1)) := (gapU_bounds W p u r q (i % (W - u + 1)) (i / (W - u + 1)) hs.1.2.2.2.2 hs.2.1.2.2.2.2 (u * v * p)).1
    have e2 := findR_at W H p u v r q hs
    rw [hM, he] at e2
    rw [e2]
    have hp := hplace i hi
    have hc := crop_at W H p u v (i % (W - u + 1)) (i / (W - u + 1)) r hs.1 b5 b6 (by omega) (by omega)
    have hgp := gap_at W H p u v (i % (W - u + 1)) (i / (W - u + 1)) r q hs.1 hll hs.2.1 hlq2 b5 b6 b3 b4 b1 b2 (by omega) (by omega)
    have h := find_l0 W H p u v r q _ _ hs.1 hll hs.2.1 hlq2 b5 b6 b3 b4 b1 b2 b7 b8 (fun x y hx hy => by
      have hpl := places_all (W := W) (H := H) (u := u) (v := v) (x := x) (y := y) (by omega) (by omega) M hM
      have h5 := hall _ hpl.1
      rw [hpl.2.1, hpl.2.2] at h5
      exact h5) hgp (H - v + 1) 0 (by omega) (by omega)
    rw [decide_eq_false (by show ¬ gapG W p u v r q (i % (W - u + 1)) (i / (W - u + 1)) < 0; omega)]
    exact Ev.step (fun k => by simp only [laws_FnFindImage.j0]; rfl) (evNeg (by simp) (evFix hc h))
  · have e : findR a b c r a' b' c' q = (0, 0, 0, 0, -1) := by unfold findR; rw [if_neg hs]
    rw [e]
    exact Ev.step (fun k => by simp only [laws_FnFindImage.j0]; rfl) (evPos (by simp) (evPos (by simp) (evRet (by simp))))

end Go.Proofs.Ytmaiifghplcjeaa.Pure

-- laid by hp.py (a program of this work over the kit's print), with contracts by hand for what the print does not take
import Derived.Test.YtmaiifghplcjeaaPrint0
import Derived.Test.YtmaiifghplcjeaaPrintHx0
import Derived.Test.YtmaiifghplcjeaaPrintHx2
namespace Go.Proofs.Ytmaiifghplcjeaa.Print
open Go.RowKit Go.Proofs.YtmaiifghplcjeaaW.PrintWords Go.Proofs.YtmaiifghplcjeaaW.PrintLast Go.Proofs.YtmaiifghplcjeaaW.PrintMore
attribute [local go_sem] max2_int min2_int max_two min_two max_three min_three max_four min_four   -- for this text's walks alone
set_option linter.unusedVariables false
set_option linter.unusedSimpArgs false

--SNIP impl_PaletteOf
/-! ### impl_PaletteOf: function 44, by hand -/
/-- The different pixels of an image, in their order. -/
def palAdd (acc : List (List Int)) (px : List Int) : List (List Int) := if acc.any (fun c => decide (c = px)) = true then acc else acc ++ [px]
def palN (f : Nat → Nat → List Int) (W n : Nat) : List (List Int) := (List.range n).foldl (fun acc i => palAdd acc (f (i % W) (i / W))) []
theorem palN_succ (f : Nat → Nat → List Int) (W x y : Nat) (hx : x < W) : palN f W (W * y + x + 1) = palAdd (palN f W (W * y + x)) (f x y) := by
  unfold palN
  rw [List.range_succ, List.foldl_append, List.foldl_cons, List.foldl_nil, Nat.mul_add_mod, Nat.mod_eq_of_lt hx, Nat.mul_add_div (by omega), Nat.div_eq_of_lt hx, Nat.add_zero]
theorem palN_length (f : Nat → Nat → List Int) (W n : Nat) : (palN f W n).length ≤ n := by
  induction n with
  | zero => exact Nat.le_refl 0
  | succ n ih =>
    unfold palN at ih ⊢
    rw [List.range_succ, List.foldl_append, List.foldl_cons, List.foldl_nil]
    generalize List.foldl (fun acc i => palAdd acc (f (i % W) (i / W))) [] (List.range n) = z at ih ⊢
    unfold palAdd
    split
    · omega
    · rw [List.length_append, List.length_singleton]; omega
theorem pal_rows : Try.prog.underlying 53 = some (.slice 22) := by kernel_rfl
theorem pal_row : (Try.prog.info? 22).map (fun i => (i.zero, i.size, i.bytes)) = some (some (.slice none 0 0), 1, 24) := by kernel_rfl
def impl_PaletteOf.f (a0 a1 a2 : Int) (l : List Int) : Option (List (List Int) × Bool) := some (if ImgOk a0 a1 a2 l then (if (palN (pixN a0.toNat a2.toNat l) a0.toNat (a0.toNat * a1.toNat)).length ≤ 16 then (palN (pixN a0.toNat a2.toNat l) a0.toNat (a0.toNat * a1.toNat), true) else ([], false)) else ([], false))
set_option maxHeartbeats 8000000 in
set_option maxRecDepth 100000 in
theorem impl_PaletteOf_1.any (g : Nat) (B : Option Addr) (d : Nat) (q : List Int) (A : Option Addr) (c : Nat) (x : List Int) (w : World) (hg : w.heap[g]? = some (.cells #[.slice B q.length d] 22 (0, 0))) (hq : Kd.C (Kd.int .i64) w B q.length q) (hx : Kd.C (Kd.int .i64) w A x.length x) :
    Calls Try.prog 94 #[.slice A x.length c, .pointer (some ⟨g, 0, none⟩)] w fun e w' => e = .returned (.bool (decide (x = q))) ∧ Drawn0 w w' := by
  have HE := Aside0.mk (fun (W : World) (hW : Drawn0 w W) => slices_Equal_int_int.any A c x B d q W (by obtain ⟨n, rfl⟩ := hW; exact hx) (by obtain ⟨n, rfl⟩ := hW; exact hq) (by have := hx.2.1; omega) (by have := hq.2.1; omega))
  have hgc := (blk_cell hg 0).trans rfl
  clear hg hq hx
  go_enter Try.func94, Try.ntmps94
  go_wp2_with (go_at_call 95; refine (HE.out _ ?_).mono ?_; (repeat (first | exact Drawn0.refl _ | apply Drawn0.step)); rintro e w' ⟨rfl, ⟨nd, rfl⟩⟩)
  go_ret
  exact ⟨rfl, by repeat (first | exact Drawn0.refl _ | apply Drawn0.step)⟩
set_option maxHeartbeats 8000000 in
set_option maxRecDepth 100000 in
theorem impl_PaletteOf.no (a0 a1 a2 : Int) (A : Option Addr) (c : Nat) (l : List Int) (w : World) (hr : Kd.C (Kd.int .i64) w A l.length l) (hc : l.length ≤ c) (h : ¬ ImgOk a0 a1 a2 l) :
    Calls Try.prog 44 #[.agg #[.int .i64 a0, .int .i64 a1, .int .i64 a2, .slice A l.length c]] w fun e w' => e = .returned (.tuple #[.slice none 0 0, .bool false]) ∧ Below w.heap.size w w' := by
  have HV : Aside0 (∀ W' : World, Below w.heap.size w W' → Calls Try.prog 52 #[.agg #[.int .i64 a0, .int .i64 a1, .int .i64 a2, .slice A l.length c]] W' fun e w' => e = .returned (.bool false) ∧ Below W'.heap.size W' w') := ⟨fun W' hW => isImage_false h A c W' (Kd.C_below hr hW) hc⟩
  have HI0 := Aside0.mk (IsImg.new w a0 a1 a2 (.slice A l.length c))
  have HB0 := Aside0.mk (below_alloc (Below.refl w.heap.size w) (.cells #[.int .i64 a0, .int .i64 a1, .int .i64 a2, .slice A l.length c] 26))
  have hu := Try.underlying26
  clear hr hc h
  go_enter Try.func44, Try.ntmps44
  go_wp2_with (first
    | (refine wpList_load_img rfl _ rfl w.heap.size a0 a1 a2 _ rfl HI0.out ?_)
    | (go_at_call 52; refine (HV.out _ HB0.out).mono ?_; rintro e w1 ⟨rfl, hb⟩; have HB1 := Aside0.mk (below_step HB0.out hb); clear hb))
  go_ret2
  exact ⟨rfl, HB1.out⟩
set_option maxHeartbeats 8000000 in
set_option maxRecDepth 100000 in
theorem impl_PaletteOf.yes (W H p : Nat) (A : Option Addr) (c : Nat) (l : List Int) (w : World) (hr : Kd.C (Kd.int .i64) w A l.length l) (hc : l.length ≤ c) (h : ImgOk W H p l) (hl : l.length = W * H * p) (hW1 : W ≤ 16) (hH1 : H ≤ 16) (hp1 : p ≤ 4) (r1 : List (List Int)) (r2 : Bool) (hR : (if (palN (pixN W p l) W (W * H)).length ≤ 16 then (palN (pixN W p l) W (W * H), true) else ([], false)) = (r1, r2)) :
    Calls Try.prog 44 #[.agg #[.int .i64 W, .int .i64 H, .int .i64 p, .slice A l.length c]] w fun e w' => ∃ v0_ : Value, e = .returned (.tuple #[v0_, .bool r2]) ∧ Kd.S (Kd.slice 3 (Kd.int .i64)) 22 w' w.heap.size (fun _ => True) v0_ r1 ∧ Below w.heap.size w w' := by
  have HRR := Aside0.mk hR
  clear hR
  have HV : Aside0 (∀ W' : World, Below w.heap.size w W' → Calls Try.prog 52 #[.agg #[.int .i64 W, .int .i64 H, .int .i64 p, .slice A l.length c]] W' fun e w' => e = .returned (.bool true) ∧ Below W'.heap.size W' w') := ⟨fun W' hW => isImage_true h A c W' (Kd.C_below hr hW) hc⟩
  have HI0 := Aside0.mk (IsImg.new w W H p (.slice A l.length c))
  have HB0 := Aside0.mk (below_alloc (Below.refl w.heap.size w) (.cells #[.int .i64 W, .int .i64 H, .int .i64 p, .slice A l.length c] 26))
  have hu := Try.underlying26
  have HAT : Aside0 (∀ (x y : Nat) (w1 : World), x < W → y < H → Below w.heap.size w w1 → Calls Try.prog 56 #[.agg #[.int .i64 W, .int .i64 H, .int .i64 p, .slice A l.length c], .int .i64 x, .int .i64 y] w1 fun e w' => ∃ (A' : Option Addr) (c' : Nat), e = .returned (.slice A' (pixN W p l x y).length c') ∧ Kd.C (Kd.int .i64) w' A' (pixN W p l x y).length (pixN W p l x y) ∧ (pixN W p l x y).length ≤ c' ∧ Below w1.heap.size w1 w') := ⟨fun x y w1 hx hy hb => impl_Image_at.any W H p A c l x y w1 (Kd.C_below hr hb) hc hl hW1 hH1 hp1 hx hy⟩
  have HL : Aside0 (∀ x y, x < W → y < H → (pixN W p l x y).length = p) := ⟨fun x y hx hy => pixN_length hx hy hl⟩
  clear hr hc h hl
  generalize pixN W p l = f at *
  go_enter Try.func44, Try.ntmps44
  go_wp2_with (first
    | (refine wpList_load_img rfl _ rfl w.heap.size W H p _ rfl HI0.out ?_)
    | (go_at_call 52; refine (HV.out _ HB0.out).mono ?_; rintro e w1 ⟨rfl, hb⟩; have HI1 := Aside0.mk (HI0.out.below hb); have hc0_1 := HI1.out.c0; have hc1_1 := HI1.out.c1; have HB1 := Aside0.mk (below_step HB0.out hb); clear hb)
    | ((with_reducible refine gate_dst (N := 11) rfl ?_); refine Kd.S_lit (Kd.slice 3 (Kd.int .i64)) _ 22 ?hg (N := 11) ?hd (xs := ([] : List (List Int))) (inner := []) (ok := fun _ => True) (okp := fun _ => True) ?hr ?hp (fun _ hk => hk) trivial (Below.refl _ _) (Nat.le_refl _) (by simp) ?_; (case hd => rfl); (case hg => rfl); (case hr => first | (go_simp; done) | (go_simp; rfl)); (case hp => exact (Reps.none _ _)); intro v2 w2 ho hb hg_ hnew_; clear hg_ hnew_; have HI2 := Aside0.mk (HI1.out.below hb); have hc0_2 := HI2.out.c0; have hc1_2 := HI2.out.c1; have HO2 := Aside0.mk (Kd.S_lower ho (below_size HB1.out)); have HB2 := Aside0.mk (below_step HB1.out hb); clear hb ho))
  clear HI0 HB0 HI1 HB1
  go_loopw [4, 14] (fun v i wr => ∃ y : Nat, y ≤ H ∧ i = .int .i64 y ∧ Aside0 (IsImg wr w.heap.size W H p (.slice A l.length c)) ∧ Aside0 (Kd.S (Kd.slice 3 (Kd.int .i64)) 22 wr w.heap.size (fun _ => True) v (palN f W (W * y))) ∧ Aside0 (Below w.heap.size w wr)) (fun _ i _ => H - (intOf i).toNat)
  case atStart => exact ⟨0, by omega, rfl, HI2, ⟨by rw [Nat.mul_zero]; exact HO2.out⟩, HB2⟩
  case round =>
    clear HI2 HO2 HB2
    obtain ⟨y, hy, rfl, HI, HO, HB⟩ := hrel
    by_cases hlt : y < H
    · obtain ⟨wo, rfl⟩ : ∃ wo : World, wo = wr := ⟨_, rfl⟩
      have hdy : decide (y < H) = true := decide_eq_true hlt
      have hc0 := HI.out.c0
      go_wp2
      go_loopw [4, 19] (fun v i wr => ∃ x : Nat, x ≤ W ∧ i = .int .i64 x ∧ Aside0 (IsImg wr w.heap.size W H p (.slice A l.length c)) ∧ Aside0 (Kd.S (Kd.slice 3 (Kd.int .i64)) 22 wr w.heap.size (fun _ => True) v (palN f W (W * y + x))) ∧ Aside0 (Below w.heap.size w wr)) (fun _ i _ => W - (intOf i).toNat)
      case atStart => exact ⟨0, by omega, rfl, HI, HO, HB⟩
      case round =>
        clear HI HO HB hc0
        obtain ⟨x, hx, rfl, HI, HO, HB⟩ := hrel
        by_cases hlx : x < W
        · obtain ⟨wo2, rfl⟩ : ∃ wo2 : World, wo2 = wr := ⟨_, rfl⟩
          have hdx : decide (x < W) = true := decide_eq_true hlx
          have HN := Aside0.mk (palN_succ f W x y hlx)
          have HPX := Aside0.mk (HL.out x y hlx hlt)
          have hlen : (palN f W (W * y + x)).length ≤ 4096 := by
            have h1 := palN_length f W (W * y + x)
            have h2 : W * y ≤ 16 * 16 := Nat.mul_le_mul hW1 (by omega)
            omega
          obtain ⟨A9, c9, e9, hc9, hC9⟩ := Kd.S_reads HO.out
          have HE9 := Aside0.mk e9
          clear e9
          obtain ⟨v9, rfl⟩ : ∃ v9 : Value, v9 = u4 := ⟨_, rfl⟩
          have hl9 : (palN f W (W * y + x)).length ≤ 9223372036854775807 := by omega
          have hadd : ∀ v, ((palN f W (W * y + x)).any fun c => decide (c = f x y)) = v → palAdd (palN f W (W * y + x)) (f x y) = if v = true then palN f W (W * y + x) else palN f W (W * y + x) ++ [f x y] := fun v hv => by unfold palAdd; rw [hv]
          have HAD := Aside0.mk hadd
          clear hadd hc9 hC9
          generalize palN f W (W * y + x) = xs at *
          generalize hpq : f x y = px at *
          have HP := HAT.out x y
          rw [hpq] at HP
          have HP2 := Aside0.mk (fun w1 hb => HP w1 hlx hlt hb)
          clear HP hpq
          have HCF := Aside0.mk (fun (v : Bool) (hv : (xs.any fun c => decide (c = px)) = v) (w6 : World) (gb : Nat) (A3 : Option Addr) (c3 : Nat) (hk : w6.heap[gb]? = some (.cells #[.slice A3 px.length c3] 22 (0, 0))) (hC : Kd.C (Kd.int .i64) w6 A3 px.length px) (hO : Kd.S (Kd.slice 3 (Kd.int .i64)) 22 w6 w.heap.size (fun _ => True) v9 xs) => show Calls Try.prog 93 #[v9, .func (.func 94) #[] #[.pointer (some ⟨gb, 0, none⟩)]] w6 fun e w' => e = .returned (.bool v) ∧ Drawn0 w6 w' from by
            rw [HE9.out] at hO ⊢
            obtain ⟨z1, z2, z3⟩ := Kd.S_reads' hO
            have h := slices_ContainsFunc_intSS_int.any 94 _ #[.pointer (some ⟨gb, 0, none⟩)] (fun c => decide (c = px)) Try.func94 (by kernel_rfl) rfl A9 c9 xs w6 z3 hl9 (fun z B d w' _ hw hz => impl_PaletteOf_1.any gb A3 c3 px B d z w' (by obtain ⟨n, rfl⟩ := hw; exact hk) (by obtain ⟨n, rfl⟩ := hw; exact hC) hz)
            rw [hv] at h
            exact h)
          have HADC := Aside0.mk (fun v hv => (⟨HAD.out v hv, HCF.out v hv⟩ : _ ∧ _))
          clear HAD HCF hl9
          generalize (xs.any fun c => decide (c = px)) = va at HADC
          obtain ⟨ha, hcf⟩ := HADC.out va rfl
          have HA := Aside0.mk ha
          have HCF := Aside0.mk hcf
          have HNE := Aside0.mk (fun (w7 : World) (hO : Kd.S (Kd.slice 3 (Kd.int .i64)) 22 w7 w.heap.size (fun _ => True) v9 xs) => show ∀ k, w7.heap.size ≤ k → True ∧ some k ≠ (v9 : Value).ownBlock from fun k hk => ⟨trivial, fun he => by
            have := Kd.S_lt hO k he.symm
            omega⟩)
          clear HADC ha hcf
          cases va with
          | true =>
            go_wp2_with (first
              | (refine wpList_load_img rfl _ rfl w.heap.size W H p _ rfl HI.out ?_)
              | (go_at_call 56; refine (HP2.out _ HB.out).mono ?_; rintro e w3 ⟨A3, c3, rfl, hC3, hcap3, hb3⟩; have HI3 := Aside0.mk (HI.out.below hb3); have HO3 := Aside0.mk (Kd.S_below HO.out hb3); have HB3 := Aside0.mk (below_step HB.out hb3); have HC3 := Aside0.mk hC3; clear hb3 hC3 hcap3)
              | ((with_reducible refine gate_dst (N := 7) rfl ?_); refine box_event ?hg (N := 7) ?hd (cs := #[.slice none 0 0]) (t := 22) ?hr ?_; (case hd => rfl); (case hg => rfl); (case hr => first | (go_simp; done) | (go_simp; rfl)); intro gb hg w5 hbox hb; have HK5 := Aside0.mk hbox; have hkc5 := (blk_cell HK5.out 0).trans rfl; have hkf5 := blk_frozen HK5.out 0; have HG := Aside0.mk (show w3.heap.size ≤ gb by rw [hg]; exact Nat.le_refl _); have HB5 := Aside0.mk hb; clear hb hbox hg)
              | (go_at_call 93; obtain ⟨w6, hw6⟩ : ∃ w6, w6 = w5.setCell ⟨gb, 0, none⟩ (.slice A3 px.length c3) := ⟨_, rfl⟩; rw [← hw6]; have HK6 : Aside0 (w6.heap[gb]? = some (.cells #[.slice A3 px.length c3] 22 (0, 0))) := ⟨by rw [hw6]; exact blk_put HK5.out 0 _ rfl⟩; have hb6 : Below w3.heap.size w3 w6 := (by rw [hw6]; exact below_set HB5.out HG.out); have HI6 := Aside0.mk (HI3.out.below hb6); have HO6 := Aside0.mk (Kd.S_below HO3.out hb6); have HC6 := Aside0.mk (Kd.C_below HC3.out hb6); have HB6 := Aside0.mk (below_step HB3.out hb6); clear hw6 hb6 HB5 HK5 HG HI3 HO3 HC3 HB3 hkc5 hkf5; refine (HCF.out w6 gb A3 c3 HK6.out HC6.out HO6.out).mono ?_; rintro e w7 ⟨rfl, hd7⟩; have hb7 : Below w6.heap.size w6 w7 := (by obtain ⟨n, rfl⟩ := hd7; exact pw_below_drewN (Below.refl _ _) _); have HI7 := Aside0.mk (HI6.out.below hb7); have HO7 := Aside0.mk (Kd.S_below HO6.out hb7); have HB7 := Aside0.mk (below_step HB6.out hb7); clear hd7 hb7))
            go_roundw
            case rel => exact ⟨x + 1, by omega, by go_num, HI7, ⟨by rw [← Nat.add_assoc, HN.out, HA.out]; exact HO7.out⟩, HB7⟩
            case measure => simp [intOf]; omega
          | false =>
            go_wp2_with (first
              | (refine wpList_load_img rfl _ rfl w.heap.size W H p _ rfl HI.out ?_)
              | (go_at_call 56; refine (HP2.out _ HB.out).mono ?_; rintro e w3 ⟨A3, c3, rfl, hC3, hcap3, hb3⟩; have HI3 := Aside0.mk (HI.out.below hb3); have HO3 := Aside0.mk (Kd.S_below HO.out hb3); have HB3 := Aside0.mk (below_step HB.out hb3); have HC3 := Aside0.mk hC3; clear hb3 hC3 hcap3)
              | ((with_reducible refine gate_dst (N := 7) rfl ?_); refine box_event ?hg (N := 7) ?hd (cs := #[.slice none 0 0]) (t := 22) ?hr ?_; (case hd => rfl); (case hg => rfl); (case hr => first | (go_simp; done) | (go_simp; rfl)); intro gb hg w5 hbox hb; have HK5 := Aside0.mk hbox; have hkc5 := (blk_cell HK5.out 0).trans rfl; have hkf5 := blk_frozen HK5.out 0; have HG := Aside0.mk (show w3.heap.size ≤ gb by rw [hg]; exact Nat.le_refl _); have HB5 := Aside0.mk hb; clear hb hbox hg)
              | (go_at_call 93; obtain ⟨w6, hw6⟩ : ∃ w6, w6 = w5.setCell ⟨gb, 0, none⟩ (.slice A3 px.length c3) := ⟨_, rfl⟩; rw [← hw6]; have HK6 : Aside0 (w6.heap[gb]? = some (.cells #[.slice A3 px.length c3] 22 (0, 0))) := ⟨by rw [hw6]; exact blk_put HK5.out 0 _ rfl⟩; have hb6 : Below w3.heap.size w3 w6 := (by rw [hw6]; exact below_set HB5.out HG.out); have HI6 := Aside0.mk (HI3.out.below hb6); have HO6 := Aside0.mk (Kd.S_below HO3.out hb6); have HC6 := Aside0.mk (Kd.C_below HC3.out hb6); have HB6 := Aside0.mk (below_step HB3.out hb6); clear hw6 hb6 HB5 HK5 HG HI3 HO3 HC3 HB3 hkc5 hkf5; refine (HCF.out w6 gb A3 c3 HK6.out HC6.out HO6.out).mono ?_; rintro e w7 ⟨rfl, hd7⟩; have hb7 : Below w6.heap.size w6 w7 := (by obtain ⟨n, rfl⟩ := hd7; exact pw_below_drewN (Below.refl _ _) _); have HI7 := Aside0.mk (HI6.out.below hb7); have HO7 := Aside0.mk (Kd.S_below HO6.out hb7); have HC7 := Aside0.mk (Kd.C_below HC6.out hb7); have HK7 : Aside0 (w7.heap[gb]? = some (.cells #[.slice A3 px.length c3] 22 (0, 0))) := ⟨by obtain ⟨n, rfl⟩ := hd7; exact HK6.out⟩; have HB7 := Aside0.mk (below_step HB6.out hb7); clear hd7 hb7)
              | ((with_reducible refine gate_dst (N := 31) rfl ?_); refine Kd.R_lit (Kd.int .i64) _ 3 ?hg (N := 31) ?hd (xs := ([] : List Int)) (inner := []) (ok := fun k => w7.heap.size ≤ k) (okp := fun _ => False) ?hr ?hp (fun _ hk => hk.elim) (Nat.le_refl _) (Below.refl _ _) (Nat.le_refl _) (by simp) ?_; (case hd => rfl); (case hg => rfl); (case hr => first | (go_simp; done) | (go_simp; rfl)); (case hp => exact (Reps.none _ _)); intro v8 w8 ho hb hg_ hnew_; clear hg_ hnew_; have HC8 := Aside0.mk (Kd.C_below HC7.out hb); have HL8 := Aside0.mk ho; have HB8 := Aside0.mk hb; have hkc8 := (blk_cell (blk_below HK7.out hb) 0).trans rfl; clear hb ho)
              | ((with_reducible refine gate_builtin (b := .append) (xs := #[.tmp 31, .tmp 32]) rfl ?_); at_builtin; refine Kd.R_append_rows (Kd.int .i64) (w0 := w7) w7.heap.size rfl (.tmp 31) (.tmp 32) 22 3 (.int .i64 0) 8 rfl Try.underlying22 info3 rfl (by decide) (by omega) v8 [] px A3 _ c3 (fun k => w7.heap.size ≤ k) (fun _ => False) rfl rfl HL8.out HC8.out (fun _ _ h => h) (fun _ h => h.elim) (fun _ h => Nat.le_trans (below_size HB8.out) h) HB8.out (below_size HB8.out) ?aL ?_; (case aL => rw [HPX.out]; simp only [List.length_nil]; omega); intro v9 w9 ho hb hg hat; rw [List.nil_append] at ho; have HO9 := Aside0.mk (Kd.S_old HO7.out hb); have HI9 := Aside0.mk (HI7.out.below hb); have HB9 := Aside0.mk (below_step HB7.out hb); obtain ⟨A9', c9', e9⟩ := Kd.R_slice ho; subst e9; have HL9 := Aside0.mk (Kd.R_lower ho (below_size HB7.out)); clear ho hb hg hat)
              | ((with_reducible refine gate_builtin (b := .append) (xs := #[.tmp 30, .tmp 34]) rfl ?_); at_builtin; refine Kd.S_append (Kd.slice 3 (Kd.int .i64)) (w0 := w) w.heap.size rfl (.tmp 30) (.tmp 34) 53 22 (.slice none 0 0) 24 rfl pal_rows pal_row rfl (by decide) (by omega) v9 xs px [.slice A9' px.length c9'] (fun _ => True) (fun k => w7.heap.size ≤ k) rfl rfl ?aP ?aK (fun _ _ => trivial) (Kd.S_mono HO9.out (fun k hk => ⟨hk.1, Nat.not_le.2 hk.2⟩)) HB9.out (below_size HB9.out) ?aL ?_; (case aP => exact ⟨_, rfl, HL9.out⟩); (case aK => exact HNE.out w7 HO7.out); (case aL => omega); intro v10 w10 ho hb hg hat; have HO10 := Aside0.mk ho; have HI10 := Aside0.mk (HI9.out.grown hg (Kd.S_ne HO9.out HI9.out.out (by decide))); have HB10 := Aside0.mk hb; clear ho hb hg hat))
            go_roundw
            case rel => exact ⟨x + 1, by omega, by go_num, HI10, ⟨by rw [← Nat.add_assoc, HN.out, HA.out]; exact HO10.out⟩, HB10⟩
            case measure => simp [intOf]; omega
        · have hx' : x = W := by omega
          subst hx'
          have hdx : decide (x < x) = false := decide_eq_false (by omega)
          go_wp2
          go_roundw
          case rel => exact ⟨y + 1, by omega, by go_num, HI, ⟨by rw [Nat.mul_succ]; exact HO.out⟩, HB⟩
          case measure => simp [intOf]; omega
    · have hy' : y = H := by omega
      subst hy'
      have hdy : decide (y < y) = false := decide_eq_false (by omega)
      have hlen := palN_length f W (W * y)
      obtain ⟨A9, c9, e9, hc9, hC9⟩ := Kd.S_reads HO.out
      subst e9
      by_cases hn : (palN f W (W * y)).length ≤ 16
      · have hdn : decide ((16 : Int) < ((palN f W (W * y)).length : Int)) = false := decide_eq_false (by omega)
        have hdn2 : decide (16 < (palN f W (W * y)).length) = false := decide_eq_false (by omega)
        have HRR2 := HRR.out
        rw [if_pos hn] at HRR2
        obtain ⟨rfl, rfl⟩ := Prod.mk.inj HRR2
        clear hn hlen HRR HRR2
        go_wp2
        go_ret2
        exact ⟨_, rfl, HO.out, HB.out⟩
      · have hdn : decide ((16 : Int) < ((palN f W (W * y)).length : Int)) = true := decide_eq_true (by omega)
        have hdn2 : decide (16 < (palN f W (W * y)).length) = true := decide_eq_true (by omega)
        have HRR2 := HRR.out
        rw [if_neg hn] at HRR2
        obtain ⟨rfl, rfl⟩ := Prod.mk.inj HRR2
        clear hn hlen HRR HRR2
        go_wp2
        go_ret2
        exact ⟨_, rfl, Kd.S_nil _ _ _ _ _, HB.out⟩
theorem impl_PaletteOf.calls (a0_0 : Int) (a0_1 : Int) (a0_2 : Int) (A0_3 : Option Addr) (c0_3 : Nat) (l0_3 : List Int) (r1 : List (List Int)) (r2 : Bool) (w : World) (hr0_3 : Kd.C (Kd.int .i64) w A0_3 l0_3.length l0_3) (hc0_3 : l0_3.length ≤ c0_3) (h : impl_PaletteOf.f a0_0 a0_1 a0_2 l0_3 = some (r1, r2)) :
    Calls Try.prog 44 #[.agg #[.int .i64 a0_0, .int .i64 a0_1, .int .i64 a0_2, .slice A0_3 l0_3.length c0_3]] w fun e w' => ∃ v0_ : Value, e = .returned (.tuple #[v0_, .bool r2]) ∧ Kd.S (Kd.slice 3 (Kd.int .i64)) 22 w' w.heap.size (fun _ => True) v0_ r1 ∧ Below w.heap.size w w' := by
  unfold impl_PaletteOf.f at h
  have h := Option.some.inj h
  by_cases hk : ImgOk a0_0 a0_1 a0_2 l0_3
  · rw [if_pos hk] at h
    have hk2 := hk
    obtain ⟨W, H, p, rfl, rfl, rfl, hl, b1, b2, b3, b4, b5, b6⟩ := hk2.nats
    simp only [Int.toNat_natCast] at h
    exact impl_PaletteOf.yes W H p A0_3 c0_3 l0_3 w hr0_3 hc0_3 hk hl b4 b5 b6 r1 r2 h
  · rw [if_neg hk] at h
    obtain ⟨rfl, rfl⟩ := Prod.mk.inj h
    refine (impl_PaletteOf.no _ _ _ A0_3 c0_3 l0_3 w hr0_3 hc0_3 hk).mono ?_
    rintro e w1 ⟨rfl, hb⟩
    exact ⟨_, rfl, Kd.S_nil _ _ _ _ _, hb⟩

end Go.Proofs.Ytmaiifghplcjeaa.Print

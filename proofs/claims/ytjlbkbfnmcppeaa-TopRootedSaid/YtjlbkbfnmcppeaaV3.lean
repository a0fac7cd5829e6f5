/-
  What calls of the program's functions come to (part V3): each function walked once; the conditions stand in each theorem.
-/
import Derived.Test.YtjlbkbfnmcppeaaV2
set_option maxHeartbeats 2000000
set_option linter.unusedSimpArgs false
set_option linter.unusedVariables false
set_option maxRecDepth 100000
namespace Go.Proofs.Ytjlbkbfnmcppeaa.Sl
open Go Go.RowKit
attribute [local irreducible] ofH sumH eightF putT ofL bitop

theorem checks04_c (w : World) {A : Option Addr} {m c : Nat} (want : H) (n i0 : Int) (h : H) (p0 : List H) (hP : Has w (slc (pur hv) 32) (.slice A m c) p0) :
    Calls Try.prog 13 #[(.agg (hv want)), (.int .i64 n), (.int .i64 i0), (.agg (hv h)), (.slice A p0.length c)] w (fun e w' => e = .returned (.bool (checkB want n i0 h p0)) ∧ Below w.heap.size w w') := by
  obtain ⟨rfl, hnc, hcm⟩ := hP.len
  refine calls_WC (c := _) (n := 74) (vs := [(.agg (hv want)), (.int .i64 n), (.int .i64 i0), (.agg (hv h)), (.slice A p0.length c)]) Try.func13 rfl Try.ntmps13 (Nat.le_of_ble_eq_true rfl) ?_
  have S := SL.start w
  refine WC_seq ?_
  refine WC_region ?_
  refine WL_cons (WO_box (v := (.agg (hv want))) (row := hv want) S (on_none rfl) (by decide) rfl rfl ?_)
  intro g1 wg1 S
  refine WL_cons (WO_box (v := (.agg (hv h))) (row := hv h) S (on_none rfl) (by decide) rfl rfl ?_)
  intro g2 wg2 S
  refine WL_cons (WO_val (v := (.bool false)) (on_none rfl) rfl (by decide) (x_as (v := (.bool false)) rfl) ?_)
  refine WL_nil ?_
  show WC Try.prog 74 _ _ _ _
  refine WC_seq ?_
  refine WC_seq ?_
  rcases Bool.eq_false_or_eq_true (decide (i0 < 0)) with hg1 | hg1
  · skip
    have hg1_ := of_decide_eq_true hg1
    refine WC_region ?_
    refine WL_cons (WO_val (v := (.int .i64 i0)) (on_none rfl) rfl (by decide) (x_mv (v := (.int .i64 i0)) rfl) ?_)
    refine WL_cons (WO_val (v := (.bool (decide (i0 < 0)))) (on_none rfl) rfl (by decide) (x_lss (a := i0) (b := 0) rfl rfl) ?_)
    refine WL_cons (WO_val (v := (.bool (decide (i0 < 0)))) (on_none rfl) rfl (by decide) (x_mv (v := (.bool (decide (i0 < 0)))) rfl) ?_)
    refine WL_cons (WO_off (off_guard rfl rfl (congrArg Value.bool hg1)) rfl (by decide) ?_)
    refine WL_cons (WO_off (off_guard rfl rfl (congrArg Value.bool hg1)) rfl (by decide) ?_)
    refine WL_cons (WO_off (off_guard rfl rfl (congrArg Value.bool hg1)) rfl (by decide) ?_)
    refine WL_cons (WO_val (v := (.bool true)) (on_none rfl) rfl (by decide) (x_pick_t (congrArg Value.bool hg1)) ?_)
    refine WL_cons (WO_val (v := (.bool true)) (on_none rfl) rfl (by decide) (x_mv (v := (.bool true)) rfl) ?_)
    refine WL_cons (WO_off (off_guard rfl rfl rfl) rfl (by decide) ?_)
    refine WL_cons (WO_off (off_guard rfl rfl rfl) rfl (by decide) ?_)
    refine WL_cons (WO_val (v := (.bool true)) (on_none rfl) rfl (by decide) (x_pick_t rfl) ?_)
    refine WL_nil ?_
    show WC Try.prog 74 _ _ _ _
    refine WC_cond (t := true) rfl (fun _ => ?_) (fun h => by cases h)
    show WC Try.prog 74 _ _ _ _
    refine WC_seq ?_
    refine WC_region ?_
    refine WL_cons (WO_val (v := (.bool false)) (on_none rfl) rfl (by decide) (x_as (v := (.bool false)) rfl) ?_)
    refine WL_nil ?_
    show WC Try.prog 74 _ _ _ _
    refine WC_ret ?_
    refine thenR ?_
    show retQ Try.prog Try.f13 _ .ret _ _
    have hB : (false : Bool) = checkB want n i0 h p0 := by
      first
        | (rw [checkB, if_pos (by omega)]; done)
        | (rw [checkB, if_neg (by omega), ← hR, chkL_none (by omega) (by omega) (by omega)]; done)
        | (rw [checkB, if_neg (by omega), ← hR, chkL_end_f (by omega) (by omega)]; done)
        | (rw [checkB, if_neg (by omega), ← hR, chkL_end_t (by omega) (by omega)]; done)
    exact ret1 (fn := Try.f13) (v := (.bool false)) rfl rfl ⟨by rw [hB], S.below⟩
  · skip
    have hg1_ := of_decide_eq_false hg1
    rcases Bool.eq_false_or_eq_true (decide (n ≤ i0)) with hg2 | hg2
    · skip
      have hg2_ := of_decide_eq_true hg2
      refine WC_region ?_
      refine WL_cons (WO_val (v := (.int .i64 i0)) (on_none rfl) rfl (by decide) (x_mv (v := (.int .i64 i0)) rfl) ?_)
      refine WL_cons (WO_val (v := (.bool (decide (i0 < 0)))) (on_none rfl) rfl (by decide) (x_lss (a := i0) (b := 0) rfl rfl) ?_)
      refine WL_cons (WO_val (v := (.bool (decide (i0 < 0)))) (on_none rfl) rfl (by decide) (x_mv (v := (.bool (decide (i0 < 0)))) rfl) ?_)
      refine WL_cons (WO_val (v := (.int .i64 i0)) (on_guard rfl rfl (congrArg Value.bool hg1)) rfl (by decide) (x_mv (v := (.int .i64 i0)) rfl) ?_)
      refine WL_cons (WO_val (v := (.int .i64 n)) (on_guard rfl rfl (congrArg Value.bool hg1)) rfl (by decide) (x_mv (v := (.int .i64 n)) rfl) ?_)
      refine WL_cons (WO_val (v := (.bool (decide (n ≤ i0)))) (on_guard rfl rfl (congrArg Value.bool hg1)) rfl (by decide) (x_geq (a := i0) (b := n) rfl rfl) ?_)
      refine WL_cons (WO_val (v := (.bool (decide (n ≤ i0)))) (on_none rfl) rfl (by decide) (x_pick_f (congrArg Value.bool hg1)) ?_)
      refine WL_cons (WO_val (v := (.bool (decide (n ≤ i0)))) (on_none rfl) rfl (by decide) (x_mv (v := (.bool (decide (n ≤ i0)))) rfl) ?_)
      refine WL_cons (WO_off (off_guard rfl rfl (congrArg Value.bool hg2)) rfl (by decide) ?_)
      refine WL_cons (WO_off (off_guard rfl rfl (congrArg Value.bool hg2)) rfl (by decide) ?_)
      refine WL_cons (WO_val (v := (.bool true)) (on_none rfl) rfl (by decide) (x_pick_t (congrArg Value.bool hg2)) ?_)
      refine WL_nil ?_
      show WC Try.prog 74 _ _ _ _
      refine WC_cond (t := true) rfl (fun _ => ?_) (fun h => by cases h)
      show WC Try.prog 74 _ _ _ _
      refine WC_seq ?_
      refine WC_region ?_
      refine WL_cons (WO_val (v := (.bool false)) (on_none rfl) rfl (by decide) (x_as (v := (.bool false)) rfl) ?_)
      refine WL_nil ?_
      show WC Try.prog 74 _ _ _ _
      refine WC_ret ?_
      refine thenR ?_
      show retQ Try.prog Try.f13 _ .ret _ _
      have hB : (false : Bool) = checkB want n i0 h p0 := by
        first
          | (rw [checkB, if_pos (by omega)]; done)
          | (rw [checkB, if_neg (by omega), ← hR, chkL_none (by omega) (by omega) (by omega)]; done)
          | (rw [checkB, if_neg (by omega), ← hR, chkL_end_f (by omega) (by omega)]; done)
          | (rw [checkB, if_neg (by omega), ← hR, chkL_end_t (by omega) (by omega)]; done)
      exact ret1 (fn := Try.f13) (v := (.bool false)) rfl rfl ⟨by rw [hB], S.below⟩
    · skip
      have hg2_ := of_decide_eq_false hg2
      refine WC_region ?_
      refine WL_cons (WO_val (v := (.int .i64 i0)) (on_none rfl) rfl (by decide) (x_mv (v := (.int .i64 i0)) rfl) ?_)
      refine WL_cons (WO_val (v := (.bool (decide (i0 < 0)))) (on_none rfl) rfl (by decide) (x_lss (a := i0) (b := 0) rfl rfl) ?_)
      refine WL_cons (WO_val (v := (.bool (decide (i0 < 0)))) (on_none rfl) rfl (by decide) (x_mv (v := (.bool (decide (i0 < 0)))) rfl) ?_)
      refine WL_cons (WO_val (v := (.int .i64 i0)) (on_guard rfl rfl (congrArg Value.bool hg1)) rfl (by decide) (x_mv (v := (.int .i64 i0)) rfl) ?_)
      refine WL_cons (WO_val (v := (.int .i64 n)) (on_guard rfl rfl (congrArg Value.bool hg1)) rfl (by decide) (x_mv (v := (.int .i64 n)) rfl) ?_)
      refine WL_cons (WO_val (v := (.bool (decide (n ≤ i0)))) (on_guard rfl rfl (congrArg Value.bool hg1)) rfl (by decide) (x_geq (a := i0) (b := n) rfl rfl) ?_)
      refine WL_cons (WO_val (v := (.bool (decide (n ≤ i0)))) (on_none rfl) rfl (by decide) (x_pick_f (congrArg Value.bool hg1)) ?_)
      refine WL_cons (WO_val (v := (.bool (decide (n ≤ i0)))) (on_none rfl) rfl (by decide) (x_mv (v := (.bool (decide (n ≤ i0)))) rfl) ?_)
      refine WL_cons (WO_val (v := (.int .i64 n)) (on_guard rfl rfl (congrArg Value.bool hg2)) rfl (by decide) (x_mv (v := (.int .i64 n)) rfl) ?_)
      refine WL_cons (WO_val (v := (.bool (decide (1048576 < n)))) (on_guard rfl rfl (congrArg Value.bool hg2)) rfl (by decide) (x_gtr (a := n) (b := 1048576) rfl rfl) ?_)
      refine WL_cons (WO_val (v := (.bool (decide (1048576 < n)))) (on_none rfl) rfl (by decide) (x_pick_f (congrArg Value.bool hg2)) ?_)
      refine WL_nil ?_
      show WC Try.prog 74 _ _ _ _
      refine WC_cond (t := decide (1048576 < n)) rfl (fun hc1 => ?_) (fun hc1 => ?_)
      · show WC Try.prog 74 _ _ _ _
        have hc1_ := of_decide_eq_true hc1
        refine WC_seq ?_
        refine WC_region ?_
        refine WL_cons (WO_val (v := (.bool false)) (on_none rfl) rfl (by decide) (x_as (v := (.bool false)) rfl) ?_)
        refine WL_nil ?_
        show WC Try.prog 74 _ _ _ _
        refine WC_ret ?_
        refine thenR ?_
        show retQ Try.prog Try.f13 _ .ret _ _
        have hB : (false : Bool) = checkB want n i0 h p0 := by
          first
            | (rw [checkB, if_pos (by omega)]; done)
            | (rw [checkB, if_neg (by omega), ← hR, chkL_none (by omega) (by omega) (by omega)]; done)
            | (rw [checkB, if_neg (by omega), ← hR, chkL_end_f (by omega) (by omega)]; done)
            | (rw [checkB, if_neg (by omega), ← hR, chkL_end_t (by omega) (by omega)]; done)
        exact ret1 (fn := Try.f13) (v := (.bool false)) rfl rfl ⟨by rw [hB], S.below⟩
      · show WC Try.prog 74 _ _ _ _
        have hc1_ := of_decide_eq_false hc1
        refine WC_skip ?_
        show WC Try.prog 74 _ _ _ _
        refine WC_seq ?_
        refine WC_region ?_
        refine WL_cons (WO_val (v := (.slice (some ⟨g2, 0, none⟩) 32 32)) (on_none rfl) rfl (by decide) (x_slice_arr rfl Try.underlying26 ti5.sz) ?_)
        refine WL_cons (WO_val (v := (.string h.1)) (on_none rfl) rfl (by decide) (x_bytes (h := h.1) rfl (S.blk_get (.here _)) Try.underlying33 Try.underlying5 Try.underlying9 h.2) ?_)
        refine WL_cons (WO_build (vs := [(.string h.1)]) (row := #[(.string h.1)]) S (on_none rfl) (by decide) Try.underlying40 ti9 rfl rfl rfl (by simp [Value.cells]) (by decide) rfl ?_)
        intro g3 wg3 S
        refine WL_cons (WO_call (on_none rfl) rfl (by decide) (x_call2 Try.func8 rfl rfl rfl rfl rfl) (of_c _ (⟨#[108, 101, 97, 102]⟩) ([h.1]) (ofL_le (⟨#[108, 101, 97, 102]⟩) ([h.1]) 4 rfl (by simp only [List.map_cons, List.map_nil, List.sum_cons, List.sum_nil, Hsz, eightF_size, zb_size] <;> omega)) (has_row1 (f := Value.string) (fun _ => rfl) [h.1] (S.blk_get (.here _)) rfl (by decide))) ?_)
        rintro _ wc1 ⟨rfl, hb⟩
        refine ⟨_, rfl, ?_⟩
        replace S := S.keep hb
        clear hb
        refine WL_cons (WO_alloc (row := hv zeroH) S (on_none rfl) (by decide) ti26 rfl ?_)
        intro g4 wg4 S
        refine WL_cons (WO_store (v := (.agg (hv (ofH (⟨#[108, 101, 97, 102]⟩) ([h.1]))))) (row := hv zeroH) (row' := hv (ofH (⟨#[108, 101, 97, 102]⟩) ([h.1]))) S (on_none rfl) rfl rfl (.here _) ti26.sz (hv_size _) (by rw [hv_size]; exact Nat.le_refl _) (bv_one _) (splice_all _ _ (((hv_size _)).trans ((hv_size _)).symm)) ?_)
        intro ws1 S
        refine WL_nil ?_
        show WC Try.prog 74 _ _ _ _
        refine WC_seq ?_
        refine WC_region ?_
        refine WL_cons (WO_val (v := (.int .i64 n)) (on_none rfl) rfl (by decide) (x_mv (v := (.int .i64 n)) rfl) ?_)
        refine WL_cons (WO_val (v := (.int .i64 n)) (on_none rfl) rfl (by decide) (x_as (v := (.int .i64 n)) rfl) ?_)
        refine WL_nil ?_
        show WC Try.prog 74 _ _ _ _
        refine WC_seq ?_
        refine WC_block ?_
        refine WC_loop (fun kq e' w' => ∃ (i : Int) (wide : Int) (p : List H) (Ap : Option Addr) (mp : Nat) (cp : Nat) (top : H) (eb : Env), e' = updL eb [(1, (.int .i64 n)), (2, (.int .i64 i)), (4, (.slice Ap mp cp)), (5, (.pointer (some ⟨g1, 0, none⟩))), (11, (.pointer (some ⟨g4, 0, none⟩))), (12, (.int .i64 wide))] ∧ SL w [blk g4 26 (hv top), blk g3 9 (#[(.string h.1)]), blk g2 26 (hv h), blk g1 26 (hv want)] w' ∧ (0 ≤ i ∧ i ≤ 1048576) ∧ (0 ≤ wide ∧ wide ≤ 1048576) ∧ (chkL n want top i wide p = chkL n want (leafH h) i0 n p0) ∧ (Has w (slc (pur hv) 32) (.slice Ap mp cp) p) ∧ wide.toNat = kq) (k := _) ⟨i0, n, p0, A, p0.length, c, (ofH (⟨#[108, 101, 97, 102]⟩) ([h.1])), _, (updL_eq _ _ (by exact ⟨rfl, rfl, rfl, rfl, rfl, rfl, trivial⟩)).symm, S, (by omega), (by omega), rfl, hP, rfl⟩ ?_
        clear S
        rintro k1 e1 wl1 ⟨i, wide, p, Ap, mp, cp, top, eb, rfl, S, hi, hw, hR, hPp, rfl⟩
        show WC Try.prog 74 _ _ _ _
        obtain ⟨rfl, hpc, hpm⟩ := hPp.len
        have hox := xor1_nn i (by omega) (by omega)
        refine WC_seq ?_
        refine WC_seq ?_
        refine WC_region ?_
        refine WL_cons (WO_val (v := (.int .i64 wide)) (on_none rfl) rfl (by decide) (x_mv (v := (.int .i64 wide)) rfl) ?_)
        refine WL_cons (WO_val (v := (.bool (decide (1 < wide)))) (on_none rfl) rfl (by decide) (x_gtr (a := wide) (b := 1) rfl rfl) ?_)
        refine WL_nil ?_
        show WC Try.prog 74 _ _ _ _
        refine WC_cond (t := decide (1 < wide)) rfl (fun hc2 => ?_) (fun hc2 => ?_)
        · show WC Try.prog 74 _ _ _ _
          have hc2_ := of_decide_eq_true hc2
          refine WC_skip ?_
          show WC Try.prog 74 _ _ _ _
          refine WC_block ?_
          refine WC_seq ?_
          refine WC_seq ?_
          refine WC_region ?_
          refine WL_cons (WO_val (v := (.int .i64 i)) (on_none rfl) rfl (by decide) (x_mv (v := (.int .i64 i)) rfl) ?_)
          refine WL_cons (WO_val (v := (.int .i64 (bitop .xor .i64 i 1))) (on_none rfl) rfl (by decide) (x_xor (a := i) (b := 1) rfl rfl) ?_)
          refine WL_cons (WO_val (v := (.int .i64 wide)) (on_none rfl) rfl (by decide) (x_mv (v := (.int .i64 wide)) rfl) ?_)
          refine WL_cons (WO_val (v := (.bool (decide (bitop .xor .i64 i 1 < wide)))) (on_none rfl) rfl (by decide) (x_lss (a := bitop .xor .i64 i 1) (b := wide) rfl rfl) ?_)
          refine WL_nil ?_
          show WC Try.prog 74 _ _ _ _
          refine WC_cond (t := decide (bitop .xor .i64 i 1 < wide)) rfl (fun hc3 => ?_) (fun hc3 => ?_)
          · show WC Try.prog 74 _ _ _ _
            have hc3_ := of_decide_eq_true hc3
            refine WC_seq ?_
            refine WC_seq ?_
            refine WC_region ?_
            refine WL_cons (WO_val (v := (.slice Ap p.length cp)) (on_none rfl) rfl (by decide) (x_mv (v := (.slice Ap p.length cp)) rfl) ?_)
            refine WL_cons (WO_val (v := (.int .i64 ((p.length : Nat) : Int))) (on_none rfl) rfl (by decide) (x_len_slc rfl Try.underlying22) ?_)
            refine WL_cons (WO_val (v := (.bool (decide (((p.length : Nat) : Int) = 0)))) (on_none rfl) rfl (by decide) (x_eql (a := ((p.length : Nat) : Int)) (b := 0) rfl rfl) ?_)
            refine WL_nil ?_
            show WC Try.prog 74 _ _ _ _
            refine WC_cond (t := decide (((p.length : Nat) : Int) = 0)) rfl (fun hc4 => ?_) (fun hc4 => ?_)
            · show WC Try.prog 74 _ _ _ _
              have hc4_ := of_decide_eq_true hc4
              refine WC_seq ?_
              refine WC_region ?_
              refine WL_cons (WO_val (v := (.bool false)) (on_none rfl) rfl (by decide) (x_as (v := (.bool false)) rfl) ?_)
              refine WL_nil ?_
              show WC Try.prog 74 _ _ _ _
              refine WC_ret ?_
              refine thenR ?_
              refine thenR ?_
              refine blockR ?_
              refine thenR ?_
              refine blockR ?_
              refine thenR ?_
              show retQ Try.prog Try.f13 _ .ret _ _
              have hB : (false : Bool) = checkB want n i0 h p0 := by
                first
                  | (rw [checkB, if_pos (by omega)]; done)
                  | (rw [checkB, if_neg (by omega), ← hR, chkL_none (by omega) (by omega) (by omega)]; done)
                  | (rw [checkB, if_neg (by omega), ← hR, chkL_end_f (by omega) (by omega)]; done)
                  | (rw [checkB, if_neg (by omega), ← hR, chkL_end_t (by omega) (by omega)]; done)
              exact ret1 (fn := Try.f13) (v := (.bool false)) rfl rfl ⟨by rw [hB], S.below⟩
            · show WC Try.prog 74 _ _ _ _
              have hc4_ := of_decide_eq_false hc4
              refine WC_skip ?_
              show WC Try.prog 74 _ _ _ _
              refine WC_seq ?_
              refine WC_region ?_
              refine WL_cons (WO_val (v := (.slice Ap p.length cp)) (on_none rfl) rfl (by decide) (x_mv (v := (.slice Ap p.length cp)) rfl) ?_)
              refine WL_cons (WO_val (v := (eaddr Ap ((0 : Int).toNat * 32))) (on_none rfl) rfl (by decide) (x_index_slc (i := 0) rfl rfl Try.underlying22 ti26.sz (by omega) (by omega) (Has.some (S.old hPp) (by omega))) ?_)
              refine WL_cons (WO_val (v := (.agg (hv (hat p 0)))) (on_none rfl) rfl (by decide) (x_el (x := hat p 0) (S.old hPp) (hat_some (by omega) (by omega)) rfl Try.underlying26 rfl ti26.sz) ?_)
              refine WL_cons (WO_alloc (row := hv zeroH) S (on_none rfl) (by decide) ti26 rfl ?_)
              intro g5 wg5 S
              refine WL_cons (WO_store (v := (.agg (hv (hat p 0)))) (row := hv zeroH) (row' := hv (hat p 0)) S (on_none rfl) rfl rfl (.here _) ti26.sz (hv_size _) (by rw [hv_size]; exact Nat.le_refl _) (bv_one _) (splice_all _ _ (((hv_size _)).trans ((hv_size _)).symm)) ?_)
              intro ws2 S
              refine WL_nil ?_
              show WC Try.prog 74 _ _ _ _
              refine WC_seq ?_
              refine WC_region ?_
              refine WL_cons (WO_val (v := (.slice Ap p.length cp)) (on_none rfl) rfl (by decide) (x_mv (v := (.slice Ap p.length cp)) rfl) ?_)
              refine WL_cons (WO_val (v := (.slice (sloA Ap cp (1 : Int).toNat 32) (p.length - (1 : Int).toNat) (cp - (1 : Int).toNat))) (on_none rfl) rfl (by decide) (x_slice_lo (a := 1) rfl rfl Try.underlying22 ti26.sz (by omega) (by omega)) ?_)
              refine WL_cons (WO_val (v := (.slice (sloA Ap cp (1 : Int).toNat 32) (p.length - (1 : Int).toNat) (cp - (1 : Int).toNat))) (on_none rfl) rfl (by decide) (x_as (v := (.slice (sloA Ap cp (1 : Int).toNat 32) (p.length - (1 : Int).toNat) (cp - (1 : Int).toNat))) rfl) ?_)
              refine WL_nil ?_
              show WC Try.prog 74 _ _ _ _
              refine WC_seq ?_
              refine WC_region ?_
              refine WL_cons (WO_val (v := (.int .i64 i)) (on_none rfl) rfl (by decide) (x_mv (v := (.int .i64 i)) rfl) ?_)
              refine WL_cons (WO_val (v := (.int .i64 (i % 2))) (on_none rfl) rfl (by decide) (x_rem (a := i) (b := 2) rfl rfl (by omega) (by omega)) ?_)
              refine WL_cons (WO_val (v := (.bool (decide (i % 2 = 0)))) (on_none rfl) rfl (by decide) (x_eql (a := i % 2) (b := 0) rfl rfl) ?_)
              refine WL_nil ?_
              show WC Try.prog 74 _ _ _ _
              refine WC_cond (t := decide (i % 2 = 0)) rfl (fun hc5 => ?_) (fun hc5 => ?_)
              · show WC Try.prog 74 _ _ _ _
                have hc5_ := of_decide_eq_true hc5
                refine WC_draw (S := fun wx => wx.heap[g4]? = some (.cells (hv top) 26 (0, 0)) ∧ wx.heap[g5]? = some (.cells (hv (hat p 0)) 26 (0, 0)) ∧ True) (Z := [6]) rfl ?_
                replace S := S.drew
                have hS : (World.drew ws2).heap[g4]? = some (.cells (hv top) 26 (0, 0)) ∧ (World.drew ws2).heap[g5]? = some (.cells (hv (hat p 0)) 26 (0, 0)) ∧ True := ⟨(S.blk_get (.there _ (.here _))), (S.blk_get (.here _)), trivial⟩
                show WD Try.prog 74 _ _ _ _ 7 [] _ _
                refine WD_look (v := (.slice (some ⟨g4, 0, none⟩) 32 32)) (i := 0) rfl (by kernel_rfl) rfl (by decide) (on_none rfl) (fun wx hs => (x_slice_arr rfl Try.underlying26 ti5.sz)) hS ?_
                show WD Try.prog 74 _ _ _ _ 6 _ _ _
                refine WD_look (v := (.string top.1)) (i := 1) rfl (by kernel_rfl) rfl (by decide) (on_none rfl) (fun wx hs => (x_bytes (h := top.1) rfl (hs.1) Try.underlying33 Try.underlying5 Try.underlying9 top.2)) hS ?_
                show WD Try.prog 74 _ _ _ _ 5 _ _ _
                refine WD_look (v := (.slice (some ⟨g5, 0, none⟩) 32 32)) (i := 2) rfl (by kernel_rfl) rfl (by decide) (on_none rfl) (fun wx hs => (x_slice_arr rfl Try.underlying26 ti5.sz)) hS ?_
                show WD Try.prog 74 _ _ _ _ 4 _ _ _
                refine WD_look (v := (.string ((hat p 0).1))) (i := 3) rfl (by kernel_rfl) rfl (by decide) (on_none rfl) (fun wx hs => (x_bytes (h := (hat p 0).1) rfl (hs.2.1) Try.underlying33 Try.underlying5 Try.underlying9 (hat p 0).2)) hS ?_
                show WD Try.prog 74 _ _ _ _ 3 _ _ _
                refine WD_one (i := 4) rfl (by kernel_rfl) (WO_build (vs := [(.string top.1), (.string ((hat p 0).1))]) (row := #[(.string top.1), (.string ((hat p 0).1))]) S (on_none rfl) (by decide) Try.underlying40 ti9 rfl rfl rfl (by simp [Value.cells]) (by decide) rfl ?_)
                intro g6 wg6 S
                replace hS : wg6.heap[g4]? = some (.cells (hv top) 26 (0, 0)) ∧ wg6.heap[g5]? = some (.cells (hv (hat p 0)) 26 (0, 0)) ∧ True := ⟨(S.blk_get (.there _ (.there _ (.here _)))), (S.blk_get (.there _ (.here _))), trivial⟩
                refine ⟨.inl hS, ?_⟩
                refine WD_one (i := 5) rfl (by kernel_rfl) (WO_call (on_none rfl) rfl (by decide) (x_call2 Try.func8 rfl rfl rfl rfl rfl) (of_c _ (⟨#[112, 97, 105, 114]⟩) ([top.1, (hat p 0).1]) (ofL_le (⟨#[112, 97, 105, 114]⟩) ([top.1, (hat p 0).1]) 4 rfl (by simp only [List.map_cons, List.map_nil, List.sum_cons, List.sum_nil, Hsz, eightF_size, zb_size] <;> omega)) (has_row1 (f := Value.string) (fun _ => rfl) [top.1, (hat p 0).1] (S.blk_get (.here _)) rfl (by decide))) ?_)
                rintro _ wc2 ⟨rfl, hb⟩
                refine ⟨_, rfl, ?_⟩
                replace S := S.keep hb
                clear hb
                replace hS : wc2.heap[g4]? = some (.cells (hv top) 26 (0, 0)) ∧ wc2.heap[g5]? = some (.cells (hv (hat p 0)) 26 (0, 0)) ∧ True := ⟨(S.blk_get (.there _ (.there _ (.here _)))), (S.blk_get (.there _ (.here _))), trivial⟩
                refine ⟨.inl hS, ?_⟩
                refine WD_one (i := 6) rfl (by kernel_rfl) (WO_store (v := (.agg (hv (ofH (⟨#[112, 97, 105, 114]⟩) ([top.1, (hat p 0).1]))))) (row := hv top) (row' := hv (ofH (⟨#[112, 97, 105, 114]⟩) ([top.1, (hat p 0).1]))) S (on_none rfl) rfl rfl (.there _ (.there _ (.here _))) ti26.sz (hv_size _) (by rw [hv_size]; exact Nat.le_refl _) (bv_one _) (splice_all _ _ (((hv_size _)).trans ((hv_size _)).symm)) ?_)
                intro ws3 S
                refine ⟨.inr rfl, ?_⟩
                refine WD_done (by kernel_rfl) ?_
                clear hS
                show WC Try.prog 74 _ _ _ _
                refine WC_region ?_
                refine WL_cons (WO_val (v := (.int .i64 i)) (on_none rfl) rfl (by decide) (x_mv (v := (.int .i64 i)) rfl) ?_)
                refine WL_cons (WO_val (v := (.int .i64 (i / 2))) (on_none rfl) rfl (by decide) (x_quo (a := i) (b := 2) rfl rfl (by omega) (by omega) (wi64 (by omega))) ?_)
                refine WL_cons (WO_val (v := (.int .i64 wide)) (on_none rfl) rfl (by decide) (x_mv (v := (.int .i64 wide)) rfl) ?_)
                refine WL_cons (WO_val (v := (.int .i64 (wide + 1))) (on_none rfl) rfl (by decide) (x_add (a := wide) (b := 1) rfl rfl (wi64 (by omega))) ?_)
                refine WL_cons (WO_val (v := (.int .i64 ((wide + 1) / 2))) (on_none rfl) rfl (by decide) (x_quo (a := wide + 1) (b := 2) rfl rfl (by omega) (by omega) (wi64 (by omega))) ?_)
                refine WL_cons (WO_val (v := (.int .i64 (i / 2))) (on_none rfl) rfl (by decide) (x_as (v := (.int .i64 (i / 2))) rfl) ?_)
                refine WL_cons (WO_val (v := (.int .i64 ((wide + 1) / 2))) (on_none rfl) rfl (by decide) (x_as (v := (.int .i64 ((wide + 1) / 2))) rfl) ?_)
                refine WL_nil ?_
                replace S := S.drop (.there _ (.here _))
                replace S := S.drop (.here _)
                refine ⟨_, ?_, i / 2, (wide + 1) / 2, (p.drop 1), sloA Ap cp (1 : Int).toNat 32, p.length - (1 : Int).toNat, cp - (1 : Int).toNat, (ofH (⟨#[112, 97, 105, 114]⟩) ([top.1, (hat p 0).1])), _, (updL_eq _ _ (by exact ⟨rfl, rfl, rfl, rfl, rfl, rfl, trivial⟩)).symm, S, (by omega), (by omega), ((chkL_even (by omega) (by omega) (by omega) (by omega)).symm.trans hR), (Has.drop hPp 1 (by omega)), rfl⟩
                omega
              · show WC Try.prog 74 _ _ _ _
                have hc5_ := of_decide_eq_false hc5
                refine WC_draw (S := fun wx => wx.heap[g5]? = some (.cells (hv (hat p 0)) 26 (0, 0)) ∧ wx.heap[g4]? = some (.cells (hv top) 26 (0, 0)) ∧ True) (Z := [6]) rfl ?_
                replace S := S.drew
                have hS : (World.drew ws2).heap[g5]? = some (.cells (hv (hat p 0)) 26 (0, 0)) ∧ (World.drew ws2).heap[g4]? = some (.cells (hv top) 26 (0, 0)) ∧ True := ⟨(S.blk_get (.here _)), (S.blk_get (.there _ (.here _))), trivial⟩
                show WD Try.prog 74 _ _ _ _ 7 [] _ _
                refine WD_look (v := (.slice (some ⟨g5, 0, none⟩) 32 32)) (i := 0) rfl (by kernel_rfl) rfl (by decide) (on_none rfl) (fun wx hs => (x_slice_arr rfl Try.underlying26 ti5.sz)) hS ?_
                show WD Try.prog 74 _ _ _ _ 6 _ _ _
                refine WD_look (v := (.string ((hat p 0).1))) (i := 1) rfl (by kernel_rfl) rfl (by decide) (on_none rfl) (fun wx hs => (x_bytes (h := (hat p 0).1) rfl (hs.1) Try.underlying33 Try.underlying5 Try.underlying9 (hat p 0).2)) hS ?_
                show WD Try.prog 74 _ _ _ _ 5 _ _ _
                refine WD_look (v := (.slice (some ⟨g4, 0, none⟩) 32 32)) (i := 2) rfl (by kernel_rfl) rfl (by decide) (on_none rfl) (fun wx hs => (x_slice_arr rfl Try.underlying26 ti5.sz)) hS ?_
                show WD Try.prog 74 _ _ _ _ 4 _ _ _
                refine WD_look (v := (.string top.1)) (i := 3) rfl (by kernel_rfl) rfl (by decide) (on_none rfl) (fun wx hs => (x_bytes (h := top.1) rfl (hs.2.1) Try.underlying33 Try.underlying5 Try.underlying9 top.2)) hS ?_
                show WD Try.prog 74 _ _ _ _ 3 _ _ _
                refine WD_one (i := 4) rfl (by kernel_rfl) (WO_build (vs := [(.string ((hat p 0).1)), (.string top.1)]) (row := #[(.string ((hat p 0).1)), (.string top.1)]) S (on_none rfl) (by decide) Try.underlying40 ti9 rfl rfl rfl (by simp [Value.cells]) (by decide) rfl ?_)
                intro g7 wg7 S
                replace hS : wg7.heap[g5]? = some (.cells (hv (hat p 0)) 26 (0, 0)) ∧ wg7.heap[g4]? = some (.cells (hv top) 26 (0, 0)) ∧ True := ⟨(S.blk_get (.there _ (.here _))), (S.blk_get (.there _ (.there _ (.here _)))), trivial⟩
                refine ⟨.inl hS, ?_⟩
                refine WD_one (i := 5) rfl (by kernel_rfl) (WO_call (on_none rfl) rfl (by decide) (x_call2 Try.func8 rfl rfl rfl rfl rfl) (of_c _ (⟨#[112, 97, 105, 114]⟩) ([(hat p 0).1, top.1]) (ofL_le (⟨#[112, 97, 105, 114]⟩) ([(hat p 0).1, top.1]) 4 rfl (by simp only [List.map_cons, List.map_nil, List.sum_cons, List.sum_nil, Hsz, eightF_size, zb_size] <;> omega)) (has_row1 (f := Value.string) (fun _ => rfl) [(hat p 0).1, top.1] (S.blk_get (.here _)) rfl (by decide))) ?_)
                rintro _ wc3 ⟨rfl, hb⟩
                refine ⟨_, rfl, ?_⟩
                replace S := S.keep hb
                clear hb
                replace hS : wc3.heap[g5]? = some (.cells (hv (hat p 0)) 26 (0, 0)) ∧ wc3.heap[g4]? = some (.cells (hv top) 26 (0, 0)) ∧ True := ⟨(S.blk_get (.there _ (.here _))), (S.blk_get (.there _ (.there _ (.here _)))), trivial⟩
                refine ⟨.inl hS, ?_⟩
                refine WD_one (i := 6) rfl (by kernel_rfl) (WO_store (v := (.agg (hv (ofH (⟨#[112, 97, 105, 114]⟩) ([(hat p 0).1, top.1]))))) (row := hv top) (row' := hv (ofH (⟨#[112, 97, 105, 114]⟩) ([(hat p 0).1, top.1]))) S (on_none rfl) rfl rfl (.there _ (.there _ (.here _))) ti26.sz (hv_size _) (by rw [hv_size]; exact Nat.le_refl _) (bv_one _) (splice_all _ _ (((hv_size _)).trans ((hv_size _)).symm)) ?_)
                intro ws4 S
                refine ⟨.inr rfl, ?_⟩
                refine WD_done (by kernel_rfl) ?_
                clear hS
                show WC Try.prog 74 _ _ _ _
                refine WC_region ?_
                refine WL_cons (WO_val (v := (.int .i64 i)) (on_none rfl) rfl (by decide) (x_mv (v := (.int .i64 i)) rfl) ?_)
                refine WL_cons (WO_val (v := (.int .i64 (i / 2))) (on_none rfl) rfl (by decide) (x_quo (a := i) (b := 2) rfl rfl (by omega) (by omega) (wi64 (by omega))) ?_)
                refine WL_cons (WO_val (v := (.int .i64 wide)) (on_none rfl) rfl (by decide) (x_mv (v := (.int .i64 wide)) rfl) ?_)
                refine WL_cons (WO_val (v := (.int .i64 (wide + 1))) (on_none rfl) rfl (by decide) (x_add (a := wide) (b := 1) rfl rfl (wi64 (by omega))) ?_)
                refine WL_cons (WO_val (v := (.int .i64 ((wide + 1) / 2))) (on_none rfl) rfl (by decide) (x_quo (a := wide + 1) (b := 2) rfl rfl (by omega) (by omega) (wi64 (by omega))) ?_)
                refine WL_cons (WO_val (v := (.int .i64 (i / 2))) (on_none rfl) rfl (by decide) (x_as (v := (.int .i64 (i / 2))) rfl) ?_)
                refine WL_cons (WO_val (v := (.int .i64 ((wide + 1) / 2))) (on_none rfl) rfl (by decide) (x_as (v := (.int .i64 ((wide + 1) / 2))) rfl) ?_)
                refine WL_nil ?_
                replace S := S.drop (.there _ (.here _))
                replace S := S.drop (.here _)
                refine ⟨_, ?_, i / 2, (wide + 1) / 2, (p.drop 1), sloA Ap cp (1 : Int).toNat 32, p.length - (1 : Int).toNat, cp - (1 : Int).toNat, (ofH (⟨#[112, 97, 105, 114]⟩) ([(hat p 0).1, top.1])), _, (updL_eq _ _ (by exact ⟨rfl, rfl, rfl, rfl, rfl, rfl, trivial⟩)).symm, S, (by omega), (by omega), ((chkL_odd (by omega) (by omega) (by omega) (by omega)).symm.trans hR), (Has.drop hPp 1 (by omega)), rfl⟩
                omega
          · show WC Try.prog 74 _ _ _ _
            have hc3_ := of_decide_eq_false hc3
            refine WC_skip ?_
            show WC Try.prog 74 _ _ _ _
            refine WC_region ?_
            refine WL_cons (WO_val (v := (.int .i64 i)) (on_none rfl) rfl (by decide) (x_mv (v := (.int .i64 i)) rfl) ?_)
            refine WL_cons (WO_val (v := (.int .i64 (i / 2))) (on_none rfl) rfl (by decide) (x_quo (a := i) (b := 2) rfl rfl (by omega) (by omega) (wi64 (by omega))) ?_)
            refine WL_cons (WO_val (v := (.int .i64 wide)) (on_none rfl) rfl (by decide) (x_mv (v := (.int .i64 wide)) rfl) ?_)
            refine WL_cons (WO_val (v := (.int .i64 (wide + 1))) (on_none rfl) rfl (by decide) (x_add (a := wide) (b := 1) rfl rfl (wi64 (by omega))) ?_)
            refine WL_cons (WO_val (v := (.int .i64 ((wide + 1) / 2))) (on_none rfl) rfl (by decide) (x_quo (a := wide + 1) (b := 2) rfl rfl (by omega) (by omega) (wi64 (by omega))) ?_)
            refine WL_cons (WO_val (v := (.int .i64 (i / 2))) (on_none rfl) rfl (by decide) (x_as (v := (.int .i64 (i / 2))) rfl) ?_)
            refine WL_cons (WO_val (v := (.int .i64 ((wide + 1) / 2))) (on_none rfl) rfl (by decide) (x_as (v := (.int .i64 ((wide + 1) / 2))) rfl) ?_)
            refine WL_nil ?_
            refine ⟨_, ?_, i / 2, (wide + 1) / 2, p, Ap, p.length, cp, top, _, (updL_eq _ _ (by exact ⟨rfl, rfl, rfl, rfl, rfl, rfl, trivial⟩)).symm, S, (by omega), (by omega), ((chkL_past (by omega) (by omega)).symm.trans hR), hPp, rfl⟩
            omega
        · show WC Try.prog 74 _ _ _ _
          have hc2_ := of_decide_eq_false hc2
          refine WC_exit ?_
          show WC Try.prog 74 _ _ _ _
          refine WC_seq ?_
          rcases Bool.eq_false_or_eq_true (decide (((p.length : Nat) : Int) = 0)) with hg3 | hg3
          · skip
            have hg3_ := of_decide_eq_true hg3
            refine WC_draw (S := fun wx => wx.heap[g4]? = some (.cells (hv top) 26 (0, 0)) ∧ wx.heap[g1]? = some (.cells (hv want) 26 (0, 0)) ∧ True) (Z := []) rfl ?_
            replace S := S.drew
            have hS : (World.drew wl1).heap[g4]? = some (.cells (hv top) 26 (0, 0)) ∧ (World.drew wl1).heap[g1]? = some (.cells (hv want) 26 (0, 0)) ∧ True := ⟨(S.blk_get (.here _)), (S.blk_get (.there _ (.there _ (.there _ (.here _))))), trivial⟩
            show WD Try.prog 74 _ _ _ _ 11 [] _ _
            refine WD_look (v := (.slice Ap p.length cp)) (i := 0) rfl (by kernel_rfl) rfl (by decide) (on_none rfl) (fun wx hs => (x_mv (v := (.slice Ap p.length cp)) rfl)) hS ?_
            show WD Try.prog 74 _ _ _ _ 10 _ _ _
            refine WD_look (v := (.int .i64 ((p.length : Nat) : Int))) (i := 1) rfl (by kernel_rfl) rfl (by decide) (on_none rfl) (fun wx hs => (x_len_slc rfl Try.underlying22)) hS ?_
            show WD Try.prog 74 _ _ _ _ 9 _ _ _
            refine WD_look (v := (.bool (decide (((p.length : Nat) : Int) = 0)))) (i := 2) rfl (by kernel_rfl) rfl (by decide) (on_none rfl) (fun wx hs => (x_eql (a := ((p.length : Nat) : Int)) (b := 0) rfl rfl)) hS ?_
            show WD Try.prog 74 _ _ _ _ 8 _ _ _
            refine WD_look (v := (.bool (decide (((p.length : Nat) : Int) = 0)))) (i := 3) rfl (by kernel_rfl) rfl (by decide) (on_none rfl) (fun wx hs => (x_mv (v := (.bool (decide (((p.length : Nat) : Int) = 0)))) rfl)) hS ?_
            show WD Try.prog 74 _ _ _ _ 7 _ _ _
            refine WD_look (v := (.int .i64 n)) (i := 4) rfl (by kernel_rfl) rfl (by decide) (on_guard rfl rfl (congrArg Value.bool hg3)) (fun wx hs => (x_mv (v := (.int .i64 n)) rfl)) hS ?_
            show WD Try.prog 74 _ _ _ _ 6 _ _ _
            refine WD_look (v := (.agg (hv top))) (i := 5) rfl (by kernel_rfl) rfl (by decide) (on_guard rfl rfl (congrArg Value.bool hg3)) (fun wx hs => (x_load_row rfl (hs.1) Try.underlying26 rfl ti26.sz (hv_size _))) hS ?_
            show WD Try.prog 74 _ _ _ _ 5 _ _ _
            refine WD_look (v := (.agg (hv want))) (i := 7) rfl (by kernel_rfl) rfl (by decide) (on_guard rfl rfl (congrArg Value.bool hg3)) (fun wx hs => (x_load_row rfl (hs.2.1) Try.underlying26 rfl ti26.sz (hv_size _))) hS ?_
            show WD Try.prog 74 _ _ _ _ 4 _ _ _
            refine WD_one (i := 6) rfl (by kernel_rfl) (WO_call (on_guard rfl rfl (congrArg Value.bool hg3)) rfl (by decide) (x_call2 Try.func12 rfl rfl rfl rfl rfl) (root04_c n (by omega) (by omega) top _) ?_)
            rintro _ wc4 ⟨rfl, hb⟩
            refine ⟨_, rfl, ?_⟩
            replace S := S.keep hb
            clear hb
            replace hS : wc4.heap[g4]? = some (.cells (hv top) 26 (0, 0)) ∧ wc4.heap[g1]? = some (.cells (hv want) 26 (0, 0)) ∧ True := ⟨(S.blk_get (.here _)), (S.blk_get (.there _ (.there _ (.there _ (.here _))))), trivial⟩
            refine ⟨.inl hS, ?_⟩
            refine WD_look (v := (.bool (decide ((rootH n top) = want)))) (i := 8) rfl (by kernel_rfl) rfl (by decide) (on_guard rfl rfl (congrArg Value.bool hg3)) (fun wx hs => (x_eql_agg rfl rfl ng26 (eq_H (rootH n top) want _))) hS ?_
            show WD Try.prog 74 _ _ _ _ 2 _ _ _
            refine WD_look (v := (.bool (decide ((rootH n top) = want)))) (i := 9) rfl (by kernel_rfl) rfl (by decide) (on_none rfl) (fun wx hs => (x_pick_t (congrArg Value.bool hg3))) hS ?_
            show WD Try.prog 74 _ _ _ _ 1 _ _ _
            refine WD_look (v := (.bool (decide ((rootH n top) = want)))) (i := 10) rfl (by kernel_rfl) rfl (by decide) (on_none rfl) (fun wx hs => (x_as (v := (.bool (decide ((rootH n top) = want)))) rfl)) hS ?_
            show WD Try.prog 74 _ _ _ _ 0 _ _ _
            refine WD_done (by kernel_rfl) ?_
            clear hS
            show WC Try.prog 74 _ _ _ _
            refine WC_ret ?_
            show retQ Try.prog Try.f13 _ .ret _ _
            have hB : (decide ((rootH n top) = want) : Bool) = checkB want n i0 h p0 := by
              first
                | (rw [checkB, if_pos (by omega)]; done)
                | (rw [checkB, if_neg (by omega), ← hR, chkL_none (by omega) (by omega) (by omega)]; done)
                | (rw [checkB, if_neg (by omega), ← hR, chkL_end_f (by omega) (by omega)]; done)
                | (rw [checkB, if_neg (by omega), ← hR, chkL_end_t (by omega) (by omega)]; done)
            exact ret1 (fn := Try.f13) (v := (.bool (decide ((rootH n top) = want)))) rfl rfl ⟨by rw [hB], S.below⟩
          · skip
            have hg3_ := of_decide_eq_false hg3
            refine WC_draw (S := fun wx => True) (Z := []) rfl ?_
            replace S := S.drew
            have hS : True := trivial
            show WD Try.prog 74 _ _ _ _ 11 [] _ _
            refine WD_look (v := (.slice Ap p.length cp)) (i := 0) rfl (by kernel_rfl) rfl (by decide) (on_none rfl) (fun wx hs => (x_mv (v := (.slice Ap p.length cp)) rfl)) hS ?_
            show WD Try.prog 74 _ _ _ _ 10 _ _ _
            refine WD_look (v := (.int .i64 ((p.length : Nat) : Int))) (i := 1) rfl (by kernel_rfl) rfl (by decide) (on_none rfl) (fun wx hs => (x_len_slc rfl Try.underlying22)) hS ?_
            show WD Try.prog 74 _ _ _ _ 9 _ _ _
            refine WD_look (v := (.bool (decide (((p.length : Nat) : Int) = 0)))) (i := 2) rfl (by kernel_rfl) rfl (by decide) (on_none rfl) (fun wx hs => (x_eql (a := ((p.length : Nat) : Int)) (b := 0) rfl rfl)) hS ?_
            show WD Try.prog 74 _ _ _ _ 8 _ _ _
            refine WD_look (v := (.bool (decide (((p.length : Nat) : Int) = 0)))) (i := 3) rfl (by kernel_rfl) rfl (by decide) (on_none rfl) (fun wx hs => (x_mv (v := (.bool (decide (((p.length : Nat) : Int) = 0)))) rfl)) hS ?_
            show WD Try.prog 74 _ _ _ _ 7 _ _ _
            refine WD_lookoff (i := 4) rfl (by kernel_rfl) rfl (by decide) (off_guard rfl rfl (congrArg Value.bool hg3)) hS ?_
            show WD Try.prog 74 _ _ _ _ 6 _ _ _
            refine WD_lookoff (i := 5) rfl (by kernel_rfl) rfl (by decide) (off_guard rfl rfl (congrArg Value.bool hg3)) hS ?_
            show WD Try.prog 74 _ _ _ _ 5 _ _ _
            refine WD_lookoff (i := 7) rfl (by kernel_rfl) rfl (by decide) (off_guard rfl rfl (congrArg Value.bool hg3)) hS ?_
            show WD Try.prog 74 _ _ _ _ 4 _ _ _
            refine WD_one (i := 6) rfl (by kernel_rfl) (WO_off (off_guard rfl rfl (congrArg Value.bool hg3)) rfl (by decide) ?_)
            refine ⟨.inl hS, ?_⟩
            refine WD_lookoff (i := 8) rfl (by kernel_rfl) rfl (by decide) (off_guard rfl rfl (congrArg Value.bool hg3)) hS ?_
            show WD Try.prog 74 _ _ _ _ 2 _ _ _
            refine WD_look (v := (.bool false)) (i := 9) rfl (by kernel_rfl) rfl (by decide) (on_none rfl) (fun wx hs => (x_pick_f (congrArg Value.bool hg3))) hS ?_
            show WD Try.prog 74 _ _ _ _ 1 _ _ _
            refine WD_look (v := (.bool false)) (i := 10) rfl (by kernel_rfl) rfl (by decide) (on_none rfl) (fun wx hs => (x_as (v := (.bool false)) rfl)) hS ?_
            show WD Try.prog 74 _ _ _ _ 0 _ _ _
            refine WD_done (by kernel_rfl) ?_
            clear hS
            show WC Try.prog 74 _ _ _ _
            refine WC_ret ?_
            show retQ Try.prog Try.f13 _ .ret _ _
            have hB : (false : Bool) = checkB want n i0 h p0 := by
              first
                | (rw [checkB, if_pos (by omega)]; done)
                | (rw [checkB, if_neg (by omega), ← hR, chkL_none (by omega) (by omega) (by omega)]; done)
                | (rw [checkB, if_neg (by omega), ← hR, chkL_end_f (by omega) (by omega)]; done)
                | (rw [checkB, if_neg (by omega), ← hR, chkL_end_t (by omega) (by omega)]; done)
            exact ret1 (fn := Try.f13) (v := (.bool false)) rfl rfl ⟨by rw [hB], S.below⟩
end Go.Proofs.Ytjlbkbfnmcppeaa.Sl

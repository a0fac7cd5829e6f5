/-
  What calls of the program's functions come to (part V6): each function walked once; the conditions stand in each theorem.
-/
import Derived.Test.YtjlbkbfnmcppeaaV5
set_option maxHeartbeats 2000000
set_option linter.unusedSimpArgs false
set_option linter.unusedVariables false
set_option maxRecDepth 100000
namespace Go.Proofs.Ytjlbkbfnmcppeaa.Sl
open Go Go.RowKit
attribute [local irreducible] ofH sumH eightF putT ofL bitop

theorem rooted04_c (w : World) {A : Option Addr} {n c : Nat} (l : List H) (at_ bend : Int) (ha : 0 ≤ at_ ∧ at_ ≤ 255) (hb : 0 ≤ bend ∧ bend ≤ 255) (hz : l.length ≤ 65536) (hP : Has w (slc (pur hv) 32) (.slice A n c) l) :
    Calls Try.prog 5 #[(.slice A l.length c), (.int .u8 at_), (.int .u8 bend)] w (fun e w' => e = .returned (.bool true) ∧ Below w.heap.size w w') := by
  obtain ⟨rfl, hnc, hcm⟩ := hP.len
  simp only [maxLen] at hcm
  refine calls_WC (c := _) (n := 235) (vs := [(.slice A l.length c), (.int .u8 at_), (.int .u8 bend)]) Try.func5 rfl Try.ntmps5 (Nat.le_of_ble_eq_true rfl) ?_
  have S := SL.start w
  refine WC_seq ?_
  refine WC_region ?_
  refine WL_cons (WO_val (v := (.bool false)) (on_none rfl) rfl (by decide) (x_as (v := (.bool false)) rfl) ?_)
  refine WL_nil ?_
  show WC Try.prog 235 _ _ _ _
  refine WC_seq ?_
  refine WC_region ?_
  refine WL_cons (WO_val (v := (.slice A l.length c)) (on_none rfl) rfl (by decide) (x_mv (v := (.slice A l.length c)) rfl) ?_)
  refine WL_cons (WO_call (on_none rfl) rfl (by decide) (x_call1 Try.func11 rfl rfl rfl rfl) (rows04_c _ l (by omega) (S.old hP)) ?_)
  rintro _ wc1 ⟨Au1, mu1, cu1, rfl, hn⟩
  refine ⟨_, rfl, ?_⟩
  replace S := S.new hn
  clear hn
  have hl := (S.has (.here _)).len.1
  subst hl
  have hrl := rowsL_len _ (l.map leafH) (Nat.le_refl _)
  rw [List.length_map] at hrl
  generalize hrs : rowsL (l.map leafH) = rs at S hrl ⊢
  refine WL_cons (WO_val (v := (.slice Au1 rs.length cu1)) (on_none rfl) rfl (by decide) (x_as (v := (.slice Au1 rs.length cu1)) rfl) ?_)
  refine WL_nil ?_
  show WC Try.prog 235 _ _ _ _
  refine WC_seq ?_
  refine WC_region ?_
  refine WL_cons (WO_call (on_none rfl) rfl (by decide) (x_call2 Try.func8 rfl rfl rfl rfl rfl) (of_c _ (⟨#[110, 111, 110, 101]⟩) ([]) (ofL_le (⟨#[110, 111, 110, 101]⟩) ([]) 4 rfl (by simp only [List.map_cons, List.map_nil, List.sum_cons, List.sum_nil, Hsz, eightF_size, zb_size] <;> omega)) Has.nil) ?_)
  rintro _ wc2 ⟨rfl, hb⟩
  refine ⟨_, rfl, ?_⟩
  replace S := S.keep hb
  clear hb
  refine WL_cons (WO_alloc (row := hv zeroH) S (on_none rfl) (by decide) ti26 rfl ?_)
  intro g1 wg1 S
  refine WL_cons (WO_store (v := (.agg (hv (ofH (⟨#[110, 111, 110, 101]⟩) ([]))))) (row := hv zeroH) (row' := hv (ofH (⟨#[110, 111, 110, 101]⟩) ([]))) S (on_none rfl) rfl rfl (.here _) ti26.sz (hv_size _) (by rw [hv_size]; exact Nat.le_refl _) (bv_one _) (splice_all _ _ (((hv_size _)).trans ((hv_size _)).symm)) ?_)
  intro ws1 S
  refine WL_nil ?_
  show WC Try.prog 235 _ _ _ _
  refine WC_cut (fun e' w' => ∃ (eb : Env), e' = updL eb [(0, (.slice A l.length c)), (1, (.int .u8 at_)), (2, (.int .u8 bend)), (7, (.slice Au1 rs.length cu1)), (8, (.pointer (some ⟨g1, 0, none⟩)))] ∧ SL w [blk g1 26 (hv (topH l)), val (slc (slc (pur hv) 32) 1) (.slice Au1 rs.length cu1) rs] w') ?_ ?_
  · show WC Try.prog 235 _ _ _ _
    refine WC_seq ?_
    refine WC_region ?_
    refine WL_cons (WO_val (v := (.slice A l.length c)) (on_none rfl) rfl (by decide) (x_mv (v := (.slice A l.length c)) rfl) ?_)
    refine WL_cons (WO_val (v := (.int .i64 ((l.length : Nat) : Int))) (on_none rfl) rfl (by decide) (x_len_slc rfl Try.underlying22) ?_)
    refine WL_cons (WO_val (v := (.bool (decide (0 < ((l.length : Nat) : Int))))) (on_none rfl) rfl (by decide) (x_gtr (a := ((l.length : Nat) : Int)) (b := 0) rfl rfl) ?_)
    refine WL_nil ?_
    show WC Try.prog 235 _ _ _ _
    refine WC_cond (t := decide (0 < ((l.length : Nat) : Int))) rfl (fun hc1 => ?_) (fun hc1 => ?_)
    · show WC Try.prog 235 _ _ _ _
      have hc1_ := of_decide_eq_true hc1
      have hlast : (hat rs (((rs.length : Nat) : Int) - 1)).length = 1 := by rw [← hrs, last_row (by omega)]; rfl
      refine WC_region ?_
      refine WL_cons (WO_val (v := (.slice Au1 rs.length cu1)) (on_none rfl) rfl (by decide) (x_mv (v := (.slice Au1 rs.length cu1)) rfl) ?_)
      refine WL_cons (WO_val (v := (.slice Au1 rs.length cu1)) (on_none rfl) rfl (by decide) (x_mv (v := (.slice Au1 rs.length cu1)) rfl) ?_)
      refine WL_cons (WO_val (v := (.int .i64 ((rs.length : Nat) : Int))) (on_none rfl) rfl (by decide) (x_len_slc rfl Try.underlying35) ?_)
      refine WL_cons (WO_val (v := (.int .i64 (((rs.length : Nat) : Int) - 1))) (on_none rfl) rfl (by decide) (x_sub (a := ((rs.length : Nat) : Int)) (b := 1) rfl rfl (wi64 (by omega))) ?_)
      refine WL_cons (WO_val (v := (eaddr Au1 ((((rs.length : Nat) : Int) - 1 : Int).toNat * 1))) (on_none rfl) rfl (by decide) (x_index_slc (i := ((rs.length : Nat) : Int) - 1) rfl rfl Try.underlying35 ti22.sz (by omega) (by first | omega | (simp only [List.length_set]; omega)) (Has.some (S.has (.there _ (.here _))) (by first | omega | (simp only [List.length_set]; omega)))) ?_)
      refine WL_cons (WO_el_both S (on_none rfl) (by decide) (fun _ _ => (.there _ (.here _))) (hat_some (by omega) (by first | omega | (simp only [List.length_set]; omega))) rfl Try.underlying22 rfl ?_)
      intro B1 C1 S
      refine WL_cons (WO_val (v := (eaddr B1 ((0 : Int).toNat * 32))) (on_none rfl) rfl (by decide) (x_index_slc (i := 0) rfl rfl Try.underlying22 ti26.sz (by omega) (by first | omega | (simp only [List.length_set]; omega)) (Has.some (S.both2 (.there _ (.here _))) (by first | omega | (simp only [List.length_set]; omega)))) ?_)
      refine WL_cons (WO_val (v := (.agg (hv (hat (hat rs (((rs.length : Nat) : Int) - 1)) 0)))) (on_none rfl) rfl (by decide) (x_el (x := hat (hat rs (((rs.length : Nat) : Int) - 1)) 0) (S.both2 (.there _ (.here _))) (hat_some (by omega) (by first | omega | (simp only [List.length_set]; omega))) rfl Try.underlying26 rfl ti26.sz) ?_)
      refine WL_cons (WO_store (v := (.agg (hv (hat (hat rs (((rs.length : Nat) : Int) - 1)) 0)))) (row := hv (ofH (⟨#[110, 111, 110, 101]⟩) ([]))) (row' := hv (hat (hat rs (((rs.length : Nat) : Int) - 1)) 0)) S (on_none rfl) rfl rfl (.here _) ti26.sz (hv_size _) (by rw [hv_size]; exact Nat.le_refl _) (bv_one _) (splice_all _ _ (((hv_size _)).trans ((hv_size _)).symm)) ?_)
      intro ws2 S
      refine WL_nil ?_
      have hE : (hat (hat rs (((rs.length : Nat) : Int) - 1)) 0) = topH l := by rw [← hrs, last_row (by omega)]; rfl
      rw [hE] at S
      replace S := S.unboth (.there _ (.here _))
      exact ⟨_, (updL_eq _ _ (by exact ⟨rfl, rfl, rfl, rfl, rfl, trivial⟩)).symm, S⟩
    · show WC Try.prog 235 _ _ _ _
      have hc1_ := of_decide_eq_false hc1
      refine WC_skip ?_
      have hE : (ofH (⟨#[110, 111, 110, 101]⟩) ([])) = topH l := by rw [topH, if_pos (by omega)]; rfl
      rw [hE] at S
      exact ⟨_, (updL_eq _ _ (by exact ⟨rfl, rfl, rfl, rfl, rfl, trivial⟩)).symm, S⟩
  clear S
  rintro e1 wl1 ⟨eb, rfl, S⟩
  show WC Try.prog 235 _ _ _ _
  refine WC_seq ?_
  refine WC_region ?_
  refine WL_cons (WO_val (v := (.slice A l.length c)) (on_none rfl) rfl (by decide) (x_mv (v := (.slice A l.length c)) rfl) ?_)
  refine WL_cons (WO_val (v := (.int .i64 ((l.length : Nat) : Int))) (on_none rfl) rfl (by decide) (x_len_slc rfl Try.underlying22) ?_)
  refine WL_cons (WO_val (v := (.agg (hv (topH l)))) (on_none rfl) rfl (by decide) (x_load_row rfl (S.blk_get (.here _)) Try.underlying26 rfl ti26.sz (hv_size _)) ?_)
  refine WL_cons (WO_call (on_none rfl) rfl (by decide) (x_call2 Try.func12 rfl rfl rfl rfl rfl) (root04_c ((l.length : Nat) : Int) (by omega) (by omega) (topH l) _) ?_)
  rintro _ wc3 ⟨rfl, hb⟩
  refine ⟨_, rfl, ?_⟩
  replace S := S.keep hb
  clear hb
  refine WL_cons (WO_alloc (row := hv zeroH) S (on_none rfl) (by decide) ti26 rfl ?_)
  intro g2 wg2 S
  refine WL_cons (WO_store (v := (.agg (hv (rootH ((l.length : Nat) : Int) (topH l))))) (row := hv zeroH) (row' := hv (rootH ((l.length : Nat) : Int) (topH l))) S (on_none rfl) rfl rfl (.here _) ti26.sz (hv_size _) (by rw [hv_size]; exact Nat.le_refl _) (bv_one _) (splice_all _ _ (((hv_size _)).trans ((hv_size _)).symm)) ?_)
  intro ws3 S
  refine WL_nil ?_
  show WC Try.prog 235 _ _ _ _
  refine WC_seq ?_
  refine WC_seq ?_
  refine WC_draw (S := fun wx => wx.heap[g2]? = some (.cells (hv (rootH ((l.length : Nat) : Int) (topH l))) 26 (0, 0)) ∧ True) (Z := []) rfl ?_
  replace S := S.drew
  have hS : (World.drew ws3).heap[g2]? = some (.cells (hv (rootH ((l.length : Nat) : Int) (topH l))) 26 (0, 0)) ∧ True := ⟨(S.blk_get (.here _)), trivial⟩
  show WD Try.prog 235 _ _ _ _ 4 [] _ _
  refine WD_look (v := (.slice A l.length c)) (i := 0) rfl (by kernel_rfl) rfl (by decide) (on_none rfl) (fun wx hs => (x_mv (v := (.slice A l.length c)) rfl)) hS ?_
  show WD Try.prog 235 _ _ _ _ 3 _ _ _
  refine WD_look (v := (.agg (hv (rootH ((l.length : Nat) : Int) (topH l))))) (i := 2) rfl (by kernel_rfl) rfl (by decide) (on_none rfl) (fun wx hs => (x_load_row rfl (hs.1) Try.underlying26 rfl ti26.sz (hv_size _))) hS ?_
  show WD Try.prog 235 _ _ _ _ 2 _ _ _
  refine WD_one (i := 1) rfl (by kernel_rfl) (WO_call (on_none rfl) rfl (by decide) (x_call1 Try.func7 rfl rfl rfl rfl) (Root_c _ l (by first | omega | simp) (S.old hP)) ?_)
  rintro _ wc4 ⟨rfl, hb⟩
  refine ⟨_, rfl, ?_⟩
  replace S := S.keep hb
  clear hb
  replace hS : wc4.heap[g2]? = some (.cells (hv (rootH ((l.length : Nat) : Int) (topH l))) 26 (0, 0)) ∧ True := ⟨(S.blk_get (.here _)), trivial⟩
  refine ⟨.inl hS, ?_⟩
  refine WD_look (v := (.bool (!decide ((treeRoot l) = (rootH ((l.length : Nat) : Int) (topH l)))))) (i := 3) rfl (by kernel_rfl) rfl (by decide) (on_none rfl) (fun wx hs => (x_neq_agg rfl rfl ng26 (eq_H (treeRoot l) (rootH ((l.length : Nat) : Int) (topH l)) _))) hS ?_
  show WD Try.prog 235 _ _ _ _ 0 _ _ _
  refine WD_done (by kernel_rfl) ?_
  clear hS
  show WC Try.prog 235 _ _ _ _
  have hk1 : (!decide ((treeRoot l) = (rootH ((l.length : Nat) : Int) (topH l)))) = false := by rw [show treeRoot l = rootH ((l.length : Nat) : Int) (topH l) from rfl]; simp
  refine WC_cond (t := false) (congrArg Value.bool hk1) (fun h => by cases h) (fun _ => ?_)
  show WC Try.prog 235 _ _ _ _
  refine WC_skip ?_
  show WC Try.prog 235 _ _ _ _
  refine WC_seq ?_
  refine WC_seq ?_
  refine WC_region ?_
  refine WL_cons (WO_val (v := (.int .i64 (-1))) (on_none rfl) rfl (by decide) (x_as (v := (.int .i64 (-1))) rfl) ?_)
  refine WL_nil ?_
  show WC Try.prog 235 _ _ _ _
  refine WC_block ?_
  replace S := S.drop (.there _ (.here _))
  have S_ : SL w ([val (slc (slc (pur hv) 32) 1) (.slice Au1 rs.length cu1) rs, blk g2 26 (hv (rootH ((l.length : Nat) : Int) (topH l)))]) wc4 := SL.front [_] S
  replace S := S_
  clear S_
  refine WC_loop (fun kq e' w' => ∃ (i : Int) (eb : Env), e' = updL eb [(0, (.slice A l.length c)), (1, (.int .u8 at_)), (2, (.int .u8 bend)), (7, (.slice Au1 rs.length cu1)), (9, (.pointer (some ⟨g2, 0, none⟩))), (10, (.int .i64 i))] ∧ SL w [val (slc (slc (pur hv) 32) 1) (.slice Au1 rs.length cu1) rs, blk g2 26 (hv (rootH ((l.length : Nat) : Int) (topH l)))] w' ∧ (-1 ≤ i ∧ i ≤ ((l.length : Nat) : Int) + 1) ∧ (((l.length : Nat) : Int) + 1 - i).toNat = kq) (k := _) ⟨(-1), _, (updL_eq _ _ (by exact ⟨rfl, rfl, rfl, rfl, rfl, rfl, trivial⟩)).symm, S, (by omega), rfl⟩ ?_
  clear S
  rintro k1 e2 wl2 ⟨i, eb, rfl, S, hi, rfl⟩
  show WC Try.prog 235 _ _ _ _
  refine WC_seq ?_
  refine WC_seq ?_
  refine WC_region ?_
  refine WL_cons (WO_val (v := (.int .i64 i)) (on_none rfl) rfl (by decide) (x_mv (v := (.int .i64 i)) rfl) ?_)
  refine WL_cons (WO_val (v := (.slice A l.length c)) (on_none rfl) rfl (by decide) (x_mv (v := (.slice A l.length c)) rfl) ?_)
  refine WL_cons (WO_val (v := (.int .i64 ((l.length : Nat) : Int))) (on_none rfl) rfl (by decide) (x_len_slc rfl Try.underlying22) ?_)
  refine WL_cons (WO_val (v := (.bool (decide (i ≤ ((l.length : Nat) : Int))))) (on_none rfl) rfl (by decide) (x_leq (a := i) (b := ((l.length : Nat) : Int)) rfl rfl) ?_)
  refine WL_nil ?_
  show WC Try.prog 235 _ _ _ _
  refine WC_cond (t := decide (i ≤ ((l.length : Nat) : Int))) rfl (fun hc2 => ?_) (fun hc2 => ?_)
  · show WC Try.prog 235 _ _ _ _
    have hc2_ := of_decide_eq_true hc2
    refine WC_skip ?_
    show WC Try.prog 235 _ _ _ _
    refine WC_seq ?_
    refine WC_block ?_
    refine WC_seq ?_
    refine WC_region ?_
    refine WL_cons (WO_val (v := (.slice A l.length c)) (on_none rfl) rfl (by decide) (x_mv (v := (.slice A l.length c)) rfl) ?_)
    refine WL_cons (WO_val (v := (.int .i64 i)) (on_none rfl) rfl (by decide) (x_mv (v := (.int .i64 i)) rfl) ?_)
    refine WL_cons (WO_call (on_none rfl) rfl (by decide) (x_call2 Try.func6 rfl rfl rfl rfl rfl) (Prove_c _ i l (by first | omega | simp) (S.old hP)) ?_)
    rintro _ wc5 ⟨Au2, mu2, cu2, rfl, hn⟩
    refine ⟨_, rfl, ?_⟩
    replace S := S.new hn
    clear hn
    have hl := (S.has (.here _)).len.1
    subst hl
    generalize hPP : proveL i l = pr at S ⊢
    refine WL_cons (WO_val (v := (.tuple #[(.slice Au2 pr.length cu2), (.int .i64 (errL i l))])) (on_none rfl) rfl (by decide) (x_mv (v := (.tuple #[(.slice Au2 pr.length cu2), (.int .i64 (errL i l))])) rfl) ?_)
    refine WL_cons (WO_val (v := (.slice Au2 pr.length cu2)) (on_none rfl) rfl (by decide) (x_extract (v := (.slice Au2 pr.length cu2)) rfl rfl) ?_)
    refine WL_cons (WO_val (v := (.int .i64 (errL i l))) (on_none rfl) rfl (by decide) (x_extract (v := (.int .i64 (errL i l))) rfl rfl) ?_)
    refine WL_cons (WO_val (v := (.slice Au2 pr.length cu2)) (on_none rfl) rfl (by decide) (x_as (v := (.slice Au2 pr.length cu2)) rfl) ?_)
    refine WL_cons (WO_val (v := (.int .i64 (errL i l))) (on_none rfl) rfl (by decide) (x_as (v := (.int .i64 (errL i l))) rfl) ?_)
    refine WL_nil ?_
    show WC Try.prog 235 _ _ _ _
    refine WC_seq ?_
    refine WC_seq ?_
    rcases Bool.eq_false_or_eq_true (decide (i < 0)) with hg1 | hg1
    · skip
      have hg1_ := of_decide_eq_true hg1
      refine WC_region ?_
      refine WL_cons (WO_val (v := (.int .i64 i)) (on_none rfl) rfl (by decide) (x_mv (v := (.int .i64 i)) rfl) ?_)
      refine WL_cons (WO_val (v := (.bool (decide (i < 0)))) (on_none rfl) rfl (by decide) (x_lss (a := i) (b := 0) rfl rfl) ?_)
      refine WL_cons (WO_val (v := (.bool (decide (i < 0)))) (on_none rfl) rfl (by decide) (x_mv (v := (.bool (decide (i < 0)))) rfl) ?_)
      refine WL_cons (WO_off (off_guard rfl rfl (congrArg Value.bool hg1)) rfl (by decide) ?_)
      refine WL_cons (WO_off (off_guard rfl rfl (congrArg Value.bool hg1)) rfl (by decide) ?_)
      refine WL_cons (WO_off (off_guard rfl rfl (congrArg Value.bool hg1)) rfl (by decide) ?_)
      refine WL_cons (WO_off (off_guard rfl rfl (congrArg Value.bool hg1)) rfl (by decide) ?_)
      refine WL_cons (WO_val (v := (.bool true)) (on_none rfl) rfl (by decide) (x_pick_t (congrArg Value.bool hg1)) ?_)
      refine WL_nil ?_
      show WC Try.prog 235 _ _ _ _
      refine WC_cond (t := true) rfl (fun _ => ?_) (fun h => by cases h)
      show WC Try.prog 235 _ _ _ _
      refine WC_seq ?_
      refine WC_seq ?_
      have hk2 : (!decide (errL i l = 5)) = false := by rw [errL_f (inL_f (by omega))]; rfl
      refine WC_region ?_
      refine WL_cons (WO_val (v := (.int .i64 (errL i l))) (on_none rfl) rfl (by decide) (x_mv (v := (.int .i64 (errL i l))) rfl) ?_)
      refine WL_cons (WO_val (v := (.bool (!decide (errL i l = 5)))) (on_none rfl) rfl (by decide) (x_neq (a := errL i l) (b := 5) rfl rfl) ?_)
      refine WL_cons (WO_val (v := (.bool (!decide (errL i l = 5)))) (on_none rfl) rfl (by decide) (x_mv (v := (.bool (!decide (errL i l = 5)))) rfl) ?_)
      refine WL_cons (WO_val (v := (.slice Au2 pr.length cu2)) (on_guard rfl rfl (congrArg Value.bool hk2)) rfl (by decide) (x_mv (v := (.slice Au2 pr.length cu2)) rfl) ?_)
      refine WL_cons (WO_val (v := (.int .i64 ((pr.length : Nat) : Int))) (on_guard rfl rfl (congrArg Value.bool hk2)) rfl (by decide) (x_len_slc rfl Try.underlying22) ?_)
      refine WL_cons (WO_val (v := (.bool (!decide (((pr.length : Nat) : Int) = 0)))) (on_guard rfl rfl (congrArg Value.bool hk2)) rfl (by decide) (x_neq (a := ((pr.length : Nat) : Int)) (b := 0) rfl rfl) ?_)
      refine WL_cons (WO_val (v := (.bool (!decide (((pr.length : Nat) : Int) = 0)))) (on_none rfl) rfl (by decide) (x_pick_f (congrArg Value.bool hk2)) ?_)
      refine WL_nil ?_
      show WC Try.prog 235 _ _ _ _
      have hk3 : (!decide (((pr.length : Nat) : Int) = 0)) = false := by rw [← hPP, proveL_f (inL_f (by omega))]; rfl
      refine WC_cond (t := false) (congrArg Value.bool hk3) (fun h => by cases h) (fun _ => ?_)
      show WC Try.prog 235 _ _ _ _
      refine WC_skip ?_
      show WC Try.prog 235 _ _ _ _
      refine WC_exit ?_
      show WC Try.prog 235 _ _ _ _
      refine WC_region ?_
      refine WL_cons (WO_val (v := (.int .i64 i)) (on_none rfl) rfl (by decide) (x_mv (v := (.int .i64 i)) rfl) ?_)
      refine WL_cons (WO_val (v := (.int .i64 (i + 1))) (on_none rfl) rfl (by decide) (x_add (a := i) (b := 1) rfl rfl (wi64 (by omega))) ?_)
      refine WL_cons (WO_val (v := (.int .i64 (i + 1))) (on_none rfl) rfl (by decide) (x_as (v := (.int .i64 (i + 1))) rfl) ?_)
      refine WL_nil ?_
      replace S := S.drop (.here _)
      refine ⟨_, ?_, i + 1, _, (updL_eq _ _ (by exact ⟨rfl, rfl, rfl, rfl, rfl, rfl, trivial⟩)).symm, S, (by omega), rfl⟩
      omega
    · skip
      have hg1_ := of_decide_eq_false hg1
      refine WC_region ?_
      refine WL_cons (WO_val (v := (.int .i64 i)) (on_none rfl) rfl (by decide) (x_mv (v := (.int .i64 i)) rfl) ?_)
      refine WL_cons (WO_val (v := (.bool (decide (i < 0)))) (on_none rfl) rfl (by decide) (x_lss (a := i) (b := 0) rfl rfl) ?_)
      refine WL_cons (WO_val (v := (.bool (decide (i < 0)))) (on_none rfl) rfl (by decide) (x_mv (v := (.bool (decide (i < 0)))) rfl) ?_)
      refine WL_cons (WO_val (v := (.int .i64 i)) (on_guard rfl rfl (congrArg Value.bool hg1)) rfl (by decide) (x_mv (v := (.int .i64 i)) rfl) ?_)
      refine WL_cons (WO_val (v := (.slice A l.length c)) (on_guard rfl rfl (congrArg Value.bool hg1)) rfl (by decide) (x_mv (v := (.slice A l.length c)) rfl) ?_)
      refine WL_cons (WO_val (v := (.int .i64 ((l.length : Nat) : Int))) (on_guard rfl rfl (congrArg Value.bool hg1)) rfl (by decide) (x_len_slc rfl Try.underlying22) ?_)
      refine WL_cons (WO_val (v := (.bool (decide (i = ((l.length : Nat) : Int))))) (on_guard rfl rfl (congrArg Value.bool hg1)) rfl (by decide) (x_eql (a := i) (b := ((l.length : Nat) : Int)) rfl rfl) ?_)
      refine WL_cons (WO_val (v := (.bool (decide (i = ((l.length : Nat) : Int))))) (on_none rfl) rfl (by decide) (x_pick_f (congrArg Value.bool hg1)) ?_)
      refine WL_nil ?_
      show WC Try.prog 235 _ _ _ _
      refine WC_cond (t := decide (i = ((l.length : Nat) : Int))) rfl (fun hc3 => ?_) (fun hc3 => ?_)
      · show WC Try.prog 235 _ _ _ _
        have hc3_ := of_decide_eq_true hc3
        refine WC_seq ?_
        refine WC_seq ?_
        have hk4 : (!decide (errL i l = 5)) = false := by rw [errL_f (inL_f (by omega))]; rfl
        refine WC_region ?_
        refine WL_cons (WO_val (v := (.int .i64 (errL i l))) (on_none rfl) rfl (by decide) (x_mv (v := (.int .i64 (errL i l))) rfl) ?_)
        refine WL_cons (WO_val (v := (.bool (!decide (errL i l = 5)))) (on_none rfl) rfl (by decide) (x_neq (a := errL i l) (b := 5) rfl rfl) ?_)
        refine WL_cons (WO_val (v := (.bool (!decide (errL i l = 5)))) (on_none rfl) rfl (by decide) (x_mv (v := (.bool (!decide (errL i l = 5)))) rfl) ?_)
        refine WL_cons (WO_val (v := (.slice Au2 pr.length cu2)) (on_guard rfl rfl (congrArg Value.bool hk4)) rfl (by decide) (x_mv (v := (.slice Au2 pr.length cu2)) rfl) ?_)
        refine WL_cons (WO_val (v := (.int .i64 ((pr.length : Nat) : Int))) (on_guard rfl rfl (congrArg Value.bool hk4)) rfl (by decide) (x_len_slc rfl Try.underlying22) ?_)
        refine WL_cons (WO_val (v := (.bool (!decide (((pr.length : Nat) : Int) = 0)))) (on_guard rfl rfl (congrArg Value.bool hk4)) rfl (by decide) (x_neq (a := ((pr.length : Nat) : Int)) (b := 0) rfl rfl) ?_)
        refine WL_cons (WO_val (v := (.bool (!decide (((pr.length : Nat) : Int) = 0)))) (on_none rfl) rfl (by decide) (x_pick_f (congrArg Value.bool hk4)) ?_)
        refine WL_nil ?_
        show WC Try.prog 235 _ _ _ _
        have hk5 : (!decide (((pr.length : Nat) : Int) = 0)) = false := by rw [← hPP, proveL_f (inL_f (by omega))]; rfl
        refine WC_cond (t := false) (congrArg Value.bool hk5) (fun h => by cases h) (fun _ => ?_)
        show WC Try.prog 235 _ _ _ _
        refine WC_skip ?_
        show WC Try.prog 235 _ _ _ _
        refine WC_exit ?_
        show WC Try.prog 235 _ _ _ _
        refine WC_region ?_
        refine WL_cons (WO_val (v := (.int .i64 i)) (on_none rfl) rfl (by decide) (x_mv (v := (.int .i64 i)) rfl) ?_)
        refine WL_cons (WO_val (v := (.int .i64 (i + 1))) (on_none rfl) rfl (by decide) (x_add (a := i) (b := 1) rfl rfl (wi64 (by omega))) ?_)
        refine WL_cons (WO_val (v := (.int .i64 (i + 1))) (on_none rfl) rfl (by decide) (x_as (v := (.int .i64 (i + 1))) rfl) ?_)
        refine WL_nil ?_
        replace S := S.drop (.here _)
        refine ⟨_, ?_, i + 1, _, (updL_eq _ _ (by exact ⟨rfl, rfl, rfl, rfl, rfl, rfl, trivial⟩)).symm, S, (by omega), rfl⟩
        omega
      · show WC Try.prog 235 _ _ _ _
        have hc3_ := of_decide_eq_false hc3
        refine WC_skip ?_
        show WC Try.prog 235 _ _ _ _
        refine WC_seq ?_
        refine WC_region ?_
        refine WL_cons (WO_val (v := (.slice none 0 0)) (on_none rfl) rfl (by decide) (x_as (v := (.slice none 0 0)) rfl) ?_)
        refine WL_nil ?_
        replace S := SL.own_nil S hv 26 32
        show WC Try.prog 235 _ _ _ _
        refine WC_seq ?_
        refine WC_region ?_
        refine WL_cons (WO_val (v := (.int .i64 i)) (on_none rfl) rfl (by decide) (x_mv (v := (.int .i64 i)) rfl) ?_)
        refine WL_cons (WO_val (v := (.int .i64 i)) (on_none rfl) rfl (by decide) (x_as (v := (.int .i64 i)) rfl) ?_)
        refine WL_nil ?_
        show WC Try.prog 235 _ _ _ _
        refine WC_seq ?_
        refine WC_seq ?_
        refine WC_region ?_
        refine WL_cons (WO_val (v := (.slice Au1 rs.length cu1)) (on_none rfl) rfl (by decide) (x_mv (v := (.slice Au1 rs.length cu1)) rfl) ?_)
        refine WL_cons (WO_val (v := (.int .i64 ((rs.length : Nat) : Int))) (on_none rfl) rfl (by decide) (x_len_slc rfl Try.underlying35) ?_)
        refine WL_cons (WO_val (v := (.int .i64 0)) (on_none rfl) rfl (by decide) (x_mv (v := (.int .i64 0)) rfl) ?_)
        refine WL_nil ?_
        show WC Try.prog 235 _ _ _ _
        refine WC_block ?_
        refine WC_loop (fun kq e' w' => ∃ (f : Nat) (k : Int) (place : Int) (Ad : Option Addr) (md : Nat) (cd : Nat) (due : List H) (eb : Env), e' = updL eb [(0, (.slice A l.length c)), (1, (.int .u8 at_)), (2, (.int .u8 bend)), (7, (.slice Au1 rs.length cu1)), (9, (.pointer (some ⟨g2, 0, none⟩))), (10, (.int .i64 i)), (11, (.slice Au2 pr.length cu2)), (12, (.int .i64 (errL i l))), (13, (.slice Ad md cd)), (14, (.int .i64 place)), (74, (.slice Au1 rs.length cu1)), (75, (.int .i64 ((rs.length : Nat) : Int))), (76, (.int .i64 k))] ∧ SL w [own hv 26 32 (.slice Ad md cd) due, val (slc (pur hv) 32) (.slice Au2 pr.length cu2) pr, val (slc (slc (pur hv) 32) 1) (.slice Au1 rs.length cu1) rs, blk g2 26 (hv (rootH ((l.length : Nat) : Int) (topH l)))] w' ∧ (k + (f : Int) = rs.length) ∧ (0 ≤ k) ∧ (0 ≤ place ∧ place ≤ 65536) ∧ ((due.length : Int) ≤ k) ∧ (md = due.length) ∧ (due ++ dueL place (rs.drop k.toNat) = dueL i rs) ∧ f = kq) (k := rs.length) ⟨rs.length, 0, i, none, 0, 0, [], _, (updL_eq _ _ (by exact ⟨rfl, rfl, rfl, rfl, rfl, rfl, rfl, rfl, rfl, rfl, rfl, rfl, rfl, trivial⟩)).symm, S, (by omega), (by omega), (by omega), (by simp), rfl, rfl, rfl⟩ ?_
        clear S
        rintro k2 e3 wl3 ⟨f, k, place, Ad, md, cd, due, eb, rfl, S, hkf, hk0, hpl, hdl, hmd, hD, rfl⟩
        show WC Try.prog 235 _ _ _ _
        have hox := xor1_nn place (by omega) (by omega)
        refine WC_seq ?_
        refine WC_region ?_
        refine WL_cons (WO_val (v := (.bool (decide (k < ((rs.length : Nat) : Int))))) (on_none rfl) rfl (by decide) (x_lss (a := k) (b := ((rs.length : Nat) : Int)) rfl rfl) ?_)
        refine WL_nil ?_
        show WC Try.prog 235 _ _ _ _
        refine WC_seq ?_
        refine WC_cond (t := decide (k < ((rs.length : Nat) : Int))) rfl (fun hc4 => ?_) (fun hc4 => ?_)
        · show WC Try.prog 235 _ _ _ _
          have hc4_ := of_decide_eq_true hc4
          obtain ⟨f, rfl⟩ : ∃ m, f = m + 1 := ⟨f - 1, by omega⟩
          refine WC_skip ?_
          show WC Try.prog 235 _ _ _ _
          refine WC_seq ?_
          refine WC_block ?_
          refine WC_seq ?_
          refine WC_region ?_
          refine WL_cons (WO_val (v := (eaddr Au1 ((k : Int).toNat * 1))) (on_none rfl) rfl (by decide) (x_index_slc (i := k) rfl rfl Try.underlying35 ti22.sz (by omega) (by first | omega | (simp only [List.length_set]; omega)) (Has.some (S.has (.there _ (.there _ (.here _)))) (by first | omega | (simp only [List.length_set]; omega)))) ?_)
          refine WL_cons (WO_el_both S (on_none rfl) (by decide) (fun _ _ => (.there _ (.there _ (.here _)))) (hat_some (by omega) (by first | omega | (simp only [List.length_set]; omega))) rfl Try.underlying22 rfl ?_)
          intro B2 C2 S
          refine WL_cons (WO_val (v := (.slice B2 ((hat rs k).length) C2)) (on_none rfl) rfl (by decide) (x_as (v := (.slice B2 ((hat rs k).length) C2)) rfl) ?_)
          refine WL_nil ?_
          show WC Try.prog 235 _ _ _ _
          refine WC_seq ?_
          refine WC_seq ?_
          refine WC_region ?_
          refine WL_cons (WO_val (v := (.int .i64 place)) (on_none rfl) rfl (by decide) (x_mv (v := (.int .i64 place)) rfl) ?_)
          refine WL_cons (WO_val (v := (.int .i64 (bitop .xor .i64 place 1))) (on_none rfl) rfl (by decide) (x_xor (a := place) (b := 1) rfl rfl) ?_)
          refine WL_cons (WO_val (v := (.int .i64 (bitop .xor .i64 place 1))) (on_none rfl) rfl (by decide) (x_as (v := (.int .i64 (bitop .xor .i64 place 1))) rfl) ?_)
          refine WL_nil ?_
          show WC Try.prog 235 _ _ _ _
          refine WC_seq ?_
          refine WC_region ?_
          refine WL_cons (WO_val (v := (.int .i64 (bitop .xor .i64 place 1))) (on_none rfl) rfl (by decide) (x_mv (v := (.int .i64 (bitop .xor .i64 place 1))) rfl) ?_)
          refine WL_cons (WO_val (v := (.slice B2 ((hat rs k).length) C2)) (on_none rfl) rfl (by decide) (x_mv (v := (.slice B2 ((hat rs k).length) C2)) rfl) ?_)
          refine WL_cons (WO_val (v := (.int .i64 (((hat rs k).length : Nat) : Int))) (on_none rfl) rfl (by decide) (x_len_slc rfl Try.underlying22) ?_)
          refine WL_cons (WO_val (v := (.bool (decide (bitop .xor .i64 place 1 < (((hat rs k).length : Nat) : Int))))) (on_none rfl) rfl (by decide) (x_lss (a := bitop .xor .i64 place 1) (b := (((hat rs k).length : Nat) : Int)) rfl rfl) ?_)
          refine WL_nil ?_
          show WC Try.prog 235 _ _ _ _
          refine WC_cond (t := decide (bitop .xor .i64 place 1 < (((hat rs k).length : Nat) : Int))) rfl (fun hc5 => ?_) (fun hc5 => ?_)
          · show WC Try.prog 235 _ _ _ _
            have hc5_ := of_decide_eq_true hc5
            refine WC_region ?_
            refine WL_cons (WO_val (v := (.slice Ad md cd)) (on_none rfl) rfl (by decide) (x_mv (v := (.slice Ad md cd)) rfl) ?_)
            refine WL_cons (WO_val (v := (.slice B2 ((hat rs k).length) C2)) (on_none rfl) rfl (by decide) (x_mv (v := (.slice B2 ((hat rs k).length) C2)) rfl) ?_)
            refine WL_cons (WO_val (v := (.int .i64 (bitop .xor .i64 place 1))) (on_none rfl) rfl (by decide) (x_mv (v := (.int .i64 (bitop .xor .i64 place 1))) rfl) ?_)
            refine WL_cons (WO_val (v := (eaddr B2 ((bitop .xor .i64 place 1 : Int).toNat * 32))) (on_none rfl) rfl (by decide) (x_index_slc (i := bitop .xor .i64 place 1) rfl rfl Try.underlying22 ti26.sz (by omega) (by first | omega | (simp only [List.length_set]; omega)) (Has.some (S.both2 (.there _ (.there _ (.here _)))) (by first | omega | (simp only [List.length_set]; omega)))) ?_)
            refine WL_cons (WO_val (v := (.agg (hv (hat (hat rs k) (bitop .xor .i64 place 1))))) (on_none rfl) rfl (by decide) (x_el (x := hat (hat rs k) (bitop .xor .i64 place 1)) (S.both2 (.there _ (.there _ (.here _)))) (hat_some (by omega) (by first | omega | (simp only [List.length_set]; omega))) rfl Try.underlying26 rfl ti26.sz) ?_)
            refine WL_cons (WO_build (vs := [(.agg (hv (hat (hat rs k) (bitop .xor .i64 place 1))))]) (row := hv (hat (hat rs k) (bitop .xor .i64 place 1))) S (on_none rfl) (by decide) Try.underlying22 ti26 (hv_size _) rfl rfl (by simp [Value.cells, hv_size, bv_size, Hsz]) (by decide) (rowOf1 _) ?_)
            intro g3 wg3 S
            refine WL_cons (WO_append (ys := [(hat (hat rs k) (bitop .xor .i64 place 1))]) S (on_none rfl) (by decide) rfl rfl (fun _ => (.there _ (.here _))) (has_one (S.blk_get (.here _)) (hv_size _)) Try.underlying22 ti26 (hv_size _) (by decide) hvsz hv_one (by simp only [maxLen, List.length_append, List.length_cons, List.length_nil]; omega) (by simp only [maxLen, List.length_append, List.length_cons, List.length_nil]; omega) ?_)
            intro A1 c1 wa1 S
            refine WL_cons (WO_val (v := (.slice A1 (due.length + ([(hat (hat rs k) (bitop .xor .i64 place 1))]).length) c1)) (on_none rfl) rfl (by decide) (x_as (v := (.slice A1 (due.length + ([(hat (hat rs k) (bitop .xor .i64 place 1))]).length) c1)) rfl) ?_)
            refine WL_nil ?_
            show WC Try.prog 235 _ _ _ _
            refine WC_region ?_
            refine WL_cons (WO_val (v := (.int .i64 place)) (on_none rfl) rfl (by decide) (x_mv (v := (.int .i64 place)) rfl) ?_)
            refine WL_cons (WO_val (v := (.int .i64 (place / 2))) (on_none rfl) rfl (by decide) (x_quo (a := place) (b := 2) rfl rfl (by omega) (by omega) (wi64 (by omega))) ?_)
            refine WL_cons (WO_val (v := (.int .i64 (place / 2))) (on_none rfl) rfl (by decide) (x_as (v := (.int .i64 (place / 2))) rfl) ?_)
            refine WL_nil ?_
            show WC Try.prog 235 _ _ _ _
            refine WC_region ?_
            refine WL_cons (WO_val (v := (.int .i64 (k + 1))) (on_none rfl) rfl (by decide) (x_add (a := k) (b := 1) rfl rfl (wi64 (by omega))) ?_)
            refine WL_cons (WO_val (v := (.int .i64 (k + 1))) (on_none rfl) rfl (by decide) (x_mv (v := (.int .i64 (k + 1))) rfl) ?_)
            refine WL_nil ?_
            replace S := S.drop (.here _)
            replace S := S.unboth (.there _ (.there _ (.here _)))
            refine ⟨_, ?_, f, k + 1, place / 2, A1, due.length + ([(hat (hat rs k) (bitop .xor .i64 place 1))]).length, c1, _, _, (updL_eq _ _ (by exact ⟨rfl, rfl, rfl, rfl, rfl, rfl, rfl, rfl, rfl, rfl, rfl, rfl, rfl, trivial⟩)).symm, S, (by omega), (by omega), (by omega), (by simp only [List.length_append, List.length_cons, List.length_nil]; omega), (by rw [List.length_append]), (by rw [← hD, due_step hk0 (by omega), show besL place (hat rs k) = [hat (hat rs k) (bitop .xor .i64 place 1)] from if_pos (show bitop .xor .i64 place 1 < (((hat rs k).length : Nat) : Int) by omega)]; simp), rfl⟩
            exact Nat.lt_succ_self f
          · show WC Try.prog 235 _ _ _ _
            have hc5_ := of_decide_eq_false hc5
            refine WC_skip ?_
            show WC Try.prog 235 _ _ _ _
            refine WC_region ?_
            refine WL_cons (WO_val (v := (.int .i64 place)) (on_none rfl) rfl (by decide) (x_mv (v := (.int .i64 place)) rfl) ?_)
            refine WL_cons (WO_val (v := (.int .i64 (place / 2))) (on_none rfl) rfl (by decide) (x_quo (a := place) (b := 2) rfl rfl (by omega) (by omega) (wi64 (by omega))) ?_)
            refine WL_cons (WO_val (v := (.int .i64 (place / 2))) (on_none rfl) rfl (by decide) (x_as (v := (.int .i64 (place / 2))) rfl) ?_)
            refine WL_nil ?_
            show WC Try.prog 235 _ _ _ _
            refine WC_region ?_
            refine WL_cons (WO_val (v := (.int .i64 (k + 1))) (on_none rfl) rfl (by decide) (x_add (a := k) (b := 1) rfl rfl (wi64 (by omega))) ?_)
            refine WL_cons (WO_val (v := (.int .i64 (k + 1))) (on_none rfl) rfl (by decide) (x_mv (v := (.int .i64 (k + 1))) rfl) ?_)
            refine WL_nil ?_
            replace S := S.unboth (.there _ (.there _ (.here _)))
            refine ⟨_, ?_, f, k + 1, place / 2, Ad, md, cd, _, _, (updL_eq _ _ (by exact ⟨rfl, rfl, rfl, rfl, rfl, rfl, rfl, rfl, rfl, rfl, rfl, rfl, rfl, trivial⟩)).symm, S, (by omega), (by omega), (by omega), (by omega), hmd, (by rw [← hD, due_step hk0 (by omega), show besL place (hat rs k) = [] from if_neg (show ¬ bitop .xor .i64 place 1 < (((hat rs k).length : Nat) : Int) by omega)]; simp), rfl⟩
            exact Nat.lt_succ_self f
        · show WC Try.prog 235 _ _ _ _
          have hc4_ := of_decide_eq_false hc4
          obtain rfl : f = 0 := by omega
          have hDE : due = dueL i rs := by rw [← hD, due_end (by omega), List.append_nil]
          have hdp : due = pr := by rw [hDE, ← hrs, prove_due (by omega) (by omega) (by omega)]; exact hPP
          subst hmd
          refine WC_exit ?_
          show WC Try.prog 235 _ _ _ _
          refine WC_seq ?_
          refine WC_seq ?_
          have hk6 : (!decide (errL i l = 0)) = false := by rw [errL_t (inL_t (by omega) (by omega))]; rfl
          have hk7 : (!decide (((pr.length : Nat) : Int) = ((due.length : Nat) : Int))) = false := by rw [hdp]; simp
          refine WC_draw (S := fun wx => wx.heap[g2]? = some (.cells (hv (rootH ((l.length : Nat) : Int) (topH l))) 26 (0, 0)) ∧ Has wx (slc (pur hv) 32) (.slice A l.length c) l ∧ True) (Z := []) rfl ?_
          replace S := S.drew
          have hS : (World.drew wl3).heap[g2]? = some (.cells (hv (rootH ((l.length : Nat) : Int) (topH l))) 26 (0, 0)) ∧ Has (World.drew wl3) (slc (pur hv) 32) (.slice A l.length c) l ∧ True := ⟨(S.blk_get (.there _ (.there _ (.there _ (.here _))))), (S.old hP), trivial⟩
          show WD Try.prog 235 _ _ _ _ 22 [] _ _
          refine WD_look (v := (.int .i64 (errL i l))) (i := 0) rfl (by kernel_rfl) rfl (by decide) (on_none rfl) (fun wx hs => (x_mv (v := (.int .i64 (errL i l))) rfl)) hS ?_
          show WD Try.prog 235 _ _ _ _ 21 _ _ _
          refine WD_look (v := (.bool (!decide (errL i l = 0)))) (i := 1) rfl (by kernel_rfl) rfl (by decide) (on_none rfl) (fun wx hs => (x_neq (a := errL i l) (b := 0) rfl rfl)) hS ?_
          show WD Try.prog 235 _ _ _ _ 20 _ _ _
          refine WD_look (v := (.bool (!decide (errL i l = 0)))) (i := 2) rfl (by kernel_rfl) rfl (by decide) (on_none rfl) (fun wx hs => (x_mv (v := (.bool (!decide (errL i l = 0)))) rfl)) hS ?_
          show WD Try.prog 235 _ _ _ _ 19 _ _ _
          refine WD_look (v := (.slice Au2 pr.length cu2)) (i := 3) rfl (by kernel_rfl) rfl (by decide) (on_guard rfl rfl (congrArg Value.bool hk6)) (fun wx hs => (x_mv (v := (.slice Au2 pr.length cu2)) rfl)) hS ?_
          show WD Try.prog 235 _ _ _ _ 18 _ _ _
          refine WD_look (v := (.int .i64 ((pr.length : Nat) : Int))) (i := 4) rfl (by kernel_rfl) rfl (by decide) (on_guard rfl rfl (congrArg Value.bool hk6)) (fun wx hs => (x_len_slc rfl Try.underlying22)) hS ?_
          show WD Try.prog 235 _ _ _ _ 17 _ _ _
          refine WD_look (v := (.slice Ad due.length cd)) (i := 5) rfl (by kernel_rfl) rfl (by decide) (on_guard rfl rfl (congrArg Value.bool hk6)) (fun wx hs => (x_mv (v := (.slice Ad due.length cd)) rfl)) hS ?_
          show WD Try.prog 235 _ _ _ _ 16 _ _ _
          refine WD_look (v := (.int .i64 ((due.length : Nat) : Int))) (i := 6) rfl (by kernel_rfl) rfl (by decide) (on_guard rfl rfl (congrArg Value.bool hk6)) (fun wx hs => (x_len_slc rfl Try.underlying22)) hS ?_
          show WD Try.prog 235 _ _ _ _ 15 _ _ _
          refine WD_look (v := (.bool (!decide (((pr.length : Nat) : Int) = ((due.length : Nat) : Int))))) (i := 7) rfl (by kernel_rfl) rfl (by decide) (on_guard rfl rfl (congrArg Value.bool hk6)) (fun wx hs => (x_neq (a := ((pr.length : Nat) : Int)) (b := ((due.length : Nat) : Int)) rfl rfl)) hS ?_
          show WD Try.prog 235 _ _ _ _ 14 _ _ _
          refine WD_look (v := (.bool (!decide (((pr.length : Nat) : Int) = ((due.length : Nat) : Int))))) (i := 8) rfl (by kernel_rfl) rfl (by decide) (on_none rfl) (fun wx hs => (x_pick_f (congrArg Value.bool hk6))) hS ?_
          show WD Try.prog 235 _ _ _ _ 13 _ _ _
          refine WD_look (v := (.bool (!decide (((pr.length : Nat) : Int) = ((due.length : Nat) : Int))))) (i := 9) rfl (by kernel_rfl) rfl (by decide) (on_none rfl) (fun wx hs => (x_mv (v := (.bool (!decide (((pr.length : Nat) : Int) = ((due.length : Nat) : Int))))) rfl)) hS ?_
          show WD Try.prog 235 _ _ _ _ 12 _ _ _
          refine WD_look (v := (.agg (hv (rootH ((l.length : Nat) : Int) (topH l))))) (i := 10) rfl (by kernel_rfl) rfl (by decide) (on_guard rfl rfl (congrArg Value.bool hk7)) (fun wx hs => (x_load_row rfl (hs.1) Try.underlying26 rfl ti26.sz (hv_size _))) hS ?_
          show WD Try.prog 235 _ _ _ _ 11 _ _ _
          refine WD_look (v := (.slice A l.length c)) (i := 11) rfl (by kernel_rfl) rfl (by decide) (on_guard rfl rfl (congrArg Value.bool hk7)) (fun wx hs => (x_mv (v := (.slice A l.length c)) rfl)) hS ?_
          show WD Try.prog 235 _ _ _ _ 10 _ _ _
          refine WD_look (v := (.int .i64 ((l.length : Nat) : Int))) (i := 12) rfl (by kernel_rfl) rfl (by decide) (on_guard rfl rfl (congrArg Value.bool hk7)) (fun wx hs => (x_len_slc rfl Try.underlying22)) hS ?_
          show WD Try.prog 235 _ _ _ _ 9 _ _ _
          refine WD_look (v := (.int .i64 i)) (i := 13) rfl (by kernel_rfl) rfl (by decide) (on_guard rfl rfl (congrArg Value.bool hk7)) (fun wx hs => (x_mv (v := (.int .i64 i)) rfl)) hS ?_
          show WD Try.prog 235 _ _ _ _ 8 _ _ _
          refine WD_look (v := (.slice A l.length c)) (i := 14) rfl (by kernel_rfl) rfl (by decide) (on_guard rfl rfl (congrArg Value.bool hk7)) (fun wx hs => (x_mv (v := (.slice A l.length c)) rfl)) hS ?_
          show WD Try.prog 235 _ _ _ _ 7 _ _ _
          refine WD_look (v := (.int .i64 i)) (i := 15) rfl (by kernel_rfl) rfl (by decide) (on_guard rfl rfl (congrArg Value.bool hk7)) (fun wx hs => (x_mv (v := (.int .i64 i)) rfl)) hS ?_
          show WD Try.prog 235 _ _ _ _ 6 _ _ _
          refine WD_look (v := (eaddr A ((i : Int).toNat * 32))) (i := 16) rfl (by kernel_rfl) rfl (by decide) (on_guard rfl rfl (congrArg Value.bool hk7)) (fun wx hs => (x_index_slc (i := i) rfl rfl Try.underlying22 ti26.sz (by omega) (by first | omega | (simp only [List.length_set]; omega)) (Has.some (hs.2.1) (by first | omega | (simp only [List.length_set]; omega))))) hS ?_
          show WD Try.prog 235 _ _ _ _ 5 _ _ _
          refine WD_look (v := (.agg (hv (hat l i)))) (i := 17) rfl (by kernel_rfl) rfl (by decide) (on_guard rfl rfl (congrArg Value.bool hk7)) (fun wx hs => (x_el (x := hat l i) (hs.2.1) (hat_some (by omega) (by first | omega | (simp only [List.length_set]; omega))) rfl Try.underlying26 rfl ti26.sz)) hS ?_
          show WD Try.prog 235 _ _ _ _ 4 _ _ _
          refine WD_look (v := (.slice Au2 pr.length cu2)) (i := 18) rfl (by kernel_rfl) rfl (by decide) (on_guard rfl rfl (congrArg Value.bool hk7)) (fun wx hs => (x_mv (v := (.slice Au2 pr.length cu2)) rfl)) hS ?_
          show WD Try.prog 235 _ _ _ _ 3 _ _ _
          refine WD_one (i := 19) rfl (by kernel_rfl) (WO_call (on_guard rfl rfl (congrArg Value.bool hk7)) rfl (by decide) (x_call5 Try.func10 rfl rfl rfl rfl rfl rfl rfl rfl) (Check_c _ (rootH ((l.length : Nat) : Int) (topH l)) ((l.length : Nat) : Int) i (hat l i) pr (S.has (.there _ (.here _)))) ?_)
          rintro _ wc6 ⟨rfl, hb⟩
          refine ⟨_, rfl, ?_⟩
          replace S := S.keep hb
          clear hb
          replace hS : wc6.heap[g2]? = some (.cells (hv (rootH ((l.length : Nat) : Int) (topH l))) 26 (0, 0)) ∧ Has wc6 (slc (pur hv) 32) (.slice A l.length c) l ∧ True := ⟨(S.blk_get (.there _ (.there _ (.there _ (.here _))))), (S.old hP), trivial⟩
          refine ⟨.inl hS, ?_⟩
          refine WD_look (v := (.bool (!(checkB (rootH ((l.length : Nat) : Int) (topH l)) ((l.length : Nat) : Int) i (hat l i) pr)))) (i := 20) rfl (by kernel_rfl) rfl (by decide) (on_guard rfl rfl (congrArg Value.bool hk7)) (fun wx hs => (x_not (b := checkB (rootH ((l.length : Nat) : Int) (topH l)) ((l.length : Nat) : Int) i (hat l i) pr) rfl)) hS ?_
          show WD Try.prog 235 _ _ _ _ 1 _ _ _
          refine WD_look (v := (.bool (!(checkB (rootH ((l.length : Nat) : Int) (topH l)) ((l.length : Nat) : Int) i (hat l i) pr)))) (i := 21) rfl (by kernel_rfl) rfl (by decide) (on_none rfl) (fun wx hs => (x_pick_f (congrArg Value.bool hk7))) hS ?_
          show WD Try.prog 235 _ _ _ _ 0 _ _ _
          refine WD_done (by kernel_rfl) ?_
          clear hS
          show WC Try.prog 235 _ _ _ _
          have hk8 : (!(checkB (rootH ((l.length : Nat) : Int) (topH l)) ((l.length : Nat) : Int) i (hat l i) pr)) = false := by rw [← hPP, check_true (by omega) (by omega) (by omega)]; rfl
          refine WC_cond (t := false) (congrArg Value.bool hk8) (fun h => by cases h) (fun _ => ?_)
          show WC Try.prog 235 _ _ _ _
          refine WC_skip ?_
          show WC Try.prog 235 _ _ _ _
          refine WC_seq ?_
          refine WC_seq ?_
          refine WC_region ?_
          refine WL_cons (WO_val (v := (.slice Ad due.length cd)) (on_none rfl) rfl (by decide) (x_mv (v := (.slice Ad due.length cd)) rfl) ?_)
          refine WL_cons (WO_val (v := (.int .i64 ((due.length : Nat) : Int))) (on_none rfl) rfl (by decide) (x_len_slc rfl Try.underlying22) ?_)
          refine WL_cons (WO_val (v := (.int .i64 0)) (on_none rfl) rfl (by decide) (x_mv (v := (.int .i64 0)) rfl) ?_)
          refine WL_nil ?_
          show WC Try.prog 235 _ _ _ _
          refine WC_block ?_
          refine WC_loop (fun kq e' w' => ∃ (f : Nat) (k : Int) (eb : Env), e' = updL eb [(0, (.slice A l.length c)), (1, (.int .u8 at_)), (2, (.int .u8 bend)), (7, (.slice Au1 rs.length cu1)), (9, (.pointer (some ⟨g2, 0, none⟩))), (10, (.int .i64 i)), (11, (.slice Au2 pr.length cu2)), (13, (.slice Ad due.length cd)), (119, (.int .i64 ((due.length : Nat) : Int))), (120, (.int .i64 k))] ∧ SL w [own hv 26 32 (.slice Ad due.length cd) due, val (slc (pur hv) 32) (.slice Au2 pr.length cu2) pr, val (slc (slc (pur hv) 32) 1) (.slice Au1 rs.length cu1) rs, blk g2 26 (hv (rootH ((l.length : Nat) : Int) (topH l)))] w' ∧ (k + (f : Int) = due.length) ∧ (0 ≤ k) ∧ f = kq) (k := due.length) ⟨due.length, 0, _, (updL_eq _ _ (by exact ⟨rfl, rfl, rfl, rfl, rfl, rfl, rfl, rfl, rfl, rfl, trivial⟩)).symm, S, (by omega), (by omega), rfl⟩ ?_
          clear S
          rintro k3 e4 wl4 ⟨f, k, eb, rfl, S, hkf2, hk2, rfl⟩
          show WC Try.prog 235 _ _ _ _
          have hpd : pr.length = due.length := by rw [hdp]
          refine WC_seq ?_
          refine WC_region ?_
          refine WL_cons (WO_val (v := (.bool (decide (k < ((due.length : Nat) : Int))))) (on_none rfl) rfl (by decide) (x_lss (a := k) (b := ((due.length : Nat) : Int)) rfl rfl) ?_)
          refine WL_nil ?_
          show WC Try.prog 235 _ _ _ _
          refine WC_seq ?_
          refine WC_cond (t := decide (k < ((due.length : Nat) : Int))) rfl (fun hc6 => ?_) (fun hc6 => ?_)
          · show WC Try.prog 235 _ _ _ _
            have hc6_ := of_decide_eq_true hc6
            obtain ⟨f, rfl⟩ : ∃ m, f = m + 1 := ⟨f - 1, by omega⟩
            refine WC_skip ?_
            show WC Try.prog 235 _ _ _ _
            refine WC_seq ?_
            refine WC_block ?_
            refine WC_seq ?_
            refine WC_region ?_
            refine WL_cons (WO_val (v := (.int .i64 k)) (on_none rfl) rfl (by decide) (x_mv (v := (.int .i64 k)) rfl) ?_)
            refine WL_cons (WO_val (v := (.int .i64 k)) (on_none rfl) rfl (by decide) (x_as (v := (.int .i64 k)) rfl) ?_)
            refine WL_nil ?_
            show WC Try.prog 235 _ _ _ _
            refine WC_seq ?_
            refine WC_draw (S := fun wx => Has wx (slc (pur hv) 32) (.slice Au2 pr.length cu2) pr ∧ Has wx (slc (pur hv) 32) (.slice Ad due.length cd) due ∧ True) (Z := []) rfl ?_
            replace S := S.drew
            have hS : Has (World.drew wl4) (slc (pur hv) 32) (.slice Au2 pr.length cu2) pr ∧ Has (World.drew wl4) (slc (pur hv) 32) (.slice Ad due.length cd) due ∧ True := ⟨(S.has (.there _ (.here _))), (S.own_has hvsz (.here _)), trivial⟩
            show WD Try.prog 235 _ _ _ _ 9 [] _ _
            refine WD_look (v := (.slice Au2 pr.length cu2)) (i := 0) rfl (by kernel_rfl) rfl (by decide) (on_none rfl) (fun wx hs => (x_mv (v := (.slice Au2 pr.length cu2)) rfl)) hS ?_
            show WD Try.prog 235 _ _ _ _ 8 _ _ _
            refine WD_look (v := (.int .i64 k)) (i := 1) rfl (by kernel_rfl) rfl (by decide) (on_none rfl) (fun wx hs => (x_mv (v := (.int .i64 k)) rfl)) hS ?_
            show WD Try.prog 235 _ _ _ _ 7 _ _ _
            refine WD_look (v := (eaddr Au2 ((k : Int).toNat * 32))) (i := 2) rfl (by kernel_rfl) rfl (by decide) (on_none rfl) (fun wx hs => (x_index_slc (i := k) rfl rfl Try.underlying22 ti26.sz (by omega) (by first | omega | (simp only [List.length_set]; omega)) (Has.some (hs.1) (by first | omega | (simp only [List.length_set]; omega))))) hS ?_
            show WD Try.prog 235 _ _ _ _ 6 _ _ _
            refine WD_look (v := (.agg (hv (hat pr k)))) (i := 3) rfl (by kernel_rfl) rfl (by decide) (on_none rfl) (fun wx hs => (x_el (x := hat pr k) (hs.1) (hat_some (by omega) (by first | omega | (simp only [List.length_set]; omega))) rfl Try.underlying26 rfl ti26.sz)) hS ?_
            show WD Try.prog 235 _ _ _ _ 5 _ _ _
            refine WD_look (v := (.slice Ad due.length cd)) (i := 4) rfl (by kernel_rfl) rfl (by decide) (on_none rfl) (fun wx hs => (x_mv (v := (.slice Ad due.length cd)) rfl)) hS ?_
            show WD Try.prog 235 _ _ _ _ 4 _ _ _
            refine WD_look (v := (.int .i64 k)) (i := 5) rfl (by kernel_rfl) rfl (by decide) (on_none rfl) (fun wx hs => (x_mv (v := (.int .i64 k)) rfl)) hS ?_
            show WD Try.prog 235 _ _ _ _ 3 _ _ _
            refine WD_look (v := (eaddr Ad ((k : Int).toNat * 32))) (i := 6) rfl (by kernel_rfl) rfl (by decide) (on_none rfl) (fun wx hs => (x_index_slc (i := k) rfl rfl Try.underlying22 ti26.sz (by omega) (by first | omega | (simp only [List.length_set]; omega)) (Has.some (hs.2.1) (by first | omega | (simp only [List.length_set]; omega))))) hS ?_
            show WD Try.prog 235 _ _ _ _ 2 _ _ _
            refine WD_look (v := (.agg (hv (hat due k)))) (i := 7) rfl (by kernel_rfl) rfl (by decide) (on_none rfl) (fun wx hs => (x_el (x := hat due k) (hs.2.1) (hat_some (by omega) (by first | omega | (simp only [List.length_set]; omega))) rfl Try.underlying26 rfl ti26.sz)) hS ?_
            show WD Try.prog 235 _ _ _ _ 1 _ _ _
            refine WD_look (v := (.bool (!decide ((hat pr k) = (hat due k))))) (i := 8) rfl (by kernel_rfl) rfl (by decide) (on_none rfl) (fun wx hs => (x_neq_agg rfl rfl ng26 (eq_H (hat pr k) (hat due k) _))) hS ?_
            show WD Try.prog 235 _ _ _ _ 0 _ _ _
            refine WD_done (by kernel_rfl) ?_
            clear hS
            show WC Try.prog 235 _ _ _ _
            have hk9 : (!decide ((hat pr k) = (hat due k))) = false := by rw [hdp]; simp
            refine WC_cond (t := false) (congrArg Value.bool hk9) (fun h => by cases h) (fun _ => ?_)
            show WC Try.prog 235 _ _ _ _
            refine WC_skip ?_
            show WC Try.prog 235 _ _ _ _
            refine WC_region ?_
            refine WL_cons (WO_val (v := (.int .i64 (k + 1))) (on_none rfl) rfl (by decide) (x_add (a := k) (b := 1) rfl rfl (wi64 (by omega))) ?_)
            refine WL_cons (WO_val (v := (.int .i64 (k + 1))) (on_none rfl) rfl (by decide) (x_mv (v := (.int .i64 (k + 1))) rfl) ?_)
            refine WL_nil ?_
            refine ⟨_, ?_, f, k + 1, _, (updL_eq _ _ (by exact ⟨rfl, rfl, rfl, rfl, rfl, rfl, rfl, rfl, rfl, rfl, trivial⟩)).symm, S, (by omega), (by omega), rfl⟩
            exact Nat.lt_succ_self f
          · show WC Try.prog 235 _ _ _ _
            have hc6_ := of_decide_eq_false hc6
            obtain rfl : f = 0 := by omega
            refine WC_exit ?_
            show WC Try.prog 235 _ _ _ _
            replace S := SL.own_nil S hv 26 32
            refine WC_cut (fun e' w' => ∃ (gh : Nat) (gr : Nat) (A2 : Option Addr) (m2 : Nat) (c2 : Nat) (eb : Env), e' = updL eb [(0, (.slice A l.length c)), (1, (.int .u8 at_)), (2, (.int .u8 bend)), (7, (.slice Au1 rs.length cu1)), (9, (.pointer (some ⟨g2, 0, none⟩))), (10, (.int .i64 i)), (19, (.int .i64 ((l.length : Nat) : Int))), (20, (.int .i64 i)), (21, (.pointer (some ⟨gh, 0, none⟩))), (22, (.slice A2 m2 c2)), (23, (.pointer (some ⟨gr, 0, none⟩)))] ∧ SL w [val (slc (slc (pur hv) 32) 1) (.slice Au1 rs.length cu1) rs, blk g2 26 (hv (rootH ((l.length : Nat) : Int) (topH l))), blk gh 26 (hv (hat l i)), blk gr 26 (hv (rootH ((l.length : Nat) : Int) (topH l))), own hv 26 32 (.slice A2 m2 c2) due] w' ∧ (m2 = due.length)) ?_ ?_
            · show WC Try.prog 235 _ _ _ _
              refine WC_draw (S := fun wx => Has wx (slc (pur hv) 32) (.slice A l.length c) l ∧ wx.heap[g2]? = some (.cells (hv (rootH ((l.length : Nat) : Int) (topH l))) 26 (0, 0)) ∧ True) (Z := []) rfl ?_
              replace S := S.drew
              have hS : Has (World.drew wl4) (slc (pur hv) 32) (.slice A l.length c) l ∧ (World.drew wl4).heap[g2]? = some (.cells (hv (rootH ((l.length : Nat) : Int) (topH l))) 26 (0, 0)) ∧ True := ⟨(S.old hP), (S.blk_get (.there _ (.there _ (.there _ (.there _ (.here _)))))), trivial⟩
              show WD Try.prog 235 _ _ _ _ 17 [] _ _
              refine WD_look (v := (.slice A l.length c)) (i := 0) rfl (by kernel_rfl) rfl (by decide) (on_none rfl) (fun wx hs => (x_mv (v := (.slice A l.length c)) rfl)) hS ?_
              show WD Try.prog 235 _ _ _ _ 16 _ _ _
              refine WD_look (v := (.int .i64 ((l.length : Nat) : Int))) (i := 1) rfl (by kernel_rfl) rfl (by decide) (on_none rfl) (fun wx hs => (x_len_slc rfl Try.underlying22)) hS ?_
              show WD Try.prog 235 _ _ _ _ 15 _ _ _
              refine WD_look (v := (.int .i64 i)) (i := 2) rfl (by kernel_rfl) rfl (by decide) (on_none rfl) (fun wx hs => (x_mv (v := (.int .i64 i)) rfl)) hS ?_
              show WD Try.prog 235 _ _ _ _ 14 _ _ _
              refine WD_look (v := (.slice A l.length c)) (i := 3) rfl (by kernel_rfl) rfl (by decide) (on_none rfl) (fun wx hs => (x_mv (v := (.slice A l.length c)) rfl)) hS ?_
              show WD Try.prog 235 _ _ _ _ 13 _ _ _
              refine WD_look (v := (.int .i64 i)) (i := 4) rfl (by kernel_rfl) rfl (by decide) (on_none rfl) (fun wx hs => (x_mv (v := (.int .i64 i)) rfl)) hS ?_
              show WD Try.prog 235 _ _ _ _ 12 _ _ _
              refine WD_look (v := (eaddr A ((i : Int).toNat * 32))) (i := 5) rfl (by kernel_rfl) rfl (by decide) (on_none rfl) (fun wx hs => (x_index_slc (i := i) rfl rfl Try.underlying22 ti26.sz (by omega) (by first | omega | (simp only [List.length_set]; omega)) (Has.some (hs.1) (by first | omega | (simp only [List.length_set]; omega))))) hS ?_
              show WD Try.prog 235 _ _ _ _ 11 _ _ _
              refine WD_look (v := (.agg (hv (hat l i)))) (i := 6) rfl (by kernel_rfl) rfl (by decide) (on_none rfl) (fun wx hs => (x_el (x := hat l i) (hs.1) (hat_some (by omega) (by first | omega | (simp only [List.length_set]; omega))) rfl Try.underlying26 rfl ti26.sz)) hS ?_
              show WD Try.prog 235 _ _ _ _ 10 _ _ _
              refine WD_look (v := (.slice Ad due.length cd)) (i := 7) rfl (by kernel_rfl) rfl (by decide) (on_none rfl) (fun wx hs => (x_mv (v := (.slice Ad due.length cd)) rfl)) hS ?_
              show WD Try.prog 235 _ _ _ _ 9 _ _ _
              refine WD_look (v := (.agg (hv (rootH ((l.length : Nat) : Int) (topH l))))) (i := 9) rfl (by kernel_rfl) rfl (by decide) (on_none rfl) (fun wx hs => (x_load_row rfl (hs.2.1) Try.underlying26 rfl ti26.sz (hv_size _))) hS ?_
              show WD Try.prog 235 _ _ _ _ 8 _ _ _
              refine WD_three (i := 8) (j := 10) (l := 11) rfl rfl rfl (by kernel_rfl) ?_ ?_ ?_ 
              · skip
                refine WO_append (ys := due) S (on_none rfl) (by decide) rfl rfl (fun _ => (.here _)) (S.own_has hvsz (.there _ (.here _))) Try.underlying22 ti26 (hv_size _) (by decide) hvsz hv_one (by simp only [maxLen, List.length_append, List.length_cons, List.length_nil]; omega) (by simp only [maxLen, List.length_append, List.length_cons, List.length_nil]; omega) ?_
                intro A2 c2 wa2 S
                replace hS : Has wa2 (slc (pur hv) 32) (.slice A l.length c) l ∧ wa2.heap[g2]? = some (.cells (hv (rootH ((l.length : Nat) : Int) (topH l))) 26 (0, 0)) ∧ True := ⟨(S.old hP), (S.blk_get (.there _ (.there _ (.there _ (.there _ (.here _)))))), trivial⟩
                refine ⟨.inl hS, ?_⟩
                show WD Try.prog 235 _ _ _ _ 7 _ _ _
                refine WD_two (i := 10) (j := 11) rfl rfl (by kernel_rfl) ?_ ?_ 
                · skip
                  refine WO_alloc (row := hv zeroH) S (on_none rfl) (by decide) ti26 rfl ?_
                  intro g4 wg4 S
                  replace hS : Has wg4 (slc (pur hv) 32) (.slice A l.length c) l ∧ wg4.heap[g2]? = some (.cells (hv (rootH ((l.length : Nat) : Int) (topH l))) 26 (0, 0)) ∧ True := ⟨(S.old hP), (S.blk_get (.there _ (.there _ (.there _ (.there _ (.there _ (.here _))))))), trivial⟩
                  refine ⟨.inl hS, ?_⟩
                  show WD Try.prog 235 _ _ _ _ 6 _ _ _
                  refine WD_one (i := 11) rfl (by kernel_rfl) (WO_alloc (row := hv zeroH) S (on_none rfl) (by decide) ti26 rfl ?_)
                  intro g5 wg5 S
                  replace hS : Has wg5 (slc (pur hv) 32) (.slice A l.length c) l ∧ wg5.heap[g2]? = some (.cells (hv (rootH ((l.length : Nat) : Int) (topH l))) 26 (0, 0)) ∧ True := ⟨(S.old hP), (S.blk_get (.there _ (.there _ (.there _ (.there _ (.there _ (.there _ (.here _)))))))), trivial⟩
                  refine ⟨.inl hS, ?_⟩
                  refine WD_look (v := (.int .i64 ((l.length : Nat) : Int))) (i := 12) rfl (by kernel_rfl) rfl (by decide) (on_none rfl) (fun wx hs => (x_as (v := (.int .i64 ((l.length : Nat) : Int))) rfl)) hS ?_
                  show WD Try.prog 235 _ _ _ _ 4 _ _ _
                  refine WD_look (v := (.int .i64 i)) (i := 13) rfl (by kernel_rfl) rfl (by decide) (on_none rfl) (fun wx hs => (x_as (v := (.int .i64 i)) rfl)) hS ?_
                  show WD Try.prog 235 _ _ _ _ 3 _ _ _
                  refine WD_one (i := 14) rfl (by kernel_rfl) (WO_store (v := (.agg (hv (hat l i)))) (row := hv zeroH) (row' := hv (hat l i)) S (on_none rfl) rfl rfl (.there _ (.here _)) ti26.sz (hv_size _) (by rw [hv_size]; exact Nat.le_refl _) (bv_one _) (splice_all _ _ (((hv_size _)).trans ((hv_size _)).symm)) ?_)
                  intro ws4 S
                  replace hS : Has ws4 (slc (pur hv) 32) (.slice A l.length c) l ∧ ws4.heap[g2]? = some (.cells (hv (rootH ((l.length : Nat) : Int) (topH l))) 26 (0, 0)) ∧ True := ⟨(S.old hP), (S.blk_get (.there _ (.there _ (.there _ (.there _ (.there _ (.there _ (.here _)))))))), trivial⟩
                  refine ⟨.inl hS, ?_⟩
                  refine WD_look (v := (.slice A2 (([] : List H).length + (due).length) c2)) (i := 15) rfl (by kernel_rfl) rfl (by decide) (on_none rfl) (fun wx hs => (x_as (v := (.slice A2 (([] : List H).length + (due).length) c2)) rfl)) hS ?_
                  show WD Try.prog 235 _ _ _ _ 1 _ _ _
                  refine WD_one (i := 16) rfl (by kernel_rfl) (WO_store (v := (.agg (hv (rootH ((l.length : Nat) : Int) (topH l))))) (row := hv zeroH) (row' := hv (rootH ((l.length : Nat) : Int) (topH l))) S (on_none rfl) rfl rfl (.here _) ti26.sz (hv_size _) (by rw [hv_size]; exact Nat.le_refl _) (bv_one _) (splice_all _ _ (((hv_size _)).trans ((hv_size _)).symm)) ?_)
                  intro ws5 S
                  replace hS : Has ws5 (slc (pur hv) 32) (.slice A l.length c) l ∧ ws5.heap[g2]? = some (.cells (hv (rootH ((l.length : Nat) : Int) (topH l))) 26 (0, 0)) ∧ True := ⟨(S.old hP), (S.blk_get (.there _ (.there _ (.there _ (.there _ (.there _ (.there _ (.here _)))))))), trivial⟩
                  refine ⟨.inl hS, ?_⟩
                  refine WD_done (by kernel_rfl) ?_
                  clear hS
                  rw [List.nil_append] at S
                  replace S := S.drop (.there _ (.there _ (.there _ (.there _ (.here _)))))
                  replace S := S.drop (.there _ (.there _ (.there _ (.here _))))
                  have S_ : SL w ([own hv 26 32 (.slice A2 (([] : List H).length + (due).length) c2) due, blk g5 26 (hv (rootH ((l.length : Nat) : Int) (topH l))), blk g4 26 (hv (hat l i)), val (slc (slc (pur hv) 32) 1) (.slice Au1 rs.length cu1) rs, blk g2 26 (hv (rootH ((l.length : Nat) : Int) (topH l)))]) ws5 := SL.front [_, _] S
                  replace S := S_
                  clear S_
                  have S_ : SL w ([blk g5 26 (hv (rootH ((l.length : Nat) : Int) (topH l))), own hv 26 32 (.slice A2 (([] : List H).length + (due).length) c2) due, blk g4 26 (hv (hat l i)), val (slc (slc (pur hv) 32) 1) (.slice Au1 rs.length cu1) rs, blk g2 26 (hv (rootH ((l.length : Nat) : Int) (topH l)))]) ws5 := SL.front [_] S
                  replace S := S_
                  clear S_
                  have S_ : SL w ([blk g4 26 (hv (hat l i)), blk g5 26 (hv (rootH ((l.length : Nat) : Int) (topH l))), own hv 26 32 (.slice A2 (([] : List H).length + (due).length) c2) due, val (slc (slc (pur hv) 32) 1) (.slice Au1 rs.length cu1) rs, blk g2 26 (hv (rootH ((l.length : Nat) : Int) (topH l)))]) ws5 := SL.front [_, _] S
                  replace S := S_
                  clear S_
                  have S_ : SL w ([blk g2 26 (hv (rootH ((l.length : Nat) : Int) (topH l))), blk g4 26 (hv (hat l i)), blk g5 26 (hv (rootH ((l.length : Nat) : Int) (topH l))), own hv 26 32 (.slice A2 (([] : List H).length + (due).length) c2) due, val (slc (slc (pur hv) 32) 1) (.slice Au1 rs.length cu1) rs]) ws5 := SL.front [_, _, _, _] S
                  replace S := S_
                  clear S_
                  have S_ : SL w ([val (slc (slc (pur hv) 32) 1) (.slice Au1 rs.length cu1) rs, blk g2 26 (hv (rootH ((l.length : Nat) : Int) (topH l))), blk g4 26 (hv (hat l i)), blk g5 26 (hv (rootH ((l.length : Nat) : Int) (topH l))), own hv 26 32 (.slice A2 (([] : List H).length + (due).length) c2) due]) ws5 := SL.front [_, _, _, _] S
                  replace S := S_
                  clear S_
                  have hm22 : ([] : List H).length + (due).length = due.length := by simp
                  exact ⟨g4, g5, A2, ([] : List H).length + (due).length, c2, _, (updL_eq _ _ (by exact ⟨rfl, rfl, rfl, rfl, rfl, rfl, rfl, rfl, rfl, rfl, rfl, trivial⟩)).symm, S, hm22⟩
                · skip
                  refine WO_alloc (row := hv zeroH) S (on_none rfl) (by decide) ti26 rfl ?_
                  intro g6 wg6 S
                  replace hS : Has wg6 (slc (pur hv) 32) (.slice A l.length c) l ∧ wg6.heap[g2]? = some (.cells (hv (rootH ((l.length : Nat) : Int) (topH l))) 26 (0, 0)) ∧ True := ⟨(S.old hP), (S.blk_get (.there _ (.there _ (.there _ (.there _ (.there _ (.here _))))))), trivial⟩
                  refine ⟨.inl hS, ?_⟩
                  show WD Try.prog 235 _ _ _ _ 6 _ _ _
                  refine WD_one (i := 10) rfl (by kernel_rfl) (WO_alloc (row := hv zeroH) S (on_none rfl) (by decide) ti26 rfl ?_)
                  intro g7 wg7 S
                  replace hS : Has wg7 (slc (pur hv) 32) (.slice A l.length c) l ∧ wg7.heap[g2]? = some (.cells (hv (rootH ((l.length : Nat) : Int) (topH l))) 26 (0, 0)) ∧ True := ⟨(S.old hP), (S.blk_get (.there _ (.there _ (.there _ (.there _ (.there _ (.there _ (.here _)))))))), trivial⟩
                  refine ⟨.inl hS, ?_⟩
                  refine WD_look (v := (.int .i64 ((l.length : Nat) : Int))) (i := 12) rfl (by kernel_rfl) rfl (by decide) (on_none rfl) (fun wx hs => (x_as (v := (.int .i64 ((l.length : Nat) : Int))) rfl)) hS ?_
                  show WD Try.prog 235 _ _ _ _ 4 _ _ _
                  refine WD_look (v := (.int .i64 i)) (i := 13) rfl (by kernel_rfl) rfl (by decide) (on_none rfl) (fun wx hs => (x_as (v := (.int .i64 i)) rfl)) hS ?_
                  show WD Try.prog 235 _ _ _ _ 3 _ _ _
                  refine WD_one (i := 14) rfl (by kernel_rfl) (WO_store (v := (.agg (hv (hat l i)))) (row := hv zeroH) (row' := hv (hat l i)) S (on_none rfl) rfl rfl (.here _) ti26.sz (hv_size _) (by rw [hv_size]; exact Nat.le_refl _) (bv_one _) (splice_all _ _ (((hv_size _)).trans ((hv_size _)).symm)) ?_)
                  intro ws6 S
                  replace hS : Has ws6 (slc (pur hv) 32) (.slice A l.length c) l ∧ ws6.heap[g2]? = some (.cells (hv (rootH ((l.length : Nat) : Int) (topH l))) 26 (0, 0)) ∧ True := ⟨(S.old hP), (S.blk_get (.there _ (.there _ (.there _ (.there _ (.there _ (.there _ (.here _)))))))), trivial⟩
                  refine ⟨.inl hS, ?_⟩
                  refine WD_look (v := (.slice A2 (([] : List H).length + (due).length) c2)) (i := 15) rfl (by kernel_rfl) rfl (by decide) (on_none rfl) (fun wx hs => (x_as (v := (.slice A2 (([] : List H).length + (due).length) c2)) rfl)) hS ?_
                  show WD Try.prog 235 _ _ _ _ 1 _ _ _
                  refine WD_one (i := 16) rfl (by kernel_rfl) (WO_store (v := (.agg (hv (rootH ((l.length : Nat) : Int) (topH l))))) (row := hv zeroH) (row' := hv (rootH ((l.length : Nat) : Int) (topH l))) S (on_none rfl) rfl rfl (.there _ (.here _)) ti26.sz (hv_size _) (by rw [hv_size]; exact Nat.le_refl _) (bv_one _) (splice_all _ _ (((hv_size _)).trans ((hv_size _)).symm)) ?_)
                  intro ws7 S
                  replace hS : Has ws7 (slc (pur hv) 32) (.slice A l.length c) l ∧ ws7.heap[g2]? = some (.cells (hv (rootH ((l.length : Nat) : Int) (topH l))) 26 (0, 0)) ∧ True := ⟨(S.old hP), (S.blk_get (.there _ (.there _ (.there _ (.there _ (.there _ (.there _ (.here _)))))))), trivial⟩
                  refine ⟨.inl hS, ?_⟩
                  refine WD_done (by kernel_rfl) ?_
                  clear hS
                  rw [List.nil_append] at S
                  replace S := S.drop (.there _ (.there _ (.there _ (.there _ (.here _)))))
                  replace S := S.drop (.there _ (.there _ (.there _ (.here _))))
                  have S_ : SL w ([own hv 26 32 (.slice A2 (([] : List H).length + (due).length) c2) due, blk g7 26 (hv (hat l i)), blk g6 26 (hv (rootH ((l.length : Nat) : Int) (topH l))), val (slc (slc (pur hv) 32) 1) (.slice Au1 rs.length cu1) rs, blk g2 26 (hv (rootH ((l.length : Nat) : Int) (topH l)))]) ws7 := SL.front [_, _] S
                  replace S := S_
                  clear S_
                  have S_ : SL w ([blk g6 26 (hv (rootH ((l.length : Nat) : Int) (topH l))), own hv 26 32 (.slice A2 (([] : List H).length + (due).length) c2) due, blk g7 26 (hv (hat l i)), val (slc (slc (pur hv) 32) 1) (.slice Au1 rs.length cu1) rs, blk g2 26 (hv (rootH ((l.length : Nat) : Int) (topH l)))]) ws7 := SL.front [_, _] S
                  replace S := S_
                  clear S_
                  have S_ : SL w ([blk g7 26 (hv (hat l i)), blk g6 26 (hv (rootH ((l.length : Nat) : Int) (topH l))), own hv 26 32 (.slice A2 (([] : List H).length + (due).length) c2) due, val (slc (slc (pur hv) 32) 1) (.slice Au1 rs.length cu1) rs, blk g2 26 (hv (rootH ((l.length : Nat) : Int) (topH l)))]) ws7 := SL.front [_, _] S
                  replace S := S_
                  clear S_
                  have S_ : SL w ([blk g2 26 (hv (rootH ((l.length : Nat) : Int) (topH l))), blk g7 26 (hv (hat l i)), blk g6 26 (hv (rootH ((l.length : Nat) : Int) (topH l))), own hv 26 32 (.slice A2 (([] : List H).length + (due).length) c2) due, val (slc (slc (pur hv) 32) 1) (.slice Au1 rs.length cu1) rs]) ws7 := SL.front [_, _, _, _] S
                  replace S := S_
                  clear S_
                  have S_ : SL w ([val (slc (slc (pur hv) 32) 1) (.slice Au1 rs.length cu1) rs, blk g2 26 (hv (rootH ((l.length : Nat) : Int) (topH l))), blk g7 26 (hv (hat l i)), blk g6 26 (hv (rootH ((l.length : Nat) : Int) (topH l))), own hv 26 32 (.slice A2 (([] : List H).length + (due).length) c2) due]) ws7 := SL.front [_, _, _, _] S
                  replace S := S_
                  clear S_
                  have hm22 : ([] : List H).length + (due).length = due.length := by simp
                  exact ⟨g7, g6, A2, ([] : List H).length + (due).length, c2, _, (updL_eq _ _ (by exact ⟨rfl, rfl, rfl, rfl, rfl, rfl, rfl, rfl, rfl, rfl, rfl, trivial⟩)).symm, S, hm22⟩
              · skip
                refine WO_alloc (row := hv zeroH) S (on_none rfl) (by decide) ti26 rfl ?_
                intro g8 wg8 S
                replace hS : Has wg8 (slc (pur hv) 32) (.slice A l.length c) l ∧ wg8.heap[g2]? = some (.cells (hv (rootH ((l.length : Nat) : Int) (topH l))) 26 (0, 0)) ∧ True := ⟨(S.old hP), (S.blk_get (.there _ (.there _ (.there _ (.there _ (.there _ (.here _))))))), trivial⟩
                refine ⟨.inl hS, ?_⟩
                show WD Try.prog 235 _ _ _ _ 7 _ _ _
                refine WD_two (i := 8) (j := 11) rfl rfl (by kernel_rfl) ?_ ?_ 
                · skip
                  refine WO_append (ys := due) S (on_none rfl) (by decide) rfl rfl (fun _ => (.there _ (.here _))) (S.own_has hvsz (.there _ (.there _ (.here _)))) Try.underlying22 ti26 (hv_size _) (by decide) hvsz hv_one (by simp only [maxLen, List.length_append, List.length_cons, List.length_nil]; omega) (by simp only [maxLen, List.length_append, List.length_cons, List.length_nil]; omega) ?_
                  intro A3 c3 wa3 S
                  replace hS : Has wa3 (slc (pur hv) 32) (.slice A l.length c) l ∧ wa3.heap[g2]? = some (.cells (hv (rootH ((l.length : Nat) : Int) (topH l))) 26 (0, 0)) ∧ True := ⟨(S.old hP), (S.blk_get (.there _ (.there _ (.there _ (.there _ (.there _ (.here _))))))), trivial⟩
                  refine ⟨.inl hS, ?_⟩
                  show WD Try.prog 235 _ _ _ _ 6 _ _ _
                  refine WD_one (i := 11) rfl (by kernel_rfl) (WO_alloc (row := hv zeroH) S (on_none rfl) (by decide) ti26 rfl ?_)
                  intro g9 wg9 S
                  replace hS : Has wg9 (slc (pur hv) 32) (.slice A l.length c) l ∧ wg9.heap[g2]? = some (.cells (hv (rootH ((l.length : Nat) : Int) (topH l))) 26 (0, 0)) ∧ True := ⟨(S.old hP), (S.blk_get (.there _ (.there _ (.there _ (.there _ (.there _ (.there _ (.here _)))))))), trivial⟩
                  refine ⟨.inl hS, ?_⟩
                  refine WD_look (v := (.int .i64 ((l.length : Nat) : Int))) (i := 12) rfl (by kernel_rfl) rfl (by decide) (on_none rfl) (fun wx hs => (x_as (v := (.int .i64 ((l.length : Nat) : Int))) rfl)) hS ?_
                  show WD Try.prog 235 _ _ _ _ 4 _ _ _
                  refine WD_look (v := (.int .i64 i)) (i := 13) rfl (by kernel_rfl) rfl (by decide) (on_none rfl) (fun wx hs => (x_as (v := (.int .i64 i)) rfl)) hS ?_
                  show WD Try.prog 235 _ _ _ _ 3 _ _ _
                  refine WD_one (i := 14) rfl (by kernel_rfl) (WO_store (v := (.agg (hv (hat l i)))) (row := hv zeroH) (row' := hv (hat l i)) S (on_none rfl) rfl rfl (.there _ (.here _)) ti26.sz (hv_size _) (by rw [hv_size]; exact Nat.le_refl _) (bv_one _) (splice_all _ _ (((hv_size _)).trans ((hv_size _)).symm)) ?_)
                  intro ws8 S
                  replace hS : Has ws8 (slc (pur hv) 32) (.slice A l.length c) l ∧ ws8.heap[g2]? = some (.cells (hv (rootH ((l.length : Nat) : Int) (topH l))) 26 (0, 0)) ∧ True := ⟨(S.old hP), (S.blk_get (.there _ (.there _ (.there _ (.there _ (.there _ (.there _ (.here _)))))))), trivial⟩
                  refine ⟨.inl hS, ?_⟩
                  refine WD_look (v := (.slice A3 (([] : List H).length + (due).length) c3)) (i := 15) rfl (by kernel_rfl) rfl (by decide) (on_none rfl) (fun wx hs => (x_as (v := (.slice A3 (([] : List H).length + (due).length) c3)) rfl)) hS ?_
                  show WD Try.prog 235 _ _ _ _ 1 _ _ _
                  refine WD_one (i := 16) rfl (by kernel_rfl) (WO_store (v := (.agg (hv (rootH ((l.length : Nat) : Int) (topH l))))) (row := hv zeroH) (row' := hv (rootH ((l.length : Nat) : Int) (topH l))) S (on_none rfl) rfl rfl (.here _) ti26.sz (hv_size _) (by rw [hv_size]; exact Nat.le_refl _) (bv_one _) (splice_all _ _ (((hv_size _)).trans ((hv_size _)).symm)) ?_)
                  intro ws9 S
                  replace hS : Has ws9 (slc (pur hv) 32) (.slice A l.length c) l ∧ ws9.heap[g2]? = some (.cells (hv (rootH ((l.length : Nat) : Int) (topH l))) 26 (0, 0)) ∧ True := ⟨(S.old hP), (S.blk_get (.there _ (.there _ (.there _ (.there _ (.there _ (.there _ (.here _)))))))), trivial⟩
                  refine ⟨.inl hS, ?_⟩
                  refine WD_done (by kernel_rfl) ?_
                  clear hS
                  rw [List.nil_append] at S
                  replace S := S.drop (.there _ (.there _ (.there _ (.there _ (.here _)))))
                  replace S := S.drop (.there _ (.there _ (.there _ (.here _))))
                  have S_ : SL w ([own hv 26 32 (.slice A3 (([] : List H).length + (due).length) c3) due, blk g9 26 (hv (rootH ((l.length : Nat) : Int) (topH l))), blk g8 26 (hv (hat l i)), val (slc (slc (pur hv) 32) 1) (.slice Au1 rs.length cu1) rs, blk g2 26 (hv (rootH ((l.length : Nat) : Int) (topH l)))]) ws9 := SL.front [_, _] S
                  replace S := S_
                  clear S_
                  have S_ : SL w ([blk g9 26 (hv (rootH ((l.length : Nat) : Int) (topH l))), own hv 26 32 (.slice A3 (([] : List H).length + (due).length) c3) due, blk g8 26 (hv (hat l i)), val (slc (slc (pur hv) 32) 1) (.slice Au1 rs.length cu1) rs, blk g2 26 (hv (rootH ((l.length : Nat) : Int) (topH l)))]) ws9 := SL.front [_] S
                  replace S := S_
                  clear S_
                  have S_ : SL w ([blk g8 26 (hv (hat l i)), blk g9 26 (hv (rootH ((l.length : Nat) : Int) (topH l))), own hv 26 32 (.slice A3 (([] : List H).length + (due).length) c3) due, val (slc (slc (pur hv) 32) 1) (.slice Au1 rs.length cu1) rs, blk g2 26 (hv (rootH ((l.length : Nat) : Int) (topH l)))]) ws9 := SL.front [_, _] S
                  replace S := S_
                  clear S_
                  have S_ : SL w ([blk g2 26 (hv (rootH ((l.length : Nat) : Int) (topH l))), blk g8 26 (hv (hat l i)), blk g9 26 (hv (rootH ((l.length : Nat) : Int) (topH l))), own hv 26 32 (.slice A3 (([] : List H).length + (due).length) c3) due, val (slc (slc (pur hv) 32) 1) (.slice Au1 rs.length cu1) rs]) ws9 := SL.front [_, _, _, _] S
                  replace S := S_
                  clear S_
                  have S_ : SL w ([val (slc (slc (pur hv) 32) 1) (.slice Au1 rs.length cu1) rs, blk g2 26 (hv (rootH ((l.length : Nat) : Int) (topH l))), blk g8 26 (hv (hat l i)), blk g9 26 (hv (rootH ((l.length : Nat) : Int) (topH l))), own hv 26 32 (.slice A3 (([] : List H).length + (due).length) c3) due]) ws9 := SL.front [_, _, _, _] S
                  replace S := S_
                  clear S_
                  have hm22 : ([] : List H).length + (due).length = due.length := by simp
                  exact ⟨g8, g9, A3, ([] : List H).length + (due).length, c3, _, (updL_eq _ _ (by exact ⟨rfl, rfl, rfl, rfl, rfl, rfl, rfl, rfl, rfl, rfl, rfl, trivial⟩)).symm, S, hm22⟩
                · skip
                  refine WO_alloc (row := hv zeroH) S (on_none rfl) (by decide) ti26 rfl ?_
                  intro g10 wg10 S
                  replace hS : Has wg10 (slc (pur hv) 32) (.slice A l.length c) l ∧ wg10.heap[g2]? = some (.cells (hv (rootH ((l.length : Nat) : Int) (topH l))) 26 (0, 0)) ∧ True := ⟨(S.old hP), (S.blk_get (.there _ (.there _ (.there _ (.there _ (.there _ (.there _ (.here _)))))))), trivial⟩
                  refine ⟨.inl hS, ?_⟩
                  show WD Try.prog 235 _ _ _ _ 6 _ _ _
                  refine WD_one (i := 8) rfl (by kernel_rfl) (WO_append (ys := due) S (on_none rfl) (by decide) rfl rfl (fun _ => (.there _ (.there _ (.here _)))) (S.own_has hvsz (.there _ (.there _ (.there _ (.here _))))) Try.underlying22 ti26 (hv_size _) (by decide) hvsz hv_one (by simp only [maxLen, List.length_append, List.length_cons, List.length_nil]; omega) (by simp only [maxLen, List.length_append, List.length_cons, List.length_nil]; omega) ?_)
                  intro A4 c4 wa4 S
                  replace hS : Has wa4 (slc (pur hv) 32) (.slice A l.length c) l ∧ wa4.heap[g2]? = some (.cells (hv (rootH ((l.length : Nat) : Int) (topH l))) 26 (0, 0)) ∧ True := ⟨(S.old hP), (S.blk_get (.there _ (.there _ (.there _ (.there _ (.there _ (.there _ (.here _)))))))), trivial⟩
                  refine ⟨.inl hS, ?_⟩
                  refine WD_look (v := (.int .i64 ((l.length : Nat) : Int))) (i := 12) rfl (by kernel_rfl) rfl (by decide) (on_none rfl) (fun wx hs => (x_as (v := (.int .i64 ((l.length : Nat) : Int))) rfl)) hS ?_
                  show WD Try.prog 235 _ _ _ _ 4 _ _ _
                  refine WD_look (v := (.int .i64 i)) (i := 13) rfl (by kernel_rfl) rfl (by decide) (on_none rfl) (fun wx hs => (x_as (v := (.int .i64 i)) rfl)) hS ?_
                  show WD Try.prog 235 _ _ _ _ 3 _ _ _
                  refine WD_one (i := 14) rfl (by kernel_rfl) (WO_store (v := (.agg (hv (hat l i)))) (row := hv zeroH) (row' := hv (hat l i)) S (on_none rfl) rfl rfl (.there _ (.here _)) ti26.sz (hv_size _) (by rw [hv_size]; exact Nat.le_refl _) (bv_one _) (splice_all _ _ (((hv_size _)).trans ((hv_size _)).symm)) ?_)
                  intro ws10 S
                  replace hS : Has ws10 (slc (pur hv) 32) (.slice A l.length c) l ∧ ws10.heap[g2]? = some (.cells (hv (rootH ((l.length : Nat) : Int) (topH l))) 26 (0, 0)) ∧ True := ⟨(S.old hP), (S.blk_get (.there _ (.there _ (.there _ (.there _ (.there _ (.there _ (.here _)))))))), trivial⟩
                  refine ⟨.inl hS, ?_⟩
                  refine WD_look (v := (.slice A4 (([] : List H).length + (due).length) c4)) (i := 15) rfl (by kernel_rfl) rfl (by decide) (on_none rfl) (fun wx hs => (x_as (v := (.slice A4 (([] : List H).length + (due).length) c4)) rfl)) hS ?_
                  show WD Try.prog 235 _ _ _ _ 1 _ _ _
                  refine WD_one (i := 16) rfl (by kernel_rfl) (WO_store (v := (.agg (hv (rootH ((l.length : Nat) : Int) (topH l))))) (row := hv zeroH) (row' := hv (rootH ((l.length : Nat) : Int) (topH l))) S (on_none rfl) rfl rfl (.here _) ti26.sz (hv_size _) (by rw [hv_size]; exact Nat.le_refl _) (bv_one _) (splice_all _ _ (((hv_size _)).trans ((hv_size _)).symm)) ?_)
                  intro ws11 S
                  replace hS : Has ws11 (slc (pur hv) 32) (.slice A l.length c) l ∧ ws11.heap[g2]? = some (.cells (hv (rootH ((l.length : Nat) : Int) (topH l))) 26 (0, 0)) ∧ True := ⟨(S.old hP), (S.blk_get (.there _ (.there _ (.there _ (.there _ (.there _ (.there _ (.here _)))))))), trivial⟩
                  refine ⟨.inl hS, ?_⟩
                  refine WD_done (by kernel_rfl) ?_
                  clear hS
                  rw [List.nil_append] at S
                  replace S := S.drop (.there _ (.there _ (.there _ (.there _ (.here _)))))
                  replace S := S.drop (.there _ (.there _ (.there _ (.here _))))
                  have S_ : SL w ([own hv 26 32 (.slice A4 (([] : List H).length + (due).length) c4) due, blk g10 26 (hv (rootH ((l.length : Nat) : Int) (topH l))), blk g8 26 (hv (hat l i)), val (slc (slc (pur hv) 32) 1) (.slice Au1 rs.length cu1) rs, blk g2 26 (hv (rootH ((l.length : Nat) : Int) (topH l)))]) ws11 := SL.front [_, _] S
                  replace S := S_
                  clear S_
                  have S_ : SL w ([blk g10 26 (hv (rootH ((l.length : Nat) : Int) (topH l))), own hv 26 32 (.slice A4 (([] : List H).length + (due).length) c4) due, blk g8 26 (hv (hat l i)), val (slc (slc (pur hv) 32) 1) (.slice Au1 rs.length cu1) rs, blk g2 26 (hv (rootH ((l.length : Nat) : Int) (topH l)))]) ws11 := SL.front [_] S
                  replace S := S_
                  clear S_
                  have S_ : SL w ([blk g8 26 (hv (hat l i)), blk g10 26 (hv (rootH ((l.length : Nat) : Int) (topH l))), own hv 26 32 (.slice A4 (([] : List H).length + (due).length) c4) due, val (slc (slc (pur hv) 32) 1) (.slice Au1 rs.length cu1) rs, blk g2 26 (hv (rootH ((l.length : Nat) : Int) (topH l)))]) ws11 := SL.front [_, _] S
                  replace S := S_
                  clear S_
                  have S_ : SL w ([blk g2 26 (hv (rootH ((l.length : Nat) : Int) (topH l))), blk g8 26 (hv (hat l i)), blk g10 26 (hv (rootH ((l.length : Nat) : Int) (topH l))), own hv 26 32 (.slice A4 (([] : List H).length + (due).length) c4) due, val (slc (slc (pur hv) 32) 1) (.slice Au1 rs.length cu1) rs]) ws11 := SL.front [_, _, _, _] S
                  replace S := S_
                  clear S_
                  have S_ : SL w ([val (slc (slc (pur hv) 32) 1) (.slice Au1 rs.length cu1) rs, blk g2 26 (hv (rootH ((l.length : Nat) : Int) (topH l))), blk g8 26 (hv (hat l i)), blk g10 26 (hv (rootH ((l.length : Nat) : Int) (topH l))), own hv 26 32 (.slice A4 (([] : List H).length + (due).length) c4) due]) ws11 := SL.front [_, _, _, _] S
                  replace S := S_
                  clear S_
                  have hm22 : ([] : List H).length + (due).length = due.length := by simp
                  exact ⟨g8, g10, A4, ([] : List H).length + (due).length, c4, _, (updL_eq _ _ (by exact ⟨rfl, rfl, rfl, rfl, rfl, rfl, rfl, rfl, rfl, rfl, rfl, trivial⟩)).symm, S, hm22⟩
              · skip
                refine WO_alloc (row := hv zeroH) S (on_none rfl) (by decide) ti26 rfl ?_
                intro g11 wg11 S
                replace hS : Has wg11 (slc (pur hv) 32) (.slice A l.length c) l ∧ wg11.heap[g2]? = some (.cells (hv (rootH ((l.length : Nat) : Int) (topH l))) 26 (0, 0)) ∧ True := ⟨(S.old hP), (S.blk_get (.there _ (.there _ (.there _ (.there _ (.there _ (.here _))))))), trivial⟩
                refine ⟨.inl hS, ?_⟩
                show WD Try.prog 235 _ _ _ _ 7 _ _ _
                refine WD_two (i := 8) (j := 10) rfl rfl (by kernel_rfl) ?_ ?_ 
                · skip
                  refine WO_append (ys := due) S (on_none rfl) (by decide) rfl rfl (fun _ => (.there _ (.here _))) (S.own_has hvsz (.there _ (.there _ (.here _)))) Try.underlying22 ti26 (hv_size _) (by decide) hvsz hv_one (by simp only [maxLen, List.length_append, List.length_cons, List.length_nil]; omega) (by simp only [maxLen, List.length_append, List.length_cons, List.length_nil]; omega) ?_
                  intro A5 c5 wa5 S
                  replace hS : Has wa5 (slc (pur hv) 32) (.slice A l.length c) l ∧ wa5.heap[g2]? = some (.cells (hv (rootH ((l.length : Nat) : Int) (topH l))) 26 (0, 0)) ∧ True := ⟨(S.old hP), (S.blk_get (.there _ (.there _ (.there _ (.there _ (.there _ (.here _))))))), trivial⟩
                  refine ⟨.inl hS, ?_⟩
                  show WD Try.prog 235 _ _ _ _ 6 _ _ _
                  refine WD_one (i := 10) rfl (by kernel_rfl) (WO_alloc (row := hv zeroH) S (on_none rfl) (by decide) ti26 rfl ?_)
                  intro g12 wg12 S
                  replace hS : Has wg12 (slc (pur hv) 32) (.slice A l.length c) l ∧ wg12.heap[g2]? = some (.cells (hv (rootH ((l.length : Nat) : Int) (topH l))) 26 (0, 0)) ∧ True := ⟨(S.old hP), (S.blk_get (.there _ (.there _ (.there _ (.there _ (.there _ (.there _ (.here _)))))))), trivial⟩
                  refine ⟨.inl hS, ?_⟩
                  refine WD_look (v := (.int .i64 ((l.length : Nat) : Int))) (i := 12) rfl (by kernel_rfl) rfl (by decide) (on_none rfl) (fun wx hs => (x_as (v := (.int .i64 ((l.length : Nat) : Int))) rfl)) hS ?_
                  show WD Try.prog 235 _ _ _ _ 4 _ _ _
                  refine WD_look (v := (.int .i64 i)) (i := 13) rfl (by kernel_rfl) rfl (by decide) (on_none rfl) (fun wx hs => (x_as (v := (.int .i64 i)) rfl)) hS ?_
                  show WD Try.prog 235 _ _ _ _ 3 _ _ _
                  refine WD_one (i := 14) rfl (by kernel_rfl) (WO_store (v := (.agg (hv (hat l i)))) (row := hv zeroH) (row' := hv (hat l i)) S (on_none rfl) rfl rfl (.here _) ti26.sz (hv_size _) (by rw [hv_size]; exact Nat.le_refl _) (bv_one _) (splice_all _ _ (((hv_size _)).trans ((hv_size _)).symm)) ?_)
                  intro ws12 S
                  replace hS : Has ws12 (slc (pur hv) 32) (.slice A l.length c) l ∧ ws12.heap[g2]? = some (.cells (hv (rootH ((l.length : Nat) : Int) (topH l))) 26 (0, 0)) ∧ True := ⟨(S.old hP), (S.blk_get (.there _ (.there _ (.there _ (.there _ (.there _ (.there _ (.here _)))))))), trivial⟩
                  refine ⟨.inl hS, ?_⟩
                  refine WD_look (v := (.slice A5 (([] : List H).length + (due).length) c5)) (i := 15) rfl (by kernel_rfl) rfl (by decide) (on_none rfl) (fun wx hs => (x_as (v := (.slice A5 (([] : List H).length + (due).length) c5)) rfl)) hS ?_
                  show WD Try.prog 235 _ _ _ _ 1 _ _ _
                  refine WD_one (i := 16) rfl (by kernel_rfl) (WO_store (v := (.agg (hv (rootH ((l.length : Nat) : Int) (topH l))))) (row := hv zeroH) (row' := hv (rootH ((l.length : Nat) : Int) (topH l))) S (on_none rfl) rfl rfl (.there _ (.here _)) ti26.sz (hv_size _) (by rw [hv_size]; exact Nat.le_refl _) (bv_one _) (splice_all _ _ (((hv_size _)).trans ((hv_size _)).symm)) ?_)
                  intro ws13 S
                  replace hS : Has ws13 (slc (pur hv) 32) (.slice A l.length c) l ∧ ws13.heap[g2]? = some (.cells (hv (rootH ((l.length : Nat) : Int) (topH l))) 26 (0, 0)) ∧ True := ⟨(S.old hP), (S.blk_get (.there _ (.there _ (.there _ (.there _ (.there _ (.there _ (.here _)))))))), trivial⟩
                  refine ⟨.inl hS, ?_⟩
                  refine WD_done (by kernel_rfl) ?_
                  clear hS
                  rw [List.nil_append] at S
                  replace S := S.drop (.there _ (.there _ (.there _ (.there _ (.here _)))))
                  replace S := S.drop (.there _ (.there _ (.there _ (.here _))))
                  have S_ : SL w ([own hv 26 32 (.slice A5 (([] : List H).length + (due).length) c5) due, blk g12 26 (hv (hat l i)), blk g11 26 (hv (rootH ((l.length : Nat) : Int) (topH l))), val (slc (slc (pur hv) 32) 1) (.slice Au1 rs.length cu1) rs, blk g2 26 (hv (rootH ((l.length : Nat) : Int) (topH l)))]) ws13 := SL.front [_, _] S
                  replace S := S_
                  clear S_
                  have S_ : SL w ([blk g11 26 (hv (rootH ((l.length : Nat) : Int) (topH l))), own hv 26 32 (.slice A5 (([] : List H).length + (due).length) c5) due, blk g12 26 (hv (hat l i)), val (slc (slc (pur hv) 32) 1) (.slice Au1 rs.length cu1) rs, blk g2 26 (hv (rootH ((l.length : Nat) : Int) (topH l)))]) ws13 := SL.front [_, _] S
                  replace S := S_
                  clear S_
                  have S_ : SL w ([blk g12 26 (hv (hat l i)), blk g11 26 (hv (rootH ((l.length : Nat) : Int) (topH l))), own hv 26 32 (.slice A5 (([] : List H).length + (due).length) c5) due, val (slc (slc (pur hv) 32) 1) (.slice Au1 rs.length cu1) rs, blk g2 26 (hv (rootH ((l.length : Nat) : Int) (topH l)))]) ws13 := SL.front [_, _] S
                  replace S := S_
                  clear S_
                  have S_ : SL w ([blk g2 26 (hv (rootH ((l.length : Nat) : Int) (topH l))), blk g12 26 (hv (hat l i)), blk g11 26 (hv (rootH ((l.length : Nat) : Int) (topH l))), own hv 26 32 (.slice A5 (([] : List H).length + (due).length) c5) due, val (slc (slc (pur hv) 32) 1) (.slice Au1 rs.length cu1) rs]) ws13 := SL.front [_, _, _, _] S
                  replace S := S_
                  clear S_
                  have S_ : SL w ([val (slc (slc (pur hv) 32) 1) (.slice Au1 rs.length cu1) rs, blk g2 26 (hv (rootH ((l.length : Nat) : Int) (topH l))), blk g12 26 (hv (hat l i)), blk g11 26 (hv (rootH ((l.length : Nat) : Int) (topH l))), own hv 26 32 (.slice A5 (([] : List H).length + (due).length) c5) due]) ws13 := SL.front [_, _, _, _] S
                  replace S := S_
                  clear S_
                  have hm22 : ([] : List H).length + (due).length = due.length := by simp
                  exact ⟨g12, g11, A5, ([] : List H).length + (due).length, c5, _, (updL_eq _ _ (by exact ⟨rfl, rfl, rfl, rfl, rfl, rfl, rfl, rfl, rfl, rfl, rfl, trivial⟩)).symm, S, hm22⟩
                · skip
                  refine WO_alloc (row := hv zeroH) S (on_none rfl) (by decide) ti26 rfl ?_
                  intro g13 wg13 S
                  replace hS : Has wg13 (slc (pur hv) 32) (.slice A l.length c) l ∧ wg13.heap[g2]? = some (.cells (hv (rootH ((l.length : Nat) : Int) (topH l))) 26 (0, 0)) ∧ True := ⟨(S.old hP), (S.blk_get (.there _ (.there _ (.there _ (.there _ (.there _ (.there _ (.here _)))))))), trivial⟩
                  refine ⟨.inl hS, ?_⟩
                  show WD Try.prog 235 _ _ _ _ 6 _ _ _
                  refine WD_one (i := 8) rfl (by kernel_rfl) (WO_append (ys := due) S (on_none rfl) (by decide) rfl rfl (fun _ => (.there _ (.there _ (.here _)))) (S.own_has hvsz (.there _ (.there _ (.there _ (.here _))))) Try.underlying22 ti26 (hv_size _) (by decide) hvsz hv_one (by simp only [maxLen, List.length_append, List.length_cons, List.length_nil]; omega) (by simp only [maxLen, List.length_append, List.length_cons, List.length_nil]; omega) ?_)
                  intro A6 c6 wa6 S
                  replace hS : Has wa6 (slc (pur hv) 32) (.slice A l.length c) l ∧ wa6.heap[g2]? = some (.cells (hv (rootH ((l.length : Nat) : Int) (topH l))) 26 (0, 0)) ∧ True := ⟨(S.old hP), (S.blk_get (.there _ (.there _ (.there _ (.there _ (.there _ (.there _ (.here _)))))))), trivial⟩
                  refine ⟨.inl hS, ?_⟩
                  refine WD_look (v := (.int .i64 ((l.length : Nat) : Int))) (i := 12) rfl (by kernel_rfl) rfl (by decide) (on_none rfl) (fun wx hs => (x_as (v := (.int .i64 ((l.length : Nat) : Int))) rfl)) hS ?_
                  show WD Try.prog 235 _ _ _ _ 4 _ _ _
                  refine WD_look (v := (.int .i64 i)) (i := 13) rfl (by kernel_rfl) rfl (by decide) (on_none rfl) (fun wx hs => (x_as (v := (.int .i64 i)) rfl)) hS ?_
                  show WD Try.prog 235 _ _ _ _ 3 _ _ _
                  refine WD_one (i := 14) rfl (by kernel_rfl) (WO_store (v := (.agg (hv (hat l i)))) (row := hv zeroH) (row' := hv (hat l i)) S (on_none rfl) rfl rfl (.here _) ti26.sz (hv_size _) (by rw [hv_size]; exact Nat.le_refl _) (bv_one _) (splice_all _ _ (((hv_size _)).trans ((hv_size _)).symm)) ?_)
                  intro ws14 S
                  replace hS : Has ws14 (slc (pur hv) 32) (.slice A l.length c) l ∧ ws14.heap[g2]? = some (.cells (hv (rootH ((l.length : Nat) : Int) (topH l))) 26 (0, 0)) ∧ True := ⟨(S.old hP), (S.blk_get (.there _ (.there _ (.there _ (.there _ (.there _ (.there _ (.here _)))))))), trivial⟩
                  refine ⟨.inl hS, ?_⟩
                  refine WD_look (v := (.slice A6 (([] : List H).length + (due).length) c6)) (i := 15) rfl (by kernel_rfl) rfl (by decide) (on_none rfl) (fun wx hs => (x_as (v := (.slice A6 (([] : List H).length + (due).length) c6)) rfl)) hS ?_
                  show WD Try.prog 235 _ _ _ _ 1 _ _ _
                  refine WD_one (i := 16) rfl (by kernel_rfl) (WO_store (v := (.agg (hv (rootH ((l.length : Nat) : Int) (topH l))))) (row := hv zeroH) (row' := hv (rootH ((l.length : Nat) : Int) (topH l))) S (on_none rfl) rfl rfl (.there _ (.here _)) ti26.sz (hv_size _) (by rw [hv_size]; exact Nat.le_refl _) (bv_one _) (splice_all _ _ (((hv_size _)).trans ((hv_size _)).symm)) ?_)
                  intro ws15 S
                  replace hS : Has ws15 (slc (pur hv) 32) (.slice A l.length c) l ∧ ws15.heap[g2]? = some (.cells (hv (rootH ((l.length : Nat) : Int) (topH l))) 26 (0, 0)) ∧ True := ⟨(S.old hP), (S.blk_get (.there _ (.there _ (.there _ (.there _ (.there _ (.there _ (.here _)))))))), trivial⟩
                  refine ⟨.inl hS, ?_⟩
                  refine WD_done (by kernel_rfl) ?_
                  clear hS
                  rw [List.nil_append] at S
                  replace S := S.drop (.there _ (.there _ (.there _ (.there _ (.here _)))))
                  replace S := S.drop (.there _ (.there _ (.there _ (.here _))))
                  have S_ : SL w ([own hv 26 32 (.slice A6 (([] : List H).length + (due).length) c6) due, blk g13 26 (hv (hat l i)), blk g11 26 (hv (rootH ((l.length : Nat) : Int) (topH l))), val (slc (slc (pur hv) 32) 1) (.slice Au1 rs.length cu1) rs, blk g2 26 (hv (rootH ((l.length : Nat) : Int) (topH l)))]) ws15 := SL.front [_, _] S
                  replace S := S_
                  clear S_
                  have S_ : SL w ([blk g11 26 (hv (rootH ((l.length : Nat) : Int) (topH l))), own hv 26 32 (.slice A6 (([] : List H).length + (due).length) c6) due, blk g13 26 (hv (hat l i)), val (slc (slc (pur hv) 32) 1) (.slice Au1 rs.length cu1) rs, blk g2 26 (hv (rootH ((l.length : Nat) : Int) (topH l)))]) ws15 := SL.front [_, _] S
                  replace S := S_
                  clear S_
                  have S_ : SL w ([blk g13 26 (hv (hat l i)), blk g11 26 (hv (rootH ((l.length : Nat) : Int) (topH l))), own hv 26 32 (.slice A6 (([] : List H).length + (due).length) c6) due, val (slc (slc (pur hv) 32) 1) (.slice Au1 rs.length cu1) rs, blk g2 26 (hv (rootH ((l.length : Nat) : Int) (topH l)))]) ws15 := SL.front [_, _] S
                  replace S := S_
                  clear S_
                  have S_ : SL w ([blk g2 26 (hv (rootH ((l.length : Nat) : Int) (topH l))), blk g13 26 (hv (hat l i)), blk g11 26 (hv (rootH ((l.length : Nat) : Int) (topH l))), own hv 26 32 (.slice A6 (([] : List H).length + (due).length) c6) due, val (slc (slc (pur hv) 32) 1) (.slice Au1 rs.length cu1) rs]) ws15 := SL.front [_, _, _, _] S
                  replace S := S_
                  clear S_
                  have S_ : SL w ([val (slc (slc (pur hv) 32) 1) (.slice Au1 rs.length cu1) rs, blk g2 26 (hv (rootH ((l.length : Nat) : Int) (topH l))), blk g13 26 (hv (hat l i)), blk g11 26 (hv (rootH ((l.length : Nat) : Int) (topH l))), own hv 26 32 (.slice A6 (([] : List H).length + (due).length) c6) due]) ws15 := SL.front [_, _, _, _] S
                  replace S := S_
                  clear S_
                  have hm22 : ([] : List H).length + (due).length = due.length := by simp
                  exact ⟨g13, g11, A6, ([] : List H).length + (due).length, c6, _, (updL_eq _ _ (by exact ⟨rfl, rfl, rfl, rfl, rfl, rfl, rfl, rfl, rfl, rfl, rfl, trivial⟩)).symm, S, hm22⟩
            clear S
            rintro e5 wl5 ⟨gh, gr, A2, m2, c2, eb, rfl, S, hm2⟩
            show WC Try.prog 235 _ _ _ _
            subst hm2
            refine WC_cut (fun e' w' => ∃ (n3 : Int) (j3 : Int) (h3 : H) (r3 : H) (A3 : Option Addr) (m3 : Nat) (c3 : Nat) (p3 : List H) (eb : Env), e' = updL eb [(0, (.slice A l.length c)), (1, (.int .u8 at_)), (2, (.int .u8 bend)), (7, (.slice Au1 rs.length cu1)), (9, (.pointer (some ⟨g2, 0, none⟩))), (10, (.int .i64 i)), (19, (.int .i64 n3)), (20, (.int .i64 j3)), (21, (.pointer (some ⟨gh, 0, none⟩))), (22, (.slice A3 m3 c3)), (23, (.pointer (some ⟨gr, 0, none⟩)))] ∧ SL w [val (slc (slc (pur hv) 32) 1) (.slice Au1 rs.length cu1) rs, blk g2 26 (hv (rootH ((l.length : Nat) : Int) (topH l))), blk gh 26 (hv h3), blk gr 26 (hv r3), val (slc (pur hv) 32) (.slice A3 m3 c3) p3] w' ∧ (m3 = p3.length)) ?_ ?_
            · show WC Try.prog 235 _ _ _ _
              refine WC_seq ?_
              refine WC_region ?_
              refine WL_cons (WO_val (v := (.int .u8 bend)) (on_none rfl) rfl (by decide) (x_mv (v := (.int .u8 bend)) rfl) ?_)
              refine WL_cons (WO_val (v := (.int .u8 (bend % 8))) (on_none rfl) rfl (by decide) (x_rem (a := bend) (b := 8) rfl rfl (by omega) (by omega)) ?_)
              refine WL_nil ?_
              show WC Try.prog 235 _ _ _ _
              refine WC_block ?_
              refine WC_seq ?_
              refine WC_region ?_
              refine WL_cons (WO_val (v := (.bool (decide (bend % 8 = 0)))) (on_none rfl) rfl (by decide) (x_eql (a := bend % 8) (b := 0) rfl rfl) ?_)
              refine WL_cons (WO_val (v := (.bool (decide (bend % 8 = 0)))) (on_none rfl) rfl (by decide) (x_as (v := (.bool (decide (bend % 8 = 0)))) rfl) ?_)
              refine WL_nil ?_
              show WC Try.prog 235 _ _ _ _
              refine WC_cond (t := decide (bend % 8 = 0)) rfl (fun hc7 => ?_) (fun hc7 => ?_)
              · show WC Try.prog 235 _ _ _ _
                have hc7_ := of_decide_eq_true hc7
                refine WC_region ?_
                refine WL_cons (WO_val (v := (.int .u8 at_)) (on_none rfl) rfl (by decide) (x_mv (v := (.int .u8 at_)) rfl) ?_)
                refine WL_cons (WO_val (v := (.int .i64 at_)) (on_none rfl) rfl (by decide) (x_conv (a := at_) rfl Try.underlying5 Try.underlying3 (wi64 (by omega))) ?_)
                refine WL_cons (WO_val (v := (.slice A l.length c)) (on_none rfl) rfl (by decide) (x_mv (v := (.slice A l.length c)) rfl) ?_)
                refine WL_cons (WO_val (v := (.int .i64 ((l.length : Nat) : Int))) (on_none rfl) rfl (by decide) (x_len_slc rfl Try.underlying22) ?_)
                refine WL_cons (WO_val (v := (.int .i64 (((l.length : Nat) : Int) + 1))) (on_none rfl) rfl (by decide) (x_add (a := ((l.length : Nat) : Int)) (b := 1) rfl rfl (wi64 (by omega))) ?_)
                refine WL_cons (WO_val (v := (.int .i64 (at_ % (((l.length : Nat) : Int) + 1)))) (on_none rfl) rfl (by decide) (x_rem (a := at_) (b := ((l.length : Nat) : Int) + 1) rfl rfl (by omega) (by omega)) ?_)
                refine WL_cons (WO_val (v := (.int .i64 (at_ % (((l.length : Nat) : Int) + 1)))) (on_none rfl) rfl (by decide) (x_as (v := (.int .i64 (at_ % (((l.length : Nat) : Int) + 1)))) rfl) ?_)
                refine WL_nil ?_
                replace S := S.own_to_val hvsz (.there _ (.there _ (.there _ (.there _ (.here _)))))
                have hm3 : due.length = (due).length := by first | rfl | (simp only [List.length_append, List.length_take, List.length_set, List.length_cons, List.length_nil]; done) | (simp only [List.length_append, List.length_take, List.length_set, List.length_cons, List.length_nil]; omega)
                exact ⟨((l.length : Nat) : Int), (at_ % (((l.length : Nat) : Int) + 1)), _, _, A2, due.length, c2, _, _, (updL_eq _ _ (by exact ⟨rfl, rfl, rfl, rfl, rfl, rfl, rfl, rfl, rfl, rfl, rfl, trivial⟩)).symm, S, hm3⟩
              · show WC Try.prog 235 _ _ _ _
                have hc7_ := of_decide_eq_false hc7
                refine WC_seq ?_
                refine WC_region ?_
                refine WL_cons (WO_val (v := (.bool (decide (bend % 8 = 1)))) (on_none rfl) rfl (by decide) (x_eql (a := bend % 8) (b := 1) rfl rfl) ?_)
                refine WL_cons (WO_val (v := (.bool (decide (bend % 8 = 1)))) (on_none rfl) rfl (by decide) (x_as (v := (.bool (decide (bend % 8 = 1)))) rfl) ?_)
                refine WL_nil ?_
                show WC Try.prog 235 _ _ _ _
                refine WC_cond (t := decide (bend % 8 = 1)) rfl (fun hc8 => ?_) (fun hc8 => ?_)
                · show WC Try.prog 235 _ _ _ _
                  have hc8_ := of_decide_eq_true hc8
                  refine WC_region ?_
                  refine WL_cons (WO_val (v := (.int .i64 ((l.length : Nat) : Int))) (on_none rfl) rfl (by decide) (x_mv (v := (.int .i64 ((l.length : Nat) : Int))) rfl) ?_)
                  refine WL_cons (WO_val (v := (.int .u8 at_)) (on_none rfl) rfl (by decide) (x_mv (v := (.int .u8 at_)) rfl) ?_)
                  refine WL_cons (WO_val (v := (.int .u8 (at_ % 5))) (on_none rfl) rfl (by decide) (x_rem (a := at_) (b := 5) rfl rfl (by omega) (by omega)) ?_)
                  refine WL_cons (WO_val (v := (.int .i64 (at_ % 5))) (on_none rfl) rfl (by decide) (x_conv (a := at_ % 5) rfl Try.underlying5 Try.underlying3 (wi64 (by omega))) ?_)
                  refine WL_cons (WO_val (v := (.int .i64 ((at_ % 5) - 2))) (on_none rfl) rfl (by decide) (x_sub (a := at_ % 5) (b := 2) rfl rfl (wi64 (by omega))) ?_)
                  refine WL_cons (WO_val (v := (.int .i64 (((l.length : Nat) : Int) + ((at_ % 5) - 2)))) (on_none rfl) rfl (by decide) (x_add (a := ((l.length : Nat) : Int)) (b := (at_ % 5) - 2) rfl rfl (wi64 (by omega))) ?_)
                  refine WL_cons (WO_val (v := (.int .i64 (((l.length : Nat) : Int) + ((at_ % 5) - 2)))) (on_none rfl) rfl (by decide) (x_as (v := (.int .i64 (((l.length : Nat) : Int) + ((at_ % 5) - 2)))) rfl) ?_)
                  refine WL_nil ?_
                  replace S := S.own_to_val hvsz (.there _ (.there _ (.there _ (.there _ (.here _)))))
                  have hm3 : due.length = (due).length := by first | rfl | (simp only [List.length_append, List.length_take, List.length_set, List.length_cons, List.length_nil]; done) | (simp only [List.length_append, List.length_take, List.length_set, List.length_cons, List.length_nil]; omega)
                  exact ⟨(((l.length : Nat) : Int) + ((at_ % 5) - 2)), i, _, _, A2, due.length, c2, _, _, (updL_eq _ _ (by exact ⟨rfl, rfl, rfl, rfl, rfl, rfl, rfl, rfl, rfl, rfl, rfl, trivial⟩)).symm, S, hm3⟩
                · show WC Try.prog 235 _ _ _ _
                  have hc8_ := of_decide_eq_false hc8
                  refine WC_seq ?_
                  refine WC_region ?_
                  refine WL_cons (WO_val (v := (.bool (decide (bend % 8 = 2)))) (on_none rfl) rfl (by decide) (x_eql (a := bend % 8) (b := 2) rfl rfl) ?_)
                  refine WL_cons (WO_val (v := (.bool (decide (bend % 8 = 2)))) (on_none rfl) rfl (by decide) (x_as (v := (.bool (decide (bend % 8 = 2)))) rfl) ?_)
                  refine WL_nil ?_
                  show WC Try.prog 235 _ _ _ _
                  refine WC_cond (t := decide (bend % 8 = 2)) rfl (fun hc9 => ?_) (fun hc9 => ?_)
                  · show WC Try.prog 235 _ _ _ _
                    have hc9_ := of_decide_eq_true hc9
                    refine WC_region ?_
                    refine WL_cons (WO_val (v := (.int .u8 at_)) (on_none rfl) rfl (by decide) (x_mv (v := (.int .u8 at_)) rfl) ?_)
                    refine WL_cons (WO_val (v := (.int .u8 (at_ % 32))) (on_none rfl) rfl (by decide) (x_rem (a := at_) (b := 32) rfl rfl (by omega) (by omega)) ?_)
                    refine WL_cons (WO_val (v := (.pointer (some ⟨gh, (at_ % 32 : Int).toNat * 1, none⟩))) (on_none rfl) rfl (by decide) (x_index_row (i := at_ % 32) rfl rfl Try.underlying26 ti5.sz (by omega) (by omega)) ?_)
                    refine WL_cons (WO_val (v := (.int .u8 (bt ((hat l i).1) (at_ % 32)))) (on_none rfl) rfl (by decide) (x_load_cell (v := .int .u8 (bt ((hat l i).1) (at_ % 32))) rfl (cell_row (S.blk_get (.there _ (.there _ (.here _)))) (bv_bt (by omega) (by first | omega | (rw [Hsz]; omega)))) Try.underlying5 rfl) ?_)
                    refine WL_cons (WO_val (v := (.int .u8 (bitop .xor .u8 (bt ((hat l i).1) (at_ % 32)) 1))) (on_none rfl) rfl (by decide) (x_xor (a := bt ((hat l i).1) (at_ % 32)) (b := 1) rfl rfl) ?_)
                    refine WL_cons (WO_val (v := (.pointer (some ⟨gh, (at_ % 32 : Int).toNat * 1, none⟩))) (on_none rfl) rfl (by decide) (x_index_row (i := at_ % 32) rfl rfl Try.underlying26 ti5.sz (by omega) (by omega)) ?_)
                    refine WL_cons (WO_store (v := (.int .u8 (bitop .xor .u8 (bt ((hat l i).1) (at_ % 32)) 1))) (row := hv (hat l i)) (row' := hv (hset (hat l i) (at_ % 32) (bitop .xor .u8 (bt ((hat l i).1) (at_ % 32)) 1))) S (on_none rfl) rfl rfl (.there _ (.there _ (.here _))) ti5.sz rfl (by rw [hv_size]; omega) (by simp [Value.cells, Value.oneCell']) (splice_hset (by omega) (by first | omega | (rw [Hsz]; omega)) (bitop_u8_in _ _ _).1 (bitop_u8_in _ _ _).2) ?_)
                    intro ws16 S
                    refine WL_nil ?_
                    replace S := S.own_to_val hvsz (.there _ (.there _ (.there _ (.there _ (.here _)))))
                    have hm3 : due.length = (due).length := by first | rfl | (simp only [List.length_append, List.length_take, List.length_set, List.length_cons, List.length_nil]; done) | (simp only [List.length_append, List.length_take, List.length_set, List.length_cons, List.length_nil]; omega)
                    exact ⟨((l.length : Nat) : Int), i, _, _, A2, due.length, c2, _, _, (updL_eq _ _ (by exact ⟨rfl, rfl, rfl, rfl, rfl, rfl, rfl, rfl, rfl, rfl, rfl, trivial⟩)).symm, S, hm3⟩
                  · show WC Try.prog 235 _ _ _ _
                    have hc9_ := of_decide_eq_false hc9
                    refine WC_seq ?_
                    refine WC_region ?_
                    refine WL_cons (WO_val (v := (.bool (decide (bend % 8 = 3)))) (on_none rfl) rfl (by decide) (x_eql (a := bend % 8) (b := 3) rfl rfl) ?_)
                    refine WL_cons (WO_val (v := (.bool (decide (bend % 8 = 3)))) (on_none rfl) rfl (by decide) (x_as (v := (.bool (decide (bend % 8 = 3)))) rfl) ?_)
                    refine WL_nil ?_
                    show WC Try.prog 235 _ _ _ _
                    refine WC_cond (t := decide (bend % 8 = 3)) rfl (fun hc10 => ?_) (fun hc10 => ?_)
                    · show WC Try.prog 235 _ _ _ _
                      have hc10_ := of_decide_eq_true hc10
                      refine WC_region ?_
                      refine WL_cons (WO_val (v := (.slice A2 due.length c2)) (on_none rfl) rfl (by decide) (x_mv (v := (.slice A2 due.length c2)) rfl) ?_)
                      refine WL_cons (WO_val (v := (.agg (hv (hat l i)))) (on_none rfl) rfl (by decide) (x_load_row rfl (S.blk_get (.there _ (.there _ (.here _)))) Try.underlying26 rfl ti26.sz (hv_size _)) ?_)
                      refine WL_cons (WO_build (vs := [(.agg (hv (hat l i)))]) (row := hv (hat l i)) S (on_none rfl) (by decide) Try.underlying22 ti26 (hv_size _) rfl rfl (by simp [Value.cells, hv_size, bv_size, Hsz]) (by decide) (rowOf1 _) ?_)
                      intro g14 wg14 S
                      refine WL_cons (WO_append (ys := [(hat l i)]) S (on_none rfl) (by decide) rfl rfl (fun _ => (.there _ (.there _ (.there _ (.there _ (.there _ (.here _))))))) (has_one (S.blk_get (.here _)) (hv_size _)) Try.underlying22 ti26 (hv_size _) (by decide) hvsz hv_one (by simp only [maxLen, List.length_append, List.length_cons, List.length_nil]; omega) (by simp only [maxLen, List.length_append, List.length_cons, List.length_nil]; omega) ?_)
                      intro A7 c7 wa7 S
                      refine WL_cons (WO_val (v := (.slice A7 (due.length + ([(hat l i)]).length) c7)) (on_none rfl) rfl (by decide) (x_as (v := (.slice A7 (due.length + ([(hat l i)]).length) c7)) rfl) ?_)
                      refine WL_nil ?_
                      replace S := S.drop (.here _)
                      replace S := S.own_to_val hvsz (.there _ (.there _ (.there _ (.there _ (.here _)))))
                      have hm3 : due.length + ([(hat l i)]).length = ((due ++ [(hat l i)])).length := by first | rfl | (simp only [List.length_append, List.length_take, List.length_set, List.length_cons, List.length_nil]; done) | (simp only [List.length_append, List.length_take, List.length_set, List.length_cons, List.length_nil]; omega)
                      exact ⟨((l.length : Nat) : Int), i, _, _, A7, due.length + ([(hat l i)]).length, c7, _, _, (updL_eq _ _ (by exact ⟨rfl, rfl, rfl, rfl, rfl, rfl, rfl, rfl, rfl, rfl, rfl, trivial⟩)).symm, S, hm3⟩
                    · show WC Try.prog 235 _ _ _ _
                      have hc10_ := of_decide_eq_false hc10
                      refine WC_seq ?_
                      refine WC_region ?_
                      refine WL_cons (WO_val (v := (.bool (decide (bend % 8 = 4)))) (on_none rfl) rfl (by decide) (x_eql (a := bend % 8) (b := 4) rfl rfl) ?_)
                      refine WL_cons (WO_val (v := (.bool (decide (bend % 8 = 4)))) (on_none rfl) rfl (by decide) (x_as (v := (.bool (decide (bend % 8 = 4)))) rfl) ?_)
                      refine WL_nil ?_
                      show WC Try.prog 235 _ _ _ _
                      refine WC_cond (t := decide (bend % 8 = 4)) rfl (fun hc11 => ?_) (fun hc11 => ?_)
                      · show WC Try.prog 235 _ _ _ _
                        have hc11_ := of_decide_eq_true hc11
                        refine WC_region ?_
                        refine WL_cons (WO_val (v := (.slice A2 due.length c2)) (on_none rfl) rfl (by decide) (x_mv (v := (.slice A2 due.length c2)) rfl) ?_)
                        refine WL_cons (WO_val (v := (.slice A2 due.length c2)) (on_none rfl) rfl (by decide) (x_mv (v := (.slice A2 due.length c2)) rfl) ?_)
                        refine WL_cons (WO_val (v := (.int .i64 ((due.length : Nat) : Int))) (on_none rfl) rfl (by decide) (x_len_slc rfl Try.underlying22) ?_)
                        refine WL_cons (WO_val (v := (.int .i64 (((due.length : Nat) : Int) / 2))) (on_none rfl) rfl (by decide) (x_quo (a := ((due.length : Nat) : Int)) (b := 2) rfl rfl (by omega) (by omega) (wi64 (by omega))) ?_)
                        refine WL_cons (WO_val (v := (.slice A2 ((((due.length : Nat) : Int) / 2 : Int).toNat) c2)) (on_none rfl) rfl (by decide) (x_slice_hi (a := ((due.length : Nat) : Int) / 2) rfl rfl Try.underlying22 ti26.sz (by omega) (by omega) (S.own_has hvsz (.there _ (.there _ (.there _ (.there _ (.here _)))))).len.2.1) ?_)
                        replace S := S.say (c' := own hv 26 32 (.slice A2 ((((due.length : Nat) : Int) / 2 : Int).toNat) c2) (due.take (((due.length : Nat) : Int) / 2 : Int).toNat)) (.there _ (.there _ (.there _ (.there _ (.here _))))) (own_take hvsz (by omega))
                        refine WL_cons (WO_val (v := (.slice A2 ((((due.length : Nat) : Int) / 2 : Int).toNat) c2)) (on_none rfl) rfl (by decide) (x_as (v := (.slice A2 ((((due.length : Nat) : Int) / 2 : Int).toNat) c2)) rfl) ?_)
                        refine WL_nil ?_
                        replace S := S.own_to_val hvsz (.there _ (.there _ (.there _ (.there _ (.here _)))))
                        have hm3 : (((due.length : Nat) : Int) / 2 : Int).toNat = ((due.take (((due.length : Nat) : Int) / 2 : Int).toNat)).length := by first | rfl | (simp only [List.length_append, List.length_take, List.length_set, List.length_cons, List.length_nil]; done) | (simp only [List.length_append, List.length_take, List.length_set, List.length_cons, List.length_nil]; omega)
                        exact ⟨((l.length : Nat) : Int), i, _, _, A2, (((due.length : Nat) : Int) / 2 : Int).toNat, c2, _, _, (updL_eq _ _ (by exact ⟨rfl, rfl, rfl, rfl, rfl, rfl, rfl, rfl, rfl, rfl, rfl, trivial⟩)).symm, S, hm3⟩
                      · show WC Try.prog 235 _ _ _ _
                        have hc11_ := of_decide_eq_false hc11
                        refine WC_seq ?_
                        refine WC_region ?_
                        refine WL_cons (WO_val (v := (.bool (decide (bend % 8 = 5)))) (on_none rfl) rfl (by decide) (x_eql (a := bend % 8) (b := 5) rfl rfl) ?_)
                        refine WL_cons (WO_val (v := (.bool (decide (bend % 8 = 5)))) (on_none rfl) rfl (by decide) (x_as (v := (.bool (decide (bend % 8 = 5)))) rfl) ?_)
                        refine WL_nil ?_
                        show WC Try.prog 235 _ _ _ _
                        refine WC_cond (t := decide (bend % 8 = 5)) rfl (fun hc12 => ?_) (fun hc12 => ?_)
                        · show WC Try.prog 235 _ _ _ _
                          have hc12_ := of_decide_eq_true hc12
                          refine WC_seq ?_
                          refine WC_region ?_
                          refine WL_cons (WO_val (v := (.slice A2 due.length c2)) (on_none rfl) rfl (by decide) (x_mv (v := (.slice A2 due.length c2)) rfl) ?_)
                          refine WL_cons (WO_val (v := (.int .i64 ((due.length : Nat) : Int))) (on_none rfl) rfl (by decide) (x_len_slc rfl Try.underlying22) ?_)
                          refine WL_cons (WO_val (v := (.bool (decide (0 < ((due.length : Nat) : Int))))) (on_none rfl) rfl (by decide) (x_gtr (a := ((due.length : Nat) : Int)) (b := 0) rfl rfl) ?_)
                          refine WL_nil ?_
                          show WC Try.prog 235 _ _ _ _
                          refine WC_cond (t := decide (0 < ((due.length : Nat) : Int))) rfl (fun hc13 => ?_) (fun hc13 => ?_)
                          · show WC Try.prog 235 _ _ _ _
                            have hc13_ := of_decide_eq_true hc13
                            have hA9 : ∃ ad, A2 = some ad := Has.some (S.own_has hvsz (.there _ (.there _ (.there _ (.there _ (.here _)))))) (by omega)
                            have hm0 := Int.emod_nonneg at_ (show ((due.length : Nat) : Int) ≠ 0 by omega)
                            have hm1 := Int.emod_lt_of_pos at_ (show (0 : Int) < ((due.length : Nat) : Int) by omega)
                            refine WC_draw (S := fun wx => True) (Z := []) rfl ?_
                            replace S := S.drew
                            have hS : True := trivial
                            show WD Try.prog 235 _ _ _ _ 15 [] _ _
                            refine WD_look (v := (.slice A2 due.length c2)) (i := 0) rfl (by kernel_rfl) rfl (by decide) (on_none rfl) (fun wx hs => (x_mv (v := (.slice A2 due.length c2)) rfl)) hS ?_
                            show WD Try.prog 235 _ _ _ _ 14 _ _ _
                            refine WD_look (v := (.int .u8 at_)) (i := 1) rfl (by kernel_rfl) rfl (by decide) (on_none rfl) (fun wx hs => (x_mv (v := (.int .u8 at_)) rfl)) hS ?_
                            show WD Try.prog 235 _ _ _ _ 13 _ _ _
                            refine WD_look (v := (.int .i64 at_)) (i := 2) rfl (by kernel_rfl) rfl (by decide) (on_none rfl) (fun wx hs => (x_conv (a := at_) rfl Try.underlying5 Try.underlying3 (wi64 (by omega)))) hS ?_
                            show WD Try.prog 235 _ _ _ _ 12 _ _ _
                            refine WD_look (v := (.slice A2 due.length c2)) (i := 3) rfl (by kernel_rfl) rfl (by decide) (on_none rfl) (fun wx hs => (x_mv (v := (.slice A2 due.length c2)) rfl)) hS ?_
                            show WD Try.prog 235 _ _ _ _ 11 _ _ _
                            refine WD_look (v := (.int .i64 ((due.length : Nat) : Int))) (i := 4) rfl (by kernel_rfl) rfl (by decide) (on_none rfl) (fun wx hs => (x_len_slc rfl Try.underlying22)) hS ?_
                            show WD Try.prog 235 _ _ _ _ 10 _ _ _
                            refine WD_look (v := (.int .i64 (at_ % ((due.length : Nat) : Int)))) (i := 5) rfl (by kernel_rfl) rfl (by decide) (on_none rfl) (fun wx hs => (x_rem (a := at_) (b := ((due.length : Nat) : Int)) rfl rfl (by omega) (by omega))) hS ?_
                            show WD Try.prog 235 _ _ _ _ 9 _ _ _
                            refine WD_look (v := (.int .u8 at_)) (i := 6) rfl (by kernel_rfl) rfl (by decide) (on_none rfl) (fun wx hs => (x_mv (v := (.int .u8 at_)) rfl)) hS ?_
                            show WD Try.prog 235 _ _ _ _ 8 _ _ _
                            refine WD_look (v := (.int .u8 (at_ % 32))) (i := 7) rfl (by kernel_rfl) rfl (by decide) (on_none rfl) (fun wx hs => (x_rem (a := at_) (b := 32) rfl rfl (by omega) (by omega))) hS ?_
                            show WD Try.prog 235 _ _ _ _ 7 _ _ _
                            refine WD_look (v := (eaddr A2 ((at_ % ((due.length : Nat) : Int) : Int).toNat * 32))) (i := 8) rfl (by kernel_rfl) rfl (by decide) (on_none rfl) (fun wx hs => (x_index_slc (i := at_ % ((due.length : Nat) : Int)) rfl rfl Try.underlying22 ti26.sz (by omega) (by first | omega | (simp only [List.length_set]; omega)) hA9)) hS ?_
                            show WD Try.prog 235 _ _ _ _ 6 _ _ _
                            refine WD_look (v := (eaddr A2 ((at_ % ((due.length : Nat) : Int) : Int).toNat * 32 + (at_ % 32 : Int).toNat * 1))) (i := 9) rfl (by kernel_rfl) rfl (by decide) (on_none rfl) (fun wx hs => (x_index_el (i := at_ % 32) rfl hA9 rfl Try.underlying26 ti5.sz (by omega) (by omega))) hS ?_
                            show WD Try.prog 235 _ _ _ _ 5 _ _ _
                            refine WD_look (v := (eaddr A2 ((at_ % ((due.length : Nat) : Int) : Int).toNat * 32))) (i := 12) rfl (by kernel_rfl) rfl (by decide) (on_none rfl) (fun wx hs => (x_index_slc (i := at_ % ((due.length : Nat) : Int)) rfl rfl Try.underlying22 ti26.sz (by omega) (by first | omega | (simp only [List.length_set]; omega)) hA9)) hS ?_
                            show WD Try.prog 235 _ _ _ _ 4 _ _ _
                            refine WD_one (i := 10) rfl (by kernel_rfl) (WO_val (v := (.int .u8 (bt (hat due (at_ % ((due.length : Nat) : Int))).1 (at_ % 32)))) (on_none rfl) rfl (by decide) (x_load_elb (j := at_ % 32) (S.own_has hvsz (.there _ (.there _ (.there _ (.there _ (.here _)))))) (hat_some (by omega) (by first | omega | (simp only [List.length_set]; omega))) rfl (by omega) (by omega) Try.underlying5 rfl) ?_)
                            refine ⟨.inl hS, ?_⟩
                            refine WD_look (v := (.int .u8 (bitop .xor .u8 (bt (hat due (at_ % ((due.length : Nat) : Int))).1 (at_ % 32)) 128))) (i := 11) rfl (by kernel_rfl) rfl (by decide) (on_none rfl) (fun wx hs => (x_xor (a := bt (hat due (at_ % ((due.length : Nat) : Int))).1 (at_ % 32)) (b := 128) rfl rfl)) hS ?_
                            show WD Try.prog 235 _ _ _ _ 2 _ _ _
                            refine WD_look (v := (eaddr A2 ((at_ % ((due.length : Nat) : Int) : Int).toNat * 32 + (at_ % 32 : Int).toNat * 1))) (i := 13) rfl (by kernel_rfl) rfl (by decide) (on_none rfl) (fun wx hs => (x_index_el (i := at_ % 32) rfl hA9 rfl Try.underlying26 ti5.sz (by omega) (by omega))) hS ?_
                            show WD Try.prog 235 _ _ _ _ 1 _ _ _
                            refine WD_one (i := 14) rfl (by kernel_rfl) (WO_store_elb (j := at_ % 32) (x1 := bitop .xor .u8 (bt (hat due (at_ % ((due.length : Nat) : Int))).1 (at_ % 32)) 128) S (on_none rfl) rfl rfl (hat_some (by omega) (by first | omega | (simp only [List.length_set]; omega))) (.there _ (.there _ (.there _ (.there _ (.here _))))) ti5.sz (by omega) (by omega) (bitop_u8_in _ _ _).1 (bitop_u8_in _ _ _).2 ?_)
                            intro ws17 S
                            replace hS : True := trivial
                            refine ⟨.inl hS, ?_⟩
                            refine WD_done (by kernel_rfl) ?_
                            clear hS
                            replace S := S.own_to_val hvsz (.there _ (.there _ (.there _ (.there _ (.here _)))))
                            have hm3 : due.length = ((due.set (at_ % ((due.length : Nat) : Int) : Int).toNat (hset (hat due (at_ % ((due.length : Nat) : Int))) (at_ % 32) (bitop .xor .u8 (bt (hat due (at_ % ((due.length : Nat) : Int))).1 (at_ % 32)) 128)))).length := by first | rfl | (simp only [List.length_append, List.length_take, List.length_set, List.length_cons, List.length_nil]; done) | (simp only [List.length_append, List.length_take, List.length_set, List.length_cons, List.length_nil]; omega)
                            exact ⟨((l.length : Nat) : Int), i, _, _, A2, due.length, c2, _, _, (updL_eq _ _ (by exact ⟨rfl, rfl, rfl, rfl, rfl, rfl, rfl, rfl, rfl, rfl, rfl, trivial⟩)).symm, S, hm3⟩
                          · show WC Try.prog 235 _ _ _ _
                            have hc13_ := of_decide_eq_false hc13
                            refine WC_skip ?_
                            replace S := S.own_to_val hvsz (.there _ (.there _ (.there _ (.there _ (.here _)))))
                            have hm3 : due.length = (due).length := by first | rfl | (simp only [List.length_append, List.length_take, List.length_set, List.length_cons, List.length_nil]; done) | (simp only [List.length_append, List.length_take, List.length_set, List.length_cons, List.length_nil]; omega)
                            exact ⟨((l.length : Nat) : Int), i, _, _, A2, due.length, c2, _, _, (updL_eq _ _ (by exact ⟨rfl, rfl, rfl, rfl, rfl, rfl, rfl, rfl, rfl, rfl, rfl, trivial⟩)).symm, S, hm3⟩
                        · show WC Try.prog 235 _ _ _ _
                          have hc12_ := of_decide_eq_false hc12
                          refine WC_seq ?_
                          refine WC_region ?_
                          refine WL_cons (WO_val (v := (.bool (decide (bend % 8 = 6)))) (on_none rfl) rfl (by decide) (x_eql (a := bend % 8) (b := 6) rfl rfl) ?_)
                          refine WL_cons (WO_val (v := (.bool (decide (bend % 8 = 6)))) (on_none rfl) rfl (by decide) (x_as (v := (.bool (decide (bend % 8 = 6)))) rfl) ?_)
                          refine WL_nil ?_
                          show WC Try.prog 235 _ _ _ _
                          refine WC_cond (t := decide (bend % 8 = 6)) rfl (fun hc14 => ?_) (fun hc14 => ?_)
                          · show WC Try.prog 235 _ _ _ _
                            have hc14_ := of_decide_eq_true hc14
                            refine WC_region ?_
                            refine WL_cons (WO_val (v := (.int .u8 at_)) (on_none rfl) rfl (by decide) (x_mv (v := (.int .u8 at_)) rfl) ?_)
                            refine WL_cons (WO_val (v := (.int .u8 (at_ % 32))) (on_none rfl) rfl (by decide) (x_rem (a := at_) (b := 32) rfl rfl (by omega) (by omega)) ?_)
                            refine WL_cons (WO_val (v := (.pointer (some ⟨gr, (at_ % 32 : Int).toNat * 1, none⟩))) (on_none rfl) rfl (by decide) (x_index_row (i := at_ % 32) rfl rfl Try.underlying26 ti5.sz (by omega) (by omega)) ?_)
                            refine WL_cons (WO_val (v := (.int .u8 (bt ((rootH ((l.length : Nat) : Int) (topH l)).1) (at_ % 32)))) (on_none rfl) rfl (by decide) (x_load_cell (v := .int .u8 (bt ((rootH ((l.length : Nat) : Int) (topH l)).1) (at_ % 32))) rfl (cell_row (S.blk_get (.there _ (.there _ (.there _ (.here _))))) (bv_bt (by omega) (by first | omega | (rw [Hsz]; omega)))) Try.underlying5 rfl) ?_)
                            refine WL_cons (WO_val (v := (.int .u8 (bitop .xor .u8 (bt ((rootH ((l.length : Nat) : Int) (topH l)).1) (at_ % 32)) 2))) (on_none rfl) rfl (by decide) (x_xor (a := bt ((rootH ((l.length : Nat) : Int) (topH l)).1) (at_ % 32)) (b := 2) rfl rfl) ?_)
                            refine WL_cons (WO_val (v := (.pointer (some ⟨gr, (at_ % 32 : Int).toNat * 1, none⟩))) (on_none rfl) rfl (by decide) (x_index_row (i := at_ % 32) rfl rfl Try.underlying26 ti5.sz (by omega) (by omega)) ?_)
                            refine WL_cons (WO_store (v := (.int .u8 (bitop .xor .u8 (bt ((rootH ((l.length : Nat) : Int) (topH l)).1) (at_ % 32)) 2))) (row := hv (rootH ((l.length : Nat) : Int) (topH l))) (row' := hv (hset (rootH ((l.length : Nat) : Int) (topH l)) (at_ % 32) (bitop .xor .u8 (bt ((rootH ((l.length : Nat) : Int) (topH l)).1) (at_ % 32)) 2))) S (on_none rfl) rfl rfl (.there _ (.there _ (.there _ (.here _)))) ti5.sz rfl (by rw [hv_size]; omega) (by simp [Value.cells, Value.oneCell']) (splice_hset (by omega) (by first | omega | (rw [Hsz]; omega)) (bitop_u8_in _ _ _).1 (bitop_u8_in _ _ _).2) ?_)
                            intro ws18 S
                            refine WL_nil ?_
                            replace S := S.own_to_val hvsz (.there _ (.there _ (.there _ (.there _ (.here _)))))
                            have hm3 : due.length = (due).length := by first | rfl | (simp only [List.length_append, List.length_take, List.length_set, List.length_cons, List.length_nil]; done) | (simp only [List.length_append, List.length_take, List.length_set, List.length_cons, List.length_nil]; omega)
                            exact ⟨((l.length : Nat) : Int), i, _, _, A2, due.length, c2, _, _, (updL_eq _ _ (by exact ⟨rfl, rfl, rfl, rfl, rfl, rfl, rfl, rfl, rfl, rfl, rfl, trivial⟩)).symm, S, hm3⟩
                          · show WC Try.prog 235 _ _ _ _
                            have hc14_ := of_decide_eq_false hc14
                            refine WC_seq ?_
                            refine WC_region ?_
                            refine WL_cons (WO_val (v := (.slice A2 due.length c2)) (on_none rfl) rfl (by decide) (x_mv (v := (.slice A2 due.length c2)) rfl) ?_)
                            refine WL_cons (WO_val (v := (.int .i64 ((due.length : Nat) : Int))) (on_none rfl) rfl (by decide) (x_len_slc rfl Try.underlying22) ?_)
                            refine WL_cons (WO_val (v := (.bool (decide (1 < ((due.length : Nat) : Int))))) (on_none rfl) rfl (by decide) (x_gtr (a := ((due.length : Nat) : Int)) (b := 1) rfl rfl) ?_)
                            refine WL_nil ?_
                            show WC Try.prog 235 _ _ _ _
                            refine WC_cond (t := decide (1 < ((due.length : Nat) : Int))) rfl (fun hc15 => ?_) (fun hc15 => ?_)
                            · show WC Try.prog 235 _ _ _ _
                              have hc15_ := of_decide_eq_true hc15
                              have hA9 : ∃ ad, A2 = some ad := Has.some (S.own_has hvsz (.there _ (.there _ (.there _ (.there _ (.here _)))))) (by omega)
                              refine WC_draw (S := fun wx => True) (Z := []) rfl ?_
                              replace S := S.drew
                              have hS : True := trivial
                              show WD Try.prog 235 _ _ _ _ 12 [] _ _
                              refine WD_look (v := (.slice A2 due.length c2)) (i := 0) rfl (by kernel_rfl) rfl (by decide) (on_none rfl) (fun wx hs => (x_mv (v := (.slice A2 due.length c2)) rfl)) hS ?_
                              show WD Try.prog 235 _ _ _ _ 11 _ _ _
                              refine WD_look (v := (.slice A2 due.length c2)) (i := 1) rfl (by kernel_rfl) rfl (by decide) (on_none rfl) (fun wx hs => (x_mv (v := (.slice A2 due.length c2)) rfl)) hS ?_
                              show WD Try.prog 235 _ _ _ _ 10 _ _ _
                              refine WD_look (v := (.slice A2 due.length c2)) (i := 2) rfl (by kernel_rfl) rfl (by decide) (on_none rfl) (fun wx hs => (x_mv (v := (.slice A2 due.length c2)) rfl)) hS ?_
                              show WD Try.prog 235 _ _ _ _ 9 _ _ _
                              refine WD_look (v := (eaddr A2 ((1 : Int).toNat * 32))) (i := 3) rfl (by kernel_rfl) rfl (by decide) (on_none rfl) (fun wx hs => (x_index_slc (i := 1) rfl rfl Try.underlying22 ti26.sz (by omega) (by first | omega | (simp only [List.length_set]; omega)) hA9)) hS ?_
                              show WD Try.prog 235 _ _ _ _ 8 _ _ _
                              refine WD_look (v := (.slice A2 due.length c2)) (i := 5) rfl (by kernel_rfl) rfl (by decide) (on_none rfl) (fun wx hs => (x_mv (v := (.slice A2 due.length c2)) rfl)) hS ?_
                              show WD Try.prog 235 _ _ _ _ 7 _ _ _
                              refine WD_look (v := (eaddr A2 ((0 : Int).toNat * 32))) (i := 6) rfl (by kernel_rfl) rfl (by decide) (on_none rfl) (fun wx hs => (x_index_slc (i := 0) rfl rfl Try.underlying22 ti26.sz (by omega) (by first | omega | (simp only [List.length_set]; omega)) hA9)) hS ?_
                              show WD Try.prog 235 _ _ _ _ 6 _ _ _
                              refine WD_two (i := 4) (j := 7) rfl rfl (by kernel_rfl) ?_ ?_ 
                              · skip
                                refine WO_val (v := (.agg (hv (hat due 1)))) (on_none rfl) rfl (by decide) (x_el (x := hat due 1) (S.own_has hvsz (.there _ (.there _ (.there _ (.there _ (.here _)))))) (hat_some (by omega) (by first | omega | (simp only [List.length_set]; omega))) rfl Try.underlying26 rfl ti26.sz) ?_
                                refine ⟨.inl hS, ?_⟩
                                show WD Try.prog 235 _ _ _ _ 5 _ _ _
                                refine WD_one (i := 7) rfl (by kernel_rfl) (WO_val (v := (.agg (hv (hat due 0)))) (on_none rfl) rfl (by decide) (x_el (x := hat due 0) (S.own_has hvsz (.there _ (.there _ (.there _ (.there _ (.here _)))))) (hat_some (by omega) (by first | omega | (simp only [List.length_set]; omega))) rfl Try.underlying26 rfl ti26.sz) ?_)
                                refine ⟨.inl hS, ?_⟩
                                refine WD_look (v := (eaddr A2 ((0 : Int).toNat * 32))) (i := 8) rfl (by kernel_rfl) rfl (by decide) (on_none rfl) (fun wx hs => (x_index_slc (i := 0) rfl rfl Try.underlying22 ti26.sz (by omega) (by first | omega | (simp only [List.length_set]; omega)) hA9)) hS ?_
                                show WD Try.prog 235 _ _ _ _ 3 _ _ _
                                refine WD_one (i := 9) rfl (by kernel_rfl) (WO_store_el (x1 := (hat due 1)) (i := (0 : Int).toNat) S (on_none rfl) rfl rfl rfl (.there _ (.there _ (.there _ (.there _ (.here _))))) ti26.sz (by first | omega | (simp only [List.length_set]; omega)) (by decide) hvsz hv_one ?_)
                                intro ws19 S
                                replace hS : True := trivial
                                refine ⟨.inl hS, ?_⟩
                                refine WD_look (v := (eaddr A2 ((1 : Int).toNat * 32))) (i := 10) rfl (by kernel_rfl) rfl (by decide) (on_none rfl) (fun wx hs => (x_index_slc (i := 1) rfl rfl Try.underlying22 ti26.sz (by omega) (by first | omega | (simp only [List.length_set]; omega)) hA9)) hS ?_
                                show WD Try.prog 235 _ _ _ _ 1 _ _ _
                                refine WD_one (i := 11) rfl (by kernel_rfl) (WO_store_el (x1 := (hat due 0)) (i := (1 : Int).toNat) S (on_none rfl) rfl rfl rfl (.there _ (.there _ (.there _ (.there _ (.here _))))) ti26.sz (by first | omega | (simp only [List.length_set]; omega)) (by decide) hvsz hv_one ?_)
                                intro ws20 S
                                replace hS : True := trivial
                                refine ⟨.inl hS, ?_⟩
                                refine WD_done (by kernel_rfl) ?_
                                clear hS
                                replace S := S.own_to_val hvsz (.there _ (.there _ (.there _ (.there _ (.here _)))))
                                have hm3 : due.length = (((due.set (0 : Int).toNat (hat due 1)).set (1 : Int).toNat (hat due 0))).length := by first | rfl | (simp only [List.length_append, List.length_take, List.length_set, List.length_cons, List.length_nil]; done) | (simp only [List.length_append, List.length_take, List.length_set, List.length_cons, List.length_nil]; omega)
                                exact ⟨((l.length : Nat) : Int), i, _, _, A2, due.length, c2, _, _, (updL_eq _ _ (by exact ⟨rfl, rfl, rfl, rfl, rfl, rfl, rfl, rfl, rfl, rfl, rfl, trivial⟩)).symm, S, hm3⟩
                              · skip
                                refine WO_val (v := (.agg (hv (hat due 0)))) (on_none rfl) rfl (by decide) (x_el (x := hat due 0) (S.own_has hvsz (.there _ (.there _ (.there _ (.there _ (.here _)))))) (hat_some (by omega) (by first | omega | (simp only [List.length_set]; omega))) rfl Try.underlying26 rfl ti26.sz) ?_
                                refine ⟨.inl hS, ?_⟩
                                show WD Try.prog 235 _ _ _ _ 5 _ _ _
                                refine WD_one (i := 4) rfl (by kernel_rfl) (WO_val (v := (.agg (hv (hat due 1)))) (on_none rfl) rfl (by decide) (x_el (x := hat due 1) (S.own_has hvsz (.there _ (.there _ (.there _ (.there _ (.here _)))))) (hat_some (by omega) (by first | omega | (simp only [List.length_set]; omega))) rfl Try.underlying26 rfl ti26.sz) ?_)
                                refine ⟨.inl hS, ?_⟩
                                refine WD_look (v := (eaddr A2 ((0 : Int).toNat * 32))) (i := 8) rfl (by kernel_rfl) rfl (by decide) (on_none rfl) (fun wx hs => (x_index_slc (i := 0) rfl rfl Try.underlying22 ti26.sz (by omega) (by first | omega | (simp only [List.length_set]; omega)) hA9)) hS ?_
                                show WD Try.prog 235 _ _ _ _ 3 _ _ _
                                refine WD_one (i := 9) rfl (by kernel_rfl) (WO_store_el (x1 := (hat due 1)) (i := (0 : Int).toNat) S (on_none rfl) rfl rfl rfl (.there _ (.there _ (.there _ (.there _ (.here _))))) ti26.sz (by first | omega | (simp only [List.length_set]; omega)) (by decide) hvsz hv_one ?_)
                                intro ws21 S
                                replace hS : True := trivial
                                refine ⟨.inl hS, ?_⟩
                                refine WD_look (v := (eaddr A2 ((1 : Int).toNat * 32))) (i := 10) rfl (by kernel_rfl) rfl (by decide) (on_none rfl) (fun wx hs => (x_index_slc (i := 1) rfl rfl Try.underlying22 ti26.sz (by omega) (by first | omega | (simp only [List.length_set]; omega)) hA9)) hS ?_
                                show WD Try.prog 235 _ _ _ _ 1 _ _ _
                                refine WD_one (i := 11) rfl (by kernel_rfl) (WO_store_el (x1 := (hat due 0)) (i := (1 : Int).toNat) S (on_none rfl) rfl rfl rfl (.there _ (.there _ (.there _ (.there _ (.here _))))) ti26.sz (by first | omega | (simp only [List.length_set]; omega)) (by decide) hvsz hv_one ?_)
                                intro ws22 S
                                replace hS : True := trivial
                                refine ⟨.inl hS, ?_⟩
                                refine WD_done (by kernel_rfl) ?_
                                clear hS
                                replace S := S.own_to_val hvsz (.there _ (.there _ (.there _ (.there _ (.here _)))))
                                have hm3 : due.length = (((due.set (0 : Int).toNat (hat due 1)).set (1 : Int).toNat (hat due 0))).length := by first | rfl | (simp only [List.length_append, List.length_take, List.length_set, List.length_cons, List.length_nil]; done) | (simp only [List.length_append, List.length_take, List.length_set, List.length_cons, List.length_nil]; omega)
                                exact ⟨((l.length : Nat) : Int), i, _, _, A2, due.length, c2, _, _, (updL_eq _ _ (by exact ⟨rfl, rfl, rfl, rfl, rfl, rfl, rfl, rfl, rfl, rfl, rfl, trivial⟩)).symm, S, hm3⟩
                            · show WC Try.prog 235 _ _ _ _
                              have hc15_ := of_decide_eq_false hc15
                              refine WC_skip ?_
                              replace S := S.own_to_val hvsz (.there _ (.there _ (.there _ (.there _ (.here _)))))
                              have hm3 : due.length = (due).length := by first | rfl | (simp only [List.length_append, List.length_take, List.length_set, List.length_cons, List.length_nil]; done) | (simp only [List.length_append, List.length_take, List.length_set, List.length_cons, List.length_nil]; omega)
                              exact ⟨((l.length : Nat) : Int), i, _, _, A2, due.length, c2, _, _, (updL_eq _ _ (by exact ⟨rfl, rfl, rfl, rfl, rfl, rfl, rfl, rfl, rfl, rfl, rfl, trivial⟩)).symm, S, hm3⟩
            clear S
            rintro e6 wl6 ⟨n3, j3, h3, r3, A3, m3, c3, p3, eb, rfl, S, hm3⟩
            show WC Try.prog 235 _ _ _ _
            subst hm3
            refine WC_seq ?_
            refine WC_draw (S := fun wx => wx.heap[gr]? = some (.cells (hv r3) 26 (0, 0)) ∧ wx.heap[gh]? = some (.cells (hv h3) 26 (0, 0)) ∧ True) (Z := []) rfl ?_
            replace S := S.drew
            have hS : (World.drew wl6).heap[gr]? = some (.cells (hv r3) 26 (0, 0)) ∧ (World.drew wl6).heap[gh]? = some (.cells (hv h3) 26 (0, 0)) ∧ True := ⟨(S.blk_get (.there _ (.there _ (.there _ (.here _))))), (S.blk_get (.there _ (.there _ (.here _)))), trivial⟩
            show WD Try.prog 235 _ _ _ _ 13 [] _ _
            refine WD_look (v := (.agg (hv r3))) (i := 0) rfl (by kernel_rfl) rfl (by decide) (on_none rfl) (fun wx hs => (x_load_row rfl (hs.1) Try.underlying26 rfl ti26.sz (hv_size _))) hS ?_
            show WD Try.prog 235 _ _ _ _ 12 _ _ _
            refine WD_look (v := (.int .i64 n3)) (i := 1) rfl (by kernel_rfl) rfl (by decide) (on_none rfl) (fun wx hs => (x_mv (v := (.int .i64 n3)) rfl)) hS ?_
            show WD Try.prog 235 _ _ _ _ 11 _ _ _
            refine WD_look (v := (.int .i64 j3)) (i := 2) rfl (by kernel_rfl) rfl (by decide) (on_none rfl) (fun wx hs => (x_mv (v := (.int .i64 j3)) rfl)) hS ?_
            show WD Try.prog 235 _ _ _ _ 10 _ _ _
            refine WD_look (v := (.agg (hv h3))) (i := 3) rfl (by kernel_rfl) rfl (by decide) (on_none rfl) (fun wx hs => (x_load_row rfl (hs.2.1) Try.underlying26 rfl ti26.sz (hv_size _))) hS ?_
            show WD Try.prog 235 _ _ _ _ 9 _ _ _
            refine WD_look (v := (.slice A3 p3.length c3)) (i := 4) rfl (by kernel_rfl) rfl (by decide) (on_none rfl) (fun wx hs => (x_mv (v := (.slice A3 p3.length c3)) rfl)) hS ?_
            show WD Try.prog 235 _ _ _ _ 8 _ _ _
            refine WD_look (v := (.agg (hv r3))) (i := 6) rfl (by kernel_rfl) rfl (by decide) (on_none rfl) (fun wx hs => (x_load_row rfl (hs.1) Try.underlying26 rfl ti26.sz (hv_size _))) hS ?_
            show WD Try.prog 235 _ _ _ _ 7 _ _ _
            refine WD_look (v := (.int .i64 n3)) (i := 7) rfl (by kernel_rfl) rfl (by decide) (on_none rfl) (fun wx hs => (x_mv (v := (.int .i64 n3)) rfl)) hS ?_
            show WD Try.prog 235 _ _ _ _ 6 _ _ _
            refine WD_look (v := (.int .i64 j3)) (i := 8) rfl (by kernel_rfl) rfl (by decide) (on_none rfl) (fun wx hs => (x_mv (v := (.int .i64 j3)) rfl)) hS ?_
            show WD Try.prog 235 _ _ _ _ 5 _ _ _
            refine WD_look (v := (.agg (hv h3))) (i := 9) rfl (by kernel_rfl) rfl (by decide) (on_none rfl) (fun wx hs => (x_load_row rfl (hs.2.1) Try.underlying26 rfl ti26.sz (hv_size _))) hS ?_
            show WD Try.prog 235 _ _ _ _ 4 _ _ _
            refine WD_look (v := (.slice A3 p3.length c3)) (i := 10) rfl (by kernel_rfl) rfl (by decide) (on_none rfl) (fun wx hs => (x_mv (v := (.slice A3 p3.length c3)) rfl)) hS ?_
            show WD Try.prog 235 _ _ _ _ 3 _ _ _
            refine WD_one (i := 5) rfl (by kernel_rfl) (WO_call (on_none rfl) rfl (by decide) (x_call5 Try.func10 rfl rfl rfl rfl rfl rfl rfl rfl) (Check_c _ r3 n3 j3 h3 p3 (S.has (.there _ (.there _ (.there _ (.there _ (.here _))))))) ?_)
            rintro _ wc7 ⟨rfl, hb⟩
            refine ⟨_, rfl, ?_⟩
            replace S := S.keep hb
            clear hb
            replace hS : wc7.heap[gr]? = some (.cells (hv r3) 26 (0, 0)) ∧ wc7.heap[gh]? = some (.cells (hv h3) 26 (0, 0)) ∧ True := ⟨(S.blk_get (.there _ (.there _ (.there _ (.here _))))), (S.blk_get (.there _ (.there _ (.here _)))), trivial⟩
            refine ⟨.inl hS, ?_⟩
            refine WD_one (i := 11) rfl (by kernel_rfl) (WO_call (on_none rfl) rfl (by decide) (x_call5 Try.func13 rfl rfl rfl rfl rfl rfl rfl rfl) (checks04_c _ r3 n3 j3 h3 p3 (S.has (.there _ (.there _ (.there _ (.there _ (.here _))))))) ?_)
            rintro _ wc8 ⟨rfl, hb⟩
            refine ⟨_, rfl, ?_⟩
            replace S := S.keep hb
            clear hb
            replace hS : wc8.heap[gr]? = some (.cells (hv r3) 26 (0, 0)) ∧ wc8.heap[gh]? = some (.cells (hv h3) 26 (0, 0)) ∧ True := ⟨(S.blk_get (.there _ (.there _ (.there _ (.here _))))), (S.blk_get (.there _ (.there _ (.here _)))), trivial⟩
            refine ⟨.inl hS, ?_⟩
            refine WD_look (v := (.bool (!decide (checkB r3 n3 j3 h3 p3 = checkB r3 n3 j3 h3 p3)))) (i := 12) rfl (by kernel_rfl) rfl (by decide) (on_none rfl) (fun wx hs => (x_bne (a := checkB r3 n3 j3 h3 p3) (b := checkB r3 n3 j3 h3 p3) rfl rfl Try.underlying4)) hS ?_
            show WD Try.prog 235 _ _ _ _ 0 _ _ _
            refine WD_done (by kernel_rfl) ?_
            clear hS
            show WC Try.prog 235 _ _ _ _
            have hk10 : (!decide (checkB r3 n3 j3 h3 p3 = checkB r3 n3 j3 h3 p3)) = false := by simp
            refine WC_cond (t := false) (congrArg Value.bool hk10) (fun h => by cases h) (fun _ => ?_)
            show WC Try.prog 235 _ _ _ _
            refine WC_skip ?_
            show WC Try.prog 235 _ _ _ _
            refine WC_region ?_
            refine WL_cons (WO_val (v := (.int .i64 i)) (on_none rfl) rfl (by decide) (x_mv (v := (.int .i64 i)) rfl) ?_)
            refine WL_cons (WO_val (v := (.int .i64 (i + 1))) (on_none rfl) rfl (by decide) (x_add (a := i) (b := 1) rfl rfl (wi64 (by omega))) ?_)
            refine WL_cons (WO_val (v := (.int .i64 (i + 1))) (on_none rfl) rfl (by decide) (x_as (v := (.int .i64 (i + 1))) rfl) ?_)
            refine WL_nil ?_
            replace S := S.drop (.there _ (.there _ (.there _ (.there _ (.here _)))))
            replace S := S.drop (.there _ (.there _ (.there _ (.here _))))
            replace S := S.drop (.there _ (.there _ (.here _)))
            refine ⟨_, ?_, i + 1, _, (updL_eq _ _ (by exact ⟨rfl, rfl, rfl, rfl, rfl, rfl, trivial⟩)).symm, S, (by omega), rfl⟩
            omega
  · show WC Try.prog 235 _ _ _ _
    have hc2_ := of_decide_eq_false hc2
    refine WC_exit ?_
    show WC Try.prog 235 _ _ _ _
    refine WC_seq ?_
    refine WC_region ?_
    refine WL_cons (WO_val (v := (.bool true)) (on_none rfl) rfl (by decide) (x_as (v := (.bool true)) rfl) ?_)
    refine WL_nil ?_
    show WC Try.prog 235 _ _ _ _
    refine WC_ret ?_
    show retQ Try.prog Try.f5 _ .ret _ _
    exact ret1 (fn := Try.f5) (v := (.bool true)) rfl rfl ⟨rfl, S.below⟩
end Go.Proofs.Ytjlbkbfnmcppeaa.Sl

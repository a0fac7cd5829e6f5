/-
  What calls of the program's functions come to (part V2): each function walked once; the conditions stand in each theorem.
-/
import Derived.Test.YtjlbkbfnmcppeaaV1
set_option maxHeartbeats 2000000
set_option linter.unusedSimpArgs false
set_option linter.unusedVariables false
set_option maxRecDepth 100000
namespace Go.Proofs.Ytjlbkbfnmcppeaa.Sl
open Go Go.RowKit
attribute [local irreducible] ofH sumH eightF putT ofL bitop

theorem eight01_c' (n : Int) (w : World) : Calls Try.prog 25 #[.int .u64 n] w fun e w' => e = .returned (.string (eightF n 8 0 (zb 8))) ∧ Below w.heap.size w w' := by
  rw [← eight01_eq]
  exact eight01_c n w

theorem root04_c (n : Int) (h0 : 0 ≤ n) (h1 : n ≤ 9223372036854775807) (t : H) (w : World) :
    Calls Try.prog 12 #[(.int .i64 n), (.agg (hv t))] w (fun e w' => e = .returned (.agg (hv (rootH n t))) ∧ Below w.heap.size w w') := by
  refine calls_WC (c := _) (n := 12) (vs := [(.int .i64 n), (.agg (hv t))]) Try.func12 rfl Try.ntmps12 (Nat.le_of_ble_eq_true rfl) ?_
  have S := SL.start w
  refine WC_seq ?_
  refine WC_region ?_
  refine WL_cons (WO_box (v := (.agg (hv t))) (row := hv t) S (on_none rfl) (by decide) rfl rfl ?_)
  intro g1 wg1 S
  refine WL_cons (WO_alloc (row := hv zeroH) S (on_none rfl) (by decide) ti26 rfl ?_)
  intro g2 wg2 S
  refine WL_nil ?_
  show WC Try.prog 12 _ _ _ _
  refine WC_seq ?_
  refine WC_draw (S := fun wx => wx.heap[g1]? = some (.cells (hv t) 26 (0, 0)) ∧ True) (Z := [7]) rfl ?_
  replace S := S.drew
  have hS : (World.drew wg2).heap[g1]? = some (.cells (hv t) 26 (0, 0)) ∧ True := ⟨(S.blk_get (.there _ (.here _))), trivial⟩
  show WD Try.prog 12 _ _ _ _ 8 [] _ _
  refine WD_look (v := (.int .i64 n)) (i := 0) rfl (by kernel_rfl) rfl (by decide) (on_none rfl) (fun wx hs => (x_mv (v := (.int .i64 n)) rfl)) hS ?_
  show WD Try.prog 12 _ _ _ _ 7 _ _ _
  refine WD_look (v := (.int .u64 n)) (i := 1) rfl (by kernel_rfl) rfl (by decide) (on_none rfl) (fun wx hs => (x_conv (a := n) rfl Try.underlying3 Try.underlying55 (wu64 (by omega)))) hS ?_
  show WD Try.prog 12 _ _ _ _ 6 _ _ _
  refine WD_look (v := (.slice (some ⟨g1, 0, none⟩) 32 32)) (i := 3) rfl (by kernel_rfl) rfl (by decide) (on_none rfl) (fun wx hs => (x_slice_arr rfl Try.underlying26 ti5.sz)) hS ?_
  show WD Try.prog 12 _ _ _ _ 5 _ _ _
  refine WD_look (v := (.string t.1)) (i := 4) rfl (by kernel_rfl) rfl (by decide) (on_none rfl) (fun wx hs => (x_bytes (h := t.1) rfl (hs.1) Try.underlying33 Try.underlying5 Try.underlying9 t.2)) hS ?_
  show WD Try.prog 12 _ _ _ _ 4 _ _ _
  refine WD_one (i := 2) rfl (by kernel_rfl) (WO_call (on_none rfl) rfl (by decide) (x_call1 Try.func25 rfl rfl rfl rfl) (eight01_c' n _) ?_)
  rintro _ wc1 ⟨rfl, hb⟩
  refine ⟨_, rfl, ?_⟩
  replace S := S.keep hb
  clear hb
  replace hS : wc1.heap[g1]? = some (.cells (hv t) 26 (0, 0)) ∧ True := ⟨(S.blk_get (.there _ (.here _))), trivial⟩
  refine ⟨.inl hS, ?_⟩
  refine WD_one (i := 5) rfl (by kernel_rfl) (WO_build (vs := [(.string (eightF n 8 0 (zb 8))), (.string t.1)]) (row := #[(.string (eightF n 8 0 (zb 8))), (.string t.1)]) S (on_none rfl) (by decide) Try.underlying40 ti9 rfl rfl rfl (by simp [Value.cells]) (by decide) rfl ?_)
  intro g3 wg3 S
  replace hS : wg3.heap[g1]? = some (.cells (hv t) 26 (0, 0)) ∧ True := ⟨(S.blk_get (.there _ (.there _ (.here _)))), trivial⟩
  refine ⟨.inl hS, ?_⟩
  refine WD_one (i := 6) rfl (by kernel_rfl) (WO_call (on_none rfl) rfl (by decide) (x_call2 Try.func8 rfl rfl rfl rfl rfl) (of_c _ (⟨#[114, 111, 111, 116]⟩) ([eightF n 8 0 (zb 8), t.1]) (ofL_le (⟨#[114, 111, 111, 116]⟩) ([eightF n 8 0 (zb 8), t.1]) 4 rfl (by simp only [List.map_cons, List.map_nil, List.sum_cons, List.sum_nil, Hsz, eightF_size, zb_size] <;> omega)) (has_row1 (f := Value.string) (fun _ => rfl) [eightF n 8 0 (zb 8), t.1] (S.blk_get (.here _)) rfl (by decide))) ?_)
  rintro _ wc2 ⟨rfl, hb⟩
  refine ⟨_, rfl, ?_⟩
  replace S := S.keep hb
  clear hb
  replace hS : wc2.heap[g1]? = some (.cells (hv t) 26 (0, 0)) ∧ True := ⟨(S.blk_get (.there _ (.there _ (.here _)))), trivial⟩
  refine ⟨.inl hS, ?_⟩
  refine WD_one (i := 7) rfl (by kernel_rfl) (WO_store (v := (.agg (hv (ofH (⟨#[114, 111, 111, 116]⟩) ([eightF n 8 0 (zb 8), t.1]))))) (row := hv zeroH) (row' := hv (ofH (⟨#[114, 111, 111, 116]⟩) ([eightF n 8 0 (zb 8), t.1]))) S (on_none rfl) rfl rfl (.there _ (.here _)) ti26.sz (hv_size _) (by rw [hv_size]; exact Nat.le_refl _) (bv_one _) (splice_all _ _ (((hv_size _)).trans ((hv_size _)).symm)) ?_)
  intro ws1 S
  refine ⟨.inr rfl, ?_⟩
  refine WD_done (by kernel_rfl) ?_
  clear hS
  show WC Try.prog 12 _ _ _ _
  refine WC_ret ?_
  show retQ Try.prog Try.f12 _ .ret _ _
  exact retc (fn := Try.f12) S rfl rfl (.there _ (.here _)) Try.underlying26 rfl (by rw [hv_size]; exact ti26.sz) ⟨rfl, S.below⟩

theorem up_two (row : List H) (i : Int) (h0 : 0 ≤ i) (h1 : i + 1 < row.length) : upL (row.drop i.toNat) = pairH (hat row i) (hat row (i + 1)) :: upL (row.drop (i + 2).toNat) := by
  obtain ⟨k, rfl⟩ : ∃ k : Nat, i = k := ⟨i.toNat, by omega⟩
  have e2 : ((k : Int) + 1).toNat = k + 1 := by omega
  have e3 : ((k : Int) + 2).toNat = k + 1 + 1 := by omega
  simp only [hat, e2, e3, Int.toNat_natCast]
  rw [List.drop_eq_getElem_cons (by omega), List.drop_eq_getElem_cons (by omega), upL]
  simp [List.getElem?_eq_getElem, show k < row.length by omega, show k + 1 < row.length by omega]
theorem up_one (row : List H) (i : Int) (h0 : 0 ≤ i) (h1 : i < row.length) (h2 : ¬ i + 1 < row.length) : upL (row.drop i.toNat) = [hat row i] ∧ (row.drop (i + 2).toNat) = [] := by
  obtain ⟨k, rfl⟩ : ∃ k : Nat, i = k := ⟨i.toNat, by omega⟩
  refine ⟨?_, List.drop_of_length_le (by omega)⟩
  rw [upL_short _ (by rw [List.length_drop]; omega), Int.toNat_natCast, List.drop_eq_getElem_cons (by omega), List.drop_of_length_le (by omega)]
  simp [hat, List.getElem?_eq_getElem, show k < row.length by omega]

theorem up04_c (w : World) {A : Option Addr} {n c : Nat} (row : List H) (hz : row.length ≤ 1048576) (hP : Has w (slc (pur hv) 32) (.slice A n c) row) :
    Calls Try.prog 24 #[(.slice A row.length c)] w (fun e w' => ∃ A m c, e = .returned (.slice A m c) ∧ New w w' (slc (pur hv) 32) (.slice A m c) (upL row)) := by
  obtain ⟨rfl, hnc, hcm⟩ := hP.len
  simp only [maxLen] at hcm
  refine calls_WC (c := _) (n := 40) (vs := [(.slice A row.length c)]) Try.func24 rfl Try.ntmps24 (Nat.le_of_ble_eq_true rfl) ?_
  have S := SL.start w
  refine WC_seq ?_
  refine WC_region ?_
  refine WL_cons (WO_val (v := (.slice none 0 0)) (on_none rfl) rfl (by decide) (x_as (v := (.slice none 0 0)) rfl) ?_)
  refine WL_nil ?_
  show WC Try.prog 40 _ _ _ _
  refine WC_seq ?_
  refine WC_region ?_
  refine WL_cons (WO_val (v := (.slice none 0 0)) (on_none rfl) rfl (by decide) (x_as (v := (.slice none 0 0)) rfl) ?_)
  refine WL_nil ?_
  replace S := SL.own_nil S hv 26 32
  show WC Try.prog 40 _ _ _ _
  refine WC_seq ?_
  refine WC_seq ?_
  refine WC_region ?_
  refine WL_cons (WO_val (v := (.int .i64 0)) (on_none rfl) rfl (by decide) (x_as (v := (.int .i64 0)) rfl) ?_)
  refine WL_nil ?_
  show WC Try.prog 40 _ _ _ _
  refine WC_block ?_
  refine WC_loop (fun kq e' w' => ∃ (i : Int) (xs : List H) (Ab : Option Addr) (mb : Nat) (cb : Nat) (eb : Env), e' = updL eb [(0, (.slice A row.length c)), (3, (.slice Ab mb cb)), (4, (.int .i64 i))] ∧ SL w [own hv 26 32 (.slice Ab mb cb) xs] w' ∧ (0 ≤ i ∧ i ≤ row.length + 1) ∧ ((xs.length : Int) ≤ i) ∧ (xs ++ upL (row.drop i.toNat) = upL row) ∧ (row.length + 2 - i).toNat = kq) (k := _) ⟨0, [], none, 0, 0, _, (updL_eq _ _ (by exact ⟨rfl, rfl, rfl, trivial⟩)).symm, S, (by omega), (by simp), rfl, rfl⟩ ?_
  clear S
  rintro k1 e1 wl1 ⟨i, xs, Ab, mb, cb, eb, rfl, S, hi0, hxl, hX, rfl⟩
  show WC Try.prog 40 _ _ _ _
  have hi1 := hi0.2
  replace hi0 := hi0.1
  refine WC_seq ?_
  refine WC_seq ?_
  refine WC_region ?_
  refine WL_cons (WO_val (v := (.int .i64 i)) (on_none rfl) rfl (by decide) (x_mv (v := (.int .i64 i)) rfl) ?_)
  refine WL_cons (WO_val (v := (.slice A row.length c)) (on_none rfl) rfl (by decide) (x_mv (v := (.slice A row.length c)) rfl) ?_)
  refine WL_cons (WO_val (v := (.int .i64 ((row.length : Nat) : Int))) (on_none rfl) rfl (by decide) (x_len_slc rfl Try.underlying22) ?_)
  refine WL_cons (WO_val (v := (.bool (decide (i < ((row.length : Nat) : Int))))) (on_none rfl) rfl (by decide) (x_lss (a := i) (b := ((row.length : Nat) : Int)) rfl rfl) ?_)
  refine WL_nil ?_
  show WC Try.prog 40 _ _ _ _
  refine WC_cond (t := decide (i < ((row.length : Nat) : Int))) rfl (fun hc1 => ?_) (fun hc1 => ?_)
  · show WC Try.prog 40 _ _ _ _
    have hc1_ := of_decide_eq_true hc1
    refine WC_skip ?_
    show WC Try.prog 40 _ _ _ _
    refine WC_seq ?_
    refine WC_block ?_
    refine WC_seq ?_
    refine WC_region ?_
    refine WL_cons (WO_val (v := (.int .i64 i)) (on_none rfl) rfl (by decide) (x_mv (v := (.int .i64 i)) rfl) ?_)
    refine WL_cons (WO_val (v := (.int .i64 (i + 1))) (on_none rfl) rfl (by decide) (x_add (a := i) (b := 1) rfl rfl (wi64 (by omega))) ?_)
    refine WL_cons (WO_val (v := (.slice A row.length c)) (on_none rfl) rfl (by decide) (x_mv (v := (.slice A row.length c)) rfl) ?_)
    refine WL_cons (WO_val (v := (.int .i64 ((row.length : Nat) : Int))) (on_none rfl) rfl (by decide) (x_len_slc rfl Try.underlying22) ?_)
    refine WL_cons (WO_val (v := (.bool (decide (i + 1 < ((row.length : Nat) : Int))))) (on_none rfl) rfl (by decide) (x_lss (a := i + 1) (b := ((row.length : Nat) : Int)) rfl rfl) ?_)
    refine WL_nil ?_
    show WC Try.prog 40 _ _ _ _
    refine WC_cond (t := decide (i + 1 < ((row.length : Nat) : Int))) rfl (fun hc2 => ?_) (fun hc2 => ?_)
    · show WC Try.prog 40 _ _ _ _
      have hc2_ := of_decide_eq_true hc2
      refine WC_draw (S := fun wx => Has wx (slc (pur hv) 32) (.slice A row.length c) row ∧ True) (Z := []) rfl ?_
      replace S := S.drew
      have hS : Has (World.drew wl1) (slc (pur hv) 32) (.slice A row.length c) row ∧ True := ⟨(S.old hP), trivial⟩
      show WD Try.prog 40 _ _ _ _ 17 [] _ _
      refine WD_look (v := (.slice Ab mb cb)) (i := 0) rfl (by kernel_rfl) rfl (by decide) (on_none rfl) (fun wx hs => (x_mv (v := (.slice Ab mb cb)) rfl)) hS ?_
      show WD Try.prog 40 _ _ _ _ 16 _ _ _
      refine WD_look (v := (.slice A row.length c)) (i := 1) rfl (by kernel_rfl) rfl (by decide) (on_none rfl) (fun wx hs => (x_mv (v := (.slice A row.length c)) rfl)) hS ?_
      show WD Try.prog 40 _ _ _ _ 15 _ _ _
      refine WD_look (v := (.int .i64 i)) (i := 2) rfl (by kernel_rfl) rfl (by decide) (on_none rfl) (fun wx hs => (x_mv (v := (.int .i64 i)) rfl)) hS ?_
      show WD Try.prog 40 _ _ _ _ 14 _ _ _
      refine WD_look (v := (eaddr A ((i : Int).toNat * 32))) (i := 3) rfl (by kernel_rfl) rfl (by decide) (on_none rfl) (fun wx hs => (x_index_slc (i := i) rfl rfl Try.underlying22 ti26.sz (by omega) (by omega) (Has.some (hs.1) (by omega)))) hS ?_
      show WD Try.prog 40 _ _ _ _ 13 _ _ _
      refine WD_look (v := (elS A ((i : Int).toNat * 32))) (i := 4) rfl (by kernel_rfl) rfl (by decide) (on_none rfl) (fun wx hs => (x_slice_el rfl (Has.some (hs.1) (by omega)) Try.underlying26 ti5.sz)) hS ?_
      show WD Try.prog 40 _ _ _ _ 12 _ _ _
      refine WD_look (v := (.string ((hat row i).1))) (i := 5) rfl (by kernel_rfl) rfl (by decide) (on_none rfl) (fun wx hs => (x_bytes_el (hs.1) (hat_some (by omega) (by omega)) rfl Try.underlying33 Try.underlying5 Try.underlying9)) hS ?_
      show WD Try.prog 40 _ _ _ _ 11 _ _ _
      refine WD_look (v := (.slice A row.length c)) (i := 6) rfl (by kernel_rfl) rfl (by decide) (on_none rfl) (fun wx hs => (x_mv (v := (.slice A row.length c)) rfl)) hS ?_
      show WD Try.prog 40 _ _ _ _ 10 _ _ _
      refine WD_look (v := (.int .i64 i)) (i := 7) rfl (by kernel_rfl) rfl (by decide) (on_none rfl) (fun wx hs => (x_mv (v := (.int .i64 i)) rfl)) hS ?_
      show WD Try.prog 40 _ _ _ _ 9 _ _ _
      refine WD_look (v := (.int .i64 (i + 1))) (i := 8) rfl (by kernel_rfl) rfl (by decide) (on_none rfl) (fun wx hs => (x_add (a := i) (b := 1) rfl rfl (wi64 (by omega)))) hS ?_
      show WD Try.prog 40 _ _ _ _ 8 _ _ _
      refine WD_look (v := (eaddr A ((i + 1 : Int).toNat * 32))) (i := 9) rfl (by kernel_rfl) rfl (by decide) (on_none rfl) (fun wx hs => (x_index_slc (i := i + 1) rfl rfl Try.underlying22 ti26.sz (by omega) (by omega) (Has.some (hs.1) (by omega)))) hS ?_
      show WD Try.prog 40 _ _ _ _ 7 _ _ _
      refine WD_look (v := (elS A ((i + 1 : Int).toNat * 32))) (i := 10) rfl (by kernel_rfl) rfl (by decide) (on_none rfl) (fun wx hs => (x_slice_el rfl (Has.some (hs.1) (by omega)) Try.underlying26 ti5.sz)) hS ?_
      show WD Try.prog 40 _ _ _ _ 6 _ _ _
      refine WD_look (v := (.string ((hat row (i + 1)).1))) (i := 11) rfl (by kernel_rfl) rfl (by decide) (on_none rfl) (fun wx hs => (x_bytes_el (hs.1) (hat_some (by omega) (by omega)) rfl Try.underlying33 Try.underlying5 Try.underlying9)) hS ?_
      show WD Try.prog 40 _ _ _ _ 5 _ _ _
      refine WD_one (i := 12) rfl (by kernel_rfl) (WO_build (vs := [(.string ((hat row i).1)), (.string ((hat row (i + 1)).1))]) (row := #[(.string ((hat row i).1)), (.string ((hat row (i + 1)).1))]) S (on_none rfl) (by decide) Try.underlying40 ti9 rfl rfl rfl (by simp [Value.cells]) (by decide) rfl ?_)
      intro g1 wg1 S
      replace hS : Has wg1 (slc (pur hv) 32) (.slice A row.length c) row ∧ True := ⟨(S.old hP), trivial⟩
      refine ⟨.inl hS, ?_⟩
      refine WD_one (i := 13) rfl (by kernel_rfl) (WO_call (on_none rfl) rfl (by decide) (x_call2 Try.func8 rfl rfl rfl rfl rfl) (of_c _ (⟨#[112, 97, 105, 114]⟩) ([(hat row i).1, (hat row (i + 1)).1]) (ofL_le (⟨#[112, 97, 105, 114]⟩) ([(hat row i).1, (hat row (i + 1)).1]) 4 rfl (by simp only [List.map_cons, List.map_nil, List.sum_cons, List.sum_nil, Hsz, eightF_size, zb_size] <;> omega)) (has_row1 (f := Value.string) (fun _ => rfl) [(hat row i).1, (hat row (i + 1)).1] (S.blk_get (.here _)) rfl (by decide))) ?_)
      rintro _ wc1 ⟨rfl, hb⟩
      refine ⟨_, rfl, ?_⟩
      replace S := S.keep hb
      clear hb
      replace hS : Has wc1 (slc (pur hv) 32) (.slice A row.length c) row ∧ True := ⟨(S.old hP), trivial⟩
      refine ⟨.inl hS, ?_⟩
      refine WD_one (i := 14) rfl (by kernel_rfl) (WO_build (vs := [(.agg (hv (ofH (⟨#[112, 97, 105, 114]⟩) ([(hat row i).1, (hat row (i + 1)).1]))))]) (row := hv (ofH (⟨#[112, 97, 105, 114]⟩) ([(hat row i).1, (hat row (i + 1)).1]))) S (on_none rfl) (by decide) Try.underlying22 ti26 (hv_size _) rfl rfl (by simp [Value.cells, hv_size, bv_size, Hsz]) (by decide) (rowOf1 _) ?_)
      intro g2 wg2 S
      replace hS : Has wg2 (slc (pur hv) 32) (.slice A row.length c) row ∧ True := ⟨(S.old hP), trivial⟩
      refine ⟨.inl hS, ?_⟩
      refine WD_one (i := 15) rfl (by kernel_rfl) (WO_append (ys := [(ofH (⟨#[112, 97, 105, 114]⟩) ([(hat row i).1, (hat row (i + 1)).1]))]) S (on_none rfl) (by decide) rfl rfl (fun _ => (.there _ (.there _ (.here _)))) (has_one (S.blk_get (.here _)) (hv_size _)) Try.underlying22 ti26 (hv_size _) (by decide) hvsz hv_one (by simp only [maxLen, List.length_append, List.length_cons, List.length_nil]; omega) (by simp only [maxLen, List.length_append, List.length_cons, List.length_nil]; omega) ?_)
      intro A1 c1 wa1 S
      replace hS : Has wa1 (slc (pur hv) 32) (.slice A row.length c) row ∧ True := ⟨(S.old hP), trivial⟩
      refine ⟨.inl hS, ?_⟩
      refine WD_look (v := (.slice A1 (xs.length + ([(ofH (⟨#[112, 97, 105, 114]⟩) ([(hat row i).1, (hat row (i + 1)).1]))]).length) c1)) (i := 16) rfl (by kernel_rfl) rfl (by decide) (on_none rfl) (fun wx hs => (x_as (v := (.slice A1 (xs.length + ([(ofH (⟨#[112, 97, 105, 114]⟩) ([(hat row i).1, (hat row (i + 1)).1]))]).length) c1)) rfl)) hS ?_
      show WD Try.prog 40 _ _ _ _ 0 _ _ _
      refine WD_done (by kernel_rfl) ?_
      clear hS
      show WC Try.prog 40 _ _ _ _
      refine WC_region ?_
      refine WL_cons (WO_val (v := (.int .i64 i)) (on_none rfl) rfl (by decide) (x_mv (v := (.int .i64 i)) rfl) ?_)
      refine WL_cons (WO_val (v := (.int .i64 (i + 2))) (on_none rfl) rfl (by decide) (x_add (a := i) (b := 2) rfl rfl (wi64 (by omega))) ?_)
      refine WL_cons (WO_val (v := (.int .i64 (i + 2))) (on_none rfl) rfl (by decide) (x_as (v := (.int .i64 (i + 2))) rfl) ?_)
      refine WL_nil ?_
      replace S := S.drop (.there _ (.here _))
      replace S := S.drop (.here _)
      refine ⟨_, ?_, i + 2, _, A1, xs.length + ([(ofH (⟨#[112, 97, 105, 114]⟩) ([(hat row i).1, (hat row (i + 1)).1]))]).length, c1, _, (updL_eq _ _ (by exact ⟨rfl, rfl, rfl, trivial⟩)).symm, S, (by omega), (by simp only [List.length_append, List.length_cons, List.length_nil]; omega), (by rw [List.append_assoc]; exact (congrArg (xs ++ ·) (up_two row i hi0 (by omega))).symm.trans hX), rfl⟩
      omega
    · show WC Try.prog 40 _ _ _ _
      have hc2_ := of_decide_eq_false hc2
      refine WC_region ?_
      refine WL_cons (WO_val (v := (.slice Ab mb cb)) (on_none rfl) rfl (by decide) (x_mv (v := (.slice Ab mb cb)) rfl) ?_)
      refine WL_cons (WO_val (v := (.slice A row.length c)) (on_none rfl) rfl (by decide) (x_mv (v := (.slice A row.length c)) rfl) ?_)
      refine WL_cons (WO_val (v := (.int .i64 i)) (on_none rfl) rfl (by decide) (x_mv (v := (.int .i64 i)) rfl) ?_)
      refine WL_cons (WO_val (v := (eaddr A ((i : Int).toNat * 32))) (on_none rfl) rfl (by decide) (x_index_slc (i := i) rfl rfl Try.underlying22 ti26.sz (by omega) (by omega) (Has.some (S.old hP) (by omega))) ?_)
      refine WL_cons (WO_val (v := (.agg (hv (hat row i)))) (on_none rfl) rfl (by decide) (x_el (x := hat row i) (S.old hP) (hat_some (by omega) (by omega)) rfl Try.underlying26 rfl ti26.sz) ?_)
      refine WL_cons (WO_build (vs := [(.agg (hv (hat row i)))]) (row := hv (hat row i)) S (on_none rfl) (by decide) Try.underlying22 ti26 (hv_size _) rfl rfl (by simp [Value.cells, hv_size, bv_size, Hsz]) (by decide) (rowOf1 _) ?_)
      intro g3 wg3 S
      refine WL_cons (WO_append (ys := [(hat row i)]) S (on_none rfl) (by decide) rfl rfl (fun _ => (.there _ (.here _))) (has_one (S.blk_get (.here _)) (hv_size _)) Try.underlying22 ti26 (hv_size _) (by decide) hvsz hv_one (by simp only [maxLen, List.length_append, List.length_cons, List.length_nil]; omega) (by simp only [maxLen, List.length_append, List.length_cons, List.length_nil]; omega) ?_)
      intro A2 c2 wa2 S
      refine WL_cons (WO_val (v := (.slice A2 (xs.length + ([(hat row i)]).length) c2)) (on_none rfl) rfl (by decide) (x_as (v := (.slice A2 (xs.length + ([(hat row i)]).length) c2)) rfl) ?_)
      refine WL_nil ?_
      show WC Try.prog 40 _ _ _ _
      refine WC_region ?_
      refine WL_cons (WO_val (v := (.int .i64 i)) (on_none rfl) rfl (by decide) (x_mv (v := (.int .i64 i)) rfl) ?_)
      refine WL_cons (WO_val (v := (.int .i64 (i + 2))) (on_none rfl) rfl (by decide) (x_add (a := i) (b := 2) rfl rfl (wi64 (by omega))) ?_)
      refine WL_cons (WO_val (v := (.int .i64 (i + 2))) (on_none rfl) rfl (by decide) (x_as (v := (.int .i64 (i + 2))) rfl) ?_)
      refine WL_nil ?_
      replace S := S.drop (.here _)
      refine ⟨_, ?_, i + 2, _, A2, xs.length + ([(hat row i)]).length, c2, _, (updL_eq _ _ (by exact ⟨rfl, rfl, rfl, trivial⟩)).symm, S, (by omega), (by simp only [List.length_append, List.length_cons, List.length_nil]; omega), (by rw [(up_one row i hi0 (by omega) (by omega)).2, ← hX, (up_one row i hi0 (by omega) (by omega)).1]; simp [upL]), rfl⟩
      omega
  · show WC Try.prog 40 _ _ _ _
    have hc1_ := of_decide_eq_false hc1
    have hE : xs = upL row := by rw [← hX, List.drop_of_length_le (by omega)]; simp [upL]
    refine WC_exit ?_
    show WC Try.prog 40 _ _ _ _
    refine WC_seq ?_
    refine WC_region ?_
    refine WL_cons (WO_val (v := (.slice Ab mb cb)) (on_none rfl) rfl (by decide) (x_mv (v := (.slice Ab mb cb)) rfl) ?_)
    refine WL_cons (WO_val (v := (.slice Ab mb cb)) (on_none rfl) rfl (by decide) (x_as (v := (.slice Ab mb cb)) rfl) ?_)
    refine WL_nil ?_
    show WC Try.prog 40 _ _ _ _
    refine WC_ret ?_
    show retQ Try.prog Try.f24 _ .ret _ _
    rw [hE] at S
    replace S := S.own_to_val hvsz (.here _)
    exact ret1 (fn := Try.f24) (v := (.slice Ab mb cb)) rfl rfl ⟨_, _, _, rfl, S.to_new (.here _)⟩
end Go.Proofs.Ytjlbkbfnmcppeaa.Sl

/-
  What calls of the program's functions come to (part T2): each function walked once; the conditions stand in each theorem.
-/
import Derived.Test.YtjlbkbfnmcppeaaT1
set_option maxHeartbeats 2000000
set_option linter.unusedSimpArgs false
set_option linter.unusedVariables false
set_option maxRecDepth 100000
namespace Go.Proofs.Ytjlbkbfnmcppeaa.Sl
open Go Go.RowKit
attribute [local irreducible] ofH sumH eightF putT ofL bitop

theorem bytes_c (h : H) (w : World) :
    Calls Try.prog 9 #[(.agg (hv h))] w (fun e w' => e = .returned (.string h.1) ∧ Below w.heap.size w w') := by
  refine calls_WC (c := _) (n := 5) (vs := [(.agg (hv h))]) Try.func9 rfl Try.ntmps9 (Nat.le_of_ble_eq_true rfl) ?_
  have S := SL.start w
  refine WC_seq ?_
  refine WC_region ?_
  refine WL_cons (WO_box (v := (.agg (hv h))) (row := hv h) S (on_none rfl) (by decide) rfl rfl ?_)
  intro g1 wg1 S
  refine WL_cons (WO_val (v := (.string (⟨#[]⟩))) (on_none rfl) rfl (by decide) (x_as (v := (.string (⟨#[]⟩))) rfl) ?_)
  refine WL_nil ?_
  show WC Try.prog 5 _ _ _ _
  refine WC_seq ?_
  refine WC_region ?_
  refine WL_cons (WO_val (v := (.slice (some ⟨g1, 0, none⟩) 32 32)) (on_none rfl) rfl (by decide) (x_slice_arr rfl Try.underlying26 ti5.sz) ?_)
  refine WL_cons (WO_val (v := (.string h.1)) (on_none rfl) rfl (by decide) (x_bytes (h := h.1) rfl (S.blk_get (.here _)) Try.underlying33 Try.underlying5 Try.underlying9 h.2) ?_)
  refine WL_cons (WO_val (v := (.string h.1)) (on_none rfl) rfl (by decide) (x_as (v := (.string h.1)) rfl) ?_)
  refine WL_nil ?_
  show WC Try.prog 5 _ _ _ _
  refine WC_ret ?_
  show retQ Try.prog Try.f9 _ .ret _ _
  exact ret1 (fn := Try.f9) (v := (.string h.1)) rfl rfl ⟨rfl, S.below⟩

theorem leaf_c (h : H) (w : World) :
    Calls Try.prog 22 #[(.agg (hv h))] w (fun e w' => e = .returned (.agg (hv (leafH h))) ∧ Below w.heap.size w w') := by
  refine calls_WC (c := _) (n := 7) (vs := [(.agg (hv h))]) Try.func22 rfl Try.ntmps22 (Nat.le_of_ble_eq_true rfl) ?_
  have S := SL.start w
  refine WC_seq ?_
  refine WC_region ?_
  refine WL_cons (WO_box (v := (.agg (hv h))) (row := hv h) S (on_none rfl) (by decide) rfl rfl ?_)
  intro g1 wg1 S
  refine WL_cons (WO_alloc (row := hv zeroH) S (on_none rfl) (by decide) ti26 rfl ?_)
  intro g2 wg2 S
  refine WL_nil ?_
  show WC Try.prog 7 _ _ _ _
  refine WC_seq ?_
  refine WC_region ?_
  refine WL_cons (WO_val (v := (.agg (hv h))) (on_none rfl) rfl (by decide) (x_load_row rfl (S.blk_get (.there _ (.here _))) Try.underlying26 rfl ti26.sz (hv_size _)) ?_)
  refine WL_cons (WO_call (on_none rfl) rfl (by decide) (x_call1 Try.func9 rfl rfl rfl rfl) (bytes_c h _) ?_)
  rintro _ wc1 ⟨rfl, hb⟩
  refine ⟨_, rfl, ?_⟩
  replace S := S.keep hb
  clear hb
  refine WL_cons (WO_build (vs := [(.string h.1)]) (row := #[(.string h.1)]) S (on_none rfl) (by decide) Try.underlying40 ti9 rfl rfl rfl (by simp [Value.cells]) (by decide) rfl ?_)
  intro g3 wg3 S
  refine WL_cons (WO_call (on_none rfl) rfl (by decide) (x_call2 Try.func8 rfl rfl rfl rfl rfl) (of_c _ (⟨#[108, 101, 97, 102]⟩) ([h.1]) (ofL_le (⟨#[108, 101, 97, 102]⟩) ([h.1]) 4 rfl (by simp only [List.map_cons, List.map_nil, List.sum_cons, List.sum_nil, Hsz, eightF_size, zb_size] <;> omega)) (has_row1 (f := Value.string) (fun _ => rfl) [h.1] (S.blk_get (.here _)) rfl (by decide))) ?_)
  rintro _ wc2 ⟨rfl, hb⟩
  refine ⟨_, rfl, ?_⟩
  replace S := S.keep hb
  clear hb
  refine WL_cons (WO_store (v := (.agg (hv (ofH (⟨#[108, 101, 97, 102]⟩) ([h.1]))))) (row := hv zeroH) (row' := hv (ofH (⟨#[108, 101, 97, 102]⟩) ([h.1]))) S (on_none rfl) rfl rfl (.there _ (.here _)) ti26.sz (hv_size _) (by rw [hv_size]; exact Nat.le_refl _) (bv_one _) (splice_all _ _ (((hv_size _)).trans ((hv_size _)).symm)) ?_)
  intro ws1 S
  refine WL_nil ?_
  show WC Try.prog 7 _ _ _ _
  refine WC_ret ?_
  show retQ Try.prog Try.f22 _ .ret _ _
  exact retc (fn := Try.f22) S rfl rfl (.there _ (.here _)) Try.underlying26 rfl (by rw [hv_size]; exact ti26.sz) ⟨rfl, S.below⟩

theorem pair_c (a b : H) (w : World) :
    Calls Try.prog 23 #[(.agg (hv a)), (.agg (hv b))] w (fun e w' => e = .returned (.agg (hv (pairH a b))) ∧ Below w.heap.size w w') := by
  refine calls_WC (c := _) (n := 11) (vs := [(.agg (hv a)), (.agg (hv b))]) Try.func23 rfl Try.ntmps23 (Nat.le_of_ble_eq_true rfl) ?_
  have S := SL.start w
  refine WC_seq ?_
  refine WC_region ?_
  refine WL_cons (WO_box (v := (.agg (hv a))) (row := hv a) S (on_none rfl) (by decide) rfl rfl ?_)
  intro g1 wg1 S
  refine WL_cons (WO_box (v := (.agg (hv b))) (row := hv b) S (on_none rfl) (by decide) rfl rfl ?_)
  intro g2 wg2 S
  refine WL_cons (WO_alloc (row := hv zeroH) S (on_none rfl) (by decide) ti26 rfl ?_)
  intro g3 wg3 S
  refine WL_nil ?_
  show WC Try.prog 11 _ _ _ _
  refine WC_seq ?_
  refine WC_draw (S := fun wx => wx.heap[g1]? = some (.cells (hv a) 26 (0, 0)) ∧ wx.heap[g2]? = some (.cells (hv b) 26 (0, 0)) ∧ True) (Z := [6]) rfl ?_
  replace S := S.drew
  have hS : (World.drew wg3).heap[g1]? = some (.cells (hv a) 26 (0, 0)) ∧ (World.drew wg3).heap[g2]? = some (.cells (hv b) 26 (0, 0)) ∧ True := ⟨(S.blk_get (.there _ (.there _ (.here _)))), (S.blk_get (.there _ (.here _))), trivial⟩
  show WD Try.prog 11 _ _ _ _ 7 [] _ _
  refine WD_look (v := (.agg (hv a))) (i := 0) rfl (by kernel_rfl) rfl (by decide) (on_none rfl) (fun wx hs => (x_load_row rfl (hs.1) Try.underlying26 rfl ti26.sz (hv_size _))) hS ?_
  show WD Try.prog 11 _ _ _ _ 6 _ _ _
  refine WD_look (v := (.agg (hv b))) (i := 2) rfl (by kernel_rfl) rfl (by decide) (on_none rfl) (fun wx hs => (x_load_row rfl (hs.2.1) Try.underlying26 rfl ti26.sz (hv_size _))) hS ?_
  show WD Try.prog 11 _ _ _ _ 5 _ _ _
  refine WD_one (i := 1) rfl (by kernel_rfl) (WO_call (on_none rfl) rfl (by decide) (x_call1 Try.func9 rfl rfl rfl rfl) (bytes_c a _) ?_)
  rintro _ wc1 ⟨rfl, hb⟩
  refine ⟨_, rfl, ?_⟩
  replace S := S.keep hb
  clear hb
  replace hS : wc1.heap[g1]? = some (.cells (hv a) 26 (0, 0)) ∧ wc1.heap[g2]? = some (.cells (hv b) 26 (0, 0)) ∧ True := ⟨(S.blk_get (.there _ (.there _ (.here _)))), (S.blk_get (.there _ (.here _))), trivial⟩
  refine ⟨.inl hS, ?_⟩
  refine WD_one (i := 3) rfl (by kernel_rfl) (WO_call (on_none rfl) rfl (by decide) (x_call1 Try.func9 rfl rfl rfl rfl) (bytes_c b _) ?_)
  rintro _ wc2 ⟨rfl, hb⟩
  refine ⟨_, rfl, ?_⟩
  replace S := S.keep hb
  clear hb
  replace hS : wc2.heap[g1]? = some (.cells (hv a) 26 (0, 0)) ∧ wc2.heap[g2]? = some (.cells (hv b) 26 (0, 0)) ∧ True := ⟨(S.blk_get (.there _ (.there _ (.here _)))), (S.blk_get (.there _ (.here _))), trivial⟩
  refine ⟨.inl hS, ?_⟩
  refine WD_one (i := 4) rfl (by kernel_rfl) (WO_build (vs := [(.string a.1), (.string b.1)]) (row := #[(.string a.1), (.string b.1)]) S (on_none rfl) (by decide) Try.underlying40 ti9 rfl rfl rfl (by simp [Value.cells]) (by decide) rfl ?_)
  intro g4 wg4 S
  replace hS : wg4.heap[g1]? = some (.cells (hv a) 26 (0, 0)) ∧ wg4.heap[g2]? = some (.cells (hv b) 26 (0, 0)) ∧ True := ⟨(S.blk_get (.there _ (.there _ (.there _ (.here _))))), (S.blk_get (.there _ (.there _ (.here _)))), trivial⟩
  refine ⟨.inl hS, ?_⟩
  refine WD_one (i := 5) rfl (by kernel_rfl) (WO_call (on_none rfl) rfl (by decide) (x_call2 Try.func8 rfl rfl rfl rfl rfl) (of_c _ (⟨#[112, 97, 105, 114]⟩) ([a.1, b.1]) (ofL_le (⟨#[112, 97, 105, 114]⟩) ([a.1, b.1]) 4 rfl (by simp only [List.map_cons, List.map_nil, List.sum_cons, List.sum_nil, Hsz, eightF_size, zb_size] <;> omega)) (has_row1 (f := Value.string) (fun _ => rfl) [a.1, b.1] (S.blk_get (.here _)) rfl (by decide))) ?_)
  rintro _ wc3 ⟨rfl, hb⟩
  refine ⟨_, rfl, ?_⟩
  replace S := S.keep hb
  clear hb
  replace hS : wc3.heap[g1]? = some (.cells (hv a) 26 (0, 0)) ∧ wc3.heap[g2]? = some (.cells (hv b) 26 (0, 0)) ∧ True := ⟨(S.blk_get (.there _ (.there _ (.there _ (.here _))))), (S.blk_get (.there _ (.there _ (.here _)))), trivial⟩
  refine ⟨.inl hS, ?_⟩
  refine WD_one (i := 6) rfl (by kernel_rfl) (WO_store (v := (.agg (hv (ofH (⟨#[112, 97, 105, 114]⟩) ([a.1, b.1]))))) (row := hv zeroH) (row' := hv (ofH (⟨#[112, 97, 105, 114]⟩) ([a.1, b.1]))) S (on_none rfl) rfl rfl (.there _ (.here _)) ti26.sz (hv_size _) (by rw [hv_size]; exact Nat.le_refl _) (bv_one _) (splice_all _ _ (((hv_size _)).trans ((hv_size _)).symm)) ?_)
  intro ws1 S
  refine ⟨.inr rfl, ?_⟩
  refine WD_done (by kernel_rfl) ?_
  clear hS
  show WC Try.prog 11 _ _ _ _
  refine WC_ret ?_
  show retQ Try.prog Try.f23 _ .ret _ _
  exact retc (fn := Try.f23) S rfl rfl (.there _ (.here _)) Try.underlying26 rfl (by rw [hv_size]; exact ti26.sz) ⟨rfl, S.below⟩

theorem root_c (n : Int) (h0 : 0 ≤ n) (h1 : n ≤ 9223372036854775807) (t : H) (w : World) :
    Calls Try.prog 16 #[(.int .i64 n), (.agg (hv t))] w (fun e w' => e = .returned (.agg (hv (rootH n t))) ∧ Below w.heap.size w w') := by
  refine calls_WC (c := _) (n := 12) (vs := [(.int .i64 n), (.agg (hv t))]) Try.func16 rfl Try.ntmps16 (Nat.le_of_ble_eq_true rfl) ?_
  have S := SL.start w
  refine WC_seq ?_
  refine WC_region ?_
  refine WL_cons (WO_box (v := (.agg (hv t))) (row := hv t) S (on_none rfl) (by decide) rfl rfl ?_)
  intro g1 wg1 S
  refine WL_cons (WO_alloc (row := hv zeroH) S (on_none rfl) (by decide) ti26 rfl ?_)
  intro g2 wg2 S
  refine WL_nil ?_
  show WC Try.prog 12 _ _ _ _
  refine WC_seq ?_
  refine WC_draw (S := fun wx => wx.heap[g1]? = some (.cells (hv t) 26 (0, 0)) ∧ True) (Z := [7]) rfl ?_
  replace S := S.drew
  have hS : (World.drew wg2).heap[g1]? = some (.cells (hv t) 26 (0, 0)) ∧ True := ⟨(S.blk_get (.there _ (.here _))), trivial⟩
  show WD Try.prog 12 _ _ _ _ 8 [] _ _
  refine WD_look (v := (.int .i64 n)) (i := 0) rfl (by kernel_rfl) rfl (by decide) (on_none rfl) (fun wx hs => (x_mv (v := (.int .i64 n)) rfl)) hS ?_
  show WD Try.prog 12 _ _ _ _ 7 _ _ _
  refine WD_look (v := (.int .u64 n)) (i := 1) rfl (by kernel_rfl) rfl (by decide) (on_none rfl) (fun wx hs => (x_conv (a := n) rfl Try.underlying3 Try.underlying55 (wu64 (by omega)))) hS ?_
  show WD Try.prog 12 _ _ _ _ 6 _ _ _
  refine WD_look (v := (.agg (hv t))) (i := 3) rfl (by kernel_rfl) rfl (by decide) (on_none rfl) (fun wx hs => (x_load_row rfl (hs.1) Try.underlying26 rfl ti26.sz (hv_size _))) hS ?_
  show WD Try.prog 12 _ _ _ _ 5 _ _ _
  refine WD_one (i := 2) rfl (by kernel_rfl) (WO_call (on_none rfl) rfl (by decide) (x_call1 Try.func27 rfl rfl rfl rfl) (eight_c n _) ?_)
  rintro _ wc1 ⟨rfl, hb⟩
  refine ⟨_, rfl, ?_⟩
  replace S := S.keep hb
  clear hb
  replace hS : wc1.heap[g1]? = some (.cells (hv t) 26 (0, 0)) ∧ True := ⟨(S.blk_get (.there _ (.here _))), trivial⟩
  refine ⟨.inl hS, ?_⟩
  refine WD_one (i := 4) rfl (by kernel_rfl) (WO_call (on_none rfl) rfl (by decide) (x_call1 Try.func9 rfl rfl rfl rfl) (bytes_c t _) ?_)
  rintro _ wc2 ⟨rfl, hb⟩
  refine ⟨_, rfl, ?_⟩
  replace S := S.keep hb
  clear hb
  replace hS : wc2.heap[g1]? = some (.cells (hv t) 26 (0, 0)) ∧ True := ⟨(S.blk_get (.there _ (.here _))), trivial⟩
  refine ⟨.inl hS, ?_⟩
  refine WD_one (i := 5) rfl (by kernel_rfl) (WO_build (vs := [(.string (eightF n 8 0 (zb 8))), (.string t.1)]) (row := #[(.string (eightF n 8 0 (zb 8))), (.string t.1)]) S (on_none rfl) (by decide) Try.underlying40 ti9 rfl rfl rfl (by simp [Value.cells]) (by decide) rfl ?_)
  intro g3 wg3 S
  replace hS : wg3.heap[g1]? = some (.cells (hv t) 26 (0, 0)) ∧ True := ⟨(S.blk_get (.there _ (.there _ (.here _)))), trivial⟩
  refine ⟨.inl hS, ?_⟩
  refine WD_one (i := 6) rfl (by kernel_rfl) (WO_call (on_none rfl) rfl (by decide) (x_call2 Try.func8 rfl rfl rfl rfl rfl) (of_c _ (⟨#[114, 111, 111, 116]⟩) ([eightF n 8 0 (zb 8), t.1]) (ofL_le (⟨#[114, 111, 111, 116]⟩) ([eightF n 8 0 (zb 8), t.1]) 4 rfl (by simp only [List.map_cons, List.map_nil, List.sum_cons, List.sum_nil, Hsz, eightF_size, zb_size] <;> omega)) (has_row1 (f := Value.string) (fun _ => rfl) [eightF n 8 0 (zb 8), t.1] (S.blk_get (.here _)) rfl (by decide))) ?_)
  rintro _ wc3 ⟨rfl, hb⟩
  refine ⟨_, rfl, ?_⟩
  replace S := S.keep hb
  clear hb
  replace hS : wc3.heap[g1]? = some (.cells (hv t) 26 (0, 0)) ∧ True := ⟨(S.blk_get (.there _ (.there _ (.here _)))), trivial⟩
  refine ⟨.inl hS, ?_⟩
  refine WD_one (i := 7) rfl (by kernel_rfl) (WO_store (v := (.agg (hv (ofH (⟨#[114, 111, 111, 116]⟩) ([eightF n 8 0 (zb 8), t.1]))))) (row := hv zeroH) (row' := hv (ofH (⟨#[114, 111, 111, 116]⟩) ([eightF n 8 0 (zb 8), t.1]))) S (on_none rfl) rfl rfl (.there _ (.here _)) ti26.sz (hv_size _) (by rw [hv_size]; exact Nat.le_refl _) (bv_one _) (splice_all _ _ (((hv_size _)).trans ((hv_size _)).symm)) ?_)
  intro ws1 S
  refine ⟨.inr rfl, ?_⟩
  refine WD_done (by kernel_rfl) ?_
  clear hS
  show WC Try.prog 12 _ _ _ _
  refine WC_ret ?_
  show retQ Try.prog Try.f16 _ .ret _ _
  exact retc (fn := Try.f16) S rfl rfl (.there _ (.here _)) Try.underlying26 rfl (by rw [hv_size]; exact ti26.sz) ⟨rfl, S.below⟩

theorem up_c (w : World) {A : Option Addr} {n c : Nat} (row : List H) (hz : row.length ≤ 1048576) (hP : Has w (slc (pur hv) 32) (.slice A n c) row) :
    Calls Try.prog 26 #[(.slice A row.length c)] w (fun e w' => ∃ A m c, e = .returned (.slice A m c) ∧ New w w' (slc (pur hv) 32) (.slice A m c) (upL row)) := by
  obtain ⟨rfl, hnc, hcm⟩ := hP.len
  refine calls_WC (c := _) (n := 42) (vs := [(.slice A row.length c)]) Try.func26 rfl Try.ntmps26 (Nat.le_of_ble_eq_true rfl) ?_
  have S := SL.start w
  refine WC_seq ?_
  refine WC_region ?_
  refine WL_cons (WO_val (v := (.slice none 0 0)) (on_none rfl) rfl (by decide) (x_as (v := (.slice none 0 0)) rfl) ?_)
  refine WL_nil ?_
  show WC Try.prog 42 _ _ _ _
  refine WC_seq ?_
  refine WC_region ?_
  refine WL_cons (WO_val (v := (.slice A row.length c)) (on_none rfl) rfl (by decide) (x_mv (v := (.slice A row.length c)) rfl) ?_)
  refine WL_cons (WO_val (v := (.int .i64 ((row.length : Nat) : Int))) (on_none rfl) rfl (by decide) (x_len_slc rfl Try.underlying22) ?_)
  refine WL_cons (WO_val (v := (.int .i64 (((row.length : Nat) : Int) / 2))) (on_none rfl) rfl (by decide) (x_quo (a := ((row.length : Nat) : Int)) (b := 2) rfl rfl (by omega) (by omega) (wi64 (by omega))) ?_)
  refine WL_cons (WO_val (v := (.int .i64 (((row.length : Nat) : Int) / 2))) (on_none rfl) rfl (by decide) (x_as (v := (.int .i64 (((row.length : Nat) : Int) / 2))) rfl) ?_)
  refine WL_nil ?_
  show WC Try.prog 42 _ _ _ _
  refine WC_seq ?_
  refine WC_region ?_
  refine WL_cons (WO_val (v := (.int .i64 (((row.length : Nat) : Int) / 2))) (on_none rfl) rfl (by decide) (x_mv (v := (.int .i64 (((row.length : Nat) : Int) / 2))) rfl) ?_)
  refine WL_cons (WO_val (v := (.int .i64 ((((row.length : Nat) : Int) / 2) + 1))) (on_none rfl) rfl (by decide) (x_add (a := ((row.length : Nat) : Int) / 2) (b := 1) rfl rfl (wi64 (by omega))) ?_)
  refine WL_cons (WO_make (enc := hv) (c := (((row.length : Nat) : Int) / 2) + 1) S (on_none rfl) (by decide) rfl rfl (by omega) Try.underlying22 ti26 (by omega) (by omega) ?_)
  intro g1 wg1 S
  refine WL_cons (WO_val (v := (.slice (some ⟨g1, 0, none⟩) 0 (((((row.length : Nat) : Int) / 2) + 1 : Int).toNat))) (on_none rfl) rfl (by decide) (x_as (v := (.slice (some ⟨g1, 0, none⟩) 0 (((((row.length : Nat) : Int) / 2) + 1 : Int).toNat))) rfl) ?_)
  refine WL_nil ?_
  show WC Try.prog 42 _ _ _ _
  refine WC_seq ?_
  refine WC_seq ?_
  refine WC_region ?_
  refine WL_cons (WO_val (v := (.int .i64 (((row.length : Nat) : Int) / 2))) (on_none rfl) rfl (by decide) (x_mv (v := (.int .i64 (((row.length : Nat) : Int) / 2))) rfl) ?_)
  refine WL_cons (WO_val (v := (.int .i64 0)) (on_none rfl) rfl (by decide) (x_mv (v := (.int .i64 0)) rfl) ?_)
  refine WL_nil ?_
  show WC Try.prog 42 _ _ _ _
  refine WC_block ?_
  refine WC_loop (fun kq e' w' => ∃ (f : Nat) (i : Int) (xs : List H) (k : Nat) (eb : Env), e' = updL eb [(0, (.slice A row.length c)), (3, (.int .i64 (((row.length : Nat) : Int) / 2))), (4, (.slice (some ⟨g1, 0, none⟩) k (((((row.length : Nat) : Int) / 2) + 1 : Int).toNat))), (12, (.int .i64 (((row.length : Nat) : Int) / 2))), (13, (.int .i64 i))] ∧ SL w [own hv 26 32 (.slice (some ⟨g1, 0, none⟩) k (((((row.length : Nat) : Int) / 2) + 1 : Int).toNat)) xs] w' ∧ (i + (f : Int) = (row.length : Int) / 2) ∧ (0 ≤ i) ∧ (k = xs.length) ∧ ((k : Int) = i) ∧ (xs ++ upL (row.drop (2 * i).toNat) = upL row) ∧ f = kq) (k := (row.length / 2)) ⟨(row.length / 2), 0, [], 0, _, (updL_eq _ _ (by exact ⟨rfl, rfl, rfl, rfl, rfl, trivial⟩)).symm, S, (by omega), (by omega), rfl, rfl, rfl, rfl⟩ ?_
  clear S
  rintro k1 e1 wl1 ⟨f, i, xs, k, eb, rfl, S, hif, hi0, hk, hki, hX, rfl⟩
  show WC Try.prog 42 _ _ _ _
  refine WC_seq ?_
  refine WC_region ?_
  refine WL_cons (WO_val (v := (.bool (decide (i < ((row.length : Nat) : Int) / 2)))) (on_none rfl) rfl (by decide) (x_lss (a := i) (b := ((row.length : Nat) : Int) / 2) rfl rfl) ?_)
  refine WL_nil ?_
  show WC Try.prog 42 _ _ _ _
  refine WC_seq ?_
  refine WC_cond (t := decide (i < ((row.length : Nat) : Int) / 2)) rfl (fun hc1 => ?_) (fun hc1 => ?_)
  · show WC Try.prog 42 _ _ _ _
    have hc1_ := of_decide_eq_true hc1
    obtain ⟨f, rfl⟩ : ∃ m, f = m + 1 := ⟨f - 1, by omega⟩
    refine WC_skip ?_
    show WC Try.prog 42 _ _ _ _
    refine WC_seq ?_
    refine WC_block ?_
    refine WC_seq ?_
    refine WC_region ?_
    refine WL_cons (WO_val (v := (.int .i64 i)) (on_none rfl) rfl (by decide) (x_mv (v := (.int .i64 i)) rfl) ?_)
    refine WL_cons (WO_val (v := (.int .i64 i)) (on_none rfl) rfl (by decide) (x_as (v := (.int .i64 i)) rfl) ?_)
    refine WL_nil ?_
    show WC Try.prog 42 _ _ _ _
    refine WC_draw (S := fun wx => Has wx (slc (pur hv) 32) (.slice A row.length c) row ∧ True) (Z := []) rfl ?_
    replace S := S.drew
    have hS : Has (World.drew wl1) (slc (pur hv) 32) (.slice A row.length c) row ∧ True := ⟨(S.old hP), trivial⟩
    show WD Try.prog 42 _ _ _ _ 16 [] _ _
    refine WD_look (v := (.slice (some ⟨g1, 0, none⟩) k (((((row.length : Nat) : Int) / 2) + 1 : Int).toNat))) (i := 0) rfl (by kernel_rfl) rfl (by decide) (on_none rfl) (fun wx hs => (x_mv (v := (.slice (some ⟨g1, 0, none⟩) k (((((row.length : Nat) : Int) / 2) + 1 : Int).toNat))) rfl)) hS ?_
    show WD Try.prog 42 _ _ _ _ 15 _ _ _
    refine WD_look (v := (.slice A row.length c)) (i := 1) rfl (by kernel_rfl) rfl (by decide) (on_none rfl) (fun wx hs => (x_mv (v := (.slice A row.length c)) rfl)) hS ?_
    show WD Try.prog 42 _ _ _ _ 14 _ _ _
    refine WD_look (v := (.int .i64 i)) (i := 2) rfl (by kernel_rfl) rfl (by decide) (on_none rfl) (fun wx hs => (x_mv (v := (.int .i64 i)) rfl)) hS ?_
    show WD Try.prog 42 _ _ _ _ 13 _ _ _
    refine WD_look (v := (.int .i64 (2 * i))) (i := 3) rfl (by kernel_rfl) rfl (by decide) (on_none rfl) (fun wx hs => (x_mul (a := 2) (b := i) rfl rfl (wi64 (by omega)))) hS ?_
    show WD Try.prog 42 _ _ _ _ 12 _ _ _
    refine WD_look (v := (eaddr A ((2 * i : Int).toNat * 32))) (i := 4) rfl (by kernel_rfl) rfl (by decide) (on_none rfl) (fun wx hs => (x_index_slc (i := 2 * i) rfl rfl Try.underlying22 ti26.sz (by omega) (by omega) (Has.some (hs.1) (by omega)))) hS ?_
    show WD Try.prog 42 _ _ _ _ 11 _ _ _
    refine WD_look (v := (.agg (hv (hat row (2 * i))))) (i := 5) rfl (by kernel_rfl) rfl (by decide) (on_none rfl) (fun wx hs => (x_el (x := hat row (2 * i)) (hs.1) (hat_some (by omega) (by omega)) rfl Try.underlying26 rfl ti26.sz)) hS ?_
    show WD Try.prog 42 _ _ _ _ 10 _ _ _
    refine WD_look (v := (.slice A row.length c)) (i := 6) rfl (by kernel_rfl) rfl (by decide) (on_none rfl) (fun wx hs => (x_mv (v := (.slice A row.length c)) rfl)) hS ?_
    show WD Try.prog 42 _ _ _ _ 9 _ _ _
    refine WD_look (v := (.int .i64 i)) (i := 7) rfl (by kernel_rfl) rfl (by decide) (on_none rfl) (fun wx hs => (x_mv (v := (.int .i64 i)) rfl)) hS ?_
    show WD Try.prog 42 _ _ _ _ 8 _ _ _
    refine WD_look (v := (.int .i64 (2 * i))) (i := 8) rfl (by kernel_rfl) rfl (by decide) (on_none rfl) (fun wx hs => (x_mul (a := 2) (b := i) rfl rfl (wi64 (by omega)))) hS ?_
    show WD Try.prog 42 _ _ _ _ 7 _ _ _
    refine WD_look (v := (.int .i64 ((2 * i) + 1))) (i := 9) rfl (by kernel_rfl) rfl (by decide) (on_none rfl) (fun wx hs => (x_add (a := 2 * i) (b := 1) rfl rfl (wi64 (by omega)))) hS ?_
    show WD Try.prog 42 _ _ _ _ 6 _ _ _
    refine WD_look (v := (eaddr A (((2 * i) + 1 : Int).toNat * 32))) (i := 10) rfl (by kernel_rfl) rfl (by decide) (on_none rfl) (fun wx hs => (x_index_slc (i := (2 * i) + 1) rfl rfl Try.underlying22 ti26.sz (by omega) (by omega) (Has.some (hs.1) (by omega)))) hS ?_
    show WD Try.prog 42 _ _ _ _ 5 _ _ _
    refine WD_look (v := (.agg (hv (hat row ((2 * i) + 1))))) (i := 11) rfl (by kernel_rfl) rfl (by decide) (on_none rfl) (fun wx hs => (x_el (x := hat row ((2 * i) + 1)) (hs.1) (hat_some (by omega) (by omega)) rfl Try.underlying26 rfl ti26.sz)) hS ?_
    show WD Try.prog 42 _ _ _ _ 4 _ _ _
    refine WD_one (i := 12) rfl (by kernel_rfl) (WO_call (on_none rfl) rfl (by decide) (x_call2 Try.func23 rfl rfl rfl rfl rfl) (pair_c (hat row (2 * i)) (hat row ((2 * i) + 1)) _) ?_)
    rintro _ wc1 ⟨rfl, hb⟩
    refine ⟨_, rfl, ?_⟩
    replace S := S.keep hb
    clear hb
    replace hS : Has wc1 (slc (pur hv) 32) (.slice A row.length c) row ∧ True := ⟨(S.old hP), trivial⟩
    refine ⟨.inl hS, ?_⟩
    refine WD_one (i := 13) rfl (by kernel_rfl) (WO_build (vs := [(.agg (hv (pairH (hat row (2 * i)) (hat row ((2 * i) + 1)))))]) (row := hv (pairH (hat row (2 * i)) (hat row ((2 * i) + 1)))) S (on_none rfl) (by decide) Try.underlying22 ti26 (hv_size _) rfl rfl (by simp [Value.cells, hv_size, bv_size, Hsz]) (by decide) (rowOf1 _) ?_)
    intro g2 wg2 S
    replace hS : Has wg2 (slc (pur hv) 32) (.slice A row.length c) row ∧ True := ⟨(S.old hP), trivial⟩
    refine ⟨.inl hS, ?_⟩
    refine WD_one (i := 14) rfl (by kernel_rfl) (WO_append_room (ys := [(pairH (hat row (2 * i)) (hat row ((2 * i) + 1)))]) S (on_none rfl) (by decide) rfl rfl hk (.there _ (.here _)) (has_one (S.blk_get (.here _)) (hv_size _)) Try.underlying22 ti26 (by decide) hvsz hv_one (by simp only [List.length_cons, List.length_nil]; omega) ?_)
    intro wa1 S
    replace hS : Has wa1 (slc (pur hv) 32) (.slice A row.length c) row ∧ True := ⟨(S.old hP), trivial⟩
    refine ⟨.inl hS, ?_⟩
    refine WD_look (v := (.slice (some ⟨g1, 0, none⟩) (k + ([(pairH (hat row (2 * i)) (hat row ((2 * i) + 1)))]).length) (((((row.length : Nat) : Int) / 2) + 1 : Int).toNat))) (i := 15) rfl (by kernel_rfl) rfl (by decide) (on_none rfl) (fun wx hs => (x_as (v := (.slice (some ⟨g1, 0, none⟩) (k + ([(pairH (hat row (2 * i)) (hat row ((2 * i) + 1)))]).length) (((((row.length : Nat) : Int) / 2) + 1 : Int).toNat))) rfl)) hS ?_
    show WD Try.prog 42 _ _ _ _ 0 _ _ _
    refine WD_done (by kernel_rfl) ?_
    clear hS
    show WC Try.prog 42 _ _ _ _
    refine WC_region ?_
    refine WL_cons (WO_val (v := (.int .i64 (i + 1))) (on_none rfl) rfl (by decide) (x_add (a := i) (b := 1) rfl rfl (wi64 (by omega))) ?_)
    refine WL_cons (WO_val (v := (.int .i64 (i + 1))) (on_none rfl) rfl (by decide) (x_mv (v := (.int .i64 (i + 1))) rfl) ?_)
    refine WL_nil ?_
    replace S := S.drop (.here _)
    refine ⟨_, ?_, f, i + 1, _, k + ([(pairH (hat row (2 * i)) (hat row ((2 * i) + 1)))]).length, _, (updL_eq _ _ (by exact ⟨rfl, rfl, rfl, rfl, rfl, trivial⟩)).symm, S, (by omega), (by omega), (by simp only [List.length_append, List.length_cons, List.length_nil]; omega), (by simp only [List.length_cons, List.length_nil]; omega), (by rw [List.append_assoc]; exact (congrArg (xs ++ ·) (upL_step row i hi0 (by omega))).symm.trans hX), rfl⟩
    exact Nat.lt_succ_self f
  · show WC Try.prog 42 _ _ _ _
    have hc1_ := of_decide_eq_false hc1
    obtain rfl : f = 0 := by omega
    have hE : xs ++ row.drop (2 * ((row.length : Int) / 2) : Int).toNat = upL row := by rw [← hX, upL_short _ (by rw [List.length_drop]; omega)]; congr 2; omega
    refine WC_exit ?_
    show WC Try.prog 42 _ _ _ _
    refine WC_seq ?_
    refine WC_draw (S := fun wx => True) (Z := []) rfl ?_
    replace S := S.drew
    have hS : True := trivial
    show WD Try.prog 42 _ _ _ _ 11 [] _ _
    refine WD_look (v := (.slice (some ⟨g1, 0, none⟩) k (((((row.length : Nat) : Int) / 2) + 1 : Int).toNat))) (i := 0) rfl (by kernel_rfl) rfl (by decide) (on_none rfl) (fun wx hs => (x_mv (v := (.slice (some ⟨g1, 0, none⟩) k (((((row.length : Nat) : Int) / 2) + 1 : Int).toNat))) rfl)) hS ?_
    show WD Try.prog 42 _ _ _ _ 10 _ _ _
    refine WD_look (v := (.int .i64 (((row.length : Nat) : Int) / 2))) (i := 1) rfl (by kernel_rfl) rfl (by decide) (on_none rfl) (fun wx hs => (x_mv (v := (.int .i64 (((row.length : Nat) : Int) / 2))) rfl)) hS ?_
    show WD Try.prog 42 _ _ _ _ 9 _ _ _
    refine WD_look (v := (.int .i64 (((row.length : Nat) : Int) / 2))) (i := 2) rfl (by kernel_rfl) rfl (by decide) (on_none rfl) (fun wx hs => (x_mv (v := (.int .i64 (((row.length : Nat) : Int) / 2))) rfl)) hS ?_
    show WD Try.prog 42 _ _ _ _ 8 _ _ _
    refine WD_look (v := (.int .i64 ((((row.length : Nat) : Int) / 2) + 1))) (i := 3) rfl (by kernel_rfl) rfl (by decide) (on_none rfl) (fun wx hs => (x_add (a := ((row.length : Nat) : Int) / 2) (b := 1) rfl rfl (wi64 (by omega)))) hS ?_
    show WD Try.prog 42 _ _ _ _ 7 _ _ _
    refine WD_look (v := (.slice (some ⟨g1, 0, none⟩) k (((((row.length : Nat) : Int) / 2) + 1 : Int).toNat))) (i := 4) rfl (by kernel_rfl) rfl (by decide) (on_none rfl) (fun wx hs => (x_slice_same (a := ((row.length : Nat) : Int) / 2) (b := (((row.length : Nat) : Int) / 2) + 1) rfl rfl rfl Try.underlying22 ti26.sz (by omega) (by omega) (by omega))) hS ?_
    show WD Try.prog 42 _ _ _ _ 6 _ _ _
    refine WD_look (v := (.slice A row.length c)) (i := 5) rfl (by kernel_rfl) rfl (by decide) (on_none rfl) (fun wx hs => (x_mv (v := (.slice A row.length c)) rfl)) hS ?_
    show WD Try.prog 42 _ _ _ _ 5 _ _ _
    refine WD_look (v := (.int .i64 (((row.length : Nat) : Int) / 2))) (i := 6) rfl (by kernel_rfl) rfl (by decide) (on_none rfl) (fun wx hs => (x_mv (v := (.int .i64 (((row.length : Nat) : Int) / 2))) rfl)) hS ?_
    show WD Try.prog 42 _ _ _ _ 4 _ _ _
    refine WD_look (v := (.int .i64 (2 * (((row.length : Nat) : Int) / 2)))) (i := 7) rfl (by kernel_rfl) rfl (by decide) (on_none rfl) (fun wx hs => (x_mul (a := 2) (b := ((row.length : Nat) : Int) / 2) rfl rfl (wi64 (by omega)))) hS ?_
    show WD Try.prog 42 _ _ _ _ 3 _ _ _
    refine WD_look (v := (.slice (sloA A c (2 * (((row.length : Nat) : Int) / 2) : Int).toNat 32) (row.length - (2 * (((row.length : Nat) : Int) / 2) : Int).toNat) (c - (2 * (((row.length : Nat) : Int) / 2) : Int).toNat))) (i := 8) rfl (by kernel_rfl) rfl (by decide) (on_none rfl) (fun wx hs => (x_slice_lo (a := 2 * (((row.length : Nat) : Int) / 2)) rfl rfl Try.underlying22 ti26.sz (by omega) (by omega))) hS ?_
    show WD Try.prog 42 _ _ _ _ 2 _ _ _
    refine WD_one (i := 9) rfl (by kernel_rfl) (WO_append (ys := row.drop (2 * (((row.length : Nat) : Int) / 2) : Int).toNat) S (on_none rfl) (by decide) rfl rfl (fun _ => (.here _)) (Has.drop (S.old hP) (2 * (((row.length : Nat) : Int) / 2) : Int).toNat (by omega)) Try.underlying22 ti26 (hv_size _) (by decide) hvsz hv_one (by simp only [maxLen, List.length_drop]; omega) (by simp only [maxLen, List.length_drop]; omega) ?_)
    intro A1 c1 wa2 S
    replace hS : True := trivial
    refine ⟨.inl hS, ?_⟩
    refine WD_look (v := (.slice A1 (xs.length + (row.drop (2 * (((row.length : Nat) : Int) / 2) : Int).toNat).length) c1)) (i := 10) rfl (by kernel_rfl) rfl (by decide) (on_none rfl) (fun wx hs => (x_as (v := (.slice A1 (xs.length + (row.drop (2 * (((row.length : Nat) : Int) / 2) : Int).toNat).length) c1)) rfl)) hS ?_
    show WD Try.prog 42 _ _ _ _ 0 _ _ _
    refine WD_done (by kernel_rfl) ?_
    clear hS
    show WC Try.prog 42 _ _ _ _
    refine WC_ret ?_
    show retQ Try.prog Try.f26 _ .ret _ _
    rw [hE] at S
    replace S := S.own_to_val hvsz (.here _)
    exact ret1 (fn := Try.f26) (v := (.slice A1 (xs.length + (row.drop (2 * (((row.length : Nat) : Int) / 2) : Int).toNat).length) c1)) rfl rfl ⟨_, _, _, rfl, S.to_new (.here _)⟩
end Go.Proofs.Ytjlbkbfnmcppeaa.Sl

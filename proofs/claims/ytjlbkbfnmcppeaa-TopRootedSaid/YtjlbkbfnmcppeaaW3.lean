/-
  What calls of the program's functions come to (part W3): each function walked once; the conditions stand in each theorem.
-/
import Derived.Test.YtjlbkbfnmcppeaaW2
set_option maxHeartbeats 2000000
set_option linter.unusedSimpArgs false
set_option linter.unusedVariables false
set_option maxRecDepth 100000
namespace Go.Proofs.Ytjlbkbfnmcppeaa.Sl
open Go Go.RowKit
def goesStep (kk : List Int) (ww : List Int) (i : Int) (a0 : Int) (a1 : Int) (a2 : Int) (a3 : Int) (a4 : Int) (a5 : Int) (a6 : Int) (a7 : Int) : Int × Int × Int × Int × Int × Int × Int × Int := (IntKind.u32.wrap ((IntKind.u32.wrap ((IntKind.u32.wrap ((IntKind.u32.wrap ((IntKind.u32.wrap (a7 + (bitop .xor .u32 (bitop .xor .u32 (rotl a4 (-6)) (rotl a4 (-11))) (rotl a4 (-25))))) + (bitop .xor .u32 (bitop .and .u32 a4 a5) (bitop .and .u32 (compl .u32 a4) a6)))) + (nth kk i))) + (nth ww i))) + (IntKind.u32.wrap ((bitop .xor .u32 (bitop .xor .u32 (rotl a0 (-2)) (rotl a0 (-13))) (rotl a0 (-22))) + (bitop .xor .u32 (bitop .xor .u32 (bitop .and .u32 a0 a1) (bitop .and .u32 a0 a2)) (bitop .and .u32 a1 a2))))), a0, a1, a2, IntKind.u32.wrap (a3 + (IntKind.u32.wrap ((IntKind.u32.wrap ((IntKind.u32.wrap ((IntKind.u32.wrap (a7 + (bitop .xor .u32 (bitop .xor .u32 (rotl a4 (-6)) (rotl a4 (-11))) (rotl a4 (-25))))) + (bitop .xor .u32 (bitop .and .u32 a4 a5) (bitop .and .u32 (compl .u32 a4) a6)))) + (nth kk i))) + (nth ww i)))), a4, a5, a6)
def goesF (kk : List Int) (ww : List Int) : Nat → Int → Int × Int × Int × Int × Int × Int × Int × Int → Int × Int × Int × Int × Int × Int × Int × Int
  | 0, _, xx => xx
  | ff + 1, jj, xx => goesF kk ww ff (jj + 1) (goesStep kk ww jj xx.1 xx.2.1 xx.2.2.1 xx.2.2.2.1 xx.2.2.2.2.1 xx.2.2.2.2.2.1 xx.2.2.2.2.2.2.1 xx.2.2.2.2.2.2.2)
def goesVStep (l : List Int) (i2 : Int) (u : List Int) : List Int := ((nset u i2 (IntKind.u32.wrap ((nth u i2) + (nth l i2)))))
def goesVF (l : List Int) : Nat → Int → List Int → List Int
  | 0, _, xx => xx
  | ff + 1, jj, xx => goesVF l ff (jj + 1) (goesVStep l jj xx)
theorem goesVF_length (l : List Int) : ∀ (ff : Nat) (jj : Int) (v : List Int), (goesVF l ff jj v).length = v.length
  | 0, _, _ => rfl
  | ff + 1, jj, v => (goesVF_length l ff (jj + 1) _).trans (nset_length _ _ _)
def goesL (x : Int × Int × Int × Int × Int × Int × Int × Int) : List Int := [x.1, x.2.1, x.2.2.1, x.2.2.2.1, x.2.2.2.2.1, x.2.2.2.2.2.1, x.2.2.2.2.2.2.1, x.2.2.2.2.2.2.2]
def goesS (v kk ww : List Int) : List Int := goesVF (goesL (goesF kk ww 64 0 (nth v 0, nth v 1, nth v 2, nth v 3, nth v 4, nth v 5, nth v 6, nth v 7))) 8 0 v
theorem goes_c (w : World) (v kk ww : List Int) (gr gw : Nat) (hv_ : v.length = 8) (hk : kk.length = 64) (hw : ww.length = 64) (hr : w.heap[gr]? = some (.cells (uv .u32 kk) 60 (0, 0))) (hg : w.heap[gw]? = some (.cells (uv .u32 ww) 60 (0, 0))) :
    Calls Try.prog 34 #[(.agg (uv .u32 v)), (.pointer (some ⟨gr, 0, none⟩)), (.pointer (some ⟨gw, 0, none⟩))] w (fun e w' => e = .returned (.agg (uv .u32 (goesS v kk ww))) ∧ Below w.heap.size w w') := by
  refine calls_WC (c := _) (n := 124) (vs := [(.agg (uv .u32 v)), (.pointer (some ⟨gr, 0, none⟩)), (.pointer (some ⟨gw, 0, none⟩))]) Try.func34 rfl Try.ntmps34 (Nat.le_of_ble_eq_true rfl) ?_
  have S := SL.start w
  refine WC_seq ?_
  refine WC_region ?_
  refine WL_cons (WO_box (v := (.agg (uv .u32 v))) (row := uv .u32 v) S (on_none rfl) (by decide) rfl rfl ?_)
  intro g1 wg1 S
  refine WL_cons (WO_alloc (row := uv .u32 (List.replicate 8 0)) S (on_none rfl) (by decide) ti58 rfl ?_)
  intro g2 wg2 S
  refine WL_nil ?_
  show WC Try.prog 124 _ _ _ _
  refine WC_seq ?_
  refine WC_draw (S := fun wx => wx.heap[g1]? = some (.cells (uv .u32 v) 58 (0, 0)) ∧ True) (Z := []) rfl ?_
  replace S := S.drew
  have hS : (World.drew wg2).heap[g1]? = some (.cells (uv .u32 v) 58 (0, 0)) ∧ True := ⟨(S.blk_get (.there _ (.here _))), trivial⟩
  show WD Try.prog 124 _ _ _ _ 24 [] _ _
  refine WD_look (v := (.pointer (some ⟨g1, (0 : Int).toNat * 1, none⟩))) (i := 0) rfl (by kernel_rfl) rfl (by decide) (on_none rfl) (fun wx hs => (x_index_row (i := 0) rfl rfl Try.underlying58 ti57.sz (by omega) (by omega))) hS ?_
  show WD Try.prog 124 _ _ _ _ 23 _ _ _
  refine WD_look (v := (.int .u32 (nth v 0))) (i := 1) rfl (by kernel_rfl) rfl (by decide) (on_none rfl) (fun wx hs => (x_load_cell (v := .int .u32 (nth v 0)) rfl (cell_row (hs.1) (uv_nth (by omega) (by omega))) Try.underlying57 rfl)) hS ?_
  show WD Try.prog 124 _ _ _ _ 22 _ _ _
  refine WD_look (v := (.pointer (some ⟨g1, (1 : Int).toNat * 1, none⟩))) (i := 2) rfl (by kernel_rfl) rfl (by decide) (on_none rfl) (fun wx hs => (x_index_row (i := 1) rfl rfl Try.underlying58 ti57.sz (by omega) (by omega))) hS ?_
  show WD Try.prog 124 _ _ _ _ 21 _ _ _
  refine WD_look (v := (.int .u32 (nth v 1))) (i := 3) rfl (by kernel_rfl) rfl (by decide) (on_none rfl) (fun wx hs => (x_load_cell (v := .int .u32 (nth v 1)) rfl (cell_row (hs.1) (uv_nth (by omega) (by omega))) Try.underlying57 rfl)) hS ?_
  show WD Try.prog 124 _ _ _ _ 20 _ _ _
  refine WD_look (v := (.pointer (some ⟨g1, (2 : Int).toNat * 1, none⟩))) (i := 4) rfl (by kernel_rfl) rfl (by decide) (on_none rfl) (fun wx hs => (x_index_row (i := 2) rfl rfl Try.underlying58 ti57.sz (by omega) (by omega))) hS ?_
  show WD Try.prog 124 _ _ _ _ 19 _ _ _
  refine WD_look (v := (.int .u32 (nth v 2))) (i := 5) rfl (by kernel_rfl) rfl (by decide) (on_none rfl) (fun wx hs => (x_load_cell (v := .int .u32 (nth v 2)) rfl (cell_row (hs.1) (uv_nth (by omega) (by omega))) Try.underlying57 rfl)) hS ?_
  show WD Try.prog 124 _ _ _ _ 18 _ _ _
  refine WD_look (v := (.pointer (some ⟨g1, (3 : Int).toNat * 1, none⟩))) (i := 6) rfl (by kernel_rfl) rfl (by decide) (on_none rfl) (fun wx hs => (x_index_row (i := 3) rfl rfl Try.underlying58 ti57.sz (by omega) (by omega))) hS ?_
  show WD Try.prog 124 _ _ _ _ 17 _ _ _
  refine WD_look (v := (.int .u32 (nth v 3))) (i := 7) rfl (by kernel_rfl) rfl (by decide) (on_none rfl) (fun wx hs => (x_load_cell (v := .int .u32 (nth v 3)) rfl (cell_row (hs.1) (uv_nth (by omega) (by omega))) Try.underlying57 rfl)) hS ?_
  show WD Try.prog 124 _ _ _ _ 16 _ _ _
  refine WD_look (v := (.pointer (some ⟨g1, (4 : Int).toNat * 1, none⟩))) (i := 8) rfl (by kernel_rfl) rfl (by decide) (on_none rfl) (fun wx hs => (x_index_row (i := 4) rfl rfl Try.underlying58 ti57.sz (by omega) (by omega))) hS ?_
  show WD Try.prog 124 _ _ _ _ 15 _ _ _
  refine WD_look (v := (.int .u32 (nth v 4))) (i := 9) rfl (by kernel_rfl) rfl (by decide) (on_none rfl) (fun wx hs => (x_load_cell (v := .int .u32 (nth v 4)) rfl (cell_row (hs.1) (uv_nth (by omega) (by omega))) Try.underlying57 rfl)) hS ?_
  show WD Try.prog 124 _ _ _ _ 14 _ _ _
  refine WD_look (v := (.pointer (some ⟨g1, (5 : Int).toNat * 1, none⟩))) (i := 10) rfl (by kernel_rfl) rfl (by decide) (on_none rfl) (fun wx hs => (x_index_row (i := 5) rfl rfl Try.underlying58 ti57.sz (by omega) (by omega))) hS ?_
  show WD Try.prog 124 _ _ _ _ 13 _ _ _
  refine WD_look (v := (.int .u32 (nth v 5))) (i := 11) rfl (by kernel_rfl) rfl (by decide) (on_none rfl) (fun wx hs => (x_load_cell (v := .int .u32 (nth v 5)) rfl (cell_row (hs.1) (uv_nth (by omega) (by omega))) Try.underlying57 rfl)) hS ?_
  show WD Try.prog 124 _ _ _ _ 12 _ _ _
  refine WD_look (v := (.pointer (some ⟨g1, (6 : Int).toNat * 1, none⟩))) (i := 12) rfl (by kernel_rfl) rfl (by decide) (on_none rfl) (fun wx hs => (x_index_row (i := 6) rfl rfl Try.underlying58 ti57.sz (by omega) (by omega))) hS ?_
  show WD Try.prog 124 _ _ _ _ 11 _ _ _
  refine WD_look (v := (.int .u32 (nth v 6))) (i := 13) rfl (by kernel_rfl) rfl (by decide) (on_none rfl) (fun wx hs => (x_load_cell (v := .int .u32 (nth v 6)) rfl (cell_row (hs.1) (uv_nth (by omega) (by omega))) Try.underlying57 rfl)) hS ?_
  show WD Try.prog 124 _ _ _ _ 10 _ _ _
  refine WD_look (v := (.pointer (some ⟨g1, (7 : Int).toNat * 1, none⟩))) (i := 14) rfl (by kernel_rfl) rfl (by decide) (on_none rfl) (fun wx hs => (x_index_row (i := 7) rfl rfl Try.underlying58 ti57.sz (by omega) (by omega))) hS ?_
  show WD Try.prog 124 _ _ _ _ 9 _ _ _
  refine WD_look (v := (.int .u32 (nth v 7))) (i := 15) rfl (by kernel_rfl) rfl (by decide) (on_none rfl) (fun wx hs => (x_load_cell (v := .int .u32 (nth v 7)) rfl (cell_row (hs.1) (uv_nth (by omega) (by omega))) Try.underlying57 rfl)) hS ?_
  show WD Try.prog 124 _ _ _ _ 8 _ _ _
  refine WD_look (v := (.int .u32 (nth v 0))) (i := 16) rfl (by kernel_rfl) rfl (by decide) (on_none rfl) (fun wx hs => (x_as (v := (.int .u32 (nth v 0))) rfl)) hS ?_
  show WD Try.prog 124 _ _ _ _ 7 _ _ _
  refine WD_look (v := (.int .u32 (nth v 1))) (i := 17) rfl (by kernel_rfl) rfl (by decide) (on_none rfl) (fun wx hs => (x_as (v := (.int .u32 (nth v 1))) rfl)) hS ?_
  show WD Try.prog 124 _ _ _ _ 6 _ _ _
  refine WD_look (v := (.int .u32 (nth v 2))) (i := 18) rfl (by kernel_rfl) rfl (by decide) (on_none rfl) (fun wx hs => (x_as (v := (.int .u32 (nth v 2))) rfl)) hS ?_
  show WD Try.prog 124 _ _ _ _ 5 _ _ _
  refine WD_look (v := (.int .u32 (nth v 3))) (i := 19) rfl (by kernel_rfl) rfl (by decide) (on_none rfl) (fun wx hs => (x_as (v := (.int .u32 (nth v 3))) rfl)) hS ?_
  show WD Try.prog 124 _ _ _ _ 4 _ _ _
  refine WD_look (v := (.int .u32 (nth v 4))) (i := 20) rfl (by kernel_rfl) rfl (by decide) (on_none rfl) (fun wx hs => (x_as (v := (.int .u32 (nth v 4))) rfl)) hS ?_
  show WD Try.prog 124 _ _ _ _ 3 _ _ _
  refine WD_look (v := (.int .u32 (nth v 5))) (i := 21) rfl (by kernel_rfl) rfl (by decide) (on_none rfl) (fun wx hs => (x_as (v := (.int .u32 (nth v 5))) rfl)) hS ?_
  show WD Try.prog 124 _ _ _ _ 2 _ _ _
  refine WD_look (v := (.int .u32 (nth v 6))) (i := 22) rfl (by kernel_rfl) rfl (by decide) (on_none rfl) (fun wx hs => (x_as (v := (.int .u32 (nth v 6))) rfl)) hS ?_
  show WD Try.prog 124 _ _ _ _ 1 _ _ _
  refine WD_look (v := (.int .u32 (nth v 7))) (i := 23) rfl (by kernel_rfl) rfl (by decide) (on_none rfl) (fun wx hs => (x_as (v := (.int .u32 (nth v 7))) rfl)) hS ?_
  show WD Try.prog 124 _ _ _ _ 0 _ _ _
  refine WD_done (by kernel_rfl) ?_
  clear hS
  show WC Try.prog 124 _ _ _ _
  refine WC_seq ?_
  refine WC_seq ?_
  refine WC_region ?_
  refine WL_cons (WO_val (v := (.int .i64 0)) (on_none rfl) rfl (by decide) (x_mv (v := (.int .i64 0)) rfl) ?_)
  refine WL_nil ?_
  show WC Try.prog 124 _ _ _ _
  refine WC_block ?_
  refine WC_loop (fun kq e' w' => ∃ (f : Nat) (i : Int) (a0 : Int) (a1 : Int) (a2 : Int) (a3 : Int) (a4 : Int) (a5 : Int) (a6 : Int) (a7 : Int) (eb : Env), e' = updL eb [(1, (.pointer (some ⟨gr, 0, none⟩))), (2, (.pointer (some ⟨gw, 0, none⟩))), (3, (.pointer (some ⟨g1, 0, none⟩))), (6, (.pointer (some ⟨g2, 0, none⟩))), (7, (.int .u32 a0)), (8, (.int .u32 a1)), (9, (.int .u32 a2)), (10, (.int .u32 a3)), (11, (.int .u32 a4)), (12, (.int .u32 a5)), (13, (.int .u32 a6)), (14, (.int .u32 a7)), (36, (.int .i64 i))] ∧ SL w [blk g2 58 (uv .u32 (List.replicate 8 0)), blk g1 58 (uv .u32 v)] w' ∧ (i + (f : Int) = 64) ∧ (0 ≤ i) ∧ (goesF kk ww f i (a0, a1, a2, a3, a4, a5, a6, a7) = goesF kk ww 64 0 (nth v 0, nth v 1, nth v 2, nth v 3, nth v 4, nth v 5, nth v 6, nth v 7)) ∧ f = kq) (k := 64) ⟨64, 0, nth v 0, nth v 1, nth v 2, nth v 3, nth v 4, nth v 5, nth v 6, nth v 7, _, (updL_eq _ _ (by exact ⟨rfl, rfl, rfl, rfl, rfl, rfl, rfl, rfl, rfl, rfl, rfl, rfl, rfl, trivial⟩)).symm, S, (by omega), (by omega), rfl, rfl⟩ ?_
  clear S
  rintro k1 e1 wl1 ⟨f, i, a0, a1, a2, a3, a4, a5, a6, a7, eb, rfl, S, hif, hi0, hF, rfl⟩
  show WC Try.prog 124 _ _ _ _
  refine WC_seq ?_
  refine WC_region ?_
  refine WL_cons (WO_val (v := (.bool (decide (i < 64)))) (on_none rfl) rfl (by decide) (x_lss (a := i) (b := 64) rfl rfl) ?_)
  refine WL_nil ?_
  show WC Try.prog 124 _ _ _ _
  refine WC_seq ?_
  refine WC_cond (t := decide (i < 64)) rfl (fun hc1 => ?_) (fun hc1 => ?_)
  · show WC Try.prog 124 _ _ _ _
    have hc1_ := of_decide_eq_true hc1
    obtain ⟨f, rfl⟩ : ∃ m, f = m + 1 := ⟨f - 1, by omega⟩
    refine WC_skip ?_
    show WC Try.prog 124 _ _ _ _
    refine WC_seq ?_
    refine WC_block ?_
    refine WC_seq ?_
    refine WC_region ?_
    refine WL_cons (WO_val (v := (.int .i64 i)) (on_none rfl) rfl (by decide) (x_mv (v := (.int .i64 i)) rfl) ?_)
    refine WL_cons (WO_val (v := (.int .i64 i)) (on_none rfl) rfl (by decide) (x_as (v := (.int .i64 i)) rfl) ?_)
    refine WL_nil ?_
    show WC Try.prog 124 _ _ _ _
    refine WC_seq ?_
    refine WC_draw (S := fun wx => wx.heap[gr]? = some (.cells (uv .u32 kk) 60 (0, 0)) ∧ wx.heap[gw]? = some (.cells (uv .u32 ww) 60 (0, 0)) ∧ True) (Z := []) rfl ?_
    replace S := S.drew
    have hS : (World.drew wl1).heap[gr]? = some (.cells (uv .u32 kk) 60 (0, 0)) ∧ (World.drew wl1).heap[gw]? = some (.cells (uv .u32 ww) 60 (0, 0)) ∧ True := ⟨(S.old_blk hr), (S.old_blk hg), trivial⟩
    show WD Try.prog 124 _ _ _ _ 32 [] _ _
    refine WD_look (v := (.int .u32 a7)) (i := 0) rfl (by kernel_rfl) rfl (by decide) (on_none rfl) (fun wx hs => (x_mv (v := (.int .u32 a7)) rfl)) hS ?_
    show WD Try.prog 124 _ _ _ _ 31 _ _ _
    refine WD_look (v := (.int .u32 a4)) (i := 1) rfl (by kernel_rfl) rfl (by decide) (on_none rfl) (fun wx hs => (x_mv (v := (.int .u32 a4)) rfl)) hS ?_
    show WD Try.prog 124 _ _ _ _ 30 _ _ _
    refine WD_look (v := (.int .u32 a4)) (i := 3) rfl (by kernel_rfl) rfl (by decide) (on_none rfl) (fun wx hs => (x_mv (v := (.int .u32 a4)) rfl)) hS ?_
    show WD Try.prog 124 _ _ _ _ 29 _ _ _
    refine WD_look (v := (.int .u32 a4)) (i := 6) rfl (by kernel_rfl) rfl (by decide) (on_none rfl) (fun wx hs => (x_mv (v := (.int .u32 a4)) rfl)) hS ?_
    show WD Try.prog 124 _ _ _ _ 28 _ _ _
    refine WD_look (v := (.int .u32 a4)) (i := 10) rfl (by kernel_rfl) rfl (by decide) (on_none rfl) (fun wx hs => (x_mv (v := (.int .u32 a4)) rfl)) hS ?_
    show WD Try.prog 124 _ _ _ _ 27 _ _ _
    refine WD_look (v := (.int .u32 a5)) (i := 11) rfl (by kernel_rfl) rfl (by decide) (on_none rfl) (fun wx hs => (x_mv (v := (.int .u32 a5)) rfl)) hS ?_
    show WD Try.prog 124 _ _ _ _ 26 _ _ _
    refine WD_look (v := (.int .u32 (bitop .and .u32 a4 a5))) (i := 12) rfl (by kernel_rfl) rfl (by decide) (on_none rfl) (fun wx hs => (x_and (a := a4) (b := a5) rfl rfl)) hS ?_
    show WD Try.prog 124 _ _ _ _ 25 _ _ _
    refine WD_look (v := (.int .u32 a4)) (i := 13) rfl (by kernel_rfl) rfl (by decide) (on_none rfl) (fun wx hs => (x_mv (v := (.int .u32 a4)) rfl)) hS ?_
    show WD Try.prog 124 _ _ _ _ 24 _ _ _
    refine WD_look (v := (.int .u32 (compl .u32 a4))) (i := 14) rfl (by kernel_rfl) rfl (by decide) (on_none rfl) (fun wx hs => (x_compl (a := a4) rfl)) hS ?_
    show WD Try.prog 124 _ _ _ _ 23 _ _ _
    refine WD_look (v := (.int .u32 a6)) (i := 15) rfl (by kernel_rfl) rfl (by decide) (on_none rfl) (fun wx hs => (x_mv (v := (.int .u32 a6)) rfl)) hS ?_
    show WD Try.prog 124 _ _ _ _ 22 _ _ _
    refine WD_look (v := (.int .u32 (bitop .and .u32 (compl .u32 a4) a6))) (i := 16) rfl (by kernel_rfl) rfl (by decide) (on_none rfl) (fun wx hs => (x_and (a := compl .u32 a4) (b := a6) rfl rfl)) hS ?_
    show WD Try.prog 124 _ _ _ _ 21 _ _ _
    refine WD_look (v := (.int .u32 (bitop .xor .u32 (bitop .and .u32 a4 a5) (bitop .and .u32 (compl .u32 a4) a6)))) (i := 17) rfl (by kernel_rfl) rfl (by decide) (on_none rfl) (fun wx hs => (x_xor (a := bitop .and .u32 a4 a5) (b := bitop .and .u32 (compl .u32 a4) a6) rfl rfl)) hS ?_
    show WD Try.prog 124 _ _ _ _ 20 _ _ _
    refine WD_look (v := (.pointer (some ⟨gr, 0, none⟩))) (i := 19) rfl (by kernel_rfl) rfl (by decide) (on_none rfl) (fun wx hs => (x_mv (v := (.pointer (some ⟨gr, 0, none⟩))) rfl)) hS ?_
    show WD Try.prog 124 _ _ _ _ 19 _ _ _
    refine WD_look (v := (.int .i64 i)) (i := 20) rfl (by kernel_rfl) rfl (by decide) (on_none rfl) (fun wx hs => (x_mv (v := (.int .i64 i)) rfl)) hS ?_
    show WD Try.prog 124 _ _ _ _ 18 _ _ _
    refine WD_look (v := (.pointer (some ⟨gr, 0, none⟩))) (i := 21) rfl (by kernel_rfl) rfl (by decide) (on_none rfl) (fun wx hs => (x_nilCheck rfl)) hS ?_
    show WD Try.prog 124 _ _ _ _ 17 _ _ _
    refine WD_look (v := (.pointer (some ⟨gr, (i : Int).toNat * 1, none⟩))) (i := 22) rfl (by kernel_rfl) rfl (by decide) (on_none rfl) (fun wx hs => (x_index_row (i := i) rfl rfl Try.underlying60 ti57.sz (by omega) (by omega))) hS ?_
    show WD Try.prog 124 _ _ _ _ 16 _ _ _
    refine WD_look (v := (.int .u32 (nth kk i))) (i := 23) rfl (by kernel_rfl) rfl (by decide) (on_none rfl) (fun wx hs => (x_load_cell (v := .int .u32 (nth kk i)) rfl (cell_row (hs.1) (uv_nth (by omega) (by omega))) Try.underlying57 rfl)) hS ?_
    show WD Try.prog 124 _ _ _ _ 15 _ _ _
    refine WD_look (v := (.pointer (some ⟨gw, 0, none⟩))) (i := 25) rfl (by kernel_rfl) rfl (by decide) (on_none rfl) (fun wx hs => (x_mv (v := (.pointer (some ⟨gw, 0, none⟩))) rfl)) hS ?_
    show WD Try.prog 124 _ _ _ _ 14 _ _ _
    refine WD_look (v := (.int .i64 i)) (i := 26) rfl (by kernel_rfl) rfl (by decide) (on_none rfl) (fun wx hs => (x_mv (v := (.int .i64 i)) rfl)) hS ?_
    show WD Try.prog 124 _ _ _ _ 13 _ _ _
    refine WD_look (v := (.pointer (some ⟨gw, 0, none⟩))) (i := 27) rfl (by kernel_rfl) rfl (by decide) (on_none rfl) (fun wx hs => (x_nilCheck rfl)) hS ?_
    show WD Try.prog 124 _ _ _ _ 12 _ _ _
    refine WD_look (v := (.pointer (some ⟨gw, (i : Int).toNat * 1, none⟩))) (i := 28) rfl (by kernel_rfl) rfl (by decide) (on_none rfl) (fun wx hs => (x_index_row (i := i) rfl rfl Try.underlying60 ti57.sz (by omega) (by omega))) hS ?_
    show WD Try.prog 124 _ _ _ _ 11 _ _ _
    refine WD_look (v := (.int .u32 (nth ww i))) (i := 29) rfl (by kernel_rfl) rfl (by decide) (on_none rfl) (fun wx hs => (x_load_cell (v := .int .u32 (nth ww i)) rfl (cell_row (hs.2.1) (uv_nth (by omega) (by omega))) Try.underlying57 rfl)) hS ?_
    show WD Try.prog 124 _ _ _ _ 10 _ _ _
    refine WD_one (i := 2) rfl (by kernel_rfl) (WO_call (on_none rfl) rfl (by decide) (x_call2 Try.func40 rfl rfl rfl rfl rfl) (turn_c a4 6 (by decide) (by decide) _) ?_)
    rintro _ wc1 ⟨rfl, hb⟩
    refine ⟨_, rfl, ?_⟩
    replace S := S.keep hb
    clear hb
    replace hS : wc1.heap[gr]? = some (.cells (uv .u32 kk) 60 (0, 0)) ∧ wc1.heap[gw]? = some (.cells (uv .u32 ww) 60 (0, 0)) ∧ True := ⟨(S.old_blk hr), (S.old_blk hg), trivial⟩
    refine ⟨.inl hS, ?_⟩
    refine WD_one (i := 4) rfl (by kernel_rfl) (WO_call (on_none rfl) rfl (by decide) (x_call2 Try.func40 rfl rfl rfl rfl rfl) (turn_c a4 11 (by decide) (by decide) _) ?_)
    rintro _ wc2 ⟨rfl, hb⟩
    refine ⟨_, rfl, ?_⟩
    replace S := S.keep hb
    clear hb
    replace hS : wc2.heap[gr]? = some (.cells (uv .u32 kk) 60 (0, 0)) ∧ wc2.heap[gw]? = some (.cells (uv .u32 ww) 60 (0, 0)) ∧ True := ⟨(S.old_blk hr), (S.old_blk hg), trivial⟩
    refine ⟨.inl hS, ?_⟩
    refine WD_look (v := (.int .u32 (bitop .xor .u32 (rotl a4 (-6)) (rotl a4 (-11))))) (i := 5) rfl (by kernel_rfl) rfl (by decide) (on_none rfl) (fun wx hs => (x_xor (a := rotl a4 (-6)) (b := rotl a4 (-11)) rfl rfl)) hS ?_
    show WD Try.prog 124 _ _ _ _ 7 _ _ _
    refine WD_one (i := 7) rfl (by kernel_rfl) (WO_call (on_none rfl) rfl (by decide) (x_call2 Try.func40 rfl rfl rfl rfl rfl) (turn_c a4 25 (by decide) (by decide) _) ?_)
    rintro _ wc3 ⟨rfl, hb⟩
    refine ⟨_, rfl, ?_⟩
    replace S := S.keep hb
    clear hb
    replace hS : wc3.heap[gr]? = some (.cells (uv .u32 kk) 60 (0, 0)) ∧ wc3.heap[gw]? = some (.cells (uv .u32 ww) 60 (0, 0)) ∧ True := ⟨(S.old_blk hr), (S.old_blk hg), trivial⟩
    refine ⟨.inl hS, ?_⟩
    refine WD_look (v := (.int .u32 (bitop .xor .u32 (bitop .xor .u32 (rotl a4 (-6)) (rotl a4 (-11))) (rotl a4 (-25))))) (i := 8) rfl (by kernel_rfl) rfl (by decide) (on_none rfl) (fun wx hs => (x_xor (a := bitop .xor .u32 (rotl a4 (-6)) (rotl a4 (-11))) (b := rotl a4 (-25)) rfl rfl)) hS ?_
    show WD Try.prog 124 _ _ _ _ 5 _ _ _
    refine WD_look (v := (.int .u32 (IntKind.u32.wrap (a7 + (bitop .xor .u32 (bitop .xor .u32 (rotl a4 (-6)) (rotl a4 (-11))) (rotl a4 (-25))))))) (i := 9) rfl (by kernel_rfl) rfl (by decide) (on_none rfl) (fun wx hs => (x_addw rfl rfl)) hS ?_
    show WD Try.prog 124 _ _ _ _ 4 _ _ _
    refine WD_look (v := (.int .u32 (IntKind.u32.wrap ((IntKind.u32.wrap (a7 + (bitop .xor .u32 (bitop .xor .u32 (rotl a4 (-6)) (rotl a4 (-11))) (rotl a4 (-25))))) + (bitop .xor .u32 (bitop .and .u32 a4 a5) (bitop .and .u32 (compl .u32 a4) a6)))))) (i := 18) rfl (by kernel_rfl) rfl (by decide) (on_none rfl) (fun wx hs => (x_addw rfl rfl)) hS ?_
    show WD Try.prog 124 _ _ _ _ 3 _ _ _
    refine WD_look (v := (.int .u32 (IntKind.u32.wrap ((IntKind.u32.wrap ((IntKind.u32.wrap (a7 + (bitop .xor .u32 (bitop .xor .u32 (rotl a4 (-6)) (rotl a4 (-11))) (rotl a4 (-25))))) + (bitop .xor .u32 (bitop .and .u32 a4 a5) (bitop .and .u32 (compl .u32 a4) a6)))) + (nth kk i))))) (i := 24) rfl (by kernel_rfl) rfl (by decide) (on_none rfl) (fun wx hs => (x_addw rfl rfl)) hS ?_
    show WD Try.prog 124 _ _ _ _ 2 _ _ _
    refine WD_look (v := (.int .u32 (IntKind.u32.wrap ((IntKind.u32.wrap ((IntKind.u32.wrap ((IntKind.u32.wrap (a7 + (bitop .xor .u32 (bitop .xor .u32 (rotl a4 (-6)) (rotl a4 (-11))) (rotl a4 (-25))))) + (bitop .xor .u32 (bitop .and .u32 a4 a5) (bitop .and .u32 (compl .u32 a4) a6)))) + (nth kk i))) + (nth ww i))))) (i := 30) rfl (by kernel_rfl) rfl (by decide) (on_none rfl) (fun wx hs => (x_addw rfl rfl)) hS ?_
    show WD Try.prog 124 _ _ _ _ 1 _ _ _
    refine WD_look (v := (.int .u32 (IntKind.u32.wrap ((IntKind.u32.wrap ((IntKind.u32.wrap ((IntKind.u32.wrap (a7 + (bitop .xor .u32 (bitop .xor .u32 (rotl a4 (-6)) (rotl a4 (-11))) (rotl a4 (-25))))) + (bitop .xor .u32 (bitop .and .u32 a4 a5) (bitop .and .u32 (compl .u32 a4) a6)))) + (nth kk i))) + (nth ww i))))) (i := 31) rfl (by kernel_rfl) rfl (by decide) (on_none rfl) (fun wx hs => (x_as (v := (.int .u32 (IntKind.u32.wrap ((IntKind.u32.wrap ((IntKind.u32.wrap ((IntKind.u32.wrap (a7 + (bitop .xor .u32 (bitop .xor .u32 (rotl a4 (-6)) (rotl a4 (-11))) (rotl a4 (-25))))) + (bitop .xor .u32 (bitop .and .u32 a4 a5) (bitop .and .u32 (compl .u32 a4) a6)))) + (nth kk i))) + (nth ww i))))) rfl)) hS ?_
    show WD Try.prog 124 _ _ _ _ 0 _ _ _
    refine WD_done (by kernel_rfl) ?_
    clear hS
    show WC Try.prog 124 _ _ _ _
    refine WC_seq ?_
    refine WC_region ?_
    refine WL_cons (WO_val (v := (.int .u32 a0)) (on_none rfl) rfl (by decide) (x_mv (v := (.int .u32 a0)) rfl) ?_)
    refine WL_cons (WO_call (on_none rfl) rfl (by decide) (x_call2 Try.func40 rfl rfl rfl rfl rfl) (turn_c a0 2 (by decide) (by decide) _) ?_)
    rintro _ wc4 ⟨rfl, hb⟩
    refine ⟨_, rfl, ?_⟩
    replace S := S.keep hb
    clear hb
    refine WL_cons (WO_val (v := (.int .u32 a0)) (on_none rfl) rfl (by decide) (x_mv (v := (.int .u32 a0)) rfl) ?_)
    refine WL_cons (WO_call (on_none rfl) rfl (by decide) (x_call2 Try.func40 rfl rfl rfl rfl rfl) (turn_c a0 13 (by decide) (by decide) _) ?_)
    rintro _ wc5 ⟨rfl, hb⟩
    refine ⟨_, rfl, ?_⟩
    replace S := S.keep hb
    clear hb
    refine WL_cons (WO_val (v := (.int .u32 (bitop .xor .u32 (rotl a0 (-2)) (rotl a0 (-13))))) (on_none rfl) rfl (by decide) (x_xor (a := rotl a0 (-2)) (b := rotl a0 (-13)) rfl rfl) ?_)
    refine WL_cons (WO_val (v := (.int .u32 a0)) (on_none rfl) rfl (by decide) (x_mv (v := (.int .u32 a0)) rfl) ?_)
    refine WL_cons (WO_call (on_none rfl) rfl (by decide) (x_call2 Try.func40 rfl rfl rfl rfl rfl) (turn_c a0 22 (by decide) (by decide) _) ?_)
    rintro _ wc6 ⟨rfl, hb⟩
    refine ⟨_, rfl, ?_⟩
    replace S := S.keep hb
    clear hb
    refine WL_cons (WO_val (v := (.int .u32 (bitop .xor .u32 (bitop .xor .u32 (rotl a0 (-2)) (rotl a0 (-13))) (rotl a0 (-22))))) (on_none rfl) rfl (by decide) (x_xor (a := bitop .xor .u32 (rotl a0 (-2)) (rotl a0 (-13))) (b := rotl a0 (-22)) rfl rfl) ?_)
    refine WL_cons (WO_val (v := (.int .u32 a0)) (on_none rfl) rfl (by decide) (x_mv (v := (.int .u32 a0)) rfl) ?_)
    refine WL_cons (WO_val (v := (.int .u32 a1)) (on_none rfl) rfl (by decide) (x_mv (v := (.int .u32 a1)) rfl) ?_)
    refine WL_cons (WO_val (v := (.int .u32 (bitop .and .u32 a0 a1))) (on_none rfl) rfl (by decide) (x_and (a := a0) (b := a1) rfl rfl) ?_)
    refine WL_cons (WO_val (v := (.int .u32 a0)) (on_none rfl) rfl (by decide) (x_mv (v := (.int .u32 a0)) rfl) ?_)
    refine WL_cons (WO_val (v := (.int .u32 a2)) (on_none rfl) rfl (by decide) (x_mv (v := (.int .u32 a2)) rfl) ?_)
    refine WL_cons (WO_val (v := (.int .u32 (bitop .and .u32 a0 a2))) (on_none rfl) rfl (by decide) (x_and (a := a0) (b := a2) rfl rfl) ?_)
    refine WL_cons (WO_val (v := (.int .u32 (bitop .xor .u32 (bitop .and .u32 a0 a1) (bitop .and .u32 a0 a2)))) (on_none rfl) rfl (by decide) (x_xor (a := bitop .and .u32 a0 a1) (b := bitop .and .u32 a0 a2) rfl rfl) ?_)
    refine WL_cons (WO_val (v := (.int .u32 a1)) (on_none rfl) rfl (by decide) (x_mv (v := (.int .u32 a1)) rfl) ?_)
    refine WL_cons (WO_val (v := (.int .u32 a2)) (on_none rfl) rfl (by decide) (x_mv (v := (.int .u32 a2)) rfl) ?_)
    refine WL_cons (WO_val (v := (.int .u32 (bitop .and .u32 a1 a2))) (on_none rfl) rfl (by decide) (x_and (a := a1) (b := a2) rfl rfl) ?_)
    refine WL_cons (WO_val (v := (.int .u32 (bitop .xor .u32 (bitop .xor .u32 (bitop .and .u32 a0 a1) (bitop .and .u32 a0 a2)) (bitop .and .u32 a1 a2)))) (on_none rfl) rfl (by decide) (x_xor (a := bitop .xor .u32 (bitop .and .u32 a0 a1) (bitop .and .u32 a0 a2)) (b := bitop .and .u32 a1 a2) rfl rfl) ?_)
    refine WL_cons (WO_val (v := (.int .u32 (IntKind.u32.wrap ((bitop .xor .u32 (bitop .xor .u32 (rotl a0 (-2)) (rotl a0 (-13))) (rotl a0 (-22))) + (bitop .xor .u32 (bitop .xor .u32 (bitop .and .u32 a0 a1) (bitop .and .u32 a0 a2)) (bitop .and .u32 a1 a2)))))) (on_none rfl) rfl (by decide) (x_addw rfl rfl) ?_)
    refine WL_cons (WO_val (v := (.int .u32 (IntKind.u32.wrap ((bitop .xor .u32 (bitop .xor .u32 (rotl a0 (-2)) (rotl a0 (-13))) (rotl a0 (-22))) + (bitop .xor .u32 (bitop .xor .u32 (bitop .and .u32 a0 a1) (bitop .and .u32 a0 a2)) (bitop .and .u32 a1 a2)))))) (on_none rfl) rfl (by decide) (x_as (v := (.int .u32 (IntKind.u32.wrap ((bitop .xor .u32 (bitop .xor .u32 (rotl a0 (-2)) (rotl a0 (-13))) (rotl a0 (-22))) + (bitop .xor .u32 (bitop .xor .u32 (bitop .and .u32 a0 a1) (bitop .and .u32 a0 a2)) (bitop .and .u32 a1 a2)))))) rfl) ?_)
    refine WL_nil ?_
    show WC Try.prog 124 _ _ _ _
    refine WC_region ?_
    refine WL_cons (WO_val (v := (.int .u32 (IntKind.u32.wrap ((IntKind.u32.wrap ((IntKind.u32.wrap ((IntKind.u32.wrap (a7 + (bitop .xor .u32 (bitop .xor .u32 (rotl a4 (-6)) (rotl a4 (-11))) (rotl a4 (-25))))) + (bitop .xor .u32 (bitop .and .u32 a4 a5) (bitop .and .u32 (compl .u32 a4) a6)))) + (nth kk i))) + (nth ww i))))) (on_none rfl) rfl (by decide) (x_mv (v := (.int .u32 (IntKind.u32.wrap ((IntKind.u32.wrap ((IntKind.u32.wrap ((IntKind.u32.wrap (a7 + (bitop .xor .u32 (bitop .xor .u32 (rotl a4 (-6)) (rotl a4 (-11))) (rotl a4 (-25))))) + (bitop .xor .u32 (bitop .and .u32 a4 a5) (bitop .and .u32 (compl .u32 a4) a6)))) + (nth kk i))) + (nth ww i))))) rfl) ?_)
    refine WL_cons (WO_val (v := (.int .u32 (IntKind.u32.wrap ((bitop .xor .u32 (bitop .xor .u32 (rotl a0 (-2)) (rotl a0 (-13))) (rotl a0 (-22))) + (bitop .xor .u32 (bitop .xor .u32 (bitop .and .u32 a0 a1) (bitop .and .u32 a0 a2)) (bitop .and .u32 a1 a2)))))) (on_none rfl) rfl (by decide) (x_mv (v := (.int .u32 (IntKind.u32.wrap ((bitop .xor .u32 (bitop .xor .u32 (rotl a0 (-2)) (rotl a0 (-13))) (rotl a0 (-22))) + (bitop .xor .u32 (bitop .xor .u32 (bitop .and .u32 a0 a1) (bitop .and .u32 a0 a2)) (bitop .and .u32 a1 a2)))))) rfl) ?_)
    refine WL_cons (WO_val (v := (.int .u32 (IntKind.u32.wrap ((IntKind.u32.wrap ((IntKind.u32.wrap ((IntKind.u32.wrap ((IntKind.u32.wrap (a7 + (bitop .xor .u32 (bitop .xor .u32 (rotl a4 (-6)) (rotl a4 (-11))) (rotl a4 (-25))))) + (bitop .xor .u32 (bitop .and .u32 a4 a5) (bitop .and .u32 (compl .u32 a4) a6)))) + (nth kk i))) + (nth ww i))) + (IntKind.u32.wrap ((bitop .xor .u32 (bitop .xor .u32 (rotl a0 (-2)) (rotl a0 (-13))) (rotl a0 (-22))) + (bitop .xor .u32 (bitop .xor .u32 (bitop .and .u32 a0 a1) (bitop .and .u32 a0 a2)) (bitop .and .u32 a1 a2)))))))) (on_none rfl) rfl (by decide) (x_addw rfl rfl) ?_)
    refine WL_cons (WO_val (v := (.int .u32 a0)) (on_none rfl) rfl (by decide) (x_mv (v := (.int .u32 a0)) rfl) ?_)
    refine WL_cons (WO_val (v := (.int .u32 a1)) (on_none rfl) rfl (by decide) (x_mv (v := (.int .u32 a1)) rfl) ?_)
    refine WL_cons (WO_val (v := (.int .u32 a2)) (on_none rfl) rfl (by decide) (x_mv (v := (.int .u32 a2)) rfl) ?_)
    refine WL_cons (WO_val (v := (.int .u32 a3)) (on_none rfl) rfl (by decide) (x_mv (v := (.int .u32 a3)) rfl) ?_)
    refine WL_cons (WO_val (v := (.int .u32 (IntKind.u32.wrap ((IntKind.u32.wrap ((IntKind.u32.wrap ((IntKind.u32.wrap (a7 + (bitop .xor .u32 (bitop .xor .u32 (rotl a4 (-6)) (rotl a4 (-11))) (rotl a4 (-25))))) + (bitop .xor .u32 (bitop .and .u32 a4 a5) (bitop .and .u32 (compl .u32 a4) a6)))) + (nth kk i))) + (nth ww i))))) (on_none rfl) rfl (by decide) (x_mv (v := (.int .u32 (IntKind.u32.wrap ((IntKind.u32.wrap ((IntKind.u32.wrap ((IntKind.u32.wrap (a7 + (bitop .xor .u32 (bitop .xor .u32 (rotl a4 (-6)) (rotl a4 (-11))) (rotl a4 (-25))))) + (bitop .xor .u32 (bitop .and .u32 a4 a5) (bitop .and .u32 (compl .u32 a4) a6)))) + (nth kk i))) + (nth ww i))))) rfl) ?_)
    refine WL_cons (WO_val (v := (.int .u32 (IntKind.u32.wrap (a3 + (IntKind.u32.wrap ((IntKind.u32.wrap ((IntKind.u32.wrap ((IntKind.u32.wrap (a7 + (bitop .xor .u32 (bitop .xor .u32 (rotl a4 (-6)) (rotl a4 (-11))) (rotl a4 (-25))))) + (bitop .xor .u32 (bitop .and .u32 a4 a5) (bitop .and .u32 (compl .u32 a4) a6)))) + (nth kk i))) + (nth ww i))))))) (on_none rfl) rfl (by decide) (x_addw rfl rfl) ?_)
    refine WL_cons (WO_val (v := (.int .u32 a4)) (on_none rfl) rfl (by decide) (x_mv (v := (.int .u32 a4)) rfl) ?_)
    refine WL_cons (WO_val (v := (.int .u32 a5)) (on_none rfl) rfl (by decide) (x_mv (v := (.int .u32 a5)) rfl) ?_)
    refine WL_cons (WO_val (v := (.int .u32 a6)) (on_none rfl) rfl (by decide) (x_mv (v := (.int .u32 a6)) rfl) ?_)
    refine WL_cons (WO_val (v := (.int .u32 (IntKind.u32.wrap ((IntKind.u32.wrap ((IntKind.u32.wrap ((IntKind.u32.wrap ((IntKind.u32.wrap (a7 + (bitop .xor .u32 (bitop .xor .u32 (rotl a4 (-6)) (rotl a4 (-11))) (rotl a4 (-25))))) + (bitop .xor .u32 (bitop .and .u32 a4 a5) (bitop .and .u32 (compl .u32 a4) a6)))) + (nth kk i))) + (nth ww i))) + (IntKind.u32.wrap ((bitop .xor .u32 (bitop .xor .u32 (rotl a0 (-2)) (rotl a0 (-13))) (rotl a0 (-22))) + (bitop .xor .u32 (bitop .xor .u32 (bitop .and .u32 a0 a1) (bitop .and .u32 a0 a2)) (bitop .and .u32 a1 a2)))))))) (on_none rfl) rfl (by decide) (x_as (v := (.int .u32 (IntKind.u32.wrap ((IntKind.u32.wrap ((IntKind.u32.wrap ((IntKind.u32.wrap ((IntKind.u32.wrap (a7 + (bitop .xor .u32 (bitop .xor .u32 (rotl a4 (-6)) (rotl a4 (-11))) (rotl a4 (-25))))) + (bitop .xor .u32 (bitop .and .u32 a4 a5) (bitop .and .u32 (compl .u32 a4) a6)))) + (nth kk i))) + (nth ww i))) + (IntKind.u32.wrap ((bitop .xor .u32 (bitop .xor .u32 (rotl a0 (-2)) (rotl a0 (-13))) (rotl a0 (-22))) + (bitop .xor .u32 (bitop .xor .u32 (bitop .and .u32 a0 a1) (bitop .and .u32 a0 a2)) (bitop .and .u32 a1 a2)))))))) rfl) ?_)
    refine WL_cons (WO_val (v := (.int .u32 a0)) (on_none rfl) rfl (by decide) (x_as (v := (.int .u32 a0)) rfl) ?_)
    refine WL_cons (WO_val (v := (.int .u32 a1)) (on_none rfl) rfl (by decide) (x_as (v := (.int .u32 a1)) rfl) ?_)
    refine WL_cons (WO_val (v := (.int .u32 a2)) (on_none rfl) rfl (by decide) (x_as (v := (.int .u32 a2)) rfl) ?_)
    refine WL_cons (WO_val (v := (.int .u32 (IntKind.u32.wrap (a3 + (IntKind.u32.wrap ((IntKind.u32.wrap ((IntKind.u32.wrap ((IntKind.u32.wrap (a7 + (bitop .xor .u32 (bitop .xor .u32 (rotl a4 (-6)) (rotl a4 (-11))) (rotl a4 (-25))))) + (bitop .xor .u32 (bitop .and .u32 a4 a5) (bitop .and .u32 (compl .u32 a4) a6)))) + (nth kk i))) + (nth ww i))))))) (on_none rfl) rfl (by decide) (x_as (v := (.int .u32 (IntKind.u32.wrap (a3 + (IntKind.u32.wrap ((IntKind.u32.wrap ((IntKind.u32.wrap ((IntKind.u32.wrap (a7 + (bitop .xor .u32 (bitop .xor .u32 (rotl a4 (-6)) (rotl a4 (-11))) (rotl a4 (-25))))) + (bitop .xor .u32 (bitop .and .u32 a4 a5) (bitop .and .u32 (compl .u32 a4) a6)))) + (nth kk i))) + (nth ww i))))))) rfl) ?_)
    refine WL_cons (WO_val (v := (.int .u32 a4)) (on_none rfl) rfl (by decide) (x_as (v := (.int .u32 a4)) rfl) ?_)
    refine WL_cons (WO_val (v := (.int .u32 a5)) (on_none rfl) rfl (by decide) (x_as (v := (.int .u32 a5)) rfl) ?_)
    refine WL_cons (WO_val (v := (.int .u32 a6)) (on_none rfl) rfl (by decide) (x_as (v := (.int .u32 a6)) rfl) ?_)
    refine WL_nil ?_
    show WC Try.prog 124 _ _ _ _
    refine WC_region ?_
    refine WL_cons (WO_val (v := (.int .i64 (i + 1))) (on_none rfl) rfl (by decide) (x_add (a := i) (b := 1) rfl rfl (wi64 (by omega))) ?_)
    refine WL_cons (WO_val (v := (.int .i64 (i + 1))) (on_none rfl) rfl (by decide) (x_mv (v := (.int .i64 (i + 1))) rfl) ?_)
    refine WL_nil ?_
    refine ⟨_, ?_, f, i + 1, _, _, _, _, _, _, _, _, _, (updL_eq _ _ (by exact ⟨rfl, rfl, rfl, rfl, rfl, rfl, rfl, rfl, rfl, rfl, rfl, rfl, rfl, trivial⟩)).symm, S, (by omega), (by omega), hF, rfl⟩
    exact Nat.lt_succ_self f
  · show WC Try.prog 124 _ _ _ _
    have hc1_ := of_decide_eq_false hc1
    obtain rfl : f = 0 := by omega
    have hE : (a0, a1, a2, a3, a4, a5, a6, a7) = goesF kk ww 64 0 (nth v 0, nth v 1, nth v 2, nth v 3, nth v 4, nth v 5, nth v 6, nth v 7) := (show goesF kk ww 0 i (a0, a1, a2, a3, a4, a5, a6, a7) = (a0, a1, a2, a3, a4, a5, a6, a7) from rfl).symm.trans hF
    clear hF
    obtain ⟨l, hl, hl8⟩ : ∃ l : List Int, l = [a0, a1, a2, a3, a4, a5, a6, a7] ∧ l.length = 8 := ⟨_, rfl, rfl⟩
    refine WC_exit ?_
    show WC Try.prog 124 _ _ _ _
    refine WC_seq ?_
    refine WC_seq ?_
    refine WC_region ?_
    refine WL_cons (WO_val (v := (.int .u32 a0)) (on_none rfl) rfl (by decide) (x_mv (v := (.int .u32 a0)) rfl) ?_)
    refine WL_cons (WO_val (v := (.int .u32 a1)) (on_none rfl) rfl (by decide) (x_mv (v := (.int .u32 a1)) rfl) ?_)
    refine WL_cons (WO_val (v := (.int .u32 a2)) (on_none rfl) rfl (by decide) (x_mv (v := (.int .u32 a2)) rfl) ?_)
    refine WL_cons (WO_val (v := (.int .u32 a3)) (on_none rfl) rfl (by decide) (x_mv (v := (.int .u32 a3)) rfl) ?_)
    refine WL_cons (WO_val (v := (.int .u32 a4)) (on_none rfl) rfl (by decide) (x_mv (v := (.int .u32 a4)) rfl) ?_)
    refine WL_cons (WO_val (v := (.int .u32 a5)) (on_none rfl) rfl (by decide) (x_mv (v := (.int .u32 a5)) rfl) ?_)
    refine WL_cons (WO_val (v := (.int .u32 a6)) (on_none rfl) rfl (by decide) (x_mv (v := (.int .u32 a6)) rfl) ?_)
    refine WL_cons (WO_val (v := (.int .u32 a7)) (on_none rfl) rfl (by decide) (x_mv (v := (.int .u32 a7)) rfl) ?_)
    refine WL_cons (WO_val (v := (.agg (uv .u32 l))) (on_none rfl) rfl (by decide) (x_build_arr (vs := [(.int .u32 a0), (.int .u32 a1), (.int .u32 a2), (.int .u32 a3), (.int .u32 a4), (.int .u32 a5), (.int .u32 a6), (.int .u32 a7)]) (row := uv .u32 l) Try.underlying58 ti57.sz ti58 ((uv_size _ _).trans (by rfl)) rfl (by simp [Value.cells]) (by rw [hl]; rfl)) ?_)
    refine WL_cons (WO_val (v := (.int .i64 0)) (on_none rfl) rfl (by decide) (x_mv (v := (.int .i64 0)) rfl) ?_)
    refine WL_nil ?_
    show WC Try.prog 124 _ _ _ _
    refine WC_block ?_
    refine WC_loop (fun kq e' w' => ∃ (f2 : Nat) (i2 : Int) (u : List Int) (eb : Env), e' = updL eb [(3, (.pointer (some ⟨g1, 0, none⟩))), (6, (.pointer (some ⟨g2, 0, none⟩))), (111, (.agg (uv .u32 l))), (112, (.int .i64 i2))] ∧ SL w [blk g2 58 (uv .u32 (List.replicate 8 0)), blk g1 58 (uv .u32 u)] w' ∧ (i2 + (f2 : Int) = 8) ∧ (0 ≤ i2) ∧ (u.length = 8) ∧ (goesVF l f2 i2 (u) = goesVF l 8 0 (v)) ∧ f2 = kq) (k := 8) ⟨8, 0, v, _, (updL_eq _ _ (by exact ⟨rfl, rfl, rfl, rfl, trivial⟩)).symm, S, (by omega), (by omega), hv_, rfl, rfl⟩ ?_
    clear S
    rintro k2 e2 wl2 ⟨f2, i2, u, eb, rfl, S, hif2, hi02, hu, hF2, rfl⟩
    show WC Try.prog 124 _ _ _ _
    refine WC_seq ?_
    refine WC_region ?_
    refine WL_cons (WO_val (v := (.bool (decide (i2 < 8)))) (on_none rfl) rfl (by decide) (x_lss (a := i2) (b := 8) rfl rfl) ?_)
    refine WL_nil ?_
    show WC Try.prog 124 _ _ _ _
    refine WC_seq ?_
    refine WC_cond (t := decide (i2 < 8)) rfl (fun hc2 => ?_) (fun hc2 => ?_)
    · show WC Try.prog 124 _ _ _ _
      have hc2_ := of_decide_eq_true hc2
      obtain ⟨f2, rfl⟩ : ∃ m, f2 = m + 1 := ⟨f2 - 1, by omega⟩
      refine WC_skip ?_
      show WC Try.prog 124 _ _ _ _
      refine WC_seq ?_
      refine WC_block ?_
      refine WC_seq ?_
      refine WC_region ?_
      refine WL_cons (WO_val (v := (.int .i64 i2)) (on_none rfl) rfl (by decide) (x_mv (v := (.int .i64 i2)) rfl) ?_)
      refine WL_cons (WO_val (v := (.int .u32 (nth l i2))) (on_none rfl) rfl (by decide) (x_index_uv (i := i2) rfl rfl Try.underlying58 ti57.sz Try.underlying57 (by omega) (by omega) hl8) ?_)
      refine WL_cons (WO_val (v := (.int .i64 i2)) (on_none rfl) rfl (by decide) (x_as (v := (.int .i64 i2)) rfl) ?_)
      refine WL_cons (WO_val (v := (.int .u32 (nth l i2))) (on_none rfl) rfl (by decide) (x_as (v := (.int .u32 (nth l i2))) rfl) ?_)
      refine WL_nil ?_
      show WC Try.prog 124 _ _ _ _
      refine WC_region ?_
      refine WL_cons (WO_val (v := (.int .i64 i2)) (on_none rfl) rfl (by decide) (x_mv (v := (.int .i64 i2)) rfl) ?_)
      refine WL_cons (WO_val (v := (.pointer (some ⟨g1, (i2 : Int).toNat * 1, none⟩))) (on_none rfl) rfl (by decide) (x_index_row (i := i2) rfl rfl Try.underlying58 ti57.sz (by omega) (by omega)) ?_)
      refine WL_cons (WO_val (v := (.int .u32 (nth u i2))) (on_none rfl) rfl (by decide) (x_load_cell (v := .int .u32 (nth u i2)) rfl (cell_row (S.blk_get (.there _ (.here _))) (uv_nth (by omega) (by omega))) Try.underlying57 rfl) ?_)
      refine WL_cons (WO_val (v := (.int .u32 (nth l i2))) (on_none rfl) rfl (by decide) (x_mv (v := (.int .u32 (nth l i2))) rfl) ?_)
      refine WL_cons (WO_val (v := (.int .u32 (IntKind.u32.wrap ((nth u i2) + (nth l i2))))) (on_none rfl) rfl (by decide) (x_addw rfl rfl) ?_)
      refine WL_cons (WO_val (v := (.pointer (some ⟨g1, (i2 : Int).toNat * 1, none⟩))) (on_none rfl) rfl (by decide) (x_index_row (i := i2) rfl rfl Try.underlying58 ti57.sz (by omega) (by omega)) ?_)
      refine WL_cons (WO_store (v := (.int .u32 (IntKind.u32.wrap ((nth u i2) + (nth l i2))))) (row := uv .u32 u) (row' := uv .u32 (nset u i2 (IntKind.u32.wrap ((nth u i2) + (nth l i2))))) S (on_none rfl) rfl rfl (.there _ (.here _)) ti57.sz rfl (by rw [uv_size]; omega) (by simp [Value.cells, Value.oneCell']) (splice_uv (by omega) (by omega)) ?_)
      intro ws1 S
      refine WL_nil ?_
      show WC Try.prog 124 _ _ _ _
      refine WC_region ?_
      refine WL_cons (WO_val (v := (.int .i64 (i2 + 1))) (on_none rfl) rfl (by decide) (x_add (a := i2) (b := 1) rfl rfl (wi64 (by omega))) ?_)
      refine WL_cons (WO_val (v := (.int .i64 (i2 + 1))) (on_none rfl) rfl (by decide) (x_mv (v := (.int .i64 (i2 + 1))) rfl) ?_)
      refine WL_nil ?_
      refine ⟨_, ?_, f2, i2 + 1, _, _, (updL_eq _ _ (by exact ⟨rfl, rfl, rfl, rfl, trivial⟩)).symm, S, (by omega), (by omega), ((nset_length _ _ _).trans hu), hF2, rfl⟩
      exact Nat.lt_succ_self f2
    · show WC Try.prog 124 _ _ _ _
      have hc2_ := of_decide_eq_false hc2
      obtain rfl : f2 = 0 := by omega
      refine WC_exit ?_
      show WC Try.prog 124 _ _ _ _
      refine WC_seq ?_
      refine WC_region ?_
      refine WL_cons (WO_val (v := (.agg (uv .u32 u))) (on_none rfl) rfl (by decide) (x_load_row rfl (S.blk_get (.there _ (.here _))) Try.underlying58 rfl ti58.sz ((uv_size _ _).trans (by first | assumption | simp))) ?_)
      refine WL_cons (WO_store (v := (.agg (uv .u32 u))) (row := uv .u32 (List.replicate 8 0)) (row' := uv .u32 u) S (on_none rfl) rfl rfl (.here _) ti58.sz ((uv_size _ _).trans (by first | assumption | simp)) (by rw [show (uv .u32 (List.replicate 8 0)).size = 8 from ((uv_size _ _).trans (by first | assumption | simp))]; exact Nat.le_refl _) (uv_one _ _) (splice_all _ _ ((((uv_size _ _).trans (by first | assumption | simp))).trans (((uv_size _ _).trans (by first | assumption | simp))).symm)) ?_)
      intro ws2 S
      refine WL_nil ?_
      show WC Try.prog 124 _ _ _ _
      refine WC_ret ?_
      show retQ Try.prog Try.f34 _ .ret _ _
      exact retc (fn := Try.f34) S rfl rfl (.here _) Try.underlying58 rfl (by rw [((uv_size _ _).trans hu)]; exact ti58.sz) ⟨by rw [goesS, ← hE, (show u = goesVF l 8 0 v from (show goesVF l 0 i2 u = u from rfl).symm.trans hF2), hl]; rfl, S.below⟩
end Go.Proofs.Ytjlbkbfnmcppeaa.Sl

/-
  What calls of the program's functions come to (part T4): each function walked once; the conditions stand in each theorem.
-/
import Derived.Test.YtjlbkbfnmcppeaaT3
set_option maxHeartbeats 2000000
set_option linter.unusedSimpArgs false
set_option linter.unusedVariables false
set_option maxRecDepth 100000
namespace Go.Proofs.Ytjlbkbfnmcppeaa.Sl
open Go Go.RowKit
attribute [local irreducible] ofH sumH eightF putT ofL bitop

theorem besL_le (i : Int) (r : List H) : (besL i r).length ≤ 1 := by
  unfold besL
  split <;> simp
theorem SL.new_nil {w0 w : World} {L : List Chk} {α : Type} {rp : Rp α} {size : Nat} (S : SL w0 L w) : New w0 w (slc rp size) (.slice none 0 0) ([] : List α) := ⟨S.below, none, 0, 0, rfl, rfl, Nat.le_refl _, Nat.zero_le _, fun h => absurd h (by omega)⟩

theorem prove1_c {w0 w : World} {M : List Chk} {gi go : Nat} {A B : Option Addr} {m c d : Nat} {i : Int} {xs row : List H} (h0 : 0 ≤ i) (h1 : i ≤ 1048576) (hxs : xs.length ≤ 1048576) (S : SL w0 ([blk gi 3 (#[(.int .i64 i)]), blk go 22 (#[(.slice A m c)]), own hv 26 32 (.slice A m c) xs, val (slc (pur hv) 32) (.slice B row.length d) row] ++ M) w) :
    Calls Try.prog 15 #[(.slice B row.length d), (.pointer (some ⟨gi, 0, none⟩)), (.pointer (some ⟨go, 0, none⟩))] w (fun e w' => ∃ A' m' c', e = .returned (.tuple #[]) ∧ SL w0 ([blk gi 3 (#[(.int .i64 (i / 2))]), blk go 22 (#[(.slice A' m' c')]), own hv 26 32 (.slice A' m' c') (xs ++ besL i row), val (slc (pur hv) 32) (.slice B row.length d) row] ++ M) w') := by
  have hox := xor1_nn i h0 (by omega)
  refine calls_WC (c := _) (n := 20) (vs := [(.slice B row.length d), (.pointer (some ⟨gi, 0, none⟩)), (.pointer (some ⟨go, 0, none⟩))]) Try.func15 rfl Try.ntmps15 (Nat.le_of_ble_eq_true rfl) ?_
  have S := S
  refine WC_seq ?_
  refine WC_seq ?_
  refine WC_region ?_
  refine WL_cons (WO_val (v := (.int .i64 i)) (on_none rfl) rfl (by decide) (x_load_cell (v := (.int .i64 i)) rfl (cell_row (S.blk_get (.here _)) rfl) Try.underlying3 rfl) ?_)
  refine WL_cons (WO_val (v := (.int .i64 (bitop .xor .i64 i 1))) (on_none rfl) rfl (by decide) (x_xor (a := i) (b := 1) rfl rfl) ?_)
  refine WL_cons (WO_val (v := (.int .i64 (bitop .xor .i64 i 1))) (on_none rfl) rfl (by decide) (x_as (v := (.int .i64 (bitop .xor .i64 i 1))) rfl) ?_)
  refine WL_nil ?_
  show WC Try.prog 20 _ _ _ _
  refine WC_seq ?_
  refine WC_region ?_
  refine WL_cons (WO_val (v := (.int .i64 (bitop .xor .i64 i 1))) (on_none rfl) rfl (by decide) (x_mv (v := (.int .i64 (bitop .xor .i64 i 1))) rfl) ?_)
  refine WL_cons (WO_val (v := (.slice B row.length d)) (on_none rfl) rfl (by decide) (x_mv (v := (.slice B row.length d)) rfl) ?_)
  refine WL_cons (WO_val (v := (.int .i64 ((row.length : Nat) : Int))) (on_none rfl) rfl (by decide) (x_len_slc rfl Try.underlying22) ?_)
  refine WL_cons (WO_val (v := (.bool (decide (bitop .xor .i64 i 1 < ((row.length : Nat) : Int))))) (on_none rfl) rfl (by decide) (x_lss (a := bitop .xor .i64 i 1) (b := ((row.length : Nat) : Int)) rfl rfl) ?_)
  refine WL_nil ?_
  show WC Try.prog 20 _ _ _ _
  refine WC_cond (t := decide (bitop .xor .i64 i 1 < ((row.length : Nat) : Int))) rfl (fun hc1 => ?_) (fun hc1 => ?_)
  · show WC Try.prog 20 _ _ _ _
    have hc1_ := of_decide_eq_true hc1
    refine WC_draw (S := fun wx => wx.heap[go]? = some (.cells (#[(.slice A m c)]) 22 (0, 0)) ∧ Has wx (slc (pur hv) 32) (.slice B row.length d) row ∧ True) (Z := [7]) rfl ?_
    replace S := S.drew
    have hS : (World.drew w).heap[go]? = some (.cells (#[(.slice A m c)]) 22 (0, 0)) ∧ Has (World.drew w) (slc (pur hv) 32) (.slice B row.length d) row ∧ True := ⟨(S.blk_get (.there _ (.here _))), (S.has (.there _ (.there _ (.there _ (.here _))))), trivial⟩
    show WD Try.prog 20 _ _ _ _ 8 [] _ _
    refine WD_look (v := (.slice A m c)) (i := 0) rfl (by kernel_rfl) rfl (by decide) (on_none rfl) (fun wx hs => (x_load_cell (v := (.slice A m c)) rfl (cell_row (hs.1) rfl) Try.underlying22 rfl)) hS ?_
    show WD Try.prog 20 _ _ _ _ 7 _ _ _
    refine WD_look (v := (.slice B row.length d)) (i := 1) rfl (by kernel_rfl) rfl (by decide) (on_none rfl) (fun wx hs => (x_mv (v := (.slice B row.length d)) rfl)) hS ?_
    show WD Try.prog 20 _ _ _ _ 6 _ _ _
    refine WD_look (v := (.int .i64 (bitop .xor .i64 i 1))) (i := 2) rfl (by kernel_rfl) rfl (by decide) (on_none rfl) (fun wx hs => (x_mv (v := (.int .i64 (bitop .xor .i64 i 1))) rfl)) hS ?_
    show WD Try.prog 20 _ _ _ _ 5 _ _ _
    refine WD_look (v := (eaddr B ((bitop .xor .i64 i 1 : Int).toNat * 32))) (i := 3) rfl (by kernel_rfl) rfl (by decide) (on_none rfl) (fun wx hs => (x_index_slc (i := bitop .xor .i64 i 1) rfl rfl Try.underlying22 ti26.sz (by omega) (by omega) (Has.some (hs.2.1) (by omega)))) hS ?_
    show WD Try.prog 20 _ _ _ _ 4 _ _ _
    refine WD_look (v := (.agg (hv (hat row (bitop .xor .i64 i 1))))) (i := 4) rfl (by kernel_rfl) rfl (by decide) (on_none rfl) (fun wx hs => (x_el (x := hat row (bitop .xor .i64 i 1)) (hs.2.1) (hat_some (by omega) (by omega)) rfl Try.underlying26 rfl ti26.sz)) hS ?_
    show WD Try.prog 20 _ _ _ _ 3 _ _ _
    refine WD_one (i := 5) rfl (by kernel_rfl) (WO_build (vs := [(.agg (hv (hat row (bitop .xor .i64 i 1))))]) (row := hv (hat row (bitop .xor .i64 i 1))) S (on_none rfl) (by decide) Try.underlying22 ti26 (hv_size _) rfl rfl (by simp [Value.cells, hv_size, bv_size, Hsz]) (by decide) (rowOf1 _) ?_)
    intro g1 wg1 S
    replace hS : wg1.heap[go]? = some (.cells (#[(.slice A m c)]) 22 (0, 0)) ∧ Has wg1 (slc (pur hv) 32) (.slice B row.length d) row ∧ True := ⟨(S.blk_get (.there _ (.there _ (.here _)))), (S.has (.there _ (.there _ (.there _ (.there _ (.here _)))))), trivial⟩
    refine ⟨.inl hS, ?_⟩
    refine WD_one (i := 6) rfl (by kernel_rfl) (WO_append (ys := [(hat row (bitop .xor .i64 i 1))]) S (on_none rfl) (by decide) rfl rfl (fun _ => (.there _ (.there _ (.there _ (.here _))))) (has_one (S.blk_get (.here _)) (hv_size _)) Try.underlying22 ti26 (hv_size _) (by decide) hvsz hv_one (by simp only [maxLen, List.length_cons, List.length_nil]; omega) (by simp only [maxLen, List.length_cons, List.length_nil]; omega) ?_)
    intro A1 c1 wa1 S
    replace hS : wa1.heap[go]? = some (.cells (#[(.slice A m c)]) 22 (0, 0)) ∧ Has wa1 (slc (pur hv) 32) (.slice B row.length d) row ∧ True := ⟨(S.blk_get (.there _ (.there _ (.here _)))), (S.has (.there _ (.there _ (.there _ (.there _ (.here _)))))), trivial⟩
    refine ⟨.inl hS, ?_⟩
    refine WD_one (i := 7) rfl (by kernel_rfl) (WO_store (v := (.slice A1 (xs.length + ([(hat row (bitop .xor .i64 i 1))]).length) c1)) (row := #[(.slice A m c)]) (row' := #[(.slice A1 (xs.length + ([(hat row (bitop .xor .i64 i 1))]).length) c1)]) S (on_none rfl) rfl rfl (.there _ (.there _ (.here _))) ti22.sz rfl (Nat.le_of_ble_eq_true rfl) (by simp [Value.cells, Value.oneCell']) rfl ?_)
    intro ws1 S
    refine ⟨.inr rfl, ?_⟩
    refine WD_done (by kernel_rfl) ?_
    clear hS
    show WC Try.prog 20 _ _ _ _
    refine WC_region ?_
    refine WL_cons (WO_val (v := (.int .i64 i)) (on_none rfl) rfl (by decide) (x_load_cell (v := (.int .i64 i)) rfl (cell_row (S.blk_get (.there _ (.here _))) rfl) Try.underlying3 rfl) ?_)
    refine WL_cons (WO_val (v := (.int .i64 (i / 2))) (on_none rfl) rfl (by decide) (x_quo (a := i) (b := 2) rfl rfl (by omega) (by omega) (wi64 (by omega))) ?_)
    refine WL_cons (WO_store (v := (.int .i64 (i / 2))) (row := #[(.int .i64 i)]) (row' := #[(.int .i64 (i / 2))]) S (on_none rfl) rfl rfl (.there _ (.here _)) ti3.sz rfl (Nat.le_of_ble_eq_true rfl) (by simp [Value.cells, Value.oneCell']) rfl ?_)
    intro ws2 S
    refine WL_nil ?_
    show retQ Try.prog Try.f15 _ .normal _ _
    have hb : besL i row = [hat row (bitop .xor .i64 i 1)] := if_pos hc1_
    replace S := S.drop (.here _)
    exact ret0n (fn := Try.f15) rfl ⟨_, _, _, rfl, by rw [hb]; exact S⟩
  · show WC Try.prog 20 _ _ _ _
    have hc1_ := of_decide_eq_false hc1
    refine WC_skip ?_
    show WC Try.prog 20 _ _ _ _
    refine WC_region ?_
    refine WL_cons (WO_val (v := (.int .i64 i)) (on_none rfl) rfl (by decide) (x_load_cell (v := (.int .i64 i)) rfl (cell_row (S.blk_get (.here _)) rfl) Try.underlying3 rfl) ?_)
    refine WL_cons (WO_val (v := (.int .i64 (i / 2))) (on_none rfl) rfl (by decide) (x_quo (a := i) (b := 2) rfl rfl (by omega) (by omega) (wi64 (by omega))) ?_)
    refine WL_cons (WO_store (v := (.int .i64 (i / 2))) (row := #[(.int .i64 i)]) (row' := #[(.int .i64 (i / 2))]) S (on_none rfl) rfl rfl (.here _) ti3.sz rfl (Nat.le_of_ble_eq_true rfl) (by simp [Value.cells, Value.oneCell']) rfl ?_)
    intro ws3 S
    refine WL_nil ?_
    show retQ Try.prog Try.f15 _ .normal _ _
    have hb : xs = xs ++ besL i row := by rw [show besL i row = [] from if_neg hc1_, List.append_nil]
    exact ret0n (fn := Try.f15) rfl ⟨_, _, _, rfl, by rw [← hb]; exact S⟩

theorem rowsp_c {w0 w : World} {M : List Chk} {gi go : Nat} {A : Option Addr} {c n : Nat} {pl : Int} (l : List H) (hz : l.length ≤ 1048576) (h0 : 0 ≤ pl) (h1 : pl < l.length) (hP : Has w0 (slc (pur hv) 32) (.slice A n c) l) (S : SL w0 ([blk gi 3 (#[(.int .i64 pl)]), blk go 22 (#[(.slice none 0 0)]), own hv 26 32 (.slice none 0 0) ([])] ++ M) w) :
    Calls Try.prog 14 #[(.slice A l.length c), (.func (.func 15) #[] #[(.pointer (some ⟨gi, 0, none⟩)), (.pointer (some ⟨go, 0, none⟩))])] w (fun e w' => ∃ A' m' c' i', e = .returned (.agg (hv (topH l))) ∧ SL w0 ([blk gi 3 (#[(.int .i64 i')]), blk go 22 (#[(.slice A' m' c')]), own hv 26 32 (.slice A' m' c') (proofL pl (l.map leafH))] ++ M) w') := by
  obtain ⟨rfl, hnc, hcm⟩ := hP.len
  have hne : decide (((l.length : Nat) : Int) = 0) = false := decide_eq_false (by omega)
  refine calls_WC (c := _) (n := 39) (vs := [(.slice A l.length c), (.func (.func 15) #[] #[(.pointer (some ⟨gi, 0, none⟩)), (.pointer (some ⟨go, 0, none⟩))])]) Try.func14 rfl Try.ntmps14 (Nat.le_of_ble_eq_true rfl) ?_
  have S := S
  refine WC_seq ?_
  refine WC_region ?_
  refine WL_cons (WO_alloc (row := hv zeroH) S (on_none rfl) (by decide) ti26 rfl ?_)
  intro g1 wg1 S
  refine WL_nil ?_
  show WC Try.prog 39 _ _ _ _
  refine WC_seq ?_
  refine WC_seq ?_
  refine WC_region ?_
  refine WL_cons (WO_val (v := (.slice A l.length c)) (on_none rfl) rfl (by decide) (x_mv (v := (.slice A l.length c)) rfl) ?_)
  refine WL_cons (WO_val (v := (.int .i64 ((l.length : Nat) : Int))) (on_none rfl) rfl (by decide) (x_len_slc rfl Try.underlying22) ?_)
  refine WL_cons (WO_val (v := (.bool (decide (((l.length : Nat) : Int) = 0)))) (on_none rfl) rfl (by decide) (x_eql (a := ((l.length : Nat) : Int)) (b := 0) rfl rfl) ?_)
  refine WL_nil ?_
  show WC Try.prog 39 _ _ _ _
  refine WC_cond (t := false) (congrArg Value.bool hne) (fun h => by cases h) (fun _ => ?_)
  show WC Try.prog 39 _ _ _ _
  refine WC_skip ?_
  show WC Try.prog 39 _ _ _ _
  refine WC_seq ?_
  refine WC_region ?_
  refine WL_cons (WO_val (v := (.slice A l.length c)) (on_none rfl) rfl (by decide) (x_mv (v := (.slice A l.length c)) rfl) ?_)
  refine WL_cons (WO_val (v := (.int .i64 ((l.length : Nat) : Int))) (on_none rfl) rfl (by decide) (x_len_slc rfl Try.underlying22) ?_)
  refine WL_cons (WO_make_full (enc := hv) (c := ((l.length : Nat) : Int)) (x0 := zeroH) S (on_none rfl) (by decide) rfl rfl rfl (by omega) (by decide) rfl (hvsz _) Try.underlying22 ti26 (by omega) (by omega) ?_)
  intro g2 wg2 S
  refine WL_cons (WO_val (v := (.slice (some ⟨g2, 0, none⟩) ((((l.length : Nat) : Int) : Int).toNat) ((((l.length : Nat) : Int) : Int).toNat))) (on_none rfl) rfl (by decide) (x_as (v := (.slice (some ⟨g2, 0, none⟩) ((((l.length : Nat) : Int) : Int).toNat) ((((l.length : Nat) : Int) : Int).toNat))) rfl) ?_)
  refine WL_nil ?_
  show WC Try.prog 39 _ _ _ _
  refine WC_seq ?_
  refine WC_seq ?_
  refine WC_region ?_
  refine WL_cons (WO_val (v := (.slice A l.length c)) (on_none rfl) rfl (by decide) (x_mv (v := (.slice A l.length c)) rfl) ?_)
  refine WL_cons (WO_val (v := (.int .i64 ((l.length : Nat) : Int))) (on_none rfl) rfl (by decide) (x_len_slc rfl Try.underlying22) ?_)
  refine WL_cons (WO_val (v := (.int .i64 0)) (on_none rfl) rfl (by decide) (x_mv (v := (.int .i64 0)) rfl) ?_)
  refine WL_nil ?_
  show WC Try.prog 39 _ _ _ _
  refine WC_block ?_
  refine WC_loop (fun kq e' w' => ∃ (f : Nat) (i : Int) (xs : List H) (eb : Env), e' = updL eb [(1, (.func (.func 15) #[] #[(.pointer (some ⟨gi, 0, none⟩)), (.pointer (some ⟨go, 0, none⟩))])), (4, (.pointer (some ⟨g1, 0, none⟩))), (5, (.slice (some ⟨g2, 0, none⟩) ((((l.length : Nat) : Int) : Int).toNat) ((((l.length : Nat) : Int) : Int).toNat))), (15, (.slice A l.length c)), (16, (.int .i64 ((l.length : Nat) : Int))), (17, (.int .i64 i))] ∧ SL w0 ([own hv 26 32 (.slice (some ⟨g2, 0, none⟩) ((((l.length : Nat) : Int) : Int).toNat) ((((l.length : Nat) : Int) : Int).toNat)) xs, blk g1 26 (hv zeroH), blk gi 3 (#[(.int .i64 pl)]), blk go 22 (#[(.slice none 0 0)]), own hv 26 32 (.slice none 0 0) ([])] ++ M) w' ∧ (i + (f : Int) = (l.length : Int)) ∧ (0 ≤ i) ∧ (xs.length = l.length) ∧ (∀ j : Nat, (j : Int) < i → xs[j]? = (l.map leafH)[j]?) ∧ f = kq) (k := l.length) ⟨l.length, 0, _, _, (updL_eq _ _ (by exact ⟨rfl, rfl, rfl, rfl, rfl, rfl, trivial⟩)).symm, S, (by omega), (by omega), (by rw [List.length_replicate]; omega), (fun j hj => by omega), rfl⟩ ?_
  clear S
  rintro k1 e1 wl1 ⟨f, i, xs, eb, rfl, S, hif, hi0, hxl, hX, rfl⟩
  show WC Try.prog 39 _ _ _ _
  refine WC_seq ?_
  refine WC_region ?_
  refine WL_cons (WO_val (v := (.bool (decide (i < ((l.length : Nat) : Int))))) (on_none rfl) rfl (by decide) (x_lss (a := i) (b := ((l.length : Nat) : Int)) rfl rfl) ?_)
  refine WL_nil ?_
  show WC Try.prog 39 _ _ _ _
  refine WC_seq ?_
  refine WC_cond (t := decide (i < ((l.length : Nat) : Int))) rfl (fun hc1 => ?_) (fun hc1 => ?_)
  · show WC Try.prog 39 _ _ _ _
    have hc1_ := of_decide_eq_true hc1
    obtain ⟨f, rfl⟩ : ∃ m, f = m + 1 := ⟨f - 1, by omega⟩
    refine WC_skip ?_
    show WC Try.prog 39 _ _ _ _
    refine WC_seq ?_
    refine WC_block ?_
    refine WC_seq ?_
    refine WC_region ?_
    refine WL_cons (WO_val (v := (.int .i64 i)) (on_none rfl) rfl (by decide) (x_mv (v := (.int .i64 i)) rfl) ?_)
    refine WL_cons (WO_val (v := (eaddr A ((i : Int).toNat * 32))) (on_none rfl) rfl (by decide) (x_index_slc (i := i) rfl rfl Try.underlying22 ti26.sz (by omega) (by omega) (Has.some (S.old hP) (by omega))) ?_)
    refine WL_cons (WO_val (v := (.agg (hv (hat l i)))) (on_none rfl) rfl (by decide) (x_el (x := hat l i) (S.old hP) (hat_some (by omega) (by omega)) rfl Try.underlying26 rfl ti26.sz) ?_)
    refine WL_cons (WO_alloc (row := hv zeroH) S (on_none rfl) (by decide) ti26 rfl ?_)
    intro g3 wg3 S
    refine WL_cons (WO_val (v := (.int .i64 i)) (on_none rfl) rfl (by decide) (x_as (v := (.int .i64 i)) rfl) ?_)
    refine WL_cons (WO_store (v := (.agg (hv (hat l i)))) (row := hv zeroH) (row' := hv (hat l i)) S (on_none rfl) rfl rfl (.here _) ti26.sz (hv_size _) (by rw [hv_size]; exact Nat.le_refl _) (bv_one _) (splice_all _ _ (((hv_size _)).trans ((hv_size _)).symm)) ?_)
    intro ws1 S
    refine WL_nil ?_
    show WC Try.prog 39 _ _ _ _
    refine WC_region ?_
    refine WL_cons (WO_val (v := (.slice (some ⟨g2, 0, none⟩) ((((l.length : Nat) : Int) : Int).toNat) ((((l.length : Nat) : Int) : Int).toNat))) (on_none rfl) rfl (by decide) (x_mv (v := (.slice (some ⟨g2, 0, none⟩) ((((l.length : Nat) : Int) : Int).toNat) ((((l.length : Nat) : Int) : Int).toNat))) rfl) ?_)
    refine WL_cons (WO_val (v := (.int .i64 i)) (on_none rfl) rfl (by decide) (x_mv (v := (.int .i64 i)) rfl) ?_)
    refine WL_cons (WO_val (v := (.agg (hv (hat l i)))) (on_none rfl) rfl (by decide) (x_load_row rfl (S.blk_get (.here _)) Try.underlying26 rfl ti26.sz (hv_size _)) ?_)
    refine WL_cons (WO_call (on_none rfl) rfl (by decide) (x_call1 Try.func22 rfl rfl rfl rfl) (leaf_c (hat l i) _) ?_)
    rintro _ wc1 ⟨rfl, hb⟩
    refine ⟨_, rfl, ?_⟩
    replace S := S.keep hb
    clear hb
    refine WL_cons (WO_val (v := (eaddr (some ⟨g2, 0, none⟩) ((i : Int).toNat * 32))) (on_none rfl) rfl (by decide) (x_index_slc (i := i) rfl rfl Try.underlying22 ti26.sz (by omega) (by omega) (Has.some (S.own_has hvsz (.there _ (.here _))) (by omega))) ?_)
    refine WL_cons (WO_store_el (x1 := (leafH (hat l i))) (i := (i : Int).toNat) S (on_none rfl) rfl rfl rfl (.there _ (.here _)) ti26.sz (by omega) (by decide) hvsz hv_one ?_)
    intro ws2 S
    refine WL_nil ?_
    show WC Try.prog 39 _ _ _ _
    refine WC_region ?_
    refine WL_cons (WO_val (v := (.int .i64 (i + 1))) (on_none rfl) rfl (by decide) (x_add (a := i) (b := 1) rfl rfl (wi64 (by omega))) ?_)
    refine WL_cons (WO_val (v := (.int .i64 (i + 1))) (on_none rfl) rfl (by decide) (x_mv (v := (.int .i64 (i + 1))) rfl) ?_)
    refine WL_nil ?_
    replace S := S.drop (.here _)
    refine ⟨_, ?_, f, i + 1, _, _, (updL_eq _ _ (by exact ⟨rfl, rfl, rfl, rfl, rfl, rfl, trivial⟩)).symm, S, (by omega), (by omega), (by rw [List.length_set]; exact hxl), (fill_step hi0 (by omega) hxl hX), rfl⟩
    exact Nat.lt_succ_self f
  · show WC Try.prog 39 _ _ _ _
    have hc1_ := of_decide_eq_false hc1
    obtain rfl : f = 0 := by omega
    have hE0 : xs = l.map leafH := fill_end hxl (fun j hj => hX j (by omega))
    subst hE0
    refine WC_exit ?_
    show WC Try.prog 39 _ _ _ _
    refine WC_seq ?_
    refine WC_block ?_
    replace S := S.own_to_val hvsz (.here _)
    refine WC_loop (fun kq e' w' => ∃ (row : List H) (Ar : Option Addr) (mr : Nat) (cr : Nat) (ii : Int) (A2 : Option Addr) (m2 : Nat) (c2 : Nat) (xs2 : List H) (eb : Env), e' = updL eb [(1, (.func (.func 15) #[] #[(.pointer (some ⟨gi, 0, none⟩)), (.pointer (some ⟨go, 0, none⟩))])), (4, (.pointer (some ⟨g1, 0, none⟩))), (5, (.slice Ar mr cr))] ∧ SL w0 ([val (slc (pur hv) 32) (.slice Ar mr cr) row, blk g1 26 (hv zeroH), blk gi 3 (#[(.int .i64 ii)]), blk go 22 (#[(.slice A2 m2 c2)]), own hv 26 32 (.slice A2 m2 c2) xs2] ++ M) w' ∧ (mr = row.length) ∧ (0 < row.length) ∧ (row.length ≤ 1048576) ∧ (topL row = topL (l.map leafH)) ∧ (0 ≤ ii) ∧ (ii ≤ 1048576) ∧ (xs2.length + row.length ≤ l.length) ∧ (xs2 ++ proofL ii row = proofL pl (l.map leafH)) ∧ row.length = kq) (k := _) ⟨_, some ⟨g2, 0, none⟩, (((l.length : Nat) : Int) : Int).toNat, (((l.length : Nat) : Int) : Int).toNat, pl, none, 0, 0, [], _, (updL_eq _ _ (by exact ⟨rfl, rfl, rfl, trivial⟩)).symm, S, (by rw [List.length_map]; omega), (by rw [List.length_map]; omega), (by rw [List.length_map]; omega), rfl, h0, (by omega), (by rw [List.length_map, List.length_nil]; omega), rfl, rfl⟩ ?_
    clear S
    rintro k2 e2 wl2 ⟨row, Ar, mr, cr, ii, A2, m2, c2, xs2, eb, rfl, S, hmr, hrp, hrl, htop, hii, hii2, hxs2, hpr, rfl⟩
    show WC Try.prog 39 _ _ _ _
    subst hmr
    refine WC_seq ?_
    refine WC_seq ?_
    refine WC_region ?_
    refine WL_cons (WO_val (v := (.slice Ar row.length cr)) (on_none rfl) rfl (by decide) (x_mv (v := (.slice Ar row.length cr)) rfl) ?_)
    refine WL_cons (WO_val (v := (.int .i64 ((row.length : Nat) : Int))) (on_none rfl) rfl (by decide) (x_len_slc rfl Try.underlying22) ?_)
    refine WL_cons (WO_val (v := (.bool (decide (1 < ((row.length : Nat) : Int))))) (on_none rfl) rfl (by decide) (x_gtr (a := ((row.length : Nat) : Int)) (b := 1) rfl rfl) ?_)
    refine WL_nil ?_
    show WC Try.prog 39 _ _ _ _
    refine WC_cond (t := decide (1 < ((row.length : Nat) : Int))) rfl (fun hc2 => ?_) (fun hc2 => ?_)
    · show WC Try.prog 39 _ _ _ _
      have hc2_ := of_decide_eq_true hc2
      refine WC_skip ?_
      show WC Try.prog 39 _ _ _ _
      refine WC_block ?_
      refine WC_seq ?_
      refine WC_region ?_
      refine WL_cons (WO_val (v := (.func (.func 15) #[] #[(.pointer (some ⟨gi, 0, none⟩)), (.pointer (some ⟨go, 0, none⟩))])) (on_none rfl) rfl (by decide) (x_mv (v := (.func (.func 15) #[] #[(.pointer (some ⟨gi, 0, none⟩)), (.pointer (some ⟨go, 0, none⟩))])) rfl) ?_)
      refine WL_cons (WO_val (v := (.slice Ar row.length cr)) (on_none rfl) rfl (by decide) (x_mv (v := (.slice Ar row.length cr)) rfl) ?_)
      have S_ : SL w0 ([blk g1 26 (hv zeroH), val (slc (pur hv) 32) (.slice Ar row.length cr) row, blk gi 3 (#[(.int .i64 ii)]), blk go 22 (#[(.slice A2 m2 c2)]), own hv 26 32 (.slice A2 m2 c2) xs2] ++ M) wl2 := SL.front [_] S
      replace S := S_
      clear S_
      have S_ : SL w0 ([val (slc (pur hv) 32) (.slice Ar row.length cr) row, blk g1 26 (hv zeroH), blk gi 3 (#[(.int .i64 ii)]), blk go 22 (#[(.slice A2 m2 c2)]), own hv 26 32 (.slice A2 m2 c2) xs2] ++ M) wl2 := SL.front [_] S
      replace S := S_
      clear S_
      have S_ : SL w0 ([own hv 26 32 (.slice A2 m2 c2) xs2, val (slc (pur hv) 32) (.slice Ar row.length cr) row, blk g1 26 (hv zeroH), blk gi 3 (#[(.int .i64 ii)]), blk go 22 (#[(.slice A2 m2 c2)])] ++ M) wl2 := SL.front [_, _, _, _] S
      replace S := S_
      clear S_
      have S_ : SL w0 ([blk go 22 (#[(.slice A2 m2 c2)]), own hv 26 32 (.slice A2 m2 c2) xs2, val (slc (pur hv) 32) (.slice Ar row.length cr) row, blk g1 26 (hv zeroH), blk gi 3 (#[(.int .i64 ii)])] ++ M) wl2 := SL.front [_, _, _, _] S
      replace S := S_
      clear S_
      have S_ : SL w0 ([blk gi 3 (#[(.int .i64 ii)]), blk go 22 (#[(.slice A2 m2 c2)]), own hv 26 32 (.slice A2 m2 c2) xs2, val (slc (pur hv) 32) (.slice Ar row.length cr) row, blk g1 26 (hv zeroH)] ++ M) wl2 := SL.front [_, _, _, _] S
      replace S := S_
      clear S_
      refine WL_cons (WO_call (on_none rfl) rfl (by decide) (x_callc (caps := #[(.pointer (some ⟨gi, 0, none⟩)), (.pointer (some ⟨go, 0, none⟩))]) (vs := #[(.slice Ar row.length cr)]) (us := #[(.slice Ar row.length cr), (.pointer (some ⟨gi, 0, none⟩)), (.pointer (some ⟨go, 0, none⟩))]) rfl Try.func15 rfl rfl (by simp only [List.map_toArray, List.map_cons, List.map_nil]; rfl) (by simp)) (prove1_c (by omega) (by omega) (by omega) S) ?_)
      rintro _ wc2 ⟨Ap1, mp1, cp1, rfl, S⟩
      refine ⟨_, rfl, ?_⟩
      refine WL_nil ?_
      show WC Try.prog 39 _ _ _ _
      refine WC_region ?_
      refine WL_cons (WO_val (v := (.slice Ar row.length cr)) (on_none rfl) rfl (by decide) (x_mv (v := (.slice Ar row.length cr)) rfl) ?_)
      refine WL_cons (WO_call (on_none rfl) rfl (by decide) (x_call1 Try.func26 rfl rfl rfl rfl) (up_c _ row (by omega) (S.has (.there _ (.there _ (.there _ (.here _)))))) ?_)
      rintro _ wc3 ⟨Au1, mu1, cu1, rfl, hn⟩
      refine ⟨_, rfl, ?_⟩
      replace S := S.new hn
      clear hn
      have hl := (S.has (.here _)).len.1
      subst hl
      refine WL_cons (WO_val (v := (.slice Au1 ((upL row).length) cu1)) (on_none rfl) rfl (by decide) (x_as (v := (.slice Au1 ((upL row).length) cu1)) rfl) ?_)
      refine WL_nil ?_
      replace S := S.drop (.there _ (.there _ (.there _ (.there _ (.here _)))))
      have S_ : SL w0 ([own hv 26 32 (.slice Ap1 mp1 cp1) (xs2 ++ besL ii row), val (slc (pur hv) 32) (.slice Au1 ((upL row).length) cu1) (upL row), blk gi 3 (#[(.int .i64 (ii / 2))]), blk go 22 (#[(.slice Ap1 mp1 cp1)]), blk g1 26 (hv zeroH)] ++ M) wc3 := SL.front [_, _, _] S
      replace S := S_
      clear S_
      have S_ : SL w0 ([blk go 22 (#[(.slice Ap1 mp1 cp1)]), own hv 26 32 (.slice Ap1 mp1 cp1) (xs2 ++ besL ii row), val (slc (pur hv) 32) (.slice Au1 ((upL row).length) cu1) (upL row), blk gi 3 (#[(.int .i64 (ii / 2))]), blk g1 26 (hv zeroH)] ++ M) wc3 := SL.front [_, _, _] S
      replace S := S_
      clear S_
      have S_ : SL w0 ([blk gi 3 (#[(.int .i64 (ii / 2))]), blk go 22 (#[(.slice Ap1 mp1 cp1)]), own hv 26 32 (.slice Ap1 mp1 cp1) (xs2 ++ besL ii row), val (slc (pur hv) 32) (.slice Au1 ((upL row).length) cu1) (upL row), blk g1 26 (hv zeroH)] ++ M) wc3 := SL.front [_, _, _] S
      replace S := S_
      clear S_
      have S_ : SL w0 ([blk g1 26 (hv zeroH), blk gi 3 (#[(.int .i64 (ii / 2))]), blk go 22 (#[(.slice Ap1 mp1 cp1)]), own hv 26 32 (.slice Ap1 mp1 cp1) (xs2 ++ besL ii row), val (slc (pur hv) 32) (.slice Au1 ((upL row).length) cu1) (upL row)] ++ M) wc3 := SL.front [_, _, _, _] S
      replace S := S_
      clear S_
      have S_ : SL w0 ([val (slc (pur hv) 32) (.slice Au1 ((upL row).length) cu1) (upL row), blk g1 26 (hv zeroH), blk gi 3 (#[(.int .i64 (ii / 2))]), blk go 22 (#[(.slice Ap1 mp1 cp1)]), own hv 26 32 (.slice Ap1 mp1 cp1) (xs2 ++ besL ii row)] ++ M) wc3 := SL.front [_, _, _, _] S
      replace S := S_
      clear S_
      refine ⟨_, ?_, _, Au1, (upL row).length, cu1, ii / 2, Ap1, mp1, cp1, _, _, (updL_eq _ _ (by exact ⟨rfl, rfl, rfl, trivial⟩)).symm, S, rfl, (topL_pos hrp), (by rw [upL_length]; omega), ((topL_up row (by omega)).trans htop), (by omega), (by omega), (by rw [List.length_append, upL_length]; have := besL_le ii row; omega), (by rw [List.append_assoc, ← proofL_up ii row (by omega)]; exact hpr), rfl⟩
      rw [upL_length]; omega
    · show WC Try.prog 39 _ _ _ _
      have hc2_ := of_decide_eq_false hc2
      have hE : topH l = hat row 0 := by rw [topH, if_neg (by omega)]; exact htop.symm.trans (topL_one row (by omega))
      have hpe : xs2 = proofL pl (l.map leafH) := by rw [← hpr, proofL_one _ _ (by omega), List.append_nil]
      refine WC_exit ?_
      show WC Try.prog 39 _ _ _ _
      refine WC_seq ?_
      refine WC_region ?_
      refine WL_cons (WO_val (v := (.slice Ar row.length cr)) (on_none rfl) rfl (by decide) (x_mv (v := (.slice Ar row.length cr)) rfl) ?_)
      refine WL_cons (WO_val (v := (eaddr Ar ((0 : Int).toNat * 32))) (on_none rfl) rfl (by decide) (x_index_slc (i := 0) rfl rfl Try.underlying22 ti26.sz (by omega) (by omega) (Has.some (S.has (.here _)) (by omega))) ?_)
      refine WL_cons (WO_val (v := (.agg (hv (hat row 0)))) (on_none rfl) rfl (by decide) (x_el (x := hat row 0) (S.has (.here _)) (hat_some (by omega) (by omega)) rfl Try.underlying26 rfl ti26.sz) ?_)
      refine WL_cons (WO_store (v := (.agg (hv (hat row 0)))) (row := hv zeroH) (row' := hv (hat row 0)) S (on_none rfl) rfl rfl (.there _ (.here _)) ti26.sz (hv_size _) (by rw [hv_size]; exact Nat.le_refl _) (bv_one _) (splice_all _ _ (((hv_size _)).trans ((hv_size _)).symm)) ?_)
      intro ws3 S
      refine WL_nil ?_
      show WC Try.prog 39 _ _ _ _
      refine WC_ret ?_
      show retQ Try.prog Try.f14 _ .ret _ _
      have Sr := S
      replace S := S.drop (.there _ (.here _))
      replace S := S.drop (.here _)
      rw [hpe] at S
      exact retc (fn := Try.f14) Sr rfl rfl (.there _ (.here _)) Try.underlying26 rfl (by rw [hv_size]; exact ti26.sz) ⟨_, _, _, _, by rw [hE], S⟩
end Go.Proofs.Ytjlbkbfnmcppeaa.Sl

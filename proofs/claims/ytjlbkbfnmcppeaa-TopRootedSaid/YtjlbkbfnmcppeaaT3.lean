/-
  What calls of the program's functions come to (part T3): each function walked once; the conditions stand in each theorem.
-/
import Derived.Test.YtjlbkbfnmcppeaaT2
set_option maxHeartbeats 2000000
set_option linter.unusedSimpArgs false
set_option linter.unusedVariables false
set_option maxRecDepth 100000
namespace Go.Proofs.Ytjlbkbfnmcppeaa.Sl
open Go Go.RowKit
attribute [local irreducible] ofH sumH eightF putT ofL bitop

theorem hat_map {α β : Type} [Inhabited α] [Inhabited β] (f : α → β) (l : List α) (j : Nat) (h : j < l.length) : (l.map f)[j]? = some (f (hat l (j : Int))) := by
  simp [hat, h]
theorem fill_step {l xs : List H} {i : Int} (h0 : 0 ≤ i) (h1 : i < l.length) (hl : xs.length = l.length) (hX : ∀ j : Nat, (j : Int) < i → xs[j]? = (l.map leafH)[j]?) : ∀ j : Nat, (j : Int) < i + 1 → (xs.set i.toNat (leafH (hat l i)))[j]? = (l.map leafH)[j]? := by
  intro j hj
  rw [List.getElem?_set]
  split
  · rename_i h
    subst h
    rw [if_pos (by omega), hat_map leafH l i.toNat (by omega)]
    congr 3
    omega
  · exact hX j (by omega)
theorem fill_end {l xs : List H} (hl : xs.length = l.length) (hX : ∀ j : Nat, (j : Int) < (l.length : Int) → xs[j]? = (l.map leafH)[j]?) : xs = l.map leafH := by
  apply List.ext_getElem?
  intro j
  rcases Nat.lt_or_ge j l.length with h | h
  · exact hX j (by omega)
  · rw [List.getElem?_eq_none (by omega), List.getElem?_eq_none (by simpa using h)]
theorem topL_pos {r : List H} (h : 0 < r.length) : 0 < (upL r).length := by rw [upL_length]; omega

theorem none_c (v : Value) (w : World) :
    Calls Try.prog 17 #[v] w (fun e w' => e = .returned (.tuple #[]) ∧ Below w.heap.size w w') := by
  refine calls_WC (c := _) (n := 2) (vs := [v]) Try.func17 rfl Try.ntmps17 (Nat.le_of_ble_eq_true rfl) ?_
  have S := SL.start w
  refine WC_skip ?_
  show retQ Try.prog Try.f17 _ .normal _ _
  exact ret0n (fn := Try.f17) rfl ⟨rfl, S.below⟩

theorem rows_c (w : World) {A : Option Addr} {n c : Nat} (l : List H) (hz : l.length ≤ 1048576) (hP : Has w (slc (pur hv) 32) (.slice A n c) l) :
    Calls Try.prog 14 #[(.slice A l.length c), (.func (.func 17) #[] #[])] w (fun e w' => e = .returned (.agg (hv (topH l))) ∧ Below w.heap.size w w') := by
  obtain ⟨rfl, hnc, hcm⟩ := hP.len
  refine calls_WC (c := _) (n := 39) (vs := [(.slice A l.length c), (.func (.func 17) #[] #[])]) Try.func14 rfl Try.ntmps14 (Nat.le_of_ble_eq_true rfl) ?_
  have S := SL.start w
  refine WC_seq ?_
  refine WC_region ?_
  refine WL_cons (WO_alloc (row := hv zeroH) S (on_none rfl) (by decide) ti26 rfl ?_)
  intro g1 wg1 S
  refine WL_nil ?_
  show WC Try.prog 39 _ _ _ _
  refine WC_seq ?_
  refine WC_seq ?_
  refine WC_region ?_
  refine WL_cons (WO_val (v := (.slice A l.length c)) (on_none rfl) rfl (by decide) (x_mv (v := (.slice A l.length c)) rfl) ?_)
  refine WL_cons (WO_val (v := (.int .i64 ((l.length : Nat) : Int))) (on_none rfl) rfl (by decide) (x_len_slc rfl Try.underlying22) ?_)
  refine WL_cons (WO_val (v := (.bool (decide (((l.length : Nat) : Int) = 0)))) (on_none rfl) rfl (by decide) (x_eql (a := ((l.length : Nat) : Int)) (b := 0) rfl rfl) ?_)
  refine WL_nil ?_
  show WC Try.prog 39 _ _ _ _
  refine WC_cond (t := decide (((l.length : Nat) : Int) = 0)) rfl (fun hc1 => ?_) (fun hc1 => ?_)
  · show WC Try.prog 39 _ _ _ _
    have hc1_ := of_decide_eq_true hc1
    have hE : topH l = noneH := by rw [topH, if_pos (by omega)]
    refine WC_seq ?_
    refine WC_region ?_
    refine WL_cons (WO_call (on_none rfl) rfl (by decide) (x_call2 Try.func8 rfl rfl rfl rfl rfl) (of_c _ (⟨#[110, 111, 110, 101]⟩) ([]) (ofL_le (⟨#[110, 111, 110, 101]⟩) ([]) 4 rfl (by simp only [List.map_cons, List.map_nil, List.sum_cons, List.sum_nil, Hsz, eightF_size, zb_size] <;> omega)) Has.nil) ?_)
    rintro _ wc1 ⟨rfl, hb⟩
    refine ⟨_, rfl, ?_⟩
    replace S := S.keep hb
    clear hb
    refine WL_cons (WO_store (v := (.agg (hv (ofH (⟨#[110, 111, 110, 101]⟩) ([]))))) (row := hv zeroH) (row' := hv (ofH (⟨#[110, 111, 110, 101]⟩) ([]))) S (on_none rfl) rfl rfl (.here _) ti26.sz (hv_size _) (by rw [hv_size]; exact Nat.le_refl _) (bv_one _) (splice_all _ _ (((hv_size _)).trans ((hv_size _)).symm)) ?_)
    intro ws1 S
    refine WL_nil ?_
    show WC Try.prog 39 _ _ _ _
    refine WC_ret ?_
    refine thenR ?_
    show retQ Try.prog Try.f14 _ .ret _ _
    exact retc (fn := Try.f14) S rfl rfl (.here _) Try.underlying26 rfl (by rw [hv_size]; exact ti26.sz) ⟨by rw [hE]; first | done | rfl, S.below⟩
  · show WC Try.prog 39 _ _ _ _
    have hc1_ := of_decide_eq_false hc1
    refine WC_skip ?_
    show WC Try.prog 39 _ _ _ _
    refine WC_seq ?_
    refine WC_region ?_
    refine WL_cons (WO_val (v := (.slice A l.length c)) (on_none rfl) rfl (by decide) (x_mv (v := (.slice A l.length c)) rfl) ?_)
    refine WL_cons (WO_val (v := (.int .i64 ((l.length : Nat) : Int))) (on_none rfl) rfl (by decide) (x_len_slc rfl Try.underlying22) ?_)
    refine WL_cons (WO_make_full (enc := hv) (c := ((l.length : Nat) : Int)) (x0 := zeroH) S (on_none rfl) (by decide) rfl rfl rfl (by omega) (by decide) rfl (hvsz _) Try.underlying22 ti26 (by omega) (by omega) ?_)
    intro g2 wg2 S
    refine WL_cons (WO_val (v := (.slice (some ⟨g2, 0, none⟩) ((((l.length : Nat) : Int) : Int).toNat) ((((l.length : Nat) : Int) : Int).toNat))) (on_none rfl) rfl (by decide) (x_as (v := (.slice (some ⟨g2, 0, none⟩) ((((l.length : Nat) : Int) : Int).toNat) ((((l.length : Nat) : Int) : Int).toNat))) rfl) ?_)
    refine WL_nil ?_
    show WC Try.prog 39 _ _ _ _
    refine WC_seq ?_
    refine WC_seq ?_
    refine WC_region ?_
    refine WL_cons (WO_val (v := (.slice A l.length c)) (on_none rfl) rfl (by decide) (x_mv (v := (.slice A l.length c)) rfl) ?_)
    refine WL_cons (WO_val (v := (.int .i64 ((l.length : Nat) : Int))) (on_none rfl) rfl (by decide) (x_len_slc rfl Try.underlying22) ?_)
    refine WL_cons (WO_val (v := (.int .i64 0)) (on_none rfl) rfl (by decide) (x_mv (v := (.int .i64 0)) rfl) ?_)
    refine WL_nil ?_
    show WC Try.prog 39 _ _ _ _
    refine WC_block ?_
    refine WC_loop (fun kq e' w' => ∃ (f : Nat) (i : Int) (xs : List H) (eb : Env), e' = updL eb [(1, (.func (.func 17) #[] #[])), (4, (.pointer (some ⟨g1, 0, none⟩))), (5, (.slice (some ⟨g2, 0, none⟩) ((((l.length : Nat) : Int) : Int).toNat) ((((l.length : Nat) : Int) : Int).toNat))), (15, (.slice A l.length c)), (16, (.int .i64 ((l.length : Nat) : Int))), (17, (.int .i64 i))] ∧ SL w [own hv 26 32 (.slice (some ⟨g2, 0, none⟩) ((((l.length : Nat) : Int) : Int).toNat) ((((l.length : Nat) : Int) : Int).toNat)) xs, blk g1 26 (hv zeroH)] w' ∧ (i + (f : Int) = (l.length : Int)) ∧ (0 ≤ i) ∧ (xs.length = l.length) ∧ (∀ j : Nat, (j : Int) < i → xs[j]? = (l.map leafH)[j]?) ∧ f = kq) (k := l.length) ⟨l.length, 0, _, _, (updL_eq _ _ (by exact ⟨rfl, rfl, rfl, rfl, rfl, rfl, trivial⟩)).symm, S, (by omega), (by omega), (by rw [List.length_replicate]; omega), (fun j hj => by omega), rfl⟩ ?_
    clear S
    rintro k1 e1 wl1 ⟨f, i, xs, eb, rfl, S, hif, hi0, hxl, hX, rfl⟩
    show WC Try.prog 39 _ _ _ _
    refine WC_seq ?_
    refine WC_region ?_
    refine WL_cons (WO_val (v := (.bool (decide (i < ((l.length : Nat) : Int))))) (on_none rfl) rfl (by decide) (x_lss (a := i) (b := ((l.length : Nat) : Int)) rfl rfl) ?_)
    refine WL_nil ?_
    show WC Try.prog 39 _ _ _ _
    refine WC_seq ?_
    refine WC_cond (t := decide (i < ((l.length : Nat) : Int))) rfl (fun hc2 => ?_) (fun hc2 => ?_)
    · show WC Try.prog 39 _ _ _ _
      have hc2_ := of_decide_eq_true hc2
      obtain ⟨f, rfl⟩ : ∃ m, f = m + 1 := ⟨f - 1, by omega⟩
      refine WC_skip ?_
      show WC Try.prog 39 _ _ _ _
      refine WC_seq ?_
      refine WC_block ?_
      refine WC_seq ?_
      refine WC_region ?_
      refine WL_cons (WO_val (v := (.int .i64 i)) (on_none rfl) rfl (by decide) (x_mv (v := (.int .i64 i)) rfl) ?_)
      refine WL_cons (WO_val (v := (eaddr A ((i : Int).toNat * 32))) (on_none rfl) rfl (by decide) (x_index_slc (i := i) rfl rfl Try.underlying22 ti26.sz (by omega) (by omega) (Has.some (S.old hP) (by omega))) ?_)
      refine WL_cons (WO_val (v := (.agg (hv (hat l i)))) (on_none rfl) rfl (by decide) (x_el (x := hat l i) (S.old hP) (hat_some (by omega) (by omega)) rfl Try.underlying26 rfl ti26.sz) ?_)
      refine WL_cons (WO_alloc (row := hv zeroH) S (on_none rfl) (by decide) ti26 rfl ?_)
      intro g3 wg3 S
      refine WL_cons (WO_val (v := (.int .i64 i)) (on_none rfl) rfl (by decide) (x_as (v := (.int .i64 i)) rfl) ?_)
      refine WL_cons (WO_store (v := (.agg (hv (hat l i)))) (row := hv zeroH) (row' := hv (hat l i)) S (on_none rfl) rfl rfl (.here _) ti26.sz (hv_size _) (by rw [hv_size]; exact Nat.le_refl _) (bv_one _) (splice_all _ _ (((hv_size _)).trans ((hv_size _)).symm)) ?_)
      intro ws2 S
      refine WL_nil ?_
      show WC Try.prog 39 _ _ _ _
      refine WC_region ?_
      refine WL_cons (WO_val (v := (.slice (some ⟨g2, 0, none⟩) ((((l.length : Nat) : Int) : Int).toNat) ((((l.length : Nat) : Int) : Int).toNat))) (on_none rfl) rfl (by decide) (x_mv (v := (.slice (some ⟨g2, 0, none⟩) ((((l.length : Nat) : Int) : Int).toNat) ((((l.length : Nat) : Int) : Int).toNat))) rfl) ?_)
      refine WL_cons (WO_val (v := (.int .i64 i)) (on_none rfl) rfl (by decide) (x_mv (v := (.int .i64 i)) rfl) ?_)
      refine WL_cons (WO_val (v := (.agg (hv (hat l i)))) (on_none rfl) rfl (by decide) (x_load_row rfl (S.blk_get (.here _)) Try.underlying26 rfl ti26.sz (hv_size _)) ?_)
      refine WL_cons (WO_call (on_none rfl) rfl (by decide) (x_call1 Try.func22 rfl rfl rfl rfl) (leaf_c (hat l i) _) ?_)
      rintro _ wc2 ⟨rfl, hb⟩
      refine ⟨_, rfl, ?_⟩
      replace S := S.keep hb
      clear hb
      refine WL_cons (WO_val (v := (eaddr (some ⟨g2, 0, none⟩) ((i : Int).toNat * 32))) (on_none rfl) rfl (by decide) (x_index_slc (i := i) rfl rfl Try.underlying22 ti26.sz (by omega) (by omega) (Has.some (S.own_has hvsz (.there _ (.here _))) (by omega))) ?_)
      refine WL_cons (WO_store_el (x1 := (leafH (hat l i))) (i := (i : Int).toNat) S (on_none rfl) rfl rfl rfl (.there _ (.here _)) ti26.sz (by omega) (by decide) hvsz hv_one ?_)
      intro ws3 S
      refine WL_nil ?_
      show WC Try.prog 39 _ _ _ _
      refine WC_region ?_
      refine WL_cons (WO_val (v := (.int .i64 (i + 1))) (on_none rfl) rfl (by decide) (x_add (a := i) (b := 1) rfl rfl (wi64 (by omega))) ?_)
      refine WL_cons (WO_val (v := (.int .i64 (i + 1))) (on_none rfl) rfl (by decide) (x_mv (v := (.int .i64 (i + 1))) rfl) ?_)
      refine WL_nil ?_
      replace S := S.drop (.here _)
      refine ⟨_, ?_, f, i + 1, _, _, (updL_eq _ _ (by exact ⟨rfl, rfl, rfl, rfl, rfl, rfl, trivial⟩)).symm, S, (by omega), (by omega), (by rw [List.length_set]; exact hxl), (fill_step hi0 (by omega) hxl hX), rfl⟩
      exact Nat.lt_succ_self f
    · show WC Try.prog 39 _ _ _ _
      have hc2_ := of_decide_eq_false hc2
      obtain rfl : f = 0 := by omega
      have hE0 : xs = l.map leafH := fill_end hxl (fun j hj => hX j (by omega))
      subst hE0
      refine WC_exit ?_
      show WC Try.prog 39 _ _ _ _
      refine WC_seq ?_
      refine WC_block ?_
      replace S := S.own_to_val hvsz (.here _)
      refine WC_loop (fun kq e' w' => ∃ (row : List H) (Ar : Option Addr) (mr : Nat) (cr : Nat) (eb : Env), e' = updL eb [(1, (.func (.func 17) #[] #[])), (4, (.pointer (some ⟨g1, 0, none⟩))), (5, (.slice Ar mr cr))] ∧ SL w [val (slc (pur hv) 32) (.slice Ar mr cr) row, blk g1 26 (hv zeroH)] w' ∧ (mr = row.length) ∧ (0 < row.length) ∧ (row.length ≤ 1048576) ∧ (topL row = topL (l.map leafH)) ∧ row.length = kq) (k := _) ⟨_, some ⟨g2, 0, none⟩, (((l.length : Nat) : Int) : Int).toNat, (((l.length : Nat) : Int) : Int).toNat, _, (updL_eq _ _ (by exact ⟨rfl, rfl, rfl, trivial⟩)).symm, S, (by rw [List.length_map]; omega), (by rw [List.length_map]; omega), (by rw [List.length_map]; omega), rfl, rfl⟩ ?_
      clear S
      rintro k2 e2 wl2 ⟨row, Ar, mr, cr, eb, rfl, S, hmr, hrp, hrl, htop, rfl⟩
      show WC Try.prog 39 _ _ _ _
      subst hmr
      refine WC_seq ?_
      refine WC_seq ?_
      refine WC_region ?_
      refine WL_cons (WO_val (v := (.slice Ar row.length cr)) (on_none rfl) rfl (by decide) (x_mv (v := (.slice Ar row.length cr)) rfl) ?_)
      refine WL_cons (WO_val (v := (.int .i64 ((row.length : Nat) : Int))) (on_none rfl) rfl (by decide) (x_len_slc rfl Try.underlying22) ?_)
      refine WL_cons (WO_val (v := (.bool (decide (1 < ((row.length : Nat) : Int))))) (on_none rfl) rfl (by decide) (x_gtr (a := ((row.length : Nat) : Int)) (b := 1) rfl rfl) ?_)
      refine WL_nil ?_
      show WC Try.prog 39 _ _ _ _
      refine WC_cond (t := decide (1 < ((row.length : Nat) : Int))) rfl (fun hc3 => ?_) (fun hc3 => ?_)
      · show WC Try.prog 39 _ _ _ _
        have hc3_ := of_decide_eq_true hc3
        refine WC_skip ?_
        show WC Try.prog 39 _ _ _ _
        refine WC_block ?_
        refine WC_seq ?_
        refine WC_region ?_
        refine WL_cons (WO_val (v := (.func (.func 17) #[] #[])) (on_none rfl) rfl (by decide) (x_mv (v := (.func (.func 17) #[] #[])) rfl) ?_)
        refine WL_cons (WO_val (v := (.slice Ar row.length cr)) (on_none rfl) rfl (by decide) (x_mv (v := (.slice Ar row.length cr)) rfl) ?_)
        refine WL_cons (WO_call (on_none rfl) rfl (by decide) (x_callc (caps := #[]) (vs := #[(.slice Ar row.length cr)]) (us := #[(.slice Ar row.length cr)]) rfl Try.func17 rfl rfl (by simp only [List.map_toArray, List.map_cons, List.map_nil]; rfl) (by simp)) (none_c (.slice Ar row.length cr) _) ?_)
        rintro _ wc3 ⟨rfl, hb⟩
        refine ⟨_, rfl, ?_⟩
        replace S := S.keep hb
        clear hb
        refine WL_nil ?_
        show WC Try.prog 39 _ _ _ _
        refine WC_region ?_
        refine WL_cons (WO_val (v := (.slice Ar row.length cr)) (on_none rfl) rfl (by decide) (x_mv (v := (.slice Ar row.length cr)) rfl) ?_)
        refine WL_cons (WO_call (on_none rfl) rfl (by decide) (x_call1 Try.func26 rfl rfl rfl rfl) (up_c _ row (by omega) (S.has (.here _))) ?_)
        rintro _ wc4 ⟨Au1, mu1, cu1, rfl, hn⟩
        refine ⟨_, rfl, ?_⟩
        replace S := S.new hn
        clear hn
        have hl := (S.has (.here _)).len.1
        subst hl
        refine WL_cons (WO_val (v := (.slice Au1 ((upL row).length) cu1)) (on_none rfl) rfl (by decide) (x_as (v := (.slice Au1 ((upL row).length) cu1)) rfl) ?_)
        refine WL_nil ?_
        replace S := S.drop (.there _ (.here _))
        refine ⟨_, ?_, _, Au1, (upL row).length, cu1, _, (updL_eq _ _ (by exact ⟨rfl, rfl, rfl, trivial⟩)).symm, S, rfl, (topL_pos hrp), (by rw [upL_length]; omega), ((topL_up row (by omega)).trans htop), rfl⟩
        rw [upL_length]; omega
      · show WC Try.prog 39 _ _ _ _
        have hc3_ := of_decide_eq_false hc3
        have hE : topH l = hat row 0 := by rw [topH, if_neg (by omega)]; exact htop.symm.trans (topL_one row (by omega))
        refine WC_exit ?_
        show WC Try.prog 39 _ _ _ _
        refine WC_seq ?_
        refine WC_region ?_
        refine WL_cons (WO_val (v := (.slice Ar row.length cr)) (on_none rfl) rfl (by decide) (x_mv (v := (.slice Ar row.length cr)) rfl) ?_)
        refine WL_cons (WO_val (v := (eaddr Ar ((0 : Int).toNat * 32))) (on_none rfl) rfl (by decide) (x_index_slc (i := 0) rfl rfl Try.underlying22 ti26.sz (by omega) (by omega) (Has.some (S.has (.here _)) (by omega))) ?_)
        refine WL_cons (WO_val (v := (.agg (hv (hat row 0)))) (on_none rfl) rfl (by decide) (x_el (x := hat row 0) (S.has (.here _)) (hat_some (by omega) (by omega)) rfl Try.underlying26 rfl ti26.sz) ?_)
        refine WL_cons (WO_store (v := (.agg (hv (hat row 0)))) (row := hv zeroH) (row' := hv (hat row 0)) S (on_none rfl) rfl rfl (.there _ (.here _)) ti26.sz (hv_size _) (by rw [hv_size]; exact Nat.le_refl _) (bv_one _) (splice_all _ _ (((hv_size _)).trans ((hv_size _)).symm)) ?_)
        intro ws4 S
        refine WL_nil ?_
        show WC Try.prog 39 _ _ _ _
        refine WC_ret ?_
        show retQ Try.prog Try.f14 _ .ret _ _
        exact retc (fn := Try.f14) S rfl rfl (.there _ (.here _)) Try.underlying26 rfl (by rw [hv_size]; exact ti26.sz) ⟨by rw [hE]; first | done | rfl, S.below⟩
end Go.Proofs.Ytjlbkbfnmcppeaa.Sl

/-
  What calls of the program's functions come to (part V4): each function walked once; the conditions stand in each theorem.
-/
import Derived.Test.YtjlbkbfnmcppeaaV3
set_option maxHeartbeats 2000000
set_option linter.unusedSimpArgs false
set_option linter.unusedVariables false
set_option maxRecDepth 100000
namespace Go.Proofs.Ytjlbkbfnmcppeaa.Sl
open Go Go.RowKit
attribute [local irreducible] ofH sumH eightF putT ofL bitop

/-- All rows. -/
def rowsL (r : List H) : List (List H) := if h : r.length ≤ 1 then [r] else r :: rowsL (upL r)
termination_by r.length
decreasing_by rw [upL_length]; omega
theorem rowsL_one (r : List H) (h : r.length ≤ 1) : rowsL r = [r] := by rw [rowsL, dif_pos h]
theorem rowsL_up (r : List H) (h : 1 < r.length) : rowsL r = r :: rowsL (upL r) := by rw [rowsL.eq_1 r, dif_neg (by omega)]
theorem take_step {l : List H} {i : Int} (h0 : 0 ≤ i) (h1 : i < l.length) : (l.map leafH).take i.toNat ++ [leafH (hat l i)] = (l.map leafH).take (i + 1).toNat := by
  obtain ⟨k, rfl⟩ : ∃ k : Nat, i = k := ⟨i.toNat, by omega⟩
  have e : ((k : Int) + 1).toNat = k + 1 := by omega
  rw [e, Int.toNat_natCast, List.take_add_one, hat_map leafH l k (by omega)]
  rfl

theorem rows04_c (w : World) {A : Option Addr} {n c : Nat} (l : List H) (hz : l.length ≤ 65536) (hP : Has w (slc (pur hv) 32) (.slice A n c) l) :
    Calls Try.prog 11 #[(.slice A l.length c)] w (fun e w' => ∃ A m c, e = .returned (.slice A m c) ∧ New w w' (slc (slc (pur hv) 32) 1) (.slice A m c) (rowsL (l.map leafH))) := by
  obtain ⟨rfl, hnc, hcm⟩ := hP.len
  simp only [maxLen] at hcm
  refine calls_WC (c := _) (n := 33) (vs := [(.slice A l.length c)]) Try.func11 rfl Try.ntmps11 (Nat.le_of_ble_eq_true rfl) ?_
  have S := SL.start w
  refine WC_seq ?_
  refine WC_region ?_
  refine WL_cons (WO_val (v := (.slice none 0 0)) (on_none rfl) rfl (by decide) (x_as (v := (.slice none 0 0)) rfl) ?_)
  refine WL_nil ?_
  show WC Try.prog 33 _ _ _ _
  refine WC_seq ?_
  refine WC_region ?_
  refine WL_cons (WO_val (v := (.slice none 0 0)) (on_none rfl) rfl (by decide) (x_as (v := (.slice none 0 0)) rfl) ?_)
  refine WL_nil ?_
  replace S := SL.own_nil S hv 26 32
  show WC Try.prog 33 _ _ _ _
  refine WC_seq ?_
  refine WC_seq ?_
  refine WC_region ?_
  refine WL_cons (WO_val (v := (.slice A l.length c)) (on_none rfl) rfl (by decide) (x_mv (v := (.slice A l.length c)) rfl) ?_)
  refine WL_cons (WO_val (v := (.int .i64 ((l.length : Nat) : Int))) (on_none rfl) rfl (by decide) (x_len_slc rfl Try.underlying22) ?_)
  refine WL_cons (WO_val (v := (.int .i64 0)) (on_none rfl) rfl (by decide) (x_mv (v := (.int .i64 0)) rfl) ?_)
  refine WL_nil ?_
  show WC Try.prog 33 _ _ _ _
  refine WC_block ?_
  refine WC_loop (fun kq e' w' => ∃ (f : Nat) (i : Int) (xs : List H) (Ab : Option Addr) (mb : Nat) (cb : Nat) (eb : Env), e' = updL eb [(3, (.slice Ab mb cb)), (7, (.slice A l.length c)), (8, (.int .i64 ((l.length : Nat) : Int))), (9, (.int .i64 i))] ∧ SL w [own hv 26 32 (.slice Ab mb cb) xs] w' ∧ (i + (f : Int) = (l.length : Int)) ∧ (0 ≤ i) ∧ (xs = (l.map leafH).take i.toNat) ∧ (mb = xs.length) ∧ f = kq) (k := l.length) ⟨l.length, 0, [], none, 0, 0, _, (updL_eq _ _ (by exact ⟨rfl, rfl, rfl, rfl, trivial⟩)).symm, S, (by omega), (by omega), rfl, rfl, rfl⟩ ?_
  clear S
  rintro k1 e1 wl1 ⟨f, i, xs, Ab, mb, cb, eb, rfl, S, hif, hi0, hX, hmb, rfl⟩
  show WC Try.prog 33 _ _ _ _
  have hxl : xs.length ≤ 1048576 := by rw [hX, List.length_take, List.length_map]; omega
  refine WC_seq ?_
  refine WC_region ?_
  refine WL_cons (WO_val (v := (.bool (decide (i < ((l.length : Nat) : Int))))) (on_none rfl) rfl (by decide) (x_lss (a := i) (b := ((l.length : Nat) : Int)) rfl rfl) ?_)
  refine WL_nil ?_
  show WC Try.prog 33 _ _ _ _
  refine WC_seq ?_
  refine WC_cond (t := decide (i < ((l.length : Nat) : Int))) rfl (fun hc1 => ?_) (fun hc1 => ?_)
  · show WC Try.prog 33 _ _ _ _
    have hc1_ := of_decide_eq_true hc1
    obtain ⟨f, rfl⟩ : ∃ m, f = m + 1 := ⟨f - 1, by omega⟩
    refine WC_skip ?_
    show WC Try.prog 33 _ _ _ _
    refine WC_seq ?_
    refine WC_block ?_
    refine WC_seq ?_
    refine WC_region ?_
    refine WL_cons (WO_val (v := (eaddr A ((i : Int).toNat * 32))) (on_none rfl) rfl (by decide) (x_index_slc (i := i) rfl rfl Try.underlying22 ti26.sz (by omega) (by omega) (Has.some (S.old hP) (by omega))) ?_)
    refine WL_cons (WO_val (v := (.agg (hv (hat l i)))) (on_none rfl) rfl (by decide) (x_el (x := hat l i) (S.old hP) (hat_some (by omega) (by omega)) rfl Try.underlying26 rfl ti26.sz) ?_)
    refine WL_cons (WO_alloc (row := hv zeroH) S (on_none rfl) (by decide) ti26 rfl ?_)
    intro g1 wg1 S
    refine WL_cons (WO_store (v := (.agg (hv (hat l i)))) (row := hv zeroH) (row' := hv (hat l i)) S (on_none rfl) rfl rfl (.here _) ti26.sz (hv_size _) (by rw [hv_size]; exact Nat.le_refl _) (bv_one _) (splice_all _ _ (((hv_size _)).trans ((hv_size _)).symm)) ?_)
    intro ws1 S
    refine WL_nil ?_
    show WC Try.prog 33 _ _ _ _
    refine WC_region ?_
    refine WL_cons (WO_val (v := (.slice Ab mb cb)) (on_none rfl) rfl (by decide) (x_mv (v := (.slice Ab mb cb)) rfl) ?_)
    refine WL_cons (WO_val (v := (.slice (some ⟨g1, 0, none⟩) 32 32)) (on_none rfl) rfl (by decide) (x_slice_arr rfl Try.underlying26 ti5.sz) ?_)
    refine WL_cons (WO_val (v := (.string ((hat l i).1))) (on_none rfl) rfl (by decide) (x_bytes (h := (hat l i).1) rfl (S.blk_get (.here _)) Try.underlying33 Try.underlying5 Try.underlying9 (hat l i).2) ?_)
    refine WL_cons (WO_build (vs := [(.string ((hat l i).1))]) (row := #[(.string ((hat l i).1))]) S (on_none rfl) (by decide) Try.underlying40 ti9 rfl rfl rfl (by simp [Value.cells]) (by decide) rfl ?_)
    intro g2 wg2 S
    refine WL_cons (WO_call (on_none rfl) rfl (by decide) (x_call2 Try.func8 rfl rfl rfl rfl rfl) (of_c _ (⟨#[108, 101, 97, 102]⟩) ([(hat l i).1]) (ofL_le (⟨#[108, 101, 97, 102]⟩) ([(hat l i).1]) 4 rfl (by simp only [List.map_cons, List.map_nil, List.sum_cons, List.sum_nil, Hsz, eightF_size, zb_size] <;> omega)) (has_row1 (f := Value.string) (fun _ => rfl) [(hat l i).1] (S.blk_get (.here _)) rfl (by decide))) ?_)
    rintro _ wc1 ⟨rfl, hb⟩
    refine ⟨_, rfl, ?_⟩
    replace S := S.keep hb
    clear hb
    refine WL_cons (WO_build (vs := [(.agg (hv (ofH (⟨#[108, 101, 97, 102]⟩) ([(hat l i).1]))))]) (row := hv (ofH (⟨#[108, 101, 97, 102]⟩) ([(hat l i).1]))) S (on_none rfl) (by decide) Try.underlying22 ti26 (hv_size _) rfl rfl (by simp [Value.cells, hv_size, bv_size, Hsz]) (by decide) (rowOf1 _) ?_)
    intro g3 wg3 S
    refine WL_cons (WO_append (ys := [(ofH (⟨#[108, 101, 97, 102]⟩) ([(hat l i).1]))]) S (on_none rfl) (by decide) rfl rfl (fun _ => (.there _ (.there _ (.there _ (.here _))))) (has_one (S.blk_get (.here _)) (hv_size _)) Try.underlying22 ti26 (hv_size _) (by decide) hvsz hv_one (by simp only [maxLen, List.length_append, List.length_cons, List.length_nil]; omega) (by simp only [maxLen, List.length_append, List.length_cons, List.length_nil]; omega) ?_)
    intro A1 c1 wa1 S
    refine WL_cons (WO_val (v := (.slice A1 (xs.length + ([(ofH (⟨#[108, 101, 97, 102]⟩) ([(hat l i).1]))]).length) c1)) (on_none rfl) rfl (by decide) (x_as (v := (.slice A1 (xs.length + ([(ofH (⟨#[108, 101, 97, 102]⟩) ([(hat l i).1]))]).length) c1)) rfl) ?_)
    refine WL_nil ?_
    show WC Try.prog 33 _ _ _ _
    refine WC_region ?_
    refine WL_cons (WO_val (v := (.int .i64 (i + 1))) (on_none rfl) rfl (by decide) (x_add (a := i) (b := 1) rfl rfl (wi64 (by omega))) ?_)
    refine WL_cons (WO_val (v := (.int .i64 (i + 1))) (on_none rfl) rfl (by decide) (x_mv (v := (.int .i64 (i + 1))) rfl) ?_)
    refine WL_nil ?_
    replace S := S.drop (.there _ (.there _ (.here _)))
    replace S := S.drop (.there _ (.here _))
    replace S := S.drop (.here _)
    refine ⟨_, ?_, f, i + 1, _, A1, xs.length + ([(ofH (⟨#[108, 101, 97, 102]⟩) ([(hat l i).1]))]).length, c1, _, (updL_eq _ _ (by exact ⟨rfl, rfl, rfl, rfl, trivial⟩)).symm, S, (by omega), (by omega), (by rw [hX]; exact take_step hi0 (by omega)), (by rw [List.length_append]), rfl⟩
    exact Nat.lt_succ_self f
  · show WC Try.prog 33 _ _ _ _
    have hc1_ := of_decide_eq_false hc1
    obtain rfl : f = 0 := by omega
    have hE0 : xs = l.map leafH := by rw [hX, List.take_of_length_le (by rw [List.length_map]; omega)]
    clear hX hxl
    subst hE0
    refine WC_exit ?_
    show WC Try.prog 33 _ _ _ _
    refine WC_seq ?_
    refine WC_region ?_
    refine WL_cons (WO_val (v := (.slice Ab mb cb)) (on_none rfl) rfl (by decide) (x_mv (v := (.slice Ab mb cb)) rfl) ?_)
    refine WL_cons (WO_build (vs := [(.slice Ab mb cb)]) (row := #[(.slice Ab mb cb)]) S (on_none rfl) (by decide) Try.underlying35 ti22 rfl rfl rfl (by simp [Value.cells]) (by decide) rfl ?_)
    intro g4 wg4 S
    refine WL_cons (WO_val (v := (.slice (some ⟨g4, 0, none⟩) 1 1)) (on_none rfl) rfl (by decide) (x_as (v := (.slice (some ⟨g4, 0, none⟩) 1 1)) rfl) ?_)
    refine WL_nil ?_
    replace S := S.own_to_val hvsz (.there _ (.here _))
    replace S := SL.blk_own1 (enc := encV) (x := (Ab, mb, cb)) S rfl (.here _)
    replace S := SL.vals_nil S (slc (pur hv) 32)
    have S_ : SL w ([own encV 22 1 (.slice (some ⟨g4, 0, none⟩) 1 1) ([(Ab, mb, cb)]), vals (slc (pur hv) 32) ([]) ([]), val (slc (pur hv) 32) (.slice Ab mb cb) (l.map leafH)]) wg4 := SL.front [_] S
    replace S := S_
    clear S_
    have S_ : SL w ([vals (slc (pur hv) 32) ([]) ([]), own encV 22 1 (.slice (some ⟨g4, 0, none⟩) 1 1) ([(Ab, mb, cb)]), val (slc (pur hv) 32) (.slice Ab mb cb) (l.map leafH)]) wg4 := SL.front [_] S
    replace S := S_
    clear S_
    have S_ : SL w ([val (slc (pur hv) 32) (.slice Ab mb cb) (l.map leafH), vals (slc (pur hv) 32) ([]) ([]), own encV 22 1 (.slice (some ⟨g4, 0, none⟩) 1 1) ([(Ab, mb, cb)])]) wg4 := SL.front [_, _] S
    replace S := S_
    clear S_
    replace S := SL.vals_push S
    show WC Try.prog 33 _ _ _ _
    refine WC_seq ?_
    refine WC_block ?_
    refine WC_loop (fun kq e' w' => ∃ (row : List H) (vs : List SV) (rs : List (List H)) (Ar : Option Addr) (mr : Nat) (cr : Nat) (Ao : Option Addr) (mo : Nat) (co : Nat) (eb : Env), e' = updL eb [(3, (.slice Ar mr cr)), (6, (.slice Ao mo co))] ∧ SL w [vals (slc (pur hv) 32) (vs ++ [(Ar, mr, cr)]) (rs ++ [row]), own encV 22 1 (.slice Ao mo co) (vs ++ [(Ar, mr, cr)])] w' ∧ (mr = row.length) ∧ (row.length ≤ 1048576) ∧ (rs.length + row.length ≤ 1048576) ∧ (vs.length = rs.length) ∧ (rs ++ rowsL row = rowsL (l.map leafH)) ∧ row.length = kq) (k := _) ⟨(l.map leafH), [], [], Ab, mb, cb, some ⟨g4, 0, none⟩, 1, 1, _, (updL_eq _ _ (by exact ⟨rfl, rfl, trivial⟩)).symm, S, (by rw [hmb, List.length_map]), (by rw [List.length_map]; omega), (by rw [List.length_map, List.length_nil]; omega), rfl, rfl, rfl⟩ ?_
    clear S
    rintro k2 e2 wl2 ⟨row, vs, rs, Ar, mr, cr, Ao, mo, co, eb, rfl, S, hmr, hrl, hrs, hvl, hR, rfl⟩
    show WC Try.prog 33 _ _ _ _
    subst hmr
    refine WC_seq ?_
    refine WC_seq ?_
    refine WC_region ?_
    refine WL_cons (WO_val (v := (.slice Ar row.length cr)) (on_none rfl) rfl (by decide) (x_mv (v := (.slice Ar row.length cr)) rfl) ?_)
    refine WL_cons (WO_val (v := (.int .i64 ((row.length : Nat) : Int))) (on_none rfl) rfl (by decide) (x_len_slc rfl Try.underlying22) ?_)
    refine WL_cons (WO_val (v := (.bool (decide (1 < ((row.length : Nat) : Int))))) (on_none rfl) rfl (by decide) (x_gtr (a := ((row.length : Nat) : Int)) (b := 1) rfl rfl) ?_)
    refine WL_nil ?_
    show WC Try.prog 33 _ _ _ _
    refine WC_cond (t := decide (1 < ((row.length : Nat) : Int))) rfl (fun hc2 => ?_) (fun hc2 => ?_)
    · show WC Try.prog 33 _ _ _ _
      have hc2_ := of_decide_eq_true hc2
      refine WC_skip ?_
      show WC Try.prog 33 _ _ _ _
      refine WC_block ?_
      refine WC_seq ?_
      refine WC_region ?_
      refine WL_cons (WO_val (v := (.slice Ar row.length cr)) (on_none rfl) rfl (by decide) (x_mv (v := (.slice Ar row.length cr)) rfl) ?_)
      refine WL_cons (WO_call (on_none rfl) rfl (by decide) (x_call1 Try.func24 rfl rfl rfl rfl) (up04_c _ row (by omega) (S.vals_last (.here _))) ?_)
      rintro _ wc2 ⟨Au1, mu1, cu1, rfl, hn⟩
      refine ⟨_, rfl, ?_⟩
      replace S := S.new hn
      clear hn
      have hl := (S.has (.here _)).len.1
      subst hl
      refine WL_cons (WO_val (v := (.slice Au1 ((upL row).length) cu1)) (on_none rfl) rfl (by decide) (x_as (v := (.slice Au1 ((upL row).length) cu1)) rfl) ?_)
      refine WL_nil ?_
      show WC Try.prog 33 _ _ _ _
      refine WC_region ?_
      refine WL_cons (WO_val (v := (.slice Ao mo co)) (on_none rfl) rfl (by decide) (x_mv (v := (.slice Ao mo co)) rfl) ?_)
      refine WL_cons (WO_val (v := (.slice Au1 ((upL row).length) cu1)) (on_none rfl) rfl (by decide) (x_mv (v := (.slice Au1 ((upL row).length) cu1)) rfl) ?_)
      refine WL_cons (WO_build (vs := [(.slice Au1 ((upL row).length) cu1)]) (row := #[(.slice Au1 ((upL row).length) cu1)]) S (on_none rfl) (by decide) Try.underlying35 ti22 rfl rfl rfl (by simp [Value.cells]) (by decide) rfl ?_)
      intro g5 wg5 S
      refine WL_cons (WO_append (ys := [(Au1, (upL row).length, cu1)]) S (on_none rfl) (by decide) rfl rfl (fun _ => (.there _ (.there _ (.there _ (.here _))))) (has_row1 (enc := encV) (f := svV) (fun _ => rfl) [(Au1, (upL row).length, cu1)] (S.blk_get (.here _)) rfl (by decide)) Try.underlying35 ti22 rfl (by decide) encV_size encV_one (by simp only [maxLen, List.length_append, List.length_cons, List.length_nil]; omega) (by simp only [maxLen, List.length_append, List.length_cons, List.length_nil]; omega) ?_)
      intro A2 c2 wa2 S
      refine WL_cons (WO_val (v := (.slice A2 ((vs ++ [(Ar, row.length, cr)]).length + ([(Au1, (upL row).length, cu1)]).length) c2)) (on_none rfl) rfl (by decide) (x_as (v := (.slice A2 ((vs ++ [(Ar, row.length, cr)]).length + ([(Au1, (upL row).length, cu1)]).length) c2)) rfl) ?_)
      refine WL_nil ?_
      have S_ : SL w ([own encV 22 1 (.slice A2 ((vs ++ [(Ar, row.length, cr)]).length + ([(Au1, (upL row).length, cu1)]).length) c2) ((vs ++ [(Ar, row.length, cr)]) ++ [(Au1, (upL row).length, cu1)]), blk g5 22 (#[(.slice Au1 ((upL row).length) cu1)]), val (slc (pur hv) 32) (.slice Au1 ((upL row).length) cu1) (upL row), vals (slc (pur hv) 32) (vs ++ [(Ar, row.length, cr)]) (rs ++ [row])]) wa2 := SL.front [_, _, _] S
      replace S := S_
      clear S_
      have S_ : SL w ([blk g5 22 (#[(.slice Au1 ((upL row).length) cu1)]), own encV 22 1 (.slice A2 ((vs ++ [(Ar, row.length, cr)]).length + ([(Au1, (upL row).length, cu1)]).length) c2) ((vs ++ [(Ar, row.length, cr)]) ++ [(Au1, (upL row).length, cu1)]), val (slc (pur hv) 32) (.slice Au1 ((upL row).length) cu1) (upL row), vals (slc (pur hv) 32) (vs ++ [(Ar, row.length, cr)]) (rs ++ [row])]) wa2 := SL.front [_] S
      replace S := S_
      clear S_
      have S_ : SL w ([vals (slc (pur hv) 32) (vs ++ [(Ar, row.length, cr)]) (rs ++ [row]), blk g5 22 (#[(.slice Au1 ((upL row).length) cu1)]), own encV 22 1 (.slice A2 ((vs ++ [(Ar, row.length, cr)]).length + ([(Au1, (upL row).length, cu1)]).length) c2) ((vs ++ [(Ar, row.length, cr)]) ++ [(Au1, (upL row).length, cu1)]), val (slc (pur hv) 32) (.slice Au1 ((upL row).length) cu1) (upL row)]) wa2 := SL.front [_, _, _] S
      replace S := S_
      clear S_
      have S_ : SL w ([val (slc (pur hv) 32) (.slice Au1 ((upL row).length) cu1) (upL row), vals (slc (pur hv) 32) (vs ++ [(Ar, row.length, cr)]) (rs ++ [row]), blk g5 22 (#[(.slice Au1 ((upL row).length) cu1)]), own encV 22 1 (.slice A2 ((vs ++ [(Ar, row.length, cr)]).length + ([(Au1, (upL row).length, cu1)]).length) c2) ((vs ++ [(Ar, row.length, cr)]) ++ [(Au1, (upL row).length, cu1)])]) wa2 := SL.front [_, _, _] S
      replace S := S_
      clear S_
      replace S := SL.vals_push S
      replace S := S.drop (.there _ (.here _))
      refine ⟨_, ?_, (upL row), (vs ++ [(Ar, row.length, cr)]), (rs ++ [row]), Au1, (upL row).length, cu1, A2, (vs ++ [(Ar, row.length, cr)]).length + ([(Au1, (upL row).length, cu1)]).length, c2, _, (updL_eq _ _ (by exact ⟨rfl, rfl, trivial⟩)).symm, S, rfl, (by rw [upL_length]; omega), (by rw [List.length_append, upL_length]; simp only [List.length_cons, List.length_nil]; omega), (by rw [List.length_append, List.length_append, hvl]; rfl), (by rw [List.append_assoc]; exact (congrArg (rs ++ ·) (rowsL_up row (by omega))).symm.trans hR), rfl⟩
      rw [upL_length]; omega
    · show WC Try.prog 33 _ _ _ _
      have hc2_ := of_decide_eq_false hc2
      have hE : rs ++ [row] = rowsL (l.map leafH) := by rw [← hR, rowsL_one row (by omega)]
      refine WC_exit ?_
      show WC Try.prog 33 _ _ _ _
      refine WC_seq ?_
      refine WC_region ?_
      refine WL_cons (WO_val (v := (.slice Ao mo co)) (on_none rfl) rfl (by decide) (x_mv (v := (.slice Ao mo co)) rfl) ?_)
      refine WL_cons (WO_val (v := (.slice Ao mo co)) (on_none rfl) rfl (by decide) (x_as (v := (.slice Ao mo co)) rfl) ?_)
      refine WL_nil ?_
      show WC Try.prog 33 _ _ _ _
      refine WC_ret ?_
      show retQ Try.prog Try.f11 _ .ret _ _
      have S_ : SL w ([own encV 22 1 (.slice Ao mo co) (vs ++ [(Ar, row.length, cr)]), vals (slc (pur hv) 32) (vs ++ [(Ar, row.length, cr)]) (rs ++ [row])]) wl2 := SL.front [_] S
      replace S := S_
      clear S_
      replace S := SL.own_vals S
      rw [hE] at S
      exact ret1 (fn := Try.f11) (v := (.slice Ao mo co)) rfl rfl ⟨_, _, _, rfl, S.to_new (.here _)⟩
end Go.Proofs.Ytjlbkbfnmcppeaa.Sl

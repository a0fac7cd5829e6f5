/-
  What calls of the program's functions come to (part T5): each function walked once; the conditions stand in each theorem.
-/
import Derived.Test.YtjlbkbfnmcppeaaT4
set_option maxHeartbeats 2000000
set_option linter.unusedSimpArgs false
set_option linter.unusedVariables false
set_option maxRecDepth 100000
namespace Go.Proofs.Ytjlbkbfnmcppeaa.Sl
open Go Go.RowKit
attribute [local irreducible] ofH sumH eightF putT ofL bitop

def treeRoot (l : List H) : H := rootH (l.length : Int) (topH l)

theorem Root_c (w : World) {A : Option Addr} {n c : Nat} (l : List H) (hz : l.length ≤ 1048576) (hP : Has w (slc (pur hv) 32) (.slice A n c) l) :
    Calls Try.prog 7 #[(.slice A l.length c)] w (fun e w' => e = .returned (.agg (hv (treeRoot l))) ∧ Below w.heap.size w w') := by
  obtain ⟨rfl, hnc, hcm⟩ := hP.len
  simp only [maxLen] at hcm
  refine calls_WC (c := _) (n := 8) (vs := [(.slice A l.length c)]) Try.func7 rfl Try.ntmps7 (Nat.le_of_ble_eq_true rfl) ?_
  have S := SL.start w
  refine WC_seq ?_
  refine WC_region ?_
  refine WL_cons (WO_alloc (row := hv zeroH) S (on_none rfl) (by decide) ti26 rfl ?_)
  intro g1 wg1 S
  refine WL_nil ?_
  show WC Try.prog 8 _ _ _ _
  refine WC_seq ?_
  refine WC_region ?_
  refine WL_cons (WO_val (v := (.slice A l.length c)) (on_none rfl) rfl (by decide) (x_mv (v := (.slice A l.length c)) rfl) ?_)
  refine WL_cons (WO_val (v := (.int .i64 ((l.length : Nat) : Int))) (on_none rfl) rfl (by decide) (x_len_slc rfl Try.underlying22) ?_)
  refine WL_cons (WO_val (v := (.slice A l.length c)) (on_none rfl) rfl (by decide) (x_mv (v := (.slice A l.length c)) rfl) ?_)
  refine WL_cons (WO_call (on_none rfl) rfl (by decide) (x_call2 Try.func14 rfl rfl rfl rfl rfl) (rows_c _ l (by omega) (S.old hP)) ?_)
  rintro _ wc1 ⟨rfl, hb⟩
  refine ⟨_, rfl, ?_⟩
  replace S := S.keep hb
  clear hb
  refine WL_cons (WO_call (on_none rfl) rfl (by decide) (x_call2 Try.func16 rfl rfl rfl rfl rfl) (root_c ((l.length : Nat) : Int) (by omega) (by omega) (topH l) _) ?_)
  rintro _ wc2 ⟨rfl, hb⟩
  refine ⟨_, rfl, ?_⟩
  replace S := S.keep hb
  clear hb
  refine WL_cons (WO_store (v := (.agg (hv (rootH ((l.length : Nat) : Int) (topH l))))) (row := hv zeroH) (row' := hv (rootH ((l.length : Nat) : Int) (topH l))) S (on_none rfl) rfl rfl (.here _) ti26.sz (hv_size _) (by rw [hv_size]; exact Nat.le_refl _) (bv_one _) (splice_all _ _ (((hv_size _)).trans ((hv_size _)).symm)) ?_)
  intro ws1 S
  refine WL_nil ?_
  show WC Try.prog 8 _ _ _ _
  refine WC_ret ?_
  show retQ Try.prog Try.f7 _ .ret _ _
  exact retc (fn := Try.f7) S rfl rfl (.here _) Try.underlying26 rfl (by rw [hv_size]; exact ti26.sz) ⟨rfl, S.below⟩

/-- Whether a place is in a list; what Prove says. -/
def inL (i : Int) (l : List H) : Bool := decide (0 ≤ i) && decide (i < l.length)
def proveL (i : Int) (l : List H) : List H := if inL i l then proofL i (l.map leafH) else []
def errL (i : Int) (l : List H) : Int := if inL i l then 0 else 5
theorem inL_t {i : Int} {l : List H} (h0 : 0 ≤ i) (h1 : i < l.length) : inL i l = true := by simp [inL, h0, h1]
theorem inL_f {i : Int} {l : List H} (h : i < 0 ∨ (l.length : Int) ≤ i) : inL i l = false := by
  simp only [inL, Bool.and_eq_false_iff, decide_eq_false_iff_not]
  omega
theorem proveL_t {i : Int} {l : List H} (h : inL i l = true) : proveL i l = proofL i (l.map leafH) := by rw [proveL, if_pos h]
theorem proveL_f {i : Int} {l : List H} (h : inL i l = false) : proveL i l = [] := by rw [proveL, if_neg (by rw [h]; simp)]
theorem errL_t {i : Int} {l : List H} (h : inL i l = true) : errL i l = 0 := by rw [errL, if_pos h]
theorem errL_f {i : Int} {l : List H} (h : inL i l = false) : errL i l = 5 := by rw [errL, if_neg (by rw [h]; simp)]

theorem Prove_c (w : World) {A : Option Addr} {n c : Nat} (i : Int) (l : List H) (hz : l.length ≤ 1048576) (hP : Has w (slc (pur hv) 32) (.slice A n c) l) :
    Calls Try.prog 6 #[(.slice A l.length c), (.int .i64 i)] w (fun e w' => ∃ A m c, e = .returned (.tuple #[.slice A m c, .int .i64 (errL i l)]) ∧ New w w' (slc (pur hv) 32) (.slice A m c) (proveL i l)) := by
  obtain ⟨rfl, hnc, hcm⟩ := hP.len
  simp only [maxLen] at hcm
  refine calls_WC (c := _) (n := 19) (vs := [(.slice A l.length c), (.int .i64 i)]) Try.func6 rfl Try.ntmps6 (Nat.le_of_ble_eq_true rfl) ?_
  have S := SL.start w
  refine WC_seq ?_
  refine WC_region ?_
  refine WL_cons (WO_box (v := (.int .i64 i)) (row := #[(.int .i64 i)]) S (on_none rfl) (by decide) rfl rfl ?_)
  intro g1 wg1 S
  refine WL_cons (WO_val (v := (.slice none 0 0)) (on_none rfl) rfl (by decide) (x_as (v := (.slice none 0 0)) rfl) ?_)
  refine WL_cons (WO_val (v := (.int .i64 0)) (on_none rfl) rfl (by decide) (x_as (v := (.int .i64 0)) rfl) ?_)
  refine WL_nil ?_
  show WC Try.prog 19 _ _ _ _
  refine WC_seq ?_
  refine WC_seq ?_
  rcases Bool.eq_false_or_eq_true (decide (i < 0)) with hg1 | hg1
  · skip
    have hg1_ := of_decide_eq_true hg1
    refine WC_region ?_
    refine WL_cons (WO_val (v := (.int .i64 i)) (on_none rfl) rfl (by decide) (x_load_cell (v := (.int .i64 i)) rfl (cell_row (S.blk_get (.here _)) rfl) Try.underlying3 rfl) ?_)
    refine WL_cons (WO_val (v := (.bool (decide (i < 0)))) (on_none rfl) rfl (by decide) (x_lss (a := i) (b := 0) rfl rfl) ?_)
    refine WL_cons (WO_val (v := (.bool (decide (i < 0)))) (on_none rfl) rfl (by decide) (x_mv (v := (.bool (decide (i < 0)))) rfl) ?_)
    refine WL_cons (WO_off (off_guard rfl rfl (congrArg Value.bool hg1)) rfl (by decide) ?_)
    refine WL_cons (WO_off (off_guard rfl rfl (congrArg Value.bool hg1)) rfl (by decide) ?_)
    refine WL_cons (WO_off (off_guard rfl rfl (congrArg Value.bool hg1)) rfl (by decide) ?_)
    refine WL_cons (WO_off (off_guard rfl rfl (congrArg Value.bool hg1)) rfl (by decide) ?_)
    refine WL_cons (WO_val (v := (.bool true)) (on_none rfl) rfl (by decide) (x_pick_t (congrArg Value.bool hg1)) ?_)
    refine WL_nil ?_
    show WC Try.prog 19 _ _ _ _
    refine WC_cond (t := true) rfl (fun _ => ?_) (fun h => by cases h)
    show WC Try.prog 19 _ _ _ _
    refine WC_seq ?_
    refine WC_region ?_
    refine WL_cons (WO_val (v := (.slice none 0 0)) (on_none rfl) rfl (by decide) (x_as (v := (.slice none 0 0)) rfl) ?_)
    refine WL_cons (WO_val (v := (.int .i64 5)) (on_none rfl) rfl (by decide) (x_as (v := (.int .i64 5)) rfl) ?_)
    refine WL_nil ?_
    show WC Try.prog 19 _ _ _ _
    refine WC_ret ?_
    refine thenR ?_
    show retQ Try.prog Try.f6 _ .ret _ _
    have hin : inL i l = false := inL_f (by omega)
    rw [proveL_f hin, errL_f hin]
    exact ret2 (fn := Try.f6) (v := (.slice none 0 0)) (v' := .int .i64 5) rfl rfl rfl ⟨_, _, _, rfl, SL.new_nil S⟩
  · skip
    have hg1_ := of_decide_eq_false hg1
    refine WC_region ?_
    refine WL_cons (WO_val (v := (.int .i64 i)) (on_none rfl) rfl (by decide) (x_load_cell (v := (.int .i64 i)) rfl (cell_row (S.blk_get (.here _)) rfl) Try.underlying3 rfl) ?_)
    refine WL_cons (WO_val (v := (.bool (decide (i < 0)))) (on_none rfl) rfl (by decide) (x_lss (a := i) (b := 0) rfl rfl) ?_)
    refine WL_cons (WO_val (v := (.bool (decide (i < 0)))) (on_none rfl) rfl (by decide) (x_mv (v := (.bool (decide (i < 0)))) rfl) ?_)
    refine WL_cons (WO_val (v := (.int .i64 i)) (on_guard rfl rfl (congrArg Value.bool hg1)) rfl (by decide) (x_load_cell (v := (.int .i64 i)) rfl (cell_row (S.blk_get (.here _)) rfl) Try.underlying3 rfl) ?_)
    refine WL_cons (WO_val (v := (.slice A l.length c)) (on_guard rfl rfl (congrArg Value.bool hg1)) rfl (by decide) (x_mv (v := (.slice A l.length c)) rfl) ?_)
    refine WL_cons (WO_val (v := (.int .i64 ((l.length : Nat) : Int))) (on_guard rfl rfl (congrArg Value.bool hg1)) rfl (by decide) (x_len_slc rfl Try.underlying22) ?_)
    refine WL_cons (WO_val (v := (.bool (decide (((l.length : Nat) : Int) ≤ i)))) (on_guard rfl rfl (congrArg Value.bool hg1)) rfl (by decide) (x_geq (a := i) (b := ((l.length : Nat) : Int)) rfl rfl) ?_)
    refine WL_cons (WO_val (v := (.bool (decide (((l.length : Nat) : Int) ≤ i)))) (on_none rfl) rfl (by decide) (x_pick_f (congrArg Value.bool hg1)) ?_)
    refine WL_nil ?_
    show WC Try.prog 19 _ _ _ _
    refine WC_cond (t := decide (((l.length : Nat) : Int) ≤ i)) rfl (fun hc1 => ?_) (fun hc1 => ?_)
    · show WC Try.prog 19 _ _ _ _
      have hc1_ := of_decide_eq_true hc1
      refine WC_seq ?_
      refine WC_region ?_
      refine WL_cons (WO_val (v := (.slice none 0 0)) (on_none rfl) rfl (by decide) (x_as (v := (.slice none 0 0)) rfl) ?_)
      refine WL_cons (WO_val (v := (.int .i64 5)) (on_none rfl) rfl (by decide) (x_as (v := (.int .i64 5)) rfl) ?_)
      refine WL_nil ?_
      show WC Try.prog 19 _ _ _ _
      refine WC_ret ?_
      refine thenR ?_
      show retQ Try.prog Try.f6 _ .ret _ _
      have hin : inL i l = false := inL_f (by omega)
      rw [proveL_f hin, errL_f hin]
      exact ret2 (fn := Try.f6) (v := (.slice none 0 0)) (v' := .int .i64 5) rfl rfl rfl ⟨_, _, _, rfl, SL.new_nil S⟩
    · show WC Try.prog 19 _ _ _ _
      have hc1_ := of_decide_eq_false hc1
      refine WC_skip ?_
      replace S := SL.own_nil S hv 26 32
      show WC Try.prog 19 _ _ _ _
      refine WC_seq ?_
      refine WC_region ?_
      refine WL_cons (WO_alloc (row := #[(.slice none 0 0)]) S (on_none rfl) (by decide) ti22 rfl ?_)
      intro g2 wg2 S
      refine WL_nil ?_
      show WC Try.prog 19 _ _ _ _
      refine WC_seq ?_
      refine WC_region ?_
      refine WL_cons (WO_val (v := (.slice A l.length c)) (on_none rfl) rfl (by decide) (x_mv (v := (.slice A l.length c)) rfl) ?_)
      refine WL_cons (WO_val (v := (.func (.func 15) #[] #[(.pointer (some ⟨g1, 0, none⟩)), (.pointer (some ⟨g2, 0, none⟩))])) (on_none rfl) rfl (by decide) (x_mkFunc (by simp) (by simp only [List.map_toArray, List.map_cons, List.map_nil]; rfl)) ?_)
      have S_ : SL w ([own hv 26 32 (.slice none 0 0) ([]), blk g2 22 (#[(.slice none 0 0)]), blk g1 3 (#[(.int .i64 i)])]) wg2 := SL.front [_] S
      replace S := S_
      clear S_
      have S_ : SL w ([blk g2 22 (#[(.slice none 0 0)]), own hv 26 32 (.slice none 0 0) ([]), blk g1 3 (#[(.int .i64 i)])]) wg2 := SL.front [_] S
      replace S := S_
      clear S_
      have S_ : SL w ([blk g1 3 (#[(.int .i64 i)]), blk g2 22 (#[(.slice none 0 0)]), own hv 26 32 (.slice none 0 0) ([])]) wg2 := SL.front [_, _] S
      replace S := S_
      clear S_
      have hcl : Has w (slc (pur hv) 32) (.slice A l.length c) l := hP
      refine WL_cons (WO_call (on_none rfl) rfl (by decide) (x_call2 Try.func14 rfl rfl rfl rfl rfl) (rowsp_c l (by omega) (by omega) (by omega) hcl S) ?_)
      rintro _ wc1 ⟨Ap1, mp1, cp1, ip1, rfl, S⟩
      refine ⟨_, rfl, ?_⟩
      refine WL_nil ?_
      show WC Try.prog 19 _ _ _ _
      refine WC_seq ?_
      refine WC_region ?_
      refine WL_cons (WO_val (v := (.slice Ap1 mp1 cp1)) (on_none rfl) rfl (by decide) (x_load_cell (v := (.slice Ap1 mp1 cp1)) rfl (cell_row (S.blk_get (.there _ (.here _))) rfl) Try.underlying22 rfl) ?_)
      refine WL_cons (WO_val (v := (.slice Ap1 mp1 cp1)) (on_none rfl) rfl (by decide) (x_as (v := (.slice Ap1 mp1 cp1)) rfl) ?_)
      refine WL_cons (WO_val (v := (.int .i64 0)) (on_none rfl) rfl (by decide) (x_as (v := (.int .i64 0)) rfl) ?_)
      refine WL_nil ?_
      show WC Try.prog 19 _ _ _ _
      refine WC_ret ?_
      show retQ Try.prog Try.f6 _ .ret _ _
      have hin : inL i l = true := inL_t (by omega) (by omega)
      rw [proveL_t hin, errL_t hin]
      replace S := S.own_to_val hvsz (.there _ (.there _ (.here _)))
      exact ret2 (fn := Try.f6) (v := (.slice Ap1 mp1 cp1)) (v' := .int .i64 0) rfl rfl rfl ⟨_, _, _, rfl, S.to_new (.there _ (.there _ (.here _)))⟩

/-- The climb. -/
def chkL (n : Int) (want top : H) (i wide : Int) (p : List H) : Bool :=
  if h : 1 < wide then
    if oth i < wide then (if p.length = 0 then false else chkL n want (if i % 2 = 0 then pairH top (hat p 0) else pairH (hat p 0) top) (i / 2) ((wide + 1) / 2) (p.drop 1))
    else chkL n want top (i / 2) ((wide + 1) / 2) p
  else decide (p.length = 0) && decide (rootH n top = want)
termination_by wide.toNat
decreasing_by all_goals omega
theorem chkL_even {n : Int} {want top : H} {i wide : Int} {p : List H} (h1 : 1 < wide) (h2 : bitop .xor .i64 i 1 < wide) (h3 : ¬ p.length = 0) (h4 : i % 2 = 0) : chkL n want top i wide p = chkL n want (pairH top (hat p 0)) (i / 2) ((wide + 1) / 2) (p.drop 1) := by
  rw [chkL.eq_1 n want top i wide p, dif_pos h1, if_pos (show oth i < wide from h2), if_neg h3, if_pos h4]
theorem chkL_odd {n : Int} {want top : H} {i wide : Int} {p : List H} (h1 : 1 < wide) (h2 : bitop .xor .i64 i 1 < wide) (h3 : ¬ p.length = 0) (h4 : ¬ i % 2 = 0) : chkL n want top i wide p = chkL n want (pairH (hat p 0) top) (i / 2) ((wide + 1) / 2) (p.drop 1) := by
  rw [chkL.eq_1 n want top i wide p, dif_pos h1, if_pos (show oth i < wide from h2), if_neg h3, if_neg h4]
theorem chkL_past {n : Int} {want top : H} {i wide : Int} {p : List H} (h1 : 1 < wide) (h2 : ¬ bitop .xor .i64 i 1 < wide) : chkL n want top i wide p = chkL n want top (i / 2) ((wide + 1) / 2) p := by
  rw [chkL.eq_1 n want top i wide p, dif_pos h1, if_neg (show ¬ oth i < wide from h2)]
theorem chkL_none {n : Int} {want top : H} {i wide : Int} {p : List H} (h1 : 1 < wide) (h2 : bitop .xor .i64 i 1 < wide) (h3 : p.length = 0) : chkL n want top i wide p = false := by
  rw [chkL.eq_1 n want top i wide p, dif_pos h1, if_pos (show oth i < wide from h2), if_pos h3]
theorem chkL_end {n : Int} {want top : H} {i wide : Int} {p : List H} (h1 : ¬ 1 < wide) : chkL n want top i wide p = (decide (p.length = 0) && decide (rootH n top = want)) := by
  rw [chkL.eq_1 n want top i wide p, dif_neg h1]
theorem chkL_end_t {n : Int} {want top : H} {i wide : Int} {p : List H} (h1 : ¬ 1 < wide) (h : p.length = 0) : chkL n want top i wide p = decide (rootH n top = want) := by rw [chkL_end h1, decide_eq_true h, Bool.true_and]
theorem chkL_end_f {n : Int} {want top : H} {i wide : Int} {p : List H} (h1 : ¬ 1 < wide) (h : ¬ p.length = 0) : chkL n want top i wide p = false := by rw [chkL_end h1, decide_eq_false h, Bool.false_and]
def checkB (want : H) (n i : Int) (h : H) (p : List H) : Bool := if i < 0 ∨ n ≤ i ∨ 1048576 < n then false else chkL n want (leafH h) i n p

theorem Check_c (w : World) {A : Option Addr} {m c : Nat} (want : H) (n i0 : Int) (h : H) (p0 : List H) (hP : Has w (slc (pur hv) 32) (.slice A m c) p0) :
    Calls Try.prog 10 #[(.agg (hv want)), (.int .i64 n), (.int .i64 i0), (.agg (hv h)), (.slice A p0.length c)] w (fun e w' => e = .returned (.bool (checkB want n i0 h p0)) ∧ Below w.heap.size w w') := by
  obtain ⟨rfl, hnc, hcm⟩ := hP.len
  refine calls_WC (c := _) (n := 66) (vs := [(.agg (hv want)), (.int .i64 n), (.int .i64 i0), (.agg (hv h)), (.slice A p0.length c)]) Try.func10 rfl Try.ntmps10 (Nat.le_of_ble_eq_true rfl) ?_
  have S := SL.start w
  refine WC_seq ?_
  refine WC_region ?_
  refine WL_cons (WO_box (v := (.agg (hv want))) (row := hv want) S (on_none rfl) (by decide) rfl rfl ?_)
  intro g1 wg1 S
  refine WL_cons (WO_box (v := (.agg (hv h))) (row := hv h) S (on_none rfl) (by decide) rfl rfl ?_)
  intro g2 wg2 S
  refine WL_cons (WO_val (v := (.bool false)) (on_none rfl) rfl (by decide) (x_as (v := (.bool false)) rfl) ?_)
  refine WL_nil ?_
  show WC Try.prog 66 _ _ _ _
  refine WC_seq ?_
  refine WC_seq ?_
  rcases Bool.eq_false_or_eq_true (decide (i0 < 0)) with hg1 | hg1
  · skip
    have hg1_ := of_decide_eq_true hg1
    refine WC_region ?_
    refine WL_cons (WO_val (v := (.int .i64 i0)) (on_none rfl) rfl (by decide) (x_mv (v := (.int .i64 i0)) rfl) ?_)
    refine WL_cons (WO_val (v := (.bool (decide (i0 < 0)))) (on_none rfl) rfl (by decide) (x_lss (a := i0) (b := 0) rfl rfl) ?_)
    refine WL_cons (WO_val (v := (.bool (decide (i0 < 0)))) (on_none rfl) rfl (by decide) (x_mv (v := (.bool (decide (i0 < 0)))) rfl) ?_)
    refine WL_cons (WO_off (off_guard rfl rfl (congrArg Value.bool hg1)) rfl (by decide) ?_)
    refine WL_cons (WO_off (off_guard rfl rfl (congrArg Value.bool hg1)) rfl (by decide) ?_)
    refine WL_cons (WO_off (off_guard rfl rfl (congrArg Value.bool hg1)) rfl (by decide) ?_)
    refine WL_cons (WO_val (v := (.bool true)) (on_none rfl) rfl (by decide) (x_pick_t (congrArg Value.bool hg1)) ?_)
    refine WL_cons (WO_val (v := (.bool true)) (on_none rfl) rfl (by decide) (x_mv (v := (.bool true)) rfl) ?_)
    refine WL_cons (WO_off (off_guard rfl rfl rfl) rfl (by decide) ?_)
    refine WL_cons (WO_off (off_guard rfl rfl rfl) rfl (by decide) ?_)
    refine WL_cons (WO_val (v := (.bool true)) (on_none rfl) rfl (by decide) (x_pick_t rfl) ?_)
    refine WL_nil ?_
    show WC Try.prog 66 _ _ _ _
    refine WC_cond (t := true) rfl (fun _ => ?_) (fun h => by cases h)
    show WC Try.prog 66 _ _ _ _
    refine WC_seq ?_
    refine WC_region ?_
    refine WL_cons (WO_val (v := (.bool false)) (on_none rfl) rfl (by decide) (x_as (v := (.bool false)) rfl) ?_)
    refine WL_nil ?_
    show WC Try.prog 66 _ _ _ _
    refine WC_ret ?_
    refine thenR ?_
    show retQ Try.prog Try.f10 _ .ret _ _
    have hB : (false : Bool) = checkB want n i0 h p0 := by
      first
        | (rw [checkB, if_pos (by omega)]; done)
        | (rw [checkB, if_neg (by omega), ← hR, chkL_none (by omega) (by omega) (by omega)]; done)
        | (rw [checkB, if_neg (by omega), ← hR, chkL_end_f (by omega) (by omega)]; done)
        | (rw [checkB, if_neg (by omega), ← hR, chkL_end_t (by omega) (by omega)]; done)
    exact ret1 (fn := Try.f10) (v := (.bool false)) rfl rfl ⟨by rw [hB], S.below⟩
  · skip
    have hg1_ := of_decide_eq_false hg1
    rcases Bool.eq_false_or_eq_true (decide (n ≤ i0)) with hg2 | hg2
    · skip
      have hg2_ := of_decide_eq_true hg2
      refine WC_region ?_
      refine WL_cons (WO_val (v := (.int .i64 i0)) (on_none rfl) rfl (by decide) (x_mv (v := (.int .i64 i0)) rfl) ?_)
      refine WL_cons (WO_val (v := (.bool (decide (i0 < 0)))) (on_none rfl) rfl (by decide) (x_lss (a := i0) (b := 0) rfl rfl) ?_)
      refine WL_cons (WO_val (v := (.bool (decide (i0 < 0)))) (on_none rfl) rfl (by decide) (x_mv (v := (.bool (decide (i0 < 0)))) rfl) ?_)
      refine WL_cons (WO_val (v := (.int .i64 i0)) (on_guard rfl rfl (congrArg Value.bool hg1)) rfl (by decide) (x_mv (v := (.int .i64 i0)) rfl) ?_)
      refine WL_cons (WO_val (v := (.int .i64 n)) (on_guard rfl rfl (congrArg Value.bool hg1)) rfl (by decide) (x_mv (v := (.int .i64 n)) rfl) ?_)
      refine WL_cons (WO_val (v := (.bool (decide (n ≤ i0)))) (on_guard rfl rfl (congrArg Value.bool hg1)) rfl (by decide) (x_geq (a := i0) (b := n) rfl rfl) ?_)
      refine WL_cons (WO_val (v := (.bool (decide (n ≤ i0)))) (on_none rfl) rfl (by decide) (x_pick_f (congrArg Value.bool hg1)) ?_)
      refine WL_cons (WO_val (v := (.bool (decide (n ≤ i0)))) (on_none rfl) rfl (by decide) (x_mv (v := (.bool (decide (n ≤ i0)))) rfl) ?_)
      refine WL_cons (WO_off (off_guard rfl rfl (congrArg Value.bool hg2)) rfl (by decide) ?_)
      refine WL_cons (WO_off (off_guard rfl rfl (congrArg Value.bool hg2)) rfl (by decide) ?_)
      refine WL_cons (WO_val (v := (.bool true)) (on_none rfl) rfl (by decide) (x_pick_t (congrArg Value.bool hg2)) ?_)
      refine WL_nil ?_
      show WC Try.prog 66 _ _ _ _
      refine WC_cond (t := true) rfl (fun _ => ?_) (fun h => by cases h)
      show WC Try.prog 66 _ _ _ _
      refine WC_seq ?_
      refine WC_region ?_
      refine WL_cons (WO_val (v := (.bool false)) (on_none rfl) rfl (by decide) (x_as (v := (.bool false)) rfl) ?_)
      refine WL_nil ?_
      show WC Try.prog 66 _ _ _ _
      refine WC_ret ?_
      refine thenR ?_
      show retQ Try.prog Try.f10 _ .ret _ _
      have hB : (false : Bool) = checkB want n i0 h p0 := by
        first
          | (rw [checkB, if_pos (by omega)]; done)
          | (rw [checkB, if_neg (by omega), ← hR, chkL_none (by omega) (by omega) (by omega)]; done)
          | (rw [checkB, if_neg (by omega), ← hR, chkL_end_f (by omega) (by omega)]; done)
          | (rw [checkB, if_neg (by omega), ← hR, chkL_end_t (by omega) (by omega)]; done)
      exact ret1 (fn := Try.f10) (v := (.bool false)) rfl rfl ⟨by rw [hB], S.below⟩
    · skip
      have hg2_ := of_decide_eq_false hg2
      refine WC_region ?_
      refine WL_cons (WO_val (v := (.int .i64 i0)) (on_none rfl) rfl (by decide) (x_mv (v := (.int .i64 i0)) rfl) ?_)
      refine WL_cons (WO_val (v := (.bool (decide (i0 < 0)))) (on_none rfl) rfl (by decide) (x_lss (a := i0) (b := 0) rfl rfl) ?_)
      refine WL_cons (WO_val (v := (.bool (decide (i0 < 0)))) (on_none rfl) rfl (by decide) (x_mv (v := (.bool (decide (i0 < 0)))) rfl) ?_)
      refine WL_cons (WO_val (v := (.int .i64 i0)) (on_guard rfl rfl (congrArg Value.bool hg1)) rfl (by decide) (x_mv (v := (.int .i64 i0)) rfl) ?_)
      refine WL_cons (WO_val (v := (.int .i64 n)) (on_guard rfl rfl (congrArg Value.bool hg1)) rfl (by decide) (x_mv (v := (.int .i64 n)) rfl) ?_)
      refine WL_cons (WO_val (v := (.bool (decide (n ≤ i0)))) (on_guard rfl rfl (congrArg Value.bool hg1)) rfl (by decide) (x_geq (a := i0) (b := n) rfl rfl) ?_)
      refine WL_cons (WO_val (v := (.bool (decide (n ≤ i0)))) (on_none rfl) rfl (by decide) (x_pick_f (congrArg Value.bool hg1)) ?_)
      refine WL_cons (WO_val (v := (.bool (decide (n ≤ i0)))) (on_none rfl) rfl (by decide) (x_mv (v := (.bool (decide (n ≤ i0)))) rfl) ?_)
      refine WL_cons (WO_val (v := (.int .i64 n)) (on_guard rfl rfl (congrArg Value.bool hg2)) rfl (by decide) (x_mv (v := (.int .i64 n)) rfl) ?_)
      refine WL_cons (WO_val (v := (.bool (decide (1048576 < n)))) (on_guard rfl rfl (congrArg Value.bool hg2)) rfl (by decide) (x_gtr (a := n) (b := 1048576) rfl rfl) ?_)
      refine WL_cons (WO_val (v := (.bool (decide (1048576 < n)))) (on_none rfl) rfl (by decide) (x_pick_f (congrArg Value.bool hg2)) ?_)
      refine WL_nil ?_
      show WC Try.prog 66 _ _ _ _
      refine WC_cond (t := decide (1048576 < n)) rfl (fun hc1 => ?_) (fun hc1 => ?_)
      · show WC Try.prog 66 _ _ _ _
        have hc1_ := of_decide_eq_true hc1
        refine WC_seq ?_
        refine WC_region ?_
        refine WL_cons (WO_val (v := (.bool false)) (on_none rfl) rfl (by decide) (x_as (v := (.bool false)) rfl) ?_)
        refine WL_nil ?_
        show WC Try.prog 66 _ _ _ _
        refine WC_ret ?_
        refine thenR ?_
        show retQ Try.prog Try.f10 _ .ret _ _
        have hB : (false : Bool) = checkB want n i0 h p0 := by
          first
            | (rw [checkB, if_pos (by omega)]; done)
            | (rw [checkB, if_neg (by omega), ← hR, chkL_none (by omega) (by omega) (by omega)]; done)
            | (rw [checkB, if_neg (by omega), ← hR, chkL_end_f (by omega) (by omega)]; done)
            | (rw [checkB, if_neg (by omega), ← hR, chkL_end_t (by omega) (by omega)]; done)
        exact ret1 (fn := Try.f10) (v := (.bool false)) rfl rfl ⟨by rw [hB], S.below⟩
      · show WC Try.prog 66 _ _ _ _
        have hc1_ := of_decide_eq_false hc1
        refine WC_skip ?_
        show WC Try.prog 66 _ _ _ _
        refine WC_seq ?_
        refine WC_region ?_
        refine WL_cons (WO_val (v := (.agg (hv h))) (on_none rfl) rfl (by decide) (x_load_row rfl (S.blk_get (.here _)) Try.underlying26 rfl ti26.sz (hv_size _)) ?_)
        refine WL_cons (WO_call (on_none rfl) rfl (by decide) (x_call1 Try.func22 rfl rfl rfl rfl) (leaf_c h _) ?_)
        rintro _ wc1 ⟨rfl, hb⟩
        refine ⟨_, rfl, ?_⟩
        replace S := S.keep hb
        clear hb
        refine WL_cons (WO_alloc (row := hv zeroH) S (on_none rfl) (by decide) ti26 rfl ?_)
        intro g3 wg3 S
        refine WL_cons (WO_store (v := (.agg (hv (leafH h)))) (row := hv zeroH) (row' := hv (leafH h)) S (on_none rfl) rfl rfl (.here _) ti26.sz (hv_size _) (by rw [hv_size]; exact Nat.le_refl _) (bv_one _) (splice_all _ _ (((hv_size _)).trans ((hv_size _)).symm)) ?_)
        intro ws1 S
        refine WL_nil ?_
        show WC Try.prog 66 _ _ _ _
        refine WC_seq ?_
        refine WC_seq ?_
        refine WC_region ?_
        refine WL_cons (WO_val (v := (.int .i64 n)) (on_none rfl) rfl (by decide) (x_mv (v := (.int .i64 n)) rfl) ?_)
        refine WL_cons (WO_val (v := (.int .i64 n)) (on_none rfl) rfl (by decide) (x_as (v := (.int .i64 n)) rfl) ?_)
        refine WL_nil ?_
        show WC Try.prog 66 _ _ _ _
        refine WC_block ?_
        refine WC_loop (fun kq e' w' => ∃ (i : Int) (wide : Int) (p : List H) (Ap : Option Addr) (mp : Nat) (cp : Nat) (top : H) (eb : Env), e' = updL eb [(1, (.int .i64 n)), (2, (.int .i64 i)), (4, (.slice Ap mp cp)), (5, (.pointer (some ⟨g1, 0, none⟩))), (11, (.pointer (some ⟨g3, 0, none⟩))), (12, (.int .i64 wide))] ∧ SL w [blk g3 26 (hv top), blk g2 26 (hv h), blk g1 26 (hv want)] w' ∧ (0 ≤ i ∧ i ≤ 1048576) ∧ (0 ≤ wide ∧ wide ≤ 1048576) ∧ (chkL n want top i wide p = chkL n want (leafH h) i0 n p0) ∧ (Has w (slc (pur hv) 32) (.slice Ap mp cp) p) ∧ wide.toNat = kq) (k := _) ⟨i0, n, p0, A, p0.length, c, (leafH h), _, (updL_eq _ _ (by exact ⟨rfl, rfl, rfl, rfl, rfl, rfl, trivial⟩)).symm, S, (by omega), (by omega), rfl, hP, rfl⟩ ?_
        clear S
        rintro k1 e1 wl1 ⟨i, wide, p, Ap, mp, cp, top, eb, rfl, S, hi, hw, hR, hPp, rfl⟩
        show WC Try.prog 66 _ _ _ _
        obtain ⟨rfl, hpc, hpm⟩ := hPp.len
        have hox := xor1_nn i (by omega) (by omega)
        refine WC_seq ?_
        refine WC_seq ?_
        refine WC_region ?_
        refine WL_cons (WO_val (v := (.int .i64 wide)) (on_none rfl) rfl (by decide) (x_mv (v := (.int .i64 wide)) rfl) ?_)
        refine WL_cons (WO_val (v := (.bool (decide (1 < wide)))) (on_none rfl) rfl (by decide) (x_gtr (a := wide) (b := 1) rfl rfl) ?_)
        refine WL_nil ?_
        show WC Try.prog 66 _ _ _ _
        refine WC_cond (t := decide (1 < wide)) rfl (fun hc2 => ?_) (fun hc2 => ?_)
        · show WC Try.prog 66 _ _ _ _
          have hc2_ := of_decide_eq_true hc2
          refine WC_skip ?_
          show WC Try.prog 66 _ _ _ _
          refine WC_seq ?_
          refine WC_block ?_
          refine WC_seq ?_
          refine WC_seq ?_
          refine WC_region ?_
          refine WL_cons (WO_val (v := (.int .i64 i)) (on_none rfl) rfl (by decide) (x_mv (v := (.int .i64 i)) rfl) ?_)
          refine WL_cons (WO_val (v := (.int .i64 (bitop .xor .i64 i 1))) (on_none rfl) rfl (by decide) (x_xor (a := i) (b := 1) rfl rfl) ?_)
          refine WL_cons (WO_val (v := (.int .i64 wide)) (on_none rfl) rfl (by decide) (x_mv (v := (.int .i64 wide)) rfl) ?_)
          refine WL_cons (WO_val (v := (.bool (decide (bitop .xor .i64 i 1 < wide)))) (on_none rfl) rfl (by decide) (x_lss (a := bitop .xor .i64 i 1) (b := wide) rfl rfl) ?_)
          refine WL_nil ?_
          show WC Try.prog 66 _ _ _ _
          refine WC_cond (t := decide (bitop .xor .i64 i 1 < wide)) rfl (fun hc3 => ?_) (fun hc3 => ?_)
          · show WC Try.prog 66 _ _ _ _
            have hc3_ := of_decide_eq_true hc3
            refine WC_seq ?_
            refine WC_seq ?_
            refine WC_region ?_
            refine WL_cons (WO_val (v := (.slice Ap p.length cp)) (on_none rfl) rfl (by decide) (x_mv (v := (.slice Ap p.length cp)) rfl) ?_)
            refine WL_cons (WO_val (v := (.int .i64 ((p.length : Nat) : Int))) (on_none rfl) rfl (by decide) (x_len_slc rfl Try.underlying22) ?_)
            refine WL_cons (WO_val (v := (.bool (decide (((p.length : Nat) : Int) = 0)))) (on_none rfl) rfl (by decide) (x_eql (a := ((p.length : Nat) : Int)) (b := 0) rfl rfl) ?_)
            refine WL_nil ?_
            show WC Try.prog 66 _ _ _ _
            refine WC_cond (t := decide (((p.length : Nat) : Int) = 0)) rfl (fun hc4 => ?_) (fun hc4 => ?_)
            · show WC Try.prog 66 _ _ _ _
              have hc4_ := of_decide_eq_true hc4
              refine WC_seq ?_
              refine WC_region ?_
              refine WL_cons (WO_val (v := (.bool false)) (on_none rfl) rfl (by decide) (x_as (v := (.bool false)) rfl) ?_)
              refine WL_nil ?_
              show WC Try.prog 66 _ _ _ _
              refine WC_ret ?_
              refine thenR ?_
              refine thenR ?_
              refine blockR ?_
              refine thenR ?_
              refine thenR ?_
              refine blockR ?_
              refine thenR ?_
              show retQ Try.prog Try.f10 _ .ret _ _
              have hB : (false : Bool) = checkB want n i0 h p0 := by
                first
                  | (rw [checkB, if_pos (by omega)]; done)
                  | (rw [checkB, if_neg (by omega), ← hR, chkL_none (by omega) (by omega) (by omega)]; done)
                  | (rw [checkB, if_neg (by omega), ← hR, chkL_end_f (by omega) (by omega)]; done)
                  | (rw [checkB, if_neg (by omega), ← hR, chkL_end_t (by omega) (by omega)]; done)
              exact ret1 (fn := Try.f10) (v := (.bool false)) rfl rfl ⟨by rw [hB], S.below⟩
            · show WC Try.prog 66 _ _ _ _
              have hc4_ := of_decide_eq_false hc4
              refine WC_skip ?_
              show WC Try.prog 66 _ _ _ _
              refine WC_seq ?_
              refine WC_seq ?_
              refine WC_region ?_
              refine WL_cons (WO_val (v := (.int .i64 i)) (on_none rfl) rfl (by decide) (x_mv (v := (.int .i64 i)) rfl) ?_)
              refine WL_cons (WO_val (v := (.int .i64 (i % 2))) (on_none rfl) rfl (by decide) (x_rem (a := i) (b := 2) rfl rfl (by omega) (by omega)) ?_)
              refine WL_cons (WO_val (v := (.bool (decide (i % 2 = 0)))) (on_none rfl) rfl (by decide) (x_eql (a := i % 2) (b := 0) rfl rfl) ?_)
              refine WL_nil ?_
              show WC Try.prog 66 _ _ _ _
              refine WC_cond (t := decide (i % 2 = 0)) rfl (fun hc5 => ?_) (fun hc5 => ?_)
              · show WC Try.prog 66 _ _ _ _
                have hc5_ := of_decide_eq_true hc5
                refine WC_draw (S := fun wx => wx.heap[g3]? = some (.cells (hv top) 26 (0, 0)) ∧ Has wx (slc (pur hv) 32) (.slice Ap p.length cp) p ∧ True) (Z := [5]) rfl ?_
                replace S := S.drew
                have hS : (World.drew wl1).heap[g3]? = some (.cells (hv top) 26 (0, 0)) ∧ Has (World.drew wl1) (slc (pur hv) 32) (.slice Ap p.length cp) p ∧ True := ⟨(S.blk_get (.here _)), (S.old hPp), trivial⟩
                show WD Try.prog 66 _ _ _ _ 6 [] _ _
                refine WD_look (v := (.agg (hv top))) (i := 0) rfl (by kernel_rfl) rfl (by decide) (on_none rfl) (fun wx hs => (x_load_row rfl (hs.1) Try.underlying26 rfl ti26.sz (hv_size _))) hS ?_
                show WD Try.prog 66 _ _ _ _ 5 _ _ _
                refine WD_look (v := (.slice Ap p.length cp)) (i := 1) rfl (by kernel_rfl) rfl (by decide) (on_none rfl) (fun wx hs => (x_mv (v := (.slice Ap p.length cp)) rfl)) hS ?_
                show WD Try.prog 66 _ _ _ _ 4 _ _ _
                refine WD_look (v := (eaddr Ap ((0 : Int).toNat * 32))) (i := 2) rfl (by kernel_rfl) rfl (by decide) (on_none rfl) (fun wx hs => (x_index_slc (i := 0) rfl rfl Try.underlying22 ti26.sz (by omega) (by omega) (Has.some (hs.2.1) (by omega)))) hS ?_
                show WD Try.prog 66 _ _ _ _ 3 _ _ _
                refine WD_look (v := (.agg (hv (hat p 0)))) (i := 3) rfl (by kernel_rfl) rfl (by decide) (on_none rfl) (fun wx hs => (x_el (x := hat p 0) (hs.2.1) (hat_some (by omega) (by omega)) rfl Try.underlying26 rfl ti26.sz)) hS ?_
                show WD Try.prog 66 _ _ _ _ 2 _ _ _
                refine WD_one (i := 4) rfl (by kernel_rfl) (WO_call (on_none rfl) rfl (by decide) (x_call2 Try.func23 rfl rfl rfl rfl rfl) (pair_c top (hat p 0) _) ?_)
                rintro _ wc2 ⟨rfl, hb⟩
                refine ⟨_, rfl, ?_⟩
                replace S := S.keep hb
                clear hb
                replace hS : wc2.heap[g3]? = some (.cells (hv top) 26 (0, 0)) ∧ Has wc2 (slc (pur hv) 32) (.slice Ap p.length cp) p ∧ True := ⟨(S.blk_get (.here _)), (S.old hPp), trivial⟩
                refine ⟨.inl hS, ?_⟩
                refine WD_one (i := 5) rfl (by kernel_rfl) (WO_store (v := (.agg (hv (pairH top (hat p 0))))) (row := hv top) (row' := hv (pairH top (hat p 0))) S (on_none rfl) rfl rfl (.here _) ti26.sz (hv_size _) (by rw [hv_size]; exact Nat.le_refl _) (bv_one _) (splice_all _ _ (((hv_size _)).trans ((hv_size _)).symm)) ?_)
                intro ws2 S
                refine ⟨.inr rfl, ?_⟩
                refine WD_done (by kernel_rfl) ?_
                clear hS
                show WC Try.prog 66 _ _ _ _
                refine WC_region ?_
                refine WL_cons (WO_val (v := (.slice Ap p.length cp)) (on_none rfl) rfl (by decide) (x_mv (v := (.slice Ap p.length cp)) rfl) ?_)
                refine WL_cons (WO_val (v := (.slice (sloA Ap cp (1 : Int).toNat 32) (p.length - (1 : Int).toNat) (cp - (1 : Int).toNat))) (on_none rfl) rfl (by decide) (x_slice_lo (a := 1) rfl rfl Try.underlying22 ti26.sz (by omega) (by omega)) ?_)
                refine WL_cons (WO_val (v := (.slice (sloA Ap cp (1 : Int).toNat 32) (p.length - (1 : Int).toNat) (cp - (1 : Int).toNat))) (on_none rfl) rfl (by decide) (x_as (v := (.slice (sloA Ap cp (1 : Int).toNat 32) (p.length - (1 : Int).toNat) (cp - (1 : Int).toNat))) rfl) ?_)
                refine WL_nil ?_
                show WC Try.prog 66 _ _ _ _
                refine WC_region ?_
                refine WL_cons (WO_val (v := (.int .i64 i)) (on_none rfl) rfl (by decide) (x_mv (v := (.int .i64 i)) rfl) ?_)
                refine WL_cons (WO_val (v := (.int .i64 (i / 2))) (on_none rfl) rfl (by decide) (x_quo (a := i) (b := 2) rfl rfl (by omega) (by omega) (wi64 (by omega))) ?_)
                refine WL_cons (WO_val (v := (.int .i64 (i / 2))) (on_none rfl) rfl (by decide) (x_as (v := (.int .i64 (i / 2))) rfl) ?_)
                refine WL_nil ?_
                show WC Try.prog 66 _ _ _ _
                refine WC_region ?_
                refine WL_cons (WO_val (v := (.int .i64 wide)) (on_none rfl) rfl (by decide) (x_mv (v := (.int .i64 wide)) rfl) ?_)
                refine WL_cons (WO_val (v := (.int .i64 (wide + 1))) (on_none rfl) rfl (by decide) (x_add (a := wide) (b := 1) rfl rfl (wi64 (by omega))) ?_)
                refine WL_cons (WO_val (v := (.int .i64 ((wide + 1) / 2))) (on_none rfl) rfl (by decide) (x_quo (a := wide + 1) (b := 2) rfl rfl (by omega) (by omega) (wi64 (by omega))) ?_)
                refine WL_cons (WO_val (v := (.int .i64 ((wide + 1) / 2))) (on_none rfl) rfl (by decide) (x_as (v := (.int .i64 ((wide + 1) / 2))) rfl) ?_)
                refine WL_nil ?_
                refine ⟨_, ?_, i / 2, (wide + 1) / 2, (p.drop 1), sloA Ap cp (1 : Int).toNat 32, p.length - (1 : Int).toNat, cp - (1 : Int).toNat, (pairH top (hat p 0)), _, (updL_eq _ _ (by exact ⟨rfl, rfl, rfl, rfl, rfl, rfl, trivial⟩)).symm, S, (by omega), (by omega), ((chkL_even (by omega) (by omega) (by omega) (by omega)).symm.trans hR), (Has.drop hPp 1 (by omega)), rfl⟩
                omega
              · show WC Try.prog 66 _ _ _ _
                have hc5_ := of_decide_eq_false hc5
                refine WC_draw (S := fun wx => Has wx (slc (pur hv) 32) (.slice Ap p.length cp) p ∧ wx.heap[g3]? = some (.cells (hv top) 26 (0, 0)) ∧ True) (Z := [5]) rfl ?_
                replace S := S.drew
                have hS : Has (World.drew wl1) (slc (pur hv) 32) (.slice Ap p.length cp) p ∧ (World.drew wl1).heap[g3]? = some (.cells (hv top) 26 (0, 0)) ∧ True := ⟨(S.old hPp), (S.blk_get (.here _)), trivial⟩
                show WD Try.prog 66 _ _ _ _ 6 [] _ _
                refine WD_look (v := (.slice Ap p.length cp)) (i := 0) rfl (by kernel_rfl) rfl (by decide) (on_none rfl) (fun wx hs => (x_mv (v := (.slice Ap p.length cp)) rfl)) hS ?_
                show WD Try.prog 66 _ _ _ _ 5 _ _ _
                refine WD_look (v := (eaddr Ap ((0 : Int).toNat * 32))) (i := 1) rfl (by kernel_rfl) rfl (by decide) (on_none rfl) (fun wx hs => (x_index_slc (i := 0) rfl rfl Try.underlying22 ti26.sz (by omega) (by omega) (Has.some (hs.1) (by omega)))) hS ?_
                show WD Try.prog 66 _ _ _ _ 4 _ _ _
                refine WD_look (v := (.agg (hv (hat p 0)))) (i := 2) rfl (by kernel_rfl) rfl (by decide) (on_none rfl) (fun wx hs => (x_el (x := hat p 0) (hs.1) (hat_some (by omega) (by omega)) rfl Try.underlying26 rfl ti26.sz)) hS ?_
                show WD Try.prog 66 _ _ _ _ 3 _ _ _
                refine WD_look (v := (.agg (hv top))) (i := 3) rfl (by kernel_rfl) rfl (by decide) (on_none rfl) (fun wx hs => (x_load_row rfl (hs.2.1) Try.underlying26 rfl ti26.sz (hv_size _))) hS ?_
                show WD Try.prog 66 _ _ _ _ 2 _ _ _
                refine WD_one (i := 4) rfl (by kernel_rfl) (WO_call (on_none rfl) rfl (by decide) (x_call2 Try.func23 rfl rfl rfl rfl rfl) (pair_c (hat p 0) top _) ?_)
                rintro _ wc3 ⟨rfl, hb⟩
                refine ⟨_, rfl, ?_⟩
                replace S := S.keep hb
                clear hb
                replace hS : Has wc3 (slc (pur hv) 32) (.slice Ap p.length cp) p ∧ wc3.heap[g3]? = some (.cells (hv top) 26 (0, 0)) ∧ True := ⟨(S.old hPp), (S.blk_get (.here _)), trivial⟩
                refine ⟨.inl hS, ?_⟩
                refine WD_one (i := 5) rfl (by kernel_rfl) (WO_store (v := (.agg (hv (pairH (hat p 0) top)))) (row := hv top) (row' := hv (pairH (hat p 0) top)) S (on_none rfl) rfl rfl (.here _) ti26.sz (hv_size _) (by rw [hv_size]; exact Nat.le_refl _) (bv_one _) (splice_all _ _ (((hv_size _)).trans ((hv_size _)).symm)) ?_)
                intro ws3 S
                refine ⟨.inr rfl, ?_⟩
                refine WD_done (by kernel_rfl) ?_
                clear hS
                show WC Try.prog 66 _ _ _ _
                refine WC_region ?_
                refine WL_cons (WO_val (v := (.slice Ap p.length cp)) (on_none rfl) rfl (by decide) (x_mv (v := (.slice Ap p.length cp)) rfl) ?_)
                refine WL_cons (WO_val (v := (.slice (sloA Ap cp (1 : Int).toNat 32) (p.length - (1 : Int).toNat) (cp - (1 : Int).toNat))) (on_none rfl) rfl (by decide) (x_slice_lo (a := 1) rfl rfl Try.underlying22 ti26.sz (by omega) (by omega)) ?_)
                refine WL_cons (WO_val (v := (.slice (sloA Ap cp (1 : Int).toNat 32) (p.length - (1 : Int).toNat) (cp - (1 : Int).toNat))) (on_none rfl) rfl (by decide) (x_as (v := (.slice (sloA Ap cp (1 : Int).toNat 32) (p.length - (1 : Int).toNat) (cp - (1 : Int).toNat))) rfl) ?_)
                refine WL_nil ?_
                show WC Try.prog 66 _ _ _ _
                refine WC_region ?_
                refine WL_cons (WO_val (v := (.int .i64 i)) (on_none rfl) rfl (by decide) (x_mv (v := (.int .i64 i)) rfl) ?_)
                refine WL_cons (WO_val (v := (.int .i64 (i / 2))) (on_none rfl) rfl (by decide) (x_quo (a := i) (b := 2) rfl rfl (by omega) (by omega) (wi64 (by omega))) ?_)
                refine WL_cons (WO_val (v := (.int .i64 (i / 2))) (on_none rfl) rfl (by decide) (x_as (v := (.int .i64 (i / 2))) rfl) ?_)
                refine WL_nil ?_
                show WC Try.prog 66 _ _ _ _
                refine WC_region ?_
                refine WL_cons (WO_val (v := (.int .i64 wide)) (on_none rfl) rfl (by decide) (x_mv (v := (.int .i64 wide)) rfl) ?_)
                refine WL_cons (WO_val (v := (.int .i64 (wide + 1))) (on_none rfl) rfl (by decide) (x_add (a := wide) (b := 1) rfl rfl (wi64 (by omega))) ?_)
                refine WL_cons (WO_val (v := (.int .i64 ((wide + 1) / 2))) (on_none rfl) rfl (by decide) (x_quo (a := wide + 1) (b := 2) rfl rfl (by omega) (by omega) (wi64 (by omega))) ?_)
                refine WL_cons (WO_val (v := (.int .i64 ((wide + 1) / 2))) (on_none rfl) rfl (by decide) (x_as (v := (.int .i64 ((wide + 1) / 2))) rfl) ?_)
                refine WL_nil ?_
                refine ⟨_, ?_, i / 2, (wide + 1) / 2, (p.drop 1), sloA Ap cp (1 : Int).toNat 32, p.length - (1 : Int).toNat, cp - (1 : Int).toNat, (pairH (hat p 0) top), _, (updL_eq _ _ (by exact ⟨rfl, rfl, rfl, rfl, rfl, rfl, trivial⟩)).symm, S, (by omega), (by omega), ((chkL_odd (by omega) (by omega) (by omega) (by omega)).symm.trans hR), (Has.drop hPp 1 (by omega)), rfl⟩
                omega
          · show WC Try.prog 66 _ _ _ _
            have hc3_ := of_decide_eq_false hc3
            refine WC_skip ?_
            show WC Try.prog 66 _ _ _ _
            refine WC_region ?_
            refine WL_cons (WO_val (v := (.int .i64 i)) (on_none rfl) rfl (by decide) (x_mv (v := (.int .i64 i)) rfl) ?_)
            refine WL_cons (WO_val (v := (.int .i64 (i / 2))) (on_none rfl) rfl (by decide) (x_quo (a := i) (b := 2) rfl rfl (by omega) (by omega) (wi64 (by omega))) ?_)
            refine WL_cons (WO_val (v := (.int .i64 (i / 2))) (on_none rfl) rfl (by decide) (x_as (v := (.int .i64 (i / 2))) rfl) ?_)
            refine WL_nil ?_
            show WC Try.prog 66 _ _ _ _
            refine WC_region ?_
            refine WL_cons (WO_val (v := (.int .i64 wide)) (on_none rfl) rfl (by decide) (x_mv (v := (.int .i64 wide)) rfl) ?_)
            refine WL_cons (WO_val (v := (.int .i64 (wide + 1))) (on_none rfl) rfl (by decide) (x_add (a := wide) (b := 1) rfl rfl (wi64 (by omega))) ?_)
            refine WL_cons (WO_val (v := (.int .i64 ((wide + 1) / 2))) (on_none rfl) rfl (by decide) (x_quo (a := wide + 1) (b := 2) rfl rfl (by omega) (by omega) (wi64 (by omega))) ?_)
            refine WL_cons (WO_val (v := (.int .i64 ((wide + 1) / 2))) (on_none rfl) rfl (by decide) (x_as (v := (.int .i64 ((wide + 1) / 2))) rfl) ?_)
            refine WL_nil ?_
            refine ⟨_, ?_, i / 2, (wide + 1) / 2, p, Ap, p.length, cp, top, _, (updL_eq _ _ (by exact ⟨rfl, rfl, rfl, rfl, rfl, rfl, trivial⟩)).symm, S, (by omega), (by omega), ((chkL_past (by omega) (by omega)).symm.trans hR), hPp, rfl⟩
            omega
        · show WC Try.prog 66 _ _ _ _
          have hc2_ := of_decide_eq_false hc2
          refine WC_exit ?_
          show WC Try.prog 66 _ _ _ _
          refine WC_seq ?_
          rcases Bool.eq_false_or_eq_true (decide (((p.length : Nat) : Int) = 0)) with hg3 | hg3
          · skip
            have hg3_ := of_decide_eq_true hg3
            refine WC_draw (S := fun wx => wx.heap[g3]? = some (.cells (hv top) 26 (0, 0)) ∧ wx.heap[g1]? = some (.cells (hv want) 26 (0, 0)) ∧ True) (Z := []) rfl ?_
            replace S := S.drew
            have hS : (World.drew wl1).heap[g3]? = some (.cells (hv top) 26 (0, 0)) ∧ (World.drew wl1).heap[g1]? = some (.cells (hv want) 26 (0, 0)) ∧ True := ⟨(S.blk_get (.here _)), (S.blk_get (.there _ (.there _ (.here _)))), trivial⟩
            show WD Try.prog 66 _ _ _ _ 11 [] _ _
            refine WD_look (v := (.slice Ap p.length cp)) (i := 0) rfl (by kernel_rfl) rfl (by decide) (on_none rfl) (fun wx hs => (x_mv (v := (.slice Ap p.length cp)) rfl)) hS ?_
            show WD Try.prog 66 _ _ _ _ 10 _ _ _
            refine WD_look (v := (.int .i64 ((p.length : Nat) : Int))) (i := 1) rfl (by kernel_rfl) rfl (by decide) (on_none rfl) (fun wx hs => (x_len_slc rfl Try.underlying22)) hS ?_
            show WD Try.prog 66 _ _ _ _ 9 _ _ _
            refine WD_look (v := (.bool (decide (((p.length : Nat) : Int) = 0)))) (i := 2) rfl (by kernel_rfl) rfl (by decide) (on_none rfl) (fun wx hs => (x_eql (a := ((p.length : Nat) : Int)) (b := 0) rfl rfl)) hS ?_
            show WD Try.prog 66 _ _ _ _ 8 _ _ _
            refine WD_look (v := (.bool (decide (((p.length : Nat) : Int) = 0)))) (i := 3) rfl (by kernel_rfl) rfl (by decide) (on_none rfl) (fun wx hs => (x_mv (v := (.bool (decide (((p.length : Nat) : Int) = 0)))) rfl)) hS ?_
            show WD Try.prog 66 _ _ _ _ 7 _ _ _
            refine WD_look (v := (.int .i64 n)) (i := 4) rfl (by kernel_rfl) rfl (by decide) (on_guard rfl rfl (congrArg Value.bool hg3)) (fun wx hs => (x_mv (v := (.int .i64 n)) rfl)) hS ?_
            show WD Try.prog 66 _ _ _ _ 6 _ _ _
            refine WD_look (v := (.agg (hv top))) (i := 5) rfl (by kernel_rfl) rfl (by decide) (on_guard rfl rfl (congrArg Value.bool hg3)) (fun wx hs => (x_load_row rfl (hs.1) Try.underlying26 rfl ti26.sz (hv_size _))) hS ?_
            show WD Try.prog 66 _ _ _ _ 5 _ _ _
            refine WD_look (v := (.agg (hv want))) (i := 7) rfl (by kernel_rfl) rfl (by decide) (on_guard rfl rfl (congrArg Value.bool hg3)) (fun wx hs => (x_load_row rfl (hs.2.1) Try.underlying26 rfl ti26.sz (hv_size _))) hS ?_
            show WD Try.prog 66 _ _ _ _ 4 _ _ _
            refine WD_one (i := 6) rfl (by kernel_rfl) (WO_call (on_guard rfl rfl (congrArg Value.bool hg3)) rfl (by decide) (x_call2 Try.func16 rfl rfl rfl rfl rfl) (root_c n (by omega) (by omega) top _) ?_)
            rintro _ wc4 ⟨rfl, hb⟩
            refine ⟨_, rfl, ?_⟩
            replace S := S.keep hb
            clear hb
            replace hS : wc4.heap[g3]? = some (.cells (hv top) 26 (0, 0)) ∧ wc4.heap[g1]? = some (.cells (hv want) 26 (0, 0)) ∧ True := ⟨(S.blk_get (.here _)), (S.blk_get (.there _ (.there _ (.here _)))), trivial⟩
            refine ⟨.inl hS, ?_⟩
            refine WD_look (v := (.bool (decide ((rootH n top) = want)))) (i := 8) rfl (by kernel_rfl) rfl (by decide) (on_guard rfl rfl (congrArg Value.bool hg3)) (fun wx hs => (x_eql_agg rfl rfl ng26 (eq_H (rootH n top) want _))) hS ?_
            show WD Try.prog 66 _ _ _ _ 2 _ _ _
            refine WD_look (v := (.bool (decide ((rootH n top) = want)))) (i := 9) rfl (by kernel_rfl) rfl (by decide) (on_none rfl) (fun wx hs => (x_pick_t (congrArg Value.bool hg3))) hS ?_
            show WD Try.prog 66 _ _ _ _ 1 _ _ _
            refine WD_look (v := (.bool (decide ((rootH n top) = want)))) (i := 10) rfl (by kernel_rfl) rfl (by decide) (on_none rfl) (fun wx hs => (x_as (v := (.bool (decide ((rootH n top) = want)))) rfl)) hS ?_
            show WD Try.prog 66 _ _ _ _ 0 _ _ _
            refine WD_done (by kernel_rfl) ?_
            clear hS
            show WC Try.prog 66 _ _ _ _
            refine WC_ret ?_
            show retQ Try.prog Try.f10 _ .ret _ _
            have hB : (decide ((rootH n top) = want) : Bool) = checkB want n i0 h p0 := by
              first
                | (rw [checkB, if_pos (by omega)]; done)
                | (rw [checkB, if_neg (by omega), ← hR, chkL_none (by omega) (by omega) (by omega)]; done)
                | (rw [checkB, if_neg (by omega), ← hR, chkL_end_f (by omega) (by omega)]; done)
                | (rw [checkB, if_neg (by omega), ← hR, chkL_end_t (by omega) (by omega)]; done)
            exact ret1 (fn := Try.f10) (v := (.bool (decide ((rootH n top) = want)))) rfl rfl ⟨by rw [hB], S.below⟩
          · skip
            have hg3_ := of_decide_eq_false hg3
            refine WC_draw (S := fun wx => True) (Z := []) rfl ?_
            replace S := S.drew
            have hS : True := trivial
            show WD Try.prog 66 _ _ _ _ 11 [] _ _
            refine WD_look (v := (.slice Ap p.length cp)) (i := 0) rfl (by kernel_rfl) rfl (by decide) (on_none rfl) (fun wx hs => (x_mv (v := (.slice Ap p.length cp)) rfl)) hS ?_
            show WD Try.prog 66 _ _ _ _ 10 _ _ _
            refine WD_look (v := (.int .i64 ((p.length : Nat) : Int))) (i := 1) rfl (by kernel_rfl) rfl (by decide) (on_none rfl) (fun wx hs => (x_len_slc rfl Try.underlying22)) hS ?_
            show WD Try.prog 66 _ _ _ _ 9 _ _ _
            refine WD_look (v := (.bool (decide (((p.length : Nat) : Int) = 0)))) (i := 2) rfl (by kernel_rfl) rfl (by decide) (on_none rfl) (fun wx hs => (x_eql (a := ((p.length : Nat) : Int)) (b := 0) rfl rfl)) hS ?_
            show WD Try.prog 66 _ _ _ _ 8 _ _ _
            refine WD_look (v := (.bool (decide (((p.length : Nat) : Int) = 0)))) (i := 3) rfl (by kernel_rfl) rfl (by decide) (on_none rfl) (fun wx hs => (x_mv (v := (.bool (decide (((p.length : Nat) : Int) = 0)))) rfl)) hS ?_
            show WD Try.prog 66 _ _ _ _ 7 _ _ _
            refine WD_lookoff (i := 4) rfl (by kernel_rfl) rfl (by decide) (off_guard rfl rfl (congrArg Value.bool hg3)) hS ?_
            show WD Try.prog 66 _ _ _ _ 6 _ _ _
            refine WD_lookoff (i := 5) rfl (by kernel_rfl) rfl (by decide) (off_guard rfl rfl (congrArg Value.bool hg3)) hS ?_
            show WD Try.prog 66 _ _ _ _ 5 _ _ _
            refine WD_lookoff (i := 7) rfl (by kernel_rfl) rfl (by decide) (off_guard rfl rfl (congrArg Value.bool hg3)) hS ?_
            show WD Try.prog 66 _ _ _ _ 4 _ _ _
            refine WD_one (i := 6) rfl (by kernel_rfl) (WO_off (off_guard rfl rfl (congrArg Value.bool hg3)) rfl (by decide) ?_)
            refine ⟨.inl hS, ?_⟩
            refine WD_lookoff (i := 8) rfl (by kernel_rfl) rfl (by decide) (off_guard rfl rfl (congrArg Value.bool hg3)) hS ?_
            show WD Try.prog 66 _ _ _ _ 2 _ _ _
            refine WD_look (v := (.bool false)) (i := 9) rfl (by kernel_rfl) rfl (by decide) (on_none rfl) (fun wx hs => (x_pick_f (congrArg Value.bool hg3))) hS ?_
            show WD Try.prog 66 _ _ _ _ 1 _ _ _
            refine WD_look (v := (.bool false)) (i := 10) rfl (by kernel_rfl) rfl (by decide) (on_none rfl) (fun wx hs => (x_as (v := (.bool false)) rfl)) hS ?_
            show WD Try.prog 66 _ _ _ _ 0 _ _ _
            refine WD_done (by kernel_rfl) ?_
            clear hS
            show WC Try.prog 66 _ _ _ _
            refine WC_ret ?_
            show retQ Try.prog Try.f10 _ .ret _ _
            have hB : (false : Bool) = checkB want n i0 h p0 := by
              first
                | (rw [checkB, if_pos (by omega)]; done)
                | (rw [checkB, if_neg (by omega), ← hR, chkL_none (by omega) (by omega) (by omega)]; done)
                | (rw [checkB, if_neg (by omega), ← hR, chkL_end_f (by omega) (by omega)]; done)
                | (rw [checkB, if_neg (by omega), ← hR, chkL_end_t (by omega) (by omega)]; done)
            exact ret1 (fn := Try.f10) (v := (.bool false)) rfl rfl ⟨by rw [hB], S.below⟩
end Go.Proofs.Ytjlbkbfnmcppeaa.Sl

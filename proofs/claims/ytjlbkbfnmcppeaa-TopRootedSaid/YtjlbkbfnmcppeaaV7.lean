/-
  What calls of the program's functions come to (part V7): each function walked once; the conditions stand in each theorem.
-/
import Derived.Test.YtjlbkbfnmcppeaaV6
set_option maxHeartbeats 2000000
set_option linter.unusedSimpArgs false
set_option linter.unusedVariables false
set_option maxRecDepth 100000
namespace Go.Proofs.Ytjlbkbfnmcppeaa.Sl
open Go Go.RowKit
attribute [local irreducible] ofH sumH eightF putT ofL bitop

theorem x_build_H0 {P : Program} {ρ : Operand → Value} {w : World} {d : Option Nat} {ty : TypeId} {pos : String} {after : Array Edge} {gd : Option (Nat × Bool)} {T e bytes : Nat} {x : Operand} {z : Value} {v : Int} (hu : P.underlying T = some (.array 32 e)) (he : (P.info? e).map (·.size) = some 1) (hi : TI P T z 32 bytes) (hz : z.cells = hv zeroH) (hx : ρ x = .int .u8 v) (h0 : 0 ≤ v) (h1 : v ≤ 255) :
    (execOp ρ ⟨d, .build T #[(0, x)], ty, pos, after, gd⟩).run P w = .ok (.value (.agg (hv (hset zeroH 0 v)))) w := by
  refine lift_v ?_
  obtain ⟨ti, hq, hzz, _⟩ := hi.ex
  obtain ⟨te, hqe, hze⟩ := size_of he
  have key := fill_splice (fun i => some (i, 1)) z.cells 0 0 1 (.int .u8 v) [] rfl rfl (by rw [hz, hv_size]; decide)
  have hs := splice_hset (h := zeroH) (i := 0) (x := v) (by decide) (by decide) h0 h1
  have hs' : splice (hv zeroH) 0 (Value.int IntKind.u8 v).cells = hv (hset zeroH 0 v) := hs
  rw [hz] at key
  rw [hs'] at key
  unfold Instr.build
  simp only [Sem.run_bind, zeroValue, typeInfo, Sem.run_pure, Result.andThen_ok]
  simp only [run_underlying hu, sizeOf, typeInfo]
  simp [Sem.run_bind, hq, hzz, hqe, hze, hx, hz]
  rw [key]
  rfl
theorem has_hs3 {w : World} {gb t : Nat} {a b c : H} (hg : w.heap[gb]? = some (.cells ((hv a) ++ (hv b) ++ (hv c)) t (0, 0))) : Has w (slc (pur hv) 32) (.slice (some ⟨gb, 0, none⟩) 3 3) [a, b, c] := by
  refine own_val (e := t) hvsz (fun b => b < w.heap.size) w ⟨⟨by simp [Array.length_toList, Hsz, bv_size], .inr ⟨gb, 3, _, rfl, Nat.zero_le _, hg, by simp, by simp [maxLen], by simp [bv_size, Hsz], ?_⟩⟩, fun k hk => ?_⟩
  · rw [List.take_of_length_le (by simp [bv_size, Hsz])]
    simp
  · simp [Value.ownBlock] at hk
    subst hk
    exact (Array.getElem?_eq_some_iff.1 hg).1
theorem prove3 (a b c : H) : proveL 2 [a, b, c] = [pairH (leafH a) (leafH b)] := by
  have o2 : oth 2 = 3 := by rw [oth_nn (by decide) (by decide)]; rfl
  have o1 : oth (2 / 2) = 0 := by rw [show (2 : Int) / 2 = 1 from rfl, oth_nn (by decide) (by decide)]; rfl
  have u1 : upL [leafH a, leafH b, leafH c] = [pairH (leafH a) (leafH b), leafH c] := by simp [upL]
  have b1 : besL 2 [leafH a, leafH b, leafH c] = [] := if_neg (by rw [o2]; simp)
  have b2 : besL (2 / 2) [pairH (leafH a) (leafH b), leafH c] = [pairH (leafH a) (leafH b)] := (if_pos (by rw [o1]; simp)).trans (by rw [o1]; rfl)
  rw [proveL_t (inL_t (by decide) (by simp)), List.map_cons, List.map_cons, List.map_cons, List.map_nil, proofL_up _ _ (by simp), b1, u1, proofL_up _ _ (by simp), b2, proofL_one _ _ (by simp [upL_length])]
  rfl
theorem root1 (a : H) : treeRoot [a] = rootH 1 (leafH a) := by
  have : topH [a] = leafH a := by
    rw [topH, if_neg (by simp), topL_one _ (by simp)]
    rfl
  rw [treeRoot, this]
  rfl
theorem chk1 (a : H) : checkB (treeRoot [a]) 1 0 a [] = true := by
  rw [checkB, if_neg (by omega), chkL_end_t (by omega) rfl, root1]
  simp
theorem chk2 (a : H) : checkB (treeRoot [a]) 1 0 a [a] = false := by rw [checkB, if_neg (by omega), chkL_end_f (by omega) (by simp)]
theorem chk3 (a : H) : checkB (treeRoot [a]) 1048577 0 a [] = false := by rw [checkB, if_pos (by omega)]

theorem knows04_c  (w : World) :
    Calls Try.prog 4 #[] w (fun e w' => e = .returned (.bool true) ∧ Below w.heap.size w w') := by
  refine calls_WC (c := _) (n := 75) (vs := []) Try.func4 rfl Try.ntmps4 (Nat.le_of_ble_eq_true rfl) ?_
  have S := SL.start w
  refine WC_seq ?_
  refine WC_region ?_
  refine WL_cons (WO_val (v := (.bool false)) (on_none rfl) rfl (by decide) (x_as (v := (.bool false)) rfl) ?_)
  refine WL_nil ?_
  show WC Try.prog 75 _ _ _ _
  refine WC_seq ?_
  refine WC_region ?_
  refine WL_cons (WO_val (v := (.agg (hv (hset zeroH 0 1)))) (on_none rfl) rfl (by decide) (x_build_H0 (v := 1) Try.underlying26 ti5.sz ti26 rfl rfl (by decide) (by decide)) ?_)
  refine WL_cons (WO_val (v := (.agg (hv (hset zeroH 0 2)))) (on_none rfl) rfl (by decide) (x_build_H0 (v := 2) Try.underlying26 ti5.sz ti26 rfl rfl (by decide) (by decide)) ?_)
  refine WL_cons (WO_val (v := (.agg (hv (hset zeroH 0 3)))) (on_none rfl) rfl (by decide) (x_build_H0 (v := 3) Try.underlying26 ti5.sz ti26 rfl rfl (by decide) (by decide)) ?_)
  refine WL_cons (WO_alloc (row := hv zeroH) S (on_none rfl) (by decide) ti26 rfl ?_)
  intro g1 wg1 S
  refine WL_cons (WO_alloc (row := hv zeroH) S (on_none rfl) (by decide) ti26 rfl ?_)
  intro g2 wg2 S
  refine WL_cons (WO_alloc (row := hv zeroH) S (on_none rfl) (by decide) ti26 rfl ?_)
  intro g3 wg3 S
  refine WL_cons (WO_store (v := (.agg (hv (hset zeroH 0 1)))) (row := hv zeroH) (row' := hv (hset zeroH 0 1)) S (on_none rfl) rfl rfl (.there _ (.there _ (.here _))) ti26.sz (hv_size _) (by rw [hv_size]; exact Nat.le_refl _) (bv_one _) (splice_all _ _ (((hv_size _)).trans ((hv_size _)).symm)) ?_)
  intro ws1 S
  refine WL_cons (WO_store (v := (.agg (hv (hset zeroH 0 2)))) (row := hv zeroH) (row' := hv (hset zeroH 0 2)) S (on_none rfl) rfl rfl (.there _ (.here _)) ti26.sz (hv_size _) (by rw [hv_size]; exact Nat.le_refl _) (bv_one _) (splice_all _ _ (((hv_size _)).trans ((hv_size _)).symm)) ?_)
  intro ws2 S
  refine WL_cons (WO_store (v := (.agg (hv (hset zeroH 0 3)))) (row := hv zeroH) (row' := hv (hset zeroH 0 3)) S (on_none rfl) rfl rfl (.here _) ti26.sz (hv_size _) (by rw [hv_size]; exact Nat.le_refl _) (bv_one _) (splice_all _ _ (((hv_size _)).trans ((hv_size _)).symm)) ?_)
  intro ws3 S
  refine WL_nil ?_
  show WC Try.prog 75 _ _ _ _
  refine WC_seq ?_
  refine WC_region ?_
  refine WL_cons (WO_val (v := (.agg (hv (hset zeroH 0 1)))) (on_none rfl) rfl (by decide) (x_load_row rfl (S.blk_get (.there _ (.there _ (.here _)))) Try.underlying26 rfl ti26.sz (hv_size _)) ?_)
  refine WL_cons (WO_val (v := (.agg (hv (hset zeroH 0 2)))) (on_none rfl) rfl (by decide) (x_load_row rfl (S.blk_get (.there _ (.here _))) Try.underlying26 rfl ti26.sz (hv_size _)) ?_)
  refine WL_cons (WO_val (v := (.agg (hv (hset zeroH 0 3)))) (on_none rfl) rfl (by decide) (x_load_row rfl (S.blk_get (.here _)) Try.underlying26 rfl ti26.sz (hv_size _)) ?_)
  refine WL_cons (WO_build (vs := [(.agg (hv (hset zeroH 0 1))), (.agg (hv (hset zeroH 0 2))), (.agg (hv (hset zeroH 0 3)))]) (row := (hv (hset zeroH 0 1)) ++ (hv (hset zeroH 0 2)) ++ (hv (hset zeroH 0 3))) S (on_none rfl) (by decide) Try.underlying22 ti26 (hv_size _) rfl rfl (by simp [Value.cells, hv_size, bv_size, Hsz]) (by decide) (rowOf3 _ _ _) ?_)
  intro g4 wg4 S
  refine WL_cons (WO_call (on_none rfl) rfl (by decide) (x_call2 Try.func6 rfl rfl rfl rfl rfl) (Prove_c _ 2 ([(hset zeroH 0 1), (hset zeroH 0 2), (hset zeroH 0 3)]) (by first | omega | simp) (has_hs3 (S.blk_get (.here _)))) ?_)
  rintro _ wc1 ⟨Au1, mu1, cu1, rfl, hn⟩
  refine ⟨_, rfl, ?_⟩
  replace S := S.new hn
  clear hn
  have hl := (S.has (.here _)).len.1
  subst hl
  generalize hPP : proveL 2 ([(hset zeroH 0 1), (hset zeroH 0 2), (hset zeroH 0 3)]) = pr at S ⊢
  refine WL_cons (WO_val (v := (.tuple #[(.slice Au1 pr.length cu1), (.int .i64 (errL 2 ([(hset zeroH 0 1), (hset zeroH 0 2), (hset zeroH 0 3)])))])) (on_none rfl) rfl (by decide) (x_mv (v := (.tuple #[(.slice Au1 pr.length cu1), (.int .i64 (errL 2 ([(hset zeroH 0 1), (hset zeroH 0 2), (hset zeroH 0 3)])))])) rfl) ?_)
  refine WL_cons (WO_val (v := (.slice Au1 pr.length cu1)) (on_none rfl) rfl (by decide) (x_extract (v := (.slice Au1 pr.length cu1)) rfl rfl) ?_)
  refine WL_cons (WO_val (v := (.int .i64 (errL 2 ([(hset zeroH 0 1), (hset zeroH 0 2), (hset zeroH 0 3)])))) (on_none rfl) rfl (by decide) (x_extract (v := (.int .i64 (errL 2 ([(hset zeroH 0 1), (hset zeroH 0 2), (hset zeroH 0 3)])))) rfl rfl) ?_)
  refine WL_cons (WO_val (v := (.slice Au1 pr.length cu1)) (on_none rfl) rfl (by decide) (x_as (v := (.slice Au1 pr.length cu1)) rfl) ?_)
  refine WL_cons (WO_val (v := (.int .i64 (errL 2 ([(hset zeroH 0 1), (hset zeroH 0 2), (hset zeroH 0 3)])))) (on_none rfl) rfl (by decide) (x_as (v := (.int .i64 (errL 2 ([(hset zeroH 0 1), (hset zeroH 0 2), (hset zeroH 0 3)])))) rfl) ?_)
  refine WL_nil ?_
  show WC Try.prog 75 _ _ _ _
  refine WC_seq ?_
  refine WC_region ?_
  refine WL_cons (WO_val (v := (.agg (hv (hset zeroH 0 1)))) (on_none rfl) rfl (by decide) (x_load_row rfl (S.blk_get (.there _ (.there _ (.there _ (.there _ (.here _)))))) Try.underlying26 rfl ti26.sz (hv_size _)) ?_)
  refine WL_cons (WO_build (vs := [(.agg (hv (hset zeroH 0 1)))]) (row := hv (hset zeroH 0 1)) S (on_none rfl) (by decide) Try.underlying22 ti26 (hv_size _) rfl rfl (by simp [Value.cells, hv_size, bv_size, Hsz]) (by decide) (rowOf1 _) ?_)
  intro g5 wg5 S
  refine WL_cons (WO_call (on_none rfl) rfl (by decide) (x_call1 Try.func7 rfl rfl rfl rfl) (Root_c _ ([(hset zeroH 0 1)]) (by first | omega | simp) (has_one (S.blk_get (.here _)) (hv_size _))) ?_)
  rintro _ wc2 ⟨rfl, hb⟩
  refine ⟨_, rfl, ?_⟩
  replace S := S.keep hb
  clear hb
  refine WL_cons (WO_alloc (row := hv zeroH) S (on_none rfl) (by decide) ti26 rfl ?_)
  intro g6 wg6 S
  refine WL_cons (WO_store (v := (.agg (hv (treeRoot ([(hset zeroH 0 1)]))))) (row := hv zeroH) (row' := hv (treeRoot ([(hset zeroH 0 1)]))) S (on_none rfl) rfl rfl (.here _) ti26.sz (hv_size _) (by rw [hv_size]; exact Nat.le_refl _) (bv_one _) (splice_all _ _ (((hv_size _)).trans ((hv_size _)).symm)) ?_)
  intro ws4 S
  refine WL_nil ?_
  show WC Try.prog 75 _ _ _ _
  refine WC_seq ?_
  have hk1 : (decide (errL 2 ([(hset zeroH 0 1), (hset zeroH 0 2), (hset zeroH 0 3)]) = 0)) = true := by rw [errL_t (inL_t (by decide) (by simp))]; rfl
  have hk2 : (decide (((pr.length : Nat) : Int) = 1)) = true := by rw [← hPP, prove3]; rfl
  have hk3 : (decide ((hat pr 0) = (ofH (⟨#[112, 97, 105, 114]⟩) ([(ofH (⟨#[108, 101, 97, 102]⟩) ([(hset zeroH 0 1).1])).1, (ofH (⟨#[108, 101, 97, 102]⟩) ([(hset zeroH 0 2).1])).1])))) = true := by rw [← hPP, prove3]; exact decide_eq_true rfl
  have hk4 : (checkB (treeRoot ([(hset zeroH 0 1)])) 1 0 (hset zeroH 0 1) ([])) = true := by exact chk1 _
  have hk5 : (!(checkB (treeRoot ([(hset zeroH 0 1)])) 1 0 (hset zeroH 0 1) ([(hset zeroH 0 1)]))) = true := by rw [chk2]; rfl
  refine WC_draw (S := fun wx => Has wx (slc (pur hv) 32) (.slice Au1 pr.length cu1) pr ∧ wx.heap[g1]? = some (.cells (hv (hset zeroH 0 1)) 26 (0, 0)) ∧ wx.heap[g2]? = some (.cells (hv (hset zeroH 0 2)) 26 (0, 0)) ∧ wx.heap[g6]? = some (.cells (hv (treeRoot ([(hset zeroH 0 1)]))) 26 (0, 0)) ∧ wx.heap[g3]? = some (.cells (hv (hset zeroH 0 3)) 26 (0, 0)) ∧ True) (Z := []) rfl ?_
  replace S := S.drew
  have hS : Has (World.drew ws4) (slc (pur hv) 32) (.slice Au1 pr.length cu1) pr ∧ (World.drew ws4).heap[g1]? = some (.cells (hv (hset zeroH 0 1)) 26 (0, 0)) ∧ (World.drew ws4).heap[g2]? = some (.cells (hv (hset zeroH 0 2)) 26 (0, 0)) ∧ (World.drew ws4).heap[g6]? = some (.cells (hv (treeRoot ([(hset zeroH 0 1)]))) 26 (0, 0)) ∧ (World.drew ws4).heap[g3]? = some (.cells (hv (hset zeroH 0 3)) 26 (0, 0)) ∧ True := ⟨(S.has (.there _ (.there _ (.here _)))), (S.blk_get (.there _ (.there _ (.there _ (.there _ (.there _ (.there _ (.here _)))))))), (S.blk_get (.there _ (.there _ (.there _ (.there _ (.there _ (.here _))))))), (S.blk_get (.here _)), (S.blk_get (.there _ (.there _ (.there _ (.there _ (.here _)))))), trivial⟩
  show WD Try.prog 75 _ _ _ _ 55 [] _ _
  refine WD_look (v := (.int .i64 (errL 2 ([(hset zeroH 0 1), (hset zeroH 0 2), (hset zeroH 0 3)])))) (i := 0) rfl (by kernel_rfl) rfl (by decide) (on_none rfl) (fun wx hs => (x_mv (v := (.int .i64 (errL 2 ([(hset zeroH 0 1), (hset zeroH 0 2), (hset zeroH 0 3)])))) rfl)) hS ?_
  show WD Try.prog 75 _ _ _ _ 54 _ _ _
  refine WD_look (v := (.bool (decide (errL 2 ([(hset zeroH 0 1), (hset zeroH 0 2), (hset zeroH 0 3)]) = 0)))) (i := 1) rfl (by kernel_rfl) rfl (by decide) (on_none rfl) (fun wx hs => (x_eql (a := errL 2 ([(hset zeroH 0 1), (hset zeroH 0 2), (hset zeroH 0 3)])) (b := 0) rfl rfl)) hS ?_
  show WD Try.prog 75 _ _ _ _ 53 _ _ _
  refine WD_look (v := (.bool (decide (errL 2 ([(hset zeroH 0 1), (hset zeroH 0 2), (hset zeroH 0 3)]) = 0)))) (i := 2) rfl (by kernel_rfl) rfl (by decide) (on_none rfl) (fun wx hs => (x_mv (v := (.bool (decide (errL 2 ([(hset zeroH 0 1), (hset zeroH 0 2), (hset zeroH 0 3)]) = 0)))) rfl)) hS ?_
  show WD Try.prog 75 _ _ _ _ 52 _ _ _
  refine WD_look (v := (.slice Au1 pr.length cu1)) (i := 3) rfl (by kernel_rfl) rfl (by decide) (on_guard rfl rfl (congrArg Value.bool hk1)) (fun wx hs => (x_mv (v := (.slice Au1 pr.length cu1)) rfl)) hS ?_
  show WD Try.prog 75 _ _ _ _ 51 _ _ _
  refine WD_look (v := (.int .i64 ((pr.length : Nat) : Int))) (i := 4) rfl (by kernel_rfl) rfl (by decide) (on_guard rfl rfl (congrArg Value.bool hk1)) (fun wx hs => (x_len_slc rfl Try.underlying22)) hS ?_
  show WD Try.prog 75 _ _ _ _ 50 _ _ _
  refine WD_look (v := (.bool (decide (((pr.length : Nat) : Int) = 1)))) (i := 5) rfl (by kernel_rfl) rfl (by decide) (on_guard rfl rfl (congrArg Value.bool hk1)) (fun wx hs => (x_eql (a := ((pr.length : Nat) : Int)) (b := 1) rfl rfl)) hS ?_
  show WD Try.prog 75 _ _ _ _ 49 _ _ _
  refine WD_look (v := (.bool (decide (((pr.length : Nat) : Int) = 1)))) (i := 6) rfl (by kernel_rfl) rfl (by decide) (on_none rfl) (fun wx hs => (x_pick_t (congrArg Value.bool hk1))) hS ?_
  show WD Try.prog 75 _ _ _ _ 48 _ _ _
  refine WD_look (v := (.bool (decide (((pr.length : Nat) : Int) = 1)))) (i := 7) rfl (by kernel_rfl) rfl (by decide) (on_none rfl) (fun wx hs => (x_mv (v := (.bool (decide (((pr.length : Nat) : Int) = 1)))) rfl)) hS ?_
  show WD Try.prog 75 _ _ _ _ 47 _ _ _
  refine WD_look (v := (.slice Au1 pr.length cu1)) (i := 8) rfl (by kernel_rfl) rfl (by decide) (on_guard rfl rfl (congrArg Value.bool hk2)) (fun wx hs => (x_mv (v := (.slice Au1 pr.length cu1)) rfl)) hS ?_
  show WD Try.prog 75 _ _ _ _ 46 _ _ _
  refine WD_look (v := (eaddr Au1 ((0 : Int).toNat * 32))) (i := 9) rfl (by kernel_rfl) rfl (by decide) (on_guard rfl rfl (congrArg Value.bool hk2)) (fun wx hs => (x_index_slc (i := 0) rfl rfl Try.underlying22 ti26.sz (by omega) (by first | omega | (rw [← hPP, prove3]; simp)) (Has.some (hs.1) (by first | omega | (rw [← hPP, prove3]; simp))))) hS ?_
  show WD Try.prog 75 _ _ _ _ 45 _ _ _
  refine WD_look (v := (.agg (hv (hat pr 0)))) (i := 10) rfl (by kernel_rfl) rfl (by decide) (on_guard rfl rfl (congrArg Value.bool hk2)) (fun wx hs => (x_el (x := hat pr 0) (hs.1) (hat_some (by omega) (by first | omega | (rw [← hPP, prove3]; simp))) rfl Try.underlying26 rfl ti26.sz)) hS ?_
  show WD Try.prog 75 _ _ _ _ 44 _ _ _
  refine WD_look (v := (.slice (some ⟨g1, 0, none⟩) 32 32)) (i := 11) rfl (by kernel_rfl) rfl (by decide) (on_guard rfl rfl (congrArg Value.bool hk2)) (fun wx hs => (x_slice_arr rfl Try.underlying26 ti5.sz)) hS ?_
  show WD Try.prog 75 _ _ _ _ 43 _ _ _
  refine WD_look (v := (.string ((hset zeroH 0 1).1))) (i := 12) rfl (by kernel_rfl) rfl (by decide) (on_guard rfl rfl (congrArg Value.bool hk2)) (fun wx hs => (x_bytes (h := (hset zeroH 0 1).1) rfl (hs.2.1) Try.underlying33 Try.underlying5 Try.underlying9 (hset zeroH 0 1).2)) hS ?_
  show WD Try.prog 75 _ _ _ _ 42 _ _ _
  refine WD_look (v := (.slice (some ⟨g2, 0, none⟩) 32 32)) (i := 16) rfl (by kernel_rfl) rfl (by decide) (on_guard rfl rfl (congrArg Value.bool hk2)) (fun wx hs => (x_slice_arr rfl Try.underlying26 ti5.sz)) hS ?_
  show WD Try.prog 75 _ _ _ _ 41 _ _ _
  refine WD_look (v := (.string ((hset zeroH 0 2).1))) (i := 17) rfl (by kernel_rfl) rfl (by decide) (on_guard rfl rfl (congrArg Value.bool hk2)) (fun wx hs => (x_bytes (h := (hset zeroH 0 2).1) rfl (hs.2.2.1) Try.underlying33 Try.underlying5 Try.underlying9 (hset zeroH 0 2).2)) hS ?_
  show WD Try.prog 75 _ _ _ _ 40 _ _ _
  refine WD_two (i := 13) (j := 18) rfl rfl (by kernel_rfl) ?_ ?_ 
  · skip
    refine WO_build (vs := [(.string ((hset zeroH 0 1).1))]) (row := #[(.string ((hset zeroH 0 1).1))]) S (on_guard rfl rfl (congrArg Value.bool hk2)) (by decide) Try.underlying40 ti9 rfl rfl rfl (by simp [Value.cells]) (by decide) rfl ?_
    intro g17 wg17 S
    replace hS : Has wg17 (slc (pur hv) 32) (.slice Au1 pr.length cu1) pr ∧ wg17.heap[g1]? = some (.cells (hv (hset zeroH 0 1)) 26 (0, 0)) ∧ wg17.heap[g2]? = some (.cells (hv (hset zeroH 0 2)) 26 (0, 0)) ∧ wg17.heap[g6]? = some (.cells (hv (treeRoot ([(hset zeroH 0 1)]))) 26 (0, 0)) ∧ wg17.heap[g3]? = some (.cells (hv (hset zeroH 0 3)) 26 (0, 0)) ∧ True := ⟨(S.has (.there _ (.there _ (.there _ (.here _))))), (S.blk_get (.there _ (.there _ (.there _ (.there _ (.there _ (.there _ (.there _ (.here _))))))))), (S.blk_get (.there _ (.there _ (.there _ (.there _ (.there _ (.there _ (.here _)))))))), (S.blk_get (.there _ (.here _))), (S.blk_get (.there _ (.there _ (.there _ (.there _ (.there _ (.here _))))))), trivial⟩
    refine ⟨.inl hS, ?_⟩
    show WD Try.prog 75 _ _ _ _ 39 _ _ _
    refine WD_two (i := 14) (j := 18) rfl rfl (by kernel_rfl) ?_ ?_ 
    · skip
      refine WO_call (on_guard rfl rfl (congrArg Value.bool hk2)) rfl (by decide) (x_call2 Try.func8 rfl rfl rfl rfl rfl) (of_c _ (⟨#[108, 101, 97, 102]⟩) ([(hset zeroH 0 1).1]) (ofL_le (⟨#[108, 101, 97, 102]⟩) ([(hset zeroH 0 1).1]) 4 rfl (by simp only [List.map_cons, List.map_nil, List.sum_cons, List.sum_nil, Hsz, eightF_size, zb_size] <;> omega)) (has_row1 (f := Value.string) (fun _ => rfl) [(hset zeroH 0 1).1] (S.blk_get (.here _)) rfl (by decide))) ?_
      rintro _ wc21 ⟨rfl, hb⟩
      refine ⟨_, rfl, ?_⟩
      replace S := S.keep hb
      clear hb
      replace hS : Has wc21 (slc (pur hv) 32) (.slice Au1 pr.length cu1) pr ∧ wc21.heap[g1]? = some (.cells (hv (hset zeroH 0 1)) 26 (0, 0)) ∧ wc21.heap[g2]? = some (.cells (hv (hset zeroH 0 2)) 26 (0, 0)) ∧ wc21.heap[g6]? = some (.cells (hv (treeRoot ([(hset zeroH 0 1)]))) 26 (0, 0)) ∧ wc21.heap[g3]? = some (.cells (hv (hset zeroH 0 3)) 26 (0, 0)) ∧ True := ⟨(S.has (.there _ (.there _ (.there _ (.here _))))), (S.blk_get (.there _ (.there _ (.there _ (.there _ (.there _ (.there _ (.there _ (.here _))))))))), (S.blk_get (.there _ (.there _ (.there _ (.there _ (.there _ (.there _ (.here _)))))))), (S.blk_get (.there _ (.here _))), (S.blk_get (.there _ (.there _ (.there _ (.there _ (.there _ (.here _))))))), trivial⟩
      refine ⟨.inl hS, ?_⟩
      show WD Try.prog 75 _ _ _ _ 38 _ _ _
      refine WD_two (i := 15) (j := 18) rfl rfl (by kernel_rfl) ?_ ?_ 
      · skip
        refine WO_call (on_guard rfl rfl (congrArg Value.bool hk2)) rfl (by decide) (x_call1 Try.func9 rfl rfl rfl rfl) (bytes_c (ofH (⟨#[108, 101, 97, 102]⟩) ([(hset zeroH 0 1).1])) _) ?_
        rintro _ wc22 ⟨rfl, hb⟩
        refine ⟨_, rfl, ?_⟩
        replace S := S.keep hb
        clear hb
        replace hS : Has wc22 (slc (pur hv) 32) (.slice Au1 pr.length cu1) pr ∧ wc22.heap[g1]? = some (.cells (hv (hset zeroH 0 1)) 26 (0, 0)) ∧ wc22.heap[g2]? = some (.cells (hv (hset zeroH 0 2)) 26 (0, 0)) ∧ wc22.heap[g6]? = some (.cells (hv (treeRoot ([(hset zeroH 0 1)]))) 26 (0, 0)) ∧ wc22.heap[g3]? = some (.cells (hv (hset zeroH 0 3)) 26 (0, 0)) ∧ True := ⟨(S.has (.there _ (.there _ (.there _ (.here _))))), (S.blk_get (.there _ (.there _ (.there _ (.there _ (.there _ (.there _ (.there _ (.here _))))))))), (S.blk_get (.there _ (.there _ (.there _ (.there _ (.there _ (.there _ (.here _)))))))), (S.blk_get (.there _ (.here _))), (S.blk_get (.there _ (.there _ (.there _ (.there _ (.there _ (.here _))))))), trivial⟩
        refine ⟨.inl hS, ?_⟩
        show WD Try.prog 75 _ _ _ _ 37 _ _ _
        refine WD_one (i := 18) rfl (by kernel_rfl) (WO_build (vs := [(.string ((hset zeroH 0 2).1))]) (row := #[(.string ((hset zeroH 0 2).1))]) S (on_guard rfl rfl (congrArg Value.bool hk2)) (by decide) Try.underlying40 ti9 rfl rfl rfl (by simp [Value.cells]) (by decide) rfl ?_)
        intro g18 wg18 S
        replace hS : Has wg18 (slc (pur hv) 32) (.slice Au1 pr.length cu1) pr ∧ wg18.heap[g1]? = some (.cells (hv (hset zeroH 0 1)) 26 (0, 0)) ∧ wg18.heap[g2]? = some (.cells (hv (hset zeroH 0 2)) 26 (0, 0)) ∧ wg18.heap[g6]? = some (.cells (hv (treeRoot ([(hset zeroH 0 1)]))) 26 (0, 0)) ∧ wg18.heap[g3]? = some (.cells (hv (hset zeroH 0 3)) 26 (0, 0)) ∧ True := ⟨(S.has (.there _ (.there _ (.there _ (.there _ (.here _)))))), (S.blk_get (.there _ (.there _ (.there _ (.there _ (.there _ (.there _ (.there _ (.there _ (.here _)))))))))), (S.blk_get (.there _ (.there _ (.there _ (.there _ (.there _ (.there _ (.there _ (.here _))))))))), (S.blk_get (.there _ (.there _ (.here _)))), (S.blk_get (.there _ (.there _ (.there _ (.there _ (.there _ (.there _ (.here _)))))))), trivial⟩
        refine ⟨.inl hS, ?_⟩
        refine WD_one (i := 19) rfl (by kernel_rfl) (WO_call (on_guard rfl rfl (congrArg Value.bool hk2)) rfl (by decide) (x_call2 Try.func8 rfl rfl rfl rfl rfl) (of_c _ (⟨#[108, 101, 97, 102]⟩) ([(hset zeroH 0 2).1]) (ofL_le (⟨#[108, 101, 97, 102]⟩) ([(hset zeroH 0 2).1]) 4 rfl (by simp only [List.map_cons, List.map_nil, List.sum_cons, List.sum_nil, Hsz, eightF_size, zb_size] <;> omega)) (has_row1 (f := Value.string) (fun _ => rfl) [(hset zeroH 0 2).1] (S.blk_get (.here _)) rfl (by decide))) ?_)
        rintro _ wc23 ⟨rfl, hb⟩
        refine ⟨_, rfl, ?_⟩
        replace S := S.keep hb
        clear hb
        replace hS : Has wc23 (slc (pur hv) 32) (.slice Au1 pr.length cu1) pr ∧ wc23.heap[g1]? = some (.cells (hv (hset zeroH 0 1)) 26 (0, 0)) ∧ wc23.heap[g2]? = some (.cells (hv (hset zeroH 0 2)) 26 (0, 0)) ∧ wc23.heap[g6]? = some (.cells (hv (treeRoot ([(hset zeroH 0 1)]))) 26 (0, 0)) ∧ wc23.heap[g3]? = some (.cells (hv (hset zeroH 0 3)) 26 (0, 0)) ∧ True := ⟨(S.has (.there _ (.there _ (.there _ (.there _ (.here _)))))), (S.blk_get (.there _ (.there _ (.there _ (.there _ (.there _ (.there _ (.there _ (.there _ (.here _)))))))))), (S.blk_get (.there _ (.there _ (.there _ (.there _ (.there _ (.there _ (.there _ (.here _))))))))), (S.blk_get (.there _ (.there _ (.here _)))), (S.blk_get (.there _ (.there _ (.there _ (.there _ (.there _ (.there _ (.here _)))))))), trivial⟩
        refine ⟨.inl hS, ?_⟩
        refine WD_one (i := 20) rfl (by kernel_rfl) (WO_call (on_guard rfl rfl (congrArg Value.bool hk2)) rfl (by decide) (x_call1 Try.func9 rfl rfl rfl rfl) (bytes_c (ofH (⟨#[108, 101, 97, 102]⟩) ([(hset zeroH 0 2).1])) _) ?_)
        rintro _ wc24 ⟨rfl, hb⟩
        refine ⟨_, rfl, ?_⟩
        replace S := S.keep hb
        clear hb
        replace hS : Has wc24 (slc (pur hv) 32) (.slice Au1 pr.length cu1) pr ∧ wc24.heap[g1]? = some (.cells (hv (hset zeroH 0 1)) 26 (0, 0)) ∧ wc24.heap[g2]? = some (.cells (hv (hset zeroH 0 2)) 26 (0, 0)) ∧ wc24.heap[g6]? = some (.cells (hv (treeRoot ([(hset zeroH 0 1)]))) 26 (0, 0)) ∧ wc24.heap[g3]? = some (.cells (hv (hset zeroH 0 3)) 26 (0, 0)) ∧ True := ⟨(S.has (.there _ (.there _ (.there _ (.there _ (.here _)))))), (S.blk_get (.there _ (.there _ (.there _ (.there _ (.there _ (.there _ (.there _ (.there _ (.here _)))))))))), (S.blk_get (.there _ (.there _ (.there _ (.there _ (.there _ (.there _ (.there _ (.here _))))))))), (S.blk_get (.there _ (.there _ (.here _)))), (S.blk_get (.there _ (.there _ (.there _ (.there _ (.there _ (.there _ (.here _)))))))), trivial⟩
        refine ⟨.inl hS, ?_⟩
        refine WD_one (i := 21) rfl (by kernel_rfl) (WO_build (vs := [(.string ((ofH (⟨#[108, 101, 97, 102]⟩) ([(hset zeroH 0 1).1])).1)), (.string ((ofH (⟨#[108, 101, 97, 102]⟩) ([(hset zeroH 0 2).1])).1))]) (row := #[(.string ((ofH (⟨#[108, 101, 97, 102]⟩) ([(hset zeroH 0 1).1])).1)), (.string ((ofH (⟨#[108, 101, 97, 102]⟩) ([(hset zeroH 0 2).1])).1))]) S (on_guard rfl rfl (congrArg Value.bool hk2)) (by decide) Try.underlying40 ti9 rfl rfl rfl (by simp [Value.cells]) (by decide) rfl ?_)
        intro g19 wg19 S
        replace hS : Has wg19 (slc (pur hv) 32) (.slice Au1 pr.length cu1) pr ∧ wg19.heap[g1]? = some (.cells (hv (hset zeroH 0 1)) 26 (0, 0)) ∧ wg19.heap[g2]? = some (.cells (hv (hset zeroH 0 2)) 26 (0, 0)) ∧ wg19.heap[g6]? = some (.cells (hv (treeRoot ([(hset zeroH 0 1)]))) 26 (0, 0)) ∧ wg19.heap[g3]? = some (.cells (hv (hset zeroH 0 3)) 26 (0, 0)) ∧ True := ⟨(S.has (.there _ (.there _ (.there _ (.there _ (.there _ (.here _))))))), (S.blk_get (.there _ (.there _ (.there _ (.there _ (.there _ (.there _ (.there _ (.there _ (.there _ (.here _))))))))))), (S.blk_get (.there _ (.there _ (.there _ (.there _ (.there _ (.there _ (.there _ (.there _ (.here _)))))))))), (S.blk_get (.there _ (.there _ (.there _ (.here _))))), (S.blk_get (.there _ (.there _ (.there _ (.there _ (.there _ (.there _ (.there _ (.here _))))))))), trivial⟩
        refine ⟨.inl hS, ?_⟩
        refine WD_one (i := 22) rfl (by kernel_rfl) (WO_call (on_guard rfl rfl (congrArg Value.bool hk2)) rfl (by decide) (x_call2 Try.func8 rfl rfl rfl rfl rfl) (of_c _ (⟨#[112, 97, 105, 114]⟩) ([(ofH (⟨#[108, 101, 97, 102]⟩) ([(hset zeroH 0 1).1])).1, (ofH (⟨#[108, 101, 97, 102]⟩) ([(hset zeroH 0 2).1])).1]) (ofL_le (⟨#[112, 97, 105, 114]⟩) ([(ofH (⟨#[108, 101, 97, 102]⟩) ([(hset zeroH 0 1).1])).1, (ofH (⟨#[108, 101, 97, 102]⟩) ([(hset zeroH 0 2).1])).1]) 4 rfl (by simp only [List.map_cons, List.map_nil, List.sum_cons, List.sum_nil, Hsz, eightF_size, zb_size] <;> omega)) (has_row1 (f := Value.string) (fun _ => rfl) [(ofH (⟨#[108, 101, 97, 102]⟩) ([(hset zeroH 0 1).1])).1, (ofH (⟨#[108, 101, 97, 102]⟩) ([(hset zeroH 0 2).1])).1] (S.blk_get (.here _)) rfl (by decide))) ?_)
        rintro _ wc25 ⟨rfl, hb⟩
        refine ⟨_, rfl, ?_⟩
        replace S := S.keep hb
        clear hb
        replace hS : Has wc25 (slc (pur hv) 32) (.slice Au1 pr.length cu1) pr ∧ wc25.heap[g1]? = some (.cells (hv (hset zeroH 0 1)) 26 (0, 0)) ∧ wc25.heap[g2]? = some (.cells (hv (hset zeroH 0 2)) 26 (0, 0)) ∧ wc25.heap[g6]? = some (.cells (hv (treeRoot ([(hset zeroH 0 1)]))) 26 (0, 0)) ∧ wc25.heap[g3]? = some (.cells (hv (hset zeroH 0 3)) 26 (0, 0)) ∧ True := ⟨(S.has (.there _ (.there _ (.there _ (.there _ (.there _ (.here _))))))), (S.blk_get (.there _ (.there _ (.there _ (.there _ (.there _ (.there _ (.there _ (.there _ (.there _ (.here _))))))))))), (S.blk_get (.there _ (.there _ (.there _ (.there _ (.there _ (.there _ (.there _ (.there _ (.here _)))))))))), (S.blk_get (.there _ (.there _ (.there _ (.here _))))), (S.blk_get (.there _ (.there _ (.there _ (.there _ (.there _ (.there _ (.there _ (.here _))))))))), trivial⟩
        refine ⟨.inl hS, ?_⟩
        refine WD_look (v := (.bool (decide ((hat pr 0) = (ofH (⟨#[112, 97, 105, 114]⟩) ([(ofH (⟨#[108, 101, 97, 102]⟩) ([(hset zeroH 0 1).1])).1, (ofH (⟨#[108, 101, 97, 102]⟩) ([(hset zeroH 0 2).1])).1])))))) (i := 23) rfl (by kernel_rfl) rfl (by decide) (on_guard rfl rfl (congrArg Value.bool hk2)) (fun wx hs => (x_eql_agg rfl rfl ng26 (eq_H (hat pr 0) (ofH (⟨#[112, 97, 105, 114]⟩) ([(ofH (⟨#[108, 101, 97, 102]⟩) ([(hset zeroH 0 1).1])).1, (ofH (⟨#[108, 101, 97, 102]⟩) ([(hset zeroH 0 2).1])).1])) _))) hS ?_
        show WD Try.prog 75 _ _ _ _ 31 _ _ _
        refine WD_look (v := (.bool (decide ((hat pr 0) = (ofH (⟨#[112, 97, 105, 114]⟩) ([(ofH (⟨#[108, 101, 97, 102]⟩) ([(hset zeroH 0 1).1])).1, (ofH (⟨#[108, 101, 97, 102]⟩) ([(hset zeroH 0 2).1])).1])))))) (i := 24) rfl (by kernel_rfl) rfl (by decide) (on_none rfl) (fun wx hs => (x_pick_t (congrArg Value.bool hk2))) hS ?_
        show WD Try.prog 75 _ _ _ _ 30 _ _ _
        refine WD_look (v := (.bool (decide ((hat pr 0) = (ofH (⟨#[112, 97, 105, 114]⟩) ([(ofH (⟨#[108, 101, 97, 102]⟩) ([(hset zeroH 0 1).1])).1, (ofH (⟨#[108, 101, 97, 102]⟩) ([(hset zeroH 0 2).1])).1])))))) (i := 25) rfl (by kernel_rfl) rfl (by decide) (on_none rfl) (fun wx hs => (x_mv (v := (.bool (decide ((hat pr 0) = (ofH (⟨#[112, 97, 105, 114]⟩) ([(ofH (⟨#[108, 101, 97, 102]⟩) ([(hset zeroH 0 1).1])).1, (ofH (⟨#[108, 101, 97, 102]⟩) ([(hset zeroH 0 2).1])).1])))))) rfl)) hS ?_
        show WD Try.prog 75 _ _ _ _ 29 _ _ _
        refine WD_look (v := (.agg (hv (treeRoot ([(hset zeroH 0 1)]))))) (i := 26) rfl (by kernel_rfl) rfl (by decide) (on_guard rfl rfl (congrArg Value.bool hk3)) (fun wx hs => (x_load_row rfl (hs.2.2.2.1) Try.underlying26 rfl ti26.sz (hv_size _))) hS ?_
        show WD Try.prog 75 _ _ _ _ 28 _ _ _
        refine WD_look (v := (.agg (hv (hset zeroH 0 1)))) (i := 27) rfl (by kernel_rfl) rfl (by decide) (on_guard rfl rfl (congrArg Value.bool hk3)) (fun wx hs => (x_load_row rfl (hs.2.1) Try.underlying26 rfl ti26.sz (hv_size _))) hS ?_
        show WD Try.prog 75 _ _ _ _ 27 _ _ _
        refine WD_one (i := 28) rfl (by kernel_rfl) (WO_call (on_guard rfl rfl (congrArg Value.bool hk3)) rfl (by decide) (x_call5 Try.func10 rfl rfl rfl rfl rfl rfl rfl rfl) (Check_c _ (treeRoot ([(hset zeroH 0 1)])) 1 0 (hset zeroH 0 1) ([]) Has.nil) ?_)
        rintro _ wc26 ⟨rfl, hb⟩
        refine ⟨_, rfl, ?_⟩
        replace S := S.keep hb
        clear hb
        replace hS : Has wc26 (slc (pur hv) 32) (.slice Au1 pr.length cu1) pr ∧ wc26.heap[g1]? = some (.cells (hv (hset zeroH 0 1)) 26 (0, 0)) ∧ wc26.heap[g2]? = some (.cells (hv (hset zeroH 0 2)) 26 (0, 0)) ∧ wc26.heap[g6]? = some (.cells (hv (treeRoot ([(hset zeroH 0 1)]))) 26 (0, 0)) ∧ wc26.heap[g3]? = some (.cells (hv (hset zeroH 0 3)) 26 (0, 0)) ∧ True := ⟨(S.has (.there _ (.there _ (.there _ (.there _ (.there _ (.here _))))))), (S.blk_get (.there _ (.there _ (.there _ (.there _ (.there _ (.there _ (.there _ (.there _ (.there _ (.here _))))))))))), (S.blk_get (.there _ (.there _ (.there _ (.there _ (.there _ (.there _ (.there _ (.there _ (.here _)))))))))), (S.blk_get (.there _ (.there _ (.there _ (.here _))))), (S.blk_get (.there _ (.there _ (.there _ (.there _ (.there _ (.there _ (.there _ (.here _))))))))), trivial⟩
        refine ⟨.inl hS, ?_⟩
        refine WD_look (v := (.bool (checkB (treeRoot ([(hset zeroH 0 1)])) 1 0 (hset zeroH 0 1) ([])))) (i := 29) rfl (by kernel_rfl) rfl (by decide) (on_none rfl) (fun wx hs => (x_pick_t (congrArg Value.bool hk3))) hS ?_
        show WD Try.prog 75 _ _ _ _ 25 _ _ _
        refine WD_look (v := (.bool (checkB (treeRoot ([(hset zeroH 0 1)])) 1 0 (hset zeroH 0 1) ([])))) (i := 30) rfl (by kernel_rfl) rfl (by decide) (on_none rfl) (fun wx hs => (x_mv (v := (.bool (checkB (treeRoot ([(hset zeroH 0 1)])) 1 0 (hset zeroH 0 1) ([])))) rfl)) hS ?_
        show WD Try.prog 75 _ _ _ _ 24 _ _ _
        refine WD_look (v := (.agg (hv (treeRoot ([(hset zeroH 0 1)]))))) (i := 31) rfl (by kernel_rfl) rfl (by decide) (on_guard rfl rfl (congrArg Value.bool hk4)) (fun wx hs => (x_load_row rfl (hs.2.2.2.1) Try.underlying26 rfl ti26.sz (hv_size _))) hS ?_
        show WD Try.prog 75 _ _ _ _ 23 _ _ _
        refine WD_look (v := (.agg (hv (hset zeroH 0 1)))) (i := 32) rfl (by kernel_rfl) rfl (by decide) (on_guard rfl rfl (congrArg Value.bool hk4)) (fun wx hs => (x_load_row rfl (hs.2.1) Try.underlying26 rfl ti26.sz (hv_size _))) hS ?_
        show WD Try.prog 75 _ _ _ _ 22 _ _ _
        refine WD_look (v := (.agg (hv (hset zeroH 0 1)))) (i := 33) rfl (by kernel_rfl) rfl (by decide) (on_guard rfl rfl (congrArg Value.bool hk4)) (fun wx hs => (x_load_row rfl (hs.2.1) Try.underlying26 rfl ti26.sz (hv_size _))) hS ?_
        show WD Try.prog 75 _ _ _ _ 21 _ _ _
        refine WD_one (i := 34) rfl (by kernel_rfl) (WO_build (vs := [(.agg (hv (hset zeroH 0 1)))]) (row := hv (hset zeroH 0 1)) S (on_guard rfl rfl (congrArg Value.bool hk4)) (by decide) Try.underlying22 ti26 (hv_size _) rfl rfl (by simp [Value.cells, hv_size, bv_size, Hsz]) (by decide) (rowOf1 _) ?_)
        intro g20 wg20 S
        replace hS : Has wg20 (slc (pur hv) 32) (.slice Au1 pr.length cu1) pr ∧ wg20.heap[g1]? = some (.cells (hv (hset zeroH 0 1)) 26 (0, 0)) ∧ wg20.heap[g2]? = some (.cells (hv (hset zeroH 0 2)) 26 (0, 0)) ∧ wg20.heap[g6]? = some (.cells (hv (treeRoot ([(hset zeroH 0 1)]))) 26 (0, 0)) ∧ wg20.heap[g3]? = some (.cells (hv (hset zeroH 0 3)) 26 (0, 0)) ∧ True := ⟨(S.has (.there _ (.there _ (.there _ (.there _ (.there _ (.there _ (.here _)))))))), (S.blk_get (.there _ (.there _ (.there _ (.there _ (.there _ (.there _ (.there _ (.there _ (.there _ (.there _ (.here _)))))))))))), (S.blk_get (.there _ (.there _ (.there _ (.there _ (.there _ (.there _ (.there _ (.there _ (.there _ (.here _))))))))))), (S.blk_get (.there _ (.there _ (.there _ (.there _ (.here _)))))), (S.blk_get (.there _ (.there _ (.there _ (.there _ (.there _ (.there _ (.there _ (.there _ (.here _)))))))))), trivial⟩
        refine ⟨.inl hS, ?_⟩
        refine WD_one (i := 35) rfl (by kernel_rfl) (WO_call (on_guard rfl rfl (congrArg Value.bool hk4)) rfl (by decide) (x_call5 Try.func10 rfl rfl rfl rfl rfl rfl rfl rfl) (Check_c _ (treeRoot ([(hset zeroH 0 1)])) 1 0 (hset zeroH 0 1) ([(hset zeroH 0 1)]) (has_one (S.blk_get (.here _)) (hv_size _))) ?_)
        rintro _ wc27 ⟨rfl, hb⟩
        refine ⟨_, rfl, ?_⟩
        replace S := S.keep hb
        clear hb
        replace hS : Has wc27 (slc (pur hv) 32) (.slice Au1 pr.length cu1) pr ∧ wc27.heap[g1]? = some (.cells (hv (hset zeroH 0 1)) 26 (0, 0)) ∧ wc27.heap[g2]? = some (.cells (hv (hset zeroH 0 2)) 26 (0, 0)) ∧ wc27.heap[g6]? = some (.cells (hv (treeRoot ([(hset zeroH 0 1)]))) 26 (0, 0)) ∧ wc27.heap[g3]? = some (.cells (hv (hset zeroH 0 3)) 26 (0, 0)) ∧ True := ⟨(S.has (.there _ (.there _ (.there _ (.there _ (.there _ (.there _ (.here _)))))))), (S.blk_get (.there _ (.there _ (.there _ (.there _ (.there _ (.there _ (.there _ (.there _ (.there _ (.there _ (.here _)))))))))))), (S.blk_get (.there _ (.there _ (.there _ (.there _ (.there _ (.there _ (.there _ (.there _ (.there _ (.here _))))))))))), (S.blk_get (.there _ (.there _ (.there _ (.there _ (.here _)))))), (S.blk_get (.there _ (.there _ (.there _ (.there _ (.there _ (.there _ (.there _ (.there _ (.here _)))))))))), trivial⟩
        refine ⟨.inl hS, ?_⟩
        refine WD_look (v := (.bool (!(checkB (treeRoot ([(hset zeroH 0 1)])) 1 0 (hset zeroH 0 1) ([(hset zeroH 0 1)]))))) (i := 36) rfl (by kernel_rfl) rfl (by decide) (on_guard rfl rfl (congrArg Value.bool hk4)) (fun wx hs => (x_not (b := checkB (treeRoot ([(hset zeroH 0 1)])) 1 0 (hset zeroH 0 1) ([(hset zeroH 0 1)])) rfl)) hS ?_
        show WD Try.prog 75 _ _ _ _ 18 _ _ _
        refine WD_look (v := (.bool (!(checkB (treeRoot ([(hset zeroH 0 1)])) 1 0 (hset zeroH 0 1) ([(hset zeroH 0 1)]))))) (i := 37) rfl (by kernel_rfl) rfl (by decide) (on_none rfl) (fun wx hs => (x_pick_t (congrArg Value.bool hk4))) hS ?_
        show WD Try.prog 75 _ _ _ _ 17 _ _ _
        refine WD_look (v := (.bool (!(checkB (treeRoot ([(hset zeroH 0 1)])) 1 0 (hset zeroH 0 1) ([(hset zeroH 0 1)]))))) (i := 38) rfl (by kernel_rfl) rfl (by decide) (on_none rfl) (fun wx hs => (x_mv (v := (.bool (!(checkB (treeRoot ([(hset zeroH 0 1)])) 1 0 (hset zeroH 0 1) ([(hset zeroH 0 1)]))))) rfl)) hS ?_
        show WD Try.prog 75 _ _ _ _ 16 _ _ _
        refine WD_look (v := (.agg (hv (hset zeroH 0 1)))) (i := 39) rfl (by kernel_rfl) rfl (by decide) (on_guard rfl rfl (congrArg Value.bool hk5)) (fun wx hs => (x_load_row rfl (hs.2.1) Try.underlying26 rfl ti26.sz (hv_size _))) hS ?_
        show WD Try.prog 75 _ _ _ _ 15 _ _ _
        refine WD_look (v := (.agg (hv (hset zeroH 0 2)))) (i := 40) rfl (by kernel_rfl) rfl (by decide) (on_guard rfl rfl (congrArg Value.bool hk5)) (fun wx hs => (x_load_row rfl (hs.2.2.1) Try.underlying26 rfl ti26.sz (hv_size _))) hS ?_
        show WD Try.prog 75 _ _ _ _ 14 _ _ _
        refine WD_look (v := (.agg (hv (hset zeroH 0 3)))) (i := 41) rfl (by kernel_rfl) rfl (by decide) (on_guard rfl rfl (congrArg Value.bool hk5)) (fun wx hs => (x_load_row rfl (hs.2.2.2.2.1) Try.underlying26 rfl ti26.sz (hv_size _))) hS ?_
        show WD Try.prog 75 _ _ _ _ 13 _ _ _
        refine WD_one (i := 42) rfl (by kernel_rfl) (WO_build (vs := [(.agg (hv (hset zeroH 0 1))), (.agg (hv (hset zeroH 0 2))), (.agg (hv (hset zeroH 0 3)))]) (row := (hv (hset zeroH 0 1)) ++ (hv (hset zeroH 0 2)) ++ (hv (hset zeroH 0 3))) S (on_guard rfl rfl (congrArg Value.bool hk5)) (by decide) Try.underlying22 ti26 (hv_size _) rfl rfl (by simp [Value.cells, hv_size, bv_size, Hsz]) (by decide) (rowOf3 _ _ _) ?_)
        intro g21 wg21 S
        replace hS : Has wg21 (slc (pur hv) 32) (.slice Au1 pr.length cu1) pr ∧ wg21.heap[g1]? = some (.cells (hv (hset zeroH 0 1)) 26 (0, 0)) ∧ wg21.heap[g2]? = some (.cells (hv (hset zeroH 0 2)) 26 (0, 0)) ∧ wg21.heap[g6]? = some (.cells (hv (treeRoot ([(hset zeroH 0 1)]))) 26 (0, 0)) ∧ wg21.heap[g3]? = some (.cells (hv (hset zeroH 0 3)) 26 (0, 0)) ∧ True := ⟨(S.has (.there _ (.there _ (.there _ (.there _ (.there _ (.there _ (.there _ (.here _))))))))), (S.blk_get (.there _ (.there _ (.there _ (.there _ (.there _ (.there _ (.there _ (.there _ (.there _ (.there _ (.there _ (.here _))))))))))))), (S.blk_get (.there _ (.there _ (.there _ (.there _ (.there _ (.there _ (.there _ (.there _ (.there _ (.there _ (.here _)))))))))))), (S.blk_get (.there _ (.there _ (.there _ (.there _ (.there _ (.here _))))))), (S.blk_get (.there _ (.there _ (.there _ (.there _ (.there _ (.there _ (.there _ (.there _ (.there _ (.here _))))))))))), trivial⟩
        refine ⟨.inl hS, ?_⟩
        refine WD_one (i := 43) rfl (by kernel_rfl) (WO_call (on_guard rfl rfl (congrArg Value.bool hk5)) rfl (by decide) (x_call3 Try.func5 rfl rfl rfl rfl rfl rfl) (rooted04_c _ ([(hset zeroH 0 1), (hset zeroH 0 2), (hset zeroH 0 3)]) 1 0 (by decide) (by decide) (by simp) (has_hs3 (S.blk_get (.here _)))) ?_)
        rintro _ wc28 ⟨rfl, hb⟩
        refine ⟨_, rfl, ?_⟩
        replace S := S.keep hb
        clear hb
        replace hS : Has wc28 (slc (pur hv) 32) (.slice Au1 pr.length cu1) pr ∧ wc28.heap[g1]? = some (.cells (hv (hset zeroH 0 1)) 26 (0, 0)) ∧ wc28.heap[g2]? = some (.cells (hv (hset zeroH 0 2)) 26 (0, 0)) ∧ wc28.heap[g6]? = some (.cells (hv (treeRoot ([(hset zeroH 0 1)]))) 26 (0, 0)) ∧ wc28.heap[g3]? = some (.cells (hv (hset zeroH 0 3)) 26 (0, 0)) ∧ True := ⟨(S.has (.there _ (.there _ (.there _ (.there _ (.there _ (.there _ (.there _ (.here _))))))))), (S.blk_get (.there _ (.there _ (.there _ (.there _ (.there _ (.there _ (.there _ (.there _ (.there _ (.there _ (.there _ (.here _))))))))))))), (S.blk_get (.there _ (.there _ (.there _ (.there _ (.there _ (.there _ (.there _ (.there _ (.there _ (.there _ (.here _)))))))))))), (S.blk_get (.there _ (.there _ (.there _ (.there _ (.there _ (.here _))))))), (S.blk_get (.there _ (.there _ (.there _ (.there _ (.there _ (.there _ (.there _ (.there _ (.there _ (.here _))))))))))), trivial⟩
        refine ⟨.inl hS, ?_⟩
        refine WD_look (v := (.bool true)) (i := 44) rfl (by kernel_rfl) rfl (by decide) (on_none rfl) (fun wx hs => (x_pick_t (congrArg Value.bool hk5))) hS ?_
        show WD Try.prog 75 _ _ _ _ 10 _ _ _
        refine WD_look (v := (.bool true)) (i := 45) rfl (by kernel_rfl) rfl (by decide) (on_none rfl) (fun wx hs => (x_mv (v := (.bool true)) rfl)) hS ?_
        show WD Try.prog 75 _ _ _ _ 9 _ _ _
        refine WD_one (i := 46) rfl (by kernel_rfl) (WO_call (on_guard rfl rfl rfl) rfl (by decide) (x_call3 Try.func5 rfl rfl rfl rfl rfl rfl) (rooted04_c _ ([]) 0 0 (by decide) (by decide) (by simp) Has.nil) ?_)
        rintro _ wc29 ⟨rfl, hb⟩
        refine ⟨_, rfl, ?_⟩
        replace S := S.keep hb
        clear hb
        replace hS : Has wc29 (slc (pur hv) 32) (.slice Au1 pr.length cu1) pr ∧ wc29.heap[g1]? = some (.cells (hv (hset zeroH 0 1)) 26 (0, 0)) ∧ wc29.heap[g2]? = some (.cells (hv (hset zeroH 0 2)) 26 (0, 0)) ∧ wc29.heap[g6]? = some (.cells (hv (treeRoot ([(hset zeroH 0 1)]))) 26 (0, 0)) ∧ wc29.heap[g3]? = some (.cells (hv (hset zeroH 0 3)) 26 (0, 0)) ∧ True := ⟨(S.has (.there _ (.there _ (.there _ (.there _ (.there _ (.there _ (.there _ (.here _))))))))), (S.blk_get (.there _ (.there _ (.there _ (.there _ (.there _ (.there _ (.there _ (.there _ (.there _ (.there _ (.there _ (.here _))))))))))))), (S.blk_get (.there _ (.there _ (.there _ (.there _ (.there _ (.there _ (.there _ (.there _ (.there _ (.there _ (.here _)))))))))))), (S.blk_get (.there _ (.there _ (.there _ (.there _ (.there _ (.here _))))))), (S.blk_get (.there _ (.there _ (.there _ (.there _ (.there _ (.there _ (.there _ (.there _ (.there _ (.here _))))))))))), trivial⟩
        refine ⟨.inl hS, ?_⟩
        refine WD_look (v := (.bool true)) (i := 47) rfl (by kernel_rfl) rfl (by decide) (on_none rfl) (fun wx hs => (x_pick_t rfl)) hS ?_
        show WD Try.prog 75 _ _ _ _ 7 _ _ _
        refine WD_look (v := (.bool true)) (i := 48) rfl (by kernel_rfl) rfl (by decide) (on_none rfl) (fun wx hs => (x_mv (v := (.bool true)) rfl)) hS ?_
        show WD Try.prog 75 _ _ _ _ 6 _ _ _
        refine WD_look (v := (.agg (hv (treeRoot ([(hset zeroH 0 1)]))))) (i := 49) rfl (by kernel_rfl) rfl (by decide) (on_guard rfl rfl rfl) (fun wx hs => (x_load_row rfl (hs.2.2.2.1) Try.underlying26 rfl ti26.sz (hv_size _))) hS ?_
        show WD Try.prog 75 _ _ _ _ 5 _ _ _
        refine WD_look (v := (.agg (hv (hset zeroH 0 1)))) (i := 50) rfl (by kernel_rfl) rfl (by decide) (on_guard rfl rfl rfl) (fun wx hs => (x_load_row rfl (hs.2.1) Try.underlying26 rfl ti26.sz (hv_size _))) hS ?_
        show WD Try.prog 75 _ _ _ _ 4 _ _ _
        refine WD_one (i := 51) rfl (by kernel_rfl) (WO_call (on_guard rfl rfl rfl) rfl (by decide) (x_call5 Try.func10 rfl rfl rfl rfl rfl rfl rfl rfl) (Check_c _ (treeRoot ([(hset zeroH 0 1)])) 1048577 0 (hset zeroH 0 1) ([]) Has.nil) ?_)
        rintro _ wc30 ⟨rfl, hb⟩
        refine ⟨_, rfl, ?_⟩
        replace S := S.keep hb
        clear hb
        replace hS : Has wc30 (slc (pur hv) 32) (.slice Au1 pr.length cu1) pr ∧ wc30.heap[g1]? = some (.cells (hv (hset zeroH 0 1)) 26 (0, 0)) ∧ wc30.heap[g2]? = some (.cells (hv (hset zeroH 0 2)) 26 (0, 0)) ∧ wc30.heap[g6]? = some (.cells (hv (treeRoot ([(hset zeroH 0 1)]))) 26 (0, 0)) ∧ wc30.heap[g3]? = some (.cells (hv (hset zeroH 0 3)) 26 (0, 0)) ∧ True := ⟨(S.has (.there _ (.there _ (.there _ (.there _ (.there _ (.there _ (.there _ (.here _))))))))), (S.blk_get (.there _ (.there _ (.there _ (.there _ (.there _ (.there _ (.there _ (.there _ (.there _ (.there _ (.there _ (.here _))))))))))))), (S.blk_get (.there _ (.there _ (.there _ (.there _ (.there _ (.there _ (.there _ (.there _ (.there _ (.there _ (.here _)))))))))))), (S.blk_get (.there _ (.there _ (.there _ (.there _ (.there _ (.here _))))))), (S.blk_get (.there _ (.there _ (.there _ (.there _ (.there _ (.there _ (.there _ (.there _ (.there _ (.here _))))))))))), trivial⟩
        refine ⟨.inl hS, ?_⟩
        refine WD_look (v := (.bool (!(checkB (treeRoot ([(hset zeroH 0 1)])) 1048577 0 (hset zeroH 0 1) ([]))))) (i := 52) rfl (by kernel_rfl) rfl (by decide) (on_guard rfl rfl rfl) (fun wx hs => (x_not (b := checkB (treeRoot ([(hset zeroH 0 1)])) 1048577 0 (hset zeroH 0 1) ([])) rfl)) hS ?_
        show WD Try.prog 75 _ _ _ _ 2 _ _ _
        refine WD_look (v := (.bool (!(checkB (treeRoot ([(hset zeroH 0 1)])) 1048577 0 (hset zeroH 0 1) ([]))))) (i := 53) rfl (by kernel_rfl) rfl (by decide) (on_none rfl) (fun wx hs => (x_pick_t rfl)) hS ?_
        show WD Try.prog 75 _ _ _ _ 1 _ _ _
        refine WD_look (v := (.bool (!(checkB (treeRoot ([(hset zeroH 0 1)])) 1048577 0 (hset zeroH 0 1) ([]))))) (i := 54) rfl (by kernel_rfl) rfl (by decide) (on_none rfl) (fun wx hs => (x_as (v := (.bool (!(checkB (treeRoot ([(hset zeroH 0 1)])) 1048577 0 (hset zeroH 0 1) ([]))))) rfl)) hS ?_
        show WD Try.prog 75 _ _ _ _ 0 _ _ _
        refine WD_done (by kernel_rfl) ?_
        clear hS
        show WC Try.prog 75 _ _ _ _
        refine WC_ret ?_
        show retQ Try.prog Try.f4 _ .ret _ _
        exact ret1 (fn := Try.f4) (v := (.bool (!(checkB (treeRoot ([(hset zeroH 0 1)])) 1048577 0 (hset zeroH 0 1) ([]))))) rfl rfl ⟨by rw [chk3]; rfl, S.below⟩
      · skip
        refine WO_build (vs := [(.string ((hset zeroH 0 2).1))]) (row := #[(.string ((hset zeroH 0 2).1))]) S (on_guard rfl rfl (congrArg Value.bool hk2)) (by decide) Try.underlying40 ti9 rfl rfl rfl (by simp [Value.cells]) (by decide) rfl ?_
        intro g22 wg22 S
        replace hS : Has wg22 (slc (pur hv) 32) (.slice Au1 pr.length cu1) pr ∧ wg22.heap[g1]? = some (.cells (hv (hset zeroH 0 1)) 26 (0, 0)) ∧ wg22.heap[g2]? = some (.cells (hv (hset zeroH 0 2)) 26 (0, 0)) ∧ wg22.heap[g6]? = some (.cells (hv (treeRoot ([(hset zeroH 0 1)]))) 26 (0, 0)) ∧ wg22.heap[g3]? = some (.cells (hv (hset zeroH 0 3)) 26 (0, 0)) ∧ True := ⟨(S.has (.there _ (.there _ (.there _ (.there _ (.here _)))))), (S.blk_get (.there _ (.there _ (.there _ (.there _ (.there _ (.there _ (.there _ (.there _ (.here _)))))))))), (S.blk_get (.there _ (.there _ (.there _ (.there _ (.there _ (.there _ (.there _ (.here _))))))))), (S.blk_get (.there _ (.there _ (.here _)))), (S.blk_get (.there _ (.there _ (.there _ (.there _ (.there _ (.there _ (.here _)))))))), trivial⟩
        refine ⟨.inl hS, ?_⟩
        show WD Try.prog 75 _ _ _ _ 37 _ _ _
        refine WD_one (i := 15) rfl (by kernel_rfl) (WO_call (on_guard rfl rfl (congrArg Value.bool hk2)) rfl (by decide) (x_call1 Try.func9 rfl rfl rfl rfl) (bytes_c (ofH (⟨#[108, 101, 97, 102]⟩) ([(hset zeroH 0 1).1])) _) ?_)
        rintro _ wc31 ⟨rfl, hb⟩
        refine ⟨_, rfl, ?_⟩
        replace S := S.keep hb
        clear hb
        replace hS : Has wc31 (slc (pur hv) 32) (.slice Au1 pr.length cu1) pr ∧ wc31.heap[g1]? = some (.cells (hv (hset zeroH 0 1)) 26 (0, 0)) ∧ wc31.heap[g2]? = some (.cells (hv (hset zeroH 0 2)) 26 (0, 0)) ∧ wc31.heap[g6]? = some (.cells (hv (treeRoot ([(hset zeroH 0 1)]))) 26 (0, 0)) ∧ wc31.heap[g3]? = some (.cells (hv (hset zeroH 0 3)) 26 (0, 0)) ∧ True := ⟨(S.has (.there _ (.there _ (.there _ (.there _ (.here _)))))), (S.blk_get (.there _ (.there _ (.there _ (.there _ (.there _ (.there _ (.there _ (.there _ (.here _)))))))))), (S.blk_get (.there _ (.there _ (.there _ (.there _ (.there _ (.there _ (.there _ (.here _))))))))), (S.blk_get (.there _ (.there _ (.here _)))), (S.blk_get (.there _ (.there _ (.there _ (.there _ (.there _ (.there _ (.here _)))))))), trivial⟩
        refine ⟨.inl hS, ?_⟩
        refine WD_one (i := 19) rfl (by kernel_rfl) (WO_call (on_guard rfl rfl (congrArg Value.bool hk2)) rfl (by decide) (x_call2 Try.func8 rfl rfl rfl rfl rfl) (of_c _ (⟨#[108, 101, 97, 102]⟩) ([(hset zeroH 0 2).1]) (ofL_le (⟨#[108, 101, 97, 102]⟩) ([(hset zeroH 0 2).1]) 4 rfl (by simp only [List.map_cons, List.map_nil, List.sum_cons, List.sum_nil, Hsz, eightF_size, zb_size] <;> omega)) (has_row1 (f := Value.string) (fun _ => rfl) [(hset zeroH 0 2).1] (S.blk_get (.here _)) rfl (by decide))) ?_)
        rintro _ wc32 ⟨rfl, hb⟩
        refine ⟨_, rfl, ?_⟩
        replace S := S.keep hb
        clear hb
        replace hS : Has wc32 (slc (pur hv) 32) (.slice Au1 pr.length cu1) pr ∧ wc32.heap[g1]? = some (.cells (hv (hset zeroH 0 1)) 26 (0, 0)) ∧ wc32.heap[g2]? = some (.cells (hv (hset zeroH 0 2)) 26 (0, 0)) ∧ wc32.heap[g6]? = some (.cells (hv (treeRoot ([(hset zeroH 0 1)]))) 26 (0, 0)) ∧ wc32.heap[g3]? = some (.cells (hv (hset zeroH 0 3)) 26 (0, 0)) ∧ True := ⟨(S.has (.there _ (.there _ (.there _ (.there _ (.here _)))))), (S.blk_get (.there _ (.there _ (.there _ (.there _ (.there _ (.there _ (.there _ (.there _ (.here _)))))))))), (S.blk_get (.there _ (.there _ (.there _ (.there _ (.there _ (.there _ (.there _ (.here _))))))))), (S.blk_get (.there _ (.there _ (.here _)))), (S.blk_get (.there _ (.there _ (.there _ (.there _ (.there _ (.there _ (.here _)))))))), trivial⟩
        refine ⟨.inl hS, ?_⟩
        refine WD_one (i := 20) rfl (by kernel_rfl) (WO_call (on_guard rfl rfl (congrArg Value.bool hk2)) rfl (by decide) (x_call1 Try.func9 rfl rfl rfl rfl) (bytes_c (ofH (⟨#[108, 101, 97, 102]⟩) ([(hset zeroH 0 2).1])) _) ?_)
        rintro _ wc33 ⟨rfl, hb⟩
        refine ⟨_, rfl, ?_⟩
        replace S := S.keep hb
        clear hb
        replace hS : Has wc33 (slc (pur hv) 32) (.slice Au1 pr.length cu1) pr ∧ wc33.heap[g1]? = some (.cells (hv (hset zeroH 0 1)) 26 (0, 0)) ∧ wc33.heap[g2]? = some (.cells (hv (hset zeroH 0 2)) 26 (0, 0)) ∧ wc33.heap[g6]? = some (.cells (hv (treeRoot ([(hset zeroH 0 1)]))) 26 (0, 0)) ∧ wc33.heap[g3]? = some (.cells (hv (hset zeroH 0 3)) 26 (0, 0)) ∧ True := ⟨(S.has (.there _ (.there _ (.there _ (.there _ (.here _)))))), (S.blk_get (.there _ (.there _ (.there _ (.there _ (.there _ (.there _ (.there _ (.there _ (.here _)))))))))), (S.blk_get (.there _ (.there _ (.there _ (.there _ (.there _ (.there _ (.there _ (.here _))))))))), (S.blk_get (.there _ (.there _ (.here _)))), (S.blk_get (.there _ (.there _ (.there _ (.there _ (.there _ (.there _ (.here _)))))))), trivial⟩
        refine ⟨.inl hS, ?_⟩
        refine WD_one (i := 21) rfl (by kernel_rfl) (WO_build (vs := [(.string ((ofH (⟨#[108, 101, 97, 102]⟩) ([(hset zeroH 0 1).1])).1)), (.string ((ofH (⟨#[108, 101, 97, 102]⟩) ([(hset zeroH 0 2).1])).1))]) (row := #[(.string ((ofH (⟨#[108, 101, 97, 102]⟩) ([(hset zeroH 0 1).1])).1)), (.string ((ofH (⟨#[108, 101, 97, 102]⟩) ([(hset zeroH 0 2).1])).1))]) S (on_guard rfl rfl (congrArg Value.bool hk2)) (by decide) Try.underlying40 ti9 rfl rfl rfl (by simp [Value.cells]) (by decide) rfl ?_)
        intro g23 wg23 S
        replace hS : Has wg23 (slc (pur hv) 32) (.slice Au1 pr.length cu1) pr ∧ wg23.heap[g1]? = some (.cells (hv (hset zeroH 0 1)) 26 (0, 0)) ∧ wg23.heap[g2]? = some (.cells (hv (hset zeroH 0 2)) 26 (0, 0)) ∧ wg23.heap[g6]? = some (.cells (hv (treeRoot ([(hset zeroH 0 1)]))) 26 (0, 0)) ∧ wg23.heap[g3]? = some (.cells (hv (hset zeroH 0 3)) 26 (0, 0)) ∧ True := ⟨(S.has (.there _ (.there _ (.there _ (.there _ (.there _ (.here _))))))), (S.blk_get (.there _ (.there _ (.there _ (.there _ (.there _ (.there _ (.there _ (.there _ (.there _ (.here _))))))))))), (S.blk_get (.there _ (.there _ (.there _ (.there _ (.there _ (.there _ (.there _ (.there _ (.here _)))))))))), (S.blk_get (.there _ (.there _ (.there _ (.here _))))), (S.blk_get (.there _ (.there _ (.there _ (.there _ (.there _ (.there _ (.there _ (.here _))))))))), trivial⟩
        refine ⟨.inl hS, ?_⟩
        refine WD_one (i := 22) rfl (by kernel_rfl) (WO_call (on_guard rfl rfl (congrArg Value.bool hk2)) rfl (by decide) (x_call2 Try.func8 rfl rfl rfl rfl rfl) (of_c _ (⟨#[112, 97, 105, 114]⟩) ([(ofH (⟨#[108, 101, 97, 102]⟩) ([(hset zeroH 0 1).1])).1, (ofH (⟨#[108, 101, 97, 102]⟩) ([(hset zeroH 0 2).1])).1]) (ofL_le (⟨#[112, 97, 105, 114]⟩) ([(ofH (⟨#[108, 101, 97, 102]⟩) ([(hset zeroH 0 1).1])).1, (ofH (⟨#[108, 101, 97, 102]⟩) ([(hset zeroH 0 2).1])).1]) 4 rfl (by simp only [List.map_cons, List.map_nil, List.sum_cons, List.sum_nil, Hsz, eightF_size, zb_size] <;> omega)) (has_row1 (f := Value.string) (fun _ => rfl) [(ofH (⟨#[108, 101, 97, 102]⟩) ([(hset zeroH 0 1).1])).1, (ofH (⟨#[108, 101, 97, 102]⟩) ([(hset zeroH 0 2).1])).1] (S.blk_get (.here _)) rfl (by decide))) ?_)
        rintro _ wc34 ⟨rfl, hb⟩
        refine ⟨_, rfl, ?_⟩
        replace S := S.keep hb
        clear hb
        replace hS : Has wc34 (slc (pur hv) 32) (.slice Au1 pr.length cu1) pr ∧ wc34.heap[g1]? = some (.cells (hv (hset zeroH 0 1)) 26 (0, 0)) ∧ wc34.heap[g2]? = some (.cells (hv (hset zeroH 0 2)) 26 (0, 0)) ∧ wc34.heap[g6]? = some (.cells (hv (treeRoot ([(hset zeroH 0 1)]))) 26 (0, 0)) ∧ wc34.heap[g3]? = some (.cells (hv (hset zeroH 0 3)) 26 (0, 0)) ∧ True := ⟨(S.has (.there _ (.there _ (.there _ (.there _ (.there _ (.here _))))))), (S.blk_get (.there _ (.there _ (.there _ (.there _ (.there _ (.there _ (.there _ (.there _ (.there _ (.here _))))))))))), (S.blk_get (.there _ (.there _ (.there _ (.there _ (.there _ (.there _ (.there _ (.there _ (.here _)))))))))), (S.blk_get (.there _ (.there _ (.there _ (.here _))))), (S.blk_get (.there _ (.there _ (.there _ (.there _ (.there _ (.there _ (.there _ (.here _))))))))), trivial⟩
        refine ⟨.inl hS, ?_⟩
        refine WD_look (v := (.bool (decide ((hat pr 0) = (ofH (⟨#[112, 97, 105, 114]⟩) ([(ofH (⟨#[108, 101, 97, 102]⟩) ([(hset zeroH 0 1).1])).1, (ofH (⟨#[108, 101, 97, 102]⟩) ([(hset zeroH 0 2).1])).1])))))) (i := 23) rfl (by kernel_rfl) rfl (by decide) (on_guard rfl rfl (congrArg Value.bool hk2)) (fun wx hs => (x_eql_agg rfl rfl ng26 (eq_H (hat pr 0) (ofH (⟨#[112, 97, 105, 114]⟩) ([(ofH (⟨#[108, 101, 97, 102]⟩) ([(hset zeroH 0 1).1])).1, (ofH (⟨#[108, 101, 97, 102]⟩) ([(hset zeroH 0 2).1])).1])) _))) hS ?_
        show WD Try.prog 75 _ _ _ _ 31 _ _ _
        refine WD_look (v := (.bool (decide ((hat pr 0) = (ofH (⟨#[112, 97, 105, 114]⟩) ([(ofH (⟨#[108, 101, 97, 102]⟩) ([(hset zeroH 0 1).1])).1, (ofH (⟨#[108, 101, 97, 102]⟩) ([(hset zeroH 0 2).1])).1])))))) (i := 24) rfl (by kernel_rfl) rfl (by decide) (on_none rfl) (fun wx hs => (x_pick_t (congrArg Value.bool hk2))) hS ?_
        show WD Try.prog 75 _ _ _ _ 30 _ _ _
        refine WD_look (v := (.bool (decide ((hat pr 0) = (ofH (⟨#[112, 97, 105, 114]⟩) ([(ofH (⟨#[108, 101, 97, 102]⟩) ([(hset zeroH 0 1).1])).1, (ofH (⟨#[108, 101, 97, 102]⟩) ([(hset zeroH 0 2).1])).1])))))) (i := 25) rfl (by kernel_rfl) rfl (by decide) (on_none rfl) (fun wx hs => (x_mv (v := (.bool (decide ((hat pr 0) = (ofH (⟨#[112, 97, 105, 114]⟩) ([(ofH (⟨#[108, 101, 97, 102]⟩) ([(hset zeroH 0 1).1])).1, (ofH (⟨#[108, 101, 97, 102]⟩) ([(hset zeroH 0 2).1])).1])))))) rfl)) hS ?_
        show WD Try.prog 75 _ _ _ _ 29 _ _ _
        refine WD_look (v := (.agg (hv (treeRoot ([(hset zeroH 0 1)]))))) (i := 26) rfl (by kernel_rfl) rfl (by decide) (on_guard rfl rfl (congrArg Value.bool hk3)) (fun wx hs => (x_load_row rfl (hs.2.2.2.1) Try.underlying26 rfl ti26.sz (hv_size _))) hS ?_
        show WD Try.prog 75 _ _ _ _ 28 _ _ _
        refine WD_look (v := (.agg (hv (hset zeroH 0 1)))) (i := 27) rfl (by kernel_rfl) rfl (by decide) (on_guard rfl rfl (congrArg Value.bool hk3)) (fun wx hs => (x_load_row rfl (hs.2.1) Try.underlying26 rfl ti26.sz (hv_size _))) hS ?_
        show WD Try.prog 75 _ _ _ _ 27 _ _ _
        refine WD_one (i := 28) rfl (by kernel_rfl) (WO_call (on_guard rfl rfl (congrArg Value.bool hk3)) rfl (by decide) (x_call5 Try.func10 rfl rfl rfl rfl rfl rfl rfl rfl) (Check_c _ (treeRoot ([(hset zeroH 0 1)])) 1 0 (hset zeroH 0 1) ([]) Has.nil) ?_)
        rintro _ wc35 ⟨rfl, hb⟩
        refine ⟨_, rfl, ?_⟩
        replace S := S.keep hb
        clear hb
        replace hS : Has wc35 (slc (pur hv) 32) (.slice Au1 pr.length cu1) pr ∧ wc35.heap[g1]? = some (.cells (hv (hset zeroH 0 1)) 26 (0, 0)) ∧ wc35.heap[g2]? = some (.cells (hv (hset zeroH 0 2)) 26 (0, 0)) ∧ wc35.heap[g6]? = some (.cells (hv (treeRoot ([(hset zeroH 0 1)]))) 26 (0, 0)) ∧ wc35.heap[g3]? = some (.cells (hv (hset zeroH 0 3)) 26 (0, 0)) ∧ True := ⟨(S.has (.there _ (.there _ (.there _ (.there _ (.there _ (.here _))))))), (S.blk_get (.there _ (.there _ (.there _ (.there _ (.there _ (.there _ (.there _ (.there _ (.there _ (.here _))))))))))), (S.blk_get (.there _ (.there _ (.there _ (.there _ (.there _ (.there _ (.there _ (.there _ (.here _)))))))))), (S.blk_get (.there _ (.there _ (.there _ (.here _))))), (S.blk_get (.there _ (.there _ (.there _ (.there _ (.there _ (.there _ (.there _ (.here _))))))))), trivial⟩
        refine ⟨.inl hS, ?_⟩
        refine WD_look (v := (.bool (checkB (treeRoot ([(hset zeroH 0 1)])) 1 0 (hset zeroH 0 1) ([])))) (i := 29) rfl (by kernel_rfl) rfl (by decide) (on_none rfl) (fun wx hs => (x_pick_t (congrArg Value.bool hk3))) hS ?_
        show WD Try.prog 75 _ _ _ _ 25 _ _ _
        refine WD_look (v := (.bool (checkB (treeRoot ([(hset zeroH 0 1)])) 1 0 (hset zeroH 0 1) ([])))) (i := 30) rfl (by kernel_rfl) rfl (by decide) (on_none rfl) (fun wx hs => (x_mv (v := (.bool (checkB (treeRoot ([(hset zeroH 0 1)])) 1 0 (hset zeroH 0 1) ([])))) rfl)) hS ?_
        show WD Try.prog 75 _ _ _ _ 24 _ _ _
        refine WD_look (v := (.agg (hv (treeRoot ([(hset zeroH 0 1)]))))) (i := 31) rfl (by kernel_rfl) rfl (by decide) (on_guard rfl rfl (congrArg Value.bool hk4)) (fun wx hs => (x_load_row rfl (hs.2.2.2.1) Try.underlying26 rfl ti26.sz (hv_size _))) hS ?_
        show WD Try.prog 75 _ _ _ _ 23 _ _ _
        refine WD_look (v := (.agg (hv (hset zeroH 0 1)))) (i := 32) rfl (by kernel_rfl) rfl (by decide) (on_guard rfl rfl (congrArg Value.bool hk4)) (fun wx hs => (x_load_row rfl (hs.2.1) Try.underlying26 rfl ti26.sz (hv_size _))) hS ?_
        show WD Try.prog 75 _ _ _ _ 22 _ _ _
        refine WD_look (v := (.agg (hv (hset zeroH 0 1)))) (i := 33) rfl (by kernel_rfl) rfl (by decide) (on_guard rfl rfl (congrArg Value.bool hk4)) (fun wx hs => (x_load_row rfl (hs.2.1) Try.underlying26 rfl ti26.sz (hv_size _))) hS ?_
        show WD Try.prog 75 _ _ _ _ 21 _ _ _
        refine WD_one (i := 34) rfl (by kernel_rfl) (WO_build (vs := [(.agg (hv (hset zeroH 0 1)))]) (row := hv (hset zeroH 0 1)) S (on_guard rfl rfl (congrArg Value.bool hk4)) (by decide) Try.underlying22 ti26 (hv_size _) rfl rfl (by simp [Value.cells, hv_size, bv_size, Hsz]) (by decide) (rowOf1 _) ?_)
        intro g24 wg24 S
        replace hS : Has wg24 (slc (pur hv) 32) (.slice Au1 pr.length cu1) pr ∧ wg24.heap[g1]? = some (.cells (hv (hset zeroH 0 1)) 26 (0, 0)) ∧ wg24.heap[g2]? = some (.cells (hv (hset zeroH 0 2)) 26 (0, 0)) ∧ wg24.heap[g6]? = some (.cells (hv (treeRoot ([(hset zeroH 0 1)]))) 26 (0, 0)) ∧ wg24.heap[g3]? = some (.cells (hv (hset zeroH 0 3)) 26 (0, 0)) ∧ True := ⟨(S.has (.there _ (.there _ (.there _ (.there _ (.there _ (.there _ (.here _)))))))), (S.blk_get (.there _ (.there _ (.there _ (.there _ (.there _ (.there _ (.there _ (.there _ (.there _ (.there _ (.here _)))))))))))), (S.blk_get (.there _ (.there _ (.there _ (.there _ (.there _ (.there _ (.there _ (.there _ (.there _ (.here _))))))))))), (S.blk_get (.there _ (.there _ (.there _ (.there _ (.here _)))))), (S.blk_get (.there _ (.there _ (.there _ (.there _ (.there _ (.there _ (.there _ (.there _ (.here _)))))))))), trivial⟩
        refine ⟨.inl hS, ?_⟩
        refine WD_one (i := 35) rfl (by kernel_rfl) (WO_call (on_guard rfl rfl (congrArg Value.bool hk4)) rfl (by decide) (x_call5 Try.func10 rfl rfl rfl rfl rfl rfl rfl rfl) (Check_c _ (treeRoot ([(hset zeroH 0 1)])) 1 0 (hset zeroH 0 1) ([(hset zeroH 0 1)]) (has_one (S.blk_get (.here _)) (hv_size _))) ?_)
        rintro _ wc36 ⟨rfl, hb⟩
        refine ⟨_, rfl, ?_⟩
        replace S := S.keep hb
        clear hb
        replace hS : Has wc36 (slc (pur hv) 32) (.slice Au1 pr.length cu1) pr ∧ wc36.heap[g1]? = some (.cells (hv (hset zeroH 0 1)) 26 (0, 0)) ∧ wc36.heap[g2]? = some (.cells (hv (hset zeroH 0 2)) 26 (0, 0)) ∧ wc36.heap[g6]? = some (.cells (hv (treeRoot ([(hset zeroH 0 1)]))) 26 (0, 0)) ∧ wc36.heap[g3]? = some (.cells (hv (hset zeroH 0 3)) 26 (0, 0)) ∧ True := ⟨(S.has (.there _ (.there _ (.there _ (.there _ (.there _ (.there _ (.here _)))))))), (S.blk_get (.there _ (.there _ (.there _ (.there _ (.there _ (.there _ (.there _ (.there _ (.there _ (.there _ (.here _)))))))))))), (S.blk_get (.there _ (.there _ (.there _ (.there _ (.there _ (.there _ (.there _ (.there _ (.there _ (.here _))))))))))), (S.blk_get (.there _ (.there _ (.there _ (.there _ (.here _)))))), (S.blk_get (.there _ (.there _ (.there _ (.there _ (.there _ (.there _ (.there _ (.there _ (.here _)))))))))), trivial⟩
        refine ⟨.inl hS, ?_⟩
        refine WD_look (v := (.bool (!(checkB (treeRoot ([(hset zeroH 0 1)])) 1 0 (hset zeroH 0 1) ([(hset zeroH 0 1)]))))) (i := 36) rfl (by kernel_rfl) rfl (by decide) (on_guard rfl rfl (congrArg Value.bool hk4)) (fun wx hs => (x_not (b := checkB (treeRoot ([(hset zeroH 0 1)])) 1 0 (hset zeroH 0 1) ([(hset zeroH 0 1)])) rfl)) hS ?_
        show WD Try.prog 75 _ _ _ _ 18 _ _ _
        refine WD_look (v := (.bool (!(checkB (treeRoot ([(hset zeroH 0 1)])) 1 0 (hset zeroH 0 1) ([(hset zeroH 0 1)]))))) (i := 37) rfl (by kernel_rfl) rfl (by decide) (on_none rfl) (fun wx hs => (x_pick_t (congrArg Value.bool hk4))) hS ?_
        show WD Try.prog 75 _ _ _ _ 17 _ _ _
        refine WD_look (v := (.bool (!(checkB (treeRoot ([(hset zeroH 0 1)])) 1 0 (hset zeroH 0 1) ([(hset zeroH 0 1)]))))) (i := 38) rfl (by kernel_rfl) rfl (by decide) (on_none rfl) (fun wx hs => (x_mv (v := (.bool (!(checkB (treeRoot ([(hset zeroH 0 1)])) 1 0 (hset zeroH 0 1) ([(hset zeroH 0 1)]))))) rfl)) hS ?_
        show WD Try.prog 75 _ _ _ _ 16 _ _ _
        refine WD_look (v := (.agg (hv (hset zeroH 0 1)))) (i := 39) rfl (by kernel_rfl) rfl (by decide) (on_guard rfl rfl (congrArg Value.bool hk5)) (fun wx hs => (x_load_row rfl (hs.2.1) Try.underlying26 rfl ti26.sz (hv_size _))) hS ?_
        show WD Try.prog 75 _ _ _ _ 15 _ _ _
        refine WD_look (v := (.agg (hv (hset zeroH 0 2)))) (i := 40) rfl (by kernel_rfl) rfl (by decide) (on_guard rfl rfl (congrArg Value.bool hk5)) (fun wx hs => (x_load_row rfl (hs.2.2.1) Try.underlying26 rfl ti26.sz (hv_size _))) hS ?_
        show WD Try.prog 75 _ _ _ _ 14 _ _ _
        refine WD_look (v := (.agg (hv (hset zeroH 0 3)))) (i := 41) rfl (by kernel_rfl) rfl (by decide) (on_guard rfl rfl (congrArg Value.bool hk5)) (fun wx hs => (x_load_row rfl (hs.2.2.2.2.1) Try.underlying26 rfl ti26.sz (hv_size _))) hS ?_
        show WD Try.prog 75 _ _ _ _ 13 _ _ _
        refine WD_one (i := 42) rfl (by kernel_rfl) (WO_build (vs := [(.agg (hv (hset zeroH 0 1))), (.agg (hv (hset zeroH 0 2))), (.agg (hv (hset zeroH 0 3)))]) (row := (hv (hset zeroH 0 1)) ++ (hv (hset zeroH 0 2)) ++ (hv (hset zeroH 0 3))) S (on_guard rfl rfl (congrArg Value.bool hk5)) (by decide) Try.underlying22 ti26 (hv_size _) rfl rfl (by simp [Value.cells, hv_size, bv_size, Hsz]) (by decide) (rowOf3 _ _ _) ?_)
        intro g25 wg25 S
        replace hS : Has wg25 (slc (pur hv) 32) (.slice Au1 pr.length cu1) pr ∧ wg25.heap[g1]? = some (.cells (hv (hset zeroH 0 1)) 26 (0, 0)) ∧ wg25.heap[g2]? = some (.cells (hv (hset zeroH 0 2)) 26 (0, 0)) ∧ wg25.heap[g6]? = some (.cells (hv (treeRoot ([(hset zeroH 0 1)]))) 26 (0, 0)) ∧ wg25.heap[g3]? = some (.cells (hv (hset zeroH 0 3)) 26 (0, 0)) ∧ True := ⟨(S.has (.there _ (.there _ (.there _ (.there _ (.there _ (.there _ (.there _ (.here _))))))))), (S.blk_get (.there _ (.there _ (.there _ (.there _ (.there _ (.there _ (.there _ (.there _ (.there _ (.there _ (.there _ (.here _))))))))))))), (S.blk_get (.there _ (.there _ (.there _ (.there _ (.there _ (.there _ (.there _ (.there _ (.there _ (.there _ (.here _)))))))))))), (S.blk_get (.there _ (.there _ (.there _ (.there _ (.there _ (.here _))))))), (S.blk_get (.there _ (.there _ (.there _ (.there _ (.there _ (.there _ (.there _ (.there _ (.there _ (.here _))))))))))), trivial⟩
        refine ⟨.inl hS, ?_⟩
        refine WD_one (i := 43) rfl (by kernel_rfl) (WO_call (on_guard rfl rfl (congrArg Value.bool hk5)) rfl (by decide) (x_call3 Try.func5 rfl rfl rfl rfl rfl rfl) (rooted04_c _ ([(hset zeroH 0 1), (hset zeroH 0 2), (hset zeroH 0 3)]) 1 0 (by decide) (by decide) (by simp) (has_hs3 (S.blk_get (.here _)))) ?_)
        rintro _ wc37 ⟨rfl, hb⟩
        refine ⟨_, rfl, ?_⟩
        replace S := S.keep hb
        clear hb
        replace hS : Has wc37 (slc (pur hv) 32) (.slice Au1 pr.length cu1) pr ∧ wc37.heap[g1]? = some (.cells (hv (hset zeroH 0 1)) 26 (0, 0)) ∧ wc37.heap[g2]? = some (.cells (hv (hset zeroH 0 2)) 26 (0, 0)) ∧ wc37.heap[g6]? = some (.cells (hv (treeRoot ([(hset zeroH 0 1)]))) 26 (0, 0)) ∧ wc37.heap[g3]? = some (.cells (hv (hset zeroH 0 3)) 26 (0, 0)) ∧ True := ⟨(S.has (.there _ (.there _ (.there _ (.there _ (.there _ (.there _ (.there _ (.here _))))))))), (S.blk_get (.there _ (.there _ (.there _ (.there _ (.there _ (.there _ (.there _ (.there _ (.there _ (.there _ (.there _ (.here _))))))))))))), (S.blk_get (.there _ (.there _ (.there _ (.there _ (.there _ (.there _ (.there _ (.there _ (.there _ (.there _ (.here _)))))))))))), (S.blk_get (.there _ (.there _ (.there _ (.there _ (.there _ (.here _))))))), (S.blk_get (.there _ (.there _ (.there _ (.there _ (.there _ (.there _ (.there _ (.there _ (.there _ (.here _))))))))))), trivial⟩
        refine ⟨.inl hS, ?_⟩
        refine WD_look (v := (.bool true)) (i := 44) rfl (by kernel_rfl) rfl (by decide) (on_none rfl) (fun wx hs => (x_pick_t (congrArg Value.bool hk5))) hS ?_
        show WD Try.prog 75 _ _ _ _ 10 _ _ _
        refine WD_look (v := (.bool true)) (i := 45) rfl (by kernel_rfl) rfl (by decide) (on_none rfl) (fun wx hs => (x_mv (v := (.bool true)) rfl)) hS ?_
        show WD Try.prog 75 _ _ _ _ 9 _ _ _
        refine WD_one (i := 46) rfl (by kernel_rfl) (WO_call (on_guard rfl rfl rfl) rfl (by decide) (x_call3 Try.func5 rfl rfl rfl rfl rfl rfl) (rooted04_c _ ([]) 0 0 (by decide) (by decide) (by simp) Has.nil) ?_)
        rintro _ wc38 ⟨rfl, hb⟩
        refine ⟨_, rfl, ?_⟩
        replace S := S.keep hb
        clear hb
        replace hS : Has wc38 (slc (pur hv) 32) (.slice Au1 pr.length cu1) pr ∧ wc38.heap[g1]? = some (.cells (hv (hset zeroH 0 1)) 26 (0, 0)) ∧ wc38.heap[g2]? = some (.cells (hv (hset zeroH 0 2)) 26 (0, 0)) ∧ wc38.heap[g6]? = some (.cells (hv (treeRoot ([(hset zeroH 0 1)]))) 26 (0, 0)) ∧ wc38.heap[g3]? = some (.cells (hv (hset zeroH 0 3)) 26 (0, 0)) ∧ True := ⟨(S.has (.there _ (.there _ (.there _ (.there _ (.there _ (.there _ (.there _ (.here _))))))))), (S.blk_get (.there _ (.there _ (.there _ (.there _ (.there _ (.there _ (.there _ (.there _ (.there _ (.there _ (.there _ (.here _))))))))))))), (S.blk_get (.there _ (.there _ (.there _ (.there _ (.there _ (.there _ (.there _ (.there _ (.there _ (.there _ (.here _)))))))))))), (S.blk_get (.there _ (.there _ (.there _ (.there _ (.there _ (.here _))))))), (S.blk_get (.there _ (.there _ (.there _ (.there _ (.there _ (.there _ (.there _ (.there _ (.there _ (.here _))))))))))), trivial⟩
        refine ⟨.inl hS, ?_⟩
        refine WD_look (v := (.bool true)) (i := 47) rfl (by kernel_rfl) rfl (by decide) (on_none rfl) (fun wx hs => (x_pick_t rfl)) hS ?_
        show WD Try.prog 75 _ _ _ _ 7 _ _ _
        refine WD_look (v := (.bool true)) (i := 48) rfl (by kernel_rfl) rfl (by decide) (on_none rfl) (fun wx hs => (x_mv (v := (.bool true)) rfl)) hS ?_
        show WD Try.prog 75 _ _ _ _ 6 _ _ _
        refine WD_look (v := (.agg (hv (treeRoot ([(hset zeroH 0 1)]))))) (i := 49) rfl (by kernel_rfl) rfl (by decide) (on_guard rfl rfl rfl) (fun wx hs => (x_load_row rfl (hs.2.2.2.1) Try.underlying26 rfl ti26.sz (hv_size _))) hS ?_
        show WD Try.prog 75 _ _ _ _ 5 _ _ _
        refine WD_look (v := (.agg (hv (hset zeroH 0 1)))) (i := 50) rfl (by kernel_rfl) rfl (by decide) (on_guard rfl rfl rfl) (fun wx hs => (x_load_row rfl (hs.2.1) Try.underlying26 rfl ti26.sz (hv_size _))) hS ?_
        show WD Try.prog 75 _ _ _ _ 4 _ _ _
        refine WD_one (i := 51) rfl (by kernel_rfl) (WO_call (on_guard rfl rfl rfl) rfl (by decide) (x_call5 Try.func10 rfl rfl rfl rfl rfl rfl rfl rfl) (Check_c _ (treeRoot ([(hset zeroH 0 1)])) 1048577 0 (hset zeroH 0 1) ([]) Has.nil) ?_)
        rintro _ wc39 ⟨rfl, hb⟩
        refine ⟨_, rfl, ?_⟩
        replace S := S.keep hb
        clear hb
        replace hS : Has wc39 (slc (pur hv) 32) (.slice Au1 pr.length cu1) pr ∧ wc39.heap[g1]? = some (.cells (hv (hset zeroH 0 1)) 26 (0, 0)) ∧ wc39.heap[g2]? = some (.cells (hv (hset zeroH 0 2)) 26 (0, 0)) ∧ wc39.heap[g6]? = some (.cells (hv (treeRoot ([(hset zeroH 0 1)]))) 26 (0, 0)) ∧ wc39.heap[g3]? = some (.cells (hv (hset zeroH 0 3)) 26 (0, 0)) ∧ True := ⟨(S.has (.there _ (.there _ (.there _ (.there _ (.there _ (.there _ (.there _ (.here _))))))))), (S.blk_get (.there _ (.there _ (.there _ (.there _ (.there _ (.there _ (.there _ (.there _ (.there _ (.there _ (.there _ (.here _))))))))))))), (S.blk_get (.there _ (.there _ (.there _ (.there _ (.there _ (.there _ (.there _ (.there _ (.there _ (.there _ (.here _)))))))))))), (S.blk_get (.there _ (.there _ (.there _ (.there _ (.there _ (.here _))))))), (S.blk_get (.there _ (.there _ (.there _ (.there _ (.there _ (.there _ (.there _ (.there _ (.there _ (.here _))))))))))), trivial⟩
        refine ⟨.inl hS, ?_⟩
        refine WD_look (v := (.bool (!(checkB (treeRoot ([(hset zeroH 0 1)])) 1048577 0 (hset zeroH 0 1) ([]))))) (i := 52) rfl (by kernel_rfl) rfl (by decide) (on_guard rfl rfl rfl) (fun wx hs => (x_not (b := checkB (treeRoot ([(hset zeroH 0 1)])) 1048577 0 (hset zeroH 0 1) ([])) rfl)) hS ?_
        show WD Try.prog 75 _ _ _ _ 2 _ _ _
        refine WD_look (v := (.bool (!(checkB (treeRoot ([(hset zeroH 0 1)])) 1048577 0 (hset zeroH 0 1) ([]))))) (i := 53) rfl (by kernel_rfl) rfl (by decide) (on_none rfl) (fun wx hs => (x_pick_t rfl)) hS ?_
        show WD Try.prog 75 _ _ _ _ 1 _ _ _
        refine WD_look (v := (.bool (!(checkB (treeRoot ([(hset zeroH 0 1)])) 1048577 0 (hset zeroH 0 1) ([]))))) (i := 54) rfl (by kernel_rfl) rfl (by decide) (on_none rfl) (fun wx hs => (x_as (v := (.bool (!(checkB (treeRoot ([(hset zeroH 0 1)])) 1048577 0 (hset zeroH 0 1) ([]))))) rfl)) hS ?_
        show WD Try.prog 75 _ _ _ _ 0 _ _ _
        refine WD_done (by kernel_rfl) ?_
        clear hS
        show WC Try.prog 75 _ _ _ _
        refine WC_ret ?_
        show retQ Try.prog Try.f4 _ .ret _ _
        exact ret1 (fn := Try.f4) (v := (.bool (!(checkB (treeRoot ([(hset zeroH 0 1)])) 1048577 0 (hset zeroH 0 1) ([]))))) rfl rfl ⟨by rw [chk3]; rfl, S.below⟩
    · skip
      refine WO_build (vs := [(.string ((hset zeroH 0 2).1))]) (row := #[(.string ((hset zeroH 0 2).1))]) S (on_guard rfl rfl (congrArg Value.bool hk2)) (by decide) Try.underlying40 ti9 rfl rfl rfl (by simp [Value.cells]) (by decide) rfl ?_
      intro g26 wg26 S
      replace hS : Has wg26 (slc (pur hv) 32) (.slice Au1 pr.length cu1) pr ∧ wg26.heap[g1]? = some (.cells (hv (hset zeroH 0 1)) 26 (0, 0)) ∧ wg26.heap[g2]? = some (.cells (hv (hset zeroH 0 2)) 26 (0, 0)) ∧ wg26.heap[g6]? = some (.cells (hv (treeRoot ([(hset zeroH 0 1)]))) 26 (0, 0)) ∧ wg26.heap[g3]? = some (.cells (hv (hset zeroH 0 3)) 26 (0, 0)) ∧ True := ⟨(S.has (.there _ (.there _ (.there _ (.there _ (.here _)))))), (S.blk_get (.there _ (.there _ (.there _ (.there _ (.there _ (.there _ (.there _ (.there _ (.here _)))))))))), (S.blk_get (.there _ (.there _ (.there _ (.there _ (.there _ (.there _ (.there _ (.here _))))))))), (S.blk_get (.there _ (.there _ (.here _)))), (S.blk_get (.there _ (.there _ (.there _ (.there _ (.there _ (.there _ (.here _)))))))), trivial⟩
      refine ⟨.inl hS, ?_⟩
      show WD Try.prog 75 _ _ _ _ 38 _ _ _
      refine WD_one (i := 14) rfl (by kernel_rfl) (WO_call (on_guard rfl rfl (congrArg Value.bool hk2)) rfl (by decide) (x_call2 Try.func8 rfl rfl rfl rfl rfl) (of_c _ (⟨#[108, 101, 97, 102]⟩) ([(hset zeroH 0 1).1]) (ofL_le (⟨#[108, 101, 97, 102]⟩) ([(hset zeroH 0 1).1]) 4 rfl (by simp only [List.map_cons, List.map_nil, List.sum_cons, List.sum_nil, Hsz, eightF_size, zb_size] <;> omega)) (has_row1 (f := Value.string) (fun _ => rfl) [(hset zeroH 0 1).1] (S.blk_get (.there _ (.here _))) rfl (by decide))) ?_)
      rintro _ wc40 ⟨rfl, hb⟩
      refine ⟨_, rfl, ?_⟩
      replace S := S.keep hb
      clear hb
      replace hS : Has wc40 (slc (pur hv) 32) (.slice Au1 pr.length cu1) pr ∧ wc40.heap[g1]? = some (.cells (hv (hset zeroH 0 1)) 26 (0, 0)) ∧ wc40.heap[g2]? = some (.cells (hv (hset zeroH 0 2)) 26 (0, 0)) ∧ wc40.heap[g6]? = some (.cells (hv (treeRoot ([(hset zeroH 0 1)]))) 26 (0, 0)) ∧ wc40.heap[g3]? = some (.cells (hv (hset zeroH 0 3)) 26 (0, 0)) ∧ True := ⟨(S.has (.there _ (.there _ (.there _ (.there _ (.here _)))))), (S.blk_get (.there _ (.there _ (.there _ (.there _ (.there _ (.there _ (.there _ (.there _ (.here _)))))))))), (S.blk_get (.there _ (.there _ (.there _ (.there _ (.there _ (.there _ (.there _ (.here _))))))))), (S.blk_get (.there _ (.there _ (.here _)))), (S.blk_get (.there _ (.there _ (.there _ (.there _ (.there _ (.there _ (.here _)))))))), trivial⟩
      refine ⟨.inl hS, ?_⟩
      refine WD_one (i := 15) rfl (by kernel_rfl) (WO_call (on_guard rfl rfl (congrArg Value.bool hk2)) rfl (by decide) (x_call1 Try.func9 rfl rfl rfl rfl) (bytes_c (ofH (⟨#[108, 101, 97, 102]⟩) ([(hset zeroH 0 1).1])) _) ?_)
      rintro _ wc41 ⟨rfl, hb⟩
      refine ⟨_, rfl, ?_⟩
      replace S := S.keep hb
      clear hb
      replace hS : Has wc41 (slc (pur hv) 32) (.slice Au1 pr.length cu1) pr ∧ wc41.heap[g1]? = some (.cells (hv (hset zeroH 0 1)) 26 (0, 0)) ∧ wc41.heap[g2]? = some (.cells (hv (hset zeroH 0 2)) 26 (0, 0)) ∧ wc41.heap[g6]? = some (.cells (hv (treeRoot ([(hset zeroH 0 1)]))) 26 (0, 0)) ∧ wc41.heap[g3]? = some (.cells (hv (hset zeroH 0 3)) 26 (0, 0)) ∧ True := ⟨(S.has (.there _ (.there _ (.there _ (.there _ (.here _)))))), (S.blk_get (.there _ (.there _ (.there _ (.there _ (.there _ (.there _ (.there _ (.there _ (.here _)))))))))), (S.blk_get (.there _ (.there _ (.there _ (.there _ (.there _ (.there _ (.there _ (.here _))))))))), (S.blk_get (.there _ (.there _ (.here _)))), (S.blk_get (.there _ (.there _ (.there _ (.there _ (.there _ (.there _ (.here _)))))))), trivial⟩
      refine ⟨.inl hS, ?_⟩
      refine WD_one (i := 19) rfl (by kernel_rfl) (WO_call (on_guard rfl rfl (congrArg Value.bool hk2)) rfl (by decide) (x_call2 Try.func8 rfl rfl rfl rfl rfl) (of_c _ (⟨#[108, 101, 97, 102]⟩) ([(hset zeroH 0 2).1]) (ofL_le (⟨#[108, 101, 97, 102]⟩) ([(hset zeroH 0 2).1]) 4 rfl (by simp only [List.map_cons, List.map_nil, List.sum_cons, List.sum_nil, Hsz, eightF_size, zb_size] <;> omega)) (has_row1 (f := Value.string) (fun _ => rfl) [(hset zeroH 0 2).1] (S.blk_get (.here _)) rfl (by decide))) ?_)
      rintro _ wc42 ⟨rfl, hb⟩
      refine ⟨_, rfl, ?_⟩
      replace S := S.keep hb
      clear hb
      replace hS : Has wc42 (slc (pur hv) 32) (.slice Au1 pr.length cu1) pr ∧ wc42.heap[g1]? = some (.cells (hv (hset zeroH 0 1)) 26 (0, 0)) ∧ wc42.heap[g2]? = some (.cells (hv (hset zeroH 0 2)) 26 (0, 0)) ∧ wc42.heap[g6]? = some (.cells (hv (treeRoot ([(hset zeroH 0 1)]))) 26 (0, 0)) ∧ wc42.heap[g3]? = some (.cells (hv (hset zeroH 0 3)) 26 (0, 0)) ∧ True := ⟨(S.has (.there _ (.there _ (.there _ (.there _ (.here _)))))), (S.blk_get (.there _ (.there _ (.there _ (.there _ (.there _ (.there _ (.there _ (.there _ (.here _)))))))))), (S.blk_get (.there _ (.there _ (.there _ (.there _ (.there _ (.there _ (.there _ (.here _))))))))), (S.blk_get (.there _ (.there _ (.here _)))), (S.blk_get (.there _ (.there _ (.there _ (.there _ (.there _ (.there _ (.here _)))))))), trivial⟩
      refine ⟨.inl hS, ?_⟩
      refine WD_one (i := 20) rfl (by kernel_rfl) (WO_call (on_guard rfl rfl (congrArg Value.bool hk2)) rfl (by decide) (x_call1 Try.func9 rfl rfl rfl rfl) (bytes_c (ofH (⟨#[108, 101, 97, 102]⟩) ([(hset zeroH 0 2).1])) _) ?_)
      rintro _ wc43 ⟨rfl, hb⟩
      refine ⟨_, rfl, ?_⟩
      replace S := S.keep hb
      clear hb
      replace hS : Has wc43 (slc (pur hv) 32) (.slice Au1 pr.length cu1) pr ∧ wc43.heap[g1]? = some (.cells (hv (hset zeroH 0 1)) 26 (0, 0)) ∧ wc43.heap[g2]? = some (.cells (hv (hset zeroH 0 2)) 26 (0, 0)) ∧ wc43.heap[g6]? = some (.cells (hv (treeRoot ([(hset zeroH 0 1)]))) 26 (0, 0)) ∧ wc43.heap[g3]? = some (.cells (hv (hset zeroH 0 3)) 26 (0, 0)) ∧ True := ⟨(S.has (.there _ (.there _ (.there _ (.there _ (.here _)))))), (S.blk_get (.there _ (.there _ (.there _ (.there _ (.there _ (.there _ (.there _ (.there _ (.here _)))))))))), (S.blk_get (.there _ (.there _ (.there _ (.there _ (.there _ (.there _ (.there _ (.here _))))))))), (S.blk_get (.there _ (.there _ (.here _)))), (S.blk_get (.there _ (.there _ (.there _ (.there _ (.there _ (.there _ (.here _)))))))), trivial⟩
      refine ⟨.inl hS, ?_⟩
      refine WD_one (i := 21) rfl (by kernel_rfl) (WO_build (vs := [(.string ((ofH (⟨#[108, 101, 97, 102]⟩) ([(hset zeroH 0 1).1])).1)), (.string ((ofH (⟨#[108, 101, 97, 102]⟩) ([(hset zeroH 0 2).1])).1))]) (row := #[(.string ((ofH (⟨#[108, 101, 97, 102]⟩) ([(hset zeroH 0 1).1])).1)), (.string ((ofH (⟨#[108, 101, 97, 102]⟩) ([(hset zeroH 0 2).1])).1))]) S (on_guard rfl rfl (congrArg Value.bool hk2)) (by decide) Try.underlying40 ti9 rfl rfl rfl (by simp [Value.cells]) (by decide) rfl ?_)
      intro g27 wg27 S
      replace hS : Has wg27 (slc (pur hv) 32) (.slice Au1 pr.length cu1) pr ∧ wg27.heap[g1]? = some (.cells (hv (hset zeroH 0 1)) 26 (0, 0)) ∧ wg27.heap[g2]? = some (.cells (hv (hset zeroH 0 2)) 26 (0, 0)) ∧ wg27.heap[g6]? = some (.cells (hv (treeRoot ([(hset zeroH 0 1)]))) 26 (0, 0)) ∧ wg27.heap[g3]? = some (.cells (hv (hset zeroH 0 3)) 26 (0, 0)) ∧ True := ⟨(S.has (.there _ (.there _ (.there _ (.there _ (.there _ (.here _))))))), (S.blk_get (.there _ (.there _ (.there _ (.there _ (.there _ (.there _ (.there _ (.there _ (.there _ (.here _))))))))))), (S.blk_get (.there _ (.there _ (.there _ (.there _ (.there _ (.there _ (.there _ (.there _ (.here _)))))))))), (S.blk_get (.there _ (.there _ (.there _ (.here _))))), (S.blk_get (.there _ (.there _ (.there _ (.there _ (.there _ (.there _ (.there _ (.here _))))))))), trivial⟩
      refine ⟨.inl hS, ?_⟩
      refine WD_one (i := 22) rfl (by kernel_rfl) (WO_call (on_guard rfl rfl (congrArg Value.bool hk2)) rfl (by decide) (x_call2 Try.func8 rfl rfl rfl rfl rfl) (of_c _ (⟨#[112, 97, 105, 114]⟩) ([(ofH (⟨#[108, 101, 97, 102]⟩) ([(hset zeroH 0 1).1])).1, (ofH (⟨#[108, 101, 97, 102]⟩) ([(hset zeroH 0 2).1])).1]) (ofL_le (⟨#[112, 97, 105, 114]⟩) ([(ofH (⟨#[108, 101, 97, 102]⟩) ([(hset zeroH 0 1).1])).1, (ofH (⟨#[108, 101, 97, 102]⟩) ([(hset zeroH 0 2).1])).1]) 4 rfl (by simp only [List.map_cons, List.map_nil, List.sum_cons, List.sum_nil, Hsz, eightF_size, zb_size] <;> omega)) (has_row1 (f := Value.string) (fun _ => rfl) [(ofH (⟨#[108, 101, 97, 102]⟩) ([(hset zeroH 0 1).1])).1, (ofH (⟨#[108, 101, 97, 102]⟩) ([(hset zeroH 0 2).1])).1] (S.blk_get (.here _)) rfl (by decide))) ?_)
      rintro _ wc44 ⟨rfl, hb⟩
      refine ⟨_, rfl, ?_⟩
      replace S := S.keep hb
      clear hb
      replace hS : Has wc44 (slc (pur hv) 32) (.slice Au1 pr.length cu1) pr ∧ wc44.heap[g1]? = some (.cells (hv (hset zeroH 0 1)) 26 (0, 0)) ∧ wc44.heap[g2]? = some (.cells (hv (hset zeroH 0 2)) 26 (0, 0)) ∧ wc44.heap[g6]? = some (.cells (hv (treeRoot ([(hset zeroH 0 1)]))) 26 (0, 0)) ∧ wc44.heap[g3]? = some (.cells (hv (hset zeroH 0 3)) 26 (0, 0)) ∧ True := ⟨(S.has (.there _ (.there _ (.there _ (.there _ (.there _ (.here _))))))), (S.blk_get (.there _ (.there _ (.there _ (.there _ (.there _ (.there _ (.there _ (.there _ (.there _ (.here _))))))))))), (S.blk_get (.there _ (.there _ (.there _ (.there _ (.there _ (.there _ (.there _ (.there _ (.here _)))))))))), (S.blk_get (.there _ (.there _ (.there _ (.here _))))), (S.blk_get (.there _ (.there _ (.there _ (.there _ (.there _ (.there _ (.there _ (.here _))))))))), trivial⟩
      refine ⟨.inl hS, ?_⟩
      refine WD_look (v := (.bool (decide ((hat pr 0) = (ofH (⟨#[112, 97, 105, 114]⟩) ([(ofH (⟨#[108, 101, 97, 102]⟩) ([(hset zeroH 0 1).1])).1, (ofH (⟨#[108, 101, 97, 102]⟩) ([(hset zeroH 0 2).1])).1])))))) (i := 23) rfl (by kernel_rfl) rfl (by decide) (on_guard rfl rfl (congrArg Value.bool hk2)) (fun wx hs => (x_eql_agg rfl rfl ng26 (eq_H (hat pr 0) (ofH (⟨#[112, 97, 105, 114]⟩) ([(ofH (⟨#[108, 101, 97, 102]⟩) ([(hset zeroH 0 1).1])).1, (ofH (⟨#[108, 101, 97, 102]⟩) ([(hset zeroH 0 2).1])).1])) _))) hS ?_
      show WD Try.prog 75 _ _ _ _ 31 _ _ _
      refine WD_look (v := (.bool (decide ((hat pr 0) = (ofH (⟨#[112, 97, 105, 114]⟩) ([(ofH (⟨#[108, 101, 97, 102]⟩) ([(hset zeroH 0 1).1])).1, (ofH (⟨#[108, 101, 97, 102]⟩) ([(hset zeroH 0 2).1])).1])))))) (i := 24) rfl (by kernel_rfl) rfl (by decide) (on_none rfl) (fun wx hs => (x_pick_t (congrArg Value.bool hk2))) hS ?_
      show WD Try.prog 75 _ _ _ _ 30 _ _ _
      refine WD_look (v := (.bool (decide ((hat pr 0) = (ofH (⟨#[112, 97, 105, 114]⟩) ([(ofH (⟨#[108, 101, 97, 102]⟩) ([(hset zeroH 0 1).1])).1, (ofH (⟨#[108, 101, 97, 102]⟩) ([(hset zeroH 0 2).1])).1])))))) (i := 25) rfl (by kernel_rfl) rfl (by decide) (on_none rfl) (fun wx hs => (x_mv (v := (.bool (decide ((hat pr 0) = (ofH (⟨#[112, 97, 105, 114]⟩) ([(ofH (⟨#[108, 101, 97, 102]⟩) ([(hset zeroH 0 1).1])).1, (ofH (⟨#[108, 101, 97, 102]⟩) ([(hset zeroH 0 2).1])).1])))))) rfl)) hS ?_
      show WD Try.prog 75 _ _ _ _ 29 _ _ _
      refine WD_look (v := (.agg (hv (treeRoot ([(hset zeroH 0 1)]))))) (i := 26) rfl (by kernel_rfl) rfl (by decide) (on_guard rfl rfl (congrArg Value.bool hk3)) (fun wx hs => (x_load_row rfl (hs.2.2.2.1) Try.underlying26 rfl ti26.sz (hv_size _))) hS ?_
      show WD Try.prog 75 _ _ _ _ 28 _ _ _
      refine WD_look (v := (.agg (hv (hset zeroH 0 1)))) (i := 27) rfl (by kernel_rfl) rfl (by decide) (on_guard rfl rfl (congrArg Value.bool hk3)) (fun wx hs => (x_load_row rfl (hs.2.1) Try.underlying26 rfl ti26.sz (hv_size _))) hS ?_
      show WD Try.prog 75 _ _ _ _ 27 _ _ _
      refine WD_one (i := 28) rfl (by kernel_rfl) (WO_call (on_guard rfl rfl (congrArg Value.bool hk3)) rfl (by decide) (x_call5 Try.func10 rfl rfl rfl rfl rfl rfl rfl rfl) (Check_c _ (treeRoot ([(hset zeroH 0 1)])) 1 0 (hset zeroH 0 1) ([]) Has.nil) ?_)
      rintro _ wc45 ⟨rfl, hb⟩
      refine ⟨_, rfl, ?_⟩
      replace S := S.keep hb
      clear hb
      replace hS : Has wc45 (slc (pur hv) 32) (.slice Au1 pr.length cu1) pr ∧ wc45.heap[g1]? = some (.cells (hv (hset zeroH 0 1)) 26 (0, 0)) ∧ wc45.heap[g2]? = some (.cells (hv (hset zeroH 0 2)) 26 (0, 0)) ∧ wc45.heap[g6]? = some (.cells (hv (treeRoot ([(hset zeroH 0 1)]))) 26 (0, 0)) ∧ wc45.heap[g3]? = some (.cells (hv (hset zeroH 0 3)) 26 (0, 0)) ∧ True := ⟨(S.has (.there _ (.there _ (.there _ (.there _ (.there _ (.here _))))))), (S.blk_get (.there _ (.there _ (.there _ (.there _ (.there _ (.there _ (.there _ (.there _ (.there _ (.here _))))))))))), (S.blk_get (.there _ (.there _ (.there _ (.there _ (.there _ (.there _ (.there _ (.there _ (.here _)))))))))), (S.blk_get (.there _ (.there _ (.there _ (.here _))))), (S.blk_get (.there _ (.there _ (.there _ (.there _ (.there _ (.there _ (.there _ (.here _))))))))), trivial⟩
      refine ⟨.inl hS, ?_⟩
      refine WD_look (v := (.bool (checkB (treeRoot ([(hset zeroH 0 1)])) 1 0 (hset zeroH 0 1) ([])))) (i := 29) rfl (by kernel_rfl) rfl (by decide) (on_none rfl) (fun wx hs => (x_pick_t (congrArg Value.bool hk3))) hS ?_
      show WD Try.prog 75 _ _ _ _ 25 _ _ _
      refine WD_look (v := (.bool (checkB (treeRoot ([(hset zeroH 0 1)])) 1 0 (hset zeroH 0 1) ([])))) (i := 30) rfl (by kernel_rfl) rfl (by decide) (on_none rfl) (fun wx hs => (x_mv (v := (.bool (checkB (treeRoot ([(hset zeroH 0 1)])) 1 0 (hset zeroH 0 1) ([])))) rfl)) hS ?_
      show WD Try.prog 75 _ _ _ _ 24 _ _ _
      refine WD_look (v := (.agg (hv (treeRoot ([(hset zeroH 0 1)]))))) (i := 31) rfl (by kernel_rfl) rfl (by decide) (on_guard rfl rfl (congrArg Value.bool hk4)) (fun wx hs => (x_load_row rfl (hs.2.2.2.1) Try.underlying26 rfl ti26.sz (hv_size _))) hS ?_
      show WD Try.prog 75 _ _ _ _ 23 _ _ _
      refine WD_look (v := (.agg (hv (hset zeroH 0 1)))) (i := 32) rfl (by kernel_rfl) rfl (by decide) (on_guard rfl rfl (congrArg Value.bool hk4)) (fun wx hs => (x_load_row rfl (hs.2.1) Try.underlying26 rfl ti26.sz (hv_size _))) hS ?_
      show WD Try.prog 75 _ _ _ _ 22 _ _ _
      refine WD_look (v := (.agg (hv (hset zeroH 0 1)))) (i := 33) rfl (by kernel_rfl) rfl (by decide) (on_guard rfl rfl (congrArg Value.bool hk4)) (fun wx hs => (x_load_row rfl (hs.2.1) Try.underlying26 rfl ti26.sz (hv_size _))) hS ?_
      show WD Try.prog 75 _ _ _ _ 21 _ _ _
      refine WD_one (i := 34) rfl (by kernel_rfl) (WO_build (vs := [(.agg (hv (hset zeroH 0 1)))]) (row := hv (hset zeroH 0 1)) S (on_guard rfl rfl (congrArg Value.bool hk4)) (by decide) Try.underlying22 ti26 (hv_size _) rfl rfl (by simp [Value.cells, hv_size, bv_size, Hsz]) (by decide) (rowOf1 _) ?_)
      intro g28 wg28 S
      replace hS : Has wg28 (slc (pur hv) 32) (.slice Au1 pr.length cu1) pr ∧ wg28.heap[g1]? = some (.cells (hv (hset zeroH 0 1)) 26 (0, 0)) ∧ wg28.heap[g2]? = some (.cells (hv (hset zeroH 0 2)) 26 (0, 0)) ∧ wg28.heap[g6]? = some (.cells (hv (treeRoot ([(hset zeroH 0 1)]))) 26 (0, 0)) ∧ wg28.heap[g3]? = some (.cells (hv (hset zeroH 0 3)) 26 (0, 0)) ∧ True := ⟨(S.has (.there _ (.there _ (.there _ (.there _ (.there _ (.there _ (.here _)))))))), (S.blk_get (.there _ (.there _ (.there _ (.there _ (.there _ (.there _ (.there _ (.there _ (.there _ (.there _ (.here _)))))))))))), (S.blk_get (.there _ (.there _ (.there _ (.there _ (.there _ (.there _ (.there _ (.there _ (.there _ (.here _))))))))))), (S.blk_get (.there _ (.there _ (.there _ (.there _ (.here _)))))), (S.blk_get (.there _ (.there _ (.there _ (.there _ (.there _ (.there _ (.there _ (.there _ (.here _)))))))))), trivial⟩
      refine ⟨.inl hS, ?_⟩
      refine WD_one (i := 35) rfl (by kernel_rfl) (WO_call (on_guard rfl rfl (congrArg Value.bool hk4)) rfl (by decide) (x_call5 Try.func10 rfl rfl rfl rfl rfl rfl rfl rfl) (Check_c _ (treeRoot ([(hset zeroH 0 1)])) 1 0 (hset zeroH 0 1) ([(hset zeroH 0 1)]) (has_one (S.blk_get (.here _)) (hv_size _))) ?_)
      rintro _ wc46 ⟨rfl, hb⟩
      refine ⟨_, rfl, ?_⟩
      replace S := S.keep hb
      clear hb
      replace hS : Has wc46 (slc (pur hv) 32) (.slice Au1 pr.length cu1) pr ∧ wc46.heap[g1]? = some (.cells (hv (hset zeroH 0 1)) 26 (0, 0)) ∧ wc46.heap[g2]? = some (.cells (hv (hset zeroH 0 2)) 26 (0, 0)) ∧ wc46.heap[g6]? = some (.cells (hv (treeRoot ([(hset zeroH 0 1)]))) 26 (0, 0)) ∧ wc46.heap[g3]? = some (.cells (hv (hset zeroH 0 3)) 26 (0, 0)) ∧ True := ⟨(S.has (.there _ (.there _ (.there _ (.there _ (.there _ (.there _ (.here _)))))))), (S.blk_get (.there _ (.there _ (.there _ (.there _ (.there _ (.there _ (.there _ (.there _ (.there _ (.there _ (.here _)))))))))))), (S.blk_get (.there _ (.there _ (.there _ (.there _ (.there _ (.there _ (.there _ (.there _ (.there _ (.here _))))))))))), (S.blk_get (.there _ (.there _ (.there _ (.there _ (.here _)))))), (S.blk_get (.there _ (.there _ (.there _ (.there _ (.there _ (.there _ (.there _ (.there _ (.here _)))))))))), trivial⟩
      refine ⟨.inl hS, ?_⟩
      refine WD_look (v := (.bool (!(checkB (treeRoot ([(hset zeroH 0 1)])) 1 0 (hset zeroH 0 1) ([(hset zeroH 0 1)]))))) (i := 36) rfl (by kernel_rfl) rfl (by decide) (on_guard rfl rfl (congrArg Value.bool hk4)) (fun wx hs => (x_not (b := checkB (treeRoot ([(hset zeroH 0 1)])) 1 0 (hset zeroH 0 1) ([(hset zeroH 0 1)])) rfl)) hS ?_
      show WD Try.prog 75 _ _ _ _ 18 _ _ _
      refine WD_look (v := (.bool (!(checkB (treeRoot ([(hset zeroH 0 1)])) 1 0 (hset zeroH 0 1) ([(hset zeroH 0 1)]))))) (i := 37) rfl (by kernel_rfl) rfl (by decide) (on_none rfl) (fun wx hs => (x_pick_t (congrArg Value.bool hk4))) hS ?_
      show WD Try.prog 75 _ _ _ _ 17 _ _ _
      refine WD_look (v := (.bool (!(checkB (treeRoot ([(hset zeroH 0 1)])) 1 0 (hset zeroH 0 1) ([(hset zeroH 0 1)]))))) (i := 38) rfl (by kernel_rfl) rfl (by decide) (on_none rfl) (fun wx hs => (x_mv (v := (.bool (!(checkB (treeRoot ([(hset zeroH 0 1)])) 1 0 (hset zeroH 0 1) ([(hset zeroH 0 1)]))))) rfl)) hS ?_
      show WD Try.prog 75 _ _ _ _ 16 _ _ _
      refine WD_look (v := (.agg (hv (hset zeroH 0 1)))) (i := 39) rfl (by kernel_rfl) rfl (by decide) (on_guard rfl rfl (congrArg Value.bool hk5)) (fun wx hs => (x_load_row rfl (hs.2.1) Try.underlying26 rfl ti26.sz (hv_size _))) hS ?_
      show WD Try.prog 75 _ _ _ _ 15 _ _ _
      refine WD_look (v := (.agg (hv (hset zeroH 0 2)))) (i := 40) rfl (by kernel_rfl) rfl (by decide) (on_guard rfl rfl (congrArg Value.bool hk5)) (fun wx hs => (x_load_row rfl (hs.2.2.1) Try.underlying26 rfl ti26.sz (hv_size _))) hS ?_
      show WD Try.prog 75 _ _ _ _ 14 _ _ _
      refine WD_look (v := (.agg (hv (hset zeroH 0 3)))) (i := 41) rfl (by kernel_rfl) rfl (by decide) (on_guard rfl rfl (congrArg Value.bool hk5)) (fun wx hs => (x_load_row rfl (hs.2.2.2.2.1) Try.underlying26 rfl ti26.sz (hv_size _))) hS ?_
      show WD Try.prog 75 _ _ _ _ 13 _ _ _
      refine WD_one (i := 42) rfl (by kernel_rfl) (WO_build (vs := [(.agg (hv (hset zeroH 0 1))), (.agg (hv (hset zeroH 0 2))), (.agg (hv (hset zeroH 0 3)))]) (row := (hv (hset zeroH 0 1)) ++ (hv (hset zeroH 0 2)) ++ (hv (hset zeroH 0 3))) S (on_guard rfl rfl (congrArg Value.bool hk5)) (by decide) Try.underlying22 ti26 (hv_size _) rfl rfl (by simp [Value.cells, hv_size, bv_size, Hsz]) (by decide) (rowOf3 _ _ _) ?_)
      intro g29 wg29 S
      replace hS : Has wg29 (slc (pur hv) 32) (.slice Au1 pr.length cu1) pr ∧ wg29.heap[g1]? = some (.cells (hv (hset zeroH 0 1)) 26 (0, 0)) ∧ wg29.heap[g2]? = some (.cells (hv (hset zeroH 0 2)) 26 (0, 0)) ∧ wg29.heap[g6]? = some (.cells (hv (treeRoot ([(hset zeroH 0 1)]))) 26 (0, 0)) ∧ wg29.heap[g3]? = some (.cells (hv (hset zeroH 0 3)) 26 (0, 0)) ∧ True := ⟨(S.has (.there _ (.there _ (.there _ (.there _ (.there _ (.there _ (.there _ (.here _))))))))), (S.blk_get (.there _ (.there _ (.there _ (.there _ (.there _ (.there _ (.there _ (.there _ (.there _ (.there _ (.there _ (.here _))))))))))))), (S.blk_get (.there _ (.there _ (.there _ (.there _ (.there _ (.there _ (.there _ (.there _ (.there _ (.there _ (.here _)))))))))))), (S.blk_get (.there _ (.there _ (.there _ (.there _ (.there _ (.here _))))))), (S.blk_get (.there _ (.there _ (.there _ (.there _ (.there _ (.there _ (.there _ (.there _ (.there _ (.here _))))))))))), trivial⟩
      refine ⟨.inl hS, ?_⟩
      refine WD_one (i := 43) rfl (by kernel_rfl) (WO_call (on_guard rfl rfl (congrArg Value.bool hk5)) rfl (by decide) (x_call3 Try.func5 rfl rfl rfl rfl rfl rfl) (rooted04_c _ ([(hset zeroH 0 1), (hset zeroH 0 2), (hset zeroH 0 3)]) 1 0 (by decide) (by decide) (by simp) (has_hs3 (S.blk_get (.here _)))) ?_)
      rintro _ wc47 ⟨rfl, hb⟩
      refine ⟨_, rfl, ?_⟩
      replace S := S.keep hb
      clear hb
      replace hS : Has wc47 (slc (pur hv) 32) (.slice Au1 pr.length cu1) pr ∧ wc47.heap[g1]? = some (.cells (hv (hset zeroH 0 1)) 26 (0, 0)) ∧ wc47.heap[g2]? = some (.cells (hv (hset zeroH 0 2)) 26 (0, 0)) ∧ wc47.heap[g6]? = some (.cells (hv (treeRoot ([(hset zeroH 0 1)]))) 26 (0, 0)) ∧ wc47.heap[g3]? = some (.cells (hv (hset zeroH 0 3)) 26 (0, 0)) ∧ True := ⟨(S.has (.there _ (.there _ (.there _ (.there _ (.there _ (.there _ (.there _ (.here _))))))))), (S.blk_get (.there _ (.there _ (.there _ (.there _ (.there _ (.there _ (.there _ (.there _ (.there _ (.there _ (.there _ (.here _))))))))))))), (S.blk_get (.there _ (.there _ (.there _ (.there _ (.there _ (.there _ (.there _ (.there _ (.there _ (.there _ (.here _)))))))))))), (S.blk_get (.there _ (.there _ (.there _ (.there _ (.there _ (.here _))))))), (S.blk_get (.there _ (.there _ (.there _ (.there _ (.there _ (.there _ (.there _ (.there _ (.there _ (.here _))))))))))), trivial⟩
      refine ⟨.inl hS, ?_⟩
      refine WD_look (v := (.bool true)) (i := 44) rfl (by kernel_rfl) rfl (by decide) (on_none rfl) (fun wx hs => (x_pick_t (congrArg Value.bool hk5))) hS ?_
      show WD Try.prog 75 _ _ _ _ 10 _ _ _
      refine WD_look (v := (.bool true)) (i := 45) rfl (by kernel_rfl) rfl (by decide) (on_none rfl) (fun wx hs => (x_mv (v := (.bool true)) rfl)) hS ?_
      show WD Try.prog 75 _ _ _ _ 9 _ _ _
      refine WD_one (i := 46) rfl (by kernel_rfl) (WO_call (on_guard rfl rfl rfl) rfl (by decide) (x_call3 Try.func5 rfl rfl rfl rfl rfl rfl) (rooted04_c _ ([]) 0 0 (by decide) (by decide) (by simp) Has.nil) ?_)
      rintro _ wc48 ⟨rfl, hb⟩
      refine ⟨_, rfl, ?_⟩
      replace S := S.keep hb
      clear hb
      replace hS : Has wc48 (slc (pur hv) 32) (.slice Au1 pr.length cu1) pr ∧ wc48.heap[g1]? = some (.cells (hv (hset zeroH 0 1)) 26 (0, 0)) ∧ wc48.heap[g2]? = some (.cells (hv (hset zeroH 0 2)) 26 (0, 0)) ∧ wc48.heap[g6]? = some (.cells (hv (treeRoot ([(hset zeroH 0 1)]))) 26 (0, 0)) ∧ wc48.heap[g3]? = some (.cells (hv (hset zeroH 0 3)) 26 (0, 0)) ∧ True := ⟨(S.has (.there _ (.there _ (.there _ (.there _ (.there _ (.there _ (.there _ (.here _))))))))), (S.blk_get (.there _ (.there _ (.there _ (.there _ (.there _ (.there _ (.there _ (.there _ (.there _ (.there _ (.there _ (.here _))))))))))))), (S.blk_get (.there _ (.there _ (.there _ (.there _ (.there _ (.there _ (.there _ (.there _ (.there _ (.there _ (.here _)))))))))))), (S.blk_get (.there _ (.there _ (.there _ (.there _ (.there _ (.here _))))))), (S.blk_get (.there _ (.there _ (.there _ (.there _ (.there _ (.there _ (.there _ (.there _ (.there _ (.here _))))))))))), trivial⟩
      refine ⟨.inl hS, ?_⟩
      refine WD_look (v := (.bool true)) (i := 47) rfl (by kernel_rfl) rfl (by decide) (on_none rfl) (fun wx hs => (x_pick_t rfl)) hS ?_
      show WD Try.prog 75 _ _ _ _ 7 _ _ _
      refine WD_look (v := (.bool true)) (i := 48) rfl (by kernel_rfl) rfl (by decide) (on_none rfl) (fun wx hs => (x_mv (v := (.bool true)) rfl)) hS ?_
      show WD Try.prog 75 _ _ _ _ 6 _ _ _
      refine WD_look (v := (.agg (hv (treeRoot ([(hset zeroH 0 1)]))))) (i := 49) rfl (by kernel_rfl) rfl (by decide) (on_guard rfl rfl rfl) (fun wx hs => (x_load_row rfl (hs.2.2.2.1) Try.underlying26 rfl ti26.sz (hv_size _))) hS ?_
      show WD Try.prog 75 _ _ _ _ 5 _ _ _
      refine WD_look (v := (.agg (hv (hset zeroH 0 1)))) (i := 50) rfl (by kernel_rfl) rfl (by decide) (on_guard rfl rfl rfl) (fun wx hs => (x_load_row rfl (hs.2.1) Try.underlying26 rfl ti26.sz (hv_size _))) hS ?_
      show WD Try.prog 75 _ _ _ _ 4 _ _ _
      refine WD_one (i := 51) rfl (by kernel_rfl) (WO_call (on_guard rfl rfl rfl) rfl (by decide) (x_call5 Try.func10 rfl rfl rfl rfl rfl rfl rfl rfl) (Check_c _ (treeRoot ([(hset zeroH 0 1)])) 1048577 0 (hset zeroH 0 1) ([]) Has.nil) ?_)
      rintro _ wc49 ⟨rfl, hb⟩
      refine ⟨_, rfl, ?_⟩
      replace S := S.keep hb
      clear hb
      replace hS : Has wc49 (slc (pur hv) 32) (.slice Au1 pr.length cu1) pr ∧ wc49.heap[g1]? = some (.cells (hv (hset zeroH 0 1)) 26 (0, 0)) ∧ wc49.heap[g2]? = some (.cells (hv (hset zeroH 0 2)) 26 (0, 0)) ∧ wc49.heap[g6]? = some (.cells (hv (treeRoot ([(hset zeroH 0 1)]))) 26 (0, 0)) ∧ wc49.heap[g3]? = some (.cells (hv (hset zeroH 0 3)) 26 (0, 0)) ∧ True := ⟨(S.has (.there _ (.there _ (.there _ (.there _ (.there _ (.there _ (.there _ (.here _))))))))), (S.blk_get (.there _ (.there _ (.there _ (.there _ (.there _ (.there _ (.there _ (.there _ (.there _ (.there _ (.there _ (.here _))))))))))))), (S.blk_get (.there _ (.there _ (.there _ (.there _ (.there _ (.there _ (.there _ (.there _ (.there _ (.there _ (.here _)))))))))))), (S.blk_get (.there _ (.there _ (.there _ (.there _ (.there _ (.here _))))))), (S.blk_get (.there _ (.there _ (.there _ (.there _ (.there _ (.there _ (.there _ (.there _ (.there _ (.here _))))))))))), trivial⟩
      refine ⟨.inl hS, ?_⟩
      refine WD_look (v := (.bool (!(checkB (treeRoot ([(hset zeroH 0 1)])) 1048577 0 (hset zeroH 0 1) ([]))))) (i := 52) rfl (by kernel_rfl) rfl (by decide) (on_guard rfl rfl rfl) (fun wx hs => (x_not (b := checkB (treeRoot ([(hset zeroH 0 1)])) 1048577 0 (hset zeroH 0 1) ([])) rfl)) hS ?_
      show WD Try.prog 75 _ _ _ _ 2 _ _ _
      refine WD_look (v := (.bool (!(checkB (treeRoot ([(hset zeroH 0 1)])) 1048577 0 (hset zeroH 0 1) ([]))))) (i := 53) rfl (by kernel_rfl) rfl (by decide) (on_none rfl) (fun wx hs => (x_pick_t rfl)) hS ?_
      show WD Try.prog 75 _ _ _ _ 1 _ _ _
      refine WD_look (v := (.bool (!(checkB (treeRoot ([(hset zeroH 0 1)])) 1048577 0 (hset zeroH 0 1) ([]))))) (i := 54) rfl (by kernel_rfl) rfl (by decide) (on_none rfl) (fun wx hs => (x_as (v := (.bool (!(checkB (treeRoot ([(hset zeroH 0 1)])) 1048577 0 (hset zeroH 0 1) ([]))))) rfl)) hS ?_
      show WD Try.prog 75 _ _ _ _ 0 _ _ _
      refine WD_done (by kernel_rfl) ?_
      clear hS
      show WC Try.prog 75 _ _ _ _
      refine WC_ret ?_
      show retQ Try.prog Try.f4 _ .ret _ _
      exact ret1 (fn := Try.f4) (v := (.bool (!(checkB (treeRoot ([(hset zeroH 0 1)])) 1048577 0 (hset zeroH 0 1) ([]))))) rfl rfl ⟨by rw [chk3]; rfl, S.below⟩
  · skip
    refine WO_build (vs := [(.string ((hset zeroH 0 2).1))]) (row := #[(.string ((hset zeroH 0 2).1))]) S (on_guard rfl rfl (congrArg Value.bool hk2)) (by decide) Try.underlying40 ti9 rfl rfl rfl (by simp [Value.cells]) (by decide) rfl ?_
    intro g30 wg30 S
    replace hS : Has wg30 (slc (pur hv) 32) (.slice Au1 pr.length cu1) pr ∧ wg30.heap[g1]? = some (.cells (hv (hset zeroH 0 1)) 26 (0, 0)) ∧ wg30.heap[g2]? = some (.cells (hv (hset zeroH 0 2)) 26 (0, 0)) ∧ wg30.heap[g6]? = some (.cells (hv (treeRoot ([(hset zeroH 0 1)]))) 26 (0, 0)) ∧ wg30.heap[g3]? = some (.cells (hv (hset zeroH 0 3)) 26 (0, 0)) ∧ True := ⟨(S.has (.there _ (.there _ (.there _ (.here _))))), (S.blk_get (.there _ (.there _ (.there _ (.there _ (.there _ (.there _ (.there _ (.here _))))))))), (S.blk_get (.there _ (.there _ (.there _ (.there _ (.there _ (.there _ (.here _)))))))), (S.blk_get (.there _ (.here _))), (S.blk_get (.there _ (.there _ (.there _ (.there _ (.there _ (.here _))))))), trivial⟩
    refine ⟨.inl hS, ?_⟩
    show WD Try.prog 75 _ _ _ _ 39 _ _ _
    refine WD_one (i := 13) rfl (by kernel_rfl) (WO_build (vs := [(.string ((hset zeroH 0 1).1))]) (row := #[(.string ((hset zeroH 0 1).1))]) S (on_guard rfl rfl (congrArg Value.bool hk2)) (by decide) Try.underlying40 ti9 rfl rfl rfl (by simp [Value.cells]) (by decide) rfl ?_)
    intro g31 wg31 S
    replace hS : Has wg31 (slc (pur hv) 32) (.slice Au1 pr.length cu1) pr ∧ wg31.heap[g1]? = some (.cells (hv (hset zeroH 0 1)) 26 (0, 0)) ∧ wg31.heap[g2]? = some (.cells (hv (hset zeroH 0 2)) 26 (0, 0)) ∧ wg31.heap[g6]? = some (.cells (hv (treeRoot ([(hset zeroH 0 1)]))) 26 (0, 0)) ∧ wg31.heap[g3]? = some (.cells (hv (hset zeroH 0 3)) 26 (0, 0)) ∧ True := ⟨(S.has (.there _ (.there _ (.there _ (.there _ (.here _)))))), (S.blk_get (.there _ (.there _ (.there _ (.there _ (.there _ (.there _ (.there _ (.there _ (.here _)))))))))), (S.blk_get (.there _ (.there _ (.there _ (.there _ (.there _ (.there _ (.there _ (.here _))))))))), (S.blk_get (.there _ (.there _ (.here _)))), (S.blk_get (.there _ (.there _ (.there _ (.there _ (.there _ (.there _ (.here _)))))))), trivial⟩
    refine ⟨.inl hS, ?_⟩
    refine WD_one (i := 14) rfl (by kernel_rfl) (WO_call (on_guard rfl rfl (congrArg Value.bool hk2)) rfl (by decide) (x_call2 Try.func8 rfl rfl rfl rfl rfl) (of_c _ (⟨#[108, 101, 97, 102]⟩) ([(hset zeroH 0 1).1]) (ofL_le (⟨#[108, 101, 97, 102]⟩) ([(hset zeroH 0 1).1]) 4 rfl (by simp only [List.map_cons, List.map_nil, List.sum_cons, List.sum_nil, Hsz, eightF_size, zb_size] <;> omega)) (has_row1 (f := Value.string) (fun _ => rfl) [(hset zeroH 0 1).1] (S.blk_get (.here _)) rfl (by decide))) ?_)
    rintro _ wc50 ⟨rfl, hb⟩
    refine ⟨_, rfl, ?_⟩
    replace S := S.keep hb
    clear hb
    replace hS : Has wc50 (slc (pur hv) 32) (.slice Au1 pr.length cu1) pr ∧ wc50.heap[g1]? = some (.cells (hv (hset zeroH 0 1)) 26 (0, 0)) ∧ wc50.heap[g2]? = some (.cells (hv (hset zeroH 0 2)) 26 (0, 0)) ∧ wc50.heap[g6]? = some (.cells (hv (treeRoot ([(hset zeroH 0 1)]))) 26 (0, 0)) ∧ wc50.heap[g3]? = some (.cells (hv (hset zeroH 0 3)) 26 (0, 0)) ∧ True := ⟨(S.has (.there _ (.there _ (.there _ (.there _ (.here _)))))), (S.blk_get (.there _ (.there _ (.there _ (.there _ (.there _ (.there _ (.there _ (.there _ (.here _)))))))))), (S.blk_get (.there _ (.there _ (.there _ (.there _ (.there _ (.there _ (.there _ (.here _))))))))), (S.blk_get (.there _ (.there _ (.here _)))), (S.blk_get (.there _ (.there _ (.there _ (.there _ (.there _ (.there _ (.here _)))))))), trivial⟩
    refine ⟨.inl hS, ?_⟩
    refine WD_one (i := 15) rfl (by kernel_rfl) (WO_call (on_guard rfl rfl (congrArg Value.bool hk2)) rfl (by decide) (x_call1 Try.func9 rfl rfl rfl rfl) (bytes_c (ofH (⟨#[108, 101, 97, 102]⟩) ([(hset zeroH 0 1).1])) _) ?_)
    rintro _ wc51 ⟨rfl, hb⟩
    refine ⟨_, rfl, ?_⟩
    replace S := S.keep hb
    clear hb
    replace hS : Has wc51 (slc (pur hv) 32) (.slice Au1 pr.length cu1) pr ∧ wc51.heap[g1]? = some (.cells (hv (hset zeroH 0 1)) 26 (0, 0)) ∧ wc51.heap[g2]? = some (.cells (hv (hset zeroH 0 2)) 26 (0, 0)) ∧ wc51.heap[g6]? = some (.cells (hv (treeRoot ([(hset zeroH 0 1)]))) 26 (0, 0)) ∧ wc51.heap[g3]? = some (.cells (hv (hset zeroH 0 3)) 26 (0, 0)) ∧ True := ⟨(S.has (.there _ (.there _ (.there _ (.there _ (.here _)))))), (S.blk_get (.there _ (.there _ (.there _ (.there _ (.there _ (.there _ (.there _ (.there _ (.here _)))))))))), (S.blk_get (.there _ (.there _ (.there _ (.there _ (.there _ (.there _ (.there _ (.here _))))))))), (S.blk_get (.there _ (.there _ (.here _)))), (S.blk_get (.there _ (.there _ (.there _ (.there _ (.there _ (.there _ (.here _)))))))), trivial⟩
    refine ⟨.inl hS, ?_⟩
    refine WD_one (i := 19) rfl (by kernel_rfl) (WO_call (on_guard rfl rfl (congrArg Value.bool hk2)) rfl (by decide) (x_call2 Try.func8 rfl rfl rfl rfl rfl) (of_c _ (⟨#[108, 101, 97, 102]⟩) ([(hset zeroH 0 2).1]) (ofL_le (⟨#[108, 101, 97, 102]⟩) ([(hset zeroH 0 2).1]) 4 rfl (by simp only [List.map_cons, List.map_nil, List.sum_cons, List.sum_nil, Hsz, eightF_size, zb_size] <;> omega)) (has_row1 (f := Value.string) (fun _ => rfl) [(hset zeroH 0 2).1] (S.blk_get (.there _ (.here _))) rfl (by decide))) ?_)
    rintro _ wc52 ⟨rfl, hb⟩
    refine ⟨_, rfl, ?_⟩
    replace S := S.keep hb
    clear hb
    replace hS : Has wc52 (slc (pur hv) 32) (.slice Au1 pr.length cu1) pr ∧ wc52.heap[g1]? = some (.cells (hv (hset zeroH 0 1)) 26 (0, 0)) ∧ wc52.heap[g2]? = some (.cells (hv (hset zeroH 0 2)) 26 (0, 0)) ∧ wc52.heap[g6]? = some (.cells (hv (treeRoot ([(hset zeroH 0 1)]))) 26 (0, 0)) ∧ wc52.heap[g3]? = some (.cells (hv (hset zeroH 0 3)) 26 (0, 0)) ∧ True := ⟨(S.has (.there _ (.there _ (.there _ (.there _ (.here _)))))), (S.blk_get (.there _ (.there _ (.there _ (.there _ (.there _ (.there _ (.there _ (.there _ (.here _)))))))))), (S.blk_get (.there _ (.there _ (.there _ (.there _ (.there _ (.there _ (.there _ (.here _))))))))), (S.blk_get (.there _ (.there _ (.here _)))), (S.blk_get (.there _ (.there _ (.there _ (.there _ (.there _ (.there _ (.here _)))))))), trivial⟩
    refine ⟨.inl hS, ?_⟩
    refine WD_one (i := 20) rfl (by kernel_rfl) (WO_call (on_guard rfl rfl (congrArg Value.bool hk2)) rfl (by decide) (x_call1 Try.func9 rfl rfl rfl rfl) (bytes_c (ofH (⟨#[108, 101, 97, 102]⟩) ([(hset zeroH 0 2).1])) _) ?_)
    rintro _ wc53 ⟨rfl, hb⟩
    refine ⟨_, rfl, ?_⟩
    replace S := S.keep hb
    clear hb
    replace hS : Has wc53 (slc (pur hv) 32) (.slice Au1 pr.length cu1) pr ∧ wc53.heap[g1]? = some (.cells (hv (hset zeroH 0 1)) 26 (0, 0)) ∧ wc53.heap[g2]? = some (.cells (hv (hset zeroH 0 2)) 26 (0, 0)) ∧ wc53.heap[g6]? = some (.cells (hv (treeRoot ([(hset zeroH 0 1)]))) 26 (0, 0)) ∧ wc53.heap[g3]? = some (.cells (hv (hset zeroH 0 3)) 26 (0, 0)) ∧ True := ⟨(S.has (.there _ (.there _ (.there _ (.there _ (.here _)))))), (S.blk_get (.there _ (.there _ (.there _ (.there _ (.there _ (.there _ (.there _ (.there _ (.here _)))))))))), (S.blk_get (.there _ (.there _ (.there _ (.there _ (.there _ (.there _ (.there _ (.here _))))))))), (S.blk_get (.there _ (.there _ (.here _)))), (S.blk_get (.there _ (.there _ (.there _ (.there _ (.there _ (.there _ (.here _)))))))), trivial⟩
    refine ⟨.inl hS, ?_⟩
    refine WD_one (i := 21) rfl (by kernel_rfl) (WO_build (vs := [(.string ((ofH (⟨#[108, 101, 97, 102]⟩) ([(hset zeroH 0 1).1])).1)), (.string ((ofH (⟨#[108, 101, 97, 102]⟩) ([(hset zeroH 0 2).1])).1))]) (row := #[(.string ((ofH (⟨#[108, 101, 97, 102]⟩) ([(hset zeroH 0 1).1])).1)), (.string ((ofH (⟨#[108, 101, 97, 102]⟩) ([(hset zeroH 0 2).1])).1))]) S (on_guard rfl rfl (congrArg Value.bool hk2)) (by decide) Try.underlying40 ti9 rfl rfl rfl (by simp [Value.cells]) (by decide) rfl ?_)
    intro g32 wg32 S
    replace hS : Has wg32 (slc (pur hv) 32) (.slice Au1 pr.length cu1) pr ∧ wg32.heap[g1]? = some (.cells (hv (hset zeroH 0 1)) 26 (0, 0)) ∧ wg32.heap[g2]? = some (.cells (hv (hset zeroH 0 2)) 26 (0, 0)) ∧ wg32.heap[g6]? = some (.cells (hv (treeRoot ([(hset zeroH 0 1)]))) 26 (0, 0)) ∧ wg32.heap[g3]? = some (.cells (hv (hset zeroH 0 3)) 26 (0, 0)) ∧ True := ⟨(S.has (.there _ (.there _ (.there _ (.there _ (.there _ (.here _))))))), (S.blk_get (.there _ (.there _ (.there _ (.there _ (.there _ (.there _ (.there _ (.there _ (.there _ (.here _))))))))))), (S.blk_get (.there _ (.there _ (.there _ (.there _ (.there _ (.there _ (.there _ (.there _ (.here _)))))))))), (S.blk_get (.there _ (.there _ (.there _ (.here _))))), (S.blk_get (.there _ (.there _ (.there _ (.there _ (.there _ (.there _ (.there _ (.here _))))))))), trivial⟩
    refine ⟨.inl hS, ?_⟩
    refine WD_one (i := 22) rfl (by kernel_rfl) (WO_call (on_guard rfl rfl (congrArg Value.bool hk2)) rfl (by decide) (x_call2 Try.func8 rfl rfl rfl rfl rfl) (of_c _ (⟨#[112, 97, 105, 114]⟩) ([(ofH (⟨#[108, 101, 97, 102]⟩) ([(hset zeroH 0 1).1])).1, (ofH (⟨#[108, 101, 97, 102]⟩) ([(hset zeroH 0 2).1])).1]) (ofL_le (⟨#[112, 97, 105, 114]⟩) ([(ofH (⟨#[108, 101, 97, 102]⟩) ([(hset zeroH 0 1).1])).1, (ofH (⟨#[108, 101, 97, 102]⟩) ([(hset zeroH 0 2).1])).1]) 4 rfl (by simp only [List.map_cons, List.map_nil, List.sum_cons, List.sum_nil, Hsz, eightF_size, zb_size] <;> omega)) (has_row1 (f := Value.string) (fun _ => rfl) [(ofH (⟨#[108, 101, 97, 102]⟩) ([(hset zeroH 0 1).1])).1, (ofH (⟨#[108, 101, 97, 102]⟩) ([(hset zeroH 0 2).1])).1] (S.blk_get (.here _)) rfl (by decide))) ?_)
    rintro _ wc54 ⟨rfl, hb⟩
    refine ⟨_, rfl, ?_⟩
    replace S := S.keep hb
    clear hb
    replace hS : Has wc54 (slc (pur hv) 32) (.slice Au1 pr.length cu1) pr ∧ wc54.heap[g1]? = some (.cells (hv (hset zeroH 0 1)) 26 (0, 0)) ∧ wc54.heap[g2]? = some (.cells (hv (hset zeroH 0 2)) 26 (0, 0)) ∧ wc54.heap[g6]? = some (.cells (hv (treeRoot ([(hset zeroH 0 1)]))) 26 (0, 0)) ∧ wc54.heap[g3]? = some (.cells (hv (hset zeroH 0 3)) 26 (0, 0)) ∧ True := ⟨(S.has (.there _ (.there _ (.there _ (.there _ (.there _ (.here _))))))), (S.blk_get (.there _ (.there _ (.there _ (.there _ (.there _ (.there _ (.there _ (.there _ (.there _ (.here _))))))))))), (S.blk_get (.there _ (.there _ (.there _ (.there _ (.there _ (.there _ (.there _ (.there _ (.here _)))))))))), (S.blk_get (.there _ (.there _ (.there _ (.here _))))), (S.blk_get (.there _ (.there _ (.there _ (.there _ (.there _ (.there _ (.there _ (.here _))))))))), trivial⟩
    refine ⟨.inl hS, ?_⟩
    refine WD_look (v := (.bool (decide ((hat pr 0) = (ofH (⟨#[112, 97, 105, 114]⟩) ([(ofH (⟨#[108, 101, 97, 102]⟩) ([(hset zeroH 0 1).1])).1, (ofH (⟨#[108, 101, 97, 102]⟩) ([(hset zeroH 0 2).1])).1])))))) (i := 23) rfl (by kernel_rfl) rfl (by decide) (on_guard rfl rfl (congrArg Value.bool hk2)) (fun wx hs => (x_eql_agg rfl rfl ng26 (eq_H (hat pr 0) (ofH (⟨#[112, 97, 105, 114]⟩) ([(ofH (⟨#[108, 101, 97, 102]⟩) ([(hset zeroH 0 1).1])).1, (ofH (⟨#[108, 101, 97, 102]⟩) ([(hset zeroH 0 2).1])).1])) _))) hS ?_
    show WD Try.prog 75 _ _ _ _ 31 _ _ _
    refine WD_look (v := (.bool (decide ((hat pr 0) = (ofH (⟨#[112, 97, 105, 114]⟩) ([(ofH (⟨#[108, 101, 97, 102]⟩) ([(hset zeroH 0 1).1])).1, (ofH (⟨#[108, 101, 97, 102]⟩) ([(hset zeroH 0 2).1])).1])))))) (i := 24) rfl (by kernel_rfl) rfl (by decide) (on_none rfl) (fun wx hs => (x_pick_t (congrArg Value.bool hk2))) hS ?_
    show WD Try.prog 75 _ _ _ _ 30 _ _ _
    refine WD_look (v := (.bool (decide ((hat pr 0) = (ofH (⟨#[112, 97, 105, 114]⟩) ([(ofH (⟨#[108, 101, 97, 102]⟩) ([(hset zeroH 0 1).1])).1, (ofH (⟨#[108, 101, 97, 102]⟩) ([(hset zeroH 0 2).1])).1])))))) (i := 25) rfl (by kernel_rfl) rfl (by decide) (on_none rfl) (fun wx hs => (x_mv (v := (.bool (decide ((hat pr 0) = (ofH (⟨#[112, 97, 105, 114]⟩) ([(ofH (⟨#[108, 101, 97, 102]⟩) ([(hset zeroH 0 1).1])).1, (ofH (⟨#[108, 101, 97, 102]⟩) ([(hset zeroH 0 2).1])).1])))))) rfl)) hS ?_
    show WD Try.prog 75 _ _ _ _ 29 _ _ _
    refine WD_look (v := (.agg (hv (treeRoot ([(hset zeroH 0 1)]))))) (i := 26) rfl (by kernel_rfl) rfl (by decide) (on_guard rfl rfl (congrArg Value.bool hk3)) (fun wx hs => (x_load_row rfl (hs.2.2.2.1) Try.underlying26 rfl ti26.sz (hv_size _))) hS ?_
    show WD Try.prog 75 _ _ _ _ 28 _ _ _
    refine WD_look (v := (.agg (hv (hset zeroH 0 1)))) (i := 27) rfl (by kernel_rfl) rfl (by decide) (on_guard rfl rfl (congrArg Value.bool hk3)) (fun wx hs => (x_load_row rfl (hs.2.1) Try.underlying26 rfl ti26.sz (hv_size _))) hS ?_
    show WD Try.prog 75 _ _ _ _ 27 _ _ _
    refine WD_one (i := 28) rfl (by kernel_rfl) (WO_call (on_guard rfl rfl (congrArg Value.bool hk3)) rfl (by decide) (x_call5 Try.func10 rfl rfl rfl rfl rfl rfl rfl rfl) (Check_c _ (treeRoot ([(hset zeroH 0 1)])) 1 0 (hset zeroH 0 1) ([]) Has.nil) ?_)
    rintro _ wc55 ⟨rfl, hb⟩
    refine ⟨_, rfl, ?_⟩
    replace S := S.keep hb
    clear hb
    replace hS : Has wc55 (slc (pur hv) 32) (.slice Au1 pr.length cu1) pr ∧ wc55.heap[g1]? = some (.cells (hv (hset zeroH 0 1)) 26 (0, 0)) ∧ wc55.heap[g2]? = some (.cells (hv (hset zeroH 0 2)) 26 (0, 0)) ∧ wc55.heap[g6]? = some (.cells (hv (treeRoot ([(hset zeroH 0 1)]))) 26 (0, 0)) ∧ wc55.heap[g3]? = some (.cells (hv (hset zeroH 0 3)) 26 (0, 0)) ∧ True := ⟨(S.has (.there _ (.there _ (.there _ (.there _ (.there _ (.here _))))))), (S.blk_get (.there _ (.there _ (.there _ (.there _ (.there _ (.there _ (.there _ (.there _ (.there _ (.here _))))))))))), (S.blk_get (.there _ (.there _ (.there _ (.there _ (.there _ (.there _ (.there _ (.there _ (.here _)))))))))), (S.blk_get (.there _ (.there _ (.there _ (.here _))))), (S.blk_get (.there _ (.there _ (.there _ (.there _ (.there _ (.there _ (.there _ (.here _))))))))), trivial⟩
    refine ⟨.inl hS, ?_⟩
    refine WD_look (v := (.bool (checkB (treeRoot ([(hset zeroH 0 1)])) 1 0 (hset zeroH 0 1) ([])))) (i := 29) rfl (by kernel_rfl) rfl (by decide) (on_none rfl) (fun wx hs => (x_pick_t (congrArg Value.bool hk3))) hS ?_
    show WD Try.prog 75 _ _ _ _ 25 _ _ _
    refine WD_look (v := (.bool (checkB (treeRoot ([(hset zeroH 0 1)])) 1 0 (hset zeroH 0 1) ([])))) (i := 30) rfl (by kernel_rfl) rfl (by decide) (on_none rfl) (fun wx hs => (x_mv (v := (.bool (checkB (treeRoot ([(hset zeroH 0 1)])) 1 0 (hset zeroH 0 1) ([])))) rfl)) hS ?_
    show WD Try.prog 75 _ _ _ _ 24 _ _ _
    refine WD_look (v := (.agg (hv (treeRoot ([(hset zeroH 0 1)]))))) (i := 31) rfl (by kernel_rfl) rfl (by decide) (on_guard rfl rfl (congrArg Value.bool hk4)) (fun wx hs => (x_load_row rfl (hs.2.2.2.1) Try.underlying26 rfl ti26.sz (hv_size _))) hS ?_
    show WD Try.prog 75 _ _ _ _ 23 _ _ _
    refine WD_look (v := (.agg (hv (hset zeroH 0 1)))) (i := 32) rfl (by kernel_rfl) rfl (by decide) (on_guard rfl rfl (congrArg Value.bool hk4)) (fun wx hs => (x_load_row rfl (hs.2.1) Try.underlying26 rfl ti26.sz (hv_size _))) hS ?_
    show WD Try.prog 75 _ _ _ _ 22 _ _ _
    refine WD_look (v := (.agg (hv (hset zeroH 0 1)))) (i := 33) rfl (by kernel_rfl) rfl (by decide) (on_guard rfl rfl (congrArg Value.bool hk4)) (fun wx hs => (x_load_row rfl (hs.2.1) Try.underlying26 rfl ti26.sz (hv_size _))) hS ?_
    show WD Try.prog 75 _ _ _ _ 21 _ _ _
    refine WD_one (i := 34) rfl (by kernel_rfl) (WO_build (vs := [(.agg (hv (hset zeroH 0 1)))]) (row := hv (hset zeroH 0 1)) S (on_guard rfl rfl (congrArg Value.bool hk4)) (by decide) Try.underlying22 ti26 (hv_size _) rfl rfl (by simp [Value.cells, hv_size, bv_size, Hsz]) (by decide) (rowOf1 _) ?_)
    intro g33 wg33 S
    replace hS : Has wg33 (slc (pur hv) 32) (.slice Au1 pr.length cu1) pr ∧ wg33.heap[g1]? = some (.cells (hv (hset zeroH 0 1)) 26 (0, 0)) ∧ wg33.heap[g2]? = some (.cells (hv (hset zeroH 0 2)) 26 (0, 0)) ∧ wg33.heap[g6]? = some (.cells (hv (treeRoot ([(hset zeroH 0 1)]))) 26 (0, 0)) ∧ wg33.heap[g3]? = some (.cells (hv (hset zeroH 0 3)) 26 (0, 0)) ∧ True := ⟨(S.has (.there _ (.there _ (.there _ (.there _ (.there _ (.there _ (.here _)))))))), (S.blk_get (.there _ (.there _ (.there _ (.there _ (.there _ (.there _ (.there _ (.there _ (.there _ (.there _ (.here _)))))))))))), (S.blk_get (.there _ (.there _ (.there _ (.there _ (.there _ (.there _ (.there _ (.there _ (.there _ (.here _))))))))))), (S.blk_get (.there _ (.there _ (.there _ (.there _ (.here _)))))), (S.blk_get (.there _ (.there _ (.there _ (.there _ (.there _ (.there _ (.there _ (.there _ (.here _)))))))))), trivial⟩
    refine ⟨.inl hS, ?_⟩
    refine WD_one (i := 35) rfl (by kernel_rfl) (WO_call (on_guard rfl rfl (congrArg Value.bool hk4)) rfl (by decide) (x_call5 Try.func10 rfl rfl rfl rfl rfl rfl rfl rfl) (Check_c _ (treeRoot ([(hset zeroH 0 1)])) 1 0 (hset zeroH 0 1) ([(hset zeroH 0 1)]) (has_one (S.blk_get (.here _)) (hv_size _))) ?_)
    rintro _ wc56 ⟨rfl, hb⟩
    refine ⟨_, rfl, ?_⟩
    replace S := S.keep hb
    clear hb
    replace hS : Has wc56 (slc (pur hv) 32) (.slice Au1 pr.length cu1) pr ∧ wc56.heap[g1]? = some (.cells (hv (hset zeroH 0 1)) 26 (0, 0)) ∧ wc56.heap[g2]? = some (.cells (hv (hset zeroH 0 2)) 26 (0, 0)) ∧ wc56.heap[g6]? = some (.cells (hv (treeRoot ([(hset zeroH 0 1)]))) 26 (0, 0)) ∧ wc56.heap[g3]? = some (.cells (hv (hset zeroH 0 3)) 26 (0, 0)) ∧ True := ⟨(S.has (.there _ (.there _ (.there _ (.there _ (.there _ (.there _ (.here _)))))))), (S.blk_get (.there _ (.there _ (.there _ (.there _ (.there _ (.there _ (.there _ (.there _ (.there _ (.there _ (.here _)))))))))))), (S.blk_get (.there _ (.there _ (.there _ (.there _ (.there _ (.there _ (.there _ (.there _ (.there _ (.here _))))))))))), (S.blk_get (.there _ (.there _ (.there _ (.there _ (.here _)))))), (S.blk_get (.there _ (.there _ (.there _ (.there _ (.there _ (.there _ (.there _ (.there _ (.here _)))))))))), trivial⟩
    refine ⟨.inl hS, ?_⟩
    refine WD_look (v := (.bool (!(checkB (treeRoot ([(hset zeroH 0 1)])) 1 0 (hset zeroH 0 1) ([(hset zeroH 0 1)]))))) (i := 36) rfl (by kernel_rfl) rfl (by decide) (on_guard rfl rfl (congrArg Value.bool hk4)) (fun wx hs => (x_not (b := checkB (treeRoot ([(hset zeroH 0 1)])) 1 0 (hset zeroH 0 1) ([(hset zeroH 0 1)])) rfl)) hS ?_
    show WD Try.prog 75 _ _ _ _ 18 _ _ _
    refine WD_look (v := (.bool (!(checkB (treeRoot ([(hset zeroH 0 1)])) 1 0 (hset zeroH 0 1) ([(hset zeroH 0 1)]))))) (i := 37) rfl (by kernel_rfl) rfl (by decide) (on_none rfl) (fun wx hs => (x_pick_t (congrArg Value.bool hk4))) hS ?_
    show WD Try.prog 75 _ _ _ _ 17 _ _ _
    refine WD_look (v := (.bool (!(checkB (treeRoot ([(hset zeroH 0 1)])) 1 0 (hset zeroH 0 1) ([(hset zeroH 0 1)]))))) (i := 38) rfl (by kernel_rfl) rfl (by decide) (on_none rfl) (fun wx hs => (x_mv (v := (.bool (!(checkB (treeRoot ([(hset zeroH 0 1)])) 1 0 (hset zeroH 0 1) ([(hset zeroH 0 1)]))))) rfl)) hS ?_
    show WD Try.prog 75 _ _ _ _ 16 _ _ _
    refine WD_look (v := (.agg (hv (hset zeroH 0 1)))) (i := 39) rfl (by kernel_rfl) rfl (by decide) (on_guard rfl rfl (congrArg Value.bool hk5)) (fun wx hs => (x_load_row rfl (hs.2.1) Try.underlying26 rfl ti26.sz (hv_size _))) hS ?_
    show WD Try.prog 75 _ _ _ _ 15 _ _ _
    refine WD_look (v := (.agg (hv (hset zeroH 0 2)))) (i := 40) rfl (by kernel_rfl) rfl (by decide) (on_guard rfl rfl (congrArg Value.bool hk5)) (fun wx hs => (x_load_row rfl (hs.2.2.1) Try.underlying26 rfl ti26.sz (hv_size _))) hS ?_
    show WD Try.prog 75 _ _ _ _ 14 _ _ _
    refine WD_look (v := (.agg (hv (hset zeroH 0 3)))) (i := 41) rfl (by kernel_rfl) rfl (by decide) (on_guard rfl rfl (congrArg Value.bool hk5)) (fun wx hs => (x_load_row rfl (hs.2.2.2.2.1) Try.underlying26 rfl ti26.sz (hv_size _))) hS ?_
    show WD Try.prog 75 _ _ _ _ 13 _ _ _
    refine WD_one (i := 42) rfl (by kernel_rfl) (WO_build (vs := [(.agg (hv (hset zeroH 0 1))), (.agg (hv (hset zeroH 0 2))), (.agg (hv (hset zeroH 0 3)))]) (row := (hv (hset zeroH 0 1)) ++ (hv (hset zeroH 0 2)) ++ (hv (hset zeroH 0 3))) S (on_guard rfl rfl (congrArg Value.bool hk5)) (by decide) Try.underlying22 ti26 (hv_size _) rfl rfl (by simp [Value.cells, hv_size, bv_size, Hsz]) (by decide) (rowOf3 _ _ _) ?_)
    intro g34 wg34 S
    replace hS : Has wg34 (slc (pur hv) 32) (.slice Au1 pr.length cu1) pr ∧ wg34.heap[g1]? = some (.cells (hv (hset zeroH 0 1)) 26 (0, 0)) ∧ wg34.heap[g2]? = some (.cells (hv (hset zeroH 0 2)) 26 (0, 0)) ∧ wg34.heap[g6]? = some (.cells (hv (treeRoot ([(hset zeroH 0 1)]))) 26 (0, 0)) ∧ wg34.heap[g3]? = some (.cells (hv (hset zeroH 0 3)) 26 (0, 0)) ∧ True := ⟨(S.has (.there _ (.there _ (.there _ (.there _ (.there _ (.there _ (.there _ (.here _))))))))), (S.blk_get (.there _ (.there _ (.there _ (.there _ (.there _ (.there _ (.there _ (.there _ (.there _ (.there _ (.there _ (.here _))))))))))))), (S.blk_get (.there _ (.there _ (.there _ (.there _ (.there _ (.there _ (.there _ (.there _ (.there _ (.there _ (.here _)))))))))))), (S.blk_get (.there _ (.there _ (.there _ (.there _ (.there _ (.here _))))))), (S.blk_get (.there _ (.there _ (.there _ (.there _ (.there _ (.there _ (.there _ (.there _ (.there _ (.here _))))))))))), trivial⟩
    refine ⟨.inl hS, ?_⟩
    refine WD_one (i := 43) rfl (by kernel_rfl) (WO_call (on_guard rfl rfl (congrArg Value.bool hk5)) rfl (by decide) (x_call3 Try.func5 rfl rfl rfl rfl rfl rfl) (rooted04_c _ ([(hset zeroH 0 1), (hset zeroH 0 2), (hset zeroH 0 3)]) 1 0 (by decide) (by decide) (by simp) (has_hs3 (S.blk_get (.here _)))) ?_)
    rintro _ wc57 ⟨rfl, hb⟩
    refine ⟨_, rfl, ?_⟩
    replace S := S.keep hb
    clear hb
    replace hS : Has wc57 (slc (pur hv) 32) (.slice Au1 pr.length cu1) pr ∧ wc57.heap[g1]? = some (.cells (hv (hset zeroH 0 1)) 26 (0, 0)) ∧ wc57.heap[g2]? = some (.cells (hv (hset zeroH 0 2)) 26 (0, 0)) ∧ wc57.heap[g6]? = some (.cells (hv (treeRoot ([(hset zeroH 0 1)]))) 26 (0, 0)) ∧ wc57.heap[g3]? = some (.cells (hv (hset zeroH 0 3)) 26 (0, 0)) ∧ True := ⟨(S.has (.there _ (.there _ (.there _ (.there _ (.there _ (.there _ (.there _ (.here _))))))))), (S.blk_get (.there _ (.there _ (.there _ (.there _ (.there _ (.there _ (.there _ (.there _ (.there _ (.there _ (.there _ (.here _))))))))))))), (S.blk_get (.there _ (.there _ (.there _ (.there _ (.there _ (.there _ (.there _ (.there _ (.there _ (.there _ (.here _)))))))))))), (S.blk_get (.there _ (.there _ (.there _ (.there _ (.there _ (.here _))))))), (S.blk_get (.there _ (.there _ (.there _ (.there _ (.there _ (.there _ (.there _ (.there _ (.there _ (.here _))))))))))), trivial⟩
    refine ⟨.inl hS, ?_⟩
    refine WD_look (v := (.bool true)) (i := 44) rfl (by kernel_rfl) rfl (by decide) (on_none rfl) (fun wx hs => (x_pick_t (congrArg Value.bool hk5))) hS ?_
    show WD Try.prog 75 _ _ _ _ 10 _ _ _
    refine WD_look (v := (.bool true)) (i := 45) rfl (by kernel_rfl) rfl (by decide) (on_none rfl) (fun wx hs => (x_mv (v := (.bool true)) rfl)) hS ?_
    show WD Try.prog 75 _ _ _ _ 9 _ _ _
    refine WD_one (i := 46) rfl (by kernel_rfl) (WO_call (on_guard rfl rfl rfl) rfl (by decide) (x_call3 Try.func5 rfl rfl rfl rfl rfl rfl) (rooted04_c _ ([]) 0 0 (by decide) (by decide) (by simp) Has.nil) ?_)
    rintro _ wc58 ⟨rfl, hb⟩
    refine ⟨_, rfl, ?_⟩
    replace S := S.keep hb
    clear hb
    replace hS : Has wc58 (slc (pur hv) 32) (.slice Au1 pr.length cu1) pr ∧ wc58.heap[g1]? = some (.cells (hv (hset zeroH 0 1)) 26 (0, 0)) ∧ wc58.heap[g2]? = some (.cells (hv (hset zeroH 0 2)) 26 (0, 0)) ∧ wc58.heap[g6]? = some (.cells (hv (treeRoot ([(hset zeroH 0 1)]))) 26 (0, 0)) ∧ wc58.heap[g3]? = some (.cells (hv (hset zeroH 0 3)) 26 (0, 0)) ∧ True := ⟨(S.has (.there _ (.there _ (.there _ (.there _ (.there _ (.there _ (.there _ (.here _))))))))), (S.blk_get (.there _ (.there _ (.there _ (.there _ (.there _ (.there _ (.there _ (.there _ (.there _ (.there _ (.there _ (.here _))))))))))))), (S.blk_get (.there _ (.there _ (.there _ (.there _ (.there _ (.there _ (.there _ (.there _ (.there _ (.there _ (.here _)))))))))))), (S.blk_get (.there _ (.there _ (.there _ (.there _ (.there _ (.here _))))))), (S.blk_get (.there _ (.there _ (.there _ (.there _ (.there _ (.there _ (.there _ (.there _ (.there _ (.here _))))))))))), trivial⟩
    refine ⟨.inl hS, ?_⟩
    refine WD_look (v := (.bool true)) (i := 47) rfl (by kernel_rfl) rfl (by decide) (on_none rfl) (fun wx hs => (x_pick_t rfl)) hS ?_
    show WD Try.prog 75 _ _ _ _ 7 _ _ _
    refine WD_look (v := (.bool true)) (i := 48) rfl (by kernel_rfl) rfl (by decide) (on_none rfl) (fun wx hs => (x_mv (v := (.bool true)) rfl)) hS ?_
    show WD Try.prog 75 _ _ _ _ 6 _ _ _
    refine WD_look (v := (.agg (hv (treeRoot ([(hset zeroH 0 1)]))))) (i := 49) rfl (by kernel_rfl) rfl (by decide) (on_guard rfl rfl rfl) (fun wx hs => (x_load_row rfl (hs.2.2.2.1) Try.underlying26 rfl ti26.sz (hv_size _))) hS ?_
    show WD Try.prog 75 _ _ _ _ 5 _ _ _
    refine WD_look (v := (.agg (hv (hset zeroH 0 1)))) (i := 50) rfl (by kernel_rfl) rfl (by decide) (on_guard rfl rfl rfl) (fun wx hs => (x_load_row rfl (hs.2.1) Try.underlying26 rfl ti26.sz (hv_size _))) hS ?_
    show WD Try.prog 75 _ _ _ _ 4 _ _ _
    refine WD_one (i := 51) rfl (by kernel_rfl) (WO_call (on_guard rfl rfl rfl) rfl (by decide) (x_call5 Try.func10 rfl rfl rfl rfl rfl rfl rfl rfl) (Check_c _ (treeRoot ([(hset zeroH 0 1)])) 1048577 0 (hset zeroH 0 1) ([]) Has.nil) ?_)
    rintro _ wc59 ⟨rfl, hb⟩
    refine ⟨_, rfl, ?_⟩
    replace S := S.keep hb
    clear hb
    replace hS : Has wc59 (slc (pur hv) 32) (.slice Au1 pr.length cu1) pr ∧ wc59.heap[g1]? = some (.cells (hv (hset zeroH 0 1)) 26 (0, 0)) ∧ wc59.heap[g2]? = some (.cells (hv (hset zeroH 0 2)) 26 (0, 0)) ∧ wc59.heap[g6]? = some (.cells (hv (treeRoot ([(hset zeroH 0 1)]))) 26 (0, 0)) ∧ wc59.heap[g3]? = some (.cells (hv (hset zeroH 0 3)) 26 (0, 0)) ∧ True := ⟨(S.has (.there _ (.there _ (.there _ (.there _ (.there _ (.there _ (.there _ (.here _))))))))), (S.blk_get (.there _ (.there _ (.there _ (.there _ (.there _ (.there _ (.there _ (.there _ (.there _ (.there _ (.there _ (.here _))))))))))))), (S.blk_get (.there _ (.there _ (.there _ (.there _ (.there _ (.there _ (.there _ (.there _ (.there _ (.there _ (.here _)))))))))))), (S.blk_get (.there _ (.there _ (.there _ (.there _ (.there _ (.here _))))))), (S.blk_get (.there _ (.there _ (.there _ (.there _ (.there _ (.there _ (.there _ (.there _ (.there _ (.here _))))))))))), trivial⟩
    refine ⟨.inl hS, ?_⟩
    refine WD_look (v := (.bool (!(checkB (treeRoot ([(hset zeroH 0 1)])) 1048577 0 (hset zeroH 0 1) ([]))))) (i := 52) rfl (by kernel_rfl) rfl (by decide) (on_guard rfl rfl rfl) (fun wx hs => (x_not (b := checkB (treeRoot ([(hset zeroH 0 1)])) 1048577 0 (hset zeroH 0 1) ([])) rfl)) hS ?_
    show WD Try.prog 75 _ _ _ _ 2 _ _ _
    refine WD_look (v := (.bool (!(checkB (treeRoot ([(hset zeroH 0 1)])) 1048577 0 (hset zeroH 0 1) ([]))))) (i := 53) rfl (by kernel_rfl) rfl (by decide) (on_none rfl) (fun wx hs => (x_pick_t rfl)) hS ?_
    show WD Try.prog 75 _ _ _ _ 1 _ _ _
    refine WD_look (v := (.bool (!(checkB (treeRoot ([(hset zeroH 0 1)])) 1048577 0 (hset zeroH 0 1) ([]))))) (i := 54) rfl (by kernel_rfl) rfl (by decide) (on_none rfl) (fun wx hs => (x_as (v := (.bool (!(checkB (treeRoot ([(hset zeroH 0 1)])) 1048577 0 (hset zeroH 0 1) ([]))))) rfl)) hS ?_
    show WD Try.prog 75 _ _ _ _ 0 _ _ _
    refine WD_done (by kernel_rfl) ?_
    clear hS
    show WC Try.prog 75 _ _ _ _
    refine WC_ret ?_
    show retQ Try.prog Try.f4 _ .ret _ _
    exact ret1 (fn := Try.f4) (v := (.bool (!(checkB (treeRoot ([(hset zeroH 0 1)])) 1048577 0 (hset zeroH 0 1) ([]))))) rfl rfl ⟨by rw [chk3]; rfl, S.below⟩

theorem TopRooted_c (w : World) {A : Option Addr} {n c : Nat} (l : List H) (at_ bend : Int) (ha : 0 ≤ at_ ∧ at_ ≤ 255) (hb : 0 ≤ bend ∧ bend ≤ 255) (hP : Has w (slc (pur hv) 32) (.slice A n c) l) :
    Calls Try.prog 3 #[(.slice A l.length c), (.int .u8 at_), (.int .u8 bend)] w (fun e w' => e = .returned (.bool true) ∧ Below w.heap.size w w') := by
  obtain ⟨rfl, hnc, hcm⟩ := hP.len
  simp only [maxLen] at hcm
  refine calls_WC (c := _) (n := 18) (vs := [(.slice A l.length c), (.int .u8 at_), (.int .u8 bend)]) Try.func3 rfl Try.ntmps3 (Nat.le_of_ble_eq_true rfl) ?_
  have S := SL.start w
  refine WC_seq ?_
  refine WC_region ?_
  refine WL_cons (WO_val (v := (.bool false)) (on_none rfl) rfl (by decide) (x_as (v := (.bool false)) rfl) ?_)
  refine WL_nil ?_
  show WC Try.prog 18 _ _ _ _
  refine WC_seq ?_
  refine WC_seq ?_
  refine WC_region ?_
  refine WL_cons (WO_val (v := (.slice A l.length c)) (on_none rfl) rfl (by decide) (x_mv (v := (.slice A l.length c)) rfl) ?_)
  refine WL_cons (WO_val (v := (.int .i64 ((l.length : Nat) : Int))) (on_none rfl) rfl (by decide) (x_len_slc rfl Try.underlying22) ?_)
  refine WL_cons (WO_val (v := (.bool (decide (20 < ((l.length : Nat) : Int))))) (on_none rfl) rfl (by decide) (x_gtr (a := ((l.length : Nat) : Int)) (b := 20) rfl rfl) ?_)
  refine WL_nil ?_
  show WC Try.prog 18 _ _ _ _
  refine WC_cond (t := decide (20 < ((l.length : Nat) : Int))) rfl (fun hc1 => ?_) (fun hc1 => ?_)
  · show WC Try.prog 18 _ _ _ _
    have hc1_ := of_decide_eq_true hc1
    refine WC_seq ?_
    refine WC_region ?_
    refine WL_cons (WO_call (on_none rfl) rfl (by decide) (x_call0 Try.func4 rfl rfl rfl) (knows04_c _) ?_)
    rintro _ wc1 ⟨rfl, hb⟩
    refine ⟨_, rfl, ?_⟩
    replace S := S.keep hb
    clear hb
    refine WL_cons (WO_val (v := (.bool true)) (on_none rfl) rfl (by decide) (x_as (v := (.bool true)) rfl) ?_)
    refine WL_nil ?_
    show WC Try.prog 18 _ _ _ _
    refine WC_ret ?_
    refine thenR ?_
    show retQ Try.prog Try.f3 _ .ret _ _
    exact ret1 (fn := Try.f3) (v := (.bool true)) rfl rfl ⟨rfl, S.below⟩
  · show WC Try.prog 18 _ _ _ _
    have hc1_ := of_decide_eq_false hc1
    refine WC_skip ?_
    show WC Try.prog 18 _ _ _ _
    refine WC_seq ?_
    refine WC_region ?_
    refine WL_cons (WO_val (v := (.slice A l.length c)) (on_none rfl) rfl (by decide) (x_mv (v := (.slice A l.length c)) rfl) ?_)
    refine WL_cons (WO_val (v := (.int .u8 at_)) (on_none rfl) rfl (by decide) (x_mv (v := (.int .u8 at_)) rfl) ?_)
    refine WL_cons (WO_val (v := (.int .u8 bend)) (on_none rfl) rfl (by decide) (x_mv (v := (.int .u8 bend)) rfl) ?_)
    refine WL_cons (WO_call (on_none rfl) rfl (by decide) (x_call3 Try.func5 rfl rfl rfl rfl rfl rfl) (rooted04_c _ l at_ bend ha hb (by omega) (S.old hP)) ?_)
    rintro _ wc2 ⟨rfl, hb⟩
    refine ⟨_, rfl, ?_⟩
    replace S := S.keep hb
    clear hb
    refine WL_cons (WO_val (v := (.bool true)) (on_none rfl) rfl (by decide) (x_mv (v := (.bool true)) rfl) ?_)
    refine WL_cons (WO_call (on_guard rfl rfl rfl) rfl (by decide) (x_call0 Try.func4 rfl rfl rfl) (knows04_c _) ?_)
    rintro _ wc3 ⟨rfl, hb⟩
    refine ⟨_, rfl, ?_⟩
    replace S := S.keep hb
    clear hb
    refine WL_cons (WO_val (v := (.bool true)) (on_none rfl) rfl (by decide) (x_pick_t rfl) ?_)
    refine WL_cons (WO_val (v := (.bool true)) (on_none rfl) rfl (by decide) (x_as (v := (.bool true)) rfl) ?_)
    refine WL_nil ?_
    show WC Try.prog 18 _ _ _ _
    refine WC_ret ?_
    show retQ Try.prog Try.f3 _ .ret _ _
    exact ret1 (fn := Try.f3) (v := (.bool true)) rfl rfl ⟨rfl, S.below⟩
end Go.Proofs.Ytjlbkbfnmcppeaa.Sl

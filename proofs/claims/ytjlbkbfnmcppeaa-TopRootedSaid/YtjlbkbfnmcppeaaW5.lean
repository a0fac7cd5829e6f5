/-
  What calls of the program's functions come to (part W5): each function walked once; the conditions stand in each theorem.
-/
import Derived.Test.YtjlbkbfnmcppeaaW4
set_option maxHeartbeats 2000000
set_option linter.unusedSimpArgs false
set_option linter.unusedVariables false
set_option maxRecDepth 100000
namespace Go.Proofs.Ytjlbkbfnmcppeaa.Sl
open Go Go.RowKit
theorem copyCheck_nil {w0 w : World} {M : List Chk} {gb : Nat} {A : Option Addr} {m c : Nat} (S : SL w0 ([blk gb 43 #[(.pointer none), .slice A m c]] ++ M) w) :
    Calls Try.prog 28 #[(.pointer (some ⟨gb, 0, none⟩))] w (fun e w' => e = .returned (.tuple #[]) ∧ SL w0 ([blk gb 43 #[.pointer (some ⟨gb, 0, none⟩), .slice A m c]] ++ M) w') := by
  refine calls_WC (c := _) (n := 20) (vs := [(.pointer (some ⟨gb, 0, none⟩))]) Try.func28 rfl Try.ntmps28 (Nat.le_of_ble_eq_true rfl) ?_
  have S := S
  refine WC_seq ?_
  refine WC_region ?_
  refine WL_cons (WO_val (v := (.pointer (some ⟨gb, 0, none⟩))) (on_none rfl) rfl (by decide) (x_mv (v := (.pointer (some ⟨gb, 0, none⟩))) rfl) ?_)
  refine WL_cons (WO_val (v := (.pointer (some ⟨gb, 0, none⟩))) (on_none rfl) rfl (by decide) (x_nilCheck rfl) ?_)
  refine WL_cons (WO_val (v := (.pointer (some ⟨gb, 0, none⟩))) (on_none rfl) rfl (by decide) (x_fieldAddr rfl Try.underlying43 rfl rfl ti41.sz (by decide)) ?_)
  refine WL_cons (WO_val (v := (.pointer none)) (on_none rfl) rfl (by decide) (x_load_cell (v := (.pointer none)) rfl (cell_row (S.blk_get (.here _)) rfl) Try.underlying41 rfl) ?_)
  refine WL_cons (WO_val (v := (.bool true)) (on_none rfl) rfl (by decide) (x_ptr_nil rfl rfl Try.underlying41) ?_)
  refine WL_nil ?_
  show WC Try.prog 20 _ _ _ _
  refine WC_cond (t := true) rfl (fun _ => ?_) (fun h => by cases h)
  show WC Try.prog 20 _ _ _ _
  refine WC_region ?_
  refine WL_cons (WO_val (v := (.pointer (some ⟨gb, 0, none⟩))) (on_none rfl) rfl (by decide) (x_mv (v := (.pointer (some ⟨gb, 0, none⟩))) rfl) ?_)
  refine WL_cons (WO_val (v := (.pointer (some ⟨gb, 0, none⟩))) (on_none rfl) rfl (by decide) (x_mv (v := (.pointer (some ⟨gb, 0, none⟩))) rfl) ?_)
  refine WL_cons (WO_val (v := (.pointer (some ⟨gb, 0, none⟩))) (on_none rfl) rfl (by decide) (x_to_unsafe rfl (S.blk_get (.here _)) (Nat.le_of_ble_eq_true rfl) Try.underlying41 Try.underlying67 ti43 (by decide)) ?_)
  refine WL_cons (WO_val (v := (.pointer (some ⟨gb, 0, none⟩))) (on_none rfl) rfl (by decide) (x_noEscape Try.func35 (by kernel_rfl) rfl (by kernel_rfl) (by kernel_rfl) rfl rfl) ?_)
  refine WL_cons (WO_val (v := (.pointer (some ⟨gb, 0, none⟩))) (on_none rfl) rfl (by decide) (x_from_unsafe rfl (S.blk_get (.here _)) rfl Try.underlying67 Try.underlying41 ti43 (by kernel_rfl)) ?_)
  refine WL_cons (WO_val (v := (.pointer (some ⟨gb, 0, none⟩))) (on_none rfl) rfl (by decide) (x_nilCheck rfl) ?_)
  refine WL_cons (WO_val (v := (.pointer (some ⟨gb, 0, none⟩))) (on_none rfl) rfl (by decide) (x_fieldAddr rfl Try.underlying43 rfl rfl ti41.sz (by decide)) ?_)
  refine WL_cons (WO_store (v := (.pointer (some ⟨gb, 0, none⟩))) (row := #[(.pointer none), (.slice A m c)]) (row' := #[(.pointer (some ⟨gb, 0, none⟩)), (.slice A m c)]) S (on_none rfl) rfl rfl (.here _) ti41.sz rfl (Nat.le_of_ble_eq_true rfl) (by simp [Value.cells, Value.oneCell']) rfl ?_)
  intro ws1 S
  refine WL_nil ?_
  show retQ Try.prog Try.f28 _ .normal _ _
  exact ret0n (fn := Try.f28) rfl ⟨rfl, S⟩

theorem copyCheck_self {w0 w : World} {M : List Chk} {gb : Nat} {A : Option Addr} {m c : Nat} (S : SL w0 ([blk gb 43 #[(.pointer (some ⟨gb, 0, none⟩)), .slice A m c]] ++ M) w) :
    Calls Try.prog 28 #[(.pointer (some ⟨gb, 0, none⟩))] w (fun e w' => e = .returned (.tuple #[]) ∧ SL w0 ([blk gb 43 #[.pointer (some ⟨gb, 0, none⟩), .slice A m c]] ++ M) w') := by
  refine calls_WC (c := _) (n := 20) (vs := [(.pointer (some ⟨gb, 0, none⟩))]) Try.func28 rfl Try.ntmps28 (Nat.le_of_ble_eq_true rfl) ?_
  have S := S
  refine WC_seq ?_
  refine WC_region ?_
  refine WL_cons (WO_val (v := (.pointer (some ⟨gb, 0, none⟩))) (on_none rfl) rfl (by decide) (x_mv (v := (.pointer (some ⟨gb, 0, none⟩))) rfl) ?_)
  refine WL_cons (WO_val (v := (.pointer (some ⟨gb, 0, none⟩))) (on_none rfl) rfl (by decide) (x_nilCheck rfl) ?_)
  refine WL_cons (WO_val (v := (.pointer (some ⟨gb, 0, none⟩))) (on_none rfl) rfl (by decide) (x_fieldAddr rfl Try.underlying43 rfl rfl ti41.sz (by decide)) ?_)
  refine WL_cons (WO_val (v := (.pointer (some ⟨gb, 0, none⟩))) (on_none rfl) rfl (by decide) (x_load_cell (v := (.pointer (some ⟨gb, 0, none⟩))) rfl (cell_row (S.blk_get (.here _)) rfl) Try.underlying41 rfl) ?_)
  refine WL_cons (WO_val (v := (.bool false)) (on_none rfl) rfl (by decide) (x_ptr_some rfl rfl Try.underlying41) ?_)
  refine WL_nil ?_
  show WC Try.prog 20 _ _ _ _
  refine WC_cond (t := false) rfl (fun h => by cases h) (fun _ => ?_)
  show WC Try.prog 20 _ _ _ _
  refine WC_seq ?_
  refine WC_region ?_
  refine WL_cons (WO_val (v := (.pointer (some ⟨gb, 0, none⟩))) (on_none rfl) rfl (by decide) (x_mv (v := (.pointer (some ⟨gb, 0, none⟩))) rfl) ?_)
  refine WL_cons (WO_val (v := (.pointer (some ⟨gb, 0, none⟩))) (on_none rfl) rfl (by decide) (x_nilCheck rfl) ?_)
  refine WL_cons (WO_val (v := (.pointer (some ⟨gb, 0, none⟩))) (on_none rfl) rfl (by decide) (x_fieldAddr rfl Try.underlying43 rfl rfl ti41.sz (by decide)) ?_)
  refine WL_cons (WO_val (v := (.pointer (some ⟨gb, 0, none⟩))) (on_none rfl) rfl (by decide) (x_load_cell (v := (.pointer (some ⟨gb, 0, none⟩))) rfl (cell_row (S.blk_get (.here _)) rfl) Try.underlying41 rfl) ?_)
  refine WL_cons (WO_val (v := (.pointer (some ⟨gb, 0, none⟩))) (on_none rfl) rfl (by decide) (x_mv (v := (.pointer (some ⟨gb, 0, none⟩))) rfl) ?_)
  refine WL_cons (WO_val (v := (.bool false)) (on_none rfl) rfl (by decide) (x_ptr_nesame rfl rfl Try.underlying41 ti43) ?_)
  refine WL_nil ?_
  show WC Try.prog 20 _ _ _ _
  refine WC_cond (t := false) rfl (fun h => by cases h) (fun _ => ?_)
  show WC Try.prog 20 _ _ _ _
  refine WC_skip ?_
  show retQ Try.prog Try.f28 _ .normal _ _
  exact ret0n (fn := Try.f28) rfl ⟨rfl, S⟩

theorem copyCheck_c {w0 w : World} {M : List Chk} {gb : Nat} {A : Option Addr} {m c : Nat} {p : Value} (hp : p = .pointer none ∨ p = .pointer (some ⟨gb, 0, none⟩)) (S : SL w0 (blk gb 43 #[p, .slice A m c] :: M) w) :
    Calls Try.prog 28 #[.pointer (some ⟨gb, 0, none⟩)] w fun e w' => e = .returned (.tuple #[]) ∧ SL w0 (blk gb 43 #[.pointer (some ⟨gb, 0, none⟩), .slice A m c] :: M) w' := by
  rcases hp with rfl | rfl
  · exact copyCheck_nil S
  · exact copyCheck_self S

theorem write_c {w0 w : World} {M : List Chk} {gb : Nat} {A : Option Addr} {m c : Nat} {p : Value} {xs : List UInt8} (s : ByteArray) (hz : xs.length + s.size ≤ 140737488355328) (hp : p = .pointer none ∨ p = .pointer (some ⟨gb, 0, none⟩)) (S : SL w0 ([blk gb 43 #[p, .slice A m c], own encB 5 1 (.slice A m c) xs] ++ M) w) :
    Calls Try.prog 18 #[(.pointer (some ⟨gb, 0, none⟩)), (.string s)] w (fun e w' => ∃ A' m' c', e = .returned (.tuple #[.int .i64 (s.size : Int), .nilIface]) ∧ SL w0 (blk gb 43 #[.pointer (some ⟨gb, 0, none⟩), .slice A' m' c'] :: own encB 5 1 (.slice A' m' c') (xs ++ s.data.toList) :: M) w') := by
  refine calls_WC (c := _) (n := 19) (vs := [(.pointer (some ⟨gb, 0, none⟩)), (.string s)]) Try.func18 rfl Try.ntmps18 (Nat.le_of_ble_eq_true rfl) ?_
  have S := S
  refine WC_seq ?_
  refine WC_region ?_
  refine WL_cons (WO_val (v := (.int .i64 0)) (on_none rfl) rfl (by decide) (x_as (v := (.int .i64 0)) rfl) ?_)
  refine WL_cons (WO_val (v := .nilIface) (on_none rfl) rfl (by decide) (x_as (v := .nilIface) rfl) ?_)
  refine WL_nil ?_
  show WC Try.prog 19 _ _ _ _
  refine WC_seq ?_
  refine WC_region ?_
  refine WL_cons (WO_val (v := (.pointer (some ⟨gb, 0, none⟩))) (on_none rfl) rfl (by decide) (x_mv (v := (.pointer (some ⟨gb, 0, none⟩))) rfl) ?_)
  refine WL_cons (WO_call (on_none rfl) rfl (by decide) (x_call1 Try.func28 rfl rfl rfl rfl) (copyCheck_c hp S) ?_)
  rintro _ wc1 ⟨rfl, S⟩
  refine ⟨_, rfl, ?_⟩
  refine WL_nil ?_
  show WC Try.prog 19 _ _ _ _
  refine WC_seq ?_
  refine WC_region ?_
  refine WL_cons (WO_val (v := (.pointer (some ⟨gb, 0, none⟩))) (on_none rfl) rfl (by decide) (x_mv (v := (.pointer (some ⟨gb, 0, none⟩))) rfl) ?_)
  refine WL_cons (WO_val (v := (.pointer (some ⟨gb, 0, none⟩))) (on_none rfl) rfl (by decide) (x_mv (v := (.pointer (some ⟨gb, 0, none⟩))) rfl) ?_)
  refine WL_cons (WO_val (v := (.pointer (some ⟨gb, 0, none⟩))) (on_none rfl) rfl (by decide) (x_nilCheck rfl) ?_)
  refine WL_cons (WO_val (v := (.pointer (some ⟨gb, 1, none⟩))) (on_none rfl) rfl (by decide) (x_fieldAddr rfl Try.underlying43 rfl rfl ti33.sz (by decide)) ?_)
  refine WL_cons (WO_val (v := (.slice A m c)) (on_none rfl) rfl (by decide) (x_load_cell (v := (.slice A m c)) rfl (cell_row (S.blk_get (.here _)) rfl) Try.underlying33 rfl) ?_)
  refine WL_cons (WO_val (v := (.string s)) (on_none rfl) rfl (by decide) (x_mv (v := (.string s)) rfl) ?_)
  refine WL_cons (WO_append_str (c := 0) (m := 0) (xs := xs) (s := s) S (on_none rfl) (by decide) rfl rfl (fun v' => (.there _ (.here _))) Try.underlying33 Try.underlying9 ti5 (by omega) ?_)
  intro A1 c1 wa1 S
  refine WL_cons (WO_val (v := (.pointer (some ⟨gb, 0, none⟩))) (on_none rfl) rfl (by decide) (x_nilCheck rfl) ?_)
  refine WL_cons (WO_val (v := (.pointer (some ⟨gb, 1, none⟩))) (on_none rfl) rfl (by decide) (x_fieldAddr rfl Try.underlying43 rfl rfl ti33.sz (by decide)) ?_)
  refine WL_cons (WO_store (v := (.slice A1 (xs.length + s.size) c1)) (row := #[(.pointer (some ⟨gb, 0, none⟩)), (.slice A m c)]) (row' := #[(.pointer (some ⟨gb, 0, none⟩)), (.slice A1 (xs.length + s.size) c1)]) S (on_none rfl) rfl rfl (.here _) ti33.sz rfl (Nat.le_of_ble_eq_true rfl) (by simp [Value.cells, Value.oneCell']) rfl ?_)
  intro ws1 S
  refine WL_nil ?_
  show WC Try.prog 19 _ _ _ _
  refine WC_seq ?_
  refine WC_region ?_
  refine WL_cons (WO_val (v := (.string s)) (on_none rfl) rfl (by decide) (x_mv (v := (.string s)) rfl) ?_)
  refine WL_cons (WO_val (v := (.int .i64 (s.size : Int))) (on_none rfl) rfl (by decide) (x_len_str (s := s) rfl Try.underlying9) ?_)
  refine WL_cons (WO_val (v := (.int .i64 (s.size : Int))) (on_none rfl) rfl (by decide) (x_as (v := (.int .i64 (s.size : Int))) rfl) ?_)
  refine WL_cons (WO_val (v := .nilIface) (on_none rfl) rfl (by decide) (x_as (v := .nilIface) rfl) ?_)
  refine WL_nil ?_
  show WC Try.prog 19 _ _ _ _
  refine WC_ret ?_
  show retQ Try.prog Try.f18 _ .ret _ _
  exact ret2 (fn := Try.f18) (v := (.int .i64 (s.size : Int))) (v' := .nilIface) rfl rfl rfl ⟨_, _, _, rfl, S⟩

theorem string_c {w0 w : World} {M : List Chk} {gb : Nat} {A : Option Addr} {m c : Nat} {xs : List UInt8} (h0 : xs ≠ []) (S : SL w0 ([blk gb 43 #[.pointer (some ⟨gb, 0, none⟩), .slice A m c], own encB 5 1 (.slice A m c) xs] ++ M) w) :
    Calls Try.prog 21 #[(.pointer (some ⟨gb, 0, none⟩))] w (fun e w' => e = .returned (.string (tx xs)) ∧ SL w0 (blk gb 43 #[.pointer (some ⟨gb, 0, none⟩), .slice A m c] :: M) w') := by
  obtain ⟨ga, rfl, rfl, hc⟩ := SL.own_addr S (.there _ (.here _)) h0
  refine calls_WC (c := _) (n := 14) (vs := [(.pointer (some ⟨gb, 0, none⟩))]) Try.func21 rfl Try.ntmps21 (Nat.le_of_ble_eq_true rfl) ?_
  have S := S
  refine WC_seq ?_
  refine WC_region ?_
  refine WL_cons (WO_val (v := (.string (⟨#[]⟩))) (on_none rfl) rfl (by decide) (x_as (v := (.string (⟨#[]⟩))) rfl) ?_)
  refine WL_nil ?_
  show WC Try.prog 14 _ _ _ _
  refine WC_seq ?_
  refine WC_draw (S := fun wx => wx.heap[gb]? = some (.cells (#[(.pointer (some ⟨gb, 0, none⟩)), (.slice (some ⟨ga, 0, none⟩) xs.length c)]) 43 (0, 0)) ∧ True) (Z := []) rfl ?_
  replace S := S.drew
  have hS : (World.drew w).heap[gb]? = some (.cells (#[(.pointer (some ⟨gb, 0, none⟩)), (.slice (some ⟨ga, 0, none⟩) xs.length c)]) 43 (0, 0)) ∧ True := ⟨(S.blk_get (.here _)), trivial⟩
  show WD Try.prog 14 _ _ _ _ 12 [] _ _
  refine WD_look (v := (.pointer (some ⟨gb, 0, none⟩))) (i := 0) rfl (by kernel_rfl) rfl (by decide) (on_none rfl) (fun wx hs => (x_mv (v := (.pointer (some ⟨gb, 0, none⟩))) rfl)) hS ?_
  show WD Try.prog 14 _ _ _ _ 11 _ _ _
  refine WD_look (v := (.pointer (some ⟨gb, 0, none⟩))) (i := 1) rfl (by kernel_rfl) rfl (by decide) (on_none rfl) (fun wx hs => (x_nilCheck rfl)) hS ?_
  show WD Try.prog 14 _ _ _ _ 10 _ _ _
  refine WD_look (v := (.pointer (some ⟨gb, 1, none⟩))) (i := 2) rfl (by kernel_rfl) rfl (by decide) (on_none rfl) (fun wx hs => (x_fieldAddr rfl Try.underlying43 rfl rfl ti33.sz (by decide))) hS ?_
  show WD Try.prog 14 _ _ _ _ 9 _ _ _
  refine WD_look (v := (.slice (some ⟨ga, 0, none⟩) xs.length c)) (i := 3) rfl (by kernel_rfl) rfl (by decide) (on_none rfl) (fun wx hs => (x_load_cell (v := (.slice (some ⟨ga, 0, none⟩) xs.length c)) rfl (cell_row (hs.1) rfl) Try.underlying33 rfl)) hS ?_
  show WD Try.prog 14 _ _ _ _ 8 _ _ _
  refine WD_look (v := (.pointer (some ⟨ga, 0, none⟩))) (i := 4) rfl (by kernel_rfl) rfl (by decide) (on_none rfl) (fun wx hs => (x_unsafeSliceData rfl hc)) hS ?_
  show WD Try.prog 14 _ _ _ _ 7 _ _ _
  refine WD_look (v := (.pointer (some ⟨gb, 0, none⟩))) (i := 5) rfl (by kernel_rfl) rfl (by decide) (on_none rfl) (fun wx hs => (x_mv (v := (.pointer (some ⟨gb, 0, none⟩))) rfl)) hS ?_
  show WD Try.prog 14 _ _ _ _ 6 _ _ _
  refine WD_look (v := (.pointer (some ⟨gb, 0, none⟩))) (i := 6) rfl (by kernel_rfl) rfl (by decide) (on_none rfl) (fun wx hs => (x_nilCheck rfl)) hS ?_
  show WD Try.prog 14 _ _ _ _ 5 _ _ _
  refine WD_look (v := (.pointer (some ⟨gb, 1, none⟩))) (i := 7) rfl (by kernel_rfl) rfl (by decide) (on_none rfl) (fun wx hs => (x_fieldAddr rfl Try.underlying43 rfl rfl ti33.sz (by decide))) hS ?_
  show WD Try.prog 14 _ _ _ _ 4 _ _ _
  refine WD_look (v := (.slice (some ⟨ga, 0, none⟩) xs.length c)) (i := 8) rfl (by kernel_rfl) rfl (by decide) (on_none rfl) (fun wx hs => (x_load_cell (v := (.slice (some ⟨ga, 0, none⟩) xs.length c)) rfl (cell_row (hs.1) rfl) Try.underlying33 rfl)) hS ?_
  show WD Try.prog 14 _ _ _ _ 3 _ _ _
  refine WD_look (v := (.int .i64 ((xs.length : Nat) : Int))) (i := 9) rfl (by kernel_rfl) rfl (by decide) (on_none rfl) (fun wx hs => (x_len_slc rfl Try.underlying33)) hS ?_
  show WD Try.prog 14 _ _ _ _ 2 _ _ _
  refine WD_one (i := 10) rfl (by kernel_rfl) (WO_unsafeString (Ty := 0) (xs := xs) S (on_none rfl) (by decide) rfl rfl (.there _ (.here _)) h0 Try.underlying65 (by kernel_rfl) ?_)
  intro wa1 S
  replace hS : wa1.heap[gb]? = some (.cells (#[(.pointer (some ⟨gb, 0, none⟩)), (.slice (some ⟨ga, 0, none⟩) xs.length c)]) 43 (0, 0)) ∧ True := ⟨(S.blk_get (.here _)), trivial⟩
  refine ⟨.inl hS, ?_⟩
  refine WD_look (v := (.string (tx xs))) (i := 11) rfl (by kernel_rfl) rfl (by decide) (on_none rfl) (fun wx hs => (x_as (v := (.string (tx xs))) rfl)) hS ?_
  show WD Try.prog 14 _ _ _ _ 0 _ _ _
  refine WD_done (by kernel_rfl) ?_
  clear hS
  show WC Try.prog 14 _ _ _ _
  refine WC_ret ?_
  show retQ Try.prog Try.f21 _ .ret _ _
  exact ret1 (fn := Try.f21) (v := (.string (tx xs))) rfl rfl ⟨rfl, S⟩
end Go.Proofs.Ytjlbkbfnmcppeaa.Sl

/-
  What calls of the program's functions come to (part V1): each function walked once; the conditions stand in each theorem.
-/
import Derived.Test.YtjlbkbfnmcppeaaT5
set_option maxHeartbeats 2000000
set_option linter.unusedSimpArgs false
set_option linter.unusedVariables false
set_option maxRecDepth 100000
namespace Go.Proofs.Ytjlbkbfnmcppeaa.Sl
open Go Go.RowKit
attribute [local irreducible] ofH sumH putT ofL bitop

def eight01Step (n : Int) (i : Int) (b : ByteArray) : ByteArray := ((bset b (7 - i) (IntKind.u8.wrap (Int.fdiv n (2 ^ (min (8 * i : Int).toNat IntKind.u64.bits))))))
def eight01F (n : Int) : Nat → Int → ByteArray → ByteArray
  | 0, _, xx => xx
  | ff + 1, jj, xx => eight01F n ff (jj + 1) (eight01Step n jj xx)
theorem eight01_c (n : Int) (w : World) :
    Calls Try.prog 25 #[(.int .u64 n)] w (fun e w' => e = .returned (.string (eight01F n 8 0 (zb 8))) ∧ Below w.heap.size w w') := by
  refine calls_WC (c := _) (n := 23) (vs := [(.int .u64 n)]) Try.func25 rfl Try.ntmps25 (Nat.le_of_ble_eq_true rfl) ?_
  have S := SL.start w
  refine WC_seq ?_
  refine WC_region ?_
  refine WL_cons (WO_val (v := (.string (⟨#[]⟩))) (on_none rfl) rfl (by decide) (x_as (v := (.string (⟨#[]⟩))) rfl) ?_)
  refine WL_nil ?_
  show WC Try.prog 23 _ _ _ _
  refine WC_seq ?_
  refine WC_region ?_
  refine WL_cons (WO_make_bv (m := 8) S (on_none rfl) (by decide) rfl rfl Try.underlying33 ti5 (by decide) ?_)
  intro g1 wg1 S
  refine WL_cons (WO_val (v := (.slice (some ⟨g1, 0, none⟩) 8 8)) (on_none rfl) rfl (by decide) (x_as (v := (.slice (some ⟨g1, 0, none⟩) 8 8)) rfl) ?_)
  refine WL_nil ?_
  show WC Try.prog 23 _ _ _ _
  refine WC_seq ?_
  refine WC_seq ?_
  refine WC_region ?_
  refine WL_cons (WO_val (v := (.slice (some ⟨g1, 0, none⟩) 8 8)) (on_none rfl) rfl (by decide) (x_mv (v := (.slice (some ⟨g1, 0, none⟩) 8 8)) rfl) ?_)
  refine WL_cons (WO_val (v := (.int .i64 ((8 : Nat) : Int))) (on_none rfl) rfl (by decide) (x_len_slc rfl Try.underlying33) ?_)
  refine WL_cons (WO_val (v := (.int .i64 0)) (on_none rfl) rfl (by decide) (x_mv (v := (.int .i64 0)) rfl) ?_)
  refine WL_nil ?_
  show WC Try.prog 23 _ _ _ _
  refine WC_block ?_
  refine WC_loop (fun kq e' w' => ∃ (f : Nat) (i : Int) (b : ByteArray) (eb : Env), e' = updL eb [(0, (.int .u64 n)), (3, (.slice (some ⟨g1, 0, none⟩) 8 8)), (7, (.int .i64 ((8 : Nat) : Int))), (8, (.int .i64 i))] ∧ SL w [blk g1 5 (bv b)] w' ∧ (i + (f : Int) = 8) ∧ (0 ≤ i) ∧ (b.size = 8) ∧ (eight01F n f i (b) = eight01F n 8 0 (zb 8)) ∧ f = kq) (k := 8) ⟨8, 0, zb 8, _, (updL_eq _ _ (by exact ⟨rfl, rfl, rfl, rfl, trivial⟩)).symm, S, (by omega), (by omega), (zb_size 8), rfl, rfl⟩ ?_
  clear S
  rintro k1 e1 wl1 ⟨f, i, b, eb, rfl, S, hif, hi0, hb, hF, rfl⟩
  show WC Try.prog 23 _ _ _ _
  refine WC_seq ?_
  refine WC_region ?_
  refine WL_cons (WO_val (v := (.bool (decide (i < ((8 : Nat) : Int))))) (on_none rfl) rfl (by decide) (x_lss (a := i) (b := ((8 : Nat) : Int)) rfl rfl) ?_)
  refine WL_nil ?_
  show WC Try.prog 23 _ _ _ _
  refine WC_seq ?_
  refine WC_cond (t := decide (i < ((8 : Nat) : Int))) rfl (fun hc1 => ?_) (fun hc1 => ?_)
  · show WC Try.prog 23 _ _ _ _
    have hc1_ := of_decide_eq_true hc1
    obtain ⟨f, rfl⟩ : ∃ m, f = m + 1 := ⟨f - 1, by omega⟩
    refine WC_skip ?_
    show WC Try.prog 23 _ _ _ _
    refine WC_seq ?_
    refine WC_block ?_
    refine WC_seq ?_
    refine WC_region ?_
    refine WL_cons (WO_val (v := (.int .i64 i)) (on_none rfl) rfl (by decide) (x_mv (v := (.int .i64 i)) rfl) ?_)
    refine WL_cons (WO_val (v := (.int .i64 i)) (on_none rfl) rfl (by decide) (x_as (v := (.int .i64 i)) rfl) ?_)
    refine WL_nil ?_
    show WC Try.prog 23 _ _ _ _
    refine WC_region ?_
    refine WL_cons (WO_val (v := (.slice (some ⟨g1, 0, none⟩) 8 8)) (on_none rfl) rfl (by decide) (x_mv (v := (.slice (some ⟨g1, 0, none⟩) 8 8)) rfl) ?_)
    refine WL_cons (WO_val (v := (.int .i64 i)) (on_none rfl) rfl (by decide) (x_mv (v := (.int .i64 i)) rfl) ?_)
    refine WL_cons (WO_val (v := (.int .i64 (7 - i))) (on_none rfl) rfl (by decide) (x_sub (a := 7) (b := i) rfl rfl (wi64 (by omega))) ?_)
    refine WL_cons (WO_val (v := (.int .u64 n)) (on_none rfl) rfl (by decide) (x_mv (v := (.int .u64 n)) rfl) ?_)
    refine WL_cons (WO_val (v := (.int .i64 i)) (on_none rfl) rfl (by decide) (x_mv (v := (.int .i64 i)) rfl) ?_)
    refine WL_cons (WO_val (v := (.int .i64 (8 * i))) (on_none rfl) rfl (by decide) (x_mul (a := 8) (b := i) rfl rfl (wi64 (by omega))) ?_)
    refine WL_cons (WO_val (v := (.int .u64 (Int.fdiv n (2 ^ (min (8 * i : Int).toNat IntKind.u64.bits))))) (on_none rfl) rfl (by decide) (x_shr (a := n) (b := 8 * i) rfl rfl (by omega)) ?_)
    refine WL_cons (WO_val (v := (.int .u8 (IntKind.u8.wrap (Int.fdiv n (2 ^ (min (8 * i : Int).toNat IntKind.u64.bits)))))) (on_none rfl) rfl (by decide) (x_convw (a := Int.fdiv n (2 ^ (min (8 * i : Int).toNat IntKind.u64.bits))) rfl Try.underlying55 Try.underlying5) ?_)
    refine WL_cons (WO_val (v := (.pointer (some ⟨g1, (7 - i : Int).toNat * 1, none⟩))) (on_none rfl) rfl (by decide) (x_index_blk (i := 7 - i) rfl rfl Try.underlying33 ti5.sz (by omega) (by omega)) ?_)
    refine WL_cons (WO_store (v := (.int .u8 (IntKind.u8.wrap (Int.fdiv n (2 ^ (min (8 * i : Int).toNat IntKind.u64.bits)))))) (row := bv b) (row' := bv (bset b (7 - i) (IntKind.u8.wrap (Int.fdiv n (2 ^ (min (8 * i : Int).toNat IntKind.u64.bits)))))) S (on_none rfl) rfl rfl (.here _) ti5.sz rfl (by rw [bv_size, hb]; omega) (by simp [Value.cells, Value.oneCell']) (splice_bset (by omega) (by rw [hb]; omega) (wrap_u8_in _).1 (wrap_u8_in _).2) ?_)
    intro ws1 S
    refine WL_nil ?_
    show WC Try.prog 23 _ _ _ _
    refine WC_region ?_
    refine WL_cons (WO_val (v := (.int .i64 (i + 1))) (on_none rfl) rfl (by decide) (x_add (a := i) (b := 1) rfl rfl (wi64 (by omega))) ?_)
    refine WL_cons (WO_val (v := (.int .i64 (i + 1))) (on_none rfl) rfl (by decide) (x_mv (v := (.int .i64 (i + 1))) rfl) ?_)
    refine WL_nil ?_
    refine ⟨_, ?_, f, i + 1, _, _, (updL_eq _ _ (by exact ⟨rfl, rfl, rfl, rfl, trivial⟩)).symm, S, (by omega), (by omega), ((bset_size _ _ _).trans hb), hF, rfl⟩
    exact Nat.lt_succ_self f
  · show WC Try.prog 23 _ _ _ _
    have hc1_ := of_decide_eq_false hc1
    obtain rfl : f = 0 := by omega
    refine WC_exit ?_
    show WC Try.prog 23 _ _ _ _
    refine WC_seq ?_
    refine WC_region ?_
    refine WL_cons (WO_val (v := (.slice (some ⟨g1, 0, none⟩) 8 8)) (on_none rfl) rfl (by decide) (x_mv (v := (.slice (some ⟨g1, 0, none⟩) 8 8)) rfl) ?_)
    refine WL_cons (WO_val (v := (.string b)) (on_none rfl) rfl (by decide) (x_bytes (h := b) rfl (S.blk_get (.here _)) Try.underlying33 Try.underlying5 Try.underlying9 (by rw [hb])) ?_)
    refine WL_cons (WO_val (v := (.string b)) (on_none rfl) rfl (by decide) (x_as (v := (.string b)) rfl) ?_)
    refine WL_nil ?_
    show WC Try.prog 23 _ _ _ _
    refine WC_ret ?_
    show retQ Try.prog Try.f25 _ .ret _ _
    exact ret1 (fn := Try.f25) (v := (.string b)) rfl rfl ⟨by rw [show b = eight01F n 8 0 (zb 8) from hF], S.below⟩

theorem eight01_eq (n : Int) : eight01F n 8 0 (zb 8) = eightF n 8 0 (zb 8) := by
  rfl

end Go.Proofs.Ytjlbkbfnmcppeaa.Sl

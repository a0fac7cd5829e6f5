/-
  What calls of the program's functions come to (part W1): each function walked once; the conditions stand in each theorem.
-/
import Derived.Test.YtjlbkbfnmcppeaaBl
set_option maxHeartbeats 2000000
set_option linter.unusedSimpArgs false
set_option linter.unusedVariables false
set_option maxRecDepth 100000
namespace Go.Proofs.Ytjlbkbfnmcppeaa.Sl
open Go Go.RowKit
def rotl (x k : Int) : Int := bitop .or .u32 (IntKind.u32.wrap (x * 2 ^ (min (bitop .and .u64 (IntKind.u64.wrap k) 31 : Int).toNat IntKind.u32.bits))) (Int.fdiv x (2 ^ (min (IntKind.u64.wrap (32 - (bitop .and .u64 (IntKind.u64.wrap k) 31)) : Int).toNat IntKind.u32.bits)))

theorem rotl_c (x k : Int) (w : World) :
    Calls Try.prog 45 #[(.int .u32 x), (.int .i64 k)] w (fun e w' => e = .returned (.int .u32 (rotl x k)) ∧ Below w.heap.size w w') := by
  refine calls_WC (c := _) (n := 17) (vs := [(.int .u32 x), (.int .i64 k)]) Try.func45 rfl Try.ntmps45 (Nat.le_of_ble_eq_true rfl) ?_
  have S := SL.start w
  refine WC_seq ?_
  refine WC_region ?_
  refine WL_cons (WO_val (v := (.int .u32 0)) (on_none rfl) rfl (by decide) (x_as (v := (.int .u32 0)) rfl) ?_)
  refine WL_nil ?_
  show WC Try.prog 17 _ _ _ _
  refine WC_seq ?_
  refine WC_region ?_
  refine WL_cons (WO_val (v := (.int .i64 k)) (on_none rfl) rfl (by decide) (x_mv (v := (.int .i64 k)) rfl) ?_)
  refine WL_cons (WO_val (v := (.int .u64 (IntKind.u64.wrap k))) (on_none rfl) rfl (by decide) (x_convw (a := k) rfl Try.underlying3 Try.underlying70) ?_)
  refine WL_cons (WO_val (v := (.int .u64 (bitop .and .u64 (IntKind.u64.wrap k) 31))) (on_none rfl) rfl (by decide) (x_and (a := IntKind.u64.wrap k) (b := 31) rfl rfl) ?_)
  refine WL_cons (WO_val (v := (.int .u64 (bitop .and .u64 (IntKind.u64.wrap k) 31))) (on_none rfl) rfl (by decide) (x_as (v := (.int .u64 (bitop .and .u64 (IntKind.u64.wrap k) 31))) rfl) ?_)
  refine WL_nil ?_
  show WC Try.prog 17 _ _ _ _
  refine WC_seq ?_
  refine WC_region ?_
  refine WL_cons (WO_val (v := (.int .u32 x)) (on_none rfl) rfl (by decide) (x_mv (v := (.int .u32 x)) rfl) ?_)
  refine WL_cons (WO_val (v := (.int .u64 (bitop .and .u64 (IntKind.u64.wrap k) 31))) (on_none rfl) rfl (by decide) (x_mv (v := (.int .u64 (bitop .and .u64 (IntKind.u64.wrap k) 31))) rfl) ?_)
  refine WL_cons (WO_val (v := (.int .u32 (IntKind.u32.wrap (x * 2 ^ (min (bitop .and .u64 (IntKind.u64.wrap k) 31 : Int).toNat IntKind.u32.bits))))) (on_none rfl) rfl (by decide) (x_shl (a := x) (b := bitop .and .u64 (IntKind.u64.wrap k) 31) rfl rfl (bitop_u_nn _ _ _).1) ?_)
  refine WL_cons (WO_val (v := (.int .u32 x)) (on_none rfl) rfl (by decide) (x_mv (v := (.int .u32 x)) rfl) ?_)
  refine WL_cons (WO_val (v := (.int .u64 (bitop .and .u64 (IntKind.u64.wrap k) 31))) (on_none rfl) rfl (by decide) (x_mv (v := (.int .u64 (bitop .and .u64 (IntKind.u64.wrap k) 31))) rfl) ?_)
  refine WL_cons (WO_val (v := (.int .u64 (IntKind.u64.wrap (32 - (bitop .and .u64 (IntKind.u64.wrap k) 31))))) (on_none rfl) rfl (by decide) (x_subw rfl rfl) ?_)
  refine WL_cons (WO_val (v := (.int .u32 (Int.fdiv x (2 ^ (min (IntKind.u64.wrap (32 - (bitop .and .u64 (IntKind.u64.wrap k) 31)) : Int).toNat IntKind.u32.bits))))) (on_none rfl) rfl (by decide) (x_shr (a := x) (b := IntKind.u64.wrap (32 - (bitop .and .u64 (IntKind.u64.wrap k) 31))) rfl rfl (wrap_u64_nn _)) ?_)
  refine WL_cons (WO_val (v := (.int .u32 (bitop .or .u32 (IntKind.u32.wrap (x * 2 ^ (min (bitop .and .u64 (IntKind.u64.wrap k) 31 : Int).toNat IntKind.u32.bits))) (Int.fdiv x (2 ^ (min (IntKind.u64.wrap (32 - (bitop .and .u64 (IntKind.u64.wrap k) 31)) : Int).toNat IntKind.u32.bits)))))) (on_none rfl) rfl (by decide) (x_or (a := IntKind.u32.wrap (x * 2 ^ (min (bitop .and .u64 (IntKind.u64.wrap k) 31 : Int).toNat IntKind.u32.bits))) (b := Int.fdiv x (2 ^ (min (IntKind.u64.wrap (32 - (bitop .and .u64 (IntKind.u64.wrap k) 31)) : Int).toNat IntKind.u32.bits))) rfl rfl) ?_)
  refine WL_cons (WO_val (v := (.int .u32 (bitop .or .u32 (IntKind.u32.wrap (x * 2 ^ (min (bitop .and .u64 (IntKind.u64.wrap k) 31 : Int).toNat IntKind.u32.bits))) (Int.fdiv x (2 ^ (min (IntKind.u64.wrap (32 - (bitop .and .u64 (IntKind.u64.wrap k) 31)) : Int).toNat IntKind.u32.bits)))))) (on_none rfl) rfl (by decide) (x_as (v := (.int .u32 (bitop .or .u32 (IntKind.u32.wrap (x * 2 ^ (min (bitop .and .u64 (IntKind.u64.wrap k) 31 : Int).toNat IntKind.u32.bits))) (Int.fdiv x (2 ^ (min (IntKind.u64.wrap (32 - (bitop .and .u64 (IntKind.u64.wrap k) 31)) : Int).toNat IntKind.u32.bits)))))) rfl) ?_)
  refine WL_nil ?_
  show WC Try.prog 17 _ _ _ _
  refine WC_ret ?_
  show retQ Try.prog Try.f45 _ .ret _ _
  exact ret1 (fn := Try.f45) (v := (.int .u32 (bitop .or .u32 (IntKind.u32.wrap (x * 2 ^ (min (bitop .and .u64 (IntKind.u64.wrap k) 31 : Int).toNat IntKind.u32.bits))) (Int.fdiv x (2 ^ (min (IntKind.u64.wrap (32 - (bitop .and .u64 (IntKind.u64.wrap k) 31)) : Int).toNat IntKind.u32.bits)))))) rfl rfl ⟨rfl, S.below⟩

theorem turn_c (x n : Int) (h0 : 0 ≤ n) (h1 : n ≤ 64) (w : World) :
    Calls Try.prog 40 #[(.int .u32 x), (.int .i64 n)] w (fun e w' => e = .returned (.int .u32 (rotl x (-n))) ∧ Below w.heap.size w w') := by
  refine calls_WC (c := _) (n := 9) (vs := [(.int .u32 x), (.int .i64 n)]) Try.func40 rfl Try.ntmps40 (Nat.le_of_ble_eq_true rfl) ?_
  have S := SL.start w
  refine WC_seq ?_
  refine WC_region ?_
  refine WL_cons (WO_val (v := (.int .u32 0)) (on_none rfl) rfl (by decide) (x_as (v := (.int .u32 0)) rfl) ?_)
  refine WL_nil ?_
  show WC Try.prog 9 _ _ _ _
  refine WC_seq ?_
  refine WC_region ?_
  refine WL_cons (WO_val (v := (.int .u32 x)) (on_none rfl) rfl (by decide) (x_mv (v := (.int .u32 x)) rfl) ?_)
  refine WL_cons (WO_val (v := (.int .i64 n)) (on_none rfl) rfl (by decide) (x_mv (v := (.int .i64 n)) rfl) ?_)
  refine WL_cons (WO_val (v := (.int .i64 (-n))) (on_none rfl) rfl (by decide) (x_neg (a := n) rfl (wi64 (by omega))) ?_)
  refine WL_cons (WO_call (on_none rfl) rfl (by decide) (x_call2 Try.func45 rfl rfl rfl rfl rfl) (rotl_c x (-n) _) ?_)
  rintro _ wc1 ⟨rfl, hb⟩
  refine ⟨_, rfl, ?_⟩
  replace S := S.keep hb
  clear hb
  refine WL_cons (WO_val (v := (.int .u32 (rotl x (-n)))) (on_none rfl) rfl (by decide) (x_as (v := (.int .u32 (rotl x (-n)))) rfl) ?_)
  refine WL_nil ?_
  show WC Try.prog 9 _ _ _ _
  refine WC_ret ?_
  show retQ Try.prog Try.f40 _ .ret _ _
  exact ret1 (fn := Try.f40) (v := (.int .u32 (rotl x (-n)))) rfl rfl ⟨rfl, S.below⟩



def eightStep (n : Int) (i : Int) (b : ByteArray) : ByteArray := ((bset b i (IntKind.u8.wrap (Int.fdiv n (2 ^ (min (56 - (8 * i) : Int).toNat IntKind.u64.bits))))))
def eightF (n : Int) : Nat → Int → ByteArray → ByteArray
  | 0, _, xx => xx
  | ff + 1, jj, xx => eightF n ff (jj + 1) (eightStep n jj xx)
theorem eight_c (n : Int) (w : World) :
    Calls Try.prog 27 #[(.int .u64 n)] w (fun e w' => e = .returned (.string (eightF n 8 0 (zb 8))) ∧ Below w.heap.size w w') := by
  refine calls_WC (c := _) (n := 19) (vs := [(.int .u64 n)]) Try.func27 rfl Try.ntmps27 (Nat.le_of_ble_eq_true rfl) ?_
  have S := SL.start w
  refine WC_seq ?_
  refine WC_region ?_
  refine WL_cons (WO_val (v := (.string (⟨#[]⟩))) (on_none rfl) rfl (by decide) (x_as (v := (.string (⟨#[]⟩))) rfl) ?_)
  refine WL_nil ?_
  show WC Try.prog 19 _ _ _ _
  refine WC_seq ?_
  refine WC_region ?_
  refine WL_cons (WO_alloc (row := bv (zb 8)) S (on_none rfl) (by decide) ti66 rfl ?_)
  intro g1 wg1 S
  refine WL_nil ?_
  show WC Try.prog 19 _ _ _ _
  refine WC_seq ?_
  refine WC_seq ?_
  refine WC_region ?_
  refine WL_cons (WO_val (v := (.int .i64 0)) (on_none rfl) rfl (by decide) (x_mv (v := (.int .i64 0)) rfl) ?_)
  refine WL_nil ?_
  show WC Try.prog 19 _ _ _ _
  refine WC_block ?_
  refine WC_loop (fun kq e' w' => ∃ (f : Nat) (i : Int) (b : ByteArray) (eb : Env), e' = updL eb [(0, (.int .u64 n)), (3, (.pointer (some ⟨g1, 0, none⟩))), (5, (.int .i64 i))] ∧ SL w [blk g1 66 (bv b)] w' ∧ (i + (f : Int) = 8) ∧ (0 ≤ i) ∧ (b.size = 8) ∧ (eightF n f i (b) = eightF n 8 0 (zb 8)) ∧ f = kq) (k := 8) ⟨8, 0, zb 8, _, (updL_eq _ _ (by exact ⟨rfl, rfl, rfl, trivial⟩)).symm, S, (by omega), (by omega), (zb_size 8), rfl, rfl⟩ ?_
  clear S
  rintro k1 e1 wl1 ⟨f, i, b, eb, rfl, S, hif, hi0, hb, hF, rfl⟩
  show WC Try.prog 19 _ _ _ _
  refine WC_seq ?_
  refine WC_region ?_
  refine WL_cons (WO_val (v := (.bool (decide (i < 8)))) (on_none rfl) rfl (by decide) (x_lss (a := i) (b := 8) rfl rfl) ?_)
  refine WL_nil ?_
  show WC Try.prog 19 _ _ _ _
  refine WC_seq ?_
  refine WC_cond (t := decide (i < 8)) rfl (fun hc1 => ?_) (fun hc1 => ?_)
  · show WC Try.prog 19 _ _ _ _
    have hc1_ := of_decide_eq_true hc1
    obtain ⟨f, rfl⟩ : ∃ m, f = m + 1 := ⟨f - 1, by omega⟩
    refine WC_skip ?_
    show WC Try.prog 19 _ _ _ _
    refine WC_seq ?_
    refine WC_block ?_
    refine WC_seq ?_
    refine WC_region ?_
    refine WL_cons (WO_val (v := (.int .i64 i)) (on_none rfl) rfl (by decide) (x_mv (v := (.int .i64 i)) rfl) ?_)
    refine WL_cons (WO_val (v := (.int .i64 i)) (on_none rfl) rfl (by decide) (x_as (v := (.int .i64 i)) rfl) ?_)
    refine WL_nil ?_
    show WC Try.prog 19 _ _ _ _
    refine WC_region ?_
    refine WL_cons (WO_val (v := (.int .i64 i)) (on_none rfl) rfl (by decide) (x_mv (v := (.int .i64 i)) rfl) ?_)
    refine WL_cons (WO_val (v := (.int .u64 n)) (on_none rfl) rfl (by decide) (x_mv (v := (.int .u64 n)) rfl) ?_)
    refine WL_cons (WO_val (v := (.int .i64 i)) (on_none rfl) rfl (by decide) (x_mv (v := (.int .i64 i)) rfl) ?_)
    refine WL_cons (WO_val (v := (.int .i64 (8 * i))) (on_none rfl) rfl (by decide) (x_mul (a := 8) (b := i) rfl rfl (wi64 (by omega))) ?_)
    refine WL_cons (WO_val (v := (.int .i64 (56 - (8 * i)))) (on_none rfl) rfl (by decide) (x_sub (a := 56) (b := 8 * i) rfl rfl (wi64 (by omega))) ?_)
    refine WL_cons (WO_val (v := (.int .u64 (Int.fdiv n (2 ^ (min (56 - (8 * i) : Int).toNat IntKind.u64.bits))))) (on_none rfl) rfl (by decide) (x_shr (a := n) (b := 56 - (8 * i)) rfl rfl (by omega)) ?_)
    refine WL_cons (WO_val (v := (.int .u8 (IntKind.u8.wrap (Int.fdiv n (2 ^ (min (56 - (8 * i) : Int).toNat IntKind.u64.bits)))))) (on_none rfl) rfl (by decide) (x_convw (a := Int.fdiv n (2 ^ (min (56 - (8 * i) : Int).toNat IntKind.u64.bits))) rfl Try.underlying55 Try.underlying5) ?_)
    refine WL_cons (WO_val (v := (.pointer (some ⟨g1, (i : Int).toNat * 1, none⟩))) (on_none rfl) rfl (by decide) (x_index_row (i := i) rfl rfl Try.underlying66 ti5.sz (by omega) (by omega)) ?_)
    refine WL_cons (WO_store (v := (.int .u8 (IntKind.u8.wrap (Int.fdiv n (2 ^ (min (56 - (8 * i) : Int).toNat IntKind.u64.bits)))))) (row := bv b) (row' := bv (bset b i (IntKind.u8.wrap (Int.fdiv n (2 ^ (min (56 - (8 * i) : Int).toNat IntKind.u64.bits)))))) S (on_none rfl) rfl rfl (.here _) ti5.sz rfl (by rw [bv_size, hb]; omega) (by simp [Value.cells, Value.oneCell']) (splice_bset (by omega) (by rw [hb]; omega) (wrap_u8_in _).1 (wrap_u8_in _).2) ?_)
    intro ws1 S
    refine WL_nil ?_
    show WC Try.prog 19 _ _ _ _
    refine WC_region ?_
    refine WL_cons (WO_val (v := (.int .i64 (i + 1))) (on_none rfl) rfl (by decide) (x_add (a := i) (b := 1) rfl rfl (wi64 (by omega))) ?_)
    refine WL_cons (WO_val (v := (.int .i64 (i + 1))) (on_none rfl) rfl (by decide) (x_mv (v := (.int .i64 (i + 1))) rfl) ?_)
    refine WL_nil ?_
    refine ⟨_, ?_, f, i + 1, _, _, (updL_eq _ _ (by exact ⟨rfl, rfl, rfl, trivial⟩)).symm, S, (by omega), (by omega), ((bset_size _ _ _).trans hb), hF, rfl⟩
    exact Nat.lt_succ_self f
  · show WC Try.prog 19 _ _ _ _
    have hc1_ := of_decide_eq_false hc1
    obtain rfl : f = 0 := by omega
    refine WC_exit ?_
    show WC Try.prog 19 _ _ _ _
    refine WC_seq ?_
    refine WC_region ?_
    refine WL_cons (WO_val (v := (.slice (some ⟨g1, 0, none⟩) 8 8)) (on_none rfl) rfl (by decide) (x_slice_arr rfl Try.underlying66 ti5.sz) ?_)
    refine WL_cons (WO_val (v := (.string b)) (on_none rfl) rfl (by decide) (x_bytes (h := b) rfl (S.blk_get (.here _)) Try.underlying33 Try.underlying5 Try.underlying9 (by rw [hb])) ?_)
    refine WL_cons (WO_val (v := (.string b)) (on_none rfl) rfl (by decide) (x_as (v := (.string b)) rfl) ?_)
    refine WL_nil ?_
    show WC Try.prog 19 _ _ _ _
    refine WC_ret ?_
    show retQ Try.prog Try.f27 _ .ret _ _
    exact ret1 (fn := Try.f27) (v := (.string b)) rfl rfl ⟨by rw [show b = eightF n 8 0 (zb 8) from hF], S.below⟩

theorem eightF_size (n : Int) : ∀ (f : Nat) (i : Int) (b : ByteArray), (eightF n f i b).size = b.size
  | 0, _, _ => rfl
  | f + 1, i, b => (eightF_size n f (i + 1) _).trans (bset_size _ _ _)

def putF : Nat → Int → Int → ByteArray → ByteArray
  | 0, n, k, b => (bset b k (IntKind.u8.wrap n)).extract 0 (k + 1 : Int).toNat
  | f + 1, n, k, b => if 128 ≤ n then putF f (Int.fdiv n (2 ^ (min (7 : Int).toNat IntKind.u64.bits))) (k + 1) (bset b k (bitop .or .u8 (IntKind.u8.wrap n) 128)) else (bset b k (IntKind.u8.wrap n)).extract 0 (k + 1 : Int).toNat
def putS (n : Int) : ByteArray := putF 9 n 0 (zb 10)
theorem putF_size : ∀ (f : Nat) (n k : Int) (b : ByteArray), (putF f n k b).size ≤ b.size
  | 0, n, k, b => by rw [putF, ByteArray.size_extract, bset_size]; omega
  | f + 1, n, k, b => by
    rw [putF]
    split
    · exact Nat.le_trans (putF_size f _ _ _) (by rw [bset_size]; omega)
    · rw [ByteArray.size_extract, bset_size]; omega
theorem putS_size (n : Int) : (putS n).size ≤ 10 := putF_size 9 n 0 (zb 10)
theorem fdiv128 (m : Int) : Int.fdiv m (2 ^ (min (7 : Int).toNat IntKind.u64.bits)) = m / 128 := by
  show Int.fdiv m 128 = m / 128
  exact Int.fdiv_eq_ediv_of_nonneg m (by decide)
theorem bitop_u8_in (op : BinOp) (a b : Int) : 0 ≤ bitop op .u8 a b ∧ bitop op .u8 a b ≤ 255 := by
  unfold bitop
  cases op <;> simp only [IntKind.wrap_u8] <;> omega

theorem put_c (n : Int) (h0 : 0 ≤ n) (h1 : n ≤ 18446744073709551615) (w : World) :
    Calls Try.prog 29 #[(.int .u64 n)] w (fun e w' => e = .returned (.string (putS n)) ∧ Below w.heap.size w w') := by
  refine calls_WC (c := _) (n := 24) (vs := [(.int .u64 n)]) Try.func29 rfl Try.ntmps29 (Nat.le_of_ble_eq_true rfl) ?_
  have S := SL.start w
  refine WC_seq ?_
  refine WC_region ?_
  refine WL_cons (WO_val (v := (.string (⟨#[]⟩))) (on_none rfl) rfl (by decide) (x_as (v := (.string (⟨#[]⟩))) rfl) ?_)
  refine WL_nil ?_
  show WC Try.prog 24 _ _ _ _
  refine WC_seq ?_
  refine WC_region ?_
  refine WL_cons (WO_alloc (row := bv (zb 10)) S (on_none rfl) (by decide) ti69 rfl ?_)
  intro g1 wg1 S
  refine WL_nil ?_
  show WC Try.prog 24 _ _ _ _
  refine WC_seq ?_
  refine WC_region ?_
  refine WL_cons (WO_val (v := (.int .i64 0)) (on_none rfl) rfl (by decide) (x_as (v := (.int .i64 0)) rfl) ?_)
  refine WL_nil ?_
  show WC Try.prog 24 _ _ _ _
  refine WC_seq ?_
  refine WC_block ?_
  refine WC_loop (fun kq e' w' => ∃ (f : Nat) (m : Int) (k : Int) (b : ByteArray) (eb : Env), e' = updL eb [(0, (.int .u64 m)), (3, (.pointer (some ⟨g1, 0, none⟩))), (4, (.int .i64 k))] ∧ SL w [blk g1 69 (bv b)] w' ∧ (k + (f : Int) = 9) ∧ (0 ≤ k) ∧ (b.size = 10) ∧ (0 ≤ m) ∧ (m < 2 * 128 ^ f) ∧ (putF f m k b = putF 9 n 0 (zb 10)) ∧ f = kq) (k := 9) ⟨9, n, 0, zb 10, _, (updL_eq _ _ (by exact ⟨rfl, rfl, rfl, trivial⟩)).symm, S, (by omega), (by omega), (zb_size 10), h0, (by omega), rfl, rfl⟩ ?_
  clear S
  rintro k1 e1 wl1 ⟨f, m, k, b, eb, rfl, S, hkf, hk0, hb, hm0, hm, hF, rfl⟩
  show WC Try.prog 24 _ _ _ _
  refine WC_seq ?_
  refine WC_seq ?_
  refine WC_region ?_
  refine WL_cons (WO_val (v := (.int .u64 m)) (on_none rfl) rfl (by decide) (x_mv (v := (.int .u64 m)) rfl) ?_)
  refine WL_cons (WO_val (v := (.bool (decide (128 ≤ m)))) (on_none rfl) rfl (by decide) (x_geq (a := m) (b := 128) rfl rfl) ?_)
  refine WL_nil ?_
  show WC Try.prog 24 _ _ _ _
  refine WC_cond (t := decide (128 ≤ m)) rfl (fun hc1 => ?_) (fun hc1 => ?_)
  · show WC Try.prog 24 _ _ _ _
    have hc1_ := of_decide_eq_true hc1
    obtain ⟨f, rfl⟩ : ∃ g, f = g + 1 := by cases f with | zero => (exfalso; simp at hm; omega) | succ f => exact ⟨f, rfl⟩
    rw [putF, if_pos hc1_] at hF
    refine WC_skip ?_
    show WC Try.prog 24 _ _ _ _
    refine WC_block ?_
    refine WC_seq ?_
    refine WC_region ?_
    refine WL_cons (WO_val (v := (.int .i64 k)) (on_none rfl) rfl (by decide) (x_mv (v := (.int .i64 k)) rfl) ?_)
    refine WL_cons (WO_val (v := (.int .u64 m)) (on_none rfl) rfl (by decide) (x_mv (v := (.int .u64 m)) rfl) ?_)
    refine WL_cons (WO_val (v := (.int .u8 (IntKind.u8.wrap m))) (on_none rfl) rfl (by decide) (x_convw (a := m) rfl Try.underlying55 Try.underlying5) ?_)
    refine WL_cons (WO_val (v := (.int .u8 (bitop .or .u8 (IntKind.u8.wrap m) 128))) (on_none rfl) rfl (by decide) (x_or (a := IntKind.u8.wrap m) (b := 128) rfl rfl) ?_)
    refine WL_cons (WO_val (v := (.pointer (some ⟨g1, (k : Int).toNat * 1, none⟩))) (on_none rfl) rfl (by decide) (x_index_row (i := k) rfl rfl Try.underlying69 ti5.sz (by omega) (by omega)) ?_)
    refine WL_cons (WO_store (v := (.int .u8 (bitop .or .u8 (IntKind.u8.wrap m) 128))) (row := bv b) (row' := bv (bset b k (bitop .or .u8 (IntKind.u8.wrap m) 128))) S (on_none rfl) rfl rfl (.here _) ti5.sz rfl (by rw [bv_size, hb]; omega) (by simp [Value.cells, Value.oneCell']) (splice_bset (by omega) (by rw [hb]; omega) (bitop_u8_in _ _ _).1 (bitop_u8_in _ _ _).2) ?_)
    intro ws1 S
    refine WL_nil ?_
    show WC Try.prog 24 _ _ _ _
    refine WC_seq ?_
    refine WC_region ?_
    refine WL_cons (WO_val (v := (.int .u64 m)) (on_none rfl) rfl (by decide) (x_mv (v := (.int .u64 m)) rfl) ?_)
    refine WL_cons (WO_val (v := (.int .u64 (Int.fdiv m (2 ^ (min (7 : Int).toNat IntKind.u64.bits))))) (on_none rfl) rfl (by decide) (x_shr (a := m) (b := 7) rfl rfl (by omega)) ?_)
    refine WL_cons (WO_val (v := (.int .u64 (Int.fdiv m (2 ^ (min (7 : Int).toNat IntKind.u64.bits))))) (on_none rfl) rfl (by decide) (x_as (v := (.int .u64 (Int.fdiv m (2 ^ (min (7 : Int).toNat IntKind.u64.bits))))) rfl) ?_)
    refine WL_nil ?_
    show WC Try.prog 24 _ _ _ _
    refine WC_region ?_
    refine WL_cons (WO_val (v := (.int .i64 k)) (on_none rfl) rfl (by decide) (x_mv (v := (.int .i64 k)) rfl) ?_)
    refine WL_cons (WO_val (v := (.int .i64 (k + 1))) (on_none rfl) rfl (by decide) (x_add (a := k) (b := 1) rfl rfl (wi64 (by omega))) ?_)
    refine WL_cons (WO_val (v := (.int .i64 (k + 1))) (on_none rfl) rfl (by decide) (x_as (v := (.int .i64 (k + 1))) rfl) ?_)
    refine WL_nil ?_
    refine ⟨_, ?_, f, Int.fdiv m (2 ^ (min (7 : Int).toNat IntKind.u64.bits)), k + 1, _, _, (updL_eq _ _ (by exact ⟨rfl, rfl, rfl, trivial⟩)).symm, S, (by omega), (by omega), ((bset_size _ _ _).trans hb), (by rw [fdiv128]; omega), (by rw [fdiv128]; rw [Int.pow_succ] at hm; omega), hF, rfl⟩
    exact Nat.lt_succ_self f
  · show WC Try.prog 24 _ _ _ _
    have hc1_ := of_decide_eq_false hc1
    have hE : (bset b k (IntKind.u8.wrap m)).extract 0 (k + 1 : Int).toNat = putS n := by cases f with | zero => exact hF | succ f => (rw [putF, if_neg hc1_] at hF; exact hF)
    clear hm hF
    refine WC_exit ?_
    show WC Try.prog 24 _ _ _ _
    refine WC_seq ?_
    refine WC_region ?_
    refine WL_cons (WO_val (v := (.int .i64 k)) (on_none rfl) rfl (by decide) (x_mv (v := (.int .i64 k)) rfl) ?_)
    refine WL_cons (WO_val (v := (.int .u64 m)) (on_none rfl) rfl (by decide) (x_mv (v := (.int .u64 m)) rfl) ?_)
    refine WL_cons (WO_val (v := (.int .u8 (IntKind.u8.wrap m))) (on_none rfl) rfl (by decide) (x_convw (a := m) rfl Try.underlying55 Try.underlying5) ?_)
    refine WL_cons (WO_val (v := (.pointer (some ⟨g1, (k : Int).toNat * 1, none⟩))) (on_none rfl) rfl (by decide) (x_index_row (i := k) rfl rfl Try.underlying69 ti5.sz (by omega) (by omega)) ?_)
    refine WL_cons (WO_store (v := (.int .u8 (IntKind.u8.wrap m))) (row := bv b) (row' := bv (bset b k (IntKind.u8.wrap m))) S (on_none rfl) rfl rfl (.here _) ti5.sz rfl (by rw [bv_size, hb]; omega) (by simp [Value.cells, Value.oneCell']) (splice_bset (by omega) (by rw [hb]; omega) (wrap_u8_in _).1 (wrap_u8_in _).2) ?_)
    intro ws2 S
    refine WL_nil ?_
    show WC Try.prog 24 _ _ _ _
    refine WC_seq ?_
    refine WC_region ?_
    refine WL_cons (WO_val (v := (.int .i64 k)) (on_none rfl) rfl (by decide) (x_mv (v := (.int .i64 k)) rfl) ?_)
    refine WL_cons (WO_val (v := (.int .i64 (k + 1))) (on_none rfl) rfl (by decide) (x_add (a := k) (b := 1) rfl rfl (wi64 (by omega))) ?_)
    refine WL_cons (WO_val (v := (.slice (some ⟨g1, 0, none⟩) ((k + 1 : Int).toNat) 10)) (on_none rfl) rfl (by decide) (x_slice_arrh (b := k + 1) rfl rfl Try.underlying69 ti5.sz (by omega) (by omega)) ?_)
    refine WL_cons (WO_val (v := (.string ((bset b k (IntKind.u8.wrap m)).extract 0 ((k + 1 : Int).toNat)))) (on_none rfl) rfl (by decide) (x_bytes_pre (h := (bset b k (IntKind.u8.wrap m))) rfl (S.blk_get (.here _)) Try.underlying33 Try.underlying5 Try.underlying9 (by rw [bset_size, hb]; omega)) ?_)
    refine WL_cons (WO_val (v := (.string ((bset b k (IntKind.u8.wrap m)).extract 0 ((k + 1 : Int).toNat)))) (on_none rfl) rfl (by decide) (x_as (v := (.string ((bset b k (IntKind.u8.wrap m)).extract 0 ((k + 1 : Int).toNat)))) rfl) ?_)
    refine WL_nil ?_
    show WC Try.prog 24 _ _ _ _
    refine WC_ret ?_
    show retQ Try.prog Try.f29 _ .ret _ _
    exact ret1 (fn := Try.f29) (v := (.string ((bset b k (IntKind.u8.wrap m)).extract 0 ((k + 1 : Int).toNat)))) rfl rfl ⟨by rw [show (bset b k (IntKind.u8.wrap m)).extract 0 (k + 1 : Int).toNat = putS n from hE], S.below⟩

/-- A text behind its length. -/
def putT (s : ByteArray) : ByteArray := putS (s.size : Int) ++ s
theorem putT_size (s : ByteArray) : (putT s).size ≤ s.size + 10 := by
  have := putS_size (s.size : Int)
  simp only [putT, ByteArray.size_append]
  omega
theorem putT_pos (s : ByteArray) : 0 < (putS (s.size : Int)).size → 0 < (putT s).size := by
  intro h
  simp only [putT, ByteArray.size_append]
  omega

theorem putText_c (s : ByteArray) (hs : s.size ≤ 4294967296) (w : World) :
    Calls Try.prog 19 #[(.string s)] w (fun e w' => e = .returned (.string (putT s)) ∧ Below w.heap.size w w') := by
  refine calls_WC (c := _) (n := 9) (vs := [(.string s)]) Try.func19 rfl Try.ntmps19 (Nat.le_of_ble_eq_true rfl) ?_
  have S := SL.start w
  refine WC_seq ?_
  refine WC_region ?_
  refine WL_cons (WO_val (v := (.string (⟨#[]⟩))) (on_none rfl) rfl (by decide) (x_as (v := (.string (⟨#[]⟩))) rfl) ?_)
  refine WL_nil ?_
  show WC Try.prog 9 _ _ _ _
  refine WC_seq ?_
  refine WC_region ?_
  refine WL_cons (WO_val (v := (.string s)) (on_none rfl) rfl (by decide) (x_mv (v := (.string s)) rfl) ?_)
  refine WL_cons (WO_val (v := (.int .i64 (s.size : Int))) (on_none rfl) rfl (by decide) (x_len_str (s := s) rfl Try.underlying9) ?_)
  refine WL_cons (WO_val (v := (.int .u64 (s.size : Int))) (on_none rfl) rfl (by decide) (x_conv (a := (s.size : Int)) rfl Try.underlying3 Try.underlying55 (wu64 (by omega))) ?_)
  refine WL_cons (WO_call (on_none rfl) rfl (by decide) (x_call1 Try.func29 rfl rfl rfl rfl) (put_c (s.size : Int) (by omega) (by omega) _) ?_)
  rintro _ wc1 ⟨rfl, hb⟩
  refine ⟨_, rfl, ?_⟩
  replace S := S.keep hb
  clear hb
  refine WL_cons (WO_val (v := (.string s)) (on_none rfl) rfl (by decide) (x_mv (v := (.string s)) rfl) ?_)
  refine WL_cons (WO_val (v := (.string ((putS (s.size : Int)) ++ s))) (on_none rfl) rfl (by decide) (x_cat (a := putS (s.size : Int)) (b := s) rfl rfl (by have := putS_size (s.size : Int); omega)) ?_)
  refine WL_cons (WO_val (v := (.string ((putS (s.size : Int)) ++ s))) (on_none rfl) rfl (by decide) (x_as (v := (.string ((putS (s.size : Int)) ++ s))) rfl) ?_)
  refine WL_nil ?_
  show WC Try.prog 9 _ _ _ _
  refine WC_ret ?_
  show retQ Try.prog Try.f19 _ .ret _ _
  exact ret1 (fn := Try.f19) (v := (.string ((putS (s.size : Int)) ++ s))) rfl rfl ⟨rfl, S.below⟩
end Go.Proofs.Ytjlbkbfnmcppeaa.Sl

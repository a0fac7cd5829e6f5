/-
  What calls of the program's functions come to (part W4): each function walked once; the conditions stand in each theorem.
-/
import Derived.Test.YtjlbkbfnmcppeaaW3
import Derived.Test.YtjlbkbfnmcppeaaSh
set_option maxHeartbeats 2000000
set_option linter.unusedSimpArgs false
set_option linter.unusedVariables false
set_option maxRecDepth 100000
namespace Go.Proofs.Ytjlbkbfnmcppeaa.Sl
open Go Go.RowKit
theorem tx1_size (b : UInt8) : (⟨#[b]⟩ : ByteArray).size = 1 := rfl
theorem startL_len : startL.length = 8 := rfl
theorem rootsL_len : rootsL.length = 64 := rfl
theorem wordsF_length : ∀ (ff : Nat) (jj : Int) (v : List Int), (wordsF ff jj v).length = v.length
  | 0, _, _ => rfl
  | ff + 1, jj, v => (wordsF_length ff (jj + 1) _).trans (nset_length _ _ _)
theorem wordsOF_length (s : ByteArray) : ∀ (ff : Nat) (jj : Int) (v : List Int), (wordsOF s ff jj v).length = v.length
  | 0, _, _ => rfl
  | ff + 1, jj, v => (wordsOF_length s ff (jj + 1) _).trans (wordsIF_length _ _ _ _ _)
theorem goesS_length (v k w : List Int) : (goesS v k w).length = v.length := goesVF_length _ _ _ _
theorem noughts_c (k : Int) (h0 : 0 ≤ k) (h1 : k ≤ 64) (w : World) : Calls Try.prog 30 #[.string ⟨#[0]⟩, .int .i64 k] w fun e w' => e = .returned (.string (zb k.toNat)) ∧ Below w.heap.size w w' := by
  have h := Try.strings_Repeat ⟨#[0]⟩ k.toNat w (by omega) (by show 1 * k.toNat ≤ _; omega)
  rw [show ((k.toNat : Nat) : Int) = k by omega] at h
  have hz : (⟨(Lib.repeatL ((⟨#[0]⟩ : ByteArray).data.toList) k.toNat).toArray⟩ : ByteArray) = zb k.toNat := by
    have : ∀ m, Lib.repeatL [0] m = List.replicate m 0 := by
      intro m
      induction m with
      | zero => rfl
      | succ m ih => rw [Lib.repeatL, ih]; rfl
    show (⟨(Lib.repeatL [0] k.toNat).toArray⟩ : ByteArray) = _
    rw [this]
    simp [zb]
  rw [hz] at h
  exact h
/-- A text with what stands behind it: a multiple of 64 bytes. -/
def padS (s : ByteArray) : ByteArray := ((s ++ ⟨#[128]⟩) ++ zb ((119 - (s.size : Int) % 64) % 64).toNat) ++ eightF ((s.size : Int) * 8) 8 0 (zb 8)
theorem padS_size (s : ByteArray) : (padS s).size = s.size + 9 + ((119 - (s.size : Int) % 64) % 64).toNat := by
  rw [padS, ByteArray.size_append, ByteArray.size_append, ByteArray.size_append, eightF_size, zb_size, zb_size]
  show s.size + 1 + _ + 8 = _
  omega
theorem padS_mod (s : ByteArray) : (padS s).size % 64 = 0 := by rw [padS_size]; omega
attribute [local irreducible] wordsF wordsOF goesS goesF goesVF eightF

def blocksStep (s : ByteArray) (i : Int) (v : List Int) : List Int := ((goesS v rootsL (wordsF 48 16 (wordsOF ((padS s).extract (i : Int).toNat (i + 64 : Int).toNat) 16 0 (List.replicate 64 0)))))
def blocksF (s : ByteArray) : Nat → Int → List Int → List Int
  | 0, _, xx => xx
  | ff + 1, jj, xx => blocksF s ff (jj + 64) (blocksStep s jj xx)
def outStep (v : List Int) (i2 : Int) (h : H) : H := ((hset h i2 (IntKind.u8.wrap (Int.fdiv (nth v (i2 / 4)) (2 ^ (min (24 - ((i2 % 4) * 8) : Int).toNat IntKind.u32.bits))))))
def outF (v : List Int) : Nat → Int → H → H
  | 0, _, xx => xx
  | ff + 1, jj, xx => outF v ff (jj + 1) (outStep v jj xx)
def sumH (s : ByteArray) : H := outF (blocksF s ((padS s).size / 64) 0 startL) 32 0 zeroH
theorem sum_c (s : ByteArray) (hs : s.size ≤ 1099511627776) (w : World) :
    Calls Try.prog 20 #[(.string s)] w (fun e w' => e = .returned (.agg (hv (sumH s))) ∧ Below w.heap.size w w') := by
  have hpm := padS_mod s
  have hps := padS_size s
  refine calls_WC (c := _) (n := 60) (vs := [(.string s)]) Try.func20 rfl Try.ntmps20 (Nat.le_of_ble_eq_true rfl) ?_
  have S := SL.start w
  refine WC_seq ?_
  refine WC_region ?_
  refine WL_cons (WO_alloc (row := hv zeroH) S (on_none rfl) (by decide) ti26 rfl ?_)
  intro g1 wg1 S
  refine WL_nil ?_
  show WC Try.prog 60 _ _ _ _
  refine WC_seq ?_
  refine WC_region ?_
  refine WL_cons (WO_val (v := (.string s)) (on_none rfl) rfl (by decide) (x_mv (v := (.string s)) rfl) ?_)
  refine WL_cons (WO_val (v := (.int .i64 (s.size : Int))) (on_none rfl) rfl (by decide) (x_len_str (s := s) rfl Try.underlying9) ?_)
  refine WL_cons (WO_val (v := (.int .i64 ((s.size : Int) % 64))) (on_none rfl) rfl (by decide) (x_rem (a := (s.size : Int)) (b := 64) rfl rfl (by omega) (by omega)) ?_)
  refine WL_cons (WO_val (v := (.int .i64 (119 - ((s.size : Int) % 64)))) (on_none rfl) rfl (by decide) (x_sub (a := 119) (b := (s.size : Int) % 64) rfl rfl (wi64 (by omega))) ?_)
  refine WL_cons (WO_val (v := (.int .i64 ((119 - ((s.size : Int) % 64)) % 64))) (on_none rfl) rfl (by decide) (x_rem (a := 119 - ((s.size : Int) % 64)) (b := 64) rfl rfl (by omega) (by omega)) ?_)
  refine WL_cons (WO_val (v := (.int .i64 ((119 - ((s.size : Int) % 64)) % 64))) (on_none rfl) rfl (by decide) (x_as (v := (.int .i64 ((119 - ((s.size : Int) % 64)) % 64))) rfl) ?_)
  refine WL_nil ?_
  show WC Try.prog 60 _ _ _ _
  refine WC_seq ?_
  refine WC_region ?_
  refine WL_cons (WO_val (v := (.string s)) (on_none rfl) rfl (by decide) (x_mv (v := (.string s)) rfl) ?_)
  refine WL_cons (WO_val (v := (.string (s ++ (⟨#[128]⟩)))) (on_none rfl) rfl (by decide) (x_cat (a := s) (b := ⟨#[128]⟩) rfl rfl (by (try simp only [ByteArray.size_append, eightF_size, zb_size, tx1_size]); omega)) ?_)
  refine WL_cons (WO_val (v := (.int .i64 ((119 - ((s.size : Int) % 64)) % 64))) (on_none rfl) rfl (by decide) (x_mv (v := (.int .i64 ((119 - ((s.size : Int) % 64)) % 64))) rfl) ?_)
  refine WL_cons (WO_call (on_none rfl) rfl (by decide) (x_call2 Try.func30 rfl rfl rfl rfl rfl) (noughts_c ((119 - ((s.size : Int) % 64)) % 64) (by omega) (by omega) _) ?_)
  rintro _ wc1 ⟨rfl, hb⟩
  refine ⟨_, rfl, ?_⟩
  replace S := S.keep hb
  clear hb
  refine WL_cons (WO_val (v := (.string ((s ++ (⟨#[128]⟩)) ++ (zb (((119 - ((s.size : Int) % 64)) % 64) : Int).toNat)))) (on_none rfl) rfl (by decide) (x_cat (a := s ++ (⟨#[128]⟩)) (b := zb (((119 - ((s.size : Int) % 64)) % 64) : Int).toNat) rfl rfl (by (try simp only [ByteArray.size_append, eightF_size, zb_size, tx1_size]); omega)) ?_)
  refine WL_cons (WO_val (v := (.string s)) (on_none rfl) rfl (by decide) (x_mv (v := (.string s)) rfl) ?_)
  refine WL_cons (WO_val (v := (.int .i64 (s.size : Int))) (on_none rfl) rfl (by decide) (x_len_str (s := s) rfl Try.underlying9) ?_)
  refine WL_cons (WO_val (v := (.int .u64 (s.size : Int))) (on_none rfl) rfl (by decide) (x_conv (a := (s.size : Int)) rfl Try.underlying3 Try.underlying55 (wu64 (by omega))) ?_)
  refine WL_cons (WO_val (v := (.int .u64 ((s.size : Int) * 8))) (on_none rfl) rfl (by decide) (x_mul (a := (s.size : Int)) (b := 8) rfl rfl (wu64 (by omega))) ?_)
  refine WL_cons (WO_call (on_none rfl) rfl (by decide) (x_call1 Try.func27 rfl rfl rfl rfl) (eight_c ((s.size : Int) * 8) _) ?_)
  rintro _ wc2 ⟨rfl, hb⟩
  refine ⟨_, rfl, ?_⟩
  replace S := S.keep hb
  clear hb
  refine WL_cons (WO_val (v := (.string (((s ++ (⟨#[128]⟩)) ++ (zb (((119 - ((s.size : Int) % 64)) % 64) : Int).toNat)) ++ (eightF ((s.size : Int) * 8) 8 0 (zb 8))))) (on_none rfl) rfl (by decide) (x_cat (a := (s ++ (⟨#[128]⟩)) ++ (zb (((119 - ((s.size : Int) % 64)) % 64) : Int).toNat)) (b := eightF ((s.size : Int) * 8) 8 0 (zb 8)) rfl rfl (by (try simp only [ByteArray.size_append, eightF_size, zb_size, tx1_size]); omega)) ?_)
  refine WL_cons (WO_val (v := (.string (((s ++ (⟨#[128]⟩)) ++ (zb (((119 - ((s.size : Int) % 64)) % 64) : Int).toNat)) ++ (eightF ((s.size : Int) * 8) 8 0 (zb 8))))) (on_none rfl) rfl (by decide) (x_as (v := (.string (((s ++ (⟨#[128]⟩)) ++ (zb (((119 - ((s.size : Int) % 64)) % 64) : Int).toNat)) ++ (eightF ((s.size : Int) * 8) 8 0 (zb 8))))) rfl) ?_)
  refine WL_nil ?_
  show WC Try.prog 60 _ _ _ _
  refine WC_seq ?_
  refine WC_region ?_
  refine WL_cons (WO_call (on_none rfl) rfl (by decide) (x_call0 Try.func31 rfl rfl rfl) (start_c _) ?_)
  rintro _ wc3 ⟨rfl, hb⟩
  refine ⟨_, rfl, ?_⟩
  replace S := S.keep hb
  clear hb
  refine WL_cons (WO_call (on_none rfl) rfl (by decide) (x_call0 Try.func32 rfl rfl rfl) (roots_c _) ?_)
  rintro _ wc4 ⟨rfl, hb⟩
  refine ⟨_, rfl, ?_⟩
  replace S := S.keep hb
  clear hb
  refine WL_cons (WO_alloc (row := uv .u32 (List.replicate 8 0)) S (on_none rfl) (by decide) ti58 rfl ?_)
  intro g2 wg2 S
  refine WL_cons (WO_alloc (row := uv .u32 (List.replicate 64 0)) S (on_none rfl) (by decide) ti60 rfl ?_)
  intro g3 wg3 S
  refine WL_cons (WO_store (v := (.agg (uv .u32 startL))) (row := uv .u32 (List.replicate 8 0)) (row' := uv .u32 startL) S (on_none rfl) rfl rfl (.there _ (.here _)) ti58.sz ((uv_size _ _).trans (by first | assumption | (simp only [startL_len, rootsL_len, wordsF_length, wordsOF_length, List.length_replicate, goesS_length] <;> rfl) | (simp only [startL_len, rootsL_len, wordsF_length, wordsOF_length, List.length_replicate, goesS_length]; assumption))) (by rw [show (uv .u32 (List.replicate 8 0)).size = 8 from ((uv_size _ _).trans (by first | assumption | (simp only [startL_len, rootsL_len, wordsF_length, wordsOF_length, List.length_replicate, goesS_length] <;> rfl) | (simp only [startL_len, rootsL_len, wordsF_length, wordsOF_length, List.length_replicate, goesS_length]; assumption)))]; exact Nat.le_refl _) (uv_one _ _) (splice_all _ _ ((((uv_size _ _).trans (by first | assumption | (simp only [startL_len, rootsL_len, wordsF_length, wordsOF_length, List.length_replicate, goesS_length] <;> rfl) | (simp only [startL_len, rootsL_len, wordsF_length, wordsOF_length, List.length_replicate, goesS_length]; assumption)))).trans (((uv_size _ _).trans (by first | assumption | (simp only [startL_len, rootsL_len, wordsF_length, wordsOF_length, List.length_replicate, goesS_length] <;> rfl) | (simp only [startL_len, rootsL_len, wordsF_length, wordsOF_length, List.length_replicate, goesS_length]; assumption)))).symm)) ?_)
  intro ws1 S
  refine WL_cons (WO_store (v := (.agg (uv .u32 rootsL))) (row := uv .u32 (List.replicate 64 0)) (row' := uv .u32 rootsL) S (on_none rfl) rfl rfl (.here _) ti60.sz ((uv_size _ _).trans (by first | assumption | (simp only [startL_len, rootsL_len, wordsF_length, wordsOF_length, List.length_replicate, goesS_length] <;> rfl) | (simp only [startL_len, rootsL_len, wordsF_length, wordsOF_length, List.length_replicate, goesS_length]; assumption))) (by rw [show (uv .u32 (List.replicate 64 0)).size = 64 from ((uv_size _ _).trans (by first | assumption | (simp only [startL_len, rootsL_len, wordsF_length, wordsOF_length, List.length_replicate, goesS_length] <;> rfl) | (simp only [startL_len, rootsL_len, wordsF_length, wordsOF_length, List.length_replicate, goesS_length]; assumption)))]; exact Nat.le_refl _) (uv_one _ _) (splice_all _ _ ((((uv_size _ _).trans (by first | assumption | (simp only [startL_len, rootsL_len, wordsF_length, wordsOF_length, List.length_replicate, goesS_length] <;> rfl) | (simp only [startL_len, rootsL_len, wordsF_length, wordsOF_length, List.length_replicate, goesS_length]; assumption)))).trans (((uv_size _ _).trans (by first | assumption | (simp only [startL_len, rootsL_len, wordsF_length, wordsOF_length, List.length_replicate, goesS_length] <;> rfl) | (simp only [startL_len, rootsL_len, wordsF_length, wordsOF_length, List.length_replicate, goesS_length]; assumption)))).symm)) ?_)
  intro ws2 S
  refine WL_nil ?_
  show WC Try.prog 60 _ _ _ _
  refine WC_seq ?_
  refine WC_seq ?_
  refine WC_region ?_
  refine WL_cons (WO_val (v := (.int .i64 0)) (on_none rfl) rfl (by decide) (x_as (v := (.int .i64 0)) rfl) ?_)
  refine WL_nil ?_
  show WC Try.prog 60 _ _ _ _
  refine WC_block ?_
  refine WC_loop (fun kq e' w' => ∃ (f : Nat) (i : Int) (v : List Int) (eb : Env), e' = updL eb [(2, (.pointer (some ⟨g1, 0, none⟩))), (4, (.string (padS s))), (5, (.pointer (some ⟨g2, 0, none⟩))), (6, (.pointer (some ⟨g3, 0, none⟩))), (7, (.int .i64 i))] ∧ SL w [blk g3 60 (uv .u32 rootsL), blk g2 58 (uv .u32 v), blk g1 26 (hv zeroH)] w' ∧ (i + 64 * (f : Int) = (padS s).size) ∧ (0 ≤ i) ∧ (v.length = 8) ∧ (blocksF s f i (v) = blocksF s ((padS s).size / 64) 0 (startL)) ∧ f = kq) (k := ((padS s).size / 64)) ⟨((padS s).size / 64), 0, startL, _, (updL_eq _ _ (by exact ⟨rfl, rfl, rfl, rfl, rfl, trivial⟩)).symm, S, (by omega), (by omega), startL_len, rfl, rfl⟩ ?_
  clear S
  rintro k1 e1 wl1 ⟨f, i, v, eb, rfl, S, hif, hi0, hv_, hF, rfl⟩
  show WC Try.prog 60 _ _ _ _
  refine WC_seq ?_
  refine WC_seq ?_
  refine WC_region ?_
  refine WL_cons (WO_val (v := (.int .i64 i)) (on_none rfl) rfl (by decide) (x_mv (v := (.int .i64 i)) rfl) ?_)
  refine WL_cons (WO_val (v := (.string (padS s))) (on_none rfl) rfl (by decide) (x_mv (v := (.string (padS s))) rfl) ?_)
  refine WL_cons (WO_val (v := (.int .i64 ((padS s).size : Int))) (on_none rfl) rfl (by decide) (x_len_str (s := padS s) rfl Try.underlying9) ?_)
  refine WL_cons (WO_val (v := (.bool (decide (i < ((padS s).size : Int))))) (on_none rfl) rfl (by decide) (x_lss (a := i) (b := ((padS s).size : Int)) rfl rfl) ?_)
  refine WL_nil ?_
  show WC Try.prog 60 _ _ _ _
  refine WC_cond (t := decide (i < ((padS s).size : Int))) rfl (fun hc1 => ?_) (fun hc1 => ?_)
  · show WC Try.prog 60 _ _ _ _
    have hc1_ := of_decide_eq_true hc1
    obtain ⟨f, rfl⟩ : ∃ m, f = m + 1 := ⟨f - 1, by omega⟩
    refine WC_skip ?_
    show WC Try.prog 60 _ _ _ _
    refine WC_seq ?_
    refine WC_block ?_
    refine WC_seq ?_
    refine WC_region ?_
    refine WL_cons (WO_val (v := (.string (padS s))) (on_none rfl) rfl (by decide) (x_mv (v := (.string (padS s))) rfl) ?_)
    refine WL_cons (WO_val (v := (.int .i64 i)) (on_none rfl) rfl (by decide) (x_mv (v := (.int .i64 i)) rfl) ?_)
    refine WL_cons (WO_val (v := (.int .i64 i)) (on_none rfl) rfl (by decide) (x_mv (v := (.int .i64 i)) rfl) ?_)
    refine WL_cons (WO_val (v := (.int .i64 (i + 64))) (on_none rfl) rfl (by decide) (x_add (a := i) (b := 64) rfl rfl (wi64 (by omega))) ?_)
    refine WL_cons (WO_val (v := (.string ((padS s).extract (i : Int).toNat (i + 64 : Int).toNat))) (on_none rfl) rfl (by decide) (x_slice_str (s := padS s) (a := i) (b := i + 64) rfl rfl rfl Try.underlying9 (by omega) (by omega) (by omega)) ?_)
    refine WL_cons (WO_call (on_none rfl) rfl (by decide) (x_call1 Try.func33 rfl rfl rfl rfl) (words_c ((padS s).extract (i : Int).toNat (i + 64 : Int).toNat) (by rw [ByteArray.size_extract]; omega) _) ?_)
    rintro _ wc5 ⟨rfl, hb⟩
    refine ⟨_, rfl, ?_⟩
    replace S := S.keep hb
    clear hb
    refine WL_cons (WO_alloc (row := uv .u32 (List.replicate 64 0)) S (on_none rfl) (by decide) ti60 rfl ?_)
    intro g4 wg4 S
    refine WL_cons (WO_store (v := (.agg (uv .u32 (wordsF 48 16 (wordsOF ((padS s).extract (i : Int).toNat (i + 64 : Int).toNat) 16 0 (List.replicate 64 0)))))) (row := uv .u32 (List.replicate 64 0)) (row' := uv .u32 (wordsF 48 16 (wordsOF ((padS s).extract (i : Int).toNat (i + 64 : Int).toNat) 16 0 (List.replicate 64 0)))) S (on_none rfl) rfl rfl (.here _) ti60.sz ((uv_size _ _).trans (by first | assumption | (simp only [startL_len, rootsL_len, wordsF_length, wordsOF_length, List.length_replicate, goesS_length] <;> rfl) | (simp only [startL_len, rootsL_len, wordsF_length, wordsOF_length, List.length_replicate, goesS_length]; assumption))) (by rw [show (uv .u32 (List.replicate 64 0)).size = 64 from ((uv_size _ _).trans (by first | assumption | (simp only [startL_len, rootsL_len, wordsF_length, wordsOF_length, List.length_replicate, goesS_length] <;> rfl) | (simp only [startL_len, rootsL_len, wordsF_length, wordsOF_length, List.length_replicate, goesS_length]; assumption)))]; exact Nat.le_refl _) (uv_one _ _) (splice_all _ _ ((((uv_size _ _).trans (by first | assumption | (simp only [startL_len, rootsL_len, wordsF_length, wordsOF_length, List.length_replicate, goesS_length] <;> rfl) | (simp only [startL_len, rootsL_len, wordsF_length, wordsOF_length, List.length_replicate, goesS_length]; assumption)))).trans (((uv_size _ _).trans (by first | assumption | (simp only [startL_len, rootsL_len, wordsF_length, wordsOF_length, List.length_replicate, goesS_length] <;> rfl) | (simp only [startL_len, rootsL_len, wordsF_length, wordsOF_length, List.length_replicate, goesS_length]; assumption)))).symm)) ?_)
    intro ws3 S
    refine WL_nil ?_
    show WC Try.prog 60 _ _ _ _
    refine WC_region ?_
    refine WL_cons (WO_val (v := (.agg (uv .u32 v))) (on_none rfl) rfl (by decide) (x_load_row rfl (S.blk_get (.there _ (.there _ (.here _)))) Try.underlying58 rfl ti58.sz ((uv_size _ _).trans (by first | assumption | (simp only [startL_len, rootsL_len, wordsF_length, wordsOF_length, List.length_replicate, goesS_length] <;> rfl) | (simp only [startL_len, rootsL_len, wordsF_length, wordsOF_length, List.length_replicate, goesS_length]; assumption)))) ?_)
    refine WL_cons (WO_call (on_none rfl) rfl (by decide) (x_call3 Try.func34 rfl rfl rfl rfl rfl rfl) (goes_c _ v rootsL (wordsF 48 16 (wordsOF ((padS s).extract (i : Int).toNat (i + 64 : Int).toNat) 16 0 (List.replicate 64 0))) g3 g4 (by first | assumption | simp only [startL_len, rootsL_len, wordsF_length, wordsOF_length, List.length_replicate, goesS_length]) (by simp only [startL_len, rootsL_len, wordsF_length, wordsOF_length, List.length_replicate, goesS_length]) (by simp only [startL_len, rootsL_len, wordsF_length, wordsOF_length, List.length_replicate, goesS_length]) (S.blk_get (.there _ (.here _))) (S.blk_get (.here _))) ?_)
    rintro _ wc6 ⟨rfl, hb⟩
    refine ⟨_, rfl, ?_⟩
    replace S := S.keep hb
    clear hb
    refine WL_cons (WO_store (v := (.agg (uv .u32 (goesS v rootsL (wordsF 48 16 (wordsOF ((padS s).extract (i : Int).toNat (i + 64 : Int).toNat) 16 0 (List.replicate 64 0))))))) (row := uv .u32 v) (row' := uv .u32 (goesS v rootsL (wordsF 48 16 (wordsOF ((padS s).extract (i : Int).toNat (i + 64 : Int).toNat) 16 0 (List.replicate 64 0))))) S (on_none rfl) rfl rfl (.there _ (.there _ (.here _))) ti58.sz ((uv_size _ _).trans (by first | assumption | (simp only [startL_len, rootsL_len, wordsF_length, wordsOF_length, List.length_replicate, goesS_length] <;> rfl) | (simp only [startL_len, rootsL_len, wordsF_length, wordsOF_length, List.length_replicate, goesS_length]; assumption))) (by rw [show (uv .u32 v).size = 8 from ((uv_size _ _).trans (by first | assumption | (simp only [startL_len, rootsL_len, wordsF_length, wordsOF_length, List.length_replicate, goesS_length] <;> rfl) | (simp only [startL_len, rootsL_len, wordsF_length, wordsOF_length, List.length_replicate, goesS_length]; assumption)))]; exact Nat.le_refl _) (uv_one _ _) (splice_all _ _ ((((uv_size _ _).trans (by first | assumption | (simp only [startL_len, rootsL_len, wordsF_length, wordsOF_length, List.length_replicate, goesS_length] <;> rfl) | (simp only [startL_len, rootsL_len, wordsF_length, wordsOF_length, List.length_replicate, goesS_length]; assumption)))).trans (((uv_size _ _).trans (by first | assumption | (simp only [startL_len, rootsL_len, wordsF_length, wordsOF_length, List.length_replicate, goesS_length] <;> rfl) | (simp only [startL_len, rootsL_len, wordsF_length, wordsOF_length, List.length_replicate, goesS_length]; assumption)))).symm)) ?_)
    intro ws4 S
    refine WL_nil ?_
    show WC Try.prog 60 _ _ _ _
    refine WC_region ?_
    refine WL_cons (WO_val (v := (.int .i64 i)) (on_none rfl) rfl (by decide) (x_mv (v := (.int .i64 i)) rfl) ?_)
    refine WL_cons (WO_val (v := (.int .i64 (i + 64))) (on_none rfl) rfl (by decide) (x_add (a := i) (b := 64) rfl rfl (wi64 (by omega))) ?_)
    refine WL_cons (WO_val (v := (.int .i64 (i + 64))) (on_none rfl) rfl (by decide) (x_as (v := (.int .i64 (i + 64))) rfl) ?_)
    refine WL_nil ?_
    replace S := S.drop (.here _)
    refine ⟨_, ?_, f, i + 64, _, _, (updL_eq _ _ (by exact ⟨rfl, rfl, rfl, rfl, rfl, trivial⟩)).symm, S, (by omega), (by omega), ((goesS_length _ _ _).trans hv_), hF, rfl⟩
    exact Nat.lt_succ_self f
  · show WC Try.prog 60 _ _ _ _
    have hc1_ := of_decide_eq_false hc1
    obtain rfl : f = 0 := by omega
    have hE : v = blocksF s ((padS s).size / 64) 0 startL := (show blocksF s 0 i v = v from rfl).symm.trans hF
    clear hF
    refine WC_exit ?_
    show WC Try.prog 60 _ _ _ _
    refine WC_seq ?_
    refine WC_region ?_
    refine WL_cons (WO_alloc (row := hv zeroH) S (on_none rfl) (by decide) ti26 rfl ?_)
    intro g5 wg5 S
    refine WL_nil ?_
    show WC Try.prog 60 _ _ _ _
    refine WC_seq ?_
    refine WC_seq ?_
    refine WC_region ?_
    refine WL_cons (WO_val (v := (.int .i64 0)) (on_none rfl) rfl (by decide) (x_mv (v := (.int .i64 0)) rfl) ?_)
    refine WL_nil ?_
    show WC Try.prog 60 _ _ _ _
    refine WC_block ?_
    refine WC_loop (fun kq e' w' => ∃ (f2 : Nat) (i2 : Int) (h : H) (eb : Env), e' = updL eb [(2, (.pointer (some ⟨g1, 0, none⟩))), (5, (.pointer (some ⟨g2, 0, none⟩))), (9, (.pointer (some ⟨g5, 0, none⟩))), (43, (.int .i64 i2))] ∧ SL w [blk g5 26 (hv h), blk g3 60 (uv .u32 rootsL), blk g2 58 (uv .u32 v), blk g1 26 (hv zeroH)] w' ∧ (i2 + (f2 : Int) = 32) ∧ (0 ≤ i2) ∧ (outF v f2 i2 (h) = outF v 32 0 (zeroH)) ∧ f2 = kq) (k := 32) ⟨32, 0, zeroH, _, (updL_eq _ _ (by exact ⟨rfl, rfl, rfl, rfl, trivial⟩)).symm, S, (by omega), (by omega), rfl, rfl⟩ ?_
    clear S
    rintro k2 e2 wl2 ⟨f2, i2, h, eb, rfl, S, hif2, hi02, hF2, rfl⟩
    show WC Try.prog 60 _ _ _ _
    refine WC_seq ?_
    refine WC_region ?_
    refine WL_cons (WO_val (v := (.bool (decide (i2 < 32)))) (on_none rfl) rfl (by decide) (x_lss (a := i2) (b := 32) rfl rfl) ?_)
    refine WL_nil ?_
    show WC Try.prog 60 _ _ _ _
    refine WC_seq ?_
    refine WC_cond (t := decide (i2 < 32)) rfl (fun hc2 => ?_) (fun hc2 => ?_)
    · show WC Try.prog 60 _ _ _ _
      have hc2_ := of_decide_eq_true hc2
      obtain ⟨f2, rfl⟩ : ∃ m, f2 = m + 1 := ⟨f2 - 1, by omega⟩
      refine WC_skip ?_
      show WC Try.prog 60 _ _ _ _
      refine WC_seq ?_
      refine WC_block ?_
      refine WC_seq ?_
      refine WC_region ?_
      refine WL_cons (WO_val (v := (.int .i64 i2)) (on_none rfl) rfl (by decide) (x_mv (v := (.int .i64 i2)) rfl) ?_)
      refine WL_cons (WO_val (v := (.int .i64 i2)) (on_none rfl) rfl (by decide) (x_as (v := (.int .i64 i2)) rfl) ?_)
      refine WL_nil ?_
      show WC Try.prog 60 _ _ _ _
      refine WC_region ?_
      refine WL_cons (WO_val (v := (.int .i64 i2)) (on_none rfl) rfl (by decide) (x_mv (v := (.int .i64 i2)) rfl) ?_)
      refine WL_cons (WO_val (v := (.int .i64 i2)) (on_none rfl) rfl (by decide) (x_mv (v := (.int .i64 i2)) rfl) ?_)
      refine WL_cons (WO_val (v := (.int .i64 (i2 / 4))) (on_none rfl) rfl (by decide) (x_quo (a := i2) (b := 4) rfl rfl (by omega) (by omega) (wi64 (by omega))) ?_)
      refine WL_cons (WO_val (v := (.pointer (some ⟨g2, (i2 / 4 : Int).toNat * 1, none⟩))) (on_none rfl) rfl (by decide) (x_index_row (i := i2 / 4) rfl rfl Try.underlying58 ti57.sz (by omega) (by omega)) ?_)
      refine WL_cons (WO_val (v := (.int .u32 (nth v (i2 / 4)))) (on_none rfl) rfl (by decide) (x_load_cell (v := .int .u32 (nth v (i2 / 4))) rfl (cell_row (S.blk_get (.there _ (.there _ (.here _)))) (uv_nth (by omega) (by omega))) Try.underlying57 rfl) ?_)
      refine WL_cons (WO_val (v := (.int .i64 i2)) (on_none rfl) rfl (by decide) (x_mv (v := (.int .i64 i2)) rfl) ?_)
      refine WL_cons (WO_val (v := (.int .i64 (i2 % 4))) (on_none rfl) rfl (by decide) (x_rem (a := i2) (b := 4) rfl rfl (by omega) (by omega)) ?_)
      refine WL_cons (WO_val (v := (.int .i64 ((i2 % 4) * 8))) (on_none rfl) rfl (by decide) (x_mul (a := i2 % 4) (b := 8) rfl rfl (wi64 (by omega))) ?_)
      refine WL_cons (WO_val (v := (.int .i64 (24 - ((i2 % 4) * 8)))) (on_none rfl) rfl (by decide) (x_sub (a := 24) (b := (i2 % 4) * 8) rfl rfl (wi64 (by omega))) ?_)
      refine WL_cons (WO_val (v := (.int .u32 (Int.fdiv (nth v (i2 / 4)) (2 ^ (min (24 - ((i2 % 4) * 8) : Int).toNat IntKind.u32.bits))))) (on_none rfl) rfl (by decide) (x_shr (a := nth v (i2 / 4)) (b := 24 - ((i2 % 4) * 8)) rfl rfl (by omega)) ?_)
      refine WL_cons (WO_val (v := (.int .u8 (IntKind.u8.wrap (Int.fdiv (nth v (i2 / 4)) (2 ^ (min (24 - ((i2 % 4) * 8) : Int).toNat IntKind.u32.bits)))))) (on_none rfl) rfl (by decide) (x_convw (a := Int.fdiv (nth v (i2 / 4)) (2 ^ (min (24 - ((i2 % 4) * 8) : Int).toNat IntKind.u32.bits))) rfl Try.underlying57 Try.underlying5) ?_)
      refine WL_cons (WO_val (v := (.pointer (some ⟨g5, (i2 : Int).toNat * 1, none⟩))) (on_none rfl) rfl (by decide) (x_index_row (i := i2) rfl rfl Try.underlying26 ti5.sz (by omega) (by omega)) ?_)
      refine WL_cons (WO_store (v := (.int .u8 (IntKind.u8.wrap (Int.fdiv (nth v (i2 / 4)) (2 ^ (min (24 - ((i2 % 4) * 8) : Int).toNat IntKind.u32.bits)))))) (row := hv h) (row' := hv (hset h i2 (IntKind.u8.wrap (Int.fdiv (nth v (i2 / 4)) (2 ^ (min (24 - ((i2 % 4) * 8) : Int).toNat IntKind.u32.bits)))))) S (on_none rfl) rfl rfl (.here _) ti5.sz rfl (by rw [hv_size]; omega) (by simp [Value.cells, Value.oneCell']) (splice_hset (by omega) (by omega) (wrap_u8_in _).1 (wrap_u8_in _).2) ?_)
      intro ws5 S
      refine WL_nil ?_
      show WC Try.prog 60 _ _ _ _
      refine WC_region ?_
      refine WL_cons (WO_val (v := (.int .i64 (i2 + 1))) (on_none rfl) rfl (by decide) (x_add (a := i2) (b := 1) rfl rfl (wi64 (by omega))) ?_)
      refine WL_cons (WO_val (v := (.int .i64 (i2 + 1))) (on_none rfl) rfl (by decide) (x_mv (v := (.int .i64 (i2 + 1))) rfl) ?_)
      refine WL_nil ?_
      refine ⟨_, ?_, f2, i2 + 1, _, _, (updL_eq _ _ (by exact ⟨rfl, rfl, rfl, rfl, trivial⟩)).symm, S, (by omega), (by omega), hF2, rfl⟩
      exact Nat.lt_succ_self f2
    · show WC Try.prog 60 _ _ _ _
      have hc2_ := of_decide_eq_false hc2
      obtain rfl : f2 = 0 := by omega
      refine WC_exit ?_
      show WC Try.prog 60 _ _ _ _
      refine WC_seq ?_
      refine WC_region ?_
      refine WL_cons (WO_val (v := (.agg (hv h))) (on_none rfl) rfl (by decide) (x_load_row rfl (S.blk_get (.here _)) Try.underlying26 rfl ti26.sz (hv_size _)) ?_)
      refine WL_cons (WO_store (v := (.agg (hv h))) (row := hv zeroH) (row' := hv h) S (on_none rfl) rfl rfl (.there _ (.there _ (.there _ (.here _)))) ti26.sz (hv_size _) (by rw [hv_size]; exact Nat.le_refl _) (bv_one _) (splice_all _ _ (((hv_size _)).trans ((hv_size _)).symm)) ?_)
      intro ws6 S
      refine WL_nil ?_
      show WC Try.prog 60 _ _ _ _
      refine WC_ret ?_
      show retQ Try.prog Try.f20 _ .ret _ _
      exact retc (fn := Try.f20) S rfl rfl (.there _ (.there _ (.there _ (.here _)))) Try.underlying26 rfl (by rw [hv_size]; exact ti26.sz) ⟨by rw [sumH, ← hE, ← (show outF v 0 i2 h = h from rfl).symm.trans hF2], S.below⟩
end Go.Proofs.Ytjlbkbfnmcppeaa.Sl

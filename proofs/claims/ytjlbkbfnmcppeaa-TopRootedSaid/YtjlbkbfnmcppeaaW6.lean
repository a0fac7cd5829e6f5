/-
  What calls of the program's functions come to (part W6): each function walked once; the conditions stand in each theorem.
-/
import Derived.Test.YtjlbkbfnmcppeaaW5
set_option maxHeartbeats 2000000
set_option linter.unusedSimpArgs false
set_option linter.unusedVariables false
set_option maxRecDepth 100000
namespace Go.Proofs.Ytjlbkbfnmcppeaa.Sl
open Go Go.RowKit
theorem write_cc {w0 w : World} {M : List Chk} {gb : Nat} {A : Option Addr} {m c : Nat} {p : Value} {xs : List UInt8} (s : ByteArray) (hz : xs.length + s.size ≤ 140737488355328) (hp : p = .pointer none ∨ p = (.pointer (some ⟨gb, 0, none⟩))) (S : SL w0 (blk gb 43 #[p, .slice A m c] :: own encB 5 1 (.slice A m c) xs :: M) w) :
    Calls Try.prog 18 #[(.pointer (some ⟨gb, 0, none⟩)), .string s] w fun e w' => ∃ A' m' c', e = .returned (.tuple #[.int .i64 (s.size : Int), .nilIface]) ∧ SL w0 (blk gb 43 #[(.pointer (some ⟨gb, 0, none⟩)), .slice A' m' c'] :: own encB 5 1 (.slice A' m' c') (xs ++ s.data.toList) :: M) w' := write_c s hz hp S
theorem string_cc {w0 w : World} {M : List Chk} {gb : Nat} {A : Option Addr} {m c : Nat} {xs : List UInt8} (h0 : xs ≠ []) (S : SL w0 (blk gb 43 #[(.pointer (some ⟨gb, 0, none⟩)), .slice A m c] :: own encB 5 1 (.slice A m c) xs :: M) w) :
    Calls Try.prog 21 #[(.pointer (some ⟨gb, 0, none⟩))] w fun e w' => e = .returned (.string (tx xs)) ∧ SL w0 (blk gb 43 #[(.pointer (some ⟨gb, 0, none⟩)), .slice A m c] :: M) w' := string_c h0 S
def encS (s : ByteArray) : Array Value := #[.string s]
theorem putF_pos : ∀ (f : Nat) (n k : Int) (b : ByteArray), 0 ≤ k → 0 < b.size → 0 < (putF f n k b).size
  | 0, n, k, b, hk, hb => by rw [putF, ByteArray.size_extract, bset_size]; omega
  | f + 1, n, k, b, hk, hb => by
    rw [putF]
    split
    · exact putF_pos f _ _ _ (by omega) (by rw [bset_size]; exact hb)
    · rw [ByteArray.size_extract, bset_size]; omega
theorem putT_len (s : ByteArray) : s.size < (putT s).size := by
  have := putF_pos 9 (s.size : Int) 0 (zb 10) (by decide) (by decide)
  rw [putT, ByteArray.size_append, putS]
  omega
/-- What a sum is taken of: a name, and parts. -/
def ofL (tag : ByteArray) (parts : List ByteArray) : List UInt8 := (putT tag).data.toList ++ parts.flatMap fun p => (putT p).data.toList
def ofH (tag : ByteArray) (parts : List ByteArray) : H := sumH (tx (ofL tag parts))
theorem data_len (s : ByteArray) : s.data.toList.length = s.size := Array.length_toList
theorem ofL_tag (tag : ByteArray) (parts : List ByteArray) : (putT tag).size ≤ (ofL tag parts).length := by rw [ofL, List.length_append, data_len]; omega
theorem ofL_ne (tag : ByteArray) (parts : List ByteArray) : ofL tag parts ≠ [] := by
  intro h
  have h1 := ofL_tag tag parts
  have h2 := putT_len tag
  rw [h, List.length_nil] at h1
  omega
theorem flat_step {parts : List ByteArray} {i : Int} {p : ByteArray} (hi : 0 ≤ i) (hp : parts[i.toNat]? = some p) (xs : List UInt8) : xs ++ (parts.drop i.toNat).flatMap (fun p => (putT p).data.toList) = (xs ++ (putT p).data.toList) ++ (parts.drop (i + 1).toNat).flatMap (fun p => (putT p).data.toList) := by
  obtain ⟨h1, h2⟩ := List.getElem?_eq_some_iff.1 hp
  rw [List.drop_eq_getElem_cons h1, h2, List.flatMap_cons, List.append_assoc, show (i + 1).toNat = i.toNat + 1 by omega]
theorem flat_end {parts : List ByteArray} {i : Int} (hi : parts.length ≤ i.toNat) (xs : List UInt8) : xs ++ (parts.drop i.toNat).flatMap (fun p => (putT p).data.toList) = xs := by
  rw [List.drop_of_length_le hi, List.flatMap_nil, List.append_nil]
attribute [local irreducible] ofL sumH putT

theorem of_c (w : World) {A : Option Addr} {n c : Nat} (tag : ByteArray) (parts : List ByteArray) (hz : (ofL tag parts).length ≤ 4294967296) (hP : Has w (slc (pur encS) 1) (.slice A n c) parts) :
    Calls Try.prog 8 #[(.string tag), (.slice A parts.length c)] w (fun e w' => e = .returned (.agg (hv (ofH tag parts))) ∧ Below w.heap.size w w') := by
  obtain ⟨rfl, hnc, hcm⟩ := hP.len
  simp only [maxLen] at hcm
  have ht1 := ofL_tag tag parts
  have ht2 := putT_len tag
  refine calls_WC (c := _) (n := 23) (vs := [(.string tag), (.slice A parts.length c)]) Try.func8 rfl Try.ntmps8 (Nat.le_of_ble_eq_true rfl) ?_
  have S := SL.start w
  refine WC_seq ?_
  refine WC_region ?_
  refine WL_cons (WO_alloc (row := hv zeroH) S (on_none rfl) (by decide) ti26 rfl ?_)
  intro g1 wg1 S
  refine WL_nil ?_
  replace S := SL.own_nil S encB 5 1
  show WC Try.prog 23 _ _ _ _
  refine WC_seq ?_
  refine WC_region ?_
  refine WL_cons (WO_alloc (row := #[(.pointer none), (.slice none 0 0)]) S (on_none rfl) (by decide) ti43 rfl ?_)
  intro g2 wg2 S
  refine WL_nil ?_
  show WC Try.prog 23 _ _ _ _
  refine WC_seq ?_
  refine WC_region ?_
  refine WL_cons (WO_val (v := (.string tag)) (on_none rfl) rfl (by decide) (x_mv (v := (.string tag)) rfl) ?_)
  refine WL_cons (WO_call (on_none rfl) rfl (by decide) (x_call1 Try.func19 rfl rfl rfl rfl) (putText_c tag (by omega) _) ?_)
  rintro _ wc1 ⟨rfl, hb⟩
  refine ⟨_, rfl, ?_⟩
  replace S := S.keep hb
  clear hb
  refine WL_cons (WO_call (on_none rfl) rfl (by decide) (x_call2 Try.func18 rfl rfl rfl rfl rfl) (write_cc (putT tag) (by first | omega | (show 0 + _ ≤ _; omega)) (.inl rfl) S) ?_)
  rintro _ wc2 ⟨A1, m1, c1, rfl, S⟩
  refine ⟨_, rfl, ?_⟩
  refine WL_nil ?_
  show WC Try.prog 23 _ _ _ _
  refine WC_seq ?_
  refine WC_seq ?_
  refine WC_region ?_
  refine WL_cons (WO_val (v := (.slice A parts.length c)) (on_none rfl) rfl (by decide) (x_mv (v := (.slice A parts.length c)) rfl) ?_)
  refine WL_cons (WO_val (v := (.int .i64 ((parts.length : Nat) : Int))) (on_none rfl) rfl (by decide) (x_len_slc rfl Try.underlying40) ?_)
  refine WL_cons (WO_val (v := (.int .i64 0)) (on_none rfl) rfl (by decide) (x_mv (v := (.int .i64 0)) rfl) ?_)
  refine WL_nil ?_
  show WC Try.prog 23 _ _ _ _
  refine WC_block ?_
  refine WC_loop (fun kq e' w' => ∃ (f : Nat) (i : Int) (xs : List UInt8) (Ab : Option Addr) (mb : Nat) (cb : Nat) (eb : Env), e' = updL eb [(4, (.pointer (some ⟨g1, 0, none⟩))), (5, (.pointer (some ⟨g2, 0, none⟩))), (11, (.slice A parts.length c)), (12, (.int .i64 ((parts.length : Nat) : Int))), (13, (.int .i64 i))] ∧ SL w [blk g2 43 (#[(.pointer (some ⟨g2, 0, none⟩)), (.slice Ab mb cb)]), own encB 5 1 (.slice Ab mb cb) xs, blk g1 26 (hv zeroH)] w' ∧ (i + (f : Int) = parts.length) ∧ (0 ≤ i) ∧ (xs ++ (parts.drop i.toNat).flatMap (fun p => (putT p).data.toList) = ofL tag parts) ∧ f = kq) (k := parts.length) ⟨parts.length, 0, _, A1, m1, c1, _, (updL_eq _ _ (by exact ⟨rfl, rfl, rfl, rfl, rfl, trivial⟩)).symm, S, (by omega), (by omega), (by unfold ofL; rfl), rfl⟩ ?_
  clear S
  rintro k1 e1 wl1 ⟨f, i, xs, Ab, mb, cb, eb, rfl, S, hif, hi0, hX, rfl⟩
  show WC Try.prog 23 _ _ _ _
  refine WC_seq ?_
  refine WC_region ?_
  refine WL_cons (WO_val (v := (.bool (decide (i < ((parts.length : Nat) : Int))))) (on_none rfl) rfl (by decide) (x_lss (a := i) (b := ((parts.length : Nat) : Int)) rfl rfl) ?_)
  refine WL_nil ?_
  show WC Try.prog 23 _ _ _ _
  refine WC_seq ?_
  refine WC_cond (t := decide (i < ((parts.length : Nat) : Int))) rfl (fun hc1 => ?_) (fun hc1 => ?_)
  · show WC Try.prog 23 _ _ _ _
    have hc1_ := of_decide_eq_true hc1
    obtain ⟨f, rfl⟩ : ∃ m, f = m + 1 := ⟨f - 1, by omega⟩
    obtain ⟨pp, hp_⟩ : ∃ p, parts[i.toNat]? = some p := ⟨_, List.getElem?_eq_getElem (by omega)⟩
    have hlen : xs.length + (putT pp).size ≤ (ofL tag parts).length := by rw [← hX, flat_step hi0 hp_ xs, List.length_append, List.length_append, data_len]; omega
    have := putT_len pp
    refine WC_skip ?_
    show WC Try.prog 23 _ _ _ _
    refine WC_seq ?_
    refine WC_block ?_
    refine WC_seq ?_
    refine WC_region ?_
    refine WL_cons (WO_val (v := (eaddr A ((i : Int).toNat * 1))) (on_none rfl) rfl (by decide) (x_index_slc (i := i) rfl rfl Try.underlying40 ti9.sz (by omega) (by omega) (Has.some hP (by omega))) ?_)
    refine WL_cons (WO_val (v := (.string pp)) (on_none rfl) rfl (by decide) (x_el1 (x := pp) (u := (.string pp)) (S.old hP) hp_ rfl rfl Try.underlying9 rfl) ?_)
    refine WL_cons (WO_val (v := (.string pp)) (on_none rfl) rfl (by decide) (x_as (v := (.string pp)) rfl) ?_)
    refine WL_nil ?_
    show WC Try.prog 23 _ _ _ _
    refine WC_region ?_
    refine WL_cons (WO_val (v := (.string pp)) (on_none rfl) rfl (by decide) (x_mv (v := (.string pp)) rfl) ?_)
    refine WL_cons (WO_call (on_none rfl) rfl (by decide) (x_call1 Try.func19 rfl rfl rfl rfl) (putText_c pp (by omega) _) ?_)
    rintro _ wc3 ⟨rfl, hb⟩
    refine ⟨_, rfl, ?_⟩
    replace S := S.keep hb
    clear hb
    refine WL_cons (WO_call (on_none rfl) rfl (by decide) (x_call2 Try.func18 rfl rfl rfl rfl rfl) (write_cc (putT pp) (by first | omega | (show 0 + _ ≤ _; omega)) (.inr rfl) S) ?_)
    rintro _ wc4 ⟨A2, m2, c2, rfl, S⟩
    refine ⟨_, rfl, ?_⟩
    refine WL_nil ?_
    show WC Try.prog 23 _ _ _ _
    refine WC_region ?_
    refine WL_cons (WO_val (v := (.int .i64 (i + 1))) (on_none rfl) rfl (by decide) (x_add (a := i) (b := 1) rfl rfl (wi64 (by omega))) ?_)
    refine WL_cons (WO_val (v := (.int .i64 (i + 1))) (on_none rfl) rfl (by decide) (x_mv (v := (.int .i64 (i + 1))) rfl) ?_)
    refine WL_nil ?_
    refine ⟨_, ?_, f, i + 1, _, A2, m2, c2, _, (updL_eq _ _ (by exact ⟨rfl, rfl, rfl, rfl, rfl, trivial⟩)).symm, S, (by omega), (by omega), ((flat_step hi0 hp_ xs).symm.trans hX), rfl⟩
    exact Nat.lt_succ_self f
  · show WC Try.prog 23 _ _ _ _
    have hc1_ := of_decide_eq_false hc1
    obtain rfl : f = 0 := by omega
    have hXE : xs = ofL tag parts := (flat_end (by omega) xs).symm.trans hX
    refine WC_exit ?_
    show WC Try.prog 23 _ _ _ _
    refine WC_seq ?_
    refine WC_region ?_
    refine WL_cons (WO_call (on_none rfl) rfl (by decide) (x_call1 Try.func21 rfl rfl rfl rfl) (string_cc (by rw [hXE]; exact ofL_ne _ _) S) ?_)
    rintro _ wc5 ⟨rfl, S⟩
    refine ⟨_, rfl, ?_⟩
    refine WL_cons (WO_call (on_none rfl) rfl (by decide) (x_call1 Try.func20 rfl rfl rfl rfl) (sum_c (tx xs) (by show (tx xs).size ≤ _; rw [show (tx xs).size = xs.length from by simp [ByteArray.size], hXE]; omega) _) ?_)
    rintro _ wc6 ⟨rfl, hb⟩
    refine ⟨_, rfl, ?_⟩
    replace S := S.keep hb
    clear hb
    refine WL_cons (WO_store (v := (.agg (hv (sumH (tx xs))))) (row := hv zeroH) (row' := hv (sumH (tx xs))) S (on_none rfl) rfl rfl (.there _ (.here _)) ti26.sz (hv_size _) (by rw [hv_size]; exact Nat.le_refl _) (bv_one _) (splice_all _ _ (((hv_size _)).trans ((hv_size _)).symm)) ?_)
    intro ws1 S
    refine WL_nil ?_
    show WC Try.prog 23 _ _ _ _
    refine WC_ret ?_
    show retQ Try.prog Try.f8 _ .ret _ _
    exact retc (fn := Try.f8) S rfl rfl (.there _ (.here _)) Try.underlying26 rfl (by rw [hv_size]; exact ti26.sz) ⟨by rw [ofH, hXE], S.below⟩
end Go.Proofs.Ytjlbkbfnmcppeaa.Sl

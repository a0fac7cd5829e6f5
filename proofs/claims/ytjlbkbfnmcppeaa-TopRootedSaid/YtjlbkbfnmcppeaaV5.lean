/-
  What calls of the program's functions come to (part V5): each function walked once; the conditions stand in each theorem.
-/
import Derived.Test.YtjlbkbfnmcppeaaV4
set_option maxHeartbeats 2000000
set_option linter.unusedSimpArgs false
set_option linter.unusedVariables false
set_option maxRecDepth 100000
namespace Go.Proofs.Ytjlbkbfnmcppeaa.Sl
open Go Go.RowKit
attribute [local irreducible] ofH sumH eightF putT ofL bitop

theorem hat_of {α : Type} [Inhabited α] {l : List α} {i : Int} {x : α} (h : l[i.toNat]? = some x) : hat l i = x := by simp [hat, h]
theorem hat_drop {α : Type} [Inhabited α] (l : List α) (k : Nat) : hat (l.drop k) 0 = hat l (k : Int) := by simp [hat]
theorem drop_upL : ∀ (k : Nat) (r : List H), (upL r).drop k = upL (r.drop (2 * k))
  | 0, r => rfl
  | k + 1, [] => by simp [upL]
  | k + 1, [a] => by rw [upL_short [a] (by simp), show 2 * (k + 1) = 2 * k + 1 + 1 by omega]; simp [upL]
  | k + 1, a :: b :: t => by
    rw [upL, List.drop_succ_cons, drop_upL k t, show 2 * (k + 1) = 2 * k + 1 + 1 by omega]
    rfl
theorem hat_upL_two (r : List H) (k : Int) (h0 : 0 ≤ k) (h : 2 * k + 1 < r.length) : hat (upL r) k = pairH (hat r (2 * k)) (hat r (2 * k + 1)) := by
  obtain ⟨m, rfl⟩ : ∃ m : Nat, k = m := ⟨k.toNat, by omega⟩
  rw [← hat_drop, drop_upL, show 2 * m = (2 * (m : Int)).toNat by omega, upL_step r m h0 h]
  rfl
theorem hat_upL_one (r : List H) (k : Int) (h0 : 0 ≤ k) (h : 2 * k + 1 = r.length) : hat (upL r) k = hat r (2 * k) := by
  obtain ⟨m, rfl⟩ : ∃ m : Nat, k = m := ⟨k.toNat, by omega⟩
  rw [← hat_drop, drop_upL, upL_short _ (by rw [List.length_drop]; omega), hat_drop]
  congr 1
theorem oth_nn {i : Int} (h0 : 0 ≤ i) (h1 : i ≤ 1048576) : oth i = if i % 2 = 0 then i + 1 else i - 1 := xor1 i h0 (by omega)
theorem climb (n : Int) (want : H) : ∀ (m : Nat) (r : List H) (i : Int), r.length ≤ m → 0 ≤ i → i < r.length → r.length ≤ 1048576 → rootH n (topL r) = want → chkL n want (hat r i) i r.length (proofL i r) = true
  | 0, r, i, hm, h0, h1, _, _ => by omega
  | m + 1, r, i, hm, h0, h1, hr, hw => by
    by_cases hl : r.length ≤ 1
    · have hi : i = 0 := by omega
      subst hi
      rw [proofL_one _ _ hl, chkL_end_t (by omega) rfl, ← topL_one r hl]
      exact decide_eq_true hw
    · have ho := oth_nn h0 (by omega)
      have ih := climb n want m (upL r) (i / 2) (by rw [upL_length]; omega) (by omega) (by rw [upL_length]; omega) (by rw [upL_length]; omega) (by rw [topL_up r (by omega)]; exact hw)
      have hlen : (((upL r).length : Nat) : Int) = ((r.length : Int) + 1) / 2 := by rw [upL_length]; omega
      rw [hlen] at ih
      rw [proofL_up _ _ (by omega)]
      by_cases hb : oth i < r.length
      · have hbes : besL i r = [hat r (oth i)] := if_pos hb
        rw [hbes]
        by_cases he : i % 2 = 0
        · rw [if_pos he] at ho
          rw [chkL_even (by omega) hb (by simp) he]
          have e1 : hat (upL r) (i / 2) = pairH (hat r i) (hat r (oth i)) := by
            rw [hat_upL_two r (i / 2) (by omega) (by omega), ho, show 2 * (i / 2) = i by omega]
          rw [e1] at ih
          exact ih
        · rw [if_neg he] at ho
          rw [chkL_odd (by omega) hb (by simp) he]
          have e1 : hat (upL r) (i / 2) = pairH (hat r (oth i)) (hat r i) := by
            rw [hat_upL_two r (i / 2) (by omega) (by omega), ho, show 2 * (i / 2) = i - 1 by omega, show i - 1 + 1 = i by omega]
          rw [e1] at ih
          exact ih
      · have hbes : besL i r = [] := if_neg hb
        rw [hbes, List.nil_append, chkL_past (by omega) hb]
        have he : i % 2 = 0 := by
          rcases Int.emod_two_eq i with h | h
          · exact h
          · rw [if_neg (by omega)] at ho; omega
        rw [if_pos he] at ho
        have e1 : hat (upL r) (i / 2) = hat r i := by
          rw [hat_upL_one r (i / 2) (by omega) (by omega), show 2 * (i / 2) = i by omega]
        rw [e1] at ih
        exact ih
/-- What stands beside the way, row by row. -/
def dueL : Int → List (List H) → List H
  | _, [] => []
  | i, r :: t => besL i r ++ dueL (i / 2) t
theorem dueL_rows : ∀ (m : Nat) (r : List H) (i : Int), r.length ≤ m → 0 ≤ i → i < r.length → r.length ≤ 1048576 → dueL i (rowsL r) = proofL i r
  | 0, r, i, hm, h0, h1, _ => by omega
  | m + 1, r, i, hm, h0, h1, hr => by
    by_cases hl : r.length ≤ 1
    · have hi : i = 0 := by omega
      subst hi
      have ho := oth_nn (i := 0) (by omega) (by omega)
      rw [if_pos (by decide)] at ho
      rw [rowsL_one r hl, proofL_one _ _ hl, dueL, dueL, show besL 0 r = [] from if_neg (by omega)]
      rfl
    · rw [rowsL_up r (by omega), dueL, proofL_up _ _ (by omega), dueL_rows m (upL r) (i / 2) (by rw [upL_length]; omega) (by omega) (by rw [upL_length]; omega) (by rw [upL_length]; omega)]
theorem rowsL_last : ∀ (m : Nat) (r : List H), r.length ≤ m → 0 < r.length → ∃ t, rowsL r = t ++ [[topL r]]
  | 0, r, hm, h0 => by omega
  | m + 1, r, hm, h0 => by
    by_cases hl : r.length ≤ 1
    · refine ⟨[], ?_⟩
      rw [rowsL_one r hl, topL_one r hl]
      match r, hl, h0 with
      | [a], _, _ => rfl
    · obtain ⟨t, ht⟩ := rowsL_last m (upL r) (by rw [upL_length]; omega) (by rw [upL_length]; omega)
      exact ⟨r :: t, by rw [rowsL_up r (by omega), ht, topL_up r (by omega)]; rfl⟩
theorem rowsL_len : ∀ (m : Nat) (r : List H), r.length ≤ m → 0 < (rowsL r).length ∧ (rowsL r).length ≤ r.length + 1
  | 0, r, hm => by rw [rowsL_one r (by omega)]; simp
  | m + 1, r, hm => by
    by_cases hl : r.length ≤ 1
    · rw [rowsL_one r hl]; simp
    · have := rowsL_len m (upL r) (by rw [upL_length]; omega)
      rw [rowsL_up r (by omega), List.length_cons]
      rw [upL_length] at this
      omega
theorem last_row {l : List H} (h : 0 < l.length) : hat (rowsL (l.map leafH)) (((rowsL (l.map leafH)).length : Int) - 1) = [topH l] := by
  obtain ⟨t, ht⟩ := rowsL_last _ (l.map leafH) (Nat.le_refl _) (by rw [List.length_map]; exact h)
  have ht' : topH l = topL (l.map leafH) := by rw [topH, if_neg (by omega)]
  rw [ht, ht']
  refine hat_of ?_
  rw [List.length_append, show ((((t.length + [[topL (l.map leafH)]].length : Nat) : Int) - 1)).toNat = t.length by simp]
  simp
theorem due_step {rs : List (List H)} {place : Int} {k : Int} (h0 : 0 ≤ k) (h1 : k < rs.length) : dueL place (rs.drop k.toNat) = besL place (hat rs k) ++ dueL (place / 2) (rs.drop (k + 1).toNat) := by
  obtain ⟨m, rfl⟩ : ∃ m : Nat, k = m := ⟨k.toNat, by omega⟩
  have e : ((m : Int) + 1).toNat = m + 1 := by omega
  rw [e, Int.toNat_natCast, List.drop_eq_getElem_cons (by omega), dueL, hat_of (by rw [Int.toNat_natCast]; exact List.getElem?_eq_getElem (by omega))]
theorem due_end {rs : List (List H)} {place : Int} {k : Int} (h1 : rs.length ≤ k) : dueL place (rs.drop k.toNat) = [] := by
  rw [List.drop_of_length_le (by omega)]
  rfl
theorem check_true {l : List H} {i : Int} (hz : l.length ≤ 65536) (h0 : 0 ≤ i) (h1 : i < l.length) : checkB (rootH (l.length : Int) (topH l)) (l.length : Int) i (hat l i) (proveL i l) = true := by
  have hin := inL_t h0 h1
  rw [checkB, if_neg (by omega), proveL_t hin]
  have := climb (l.length : Int) (rootH (l.length : Int) (topH l)) _ (l.map leafH) i (Nat.le_refl _) h0 (by rw [List.length_map]; exact h1) (by rw [List.length_map]; omega) (by rw [topH, if_neg (by omega)])
  rw [List.length_map] at this
  have e : hat (l.map leafH) i = leafH (hat l i) := hat_of (by rw [hat_map leafH l i.toNat (by omega)]; congr 3; omega)
  rw [e] at this
  exact this
theorem prove_due {l : List H} {i : Int} (hz : l.length ≤ 65536) (h0 : 0 ≤ i) (h1 : i < l.length) : dueL i (rowsL (l.map leafH)) = proveL i l := by
  rw [proveL_t (inL_t h0 h1), dueL_rows _ _ _ (Nat.le_refl _) h0 (by rw [List.length_map]; exact h1) (by rw [List.length_map]; omega)]
end Go.Proofs.Ytjlbkbfnmcppeaa.Sl

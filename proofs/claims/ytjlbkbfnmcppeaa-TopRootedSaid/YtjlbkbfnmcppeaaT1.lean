/-
  What calls of the program's functions come to (part T1): each function walked once; the conditions stand in each theorem.
-/
import Derived.Test.YtjlbkbfnmcppeaaW6
import Derived.Test.YtjlbkbfnmcppeaaSe
set_option maxHeartbeats 2000000
set_option linter.unusedSimpArgs false
set_option linter.unusedVariables false
set_option maxRecDepth 100000
namespace Go.Proofs.Ytjlbkbfnmcppeaa.Sl
open Go Go.RowKit
theorem Hsz (h : H) : h.1.size = 32 := h.2
theorem ofL_le (tag : ByteArray) (parts : List ByteArray) (k : Nat) (hk : tag.size = k) (h : k + 10 + (parts.map fun p => p.size + 10).sum ≤ 4294967296) : (ofL tag parts).length ≤ 4294967296 := by
  have key : ∀ l : List ByteArray, (l.flatMap fun p => (putT p).data.toList).length ≤ (l.map fun p => p.size + 10).sum := by
    intro l
    induction l with
    | nil => simp
    | cons p l ih =>
      rw [List.flatMap_cons, List.length_append, List.map_cons, List.sum_cons, data_len]
      have := putT_size p
      omega
  rw [ofL, List.length_append, data_len]
  have := putT_size tag
  have := key parts
  omega
theorem nat_xor1 (n : Nat) : n ^^^ 1 = if n % 2 = 0 then n + 1 else n - 1 := by
  have h1 : (n ^^^ 1) / 2 = n / 2 := by rw [Nat.xor_div_two]; simp
  have h2 : (n ^^^ 1) % 2 = (n + 1) % 2 := by
    have := @Nat.xor_mod_two_pow n 1 1
    rw [Nat.pow_one] at this
    rw [this]
    rcases Nat.mod_two_eq_zero_or_one n with h | h <;> rw [h]
    · show 1 = _; omega
    · show 0 = _; omega
  split <;> omega
theorem xor1 (i : Int) (h0 : 0 ≤ i) (h1 : i ≤ 9223372036854775806) : bitop .xor .i64 i 1 = if i % 2 = 0 then i + 1 else i - 1 := by
  obtain ⟨n, rfl⟩ : ∃ n : Nat, i = n := ⟨i.toNat, by omega⟩
  have e1 : (BitVec.ofInt IntKind.i64.bits (n : Int) ^^^ BitVec.ofInt IntKind.i64.bits 1).toNat = n ^^^ 1 := by
    rw [BitVec.toNat_xor]
    have a1 : (BitVec.ofInt IntKind.i64.bits (n : Int)).toNat = n := by
      show (BitVec.ofInt 64 (n : Int)).toNat = n
      rw [BitVec.toNat_ofInt]
      omega
    have a2 : (BitVec.ofInt IntKind.i64.bits (1 : Int)).toNat = 1 := rfl
    rw [a1, a2]
  have e2 : bitop .xor .i64 (n : Int) 1 = ((n ^^^ 1 : Nat) : Int) := by
    show IntKind.i64.wrap ((BitVec.ofInt IntKind.i64.bits (n : Int) ^^^ BitVec.ofInt IntKind.i64.bits 1).toNat : Int) = _
    rw [e1]
    refine wi64 ?_
    rw [nat_xor1]
    split <;> omega
  rw [e2, nat_xor1]
  split <;> split <;> omega
theorem xor1_nn (i : Int) (h0 : 0 ≤ i) (h1 : i ≤ 9223372036854775806) : 0 ≤ bitop .xor .i64 i 1 := by
  rw [xor1 i h0 h1]
  split <;> omega
def leafH (h : H) : H := ofH ⟨#[108, 101, 97, 102]⟩ [h.1]
def pairH (a b : H) : H := ofH ⟨#[112, 97, 105, 114]⟩ [a.1, b.1]
def rootH (n : Int) (top : H) : H := ofH ⟨#[114, 111, 111, 116]⟩ [eightF n 8 0 (zb 8), top.1]
def noneH : H := ofH ⟨#[110, 111, 110, 101]⟩ []
/-- A row's parents. -/
def upL : List H → List H
  | a :: b :: t => pairH a b :: upL t
  | l => l
theorem upL_short (l : List H) (h : l.length ≤ 1) : upL l = l := by
  match l, h with
  | [], _ => simp [upL]
  | [a], _ => simp [upL]
theorem upL_length : ∀ l : List H, (upL l).length = (l.length + 1) / 2
  | [] => by simp [upL]
  | [a] => by simp [upL]
  | a :: b :: t => by
    rw [upL, List.length_cons, upL_length t]
    simp only [List.length_cons]
    omega
theorem upL_step (l : List H) (i : Int) (h0 : 0 ≤ i) (h1 : 2 * i + 1 < l.length) : upL (l.drop (2 * i).toNat) = pairH (hat l (2 * i)) (hat l (2 * i + 1)) :: upL (l.drop (2 * (i + 1)).toNat) := by
  obtain ⟨k, rfl⟩ : ∃ k : Nat, i = k := ⟨i.toNat, by omega⟩
  have e1 : (2 * (k : Int)).toNat = 2 * k := by omega
  have e2 : (2 * (k : Int) + 1).toNat = 2 * k + 1 := by omega
  have e3 : (2 * ((k : Int) + 1)).toNat = 2 * k + 1 + 1 := by omega
  simp only [hat, e1, e2, e3]
  rw [List.drop_eq_getElem_cons (by omega), List.drop_eq_getElem_cons (by omega), upL]
  simp [List.getElem?_eq_getElem, show 2 * k < l.length by omega, show 2 * k + 1 < l.length by omega]
/-- The one at the top. -/
def topL (r : List H) : H := if h : r.length ≤ 1 then hat r 0 else topL (upL r)
termination_by r.length
decreasing_by rw [upL_length]; omega
theorem topL_one (r : List H) (h : r.length ≤ 1) : topL r = hat r 0 := by rw [topL, dif_pos h]
theorem topL_up (r : List H) (h : 1 < r.length) : topL (upL r) = topL r := by rw [topL.eq_1 r, dif_neg (by omega)]
def topH (l : List H) : H := if l.length = 0 then noneH else topL (l.map leafH)
/-- The other one's place, and the ones beside the way up. -/
def oth (i : Int) : Int := bitop .xor .i64 i 1
def besL (i : Int) (r : List H) : List H := if oth i < r.length then [hat r (oth i)] else []
def proofL (i : Int) (r : List H) : List H := if h : r.length ≤ 1 then [] else besL i r ++ proofL (i / 2) (upL r)
termination_by r.length
decreasing_by rw [upL_length]; omega
theorem proofL_one (i : Int) (r : List H) (h : r.length ≤ 1) : proofL i r = [] := by rw [proofL, dif_pos h]
theorem proofL_up (i : Int) (r : List H) (h : 1 < r.length) : proofL i r = besL i r ++ proofL (i / 2) (upL r) := by rw [proofL.eq_1 i r, dif_neg (by omega)]
attribute [local irreducible] ofH sumH eightF
end Go.Proofs.Ytjlbkbfnmcppeaa.Sl

/-
  The law mintagetop.TopRooted returns true for every list of hashes and every two bytes, and what it was given reads behind the call as it read before: no condition.
-/
import Derived.Test.YtjlbkbfnmcppeaaV7
import Derived.Test.YtjlbkbfnmcppeaaRows
import Derived.WalkKit
import Derived.ProofKit
import Derived.OpenShut
import Derived.ShutString
import Derived.ChangeOld
import Derived.Below
import Derived.Deep.Slices
namespace Go.Proofs.Ytjlbkbfnmcppeaa
open Go.ChangeShapes Go.WideShapes Go.ChangeAt Go.RowKit Go.Deep
set_option linter.unusedVariables false
theorem own : ownKnob Try.prog.godebug = none := by kernel_rfl
theorem laidOut : laidOutB Try.prog = true := by kernel_rfl
/-- Thirty-two cells that read as bytes are a hash. -/
theorem hash_of {K : Type} {enc : TypeId × Value → K} {W : World} {n : Nat} {cs : List Value} {x : DataW K × List MemPlace} (h : DataW.trod enc Try.prog W 0 (fun _ => true) true n 26 cs = some x) : ∃ y : Sl.H, cs = (Sl.hv y).toList := by
  obtain ⟨xs, m, rfl, rfl, hl, hx, hi⟩ := DataW.trod_array Try.underlying26 h
  have c1 : Try.prog.cellsOf 5 = 1 := by kernel_rfl
  have c32 : Try.prog.cellsOf 26 = 32 := by kernel_rfl
  rw [c32] at hl
  have hb : ∀ i, i < 32 → ∃ b : UInt8, cs[i]? = some (.int .u8 (b.toNat : Int)) := by
    intro i hi32
    have h1 := hi i hi32
    rw [c1, Nat.mul_one, List.getElem?_eq_getElem (by omega)] at h1
    obtain ⟨v, h2, _, hw⟩ := DataW.trod_int Try.underlying5 h1
    obtain ⟨b1, b2⟩ := bounds_u8 hw
    refine ⟨UInt8.ofNat v.toNat, ?_⟩
    have h3 : (cs.drop i)[0]? = some (.int .u8 v) := by
      have : ((cs.drop i).take 1)[0]? = some (.int .u8 v) := by rw [h2]; rfl
      rwa [List.getElem?_take, if_pos (by decide)] at this
    rw [List.getElem?_drop, Nat.add_zero] at h3
    rw [h3]
    have : (UInt8.ofNat v.toNat).toNat = v.toNat := by
      rw [UInt8.toNat_ofNat']
      omega
    rw [this]
    congr 2
    omega
  obtain ⟨f, hf⟩ := choose_lt (α := UInt8) (n := 32) hb
  refine ⟨⟨⟨((List.range 32).map f).toArray⟩, by simp [ByteArray.size]⟩, ?_⟩
  apply List.ext_getElem?
  intro i
  show cs[i]? = (Sl.bv ⟨((List.range 32).map f).toArray⟩).toList[i]?
  by_cases hi' : i < 32
  · rw [hf i hi', Array.getElem?_toList, Sl.bv_get]
    simp [hi']
  · rw [List.getElem?_eq_none (by omega), List.getElem?_eq_none (by simp [Sl.bv]; omega)]
/-- A list of hashes that came in. -/
theorem hashes_in {K : Type} {enc : TypeId × Value → K} {W : World} {n : Nat} {a0 : Option Addr} {len cap : Nat} {x : DataW K × List MemPlace} (h : DataW.trod enc Try.prog W 0 (fun _ => true) true n 22 [.slice a0 len cap] = some x) : ∃ l : List Sl.H, Sl.Has W (Sl.slc (Sl.pur Sl.hv) 32) (.slice a0 len cap) l := by
  have c32 : Try.prog.cellsOf 26 = 32 := by kernel_rfl
  rcases open_slice Try.underlying22 h with ⟨hcs, _⟩ | ⟨a, len', cap', m, n', D, Pl, hcs, _, hl, hm, hmm, _, hx⟩
  · simp at hcs
    obtain ⟨rfl, rfl, rfl⟩ := hcs
    exact ⟨[], Sl.Has.nil⟩
  · simp at hcs
    obtain ⟨rfl, rfl, rfl⟩ := hcs
    have hlm : len ≤ m := by rw [hmm, if_pos rfl]; exact hl
    rw [c32] at hx
    have hel : ∀ i, i < len → ∃ y : Sl.H, Sl.cellsAt W (a.add (i * 32)) (Sl.hv y) ∧ a.block < W.heap.size := by
      intro i hi
      obtain ⟨cs', h1, h2⟩ := hx i (by omega)
      obtain ⟨y, rfl⟩ := hash_of h2
      obtain ⟨_, h3, h4⟩ := World.cells?_some h1
      refine ⟨y, fun j hj => ?_, ?_⟩
      · rw [h4 j (by rw [Sl.hv_size] at hj; exact hj)]
        simp
      · have h5 := h4 0 (by decide)
        rw [Array.getElem?_toList, Array.getElem?_eq_getElem (by rw [Sl.hv_size]; decide)] at h5
        rcases Nat.lt_or_ge a.block W.heap.size with h | h
        · exact h
        · exfalso
          have hnone : W.heap[((a.add (i * 32)).add 0).block]? = none := by
            rw [Sl.add_block, Sl.add_block]
            exact Array.getElem?_eq_none h
          unfold World.cell? at h5
          simp [hnone] at h5
    obtain ⟨f, hf⟩ := choose_lt (α := Sl.H) (n := len) hel
    refine ⟨(List.range len).map f, some a, len, cap, rfl, by simp, hl, hm, fun hp => ⟨a, rfl, (hf 0 hp).2, fun i y hy => ?_⟩⟩
    have hi : i < len := by
      rcases Nat.lt_or_ge i len with h | h
      · exact h
      · rw [List.getElem?_eq_none (by simpa using h)] at hy; cases hy
    simp [hi] at hy
    subst hy
    exact ⟨Sl.hv (f i), Sl.hv_size _, (hf i hi).1, rfl⟩
set_option maxRecDepth 100000 in
theorem lifted (os : Os) (started : os.Started) (H : Type) (enc : TypeId × Value → H) :
    ReturnsInHanded {} Try.checked os 3 .any (Rows.topRootedSpec.pre6 enc Try.prog Try.f3 Rows.topRootedRow.domain false) (Rows.topRootedSpec.post enc Try.prog Try.f3 false true false false) := by
  refine returnsInHanded_of_change (C := Try.checked) own started (by kernel_rfl) Try.func3
    (ChangeSpec.witness6 (enc := enc) (C := Try.checked) false ⟨#[], #[.slice none 0 0, .int .u8 0, .int .u8 0], []⟩ 8 (by kernel_rfl) (by kernel_rfl) (by kernel_rfl) (by kernel_rfl)) ?_
  intro W base args ds gs before hval0 hW hcnd _
  have hval : ∀ (j : Nat) t v, Try.f3.params[j]? = some t → args[j]? = some v → Value.okWide Try.prog W .any base t v := hval0
  have hW' := hW
  obtain ⟨p, q, hA0, hV, rfl, hfz, hnd⟩ := hW
  have hA : DataW.TrodAll enc Try.prog W 0 (fun _ => true) true Try.f3.params.toList args.toList ds p := hA0
  rw [Try.params3] at hA hval
  obtain ⟨v0, vs0, d0, ds0, p0, q0, hargs, rfl, rfl, h0, r0⟩ := trodAll_cons hA
  obtain ⟨v1, vs1, d1, ds1, p1, q1, rfl, rfl, rfl, h1, r1⟩ := trodAll_cons r0
  obtain ⟨v2, vs2, d2, ds2, p2, q2, rfl, rfl, rfl, h2, r2⟩ := trodAll_cons r1
  obtain ⟨rfl, rfl, rfl⟩ := trodAll_nil r2
  obtain rfl : args = #[v0, v1, v2] := by cases args; simp_all
  obtain ⟨rfl, rfl⟩ := trodVars_none hV
  obtain ⟨a0, len0, cap0, rfl⟩ := okWide_slice Try.underlying22 (hval 0 22 v0 rfl rfl)
  have k0 := h0
  have lt0 : ∀ x ∈ p0, x.block < W.heap.size := by obtain ⟨m, hm⟩ := k0; exact DataW.trod_lt m _ _ _ hm
  obtain ⟨l, hl⟩ : ∃ l, Sl.Has W (Sl.slc (Sl.pur Sl.hv) 32) (.slice a0 len0 cap0) l := by
    obtain ⟨fuel, hf⟩ := h0
    exact hashes_in hf
  obtain ⟨a1, rfl, rfl, rfl, w1⟩ := open_int Try.underlying5 (hval 1 5 v1 rfl rfl) h1
  obtain ⟨a2, rfl, rfl, rfl, w2⟩ := open_int Try.underlying5 (hval 2 5 v2 rfl rfl) h2
  clear hA0 hval0
  obtain ⟨hlen, _, _⟩ := hl.len
  subst hlen
  refine (Sl.TopRooted_c W l a1 a2 (bounds_u8 w1) (bounds_u8 w2) hl).mono fun e W' ⟨he, bel⟩ => ?_
  subst he
  exact ⟨_, rfl, _, _, _, [], _, [], hW', trodAll_mk1 (shut_bool Try.underlying4 _), (trodAll_cons_mk (Below.trod laidOut (by kernel_rfl) (of_decide_eq_true (by kernel_rfl)) k0 bel lt0) (trodAll_cons_mk (shut_int Try.underlying5 w1) (trodAll_cons_mk (shut_int Try.underlying5 w2) trodAll_mk0))), rfl, bel.frame _, fun h => by cases h⟩
theorem over : Rows.topRootedRow.holds Try.pinned (OpenSpec.ofChange Rows.topRootedSpec) :=
  OpenClaim.holds_of_wide 3 Try.f3 rfl rfl rfl rfl rfl rfl rfl ⟨rfl, rfl, rfl, rfl, rfl⟩ rfl rfl rfl rfl rfl (by kernel_rfl) Try.func3 (by kernel_rfl)
    (of_decide_eq_true (by kernel_rfl)) (by unfold Func.isWrapper; first | (rw [if_pos (by decide +kernel)]; kernel_rfl) | (rw [if_neg (by decide +kernel)]; exact ⟨rfl, rfl⟩))
    (fun os started H enc _ => lifted os started H enc)
/-- The statement. -/
theorem topRooted_proved : Rows.TopRootedSaid := over
#print axioms topRooted_proved
end Go.Proofs.Ytjlbkbfnmcppeaa

/-
  More rules for slices: made, cut, appended to with room, written through.
-/
import Derived.Test.YtjlbkbfnmcppeaaSl
import Derived.Deep.DeepAppendRoom
import Derived.Laws.OwnMore
import Derived.Laws.IdiomStrings
set_option linter.unusedSimpArgs false
set_option linter.unusedVariables false
namespace Go.Proofs.Ytjlbkbfnmcppeaa.Sl
open Go Go.RowKit
/-- Where a slice begins that is cut out of another one. -/
def sloA (A : Option Addr) (c a size : Nat) : Option Addr := if c = a then A else A.map (·.add (a * size))
theorem Has.drop {α : Type} {w : World} {rp : Rp α} {size n c : Nat} {A : Option Addr} {xs : List α} (h : Has w (slc rp size) (.slice A n c) xs) (a : Nat) (ha : a ≤ n) : Has w (slc rp size) (.slice (sloA A c a size) (n - a) (c - a)) (xs.drop a) := by
  obtain ⟨hl, hnc, hcm⟩ := h.len
  refine ⟨_, _, _, rfl, by rw [List.length_drop, hl], by omega, by omega, fun hp => ?_⟩
  obtain ⟨ad, rfl⟩ := h.some (by omega)
  have hs : sloA (Option.some ad) c a size = Option.some (ad.add (a * size)) := by rw [sloA, if_neg (by omega)]; rfl
  obtain ⟨ad', h1, h2, _⟩ := h.addr (List.getElem?_eq_getElem (show 0 < xs.length by omega))
  injection h1 with h1
  subst h1
  refine ⟨_, hs, by rw [add_block]; exact h2, fun i x hx => ?_⟩
  rw [List.getElem?_drop] at hx
  obtain ⟨ad', h1, _, row, h3, h4, h5⟩ := h.addr hx
  injection h1 with h1
  subst h1
  exact ⟨row, h3, by rw [add_add', ← Nat.add_mul]; exact h4, h5⟩
theorem Has.take {α : Type} {w : World} {rp : Rp α} {size n c : Nat} {A : Option Addr} {xs : List α} (h : Has w (slc rp size) (.slice A n c) xs) (a : Nat) (ha : a ≤ n) : Has w (slc rp size) (.slice A a c) (xs.take a) := by
  obtain ⟨hl, hnc, hcm⟩ := h.len
  refine ⟨_, _, _, rfl, by rw [List.length_take]; omega, by omega, by omega, fun hp => ?_⟩
  obtain ⟨ad, rfl⟩ := h.some (by omega)
  obtain ⟨ad', h1, h2, _⟩ := h.addr (List.getElem?_eq_getElem (show 0 < xs.length by omega))
  injection h1 with h1
  subst h1
  refine ⟨_, rfl, h2, fun i x hx => ?_⟩
  have hi : i < a := by
    rcases Nat.lt_or_ge i a with h | h
    · exact h
    · rw [List.getElem?_eq_none (by rw [List.length_take]; omega)] at hx; cases hx
  rw [List.getElem?_take, if_pos hi] at hx
  obtain ⟨ad', h1, _, row, h3, h4, h5⟩ := h.addr hx
  injection h1 with h1
  subst h1
  exact ⟨row, h3, h4, h5⟩
theorem SL.say' {w0 w : World} {L L' : List Chk} {c c' : Chk} (S : SL w0 L w) (h : At c c' L L') (hi : ∀ F, c.P F w → c'.P F w) : SL w0 L' w :=
  S.turn h rfl rfl rfl (Nat.le_refl _) fun F' hF' hc' => ⟨⟨F', fun b hb => .inl hb, hi F' hc'⟩, fun b hb hnb => rfl⟩
section
variable {P : Program} {ρ : Operand → Value} {w : World} {d : Option Nat} {ty : TypeId} {pos : String} {after : Array Edge} {g : Option (Nat × Bool)}
theorem x_mkFunc {fn : Fn} {a b : Array Operand} {va vb : Array Value} (ha : a.map ρ = va) (hb : b.map ρ = vb) : (execOp ρ ⟨d, .makeFunc fn a b, ty, pos, after, g⟩).run P w = .ok (.value (.func fn va vb)) w := by
  subst ha hb
  exact x_makeFunc
theorem x_slice_lo {T E n c sz : Nat} {A : Option Addr} {x y : Operand} {k : IntKind} {a : Int} (hx : ρ x = .slice A n c) (hy : ρ y = .int k a) (hu : P.underlying T = some (.slice E)) (hs : (P.info? E).map (·.size) = some sz) (h0 : 0 ≤ a) (h1 : a ≤ n) :
    (execOp ρ ⟨d, .slice T x (some y) none none, ty, pos, after, g⟩).run P w = .ok (.value (.slice (sloA A c a.toNat sz) (n - a.toNat) (c - a.toNat))) w := by
  refine lift_v ?_
  obtain ⟨ti, hq, hz⟩ := size_of hs
  simp [hx, hy, Instr.slice, Instr.sliceAt, run_underlying hu, Instr.sliceBounds, Instr.sliceBound, asIntOf, h0, h1, sizeOf, typeInfo, hq, hz, sloA]
theorem x_slice_hi {T E n c sz : Nat} {A : Option Addr} {x y : Operand} {k : IntKind} {a : Int} (hx : ρ x = .slice A n c) (hy : ρ y = .int k a) (hu : P.underlying T = some (.slice E)) (hs : (P.info? E).map (·.size) = some sz) (h0 : 0 ≤ a) (h1 : a ≤ n) (h2 : n ≤ c) :
    (execOp ρ ⟨d, .slice T x none (some y) none, ty, pos, after, g⟩).run P w = .ok (.value (.slice A a.toNat c)) w := by
  refine lift_v ?_
  obtain ⟨ti, hq, hz⟩ := size_of hs
  have h3 : a ≤ c := by omega
  have hA : (A.map fun x => x.add 0) = A := by cases A <;> simp [Addr.add]
  simp [hx, hy, Instr.slice, Instr.sliceAt, run_underlying hu, Instr.sliceBounds, Instr.sliceBound, asIntOf, h0, h3, sizeOf, typeInfo, hq, hz, hA]
theorem x_slice_same {T E n c sz : Nat} {A : Option Addr} {x y z : Operand} {k k' : IntKind} {a b : Int} (hx : ρ x = .slice A n c) (hy : ρ y = .int k a) (hz' : ρ z = .int k' b) (hu : P.underlying T = some (.slice E)) (hs : (P.info? E).map (·.size) = some sz) (h0 : a = n) (h1 : b = c) (h2 : n ≤ c) :
    (execOp ρ ⟨d, .slice T x none (some y) (some z), ty, pos, after, g⟩).run P w = .ok (.value (.slice A n c)) w := by
  refine lift_v ?_
  obtain ⟨ti, hq, hz⟩ := size_of hs
  subst h0 h1
  have h3 : (n : Int) ≤ c := by omega
  have hA : (A.map fun x => x.add 0) = A := by cases A <;> simp [Addr.add]
  simp [hx, hy, hz', Instr.slice, Instr.sliceAt, run_underlying hu, Instr.sliceBounds, Instr.sliceBound, asIntOf, h2, h3, sizeOf, typeInfo, hq, hz, hA]
end
theorem flat_set {α : Type} {enc : α → Array Value} {size : Nat} (hs : ∀ x, (enc x).size = size) : ∀ (xs : List α) (i : Nat) (x : α), i < xs.length →
    ((xs.set i x).flatMap fun x => (enc x).toList) = (xs.flatMap fun x => (enc x).toList).take (i * size) ++ (enc x).toList ++ (xs.flatMap fun x => (enc x).toList).drop (i * size + size)
  | [], i, x, h => by simp at h
  | y :: ys, 0, x, _ => by
    have : (enc y).toList.length = size := by rw [Array.length_toList, hs]
    rw [List.set_cons_zero, List.flatMap_cons, List.flatMap_cons, Nat.zero_mul, Nat.zero_add, List.take_zero, List.nil_append, ← this, List.drop_left]
  | y :: ys, i + 1, x, h => by
    have hy : (enc y).toList.length = size := by rw [Array.length_toList, hs]
    have ih := flat_set hs ys i x (by simpa using h)
    rw [List.set_cons_succ, List.flatMap_cons, List.flatMap_cons, ih, Nat.succ_mul, List.take_append, List.drop_append, hy]
    rw [show i * size + size - size = i * size by omega, show i * size + size + size - size = i * size + size by omega]
    have e1 : (enc y).toList.take (i * size + size) = (enc y).toList := List.take_of_length_le (by rw [hy]; omega)
    have e2 : (enc y).toList.drop (i * size + size + size) = [] := List.drop_of_length_le (by rw [hy]; omega)
    rw [e1, e2]
    simp [List.append_assoc]
theorem take_splice {β : Type} (l m : List β) (a s n : Nat) (h1 : a + s ≤ n) (h2 : n ≤ l.length) (hm : m.length = s) :
    (l.take a ++ m ++ l.drop (a + s)).take n = (l.take n).take a ++ m ++ (l.take n).drop (a + s) := by
  have ha : (l.take a).length = a := by rw [List.length_take]; omega
  have hl : (l.take a ++ m).length = a + s := by rw [List.length_append, ha, hm]
  rw [List.take_append, List.take_of_length_le (by rw [hl]; exact h1), hl, List.take_take, Nat.min_eq_left (by omega), List.drop_take]
section
variable {P : Program} {n : Nat} {Q : QE} {e : Env} {w w0 : World} {ops : Array Oper} {K : Env → World → Prop} {L L' : List Chk}
variable {dd : Option Nat} {ty : TypeId} {pos : String} {after : Array Edge} {g : Option (Nat × Bool)} {d : Nat}
theorem SL.push_own {α : Type} {enc : α → Array Value} {E size : Nat} {w' : World} {v : Value} {xs : List α} (S : SL w0 L w) (hg : w.grownBy w' none) (hown : w'.ownsRow 0 E size v xs.length (xs.flatMap fun x => (enc x).toList)) (hb : v.ownBlock = some w.heap.size) : SL w0 (own enc E size v xs :: L) w' := by
  have hlt : w.heap.size < w'.heap.size := by
    rcases hown.2 with ⟨h2, _⟩ | ⟨gg, cap, cur, h2, _, h3, _⟩
    · rw [h2] at hb; simp [Value.ownBlock] at hb
    · rw [h2] at hb
      simp [Value.ownBlock] at hb
      subst hb
      exact (Array.getElem?_eq_some_iff.1 h3).1
  refine S.push ⟨hg.os, hg.tape, hg.output, hg.size, fun k hk => hg.block k hk (by simp)⟩ ⟨hown, fun k hk => ?_⟩
  rw [hb] at hk
  injection hk with hk
  omega
theorem WO_make {α : Type} {enc : α → Array Value} {E size bytes : Nat} {x y : Operand} {T : Nat} {kl kc : IntKind} {c : Int} {z : Value} (S : SL w0 L w)
    (hon : wantedE ops e ⟨some d, .makeSlice T x y, ty, pos, after, g⟩ = true) (hdn : d < n) (hx : ev e x = .int kl 0) (hy : ev e y = .int kc c) (h0 : 0 ≤ c)
    (hu : P.underlying T = some (.slice E)) (hi : TI P E z size bytes) (hby : bytes * c ≤ 281474976710656) (hm : c ≤ 9223372036854775807)
    (hk : ∀ gb w', SL w0 (own enc E size (.slice (some ⟨gb, 0, none⟩) 0 c.toNat) [] :: L) w' → K (upd e d (.slice (some ⟨gb, 0, none⟩) 0 c.toNat)) w') :
    WO P n ops ⟨some d, .makeSlice T x y, ty, pos, after, g⟩ K e w := by
  obtain ⟨ti, hq, hz, hs, rfl⟩ := hi.ex
  obtain ⟨m, rfl⟩ : ∃ m : Nat, c = m := ⟨c.toNat, by omega⟩
  have hb' : ti.bytes * m ≤ 281474976710656 := by
    have : ((ti.bytes * m : Nat) : Int) ≤ 281474976710656 := by rw [Int.natCast_mul]; exact hby
    omega
  obtain ⟨w', hr, hown, hgr⟩ := run_make_own (P := P) w 0 T E ti z size hu hq hz hs kl kc m hb' (by simp only [maxLen]; omega) (Nat.zero_le _)
  refine WO_val hon rfl hdn (w' := w') (v := .slice (some ⟨w.heap.size, 0, none⟩) 0 (m : Int).toNat) (by rw [show execOp (ev e) ⟨some d, .makeSlice T x y, ty, pos, after, g⟩ = (do pure (Next.value (← Instr.makeSlice T (ev e x) (ev e y))) : Sem Next) from rfl]; exact lift_v (by rw [hx, hy]; exact hr)) (hk _ _ ?_)
  exact S.push_own hgr hown rfl
/-- A made slice of zeros. -/
theorem WO_make_full {α : Type} {enc : α → Array Value} {E size bytes : Nat} {x y : Operand} {T : Nat} {kl kc : IntKind} {c c' : Int} {z : Value} {x0 : α} (S : SL w0 L w)
    (hon : wantedE ops e ⟨some d, .makeSlice T x y, ty, pos, after, g⟩ = true) (hdn : d < n) (hx : ev e x = .int kl c) (hy : ev e y = .int kc c') (hc : c' = c) (h0 : 0 ≤ c) (hsz : 0 < size) (he : enc x0 = z.cells) (hzs : (enc x0).size = size)
    (hu : P.underlying T = some (.slice E)) (hi : TI P E z size bytes) (hby : bytes * c ≤ 281474976710656) (hm : c ≤ 9223372036854775807)
    (hk : ∀ gb w', SL w0 (own enc E size (.slice (some ⟨gb, 0, none⟩) c.toNat c.toNat) (List.replicate c.toNat x0) :: L) w' → K (upd e d (.slice (some ⟨gb, 0, none⟩) c.toNat c.toNat)) w') :
    WO P n ops ⟨some d, .makeSlice T x y, ty, pos, after, g⟩ K e w := by
  obtain ⟨ti, hq, hz, hs, rfl⟩ := hi.ex
  subst hc
  obtain ⟨m, rfl⟩ : ∃ m : Nat, c' = m := ⟨c'.toNat, by omega⟩
  have hb' : ti.bytes * m ≤ 281474976710656 := by
    have : ((ti.bytes * m : Nat) : Int) ≤ 281474976710656 := by rw [Int.natCast_mul]; exact hby
    omega
  obtain ⟨w', hr, hown, hgr⟩ := run_make_full (P := P) w 0 T E ti z size hu hq hz hs kl kc m hb' (by simp only [maxLen]; omega) (Nat.zero_le _)
  have hcells : (madeCells z.cells (m * size)).toList = (List.replicate m x0).flatMap fun x => (enc x).toList := by
    have hzs' : z.cells.size = size := by rw [← he]; exact hzs
    have hlr : ((List.replicate m x0).flatMap fun x => (enc x).toList).length = m * size := by
      clear hr hown hgr hby hm h0 hx hy hb' hk
      induction m with
      | zero => simp
      | succ m ih => rw [List.replicate_succ, List.flatMap_cons, List.length_append, ih, Array.length_toList, hzs, Nat.succ_mul, Nat.add_comm]
    apply List.ext_getElem?
    intro j
    by_cases hj : j < m * size
    · have hdiv : j / size < m := Nat.div_lt_of_lt_mul (by rw [Nat.mul_comm]; exact hj)
      have hmod : j % size < size := Nat.mod_lt _ hsz
      have hj2 : j = j / size * size + j % size := by rw [Nat.mul_comm]; exact (Nat.div_add_mod j size).symm
      have hright : ((List.replicate m x0).flatMap fun x => (enc x).toList)[j]? = (enc x0)[j % size]? := by
        have key : ∀ (m q r : Nat), q < m → r < size → ((List.replicate m x0).flatMap fun x => (enc x).toList)[q * size + r]? = (enc x0)[r]? := by
          intro m
          induction m with
          | zero => intro q r hq _; omega
          | succ m ih =>
            intro q r hq hr'
            rw [List.replicate_succ, List.flatMap_cons]
            cases q with
            | zero =>
              rw [Nat.zero_mul, Nat.zero_add, List.getElem?_append_left (by rw [Array.length_toList, hzs]; exact hr')]
              simp
            | succ q =>
              rw [List.getElem?_append_right (by rw [Array.length_toList, hzs, Nat.succ_mul]; omega), Array.length_toList, hzs, show (q + 1) * size + r - size = q * size + r by rw [Nat.succ_mul]; omega]
              exact ih q r (by omega) hr'
        have := key m (j / size) (j % size) hdiv hmod
        rw [← hj2] at this
        exact this
      rw [hright, he]
      simp [madeCells, hj, hzs']
      rw [Array.getElem?_eq_getElem (by rw [hzs']; exact hmod)]
      simp [hzs', hmod]
    · rw [List.getElem?_eq_none (by simp [madeCells]; omega), List.getElem?_eq_none (by rw [hlr]; omega)]
  refine WO_val hon rfl hdn (w' := w') (v := .slice (some ⟨w.heap.size, 0, none⟩) (m : Int).toNat (m : Int).toNat) (by rw [show execOp (ev e) ⟨some d, .makeSlice T x y, ty, pos, after, g⟩ = (do pure (Next.value (← Instr.makeSlice T (ev e x) (ev e y))) : Sem Next) from rfl]; exact lift_v (by rw [hx, hy]; exact hr)) (hk _ _ ?_)
  refine S.push_own hgr ?_ rfl
  simp only [Int.toNat_natCast, List.length_replicate]
  rw [← hcells]
  exact hown
/-- An append that finds room. -/
theorem WO_append_room {α : Type} {enc : α → Array Value} {E size : Nat} {xs : List α} {x y : Operand} {T c m cy gb k : Nat} {B : Option Addr} {ys : List α} {bytes : Nat} {z : Value} (S : SL w0 L w)
    (hon : wantedE ops e ⟨some d, .call { callee := .builtin .append, args := #[x, y], argTypes := #[T, T] }, ty, pos, after, g⟩ = true) (hdn : d < n) (hx : ev e x = .slice (some ⟨gb, 0, none⟩) k c) (hy : ev e y = .slice B m cy) (hkl : k = xs.length)
    (hat : At (own enc E size (.slice (some ⟨gb, 0, none⟩) k c) xs) (own enc E size (.slice (some ⟨gb, 0, none⟩) (k + ys.length) c) (xs ++ ys)) L L') (hsrc : Has w (slc (pur enc) size) (.slice B m cy) ys)
    (hu : P.underlying T = some (.slice E)) (hi : TI P E z size bytes) (hsz : 0 < size) (henc : ∀ x, (enc x).size = size) (h1 : ∀ x, ∀ u ∈ (enc x).toList, u.oneCell' = true)
    (hroom : k + ys.length ≤ c)
    (hk : ∀ w', SL w0 L' w' → K (upd e d (.slice (some ⟨gb, 0, none⟩) (k + ys.length) c)) w') :
    WO P n ops ⟨some d, .call { callee := .builtin .append, args := #[x, y], argTypes := #[T, T] }, ty, pos, after, g⟩ K e w := by
  obtain ⟨ti, hq, hz, hs, rfl⟩ := hi.ex
  subst hkl
  obtain ⟨F, hF, hown, hob⟩ := S.get hat
  obtain ⟨hm, hmc, hcm⟩ := hsrc.len
  subst hm
  have hrun : ∃ w', (Builtin.append_ #[T, T] ty #[.slice (some ⟨gb, 0, none⟩) xs.length c, .slice B ys.length cy]).run P w = .ok (.slice (some ⟨gb, 0, none⟩) (xs.length + ys.length) c) w' ∧
      w'.ownsRow 0 E size (.slice (some ⟨gb, 0, none⟩) (xs.length + ys.length) c) (xs.length + ys.length) ((xs.flatMap fun x => (enc x).toList) ++ (ys.flatMap fun x => (enc x).toList)) ∧ w.grownBy w' (some gb) := by
    rcases Nat.eq_zero_or_pos ys.length with h0 | hpos
    · have hys : ys = [] := List.eq_nil_of_length_eq_zero h0
      subst hys
      refine ⟨w, ?_, by simpa using hown, World.grownBy.refl _ _⟩
      rcases hown.2 with ⟨h2, _⟩ | ⟨gg, cap, cur, h2, _, hh, hnc, _⟩
      · cases h2
      · cases h2
        cases B with
        | none => simp [Builtin.append_, run_underlying hu, sizeOf, typeInfo, hq, Builtin.lenOf, Builtin.firstCells, hnc, storeCells]
        | some ad =>
          have : (loadCells ad 0).run P w = .ok #[] w := rfl
          simp [Builtin.append_, run_underlying hu, sizeOf, typeInfo, hq, Builtin.lenOf, Builtin.firstCells, hnc, storeCells, this]
    · obtain ⟨ad, rfl⟩ := hsrc.some hpos
      have hcells : ∀ j u, (ys.flatMap fun x => (enc x).toList)[j]? = some u → w.cell? (ad.add j) = some u := by
        intro j u hj
        have hjl : j < ys.length * size := by
          rw [← flat_len henc ys]
          rcases Nat.lt_or_ge j (ys.flatMap fun x => (enc x).toList).length with h | h
          · exact h
          · rw [List.getElem?_eq_none h] at hj; cases hj
        have hi : j / size < ys.length := Nat.div_lt_of_lt_mul (by rw [Nat.mul_comm]; exact hjl)
        have hj2 : j = j / size * size + j % size := by rw [Nat.mul_comm]; exact (Nat.div_add_mod j size).symm
        have hmod : j % size < size := Nat.mod_lt _ hsz
        obtain ⟨ad', h2, _, row, h3, h4, h5⟩ := hsrc.addr (List.getElem?_eq_getElem hi)
        injection h2 with h2
        subst h2
        have h5' : row = enc ys[j / size] := h5
        subst h5'
        have h6 := h4 (j % size) (by rw [h3]; exact hmod)
        rw [add_add', ← hj2] at h6
        rw [h6, ← flat_get henc ys (j / size) _ (List.getElem?_eq_getElem hi) (j % size) hmod, ← hj2]
        exact hj
      exact run_append_own_spare (P := P) w 0 T ty E ti size hu hq hs gb xs.length c _ hown ad ys.length cy _ (flat_len henc ys) hcells (by
        intro u hu'
        rw [List.mem_flatMap] at hu'
        obtain ⟨x, _, hx'⟩ := hu'
        exact h1 x u hx') hroom
  obtain ⟨w', hr, hown', hgr⟩ := hrun
  refine WO_val hon rfl hdn (w' := w') (v := .slice (some ⟨gb, 0, none⟩) (xs.length + ys.length) c) ?_ (hk w' ?_)
  · simp [execOp, resolve, invoke, builtin, hx, hy, Sem.run_bind, hr]
  · refine S.turn hat hgr.os hgr.tape hgr.output hgr.size fun F' hF' hc' => ⟨⟨F', fun b hb => .inl hb, ?_, fun k hk => ?_⟩, fun b hb hnb => ?_⟩
    · rw [List.length_append, List.flatMap_append]
      exact hown'
    · simp only [Value.ownBlock, Option.some.injEq] at hk
      exact hc'.2 k (by simp [Value.ownBlock, hk])
    · refine hgr.block b hb fun h => hnb ?_
      injection h with h
      exact hc'.2 b (by simp [Value.ownBlock, h])
/-- An element of what the call itself fills is written. -/
theorem WO_store_el {α : Type} {enc : α → Array Value} {E size T c k i : Nat} {xs : List α} {x y : Operand} {A : Option Addr} {v : Value} {x1 : α} (S : SL w0 L w)
    (hon : wantedE ops e ⟨none, .store T x y, ty, pos, after, g⟩ = true) (hx : ev e x = eaddr A (i * size)) (hy : ev e y = v) (hv : v.cells = enc x1)
    (hat : At (own enc E size (.slice A k c) xs) (own enc E size (.slice A k c) (xs.set i x1)) L L') (hi : (P.info? T).map (·.size) = some size) (hil : i < xs.length) (hsz : 0 < size) (henc : ∀ x, (enc x).size = size) (h1 : ∀ x, ∀ u ∈ (enc x).toList, u.oneCell' = true)
    (hk : ∀ w', SL w0 L' w' → K e w') : WO P n ops ⟨none, .store T x y, ty, pos, after, g⟩ K e w := by
  obtain ⟨F, hF, hown, hob⟩ := S.get hat
  rcases hown.2 with ⟨h2, h3⟩ | ⟨gg, cap, cur, h2, _, hh, hnc, hcm, hcs, htake⟩
  · omega
  · cases h2
    have hoff : ev e x = .pointer (some ⟨gg, i * size, none⟩) := by
      rw [hx]
      show Value.pointer (some ((⟨gg, 0, none⟩ : Addr).add (i * size))) = _
      rw [Addr.add_lit, Nat.zero_add]
    have hle : i * size + size ≤ xs.length * size := by
      have := Nat.mul_le_mul_right size (show i + 1 ≤ xs.length by omega)
      rw [Nat.succ_mul] at this
      exact this
    have hle2 : xs.length * size ≤ cur.size := by rw [hcs]; exact Nat.mul_le_mul_right size hnc
    refine WO_skip hon rfl (x_store hoff hy hh hi (by rw [hv, henc]) (by omega) (by rw [hv]; exact h1 x1)) (hk _ ?_)
    refine S.turn hat rfl rfl rfl (by simp [World.setRow]) fun F' hF' hc' => ⟨⟨F', fun b hb => .inl hb, ⟨?_, ?_⟩, hc'.2⟩, fun b hb hnb => ?_⟩
    · rw [flat_len henc, List.length_set]
    · refine .inr ⟨gg, c, _, by rw [List.length_set], Nat.zero_le _, setRow_heap w gg cur _ E _ hh, by rw [List.length_set]; exact hnc, hcm, ?_, ?_⟩
      · rw [splice_size _ _ _ (by rw [hv, henc]; omega)]
        exact hcs
      · rw [flat_set henc xs i x1 hil, List.length_set, ← htake, hv]
        have hl : cur.toList.length = cur.size := Array.length_toList
        have he1 : (enc x1).toList.length = size := by rw [Array.length_toList, henc]
        simp only [splice]
        rw [henc]
        exact take_splice _ _ _ _ _ hle (by rw [hl]; exact hle2) he1
    · exact setRow_other w gg b _ fun h => hnb (hc'.2 b (by rw [h]; rfl))
/-- What was filled, cut behind. -/
theorem own_take {α : Type} {enc : α → Array Value} {E size c k h : Nat} {xs : List α} {A : Option Addr} (henc : ∀ x, (enc x).size = size) (hh : h ≤ xs.length) (F : Nat → Prop) (w : World) (hp : (own enc E size (.slice A k c) xs).P F w) : (own enc E size (.slice A h c) (xs.take h)).P F w := by
  obtain ⟨hown, hb⟩ := hp
  rcases hown.2 with ⟨h2, h3⟩ | ⟨gg, cap, cur, h2, h0, hg, hnc, hcm, hcs, htake⟩
  · cases h2
    have hx : xs = [] := List.eq_nil_of_length_eq_zero h3
    subst hx
    have h0 : h = 0 := by simpa using hh
    subst h0
    exact ⟨⟨by simp, .inl ⟨rfl, by simp⟩⟩, fun k hk => by simp [Value.ownBlock] at hk⟩
  · cases h2
    refine ⟨⟨?_, .inr ⟨gg, c, cur, by rw [List.length_take, Nat.min_eq_left hh], h0, hg, by rw [List.length_take]; omega, hcm, hcs, ?_⟩⟩, fun k hk => hb k hk⟩
    · rw [flat_len henc]
    · have key : ∀ (xs : List α) (h : Nat), h ≤ xs.length → ((xs.take h).flatMap fun x => (enc x).toList) = (xs.flatMap fun x => (enc x).toList).take (h * size) := by
        intro xs
        induction xs with
        | nil => intro h hh; simp
        | cons x xs ih =>
          intro h hh
          cases h with
          | zero => simp
          | succ h =>
            have hx : (enc x).toList.length = size := by rw [Array.length_toList, henc]
            have e1 : (enc x).toList.take ((h + 1) * size) = (enc x).toList := List.take_of_length_le (by rw [hx, Nat.succ_mul]; omega)
            rw [List.take_succ_cons, List.flatMap_cons, List.flatMap_cons, ih h (by simpa using hh), List.take_append, e1, hx, show (h + 1) * size - size = h * size by rw [Nat.succ_mul]; omega]
      rw [key xs h hh, ← htake, List.take_take, List.length_take, Nat.min_eq_left hh, Nat.min_eq_left (Nat.mul_le_mul_right _ hh)]
end
theorem has_row1 {α : Type} {enc : α → Array Value} {f : α → Value} (hf : ∀ x, enc x = #[f x]) {w : World} {gb t m : Nat} (xs : List α) (hg : w.heap[gb]? = some (.cells (xs.map f).toArray t (0, 0))) (hm : xs.length = m) (hs : m ≤ 65536) : Has w (slc (pur enc) 1) (.slice (some ⟨gb, 0, none⟩) m m) xs := by
  have hlt : gb < w.heap.size := (Array.getElem?_eq_some_iff.1 hg).1
  refine ⟨_, m, m, rfl, hm, Nat.le_refl _, by simp only [maxLen]; omega, fun _ => ⟨_, rfl, hlt, fun i x hx => ⟨enc x, by rw [hf]; rfl, fun j hj => ?_, rfl⟩⟩⟩
  rw [hf] at hj ⊢
  have hj0 : j = 0 := by simp at hj; exact hj
  subst hj0
  rw [add_add', Addr.add_lit, cell_of_row w gb _ _ _ _ hg]
  simp [hx]
/-- What stands at a place. -/
def hat {α : Type} [Inhabited α] (xs : List α) (i : Int) : α := xs.getD i.toNat default
theorem hat_some {α : Type} [Inhabited α] {xs : List α} {i : Int} (h0 : 0 ≤ i) (h1 : i < xs.length) : xs[i.toNat]? = some (hat xs i) := by
  have h : i.toNat < xs.length := by omega
  simp [hat, h]
instance : Inhabited H := ⟨zeroH⟩
theorem hvsz (h : H) : (hv h).size = 32 := hv_size h
theorem hv_one (h : H) : ∀ u ∈ (hv h).toList, u.oneCell' = true := bv_one h.1
section
variable {P : Program} {ρ : Operand → Value} {w : World} {d : Option Nat} {ty : TypeId} {pos : String} {after : Array Edge} {g : Option (Nat × Bool)}
theorem x_index_blk {T E n c sz gb : Nat} {x y : Operand} {k : IntKind} {i : Int} (hx : ρ x = .slice (some ⟨gb, 0, none⟩) n c) (hy : ρ y = .int k i) (hu : P.underlying T = some (.slice E)) (hs : (P.info? E).map (·.size) = some sz) (h0 : 0 ≤ i) (h1 : i < n) :
    (execOp ρ ⟨d, .indexAddr T x y, ty, pos, after, g⟩).run P w = .ok (.value (.pointer (some ⟨gb, i.toNat * sz, none⟩))) w := by
  have := x_index_slc (P := P) (w := w) (d := d) (ty := ty) (pos := pos) (after := after) (g := g) hx hy hu hs h0 h1 ⟨_, rfl⟩
  rw [this]
  simp [eaddr, Addr.add_lit]
end
section
variable {P : Program} {n : Nat} {Q : QE} {e : Env} {w w0 : World} {ops : Array Oper} {K : Env → World → Prop} {L L' : List Chk}
variable {dd : Option Nat} {ty : TypeId} {pos : String} {after : Array Edge} {g : Option (Nat × Bool)} {d : Nat}
theorem WO_make_bv {E : Nat} {x y : Operand} {T : Nat} {kl kc : IntKind} {m : Nat} (S : SL w0 L w)
    (hon : wantedE ops e ⟨some d, .makeSlice T x y, ty, pos, after, g⟩ = true) (hdn : d < n) (hx : ev e x = .int kl m) (hy : ev e y = .int kc m)
    (hu : P.underlying T = some (.slice E)) (hi : TI P E (.int .u8 0) 1 1) (hm : m ≤ 65536)
    (hk : ∀ gb w', SL w0 (blk gb E (bv (zb m)) :: L) w' → K (upd e d (.slice (some ⟨gb, 0, none⟩) m m)) w') :
    WO P n ops ⟨some d, .makeSlice T x y, ty, pos, after, g⟩ K e w := by
  obtain ⟨ti, hq, hz, hs, hb⟩ := hi.ex
  have hr := run_make (P := P) w T E ti _ hu hq hz kl kc m m (by omega) (by omega) (by rw [hb]; omega) (by omega)
  have hrow : madeCells (Value.int IntKind.u8 0).cells ((m : Int).toNat * ti.size) = bv (zb m) := by
    apply Array.toList_inj.1
    rw [hs, Nat.mul_one, Int.toNat_natCast, show (Value.int IntKind.u8 0).cells = #[.int .u8 0] from rfl, toList_madeCells_one]
    simp [bv, zb]
  rw [hrow] at hr
  refine WO_val hon rfl hdn (w' := w.alloc (.cells (bv (zb m)) E)) (v := .slice (some ⟨w.heap.size, 0, none⟩) m m) (by rw [show execOp (ev e) ⟨some d, .makeSlice T x y, ty, pos, after, g⟩ = (do pure (Next.value (← Instr.makeSlice T (ev e x) (ev e y))) : Sem Next) from rfl]; exact lift_v (by rw [hx, hy]; simpa using hr)) (hk _ _ (S.alloc E _))
theorem Sat.front {w : World} : ∀ (l1 : List Chk) {c : Chk} {l2 : List Chk} {U : Nat → Prop}, Sat w (l1 ++ c :: l2) U → Sat w (c :: (l1 ++ l2)) U
  | [], _, _, _, h => h
  | d :: l1, c, l2, U, ⟨F, a1, a2, a3⟩ => by
    obtain ⟨G, b1, b2, b3⟩ := Sat.front l1 a3
    refine ⟨G, fun b hb => (b1 b hb).1, b2, F, fun b hb => ⟨a1 b hb, fun hg => (b1 b hg).2 hb⟩, a2, Sat.mono ?_ b3⟩
    rintro b ⟨⟨c1, c2⟩, c3⟩
    exact ⟨⟨c1, c3⟩, c2⟩
theorem SL.front (l1 : List Chk) {c : Chk} {l2 : List Chk} (S : SL w0 (l1 ++ c :: l2) w) : SL w0 (c :: (l1 ++ l2)) w := ⟨S.below, Sat.front l1 S.sat⟩
/-- Two things said of the same memory. -/
def both (c c' : Chk) : Chk where
  P F w := c.P F w ∧ c'.P F w
  loc F w w' hk h := ⟨c.loc F w w' hk h.1, c'.loc F w w' hk h.2⟩
theorem SL.both1 {α : Type} {ρ : Rp α} {v : Value} {x : α} {c' : Chk} (S : SL w0 L w) (h : At (both (val ρ v x) c') (both (val ρ v x) c') L L) : Has w ρ v x := by
  obtain ⟨F, h1, h2, _⟩ := S.get h
  exact ρ.mono _ _ _ _ _ (fun b hb => (h1 b hb).2) h2
theorem SL.both2 {α : Type} {ρ : Rp α} {v : Value} {x : α} {c : Chk} (S : SL w0 L w) (h : At (both c (val ρ v x)) (both c (val ρ v x)) L L) : Has w ρ v x := by
  obtain ⟨F, h1, _, h2⟩ := S.get h
  exact ρ.mono _ _ _ _ _ (fun b hb => (h1 b hb).2) h2
theorem SL.unboth {c c' : Chk} (S : SL w0 L w) (h : At (both c c') c L L') : SL w0 L' w := S.say h fun _ _ hp => hp.1
/-- A loaded slice in a slice, which is told on beside it. -/
theorem WO_el_both {β : Type} {rq : Rp β} {sz T m c i : Nat} {A : Option Addr} {o : Operand} {de : TypeDesc} {xss : List (List β)} {ys : List β} {L' : Option Addr → Nat → List Chk} (S : SL w0 L w) (hon : wantedE ops e ⟨some d, .load T o, ty, pos, after, g⟩ = true) (hdn : d < n)
    (hat : ∀ B c', At (val (slc (slc rq sz) 1) (.slice A m c) xss) (both (val (slc (slc rq sz) 1) (.slice A m c) xss) (val (slc rq sz) (.slice B ys.length c') ys)) L (L' B c')) (hx : xss[i]? = some ys) (ho : ev e o = eaddr A (i * 1))
    (hu : P.underlying T = some de) (hd : (match de with | .struct _ | .array _ _ => true | _ => false) = false)
    (hk : ∀ B c', SL w0 (L' B c') w → K (upd e d (.slice B ys.length c')) w) : WO P n ops ⟨some d, .load T o, ty, pos, after, g⟩ K e w := by
  have hself : ∃ M, At (val (slc (slc rq sz) 1) (.slice A m c) xss) (val (slc (slc rq sz) 1) (.slice A m c) xss) L M := by
    have : ∀ {c c' : Chk} {L L' : List Chk}, At c c' L L' → ∃ M, At c c L M := by
      intro c c' L L' h
      induction h with
      | here L => exact ⟨_, .here _⟩
      | there d _ ih => exact ⟨_, .there d ih.choose_spec⟩
    exact this (hat none 0)
  have key : ∃ B c', (∀ F, (val (slc (slc rq sz) 1) (.slice A m c) xss).P F w → (slc rq sz).ok F w #[.slice B ys.length c'] ys) ∧ (execOp (ev e) ⟨some d, .load T o, ty, pos, after, g⟩).run P w = .ok (.value (.slice B ys.length c')) w := by
    obtain ⟨M, hself⟩ := hself
    obtain ⟨F, hF, hp⟩ := S.get hself
    have hil : i < xss.length := by
      rcases Nat.lt_or_ge i xss.length with h | h
      · exact h
      · rw [List.getElem?_eq_none h] at hx; cases hx
    have tell : ∀ F, (val (slc (slc rq sz) 1) (.slice A m c) xss).P F w → ∃ ad, A = some ad ∧ ∃ B c', w.cell? (ad.add (i * 1)) = some (.slice B ys.length c') ∧ (slc rq sz).ok F w #[.slice B ys.length c'] ys := by
      rintro F ⟨A', n', c'', h1, h2, h3, h4, h5⟩
      simp only [Value.cells, Array.mk.injEq, List.cons.injEq, Value.slice.injEq, and_true] at h1
      obtain ⟨rfl, rfl, rfl⟩ := h1
      obtain ⟨ad, h6, h7, h8⟩ := h5 (by omega)
      obtain ⟨row, h9, h10, h11⟩ := h8 i ys hx
      obtain ⟨B, m', c', rfl, rfl, h15, h16, h17⟩ := h11
      refine ⟨ad, h6, B, c', ?_, B, ys.length, c', rfl, rfl, h15, h16, h17⟩
      have := h10 0 (by simp)
      rw [add_add'] at this
      simpa using this
    obtain ⟨ad, rfl, B, c', h1, h2⟩ := tell F hp
    refine ⟨B, c', fun F' hp' => ?_, x_load_cell ho h1 hu hd⟩
    obtain ⟨ad', e1, B', c'', h3, h4⟩ := tell F' hp'
    injection e1 with e1
    subst e1
    rw [h1] at h3
    injection h3 with h3
    injection h3 with h5 h6 h7
    subst h5 h7
    exact h4
  obtain ⟨B, c', hP, hr⟩ := key
  exact WO_val hon rfl hdn hr (hk B c' (S.say' (hat B c') fun F hp => ⟨hp, hP F hp⟩))
end
/-- The bytes of an element. -/
def elS (A : Option Addr) (k : Nat) : Value := match A with
  | some ad => .slice (some (ad.add k)) 32 32
  | none => undef
section
variable {P : Program} {ρ : Operand → Value} {w : World} {d : Option Nat} {ty : TypeId} {pos : String} {after : Array Edge} {g : Option (Nat × Bool)}
theorem x_slice_el {T e k : Nat} {x : Operand} {A : Option Addr} (hx : ρ x = eaddr A k) (hA : ∃ ad, A = some ad) (hu : P.underlying T = some (.array 32 e)) {sz : Nat} (hs : (P.info? e).map (·.size) = some sz) :
    (execOp ρ ⟨d, .slice T x none none none, ty, pos, after, g⟩).run P w = .ok (.value (elS A k)) w := by
  refine lift_v ?_
  obtain ⟨ad, rfl⟩ := hA
  have hx' : ρ x = .pointer (some (ad.add k)) := hx
  have h0 : (ad.add k).add 0 = ad.add k := by rw [add_add', Nat.add_zero]
  cases hq : P.info? e with
  | none => simp [hq] at hs
  | some i =>
  simp [hx', Instr.sliceAt, run_underlying hu, Instr.sureAddr, Instr.sliceBounds, sizeOf, typeInfo, hq, h0, elS]
theorem x_bytes_el {src e dst n c i : Nat} {A : Option Addr} {x : Operand} {xs : List H} {y : H} (h : Has w (slc (pur hv) 32) (.slice A n c) xs) (hy : xs[i]? = some y) (hx : ρ x = elS A (i * 32)) (hs : P.underlying src = some (.slice e)) (he : P.underlying e = some (.int .u8)) (hd : P.underlying dst = some .string) :
    (execOp ρ ⟨d, .convert src dst x, ty, pos, after, g⟩).run P w = .ok (.value (.string y.1)) w := by
  refine lift_v ?_
  obtain ⟨ad, rfl, _, row, h1, h2, rfl⟩ := h.addr hy
  have hl : y.1.data.toList.length = 32 := Array.length_toList.trans y.2
  have := run_convert_bytes_back (P := P) w src dst e (ad.add (i * 32)) 32 y.1.data.toList hs he hd (fun j hj => by
    rw [h2 j (by rw [hv_size]; omega), bv_get]
    have hj' : j < y.1.data.size := by simpa using hj
    simp [hj']
    exact ⟨_, Array.getElem?_eq_getElem hj', rfl⟩)
  rw [hl] at this
  rw [hx]
  show (convert src dst (.slice (some (ad.add (i * 32))) 32 32)).run P w = _
  rw [this]
end
/-- A slice's three words, and its cell. -/
abbrev SV := Option Addr × Nat × Nat
abbrev svV (s : SV) : Value := .slice s.1 s.2.1 s.2.2
def encV (u : SV) : Array Value := #[svV u]
theorem encV_size (u : SV) : (encV u).size = 1 := rfl
theorem encV_one (u : SV) : ∀ x ∈ (encV u).toList, x.oneCell' = true := by
  intro x hx
  simp [encV] at hx
  subst hx
  rfl
/-- What a row of values tells. -/
def vals {α : Type} (ρ : Rp α) (vs : List SV) (xs : List α) : Chk where
  P F w := vs.length = xs.length ∧ ∀ (i : Nat) (u : SV) (x : α), vs[i]? = some u → xs[i]? = some x → ρ.ok F w #[svV u] x
  loc F w w' hk h := ⟨h.1, fun i u x h1 h2 => ρ.loc F w w' _ _ hk (h.2 i u x h1 h2)⟩
section
variable {w w0 : World} {L : List Chk} {α : Type} {ρ : Rp α} {vs : List SV} {xs : List α}
theorem Sat.drop1 {c : Chk} {L : List Chk} {U : Nat → Prop} (h : Sat w (c :: L) U) : Sat w L U := Sat.drop (.here L) h
theorem SL.vals_nil (S : SL w0 L w) (ρ : Rp α) : SL w0 (vals ρ [] [] :: L) w :=
  S.push (Below.refl _ _) ⟨rfl, fun i u x h1 _ => by simp at h1⟩
theorem SL.vals_push {A : Option Addr} {n c : Nat} {x : α} (S : SL w0 (val ρ (.slice A n c) x :: vals ρ vs xs :: L) w) : SL w0 (vals ρ (vs ++ [(A, n, c)]) (xs ++ [x]) :: L) w := by
  refine ⟨S.below, ?_⟩
  obtain ⟨F, a1, a2, G, b1, b2, b3⟩ := S.sat
  refine ⟨fun b => F b ∨ G b, ?_, ⟨?_, ?_⟩, Sat.mono ?_ b3⟩
  · rintro b (h | h)
    · exact a1 b h
    · exact (b1 b h).1
  · rw [List.length_append, List.length_append, b2.1]; rfl
  · intro i u y h1 h2
    rcases Nat.lt_or_ge i vs.length with h | h
    · rw [List.getElem?_append_left h] at h1
      rw [List.getElem?_append_left (by rw [← b2.1]; exact h)] at h2
      exact ρ.mono _ _ _ _ _ (fun b hb => .inr hb) (b2.2 i u y h1 h2)
    · rw [List.getElem?_append_right h] at h1
      rw [List.getElem?_append_right (by rw [← b2.1]; exact h)] at h2
      have h0 : i - vs.length = 0 := by
        rcases Nat.eq_zero_or_pos (i - vs.length) with h' | h'
        · exact h'
        · rw [List.getElem?_eq_none (by simp; omega)] at h1; cases h1
      rw [h0] at h1
      rw [← b2.1, h0] at h2
      simp at h1 h2
      subst h1 h2
      exact ρ.mono _ _ _ _ _ (fun b hb => .inl hb) a2
  · rintro b ⟨⟨h1, h2⟩, h3⟩
    exact ⟨h1, fun h => h.elim h2 h3⟩
theorem SL.vals_last {A : Option Addr} {n c : Nat} {x : α} {L : List Chk} (S : SL w0 L w) (h : At (vals ρ (vs ++ [(A, n, c)]) (xs ++ [x])) (vals ρ (vs ++ [(A, n, c)]) (xs ++ [x])) L L) : Has w ρ (.slice A n c) x := by
  obtain ⟨F, h1, h2, h4⟩ := S.get h
  have hl : vs.length = xs.length := by simpa using h2
  have := h4 vs.length (A, n, c) x (by simp) (by rw [hl]; simp)
  exact ρ.mono _ _ _ _ _ (fun b hb => (h1 b hb).2) this
theorem SL.own_vals {E c n : Nat} {A : Option Addr} (S : SL w0 (own encV E 1 (.slice A n c) vs :: vals ρ vs xs :: L) w) : SL w0 (val (slc ρ 1) (.slice A n c) xs :: L) w := by
  refine ⟨S.below, ?_⟩
  obtain ⟨F, a1, a2, G, b1, b2, b3⟩ := S.sat
  have a3 := own_val encV_size F w a2
  refine ⟨fun b => F b ∨ G b, ?_, ?_, Sat.mono ?_ b3⟩
  · rintro b (h | h)
    · exact a1 b h
    · exact (b1 b h).1
  · obtain ⟨A', n', c', h1, h2, h3, h4, h5⟩ := a3
    refine ⟨A', n', c', h1, by rw [← b2.1]; exact h2, h3, h4, fun hn => ?_⟩
    obtain ⟨ad, h6, h7, h8⟩ := h5 hn
    refine ⟨ad, h6, .inl h7, fun i x hx => ?_⟩
    have hi : i < vs.length := by
      rcases Nat.lt_or_ge i vs.length with h | h
      · exact h
      · rw [List.getElem?_eq_none (by rw [← b2.1]; exact h)] at hx; cases hx
    obtain ⟨row, h9, h10, h11⟩ := h8 i vs[i] (List.getElem?_eq_getElem hi)
    refine ⟨row, h9, h10, ?_⟩
    rw [show row = #[svV vs[i]] from h11]
    exact ρ.mono _ _ _ _ _ (fun b hb => .inr hb) (b2.2 i _ x (List.getElem?_eq_getElem hi) hx)
  · rintro b ⟨⟨h1, h2⟩, h3⟩
    exact ⟨h1, fun h => h.elim h2 h3⟩
end
/-- A block of one thing is a row of one. -/
theorem SL.blk_own1 {w w0 : World} {L L' : List Chk} {α : Type} {enc : α → Array Value} {gb E size : Nat} {x : α} (S : SL w0 L w) (hs : (enc x).size = size) (h : At (blk gb E (enc x)) (own enc E size (.slice (some ⟨gb, 0, none⟩) 1 1) [x]) L L') : SL w0 L' w := by
  refine S.say' h fun F hp => ?_
  obtain ⟨h1, h2⟩ := hp
  refine ⟨⟨by simp [hs], .inr ⟨gb, 1, enc x, rfl, Nat.zero_le _, h2, Nat.le_refl _, by simp [maxLen], by rw [hs, Nat.one_mul], ?_⟩⟩, fun k hk => ?_⟩
  · rw [List.flatMap_cons, List.flatMap_nil, List.append_nil]
    exact List.take_of_length_le (by rw [Array.length_toList, hs]; simp)
  · simp [Value.ownBlock] at hk
    subst hk
    exact h1
section
variable {P : Program} {n : Nat} {Q : QE} {e : Env} {w : World} {ops : Array Oper} {S : World → Prop} {Z : List Nat} {k : Nat} {done : List Nat}
/-- Two operations may come up. -/
theorem WD_two {i j : Nat} {oi oj : Oper} (hi : ops.toList[i]? = some oi) (hj : ops.toList[j]? = some oj) (hr : rdyL ops done = [i, j])
    (h1 : WO P n ops oi (fun e' w' => (S w' ∨ Z.contains i = true) ∧ WD P n ops Q S Z k (i :: done) e' w') e w)
    (h2 : WO P n ops oj (fun e' w' => (S w' ∨ Z.contains j = true) ∧ WD P n ops Q S Z k (j :: done) e' w') e w) : WD P n ops Q S Z (k + 1) done e w := by
  refine ⟨fun h0 => (by rw [hr] at h0; cases h0), fun m o ho hm => ?_⟩
  have hi' : ops[i]? = some oi := by simpa using hi
  have hj' : ops[j]? = some oj := by simpa using hj
  rw [hr] at hm
  rcases List.mem_cons.1 hm with rfl | hm
  · rw [hi'] at ho; injection ho with ho; subst ho; exact h1
  · obtain rfl := List.mem_singleton.1 hm
    rw [hj'] at ho; injection ho with ho; subst ho; exact h2
/-- Three operations may come up. -/
theorem WD_three {i j l : Nat} {oi oj ol : Oper} (hi : ops.toList[i]? = some oi) (hj : ops.toList[j]? = some oj) (hl : ops.toList[l]? = some ol) (hr : rdyL ops done = [i, j, l])
    (h1 : WO P n ops oi (fun e' w' => (S w' ∨ Z.contains i = true) ∧ WD P n ops Q S Z k (i :: done) e' w') e w)
    (h2 : WO P n ops oj (fun e' w' => (S w' ∨ Z.contains j = true) ∧ WD P n ops Q S Z k (j :: done) e' w') e w)
    (h3 : WO P n ops ol (fun e' w' => (S w' ∨ Z.contains l = true) ∧ WD P n ops Q S Z k (l :: done) e' w') e w) : WD P n ops Q S Z (k + 1) done e w := by
  refine ⟨fun h0 => (by rw [hr] at h0; cases h0), fun m o ho hm => ?_⟩
  have hi' : ops[i]? = some oi := by simpa using hi
  have hj' : ops[j]? = some oj := by simpa using hj
  have hl' : ops[l]? = some ol := by simpa using hl
  rw [hr] at hm
  rcases List.mem_cons.1 hm with rfl | hm
  · rw [hi'] at ho; injection ho with ho; subst ho; exact h1
  rcases List.mem_cons.1 hm with rfl | hm
  · rw [hj'] at ho; injection ho with ho; subst ho; exact h2
  · obtain rfl := List.mem_singleton.1 hm
    rw [hl'] at ho; injection ho with ho; subst ho; exact h3
end
theorem flat_set1 {α : Type} {enc : α → Array Value} {size : Nat} (hs : ∀ x, (enc x).size = size) {y y' : α} {j : Nat} {u : Value} (hj : j < size) (he : enc y' = (enc y).setIfInBounds j u) : ∀ (xs : List α) (i : Nat), xs[i]? = some y →
    (xs.flatMap fun x => (enc x).toList).set (i * size + j) u = (xs.set i y').flatMap fun x => (enc x).toList
  | [], i, h => by simp at h
  | z :: zs, 0, h => by
    simp at h
    subst h
    rw [List.set_cons_zero, List.flatMap_cons, List.flatMap_cons, Nat.zero_mul, Nat.zero_add, List.set_append_left _ _ (by rw [Array.length_toList, hs]; exact hj), he, Array.toList_setIfInBounds]
  | z :: zs, i + 1, h => by
    have ih := flat_set1 hs hj he zs i (by simpa using h)
    rw [List.set_cons_succ, List.flatMap_cons, List.flatMap_cons, List.set_append_right _ _ (by rw [Array.length_toList, hs, Nat.succ_mul]; omega), Array.length_toList, hs, show (i + 1) * size + j - size = i * size + j by rw [Nat.succ_mul]; omega, ih]
section
variable {P : Program} {ρ : Operand → Value} {w : World} {d : Option Nat} {ty : TypeId} {pos : String} {after : Array Edge} {g : Option (Nat × Bool)}
/-- A place in an element. -/
theorem x_index_el {T e m sz c : Nat} {x y : Operand} {k : IntKind} {i : Int} {A : Option Addr} (hx : ρ x = eaddr A c) (hA : ∃ ad, A = some ad) (hy : ρ y = .int k i) (hu : P.underlying T = some (.array m e)) (hs : (P.info? e).map (·.size) = some sz) (h0 : 0 ≤ i) (h1 : i < m) :
    (execOp ρ ⟨d, .indexAddr T x y, ty, pos, after, g⟩).run P w = .ok (.value (eaddr A (c + i.toNat * sz))) w := by
  refine lift_v ?_
  obtain ⟨ad, rfl⟩ := hA
  have hx' : ρ x = .pointer (some (ad.add c)) := hx
  cases hq : P.info? e with
  | none => simp [hq] at hs
  | some i =>
  have hz : i.size = sz := by simpa [hq] using hs
  simp [hx', hy, Instr.indexAt, run_underlying hu, Instr.sureAddr, asIntOf, h0, h1, sizeOf, typeInfo, hq, hz, eaddr, add_add']
theorem x_load_elb {T n c i : Nat} {j : Int} {A : Option Addr} {x : Operand} {xs : List H} {y : H} {dd : TypeDesc} (h : Has w (slc (pur hv) 32) (.slice A n c) xs) (hy : xs[i]? = some y) (hx : ρ x = eaddr A (i * 32 + j.toNat * 1)) (h0 : 0 ≤ j) (h1 : j < 32)
    (hu : P.underlying T = some dd) (hd : (match dd with | .struct _ | .array _ _ => true | _ => false) = false) :
    (execOp ρ ⟨d, .load T x, ty, pos, after, g⟩).run P w = .ok (.value (.int .u8 (bt y.1 j))) w := by
  obtain ⟨ad, rfl, _, row, h2, h3, rfl⟩ := h.addr hy
  have hx' : ρ x = .pointer (some (ad.add (i * 32 + j.toNat * 1))) := hx
  refine x_load_cell hx' ?_ hu hd
  rw [← add_add', Nat.mul_one, h3 j.toNat (by rw [hv_size]; omega)]
  have := bv_bt (s := y.1) h0 (by rw [y.2]; exact h1)
  rw [Nat.mul_one] at this
  exact this
end
section
variable {P : Program} {n : Nat} {Q : QE} {e : Env} {w w0 : World} {ops : Array Oper} {K : Env → World → Prop} {L L' : List Chk}
variable {dd : Option Nat} {ty : TypeId} {pos : String} {after : Array Edge} {g : Option (Nat × Bool)} {d : Nat}
/-- A byte of an element of what the call itself fills is written. -/
theorem WO_store_elb {E T c k i : Nat} {j x1 : Int} {xs : List H} {y : H} {x z : Operand} {A : Option Addr} (S : SL w0 L w)
    (hon : wantedE ops e ⟨none, .store T x z, ty, pos, after, g⟩ = true) (hx : ev e x = eaddr A (i * 32 + j.toNat * 1)) (hz : ev e z = .int .u8 x1) (hy : xs[i]? = some y)
    (hat : At (own hv E 32 (.slice A k c) xs) (own hv E 32 (.slice A k c) (xs.set i (hset y j x1))) L L') (hi : (P.info? T).map (·.size) = some 1) (h0 : 0 ≤ j) (h1 : j < 32) (h2 : 0 ≤ x1) (h3 : x1 ≤ 255)
    (hk : ∀ w', SL w0 L' w' → K e w') : WO P n ops ⟨none, .store T x z, ty, pos, after, g⟩ K e w := by
  obtain ⟨F, hF, hown, hob⟩ := S.get hat
  have hil : i < xs.length := by
    rcases Nat.lt_or_ge i xs.length with h | h
    · exact h
    · rw [List.getElem?_eq_none h] at hy; cases hy
  rcases hown.2 with ⟨h4, h5⟩ | ⟨gg, cap, cur, h4, _, hh, hnc, hcm, hcs, htake⟩
  · omega
  · cases h4
    have hoff : ev e x = .pointer (some ⟨gg, i * 32 + j.toNat, none⟩) := by
      rw [hx]
      show Value.pointer (some ((⟨gg, 0, none⟩ : Addr).add (i * 32 + j.toNat * 1))) = _
      rw [Addr.add_lit, Nat.zero_add, Nat.mul_one]
    have hle : i * 32 + 32 ≤ xs.length * 32 := by omega
    have hle2 : xs.length * 32 ≤ cur.size := by rw [hcs]; exact Nat.mul_le_mul_right 32 hnc
    have hin : i * 32 + j.toNat < cur.size := by omega
    refine WO_skip hon rfl (x_store hoff hz hh hi rfl (by omega) (by simp [Value.cells, Value.oneCell'])) (hk _ ?_)
    have hcells : (Value.int IntKind.u8 x1).cells = #[.int .u8 x1] := rfl
    have henc : hv (hset y j x1) = (hv y).setIfInBounds j.toNat (.int .u8 x1) := by
      have := splice_hset (h := y) h0 h1 h2 h3
      rw [← this, Nat.mul_one, splice_one _ _ _ (by rw [hv_size]; omega)]
    refine S.turn hat rfl rfl rfl (by simp [World.setRow]) fun F' hF' hc' => ⟨⟨F', fun b hb => .inl hb, ⟨?_, ?_⟩, hc'.2⟩, fun b hb hnb => ?_⟩
    · rw [flat_len hvsz, List.length_set]
    · refine .inr ⟨gg, c, _, by rw [List.length_set], Nat.zero_le _, setRow_heap w gg cur _ E _ hh, by rw [List.length_set]; exact hnc, hcm, ?_, ?_⟩
      · rw [hcells, splice_one _ _ _ hin, Array.size_setIfInBounds]
        exact hcs
      · rw [hcells, splice_one _ _ _ hin, Array.toList_setIfInBounds, List.length_set, List.take_set, htake]
        exact flat_set1 hvsz (by omega) henc xs i hy
    · exact setRow_other w gg b _ fun h => hnb (hc'.2 b (by rw [h]; rfl))
end
end Go.Proofs.Ytjlbkbfnmcppeaa.Sl

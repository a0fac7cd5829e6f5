/-
  Rules for the operations of a strings.Builder.
-/
import Derived.Test.YtjlbkbfnmcppeaaTy
import Derived.Lib.Builder
import Derived.Lib.AppendStr
import Derived.Lib.UnsafeStr
import Derived.Laws.Externs
set_option linter.unusedSimpArgs false
set_option linter.unusedVariables false
namespace Go.Proofs.Ytjlbkbfnmcppeaa.Sl
open Go Go.RowKit
theorem thenR {K : Env → World → Prop} {Q : QE} {e : Env} {w : World} (h : Q .ret e w) : thenQ K Q .ret e w := h
theorem blockR {id : Nat} {Q : QE} {e : Env} {w : World} (h : Q .ret e w) : blockQ id Q .ret e w := h
/-- A byte's cell. -/
def encB (b : UInt8) : Array Value := #[.int .u8 (b.toNat : Int)]
theorem encB_size (b : UInt8) : (encB b).size = 1 := rfl
/-- A text of bytes. -/
abbrev tx (l : List UInt8) : ByteArray := ⟨l.toArray⟩
theorem flatB (l : List UInt8) : (l.flatMap fun b => (encB b).toList) = l.map fun b => Value.int .u8 (b.toNat : Int) := by
  induction l with
  | nil => rfl
  | cons b l ih => rw [List.flatMap_cons, ih]; rfl
theorem strCellsB (s : ByteArray) : Lib.strCells s = s.data.toList.flatMap fun b => (encB b).toList := by
  rw [flatB]
  rfl
/-- A piece to the front, and back. -/
theorem At.front {c c' : Chk} {L L' : List Chk} (h : At c c' L L') : ∃ M, (∀ w0 w, SL w0 L w → SL w0 (c :: M) w) ∧ ∀ w0 w, SL w0 (c' :: M) w → SL w0 L' w := by
  have sat : ∃ M, (∀ w U, Sat w L U → Sat w (c :: M) U) ∧ ∀ w U, Sat w (c' :: M) U → Sat w L' U := by
    induction h with
    | here L => exact ⟨L, fun _ _ h => h, fun _ _ h => h⟩
    | there d h ih =>
      obtain ⟨M, h1, h2⟩ := ih
      have swap : ∀ (x y : Chk) (N : List Chk) w U, Sat w (x :: y :: N) U → Sat w (y :: x :: N) U := by
        rintro x y N w U ⟨F, a1, a2, G, b1, b2, b3⟩
        refine ⟨G, fun b hb => (b1 b hb).1, b2, F, fun b hb => ⟨a1 b hb, fun hg => (b1 b hg).2 hb⟩, a2, Sat.mono ?_ b3⟩
        rintro b ⟨⟨c1, c2⟩, c3⟩
        exact ⟨⟨c1, c3⟩, c2⟩
      refine ⟨d :: M, fun w U h => swap d c M w U ?_, fun w U h => ?_⟩
      · obtain ⟨F, a1, a2, a3⟩ := h
        exact ⟨F, a1, a2, h1 _ _ a3⟩
      · obtain ⟨F, a1, a2, a3⟩ := swap c' d M w U h
        exact ⟨F, a1, a2, h2 _ _ a3⟩
  obtain ⟨M, h1, h2⟩ := sat
  exact ⟨M, fun w0 w S => ⟨S.below, h1 _ _ S.sat⟩, fun w0 w S => ⟨S.below, h2 _ _ S.sat⟩⟩
section
variable {P : Program} {n : Nat} {e : Env} {w w0 : World} {ops : Array Oper} {K : Env → World → Prop} {L L' : List Chk}
variable {dd : Option Nat} {ty : TypeId} {pos : String} {after : Array Edge} {g : Option (Nat × Bool)} {d : Nat} {ρ : Operand → Value}
theorem x_fieldAddr {T i off sz gb : Nat} {x : Operand} {fs : Array Field} {f : Field} (hx : ρ x = .pointer (some ⟨gb, 0, none⟩)) (hu : P.underlying T = some (.struct fs)) (hf : fs.toList[i]? = some f) (ho : f.offset = off)
    (hs : (P.info? f.type).map (·.size) = some sz) (hz : sz ≠ 0) : (execOp ρ ⟨dd, .fieldAddr T x i, ty, pos, after, g⟩).run P w = .ok (.value (.pointer (some ⟨gb, off, none⟩))) w := by
  refine lift_v ?_
  obtain ⟨ti, hq, hz'⟩ := size_of hs
  have hf' : fs[i]? = some f := by simpa using hf
  subst ho
  have hadd : (⟨gb, 0, none⟩ : Addr).add f.offset = ⟨gb, f.offset, none⟩ := by unfold Addr.add; split <;> simp_all
  simp [hx, Instr.fieldAt, run_underlying hu, hf', Instr.sureAddr, fieldPlace, sizeOf, typeInfo, hq, hz', hz, hadd]
theorem x_ptr_nil {T E : Nat} {x y : Operand} {T' : Nat} (hx : ρ x = .pointer none) (hy : ρ y = .pointer none) (hu : P.underlying T = some (.pointer E)) :
    (execOp ρ ⟨dd, .binOp .eql T x y T', ty, pos, after, g⟩).run P w = .ok (.value (.bool true)) w := by
  refine lift_v ?_
  have he : (eqGuard .eql T x y (.pointer none) (.pointer none)).run P w = .ok () w := rfl
  have h2 : ∀ k, (Op.equalIn (k + 1) T (.pointer none) (.pointer none)).run P w = .ok true w := fun k => by simp [Op.equalIn, run_underlying hu]
  simp only [hx, hy, Sem.run_bind, he, Result.andThen_ok, binOp, Op.equal, Op.maxDepth, h2 9999]
  rfl
theorem x_ptr_some {T E : Nat} {x y : Operand} {T' : Nat} {a : Addr} (hx : ρ x = .pointer (some a)) (hy : ρ y = .pointer none) (hu : P.underlying T = some (.pointer E)) :
    (execOp ρ ⟨dd, .binOp .eql T x y T', ty, pos, after, g⟩).run P w = .ok (.value (.bool false)) w := by
  refine lift_v ?_
  have he : (eqGuard .eql T x y (.pointer (some a)) (.pointer none)).run P w = .ok () w := rfl
  have h2 : ∀ k, (Op.equalIn (k + 1) T (.pointer (some a)) (.pointer none)).run P w = .ok false w := fun k => by simp [Op.equalIn, run_underlying hu]
  simp only [hx, hy, Sem.run_bind, he, Result.andThen_ok, binOp, Op.equal, Op.maxDepth, h2 9999]
  rfl
theorem x_ptr_nesame {T E : Nat} {x y : Operand} {T' : Nat} {a : Addr} {z : Value} {sz bytes : Nat} (hx : ρ x = .pointer (some a)) (hy : ρ y = .pointer (some a)) (hu : P.underlying T = some (.pointer E)) (hi : TI P E z sz bytes) :
    (execOp ρ ⟨dd, .binOp .neq T x y T', ty, pos, after, g⟩).run P w = .ok (.value (.bool false)) w := by
  refine lift_v ?_
  obtain ⟨ti, h1, _⟩ := hi.ex
  have he : (eqGuard .neq T x y (.pointer (some a)) (.pointer (some a))).run P w = .ok () w := rfl
  simp only [hx, hy, Sem.run_bind, he, Result.andThen_ok]
  rw [Lib.run_neq_ptr_same w a hu h1]
theorem x_to_unsafe {T T' t e' gb : Nat} {x : Operand} {row : Array Value} {z : Value} {sz bytes : Nat} (hx : ρ x = .pointer (some ⟨gb, 0, none⟩)) (hg : w.heap[gb]? = some (.cells row e' (0, 0))) (h0 : 0 < row.size)
    (hs : P.underlying T = some (.pointer t)) (hd : P.underlying T' = some .unsafePointer) (hi : TI P t z sz bytes) (hz : sz ≠ 0) :
    (execOp ρ ⟨dd, .convert T T' x, ty, pos, after, g⟩).run P w = .ok (.value (.pointer (some ⟨gb, 0, none⟩))) w := by
  refine lift_v ?_
  obtain ⟨ti, h1, _, h3, _⟩ := hi.ex
  rw [hx]
  exact Lib.run_to_unsafe (e := e') (cells := row.size) w ⟨gb, 0, none⟩ hs hd h1 (by rw [h3]; exact hz) (by simp [World.shape?, hg]) h0
theorem x_from_unsafe {T T' t gb : Nat} {x : Operand} {row : Array Value} {z : Value} {sz bytes : Nat} (hx : ρ x = .pointer (some ⟨gb, 0, none⟩)) (hg : w.heap[gb]? = some (.cells row t (0, 0))) {m : Nat} (hr : row.size = m)
    (hs : P.underlying T = some .unsafePointer) (hd : P.underlying T' = some (.pointer t)) (hi : TI P t z sz bytes) (hl : liesAt P P.depth t (m / P.cellsOf t) 0 t 1 = true) :
    (execOp ρ ⟨dd, .convert T T' x, ty, pos, after, g⟩).run P w = .ok (.value (.pointer (some ⟨gb, 0, none⟩))) w := by
  refine lift_v ?_
  obtain ⟨ti, h1, _⟩ := hi.ex
  subst hr
  rw [hx]
  exact Lib.run_from_unsafe (e := t) (cells := row.size) w ⟨gb, 0, none⟩ hs hd h1 (by simp [World.shape?, hg]) hl
theorem x_noEscape {f : FuncId} {fn : Func} {a : Operand} {ts : Array TypeId} {v : Value} (hf : P.funcs[f]? = some fn) (hname : (fn.name == "runtime.NumGoroutine") = false)
    (hb : fn.body.isNone = true) (hn : Extern.findNext fn = none) (he : Extern.find fn = some Extern.AbiNoEscape.same) (hρ : ρ (.func f) = .func (.func f) #[] #[]) (ha : ρ a = v) :
    (execOp ρ ⟨dd, .call { callee := .value (.func f), args := #[a], argTypes := ts }, ty, pos, after, g⟩).run P w = .ok (.value v) w := by
  have h := run_callFunc_extern hf hname hb hn he #[v] w
  rw [Lib.run_noEscape] at h
  simp [execOp, resolve, hρ, Deferred.ofValue, invoke, Sem.run_bind, ha, h]
theorem WO_append_str {E : Nat} {xs : List UInt8} {x y : Operand} {T U c m : Nat} {v : Value} {s : ByteArray} {L' : Value → List Chk} (S : SL w0 L w)
    (hon : wantedE ops e ⟨some d, .call { callee := .builtin .append, args := #[x, y], argTypes := #[T, U] }, ty, pos, after, g⟩ = true) (hdn : d < n) (hx : ev e x = v) (hy : ev e y = .string s)
    (hat : ∀ v', At (own encB E 1 v xs) (own encB E 1 v' (xs ++ s.data.toList)) L (L' v'))
    (hu : P.underlying T = some (.slice E)) (hu' : P.underlying U = some .string) (hi : TI P E (.int .u8 0) 1 1) (hby : xs.length + s.size ≤ 140737488355328)
    (hk : ∀ A c' w', SL w0 (L' (.slice A (xs.length + s.size) c')) w' → K (upd e d (.slice A (xs.length + s.size) c')) w') :
    WO P n ops ⟨some d, .call { callee := .builtin .append, args := #[x, y], argTypes := #[T, U] }, ty, pos, after, g⟩ K e w := by
  obtain ⟨ti, hq, hz, hs, hb⟩ := hi.ex
  obtain ⟨F, hF, hown, hob⟩ := S.get (hat v)
  have hrun : ∃ v' w', (Builtin.append_ #[T, U] ty #[v, .string s]).run P w = .ok v' w' ∧ w'.ownsRow 0 E 1 v' (xs.length + s.size) ((xs.flatMap fun x => (encB x).toList) ++ Lib.strCells s) ∧ w.grownBy w' v.ownBlock ∧
      (v'.ownBlock = v.ownBlock ∨ v'.ownBlock = some w.heap.size) := by
    have hxl : (xs.flatMap fun x => (encB x).toList).length = xs.length := by rw [flat_len encB_size]; omega
    generalize (xs.flatMap fun x => (encB x).toList) = cells at hown hxl ⊢
    have hlen : (cells ++ Lib.strCells s).length = (xs.length + s.size) * 1 := by rw [List.length_append, hxl, Lib.strCells_length, Nat.mul_one]
    have fresh : ∀ (rest : Nat), xs.length + s.size + rest ≤ maxLen →
        (w.drew.alloc (.cells (cells.toArray ++ (Lib.strCells s).toArray ++ Builtin.zeroCells (Value.int .u8 0).cells rest) E)).ownsRow 0 E 1 (.slice (some ⟨w.heap.size, 0, none⟩) (xs.length + s.size) (xs.length + s.size + rest)) (xs.length + s.size) (cells ++ Lib.strCells s) := by
      intro rest hm
      refine ⟨hlen, .inr ⟨w.heap.size, _, _, rfl, Nat.zero_le _, heap_alloc_new w.drew _, Nat.le_add_right _ _, hm, ?_, ?_⟩⟩
      · have hz1 : (Value.int IntKind.u8 0).cells.size = 1 := rfl
        simp only [Array.size_append, List.size_toArray, size_zeroCells, hz1, hxl, Lib.strCells_length]
        omega
      · simp only [Array.toList_append, List.append_assoc]
        rw [← List.append_assoc, ← hlen]
        exact List.take_left
    have fgrow : ∀ (o : Obj) (row : Option Nat), w.grownBy (w.drew.alloc o) row := fun o row => ⟨rfl, rfl, rfl, by simp, fun k hk _ => Below.heap_alloc w.drew _ k hk⟩
    have room : ∀ old, ∃ rest, grownCap w (xs.length + s.size) old E = xs.length + s.size + rest ∧ xs.length + s.size + rest ≤ maxLen := fun old => by
      have hge := grownCap_ge w (xs.length + s.size) old E
      have hcm : grownCap w (xs.length + s.size) old E ≤ maxLen := grownCap_le_maxLen w (xs.length + s.size) old E (by simp only [maxLen]; omega)
      exact ⟨grownCap w (xs.length + s.size) old E - (xs.length + s.size), by omega, by omega⟩
    rcases hown.2 with ⟨rfl, hx0⟩ | ⟨g, cap, cur, rfl, _, hg, hnc, hcm, hcs, htake⟩
    · have hc0 : cells = [] := List.eq_nil_of_length_eq_zero (by omega)
      subst hc0
      by_cases hm : s.size = 0
      · have hn : Lib.strCells s = [] := List.eq_nil_of_length_eq_zero (by rw [Lib.strCells_length]; exact hm)
        refine ⟨.slice none 0 0, w, ?_, by rw [hm, hn, hx0]; exact World.ownsRow_nil w 0 E 1, World.grownBy.refl _ _, .inl rfl⟩
        have hf := Lib.run_firstCells_string (P := P) w 1 s
        rw [hm] at hf
        simp [Builtin.append_, run_underlying hu, run_underlying hu', sizeOf, typeInfo, hq, hs, Builtin.lenOf, hm, hf]
      · have hr := run_append_nil_string (P := P) w T U ty E ti (.int .u8 0) hu hu' hq hz s (by omega) (by omega) (by rw [hb]; omega)
        have e1 : (s.data.map fun b => Value.int .u8 b.toNat) = (Lib.strCells s).toArray := by
          apply Array.ext'
          simp [Lib.strCells]
        rw [e1] at hr
        obtain ⟨rest, h1, h2⟩ := room 0
        rw [hx0, Nat.zero_add] at h1 h2
        have hf := fresh rest (by rw [hx0, Nat.zero_add]; exact h2)
        rw [hx0, Nat.zero_add] at hf ⊢
        rw [h1] at hr
        simp only [List.nil_append, Array.empty_append, Nat.add_sub_cancel_left] at hf hr ⊢
        exact ⟨_, _, hr, hf, fgrow _ _, .inr rfl⟩
    · by_cases hroom : xs.length + s.size ≤ cap
      · have hcs' : cur.size = cap := by simpa using hcs
        have hr := Lib.run_append_room_string (P := P) w T U ty E ti hu hu' hq hs g xs.length cap cur hg s hroom (by omega)
        refine ⟨_, _, hr, ⟨hlen, .inr ⟨g, cap, _, rfl, Nat.zero_le _, setRow_heap w g cur _ E _ hg, hroom, hcm, ?_, ?_⟩⟩, ⟨rfl, rfl, rfl, by simp, fun k _ hk => setRow_other w g k _ (fun e => hk (by simp [Value.ownBlock, e]))⟩, .inl rfl⟩
        · simp only [List.size_toArray, List.length_append, List.length_take, List.length_drop, Array.length_toList, Lib.strCells_length]
          omega
        · have ht' : cur.toList.take xs.length = cells := by simpa using htake
          rw [ht', ← hlen]
          exact List.take_left
      · have holds : ∀ j u, cells[j]? = some u → w.cell? ((⟨g, 0, none⟩ : Addr).add j) = some u := hown.cells (g := g) rfl
        have hr := Lib.run_append_grow_string (P := P) w T U ty E ti (.int .u8 0) hu hu' hq hz ⟨g, 0, none⟩ xs.length cap cells (by rw [hs]; simpa using hxl) holds s (by omega) (by omega) (by rw [hb]; exact growslice_fits (by omega) (by omega))
        obtain ⟨rest, h1, h2⟩ := room cap
        have hf := fresh rest h2
        rw [h1] at hr
        simp only [Nat.add_sub_cancel_left] at hr
        exact ⟨_, _, hr, hf, fgrow _ _, .inr rfl⟩
  obtain ⟨v', w', hr, hown', hgr, hob'⟩ := hrun
  have hform : ∃ A c', v' = .slice A (xs.length + s.size) c' := by
    rcases hown'.2 with ⟨rfl, h2⟩ | ⟨gg, cap, cur, rfl, _⟩
    · exact ⟨none, 0, by rw [h2]⟩
    · exact ⟨_, cap, rfl⟩
  obtain ⟨A, c', rfl⟩ := hform
  refine WO_val hon rfl hdn (w' := w') (v := .slice A (xs.length + s.size) c') ?_ (hk A c' w' ?_)
  · simp [execOp, resolve, invoke, builtin, hx, hy, Sem.run_bind, hr]
  · refine S.turn (hat _) hgr.os hgr.tape hgr.output hgr.size fun F' hF' hc' => ⟨⟨fun b => (Value.slice A (xs.length + s.size) c').ownBlock = some b, fun b hb => ?_, ?_, fun k hk => hk⟩, fun b hb hnb => ?_⟩
    · rcases hob' with h | h
      · exact .inl (hc'.2 b (by rw [← h]; exact hb))
      · rw [h] at hb
        injection hb with hb
        subst hb
        refine .inr ⟨Nat.le_refl _, ?_⟩
        rcases hown'.2 with ⟨h2, _⟩ | ⟨gg, cap, cur, h2, _, h3, _⟩
        · rw [h2] at h; simp [Value.ownBlock] at h
        · rw [h2] at h
          simp [Value.ownBlock] at h
          subst h
          exact (Array.getElem?_eq_some_iff.1 h3).1
    · have : s.data.toList.length = s.size := Array.length_toList
      rw [List.length_append, this, List.flatMap_append, ← strCellsB]
      exact hown'
    · refine hgr.block b hb fun h => hnb (hc'.2 b h.symm)
/-- What a builder holds is read as a text; the builder is done with. -/
theorem WO_unsafeString {E PT IT Ty : Nat} {xs : List UInt8} {x y : Operand} {gb c : Nat} (S : SL w0 L w)
    (hon : wantedE ops e ⟨some d, .call { callee := .builtin .unsafeString, args := #[x, y], argTypes := #[PT, IT] }, ty, pos, after, g⟩ = true) (hdn : d < n) (hx : ev e x = .pointer (some ⟨gb, 0, none⟩)) (hy : ev e y = .int .i64 (xs.length : Int))
    (hdr : Drops (own encB E 1 (.slice (some ⟨gb, 0, none⟩) xs.length c) xs) L L') (h0 : xs ≠ []) (hu : P.underlying PT = some (.pointer E)) (hc : P.cellsOf E = 1)
    (hk : ∀ w', SL w0 L' w' → K (upd e d (.string (tx xs))) w') :
    WO P n ops ⟨some d, .call { callee := .builtin .unsafeString, args := #[x, y], argTypes := #[PT, IT] }, ty, pos, after, g⟩ K e w := by
  have hat : ∀ {L L' : List Chk} {c : Chk}, Drops c L L' → ∃ L'', At c { P := fun _ _ => True, loc := fun _ _ _ _ _ => trivial } L L'' ∧ Drops { P := fun _ _ => True, loc := fun _ _ _ _ _ => trivial } L'' L' := by
    intro L L' c h
    induction h with
    | here L => exact ⟨_, .here _, .here _⟩
    | there d _ ih =>
      obtain ⟨L'', h1, h2⟩ := ih
      exact ⟨_, .there d h1, .there d h2⟩
  obtain ⟨L'', hat, hdr'⟩ := hat hdr
  obtain ⟨F, hF, hown, hob⟩ := S.get hat
  have hlen : 0 < xs.length := List.length_pos_iff.2 h0
  rcases hown.2 with ⟨h2, _⟩ | ⟨gg, cap, cur, h2, _, hg, hnc, hcm, hcs, htake⟩
  · simp at h2
  · injection h2 with h3 h4 h5
    injection h3 with h3
    injection h3 with h3
    subst h3 h5
    have hcells : ∀ j u, xs[j]? = some u → w.cell? ((⟨gb, 0, none⟩ : Addr).add j) = some (.int .u8 u.toNat) := fun j u hj => by
      refine hown.cells (g := gb) rfl j _ ?_
      rw [flatB, List.getElem?_map, hj]
      rfl
    have hr := Lib.run_unsafeString_row (P := P) w PT IT ty E hu hc gb cur.size (by simp [World.shape?, hg]) xs h0 (by rw [hcs]; omega) (by simp only [maxLen] at hcm; omega) hcells
    refine WO_val hon rfl hdn (v := .string (tx xs)) (w' := w.freeze ⟨gb, 0, none⟩ xs.length) ?_ (hk _ ?_)
    · simp [execOp, resolve, invoke, builtin, hx, hy, Sem.run_bind, hr]
    · refine SL.drop (c := { P := fun _ _ => True, loc := fun _ _ _ _ _ => trivial }) (S.turn hat ?_ ?_ ?_ ?_ fun F' hF' hc' => ⟨⟨fun _ => False, fun b hb => hb.elim, trivial⟩, fun b hb hnb => ?_⟩) hdr'
      · unfold World.freeze; split <;> rfl
      · unfold World.freeze; split <;> rfl
      · unfold World.freeze; split <;> rfl
      · unfold World.freeze; split <;> simp
      · unfold World.freeze
        split
        · rfl
        · simp only [Array.getElem?_modify]
          rw [if_neg (fun e => hnb (hc'.2 b (by rw [← e]; rfl)))]
theorem x_unsafeSliceData {x : Operand} {ts : Array TypeId} {a : Addr} {m c : Nat} (hx : ρ x = .slice (some a) m c) (hc : c ≠ 0) :
    (execOp ρ ⟨dd, .call { callee := .builtin .unsafeSliceData, args := #[x], argTypes := ts }, ty, pos, after, g⟩).run P w = .ok (.value (.pointer (some a))) w := by
  have := Lib.run_unsafeSliceData_row (P := P) w ts ty a m c hc
  simp [execOp, resolve, invoke, builtin, hx, Sem.run_bind, this]
theorem SL.own_addr {E c m : Nat} {A : Option Addr} {xs : List UInt8} (S : SL w0 L w) (h : At (own encB E 1 (.slice A m c) xs) (own encB E 1 (.slice A m c) xs) L L) (h0 : xs ≠ []) : ∃ gb, A = some ⟨gb, 0, none⟩ ∧ m = xs.length ∧ c ≠ 0 := by
  obtain ⟨F, hF, hown, hob⟩ := S.get h
  have hlen : 0 < xs.length := List.length_pos_iff.2 h0
  rcases hown.2 with ⟨h2, h3⟩ | ⟨gg, cap, cur, h2, _, hg, hnc, hcm, hcs, htake⟩
  · omega
  · injection h2 with h3 h4 h5
    exact ⟨gg, h3, h4, by omega⟩
end
end Go.Proofs.Ytjlbkbfnmcppeaa.Sl

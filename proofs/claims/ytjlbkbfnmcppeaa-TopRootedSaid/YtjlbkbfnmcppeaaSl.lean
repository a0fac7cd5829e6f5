/-
  Pieces of memory and one rule for each operation; the conditions stand in each theorem.
-/
import Derived.Test.YtjlbkbfnmcppeaaEng
import Derived.Laws.StructEq
import Derived.DeepKeys2
import Derived.Maps.AppendAt
import Derived.Laws.MakeOwn
set_option linter.unusedSimpArgs false
set_option linter.unusedVariables false
namespace Go.Proofs.Ytjlbkbfnmcppeaa.Sl
open Go Go.RowKit

/-- A piece of memory: what is said of a world, by the blocks that it leans on. -/
structure Chk where
  P : (Nat → Prop) → World → Prop
  loc : ∀ (F : Nat → Prop) (w w' : World), (∀ b, F b → w'.heap[b]? = w.heap[b]?) → P F w → P F w'

def Sat (w : World) : List Chk → (Nat → Prop) → Prop
  | [], _ => True
  | c :: L, U => ∃ F : Nat → Prop, (∀ b, F b → U b) ∧ c.P F w ∧ Sat w L (fun b => U b ∧ ¬ F b)

theorem Sat.mono {w : World} : ∀ {L : List Chk} {U U' : Nat → Prop}, (∀ b, U b → U' b) → Sat w L U → Sat w L U'
  | [], _, _, _, _ => trivial
  | _ :: _, _, _, hu, ⟨F, h1, h2, h3⟩ => ⟨F, fun b hb => hu b (h1 b hb), h2, Sat.mono (fun b ⟨h4, h5⟩ => ⟨hu b h4, h5⟩) h3⟩
theorem Sat.keep {w w' : World} : ∀ {L : List Chk} {U : Nat → Prop}, (∀ b, U b → w'.heap[b]? = w.heap[b]?) → Sat w L U → Sat w' L U
  | [], _, _, _ => trivial
  | c :: _, _, hk, ⟨F, h1, h2, h3⟩ => ⟨F, h1, c.loc F w w' (fun b hb => hk b (h1 b hb)) h2, Sat.keep (fun b hb => hk b hb.1) h3⟩

/-- Where a piece lies in a list, and the list with another piece in its place. -/
inductive At (c c' : Chk) : List Chk → List Chk → Prop
  | here (L : List Chk) : At c c' (c :: L) (c' :: L)
  | there (d : Chk) {L L' : List Chk} : At c c' L L' → At c c' (d :: L) (d :: L')

/-- The piece at a place, and what lies beside it is disjoint from it. -/
theorem Sat.get {w : World} {c c' : Chk} {L L' : List Chk} (h : At c c' L L') : ∀ {U : Nat → Prop}, Sat w L U → ∃ F : Nat → Prop, (∀ b, F b → U b) ∧ c.P F w := by
  induction h with
  | here L => rintro U ⟨F, h1, h2, _⟩; exact ⟨F, h1, h2⟩
  | there d _ ih =>
    rintro U ⟨F, _, _, h3⟩
    obtain ⟨F', h4, h5⟩ := ih h3
    exact ⟨F', fun b hb => (h4 b hb).1, h5⟩
/-- One piece is turned: the rest stays. New blocks come from N. -/
theorem Sat.turn {w w' : World} {c c' : Chk} {L L' : List Chk} (h : At c c' L L') : ∀ {U N : Nat → Prop}, (∀ b, N b → ¬ U b) → Sat w L U →
    (∀ F : Nat → Prop, (∀ b, F b → U b) → c.P F w → (∃ F' : Nat → Prop, (∀ b, F' b → F b ∨ N b) ∧ c'.P F' w') ∧ ∀ b, U b → ¬ F b → w'.heap[b]? = w.heap[b]?) → Sat w' L' (fun b => U b ∨ N b) := by
  induction h with
  | here L =>
    rintro U N hN ⟨F, h1, h2, h3⟩ hstep
    obtain ⟨⟨F', h4, h5⟩, h6⟩ := hstep F h1 h2
    refine ⟨F', fun b hb => (h4 b hb).imp (h1 b) id, h5, ?_⟩
    refine Sat.mono ?_ (Sat.keep (w' := w') (fun b hb => h6 b hb.1 hb.2) h3)
    rintro b ⟨h7, h8⟩
    refine ⟨.inl h7, fun h9 => ?_⟩
    rcases h4 b h9 with h | h
    · exact h8 h
    · exact hN b h h7
  | there d _ ih =>
    rintro U N hN ⟨F, h1, h2, h3⟩ hstep
    have hsub : ∀ b, N b → ¬ (U b ∧ ¬ F b) := fun b hb hu => hN b hb hu.1
    have hdk : (∀ b, F b → w'.heap[b]? = w.heap[b]?) := by
      obtain ⟨G, hG1, hG2⟩ := Sat.get ‹_› h3
      exact fun b hb => (hstep G (fun b hb => (hG1 b hb).1) hG2).2 b (h1 b hb) fun hg => (hG1 b hg).2 hb
    refine ⟨F, fun b hb => .inl (h1 b hb), d.loc F w w' hdk h2, ?_⟩
    refine Sat.mono ?_ (ih hsub h3 fun G hG hc => ?_)
    · rintro b (⟨h7, h8⟩ | h7)
      · exact ⟨.inl h7, h8⟩
      · exact ⟨.inr h7, fun hf => hN b h7 (h1 b hf)⟩
    · obtain ⟨hs1, hs2⟩ := hstep G (fun b hb => (hG b hb).1) hc
      exact ⟨hs1, fun b hu hg => hs2 b hu.1 hg⟩

/-- From w0 on nothing of w0 has turned; the pieces lie in new blocks, apart from each other. -/
structure SL (w0 : World) (L : List Chk) (w : World) : Prop where
  below : Below w0.heap.size w0 w
  sat : Sat w L (fun b => w0.heap.size ≤ b ∧ b < w.heap.size)

section
variable {w0 w w' : World} {L L' : List Chk}
theorem SL.start (w : World) : SL w [] w := ⟨Below.refl _ _, trivial⟩
theorem SL.size (S : SL w0 L w) : w0.heap.size ≤ w.heap.size := S.below.size
/-- A step that keeps all that is there. -/
theorem SL.keep (S : SL w0 L w) (h : Below w.heap.size w w') : SL w0 L w' :=
  ⟨S.below.trans (h.mono S.size), Sat.mono (fun _ hb => ⟨hb.1, Nat.lt_of_lt_of_le hb.2 h.size⟩) (Sat.keep (fun b hb => h.block b hb.2) S.sat)⟩
/-- .. and lays something new. -/
theorem SL.push (S : SL w0 L w) (h : Below w.heap.size w w') {c : Chk} (hc : c.P (fun b => w.heap.size ≤ b ∧ b < w'.heap.size) w') : SL w0 (c :: L) w' := by
  refine ⟨S.below.trans (h.mono S.size), _, fun b hb => ⟨Nat.le_trans S.size hb.1, hb.2⟩, hc, ?_⟩
  refine Sat.mono ?_ (Sat.keep (fun b hb => h.block b hb.2) S.sat)
  rintro b ⟨h1, h2⟩
  exact ⟨⟨h1, Nat.lt_of_lt_of_le h2 h.size⟩, fun h3 => by omega⟩
theorem SL.drew (S : SL w0 L w) : SL w0 L w.drew := S.keep (Below.refl _ _).drew
theorem SL.get {c c' : Chk} (S : SL w0 L w) (h : At c c' L L') : ∃ F : Nat → Prop, (∀ b, F b → w0.heap.size ≤ b ∧ b < w.heap.size) ∧ c.P F w := S.sat.get h
/-- One piece is turned. -/
theorem SL.turn {c c' : Chk} (S : SL w0 L w) (h : At c c' L L') (hos : w'.os = w.os) (ht : w'.tape = w.tape) (ho : w'.output = w.output) (hz : w.heap.size ≤ w'.heap.size)
    (hstep : ∀ F : Nat → Prop, (∀ b, F b → w0.heap.size ≤ b ∧ b < w.heap.size) → c.P F w →
      (∃ F' : Nat → Prop, (∀ b, F' b → F b ∨ (w.heap.size ≤ b ∧ b < w'.heap.size)) ∧ c'.P F' w') ∧ ∀ b, b < w.heap.size → ¬ F b → w'.heap[b]? = w.heap[b]?) : SL w0 L' w' := by
  obtain ⟨F, hF1, hF2⟩ := S.get h
  have hb := (hstep F hF1 hF2).2
  refine ⟨⟨hos.trans S.below.os, ht.trans S.below.tape, ho.trans S.below.output, Nat.le_trans S.size hz, fun k hk => ?_⟩, ?_⟩
  · exact (hb k (Nat.lt_of_lt_of_le hk S.size) fun hf => by have := (hF1 k hf).1; omega).trans (S.below.block k hk)
  · refine Sat.mono ?_ (Sat.turn h (U := fun b => w0.heap.size ≤ b ∧ b < w.heap.size) (N := fun b => w.heap.size ≤ b ∧ b < w'.heap.size) (w' := w') ?_ S.sat fun G hG hc => ?_)
    · rintro b (h1 | h1)
      · exact ⟨h1.1, by omega⟩
      · exact ⟨Nat.le_trans S.size h1.1, h1.2⟩
    · rintro b h1 h2
      omega
    · obtain ⟨h1, h2⟩ := hstep G hG hc
      exact ⟨h1, fun b hu => h2 b hu.2⟩
/-- A piece is dropped. -/
inductive Drops (c : Chk) : List Chk → List Chk → Prop
  | here (L : List Chk) : Drops c (c :: L) L
  | there (d : Chk) {L L' : List Chk} : Drops c L L' → Drops c (d :: L) (d :: L')
theorem Sat.drop {w : World} {c : Chk} {L L' : List Chk} (h : Drops c L L') : ∀ {U : Nat → Prop}, Sat w L U → Sat w L' U := by
  induction h with
  | here L => rintro U ⟨F, h1, h2, h3⟩; exact Sat.mono (fun b hb => hb.1) h3
  | there d _ ih => rintro U ⟨F, h1, h2, h3⟩; exact ⟨F, h1, h2, ih h3⟩
theorem SL.drop {c : Chk} (S : SL w0 L w) (h : Drops c L L') : SL w0 L' w := ⟨S.below, Sat.drop h S.sat⟩
theorem SL.tail {c : Chk} (S : SL w0 (c :: L) w) : SL w0 L w := S.drop (.here L)
/-- What is known is told otherwise. -/
theorem SL.say {c c' : Chk} (S : SL w0 L w) (h : At c c' L L') (hi : ∀ F w, c.P F w → c'.P F w) : SL w0 L' w :=
  S.turn h rfl rfl rfl (Nat.le_refl _) fun F _ hc => ⟨⟨F, fun _ hb => .inl hb, hi F w hc⟩, fun _ _ _ => rfl⟩
end

/-! ### Pieces -/
/-- A block that is known whole. -/
def blk (g : Nat) (t : TypeId) (row : Array Value) : Chk where
  P F w := F g ∧ w.heap[g]? = some (.cells row t (0, 0))
  loc _ _ _ hk h := ⟨h.1, (hk _ h.1).trans h.2⟩
theorem SL.blk_get {w0 w : World} {L : List Chk} {g : Nat} {t : TypeId} {row : Array Value} (S : SL w0 L w) (h : At (blk g t row) (blk g t row) L L) : w.heap[g]? = some (.cells row t (0, 0)) := by
  obtain ⟨F, _, _, h2⟩ := S.get h
  exact h2
theorem SL.blk_at {w0 w : World} {L L' : List Chk} {g : Nat} {t : TypeId} {row : Array Value} {c' : Chk} (S : SL w0 L w) (h : At (blk g t row) c' L L') : w.heap[g]? = some (.cells row t (0, 0)) := by
  obtain ⟨F, _, _, h2⟩ := S.get h
  exact h2
/-- A new block. -/
theorem SL.alloc {w0 w : World} {L : List Chk} (S : SL w0 L w) (t : TypeId) (row : Array Value) : SL w0 (blk w.heap.size t row :: L) (w.alloc (.cells row t)) :=
  S.push ((Below.refl _ _).alloc (Nat.le_refl _) _) ⟨⟨Nat.le_refl _, by simp⟩, heap_alloc_new w _⟩
theorem SL.setCell {w0 w : World} {L L' : List Chk} {g : Nat} {t : TypeId} {row : Array Value} (S : SL w0 L w) (i : Nat) (v : Value) (h : At (blk g t row) (blk g t (row.setIfInBounds i v)) L L') : SL w0 L' (w.setCell ⟨g, i, none⟩ v) := by
  refine S.turn h rfl rfl rfl (by simp [World.setCell]) fun F hF hc => ⟨⟨fun b => b = g, fun b hb => .inl (by subst hb; exact hc.1), rfl, ?_⟩, fun b _ hb => ?_⟩
  · exact heap_setCell_same w g i row t v hc.2
  · exact heap_setCell_other w _ b v fun e => hb (by subst e; exact hc.1)
/-- A whole row is written. -/
theorem SL.setRow {w0 w : World} {L L' : List Chk} {g : Nat} {t : TypeId} {row : Array Value} (S : SL w0 L w) (row' : Array Value) (h : At (blk g t row) (blk g t row') L L') : SL w0 L' (w.setRow g row') := by
  refine S.turn h rfl rfl rfl (by simp) fun F hF hc => ⟨⟨fun b => b = g, fun b hb => .inl (by subst hb; exact hc.1), rfl, ?_⟩, fun b _ hb => ?_⟩
  · exact setRow_heap w g row _ t _ hc.2
  · exact setRow_other w g b _ fun e => hb (by subst e; exact hc.1)
section
variable {P : Program} {ρ : Operand → Value} {w : World} {d : Option Nat} {ty : TypeId} {pos : String} {after : Array Edge} {g : Option (Nat × Bool)}
theorem x_move {x : Operand} : (execOp ρ ⟨d, .move x, ty, pos, after, g⟩).run P w = .ok (.value (ρ x)) w := rfl
theorem x_assign {x : Operand} : (execOp ρ ⟨d, .assign x, ty, pos, after, g⟩).run P w = .ok (.value (ρ x)) w := rfl
theorem x_pick {c x y : Operand} {b : Bool} (hc : ρ c = .bool b) : (execOp ρ ⟨d, .pick c x y, ty, pos, after, g⟩).run P w = .ok (.value (if b then ρ x else ρ y)) w := by
  simp [execOp, hc, go_sem]
theorem x_pick_t {c x y : Operand} (hc : ρ c = .bool true) : (execOp ρ ⟨d, .pick c x y, ty, pos, after, g⟩).run P w = .ok (.value (ρ x)) w := by
  simp [execOp, hc, go_sem]
theorem x_pick_f {c x y : Operand} (hc : ρ c = .bool false) : (execOp ρ ⟨d, .pick c x y, ty, pos, after, g⟩).run P w = .ok (.value (ρ y)) w := by
  simp [execOp, hc, go_sem]
/-- Numbers. -/
theorem x_int {op : BinOp} {x y : Operand} {k : IntKind} {a b : Int} {T T' : TypeId} {r : Value} (hx : ρ x = .int k a) (hy : ρ y = .int k b) (hr : (binOp op T (.int k a) (.int k b)).run P w = .ok r w) :
    (execOp ρ ⟨d, .binOp op T x y T', ty, pos, after, g⟩).run P w = .ok (.value r) w := by
  simp only [execOp, hx, hy]
  have he : (eqGuard op T x y (.int k a) (.int k b)).run P w = .ok () w := by
    unfold eqGuard
    cases op <;> rfl
  simp [Sem.run_bind, he, hr]
theorem x_add {x y : Operand} {k : IntKind} {a b : Int} {T T' : TypeId} (hx : ρ x = .int k a) (hy : ρ y = .int k b) (hw : k.wrap (a + b) = a + b) :
    (execOp ρ ⟨d, .binOp .add T x y T', ty, pos, after, g⟩).run P w = .ok (.value (.int k (a + b))) w := x_int hx hy (by simp [binOp, Op.intArith, hw, go_sem])
theorem x_sub {x y : Operand} {k : IntKind} {a b : Int} {T T' : TypeId} (hx : ρ x = .int k a) (hy : ρ y = .int k b) (hw : k.wrap (a - b) = a - b) :
    (execOp ρ ⟨d, .binOp .sub T x y T', ty, pos, after, g⟩).run P w = .ok (.value (.int k (a - b))) w := x_int hx hy (by simp [binOp, Op.intArith, hw, go_sem])
theorem x_mul {x y : Operand} {k : IntKind} {a b : Int} {T T' : TypeId} (hx : ρ x = .int k a) (hy : ρ y = .int k b) (hw : k.wrap (a * b) = a * b) :
    (execOp ρ ⟨d, .binOp .mul T x y T', ty, pos, after, g⟩).run P w = .ok (.value (.int k (a * b))) w := x_int hx hy (by simp [binOp, Op.intArith, hw, go_sem])
theorem x_addw {x y : Operand} {k : IntKind} {a b : Int} {T T' : TypeId} (hx : ρ x = .int k a) (hy : ρ y = .int k b) :
    (execOp ρ ⟨d, .binOp .add T x y T', ty, pos, after, g⟩).run P w = .ok (.value (.int k (k.wrap (a + b)))) w := x_int hx hy (by simp [binOp, Op.intArith, go_sem])
theorem x_subw {x y : Operand} {k : IntKind} {a b : Int} {T T' : TypeId} (hx : ρ x = .int k a) (hy : ρ y = .int k b) :
    (execOp ρ ⟨d, .binOp .sub T x y T', ty, pos, after, g⟩).run P w = .ok (.value (.int k (k.wrap (a - b)))) w := x_int hx hy (by simp [binOp, Op.intArith, go_sem])
theorem x_mulw {x y : Operand} {k : IntKind} {a b : Int} {T T' : TypeId} (hx : ρ x = .int k a) (hy : ρ y = .int k b) :
    (execOp ρ ⟨d, .binOp .mul T x y T', ty, pos, after, g⟩).run P w = .ok (.value (.int k (k.wrap (a * b)))) w := x_int hx hy (by simp [binOp, Op.intArith, go_sem])
theorem x_lss {x y : Operand} {k : IntKind} {a b : Int} {T T' : TypeId} (hx : ρ x = .int k a) (hy : ρ y = .int k b) :
    (execOp ρ ⟨d, .binOp .lss T x y T', ty, pos, after, g⟩).run P w = .ok (.value (.bool (decide (a < b)))) w := x_int hx hy (by simp [binOp, Op.intCmp, go_sem])
theorem x_leq {x y : Operand} {k : IntKind} {a b : Int} {T T' : TypeId} (hx : ρ x = .int k a) (hy : ρ y = .int k b) :
    (execOp ρ ⟨d, .binOp .leq T x y T', ty, pos, after, g⟩).run P w = .ok (.value (.bool (decide (a ≤ b)))) w := x_int hx hy (by simp [binOp, Op.intCmp, go_sem])
theorem x_gtr {x y : Operand} {k : IntKind} {a b : Int} {T T' : TypeId} (hx : ρ x = .int k a) (hy : ρ y = .int k b) :
    (execOp ρ ⟨d, .binOp .gtr T x y T', ty, pos, after, g⟩).run P w = .ok (.value (.bool (decide (b < a)))) w := x_int hx hy (by simp [binOp, Op.intCmp, go_sem])
theorem x_geq {x y : Operand} {k : IntKind} {a b : Int} {T T' : TypeId} (hx : ρ x = .int k a) (hy : ρ y = .int k b) :
    (execOp ρ ⟨d, .binOp .geq T x y T', ty, pos, after, g⟩).run P w = .ok (.value (.bool (decide (b ≤ a)))) w := x_int hx hy (by simp [binOp, Op.intCmp, go_sem])
theorem x_eql {x y : Operand} {k : IntKind} {a b : Int} {T T' : TypeId} (hx : ρ x = .int k a) (hy : ρ y = .int k b) :
    (execOp ρ ⟨d, .binOp .eql T x y T', ty, pos, after, g⟩).run P w = .ok (.value (.bool (decide (a = b)))) w := x_int hx hy (by simp [binOp, Op.intCmp, go_sem]; rfl)
theorem x_neq {x y : Operand} {k : IntKind} {a b : Int} {T T' : TypeId} (hx : ρ x = .int k a) (hy : ρ y = .int k b) :
    (execOp ρ ⟨d, .binOp .neq T x y T', ty, pos, after, g⟩).run P w = .ok (.value (.bool (!decide (a = b)))) w := x_int hx hy (by simp [binOp, Op.intCmp, go_sem]; rfl)
end
/-- 32 bytes. -/
abbrev H := { h : ByteArray // h.size = 32 }
/-- The cells of bytes. -/
def bv (h : ByteArray) : Array Value := h.data.map fun b => .int .u8 (b.toNat : Int)
theorem bv_size (h : ByteArray) : (bv h).size = h.size := Array.size_map
theorem bv_get (h : ByteArray) (i : Nat) : (bv h)[i]? = (h.data[i]?).map fun b => .int .u8 (b.toNat : Int) := by simp [bv]
abbrev hv (h : H) : Array Value := bv h.1
theorem hv_size (h : H) : (hv h).size = 32 := (bv_size h.1).trans h.2
theorem bv_inj {a b : ByteArray} (h : bv a = bv b) : a = b := by
  have hz : a.data.size = b.data.size := by have := congrArg Array.size h; simpa [bv] using this
  apply ByteArray.ext
  apply Array.ext hz
  intro i h1 h2
  have := congrArg (fun x : Array Value => x[i]?) h
  simp only [bv_get, Array.getElem?_eq_getElem h1, Array.getElem?_eq_getElem h2, Option.map_some] at this
  injection this with this
  injection this with _ this
  exact UInt8.toNat_inj.1 (by exact_mod_cast this)
section
variable {P : Program} {ρ : Operand → Value} {w : World} {d : Option Nat} {ty : TypeId} {pos : String} {after : Array Edge} {g : Option (Nat × Bool)}
theorem lift_v {s : Sem Value} {v : Value} {w' : World} (h : s.run P w = .ok v w') : (do pure (Next.value (← s)) : Sem Next).run P w = .ok (.value v) w' := by
  rw [Sem.run_bind, h]
  rfl
theorem lift_u {s : Sem Unit} {w' : World} (h : s.run P w = .ok () w') : (do s; pure Next.skip : Sem Next).run P w = .ok .skip w' := by
  rw [Sem.run_bind, h]
  rfl
/-- A new variable. -/
theorem x_alloc {T : TypeId} {z : Value} {i : TypeInfo} (hi : P.info? T = some i) (hz : i.zero = some z) :
    (execOp ρ ⟨d, .alloc T, ty, pos, after, g⟩).run P w = .ok (.value (.pointer (some ⟨w.heap.size, 0, none⟩))) (w.alloc (.cells z.cells T)) := by
  refine lift_v ?_
  simp [Instr.alloc, zeroValue, typeInfo, hi, hz, newVar, newRow, go_sem]
theorem x_box {T : TypeId} {x : Operand} {v : Value} (hx : ρ x = v) :
    (execOp ρ ⟨d, .box T x, ty, pos, after, g⟩).run P w = .ok (.value (.pointer (some ⟨w.heap.size, 0, none⟩))) (w.alloc (.cells v.cells T)) := by
  refine lift_v ?_
  simp [Instr.box, hx, newVar, newRow, go_sem]
/-- A whole row is read. -/
theorem x_load_row {T : TypeId} {x : Operand} {gb t n : Nat} {row : Array Value} {fr : Nat × Nat} {dd : TypeDesc} (hx : ρ x = .pointer (some ⟨gb, 0, none⟩)) (hg : w.heap[gb]? = some (.cells row t fr))
    (hu : P.underlying T = some dd) (hd : (match dd with | .struct _ | .array _ _ => true | _ => false) = true) (hi : (P.info? T).map (·.size) = some n) (hn : row.size = n) :
    (execOp ρ ⟨d, .load T x, ty, pos, after, g⟩).run P w = .ok (.value (.agg row)) w := by
  refine lift_v ?_
  simp only [hx, Instr.loadAt, Instr.sureAddr, Sem.run_bind, Sem.run_pure, Result.andThen_ok]
  exact run_loadVar_row w gb t T row fr dd hg hu hd (by rw [hn]; exact hi)
/-- One cell is read. -/
theorem x_load_cell {T : TypeId} {x : Operand} {a : Addr} {v : Value} {dd : TypeDesc} (hx : ρ x = .pointer (some a)) (hc : w.cell? a = some v)
    (hu : P.underlying T = some dd) (hd : (match dd with | .struct _ | .array _ _ => true | _ => false) = false) :
    (execOp ρ ⟨d, .load T x, ty, pos, after, g⟩).run P w = .ok (.value v) w := by
  refine lift_v ?_
  have hagg : (isAgg T).run P w = .ok false w := by
    unfold isAgg
    rw [Sem.run_bind, run_underlying hu w]
    cases dd <;> simp_all
  simp only [hx, Instr.loadAt, Instr.sureAddr, Sem.run_bind, Sem.run_pure, Result.andThen_ok, loadVar, hagg]
  simp [go_sem, hc]
/-- Cells of a block are written. -/
def splice (row : Array Value) (off : Nat) (news : Array Value) : Array Value := (row.toList.take off ++ news.toList ++ row.toList.drop (off + news.size)).toArray
theorem splice_size (row : Array Value) (off : Nat) (news : Array Value) (h : off + news.size ≤ row.size) : (splice row off news).size = row.size := by
  simp [splice]
  omega
theorem splice_all (row news : Array Value) (h : news.size = row.size) : splice row 0 news = news := by
  simp [splice, h, List.drop_eq_nil_of_le]
theorem splice_one (row : Array Value) (i : Nat) (v : Value) (h : i < row.size) : splice row i #[v] = row.setIfInBounds i v := by
  apply Array.toList_inj.1
  simp [splice, List.set_eq_take_append_cons_drop, h]
theorem x_store {T : TypeId} {x y : Operand} {gb off t n : Nat} {row : Array Value} {v : Value} (hx : ρ x = .pointer (some ⟨gb, off, none⟩)) (hy : ρ y = v) (hg : w.heap[gb]? = some (.cells row t (0, 0)))
    (hi : (P.info? T).map (·.size) = some n) (hn : v.cells.size = n) (hfit : off + n ≤ row.size) (h1 : ∀ u ∈ v.cells.toList, u.oneCell' = true) :
    (execOp ρ ⟨d, .store T x y, ty, pos, after, g⟩).run P w = .ok .skip (w.setRow gb (splice row off v.cells)) := by
  refine lift_u ?_
  cases hq : P.info? T with
  | none => simp [hq] at hi
  | some i =>
    have hs : i.size = n := by simpa [hq] using hi
    have hst := run_storeCells_at (P := P) gb off t v.cells.toList 0 row w hg (by simp; omega) h1
    simp [hx, hy, Instr.storeAt, Instr.sureAddr, storeVar, sizeOf, typeInfo, hq, hs, hn, Sem.run_bind]
    rw [hst]
    simp [splice]
theorem x_nilCheck {x : Operand} {a : Addr} (hx : ρ x = .pointer (some a)) : (execOp ρ ⟨d, .nilCheck x, ty, pos, after, g⟩).run P w = .ok (.value (.pointer (some a))) w := by
  simp [execOp, hx, go_sem]
theorem x_quo {x y : Operand} {k : IntKind} {a b : Int} {T T' : TypeId} (hx : ρ x = .int k a) (hy : ρ y = .int k b) (h0 : 0 ≤ a) (h1 : 0 < b) (hw : k.wrap (a / b) = a / b) :
    (execOp ρ ⟨d, .binOp .quo T x y T', ty, pos, after, g⟩).run P w = .ok (.value (.int k (a / b))) w := x_int hx hy (by
  have : a.tdiv b = a / b := Int.tdiv_eq_ediv_of_nonneg h0
  simp only [binOp, Op.intDiv, if_neg (show ¬ b = 0 by omega), this, hw]
  simp [go_sem])
theorem x_rem {x y : Operand} {k : IntKind} {a b : Int} {T T' : TypeId} (hx : ρ x = .int k a) (hy : ρ y = .int k b) (h0 : 0 ≤ a) (h1 : 0 < b) :
    (execOp ρ ⟨d, .binOp .rem T x y T', ty, pos, after, g⟩).run P w = .ok (.value (.int k (a % b))) w := x_int hx hy (by
  have : a.tmod b = a % b := Int.tmod_eq_emod_of_nonneg h0
  simp only [binOp, Op.intDiv, if_neg (show ¬ b = 0 by omega), this]
  simp [go_sem])
theorem x_shr {x y : Operand} {k k' : IntKind} {a b : Int} {T T' : TypeId} (hx : ρ x = .int k a) (hy : ρ y = .int k' b) (h0 : 0 ≤ b) :
    (execOp ρ ⟨d, .binOp .shr T x y T', ty, pos, after, g⟩).run P w = .ok (.value (.int k (a.fdiv (2 ^ (min b.toNat k.bits))))) w := by
  have he : (eqGuard .shr T x y (.int k a) (.int k' b)).run P w = .ok () w := rfl
  simp only [execOp, hx, hy]
  simp [Sem.run_bind, he, binOp, Op.shift, if_neg (show ¬ b < 0 by omega)]
theorem x_shl {x y : Operand} {k k' : IntKind} {a b : Int} {T T' : TypeId} (hx : ρ x = .int k a) (hy : ρ y = .int k' b) (h0 : 0 ≤ b) :
    (execOp ρ ⟨d, .binOp .shl T x y T', ty, pos, after, g⟩).run P w = .ok (.value (.int k (k.wrap (a * 2 ^ (min b.toNat k.bits))))) w := by
  have he : (eqGuard .shl T x y (.int k a) (.int k' b)).run P w = .ok () w := rfl
  simp only [execOp, hx, hy]
  simp [Sem.run_bind, he, binOp, Op.shift, if_neg (show ¬ b < 0 by omega)]
/-- and, or, xor, and-not of numbers. -/
def bitop (op : BinOp) (k : IntKind) (a b : Int) : Int :=
  match op with
  | .and => k.wrap ((BitVec.ofInt k.bits a &&& BitVec.ofInt k.bits b).toNat : Int)
  | .or => k.wrap ((BitVec.ofInt k.bits a ||| BitVec.ofInt k.bits b).toNat : Int)
  | .xor => k.wrap ((BitVec.ofInt k.bits a ^^^ BitVec.ofInt k.bits b).toNat : Int)
  | _ => k.wrap ((BitVec.ofInt k.bits a &&& ~~~BitVec.ofInt k.bits b).toNat : Int)
theorem x_and {x y : Operand} {k : IntKind} {a b : Int} {T T' : TypeId} (hx : ρ x = .int k a) (hy : ρ y = .int k b) :
    (execOp ρ ⟨d, .binOp .and T x y T', ty, pos, after, g⟩).run P w = .ok (.value (.int k (bitop .and k a b))) w := x_int hx hy (by simp [binOp, Op.intBits, bitop])
theorem x_or {x y : Operand} {k : IntKind} {a b : Int} {T T' : TypeId} (hx : ρ x = .int k a) (hy : ρ y = .int k b) :
    (execOp ρ ⟨d, .binOp .or T x y T', ty, pos, after, g⟩).run P w = .ok (.value (.int k (bitop .or k a b))) w := x_int hx hy (by simp [binOp, Op.intBits, bitop])
theorem x_xor {x y : Operand} {k : IntKind} {a b : Int} {T T' : TypeId} (hx : ρ x = .int k a) (hy : ρ y = .int k b) :
    (execOp ρ ⟨d, .binOp .xor T x y T', ty, pos, after, g⟩).run P w = .ok (.value (.int k (bitop .xor k a b))) w := x_int hx hy (by simp [binOp, Op.intBits, bitop])
theorem x_andNot {x y : Operand} {k : IntKind} {a b : Int} {T T' : TypeId} (hx : ρ x = .int k a) (hy : ρ y = .int k b) :
    (execOp ρ ⟨d, .binOp .andNot T x y T', ty, pos, after, g⟩).run P w = .ok (.value (.int k (bitop .andNot k a b))) w := x_int hx hy (by simp [binOp, Op.intBits, bitop])
theorem x_not {x : Operand} {b : Bool} {T : TypeId} (hx : ρ x = .bool b) : (execOp ρ ⟨d, .unOp .not T x, ty, pos, after, g⟩).run P w = .ok (.value (.bool (!b))) w := by
  refine lift_v ?_
  simp [hx, Op.unary]
theorem x_convw {x : Operand} {k k' : IntKind} {a : Int} {T T' : TypeId} {dd : TypeDesc} (hx : ρ x = .int k a) (hs : P.underlying T = some dd) (hu : P.underlying T' = some (.int k')) :
    (execOp ρ ⟨d, .convert T T' x, ty, pos, after, g⟩).run P w = .ok (.value (.int k' (k'.wrap a))) w := by
  refine lift_v ?_
  simp [hx, convert, run_underlying hs, run_underlying hu, Conv.intToInt]
theorem x_conv {x : Operand} {k k' : IntKind} {a : Int} {T T' : TypeId} {dd : TypeDesc} (hx : ρ x = .int k a) (hs : P.underlying T = some dd) (hu : P.underlying T' = some (.int k')) (hw : k'.wrap a = a) :
    (execOp ρ ⟨d, .convert T T' x, ty, pos, after, g⟩).run P w = .ok (.value (.int k' a)) w := by
  rw [x_convw hx hs hu, hw]
theorem str_beq (a b : ByteArray) : (a.toList == b.toList) = decide (a = b) := by
  rw [ByteArray.toList_eq, ByteArray.toList_eq]
  by_cases h : a = b
  · subst h; simp
  · rw [decide_eq_false h]
    refine beq_eq_false_iff_ne.2 fun e => h (ByteArray.ext ?_)
    exact Array.toList_inj.1 e
theorem x_cat {x y : Operand} {a b : ByteArray} {T T' : TypeId} (hx : ρ x = .string a) (hy : ρ y = .string b) (hz : a.size + b.size ≤ 9223372036854775807) :
    (execOp ρ ⟨d, .binOp .add T x y T', ty, pos, after, g⟩).run P w = .ok (.value (.string (a ++ b))) w := by
  refine lift_v ?_
  have he : (eqGuard .add T x y (.string a) (.string b)).run P w = .ok () w := rfl
  simp only [hx, hy]
  simp [Sem.run_bind, he, binOp, Op.stringOp]
  omega
theorem x_seq {x y : Operand} {a b : ByteArray} {T T' : TypeId} (hx : ρ x = .string a) (hy : ρ y = .string b) :
    (execOp ρ ⟨d, .binOp .eql T x y T', ty, pos, after, g⟩).run P w = .ok (.value (.bool (decide (a = b)))) w := by
  refine lift_v ?_
  have he : (eqGuard .eql T x y (.string a) (.string b)).run P w = .ok () w := rfl
  simp only [hx, hy]
  simp [Sem.run_bind, he, binOp, Op.stringOp, str_beq]
theorem x_sne {x y : Operand} {a b : ByteArray} {T T' : TypeId} (hx : ρ x = .string a) (hy : ρ y = .string b) :
    (execOp ρ ⟨d, .binOp .neq T x y T', ty, pos, after, g⟩).run P w = .ok (.value (.bool (!decide (a = b)))) w := by
  refine lift_v ?_
  have he : (eqGuard .neq T x y (.string a) (.string b)).run P w = .ok () w := rfl
  simp only [hx, hy]
  simp [Sem.run_bind, he, binOp, Op.stringOp, str_beq]
theorem x_len_str {x : Operand} {s : ByteArray} {T : TypeId} (hx : ρ x = .string s) (hu : P.underlying T = some .string) :
    (execOp ρ ⟨d, .call { callee := .builtin .len, args := #[x], argTypes := #[T] }, ty, pos, after, g⟩).run P w = .ok (.value (.int .i64 s.size)) w := by
  simp [execOp, resolve, invoke, builtin, Builtin.len_, hx, run_underlying hu, goInt]
theorem x_len_slc {x : Operand} {A : Option Addr} {n c : Nat} {T e : TypeId} (hx : ρ x = .slice A n c) (hu : P.underlying T = some (.slice e)) :
    (execOp ρ ⟨d, .call { callee := .builtin .len, args := #[x], argTypes := #[T] }, ty, pos, after, g⟩).run P w = .ok (.value (.int .i64 n)) w := by
  simp [execOp, resolve, invoke, builtin, Builtin.len_, hx, run_underlying hu, goInt]
theorem x_extract {x : Operand} {vs : Array Value} {v : Value} {i : Nat} (hx : ρ x = .tuple vs) (hv : vs[i]? = some v) : (execOp ρ ⟨d, .extract x i, ty, pos, after, g⟩).run P w = .ok (.value v) w := by
  refine lift_v ?_
  simp [hx, Instr.extract, hv]
theorem x_makeFunc {fn : Fn} {a b : Array Operand} : (execOp ρ ⟨d, .makeFunc fn a b, ty, pos, after, g⟩).run P w = .ok (.value (.func fn (a.map ρ) (b.map ρ))) w := rfl
/-- A call of a Go function that has a body. -/
theorem x_call {x : Operand} {xs : Array Operand} {ts : Array TypeId} {f : FuncId} {caps : Array Value} {fn : Func} {vs : Array Value} (hx : ρ x = .func (.func f) #[] caps) (hf : P.funcs[f]? = some fn)
    (hnm : (fn.name == "runtime.NumGoroutine") = false) (hb : fn.body.isNone = false) (hv : xs.map ρ ++ caps = vs) :
    (execOp ρ ⟨d, .call { callee := .value x, args := xs, argTypes := ts }, ty, pos, after, g⟩).run P w = .ok (.enter f vs) w := by
  subst hv
  have h1 : fn.name ≠ "runtime.NumGoroutine" := by simpa using hnm
  have h2 : ¬ fn.body = none := by intro h; rw [h] at hb; simp at hb
  simp [execOp, resolve, hx, Deferred.ofValue, invoke, callFunc, Sem.run_bind, hf, h1, h2]
end
section
variable {P : Program} {ρ : Operand → Value} {w : World} {d : Option Nat} {ty : TypeId} {pos : String} {after : Array Edge} {g : Option (Nat × Bool)}
theorem x_slice_arr {T e n gb : Nat} {x : Operand} (hx : ρ x = .pointer (some ⟨gb, 0, none⟩)) (hu : P.underlying T = some (.array n e)) {sz : Nat} (hs : (P.info? e).map (·.size) = some sz) :
    (execOp ρ ⟨d, .slice T x none none none, ty, pos, after, g⟩).run P w = .ok (.value (.slice (some ⟨gb, 0, none⟩) n n)) w := by
  refine lift_v ?_
  cases hq : P.info? e with
  | none => simp [hq] at hs
  | some i =>
  simp [hx, Instr.sliceAt, run_underlying hu, Instr.sureAddr, Instr.sliceBounds, sizeOf, typeInfo, hq, Addr.add]
theorem x_slice_str {T : Nat} {x y z : Operand} {s : ByteArray} {k k' : IntKind} {a b : Int} (hx : ρ x = .string s) (hy : ρ y = .int k a) (hz : ρ z = .int k' b) (hu : P.underlying T = some .string) (h0 : 0 ≤ a) (h1 : a ≤ b) (h2 : b ≤ s.size) :
    (execOp ρ ⟨d, .slice T x (some y) (some z) none, ty, pos, after, g⟩).run P w = .ok (.value (.string (s.extract a.toNat b.toNat))) w := by
  refine lift_v ?_
  simp [hx, hy, hz, Instr.sliceAt, Instr.slice, run_underlying hu, Instr.sliceBounds, Instr.sliceBound, asIntOf, h0, h2, show 0 ≤ b by omega, show a ≤ (b.toNat : Int) by omega]
  intro h
  omega
theorem x_slice_strl {T : Nat} {x y : Operand} {s : ByteArray} {k : IntKind} {a : Int} (hx : ρ x = .string s) (hy : ρ y = .int k a) (hu : P.underlying T = some .string) (h0 : 0 ≤ a) (h1 : a ≤ s.size) :
    (execOp ρ ⟨d, .slice T x (some y) none none, ty, pos, after, g⟩).run P w = .ok (.value (.string (s.extract a.toNat s.size))) w := by
  refine lift_v ?_
  simp [hx, hy, Instr.sliceAt, Instr.slice, run_underlying hu, Instr.sliceBounds, Instr.sliceBound, asIntOf, h0, h1]
theorem x_slice_strh {T : Nat} {x z : Operand} {s : ByteArray} {k : IntKind} {b : Int} (hx : ρ x = .string s) (hz : ρ z = .int k b) (hu : P.underlying T = some .string) (h0 : 0 ≤ b) (h1 : b ≤ s.size) :
    (execOp ρ ⟨d, .slice T x none (some z) none, ty, pos, after, g⟩).run P w = .ok (.value (.string (s.extract 0 b.toNat))) w := by
  refine lift_v ?_
  simp [hx, hz, Instr.sliceAt, Instr.slice, run_underlying hu, Instr.sliceBounds, Instr.sliceBound, asIntOf, h0, h1]
/-- The address of an element of a row. -/
theorem x_index_row {T e n gb sz : Nat} {x y : Operand} {k : IntKind} {i : Int} (hx : ρ x = .pointer (some ⟨gb, 0, none⟩)) (hy : ρ y = .int k i) (hu : P.underlying T = some (.array n e)) (hs : (P.info? e).map (·.size) = some sz) (h0 : 0 ≤ i) (h1 : i < n) :
    (execOp ρ ⟨d, .indexAddr T x y, ty, pos, after, g⟩).run P w = .ok (.value (.pointer (some ⟨gb, i.toNat * sz, none⟩))) w := by
  refine lift_v ?_
  cases hq : P.info? e with
  | none => simp [hq] at hs
  | some i =>
  have hz : i.size = sz := by simpa [hq] using hs
  simp [hx, hy, Instr.indexAt, run_underlying hu, Instr.sureAddr, asIntOf, h0, h1, sizeOf, typeInfo, hq, hz, Addr.add]
  exact fun h => h.symm
theorem x_str_at {T : Nat} {x y : Operand} {s : ByteArray} {k : IntKind} {i : Int} (hx : ρ x = .string s) (hy : ρ y = .int k i) (hu : P.underlying T = some .string) (h0 : 0 ≤ i) (h1 : i.toNat < s.size) :
    (execOp ρ ⟨d, .index T x y, ty, pos, after, g⟩).run P w = .ok (.value (.int .u8 (s[i.toNat].toNat : Int))) w := by
  refine lift_v ?_
  have hg : s[i.toNat]? = some s[i.toNat] := getElem?_pos s i.toNat h1
  simp [hx, hy, Instr.index, run_underlying hu, asIntOf, h0, hg]
theorem x_bytes {src e dst gb t n cap : Nat} {fr : Nat × Nat} {x : Operand} {h : ByteArray} (hx : ρ x = .slice (some ⟨gb, 0, none⟩) n cap) (hg : w.heap[gb]? = some (.cells (bv h) t fr)) (hs : P.underlying src = some (.slice e)) (he : P.underlying e = some (.int .u8)) (hd : P.underlying dst = some .string)
    (hn : h.size = n) : (execOp ρ ⟨d, .convert src dst x, ty, pos, after, g⟩).run P w = .ok (.value (.string h)) w := by
  refine lift_v ?_
  rw [hx]
  have hl : (h.data.toList.map fun b => (b.toNat : Int)).length = n := by rw [List.length_map, Array.length_toList]; exact hn
  have := run_convert_bytes_arg (P := P) w src e hs he gb 0 n cap (h.data.toList.map fun b => (b.toNat : Int)) hl (fun i hi => by
    have hi' : i < h.data.size := by rw [← hn] at hi; exact hi
    rw [Nat.zero_add, cell_of_row w gb i _ _ _ hg, bv_get, Array.getElem?_eq_getElem hi']
    simp
    rw [Array.getElem?_eq_getElem hi']
    rfl) dst hd
  rw [this]
  congr 2
  apply ByteArray.ext
  show ((h.data.toList.map fun b => (b.toNat : Int)).map fun n => UInt8.ofNat n.toNat).toArray = h.data
  rw [List.map_map]
  have : ((fun n : Int => UInt8.ofNat n.toNat) ∘ fun b : UInt8 => (b.toNat : Int)) = id := by funext b; simp
  rw [this]
  simp
end
section
variable {P : Program}
theorem mapM_range {α : Type} (f : Nat → Option α) (gg : Nat → α) : ∀ l : List Nat, (∀ i ∈ l, f i = some (gg i)) → l.mapM f = some (l.map gg)
  | [], _ => by simp
  | i :: l, h => by
    rw [List.mapM_cons, h i (by simp), mapM_range f gg l (fun j hj => h j (by simp [hj]))]
    rfl
theorem lits_bytes {t e n : Nat} (ht : P.underlying t = some (.array n e)) (he : P.underlying e = some (.int .u8)) (ct : P.cellsOf t = n) (ce : P.cellsOf e = 1) (D : Nat) (a : ByteArray) (ha : a.size = n) :
    ∃ l, P.keyLits (D + 2) t (bv a).toList = some l := by
  refine ⟨((List.range n).map fun i => [Lit.int .u8 ((a.data.toList.getD i 0).toNat : Int)]).flatten, ?_⟩
  have hl : (bv a).toList.length = P.cellsOf t := by rw [Array.length_toList, bv_size, ha, ct]
  unfold Program.keyLits
  rw [ht]
  simp only []
  rw [if_pos hl, mapM_range _ (fun i => [Lit.int .u8 ((a.data.toList.getD i 0).toNat : Int)])]
  · rfl
  · intro i hi
    have hi' : i < n := List.mem_range.1 hi
    have hid : i < a.data.size := by rw [← ha] at hi'; exact hi'
    have hc : ((bv a).toList.drop (i * P.cellsOf e)).take (P.cellsOf e) = [.int .u8 ((a.data.toList.getD i 0).toNat : Int)] := by
      have h1 : i < (bv a).toList.length := by rw [Array.length_toList, bv_size]; exact hid
      rw [ce, Nat.mul_one, List.drop_eq_getElem_cons h1]
      simp only [List.take_succ_cons, List.take_zero]
      congr 1
      simp [bv]
      rw [Array.getElem?_eq_getElem hid]
      rfl
    rw [hc]
    unfold Program.keyLits
    rw [he]
    simp only []
    have hlt := (a.data.toList.getD i 0).toNat_lt
    have hwf : (Lit.int .u8 ((a.data.toList.getD i 0).toNat : Int)).wf = true := by
      simp only [Lit.wf, IntKind.min, IntKind.max, IntKind.bits, IntKind.signed, Bool.and_eq_true, decide_eq_true_eq, Bool.false_eq_true, if_false]
      omega
    rw [if_pos ⟨trivial, hwf⟩]
theorem eq_deep {m m' t : Nat} (hk : P.keyTypeAt m t = true) (hm : m ≤ 10000) (htl : P.tiled m' t = true) {xs ys : Array Value} (fx : (Value.agg xs).formed P t = true) (fy : (Value.agg ys).formed P t = true)
    {D : Nat} {la lb : List Lit} (hx : P.keyLits D t xs.toList = some la) (hy : P.keyLits D t ys.toList = some lb) (w : World) :
    ∃ r : Bool, (Op.equalIn 10000 t (.agg xs) (.agg ys)).run P w = .ok r w ∧ (r = true ↔ xs = ys) := by
  obtain ⟨r, hr, hiff⟩ := run_equalIn_deep (10000 - m) m t hk w D D (.agg xs) (.agg ys) la lb fx fy hx hy
  rw [show 10000 - m + m = 10000 by omega] at hr
  refine ⟨r, hr, hiff.trans ⟨fun e => ?_, fun e => ?_⟩⟩
  · subst e
    exact Array.toList_inj.1 ((cells_of_lits m' t htl D _ _ hx).trans (cells_of_lits m' t htl D _ _ hy).symm)
  · subst e
    exact Option.some.inj (hx.symm.trans hy)
/-- Bytes of one length are held against each other. -/
theorem eq_bytes {t e n : Nat} (ht : P.underlying t = some (.array n e)) (he : P.underlying e = some (.int .u8)) (ct : P.cellsOf t = n) (ce : P.cellsOf e = 1) (a b : ByteArray) (ha : a.size = n) (hb : b.size = n) (w : World) :
    (Op.equalIn 10000 t (.agg (bv a)) (.agg (bv b))).run P w = .ok (decide (a = b)) w := by
  obtain ⟨la, hla⟩ := lits_bytes ht he ct ce 0 a ha
  obtain ⟨lb, hlb⟩ := lits_bytes ht he ct ce 0 b hb
  obtain ⟨r, hr, hiff⟩ := eq_deep (P := P) (m := 2) (m' := 2) (t := t) (by simp [Program.keyTypeAt, ht, he]) (by omega) (by simp [Program.tiled, ht, he, ct, ce]) (by simp [Value.formed, ht, bv_size, ha, ct]) (by simp [Value.formed, ht, bv_size, hb, ct]) hla hlb w
  rw [hr]
  congr 1
  rw [Bool.eq_iff_iff, hiff]
  simp only [decide_eq_true_eq]
  exact ⟨bv_inj, fun h => by rw [h]⟩
variable {ρ : Operand → Value} {w : World} {d : Option Nat} {ty : TypeId} {pos : String} {after : Array Edge} {g : Option (Nat × Bool)}
/-- What a pair of aggregates is held to. -/
theorem x_eql_agg {x y : Operand} {T T' : TypeId} {xs ys : Array Value} {r : Bool} (hx : ρ x = .agg xs) (hy : ρ y = .agg ys) (hm : P.eqGuardType P.depth T = false) (hr : (Op.equalIn 10000 T (.agg xs) (.agg ys)).run P w = .ok r w) :
    (execOp ρ ⟨d, .binOp .eql T x y T', ty, pos, after, g⟩).run P w = .ok (.value (.bool r)) w := by
  refine lift_v ?_
  simp only [hx, hy, Sem.run_bind, run_eqGuard_agg w .eql T x y xs ys hm, Result.andThen_ok, run_eql_struct, hr]
theorem x_neq_agg {x y : Operand} {T T' : TypeId} {xs ys : Array Value} {r : Bool} (hx : ρ x = .agg xs) (hy : ρ y = .agg ys) (hm : P.eqGuardType P.depth T = false) (hr : (Op.equalIn 10000 T (.agg xs) (.agg ys)).run P w = .ok r w) :
    (execOp ρ ⟨d, .binOp .neq T x y T', ty, pos, after, g⟩).run P w = .ok (.value (.bool (!r))) w := by
  refine lift_v ?_
  simp only [hx, hy, Sem.run_bind, run_eqGuard_agg w .neq T x y xs ys hm, Result.andThen_ok, run_neq_struct, hr]
end
/-- How cells tell a datum; what lies behind them lies in the blocks F. -/
structure Rp (α : Type) where
  ok : (Nat → Prop) → World → Array Value → α → Prop
  loc : ∀ (F : Nat → Prop) (w w' : World) cs x, (∀ b, F b → w'.heap[b]? = w.heap[b]?) → ok F w cs x → ok F w' cs x
  mono : ∀ (F F' : Nat → Prop) w cs x, (∀ b, F b → F' b) → ok F w cs x → ok F' w cs x
/-- A datum without memory. -/
def pur {α : Type} (enc : α → Array Value) : Rp α where
  ok _ _ cs x := cs = enc x
  loc _ _ _ _ _ _ h := h
  mono _ _ _ _ _ _ h := h
theorem cell_keep {w w' : World} {a : Addr} (h : w'.heap[a.block]? = w.heap[a.block]?) : w'.cell? a = w.cell? a := World.cell?_of_block h
theorem add_block (a : Addr) (n : Nat) : (a.add n).block = a.block := by unfold Addr.add; split <;> rfl
theorem add_add' (a : Addr) (i j : Nat) : (a.add i).add j = a.add (i + j) := by
  unfold Addr.add
  by_cases hi : i = 0 <;> by_cases hj : j = 0 <;> simp [hi, hj, Nat.add_assoc]
/-- Cells that stand one behind the other. -/
def cellsAt (w : World) (a : Addr) (row : Array Value) : Prop := ∀ j, j < row.size → w.cell? (a.add j) = row[j]?
theorem cellsAt.keep {w w' : World} {a : Addr} {row : Array Value} (h : cellsAt w a row) (hk : w'.heap[a.block]? = w.heap[a.block]?) : cellsAt w' a row :=
  fun j hj => (cell_keep (by rw [add_block]; exact hk)).trans (h j hj)
/-- The elements of a slice. -/
def slc {α : Type} (ρ : Rp α) (size : Nat) : Rp (List α) where
  ok F w cs xs := ∃ A n c, cs = #[.slice A n c] ∧ xs.length = n ∧ n ≤ c ∧ c ≤ maxLen ∧
    (0 < n → ∃ ad, A = some ad ∧ F ad.block ∧ ∀ i x, xs[i]? = some x → ∃ row : Array Value, row.size = size ∧ cellsAt w (ad.add (i * size)) row ∧ ρ.ok F w row x)
  loc F w w' cs xs hk h := by
    obtain ⟨A, n, c, h1, h2, h3, h4, h5⟩ := h
    refine ⟨A, n, c, h1, h2, h3, h4, fun hn => ?_⟩
    obtain ⟨ad, h6, h7, h8⟩ := h5 hn
    refine ⟨ad, h6, h7, fun i x hx => ?_⟩
    obtain ⟨row, h9, h10, h11⟩ := h8 i x hx
    exact ⟨row, h9, h10.keep (by rw [add_block]; exact hk _ h7), ρ.loc F w w' row x hk h11⟩
  mono F F' w cs xs hF h := by
    obtain ⟨A, n, c, h1, h2, h3, h4, h5⟩ := h
    refine ⟨A, n, c, h1, h2, h3, h4, fun hn => ?_⟩
    obtain ⟨ad, h6, h7, h8⟩ := h5 hn
    refine ⟨ad, h6, hF _ h7, fun i x hx => ?_⟩
    obtain ⟨row, h9, h10, h11⟩ := h8 i x hx
    exact ⟨row, h9, h10, ρ.mono F F' w row x hF h11⟩
/-- A value that tells a datum in a world. -/
def Has {α : Type} (w : World) (ρ : Rp α) (v : Value) (x : α) : Prop := ρ.ok (fun b => b < w.heap.size) w v.cells x
theorem Has.below {α : Type} {w w' : World} {ρ : Rp α} {v : Value} {x : α} (h : Has w ρ v x) (hb : Below w.heap.size w w') : Has w' ρ v x :=
  ρ.mono _ _ _ _ _ (fun _ h1 => Nat.lt_of_lt_of_le h1 hb.size) (ρ.loc _ w w' _ _ (fun b hb' => hb.block b hb') h)
theorem Has.pure {α : Type} {w : World} {enc : α → Array Value} {v : Value} {x : α} (h : v.cells = enc x) : Has w (pur enc) v x := h
/-- A piece: a value that tells a datum. -/
def val {α : Type} (ρ : Rp α) (v : Value) (x : α) : Chk where
  P F w := ρ.ok F w v.cells x
  loc F w w' hk h := ρ.loc F w w' _ _ hk h
theorem SL.has {α : Type} {w0 w : World} {L : List Chk} {ρ : Rp α} {v : Value} {x : α} (S : SL w0 L w) (h : At (val ρ v x) (val ρ v x) L L) : Has w ρ v x := by
  obtain ⟨F, h1, h2⟩ := S.get h
  exact ρ.mono _ _ _ _ _ (fun b hb => (h1 b hb).2) h2
theorem SL.old {α : Type} {w0 w : World} {L : List Chk} {ρ : Rp α} {v : Value} {x : α} (S : SL w0 L w) (h : Has w0 ρ v x) : Has w ρ v x := h.below S.below
/-- What a call hands back lies in new blocks. -/
def New {α : Type} (w w' : World) (ρ : Rp α) (v : Value) (x : α) : Prop := Below w.heap.size w w' ∧ ρ.ok (fun b => w.heap.size ≤ b ∧ b < w'.heap.size) w' v.cells x
theorem SL.new {α : Type} {w0 w w' : World} {L : List Chk} {ρ : Rp α} {v : Value} {x : α} (S : SL w0 L w) (h : New w w' ρ v x) : SL w0 (val ρ v x :: L) w' := S.push h.1 h.2
theorem SL.to_new {α : Type} {w0 w : World} {L : List Chk} {ρ : Rp α} {v : Value} {x : α} (S : SL w0 L w) (h : At (val ρ v x) (val ρ v x) L L) : New w0 w ρ v x := by
  obtain ⟨F, h1, h2⟩ := S.get h
  exact ⟨S.below, ρ.mono _ _ _ _ _ h1 h2⟩

section slices
variable {α : Type} {ρ : Rp α} {size : Nat} {w : World} {A : Option Addr} {n c : Nat} {xs : List α}
theorem Has.len (h : Has w (slc ρ size) (.slice A n c) xs) : n = xs.length ∧ n ≤ c ∧ c ≤ maxLen := by
  obtain ⟨A', n', c', h1, h2, h3, h4, _⟩ := h
  simp only [Value.cells, Array.mk.injEq, List.cons.injEq, Value.slice.injEq, and_true] at h1
  obtain ⟨_, rfl, rfl⟩ := h1
  exact ⟨h2.symm, h3, h4⟩
theorem Has.addr (h : Has w (slc ρ size) (.slice A n c) xs) {i : Nat} {x : α} (hx : xs[i]? = some x) : ∃ ad, A = some ad ∧ ad.block < w.heap.size ∧ ∃ row : Array Value, row.size = size ∧ cellsAt w (ad.add (i * size)) row ∧ ρ.ok (fun b => b < w.heap.size) w row x := by
  obtain ⟨A', n', c', h1, h2, h3, h4, h5⟩ := h
  simp only [Value.cells, Array.mk.injEq, List.cons.injEq, Value.slice.injEq, and_true] at h1
  obtain ⟨rfl, rfl, rfl⟩ := h1
  have hi : i < xs.length := by
    rcases Nat.lt_or_ge i xs.length with h | h
    · exact h
    · rw [List.getElem?_eq_none h] at hx; cases hx
  obtain ⟨ad, h6, h7, h8⟩ := h5 (by omega)
  exact ⟨ad, h6, h7, h8 i x hx⟩
theorem Has.nil : Has w (slc ρ size) (.slice none 0 0) ([] : List α) := ⟨none, 0, 0, rfl, rfl, Nat.le_refl _, Nat.zero_le _, fun h => absurd h (by omega)⟩
end slices
/-- The address of a cell of a slice. -/
def eaddr (A : Option Addr) (k : Nat) : Value := match A with
  | some ad => .pointer (some (ad.add k))
  | none => undef
/-- Memory that the call itself fills. -/
def own {α : Type} (enc : α → Array Value) (e size : Nat) (v : Value) (xs : List α) : Chk where
  P F w := w.ownsRow 0 e size v xs.length (xs.flatMap fun x => (enc x).toList) ∧ ∀ k, v.ownBlock = some k → F k
  loc F w w' hk h := by
    refine ⟨?_, h.2⟩
    obtain ⟨⟨h1, h2⟩, h3⟩ := h
    refine ⟨h1, ?_⟩
    rcases h2 with h2 | ⟨g, cap, cur, h4, h5, h6, h7⟩
    · exact .inl h2
    · exact .inr ⟨g, cap, cur, h4, h5, (hk g (h3 g (by rw [h4]; rfl))).trans h6, h7⟩
theorem flat_get {α : Type} {enc : α → Array Value} {size : Nat} (hs : ∀ x, (enc x).size = size) : ∀ (xs : List α) (i : Nat) (x : α), xs[i]? = some x → ∀ j, j < size → (xs.flatMap fun x => (enc x).toList)[i * size + j]? = (enc x)[j]?
  | [], i, x, h, _, _ => by simp at h
  | y :: ys, 0, x, h, j, hj => by
    simp at h
    subst h
    rw [List.flatMap_cons, Nat.zero_mul, Nat.zero_add, List.getElem?_append_left (by rw [Array.length_toList, hs]; exact hj)]
    simp
  | y :: ys, i + 1, x, h, j, hj => by
    have h' : ys[i]? = some x := by simpa using h
    rw [List.flatMap_cons, List.getElem?_append_right (by rw [Array.length_toList, hs, Nat.succ_mul]; omega), Array.length_toList, hs]
    rw [show (i + 1) * size + j - size = i * size + j by rw [Nat.succ_mul]; omega]
    exact flat_get hs ys i x h' j hj
theorem flat_len {α : Type} {enc : α → Array Value} {size : Nat} (hs : ∀ x, (enc x).size = size) : ∀ xs : List α, (xs.flatMap fun x => (enc x).toList).length = xs.length * size
  | [] => by simp
  | x :: xs => by rw [List.flatMap_cons, List.length_append, flat_len hs xs, Array.length_toList, hs, List.length_cons, Nat.succ_mul]; omega
section
variable {α : Type} {enc : α → Array Value} {e size : Nat} {w0 w : World} {L L' : List Chk}
theorem SL.own_nil (S : SL w0 L w) (enc : α → Array Value) (e size : Nat) : SL w0 (own enc e size (.slice none 0 0) [] :: L) w :=
  S.push (Below.refl _ _) ⟨⟨by simp, .inl ⟨rfl, rfl⟩⟩, fun k hk => by simp [Value.ownBlock] at hk⟩
/-- What was filled is read. -/
theorem own_val (hs : ∀ x, (enc x).size = size) {A : Option Addr} {n c : Nat} {xs : List α} (F : Nat → Prop) (w : World) (h : (own enc e size (.slice A n c) xs).P F w) : (val (slc (pur enc) size) (.slice A n c) xs).P F w := by
  obtain ⟨⟨h1, h2⟩, h3⟩ := h
  rcases h2 with ⟨h2, h4⟩ | ⟨g, cap, cur, h4, _, h6, h7, h8, h9, h10⟩
  · injection h2 with h5 h6 h7
    subst h5 h6 h7
    have hx : xs = [] := List.eq_nil_of_length_eq_zero h4
    subst hx
    exact ⟨none, 0, 0, rfl, rfl, Nat.le_refl _, Nat.zero_le _, fun h => absurd h (by omega)⟩
  · injection h4 with h5 h5' h5''
    subst h5 h5' h5''
    refine ⟨_, _, _, rfl, rfl, h7, h8, fun hn => ⟨_, rfl, h3 g rfl, fun i x hx => ⟨enc x, hs x, ?_, rfl⟩⟩⟩
    intro j hj
    rw [hs] at hj
    have hadd : ((⟨g, 0, none⟩ : Addr).add (i * size)).add j = ⟨g, i * size + j, none⟩ := by
      rw [add_add']
      unfold Addr.add
      split <;> simp_all
    rw [hadd, cell_of_row w g _ _ _ _ h6, ← flat_get hs xs i x hx j hj, ← h10, List.getElem?_take]
    have hi : i < xs.length := by
      rcases Nat.lt_or_ge i xs.length with h | h
      · exact h
      · rw [List.getElem?_eq_none h] at hx; cases hx
    have : i * size + j < xs.length * size := by
      have := Nat.mul_le_mul_right size (show i + 1 ≤ xs.length by omega)
      rw [Nat.succ_mul] at this
      omega
    rw [if_pos this]
    simp
theorem SL.own_to_val (S : SL w0 L w) (hs : ∀ x, (enc x).size = size) {A : Option Addr} {n c : Nat} {xs : List α} (h : At (own enc e size (.slice A n c) xs) (val (slc (pur enc) size) (.slice A n c) xs) L L') : SL w0 L' w :=
  S.say h fun F w => own_val hs F w
theorem SL.own_has (S : SL w0 L w) (hs : ∀ x, (enc x).size = size) {A : Option Addr} {n c : Nat} {xs : List α} (h : At (own enc e size (.slice A n c) xs) (own enc e size (.slice A n c) xs) L L) : Has w (slc (pur enc) size) (.slice A n c) xs := by
  obtain ⟨F, h1, h2⟩ := S.get h
  exact (slc (pur enc) size).mono _ _ _ _ _ (fun b hb => (h1 b hb).2) (own_val hs F w h2)
end
section
variable {P : Program} {ρ : Operand → Value} {w : World} {d : Option Nat} {ty : TypeId} {pos : String} {after : Array Edge} {g : Option (Nat × Bool)}
theorem size_of {e sz : Nat} (hs : (P.info? e).map (·.size) = some sz) : ∃ i, P.info? e = some i ∧ i.size = sz := by
  cases hq : P.info? e with
  | none => simp [hq] at hs
  | some i => exact ⟨i, rfl, by simpa [hq] using hs⟩
theorem x_index_slc {T e n c sz : Nat} {A : Option Addr} {x y : Operand} {k : IntKind} {i : Int} (hx : ρ x = .slice A n c) (hy : ρ y = .int k i) (hu : P.underlying T = some (.slice e)) (hs : (P.info? e).map (·.size) = some sz)
    (h0 : 0 ≤ i) (h1 : i < n) (hA : ∃ ad, A = some ad) :
    (execOp ρ ⟨d, .indexAddr T x y, ty, pos, after, g⟩).run P w = .ok (.value (eaddr A (i.toNat * sz))) w := by
  refine lift_v ?_
  obtain ⟨ti, hq, hz⟩ := size_of hs
  obtain ⟨ad, rfl⟩ := hA
  simp [hx, hy, Instr.indexAt, run_underlying hu, asIntOf, h0, h1, sizeOf, typeInfo, hq, hz, eaddr]
theorem Has.some {α : Type} {rp : Rp α} {size n c : Nat} {A : Option Addr} {xs : List α} (h : Has w (slc rp size) (.slice A n c) xs) (hn : 0 < xs.length) : ∃ ad, A = some ad := by
  obtain ⟨ad, h1, _⟩ := h.addr (List.getElem?_eq_getElem hn)
  exact ⟨ad, h1⟩
theorem run_loadCells_at {a : Addr} {row : Array Value} (h : cellsAt w a row) : (loadCells a row.size).run P w = .ok row w := by
  have := run_loadCells_list (P := P) w a row.toList (fun j v hv => by
    have hj : j < row.size := by
      rcases Nat.lt_or_ge j row.size with h | h
      · exact h
      · rw [List.getElem?_eq_none (by simpa using h)] at hv; cases hv
    rw [h j hj]
    simpa using hv)
  simpa using this
theorem isAgg_true {T : TypeId} {dd : TypeDesc} (hu : P.underlying T = some dd) (hd : (match dd with | .struct _ | .array _ _ => true | _ => false) = true) : (isAgg T).run P w = .ok true w := by
  unfold isAgg
  rw [Sem.run_bind, run_underlying hu w]
  cases dd <;> simp_all
theorem isAgg_false {T : TypeId} {dd : TypeDesc} (hu : P.underlying T = some dd) (hd : (match dd with | .struct _ | .array _ _ => true | _ => false) = false) : (isAgg T).run P w = .ok false w := by
  unfold isAgg
  rw [Sem.run_bind, run_underlying hu w]
  cases dd <;> simp_all
/-- A row in the middle of whatever is read. -/
theorem x_load_at {T n : Nat} {x : Operand} {a : Addr} {row : Array Value} {dd : TypeDesc} (hx : ρ x = .pointer (some a)) (h : cellsAt w a row)
    (hu : P.underlying T = some dd) (hd : (match dd with | .struct _ | .array _ _ => true | _ => false) = true) (hi : (P.info? T).map (·.size) = some n) (hn : row.size = n) :
    (execOp ρ ⟨d, .load T x, ty, pos, after, g⟩).run P w = .ok (.value (.agg row)) w := by
  refine lift_v ?_
  obtain ⟨ti, hq, hz⟩ := size_of hi
  subst hn
  simp only [hx, Instr.loadAt, Instr.sureAddr, Sem.run_bind, Sem.run_pure, Result.andThen_ok, loadVar, isAgg_true hu hd, sizeOf, typeInfo]
  simp [hq, hz, Sem.run_bind, run_loadCells_at h]
section el
variable {α : Type} {rp : Rp α} {size n c T : Nat} {A : Option Addr} {xs : List α} {x : α} {i : Nat} {o : Operand} {dd : TypeDesc} {enc : α → Array Value}
theorem x_el (h : Has w (slc (pur enc) size) (.slice A n c) xs) (hx : xs[i]? = some x) (ho : ρ o = eaddr A (i * size))
    (hu : P.underlying T = some dd) (hd : (match dd with | .struct _ | .array _ _ => true | _ => false) = true) (hi : (P.info? T).map (·.size) = some size) :
    (execOp ρ ⟨d, .load T o, ty, pos, after, g⟩).run P w = .ok (.value (.agg (enc x))) w := by
  obtain ⟨ad, rfl, _, row, h1, h2, rfl⟩ := h.addr hx
  exact x_load_at ho h2 hu hd hi h1
theorem x_el1 {u : Value} (h : Has w (slc (pur enc) 1) (.slice A n c) xs) (hx : xs[i]? = some x) (ho : ρ o = eaddr A (i * 1)) (he : enc x = #[u])
    (hu : P.underlying T = some dd) (hd : (match dd with | .struct _ | .array _ _ => true | _ => false) = false) :
    (execOp ρ ⟨d, .load T o, ty, pos, after, g⟩).run P w = .ok (.value u) w := by
  obtain ⟨ad, rfl, _, row, h1, h2, rfl⟩ := h.addr hx
  refine x_load_cell ho ?_ hu hd
  have := h2 0 (by rw [h1]; exact Nat.one_pos)
  rw [he] at this
  simpa [add_add'] using this
/-- A slice in a slice. -/
theorem x_el_slc {β : Type} {rq : Rp β} {sz : Nat} {xss : List (List β)} {ys : List β} (h : Has w (slc (slc rq sz) 1) (.slice A n c) xss) (hx : xss[i]? = some ys) (ho : ρ o = eaddr A (i * 1))
    (hu : P.underlying T = some dd) (hd : (match dd with | .struct _ | .array _ _ => true | _ => false) = false) :
    ∃ B c', (execOp ρ ⟨d, .load T o, ty, pos, after, g⟩).run P w = .ok (.value (.slice B ys.length c')) w ∧ Has w (slc rq sz) (.slice B ys.length c') ys := by
  obtain ⟨ad, rfl, _, row, h1, h2, h3⟩ := h.addr hx
  obtain ⟨B, m, c', rfl, rfl, h5, h6, h7⟩ := h3
  refine ⟨B, c', x_load_cell ho ?_ hu hd, B, ys.length, c', rfl, rfl, h5, h6, h7⟩
  have := h2 0 (by rw [h1]; exact Nat.one_pos)
  simpa [add_add'] using this
end el
/-- Values that lie one behind the other. -/
def rowOf (vs : List Value) : Array Value := (vs.flatMap fun v => v.cells.toList).toArray
theorem fill_splice (place : Nat → Option (Nat × Nat)) (cells : Array Value) (i off size : Nat) (v : Value) (rest : List (Nat × Value)) (hp : place i = some (off, size)) (hv : v.cells.size = size) (hf : off + size ≤ cells.size) :
    Instr.fill place cells ((i, v) :: rest) = Instr.fill place (splice cells off v.cells) rest := by
  have key : ∀ (l : List Value) (k : Nat) (cs : Array Value), off + k + l.length ≤ cs.size →
      (l.zipIdx k).foldl (fun cs (x : Value × Nat) => cs.setIfInBounds (off + x.2) x.1) cs = (cs.toList.take (off + k) ++ l ++ cs.toList.drop (off + k + l.length)).toArray := by
    intro l
    induction l with
    | nil => intro k cs _; simp
    | cons u l ih =>
      intro k cs hl
      simp only [List.length_cons] at hl
      rw [List.zipIdx_cons, List.foldl_cons, ih (k + 1) _ (by simp; omega)]
      apply Array.toList_inj.1
      simp only [Array.toList_setIfInBounds, List.length_cons]
      have h1 : off + k < cs.toList.length := by simp; omega
      have e1 : off + (k + 1) = (off + k) + 1 := by omega
      rw [e1, List.take_set, List.drop_set]
      rw [if_pos (by omega)]
      have : (cs.toList.take (off + k + 1)).set (off + k) u = cs.toList.take (off + k) ++ [u] := by
        rw [List.take_succ_eq_append_getElem h1, List.set_append_right _ _ (by simp; omega)]
        congr 1
        simp [Nat.min_eq_left (Nat.le_of_lt (show off + k < cs.size by omega))]
      rw [this]
      simp [Nat.add_assoc, Nat.add_comm 1]
  rw [Instr.fill, hp]
  simp only []
  rw [if_neg (by simp [hv]; omega)]
  congr 1
  have := key v.cells.toList 0 cells (by simp; omega)
  simp only [Nat.add_zero] at this
  rw [← Array.foldl_toList, Array.toList_zipIdx]
  rw [this]
  simp [splice]
theorem fill_all (size : Nat) : ∀ (vs : List Value) (k : Nat) (cells : Array Value), (∀ v ∈ vs, v.cells.size = size) → cells.size = (k + vs.length) * size →
    Instr.fill (fun i => some (i * size, size)) cells (vs.zipIdx k |>.map fun x => (x.2, x.1)) = some ((cells.toList.take (k * size)).toArray ++ rowOf vs)
  | [], k, cells, _, hz => by
    simp only [List.length_nil, Nat.add_zero] at hz
    simp [Instr.fill, rowOf, hz]
    rw [List.take_of_length_le (by simp [hz])]
  | v :: vs, k, cells, hv, hz => by
    have hvs := hv v (by simp)
    have hfit : k * size + size ≤ cells.size := by
      rw [hz, List.length_cons]
      have := Nat.mul_le_mul_right size (show k + 1 ≤ k + (vs.length + 1) by omega)
      rw [Nat.succ_mul] at this
      omega
    rw [List.zipIdx_cons, List.map_cons, fill_splice _ _ _ _ _ _ _ rfl hvs hfit, fill_all size vs (k + 1) _ (fun u hu => hv u (by simp [hu])) (by
      rw [splice_size _ _ _ (by rw [hvs]; exact hfit), hz, List.length_cons]
      congr 1
      omega)]
    congr 1
    apply Array.toList_inj.1
    have hl : (cells.toList.take (k * size)).length = k * size := by rw [List.length_take, Array.length_toList]; omega
    have : (splice cells (k * size) v.cells).toList.take ((k + 1) * size) = cells.toList.take (k * size) ++ v.cells.toList := by
      unfold splice
      rw [List.take_append_of_le_length (by simp [hl, hvs, Nat.succ_mul])]
      rw [List.take_of_length_le (by simp [hl, hvs, Nat.succ_mul])]
    simp [this, rowOf, List.append_assoc]
/-- A slice that is written out. -/
theorem x_buildSlice {T e n sz : Nat} {ps : Array (Nat × Operand)} {vs : List Value} {ti : TypeInfo} {z : Value} (hu : P.underlying T = some (.slice e)) (hq : P.info? e = some ti) (hz : ti.zero = some z) (hs : ti.size = sz) (hzs : z.cells.size = sz)
    (hp : (ps.map fun (i, x) => (i, ρ x)).toList = (vs.zipIdx.map fun x => (x.2, x.1))) (hn : vs.length = n) (hv : ∀ v ∈ vs, v.cells.size = sz) (hsm : n * sz ≤ 16777216) :
    (execOp ρ ⟨d, .buildSlice T n ps, ty, pos, after, g⟩).run P w = .ok (.value (.slice (some ⟨w.heap.size, 0, none⟩) n n)) (w.alloc (.cells (rowOf vs) e)) := by
  refine lift_v ?_
  subst hn
  have key : ∀ cells : Array Value, cells.size = vs.length * sz → Instr.fill (fun i => some (i * sz, sz)) cells (ps.map fun (i, x) => (i, ρ x)).toList = some (rowOf vs) := fun cells hc => by
    rw [hp, fill_all sz vs 0 cells hv (by simpa using hc)]
    simp
  unfold Instr.buildSlice
  have hns : ¬ (vs.length * sz > 2 ^ 24) := by omega
  by_cases h0 : vs.length * sz = 0
  · simp only [Sem.run_bind, run_underlying hu, Result.andThen_ok, sizeOf, typeInfo, hq, hs]
    have hk := fun zero : Array Value => key ((Array.range (vs.length * sz)).map (fun i => zero[i % zero.size]!)) (by simp)
    simp [Sem.run_bind, hq, hs, hns, h0]
    have hk2 := hk #[]
    simp only [h0] at hk2
    simp at hk2
    rw [hk2]
    simp [newRow, go_sem]
  · simp only [Sem.run_bind, run_underlying hu, Result.andThen_ok, sizeOf, typeInfo, hq, hs]
    have hk := fun zero : Array Value => key ((Array.range (vs.length * sz)).map (fun i => zero[i % zero.size]!)) (by simp)
    simp only [Sem.run_bind, Sem.run_pure, Result.andThen_ok, zeroValue, typeInfo, hq, hz, hs]
    simp [Sem.run_bind, hq, hs, hns, h0, hz]
    have hk2 := hk z.cells
    simp at hk2
    rw [hk2]
    simp [newRow, go_sem]
end
section
variable {P : Program} {ρ : Operand → Value} {w w0 : World} {d : Option Nat} {ty : TypeId} {pos : String} {after : Array Edge} {g : Option (Nat × Bool)} {L : List Chk}
variable {α : Type} {enc : α → Array Value} {e size : Nat} {xs : List α}
/-- 'append' onto what the call itself fills; ys are what is put there. -/
theorem x_append {x y : Operand} {T c m : Nat} {v : Value} {B : Option Addr} {ys : List α} {L' : Value → List Chk} {ti : TypeInfo} {z : Value} (S : SL w0 L w) (hx : ρ x = v) (hy : ρ y = .slice B m c)
    (hat : ∀ v', At (own enc e size v xs) (own enc e size v' (xs ++ ys)) L (L' v'))
    (hsrc : Has w (slc (pur enc) size) (.slice B m c) ys)
    (hu : P.underlying T = some (.slice e)) (hq : P.info? e = some ti) (hz : ti.zero = some z) (hs : ti.size = size) (hzs : z.cells.size = size) (hsz : 0 < size) (henc : ∀ x, (enc x).size = size) (h1 : ∀ x, ∀ u ∈ (enc x).toList, u.oneCell' = true)
    (hmax : xs.length + ys.length ≤ maxLen) (hby : (xs.length + ys.length) * ti.bytes ≤ 140737488355328) :
    ∃ A c' w', (execOp ρ ⟨d, .call { callee := .builtin .append, args := #[x, y], argTypes := #[T, T] }, ty, pos, after, g⟩).run P w = .ok (.value (.slice A (xs.length + ys.length) c')) w' ∧ SL w0 (L' (.slice A (xs.length + ys.length) c')) w' := by
  obtain ⟨hm, hmc, hcm⟩ := hsrc.len
  subst hm
  obtain ⟨F, hF, hown, hob⟩ := S.get (hat v)
  have hrun : ∃ v' w', (Builtin.append_ #[T, T] ty #[v, .slice B ys.length c]).run P w = .ok v' w' ∧ w'.ownsRow 0 e size v' (xs.length + ys.length) ((xs.flatMap fun x => (enc x).toList) ++ (ys.flatMap fun x => (enc x).toList)) ∧ w.grownBy w' v.ownBlock ∧
      (v'.ownBlock = v.ownBlock ∨ v'.ownBlock = some w.heap.size) := by
    rcases Nat.eq_zero_or_pos ys.length with h0 | hpos
    · have hys : ys = [] := List.eq_nil_of_length_eq_zero h0
      subst hys
      refine ⟨v, w, ?_, by simpa using hown, World.grownBy.refl _ _, .inl rfl⟩
      rcases hown.2 with ⟨rfl, h2⟩ | ⟨gg, cap, cur, rfl, _, hh, hnc, _⟩
      · cases B with
        | none => simp [Builtin.append_, run_underlying hu, sizeOf, typeInfo, hq, Builtin.lenOf, Builtin.firstCells]
        | some ad =>
          have : (loadCells ad (0 * ti.size)).run P w = .ok #[] w := by rw [Nat.zero_mul]; rfl
          simp [Builtin.append_, run_underlying hu, sizeOf, typeInfo, hq, Builtin.lenOf, Builtin.firstCells]
          rfl
      · cases B with
        | none => simp [Builtin.append_, run_underlying hu, sizeOf, typeInfo, hq, Builtin.lenOf, Builtin.firstCells, hnc, storeCells]
        | some ad =>
          have : (loadCells ad 0).run P w = .ok #[] w := rfl
          simp [Builtin.append_, run_underlying hu, sizeOf, typeInfo, hq, Builtin.lenOf, Builtin.firstCells, hnc, storeCells, this]
    · obtain ⟨ad, rfl⟩ := hsrc.some hpos
      have hcells : ∀ j u, (ys.flatMap fun x => (enc x).toList)[j]? = some u → w.cell? (ad.add j) = some u := by
        intro j u hj
        have hjl : j < ys.length * size := by
          rw [← flat_len henc ys]
          rcases Nat.lt_or_ge j (ys.flatMap fun x => (enc x).toList).length with h | h
          · exact h
          · rw [List.getElem?_eq_none h] at hj; cases hj
        have hi : j / size < ys.length := Nat.div_lt_of_lt_mul (by rw [Nat.mul_comm]; exact hjl)
        have hj2 : j = j / size * size + j % size := by rw [Nat.mul_comm]; exact (Nat.div_add_mod j size).symm
        have hmod : j % size < size := Nat.mod_lt _ hsz
        obtain ⟨ad', h2, _, row, h3, h4, h5⟩ := hsrc.addr (List.getElem?_eq_getElem hi)
        injection h2 with h2
        subst h2
        have h5' : row = enc ys[j / size] := h5
        subst h5'
        have h6 := h4 (j % size) (by rw [h3]; exact hmod)
        rw [add_add', ← hj2] at h6
        rw [h6, ← flat_get henc ys (j / size) _ (List.getElem?_eq_getElem hi) (j % size) hmod, ← hj2]
        exact hj
      obtain ⟨v', w', h2, h3, h4, _, h5⟩ := run_append_own_at (P := P) w 0 T ty e ti z size ti.bytes hu hq hz hs rfl hzs hsz v xs.length _ hown ad ys.length c _ (flat_len henc ys) hcells (by
        intro u hu'
        rw [List.mem_flatMap] at hu'
        obtain ⟨x, _, hx'⟩ := hu'
        exact h1 x u hx') hmax hby (Nat.zero_le _)
      exact ⟨v', w', h2, h3, h4, h5⟩
  obtain ⟨v', w', hr, hown', hgr, hob'⟩ := hrun
  have hform : ∃ A c', v' = .slice A (xs.length + ys.length) c' := by
    rcases hown'.2 with ⟨rfl, h2⟩ | ⟨gg, cap, cur, rfl, _⟩
    · exact ⟨none, 0, by rw [h2]⟩
    · exact ⟨_, cap, rfl⟩
  obtain ⟨A, c', rfl⟩ := hform
  refine ⟨A, c', w', ?_, ?_⟩
  · simp [execOp, resolve, invoke, builtin, hx, hy, Sem.run_bind, hr]
  · refine S.turn (hat _) hgr.os hgr.tape hgr.output hgr.size fun F' hF' hc' => ⟨⟨fun b => (Value.slice A (xs.length + ys.length) c').ownBlock = some b, fun b hb => ?_, ?_, fun k hk => hk⟩, fun b hb hnb => ?_⟩
    · rcases hob' with h | h
      · exact .inl (hc'.2 b (by rw [← h]; exact hb))
      · rw [h] at hb
        injection hb with hb
        subst hb
        refine .inr ⟨Nat.le_refl _, ?_⟩
        rcases hown'.2 with ⟨h2, _⟩ | ⟨gg, cap, cur, h2, _, h3, _⟩
        · rw [h2] at h; simp [Value.ownBlock] at h
        · rw [h2] at h
          simp [Value.ownBlock] at h
          subst h
          exact (Array.getElem?_eq_some_iff.1 h3).1
    · rw [List.length_append, List.flatMap_append]
      exact hown'
    · refine hgr.block b hb fun h => hnb (hc'.2 b h.symm)
/-- One thing that lies in a block of its own. -/
theorem has_one {gt t : Nat} {z : α} (hg : w.heap[gt]? = some (.cells (enc z) t (0, 0))) (hs : (enc z).size = size) : Has w (slc (pur enc) size) (.slice (some ⟨gt, 0, none⟩) 1 1) [z] := by
  have hlt : gt < w.heap.size := (Array.getElem?_eq_some_iff.1 hg).1
  refine ⟨_, 1, 1, rfl, rfl, Nat.le_refl _, by simp [maxLen], fun _ => ⟨_, rfl, hlt, fun i x hx => ?_⟩⟩
  have hi : i = 0 := by
    rcases Nat.eq_zero_or_pos i with h | h
    · exact h
    · rw [List.getElem?_eq_none (by simp; omega)] at hx; cases hx
  subst hi
  simp at hx
  subst hx
  refine ⟨enc z, hs, fun j hj => ?_, rfl⟩
  rw [Nat.zero_mul, add_add', Nat.zero_add]
  have : (⟨gt, 0, none⟩ : Addr).add j = ⟨gt, j, none⟩ := by unfold Addr.add; split <;> simp_all
  rw [this]
  exact cell_of_row w gt j _ _ _ hg
end
section
variable {P : Program} {n : Nat} {Q : QE} {e : Env} {w w0 : World} {ops : Array Oper} {K : Env → World → Prop} {L L' : List Chk}
variable {dd : Option Nat} {ty : TypeId} {pos : String} {after : Array Edge} {g : Option (Nat × Bool)} {d : Nat}
theorem x_mv {ρ : Operand → Value} {x : Operand} {v : Value} (hx : ρ x = v) : (execOp ρ ⟨dd, .move x, ty, pos, after, g⟩).run P w = .ok (.value v) w := by subst hx; rfl
theorem x_as {ρ : Operand → Value} {x : Operand} {v : Value} (hx : ρ x = v) : (execOp ρ ⟨dd, .assign x, ty, pos, after, g⟩).run P w = .ok (.value v) w := by subst hx; rfl
theorem calls_WC {f : FuncId} {fn : Func} {c : Code} {vs : List Value} {R : Ending → World → Prop} (hf : P.funcs[f]? = some fn) (hb : fn.body = some c) (hn : fn.ntmps = n) (hl : vs.length ≤ n)
    (h : WC P n c (retQ P fn R) (args vs) w) : Calls P f vs.toArray w R := by
  subst hn
  exact calls_of_WC hf hb hl h
/-- What is known of a type. -/
def TI (P : Program) (T : TypeId) (z : Value) (sz bytes : Nat) : Prop := (P.info? T).map (fun i => (i.zero, i.size, i.bytes)) = some (some z, sz, bytes)
theorem TI.ex {T : TypeId} {z : Value} {sz bytes : Nat} (h : TI P T z sz bytes) : ∃ ti, P.info? T = some ti ∧ ti.zero = some z ∧ ti.size = sz ∧ ti.bytes = bytes := by
  unfold TI at h
  cases hq : P.info? T with
  | none => simp [hq] at h
  | some i =>
    rw [hq] at h
    simp at h
    exact ⟨i, rfl, h.1, h.2.1, h.2.2⟩
theorem TI.sz {T : TypeId} {z : Value} {sz bytes : Nat} (h : TI P T z sz bytes) : (P.info? T).map (·.size) = some sz := by
  obtain ⟨ti, h1, _, h3, _⟩ := h.ex
  simp [h1, h3]
theorem TI.cells {T : TypeId} {z : Value} {sz bytes : Nat} (h : TI P T z sz bytes) : P.cellsOf T = sz := by
  unfold Program.cellsOf
  rw [h.sz]
  rfl
/-- Values at slots. -/
def updL (e : Env) : List (Nat × Value) → Env
  | [] => e
  | (d, v) :: l => upd (updL e l) d v
def AllAt (e : Env) : List (Nat × Value) → Prop
  | [] => True
  | (d, v) :: l => e d = v ∧ AllAt e l
theorem updL_eq (e : Env) : ∀ l : List (Nat × Value), AllAt e l → updL e l = e
  | [], _ => rfl
  | (d, v) :: l, ⟨h1, h2⟩ => by
    rw [updL, updL_eq e l h2, ← h1]
    exact upd_self e d
theorem updL_ex (e : Env) (l : List (Nat × Value)) (h : AllAt e l) : ∃ eb, e = updL eb l := ⟨e, (updL_eq e l h).symm⟩
/-- A cut between two pieces of code. -/
theorem WC_cut {x y : Code} (J : Env → World → Prop) (h : WC P n x (thenQ J Q) e w) (hJ : ∀ e w, J e w → WC P n y Q e w) : WC P n (x.seq y) Q e w :=
  WC_seq (h.mono fun x e w hq => by cases x <;> first | exact hJ _ _ hq | exact hq)
/-- Results. -/
theorem res1 {fn : Func} {t : Tmp} {v : Value} {R : Ending → World → Prop} (h : fn.results = #[.tmp t]) (he : e t = v) (hR : R (.returned v) w) :
    ∃ v, (∀ tmps : Array Value, (∀ i, tmps.getD i undef = e i) → (results fn tmps).run P w = .ok v w) ∧ R (.returned v) w := by
  refine ⟨v, fun tmps ht => ?_, hR⟩
  rw [results_tmp h, ht, he]
theorem res0 {fn : Func} {R : Ending → World → Prop} (h : fn.results = #[]) (hR : R (.returned (.tuple #[])) w) :
    ∃ v, (∀ tmps : Array Value, (∀ i, tmps.getD i undef = e i) → (results fn tmps).run P w = .ok v w) ∧ R (.returned v) w :=
  ⟨_, fun tmps _ => results_none h tmps P w, hR⟩
theorem res2 {fn : Func} {t t' : Tmp} {v v' : Value} {R : Ending → World → Prop} (h : fn.results = #[.tmp t, .tmp t']) (he : e t = v) (he' : e t' = v') (hR : R (.returned (.tuple #[v, v'])) w) :
    ∃ v, (∀ tmps : Array Value, (∀ i, tmps.getD i undef = e i) → (results fn tmps).run P w = .ok v w) ∧ R (.returned v) w := by
  refine ⟨_, fun tmps ht => ?_, hR⟩
  rw [results_tmp2 h, ht, he, ht, he']
theorem res3 {fn : Func} {t t' t'' : Tmp} {v v' v'' : Value} {R : Ending → World → Prop} (h : fn.results = #[.tmp t, .tmp t', .tmp t'']) (he : e t = v) (he' : e t' = v') (he'' : e t'' = v'') (hR : R (.returned (.tuple #[v, v', v''])) w) :
    ∃ v, (∀ tmps : Array Value, (∀ i, tmps.getD i undef = e i) → (results fn tmps).run P w = .ok v w) ∧ R (.returned v) w := by
  refine ⟨_, fun tmps ht => ?_, hR⟩
  simp only [results, h]
  simp [ht, he, he', he'']
theorem resc {fn : Func} {t gb tt : Nat} {T : TypeId} {row : Array Value} {de : TypeDesc} {R : Ending → World → Prop} (S : SL w0 L w) (h : fn.results = #[.cell t T]) (he : e t = .pointer (some ⟨gb, 0, none⟩))
    (hat : At (blk gb tt row) (blk gb tt row) L L) (hu : P.underlying T = some de) (hd : (match de with | .struct _ | .array _ _ => true | _ => false) = true) (hi : (P.info? T).map (·.size) = some row.size) (hR : R (.returned (.agg row)) w) :
    ∃ v, (∀ tmps : Array Value, (∀ i, tmps.getD i undef = e i) → (results fn tmps).run P w = .ok v w) ∧ R (.returned v) w :=
  ⟨_, fun tmps ht => results_cell_row h tmps w gb tt row (0, 0) de (by rw [ht, he]) (S.blk_get hat) hu hd hi, hR⟩
theorem resc_t {fn : Func} {t t' gb tt : Nat} {T : TypeId} {row : Array Value} {v' : Value} {de : TypeDesc} {R : Ending → World → Prop} (S : SL w0 L w) (h : fn.results = #[.cell t T, .tmp t']) (he : e t = .pointer (some ⟨gb, 0, none⟩)) (he' : e t' = v')
    (hat : At (blk gb tt row) (blk gb tt row) L L) (hu : P.underlying T = some de) (hd : (match de with | .struct _ | .array _ _ => true | _ => false) = true) (hi : (P.info? T).map (·.size) = some row.size) (hR : R (.returned (.tuple #[.agg row, v'])) w) :
    ∃ v, (∀ tmps : Array Value, (∀ i, tmps.getD i undef = e i) → (results fn tmps).run P w = .ok v w) ∧ R (.returned v) w := by
  refine ⟨_, fun tmps ht => ?_, hR⟩
  have hp' : tmps[t]?.getD undef = .pointer (some ⟨gb, 0, none⟩) := by rw [← Array.getD_eq_getD_getElem?, ht, he]
  have hp2 : tmps[t']?.getD undef = v' := by rw [← Array.getD_eq_getD_getElem?, ht, he']
  simp [results, h, hp', hp2, asAddr, run_loadVar_row w gb tt T row (0, 0) de (S.blk_get hat) hu hd hi]
/-- A new variable. -/
theorem WO_alloc {T sz bytes : Nat} {z : Value} {row : Array Value} (S : SL w0 L w) (hon : wantedE ops e ⟨some d, .alloc T, ty, pos, after, g⟩ = true) (hdn : d < n) (hi : TI P T z sz bytes) (hr : z.cells = row)
    (hk : ∀ gb w', SL w0 (blk gb T row :: L) w' → K (upd e d (.pointer (some ⟨gb, 0, none⟩))) w') : WO P n ops ⟨some d, .alloc T, ty, pos, after, g⟩ K e w := by
  subst hr
  obtain ⟨ti, h1, h2, _⟩ := hi.ex
  exact WO_val hon rfl hdn (x_alloc h1 h2) (hk _ _ (S.alloc T z.cells))
theorem WO_box {T : TypeId} {x : Operand} {v : Value} {row : Array Value} (S : SL w0 L w) (hon : wantedE ops e ⟨some d, .box T x, ty, pos, after, g⟩ = true) (hdn : d < n) (hx : ev e x = v) (hr : v.cells = row)
    (hk : ∀ gb w', SL w0 (blk gb T row :: L) w' → K (upd e d (.pointer (some ⟨gb, 0, none⟩))) w') : WO P n ops ⟨some d, .box T x, ty, pos, after, g⟩ K e w := by
  subst hr
  exact WO_val hon rfl hdn (x_box hx) (hk _ _ (S.alloc T v.cells))
theorem WO_build {T E m sz bytes : Nat} {ps : Array (Nat × Operand)} {vs : List Value} {z : Value} {row : Array Value} (S : SL w0 L w) (hon : wantedE ops e ⟨some d, .buildSlice T m ps, ty, pos, after, g⟩ = true) (hdn : d < n)
    (hu : P.underlying T = some (.slice E)) (hi : TI P E z sz bytes) (hzs : z.cells.size = sz)
    (hp : (ps.toList.map fun p => (p.1, ev e p.2)) = (vs.zipIdx.map fun x => (x.2, x.1))) (hn : vs.length = m) (hv : ∀ v ∈ vs, v.cells.size = sz) (hsm : m * sz ≤ 16777216) (hr : rowOf vs = row)
    (hk : ∀ gb w', SL w0 (blk gb E row :: L) w' → K (upd e d (.slice (some ⟨gb, 0, none⟩) m m)) w') : WO P n ops ⟨some d, .buildSlice T m ps, ty, pos, after, g⟩ K e w := by
  subst hr
  obtain ⟨ti, h1, h2, h3, _⟩ := hi.ex
  exact WO_val hon rfl hdn (x_buildSlice hu h1 h2 h3 hzs (by rw [Array.toList_map]; exact hp) hn hv hsm) (hk _ _ (S.alloc E _))
/-- A whole row, or a part of it, is written. -/
theorem WO_store {T gb off t m : Nat} {x y : Operand} {row row' : Array Value} {v : Value} (S : SL w0 L w) (hon : wantedE ops e ⟨none, .store T x y, ty, pos, after, g⟩ = true) (hx : ev e x = .pointer (some ⟨gb, off, none⟩)) (hy : ev e y = v)
    (hat : At (blk gb t row) (blk gb t row') L L') (hi : (P.info? T).map (·.size) = some m) (hn : v.cells.size = m) (hfit : off + m ≤ row.size) (h1 : ∀ u ∈ v.cells.toList, u.oneCell' = true) (hr : splice row off v.cells = row')
    (hk : ∀ w', SL w0 L' w' → K e w') : WO P n ops ⟨none, .store T x y, ty, pos, after, g⟩ K e w := by
  subst hr
  exact WO_skip hon rfl (x_store hx hy (S.blk_at hat) hi hn hfit h1) (hk _ (S.setRow _ hat))
theorem WO_append {α : Type} {enc : α → Array Value} {E size : Nat} {xs : List α} {x y : Operand} {T c m : Nat} {v : Value} {B : Option Addr} {ys : List α} {L' : Value → List Chk} {bytes : Nat} {z : Value} (S : SL w0 L w)
    (hon : wantedE ops e ⟨some d, .call { callee := .builtin .append, args := #[x, y], argTypes := #[T, T] }, ty, pos, after, g⟩ = true) (hdn : d < n) (hx : ev e x = v) (hy : ev e y = .slice B m c)
    (hat : ∀ v', At (own enc E size v xs) (own enc E size v' (xs ++ ys)) L (L' v')) (hsrc : Has w (slc (pur enc) size) (.slice B m c) ys)
    (hu : P.underlying T = some (.slice E)) (hi : TI P E z size bytes) (hzs : z.cells.size = size) (hsz : 0 < size) (henc : ∀ x, (enc x).size = size) (h1 : ∀ x, ∀ u ∈ (enc x).toList, u.oneCell' = true)
    (hmax : xs.length + ys.length ≤ maxLen) (hby : (xs.length + ys.length) * bytes ≤ 140737488355328)
    (hk : ∀ A c' w', SL w0 (L' (.slice A (xs.length + ys.length) c')) w' → K (upd e d (.slice A (xs.length + ys.length) c')) w') :
    WO P n ops ⟨some d, .call { callee := .builtin .append, args := #[x, y], argTypes := #[T, T] }, ty, pos, after, g⟩ K e w := by
  obtain ⟨ti, hq, hz, hs, rfl⟩ := hi.ex
  obtain ⟨A, c', w', hr, S'⟩ := x_append (P := P) (ρ := ev e) (d := some d) (ty := ty) (pos := pos) (after := after) (g := g) S hx hy hat hsrc hu hq hz hs hzs hsz henc h1 hmax hby
  exact WO_val hon rfl hdn hr (hk _ _ _ S')
/-- A loaded slice in a slice. -/
theorem WO_el_slc {β : Type} {rq : Rp β} {sz T m c i : Nat} {A : Option Addr} {o : Operand} {de : TypeDesc} {xss : List (List β)} {ys : List β} (hon : wantedE ops e ⟨some d, .load T o, ty, pos, after, g⟩ = true) (hdn : d < n)
    (h : Has w (slc (slc rq sz) 1) (.slice A m c) xss) (hx : xss[i]? = some ys) (ho : ev e o = eaddr A (i * 1))
    (hu : P.underlying T = some de) (hd : (match de with | .struct _ | .array _ _ => true | _ => false) = false)
    (hk : ∀ B c', Has w (slc rq sz) (.slice B ys.length c') ys → K (upd e d (.slice B ys.length c')) w) : WO P n ops ⟨some d, .load T o, ty, pos, after, g⟩ K e w := by
  obtain ⟨B, c', hr, hh⟩ := x_el_slc (P := P) (ρ := ev e) (d := some d) (ty := ty) (pos := pos) (after := after) (g := g) h hx ho hu hd
  exact WO_val hon rfl hdn hr (hk _ _ hh)
section calls
variable {ρ : Operand → Value} {x : Operand} {ts : Array TypeId} {f : FuncId} {caps : Array Value} {fn : Func} (hx : ρ x = .func (.func f) #[] caps) (hf : P.funcs[f]? = some fn)
    (hnm : (fn.name == "runtime.NumGoroutine") = false) (hb : fn.body.isNone = false)
include hx hf hnm hb
theorem x_callc {xs : Array Operand} {vs us : Array Value} (hv : xs.map ρ = vs) (hu : vs ++ caps = us) : (execOp ρ ⟨dd, .call { callee := .value x, args := xs, argTypes := ts }, ty, pos, after, g⟩).run P w = .ok (.enter f us) w :=
  x_call hx hf hnm hb (by rw [hv, hu])
end calls
section callf
variable {ρ : Operand → Value} {ts : Array TypeId} {f : FuncId} {fn : Func} (hf : P.funcs[f]? = some fn)
    (hnm : (fn.name == "runtime.NumGoroutine") = false) (hb : fn.body.isNone = false)
include hf hnm hb
theorem x_call0 (hρ : ρ (.func f) = .func (.func f) #[] #[]) : (execOp ρ ⟨dd, .call { callee := .value (.func f), args := #[], argTypes := ts }, ty, pos, after, g⟩).run P w = .ok (.enter f #[]) w :=
  x_call hρ hf hnm hb (by simp)
theorem x_call1 (hρ : ρ (.func f) = .func (.func f) #[] #[]) {a : Operand} {u : Value} (ha : ρ a = u) : (execOp ρ ⟨dd, .call { callee := .value (.func f), args := #[a], argTypes := ts }, ty, pos, after, g⟩).run P w = .ok (.enter f #[u]) w :=
  x_call hρ hf hnm hb (by simp [ha])
theorem x_call2 (hρ : ρ (.func f) = .func (.func f) #[] #[]) {a b : Operand} {u v : Value} (ha : ρ a = u) (hb' : ρ b = v) : (execOp ρ ⟨dd, .call { callee := .value (.func f), args := #[a, b], argTypes := ts }, ty, pos, after, g⟩).run P w = .ok (.enter f #[u, v]) w :=
  x_call hρ hf hnm hb (by simp [ha, hb'])
theorem x_call3 (hρ : ρ (.func f) = .func (.func f) #[] #[]) {a b c : Operand} {u v y : Value} (ha : ρ a = u) (hb' : ρ b = v) (hc : ρ c = y) : (execOp ρ ⟨dd, .call { callee := .value (.func f), args := #[a, b, c], argTypes := ts }, ty, pos, after, g⟩).run P w = .ok (.enter f #[u, v, y]) w :=
  x_call hρ hf hnm hb (by simp [ha, hb', hc])
theorem x_call4 (hρ : ρ (.func f) = .func (.func f) #[] #[]) {a b c d' : Operand} {u v y z : Value} (ha : ρ a = u) (hb' : ρ b = v) (hc : ρ c = y) (hd : ρ d' = z) : (execOp ρ ⟨dd, .call { callee := .value (.func f), args := #[a, b, c, d'], argTypes := ts }, ty, pos, after, g⟩).run P w = .ok (.enter f #[u, v, y, z]) w :=
  x_call hρ hf hnm hb (by simp [ha, hb', hc, hd])
theorem x_call5 (hρ : ρ (.func f) = .func (.func f) #[] #[]) {a b c d' e' : Operand} {u v y z s : Value} (ha : ρ a = u) (hb' : ρ b = v) (hc : ρ c = y) (hd : ρ d' = z) (he : ρ e' = s) : (execOp ρ ⟨dd, .call { callee := .value (.func f), args := #[a, b, c, d', e'], argTypes := ts }, ty, pos, after, g⟩).run P w = .ok (.enter f #[u, v, y, z, s]) w :=
  x_call hρ hf hnm hb (by simp [ha, hb', hc, hd, he])
end callf
end
theorem wi64 {z : Int} (h : -9223372036854775808 ≤ z ∧ z ≤ 9223372036854775807) : IntKind.i64.wrap z = z := by rw [IntKind.wrap_i64]; omega
theorem wu64 {z : Int} (h : 0 ≤ z ∧ z ≤ 18446744073709551615) : IntKind.u64.wrap z = z := by rw [IntKind.wrap_u64]; omega
theorem wu8 {z : Int} (h : 0 ≤ z ∧ z ≤ 255) : IntKind.u8.wrap z = z := by rw [IntKind.wrap_u8]; omega
theorem wu32 {z : Int} (h : 0 ≤ z ∧ z ≤ 4294967295) : IntKind.u32.wrap z = z := by rw [IntKind.wrap_u32]; omega
/-! ### A drawn region's looks, by one check -/
def takeOk (ops : Array Oper) (Z done : List Nat) (i : Nat) : Bool :=
  Region.noSelect ops && (rdyL ops done).contains i && match ops[i]? with
    | some oi => (List.range ops.size).all fun j => match ops[j]? with
      | some oj => (Nat.beq j i || done.contains j || oj.after.any (fun ed => Region.binds .any ed && Nat.beq ed.on i) || oi.apart ops oj) && (!Z.contains j || oj.after.any (fun ed => Region.binds .any ed && Nat.beq ed.on i))
      | none => true
    | none => false
theorem WD_look0 {P : Program} {n : Nat} {Q : QE} {e : Env} {w : World} {ops : Array Oper} {S : World → Prop} {Z : List Nat} {i : Nat} {oi : Oper} {v : Value} {k : Nat} {done : List Nat} (hi : ops[i]? = some oi) (hc : takeOk ops Z done i = true) (hy : Yld P n ops S oi v e) (hS : S w)
    (h : WD P n ops Q S Z k (i :: done) (updo e oi.dst v) w) : WD P n ops Q S Z (k + 1) done e w := by
  unfold takeOk at hc
  rw [hi] at hc
  simp only [Bool.and_eq_true, List.all_eq_true, List.mem_range] at hc
  obtain ⟨⟨h1, h2⟩, h3⟩ := hc
  refine WD_take hi h1 k done e w ?_ ?_ (by simpa using h2) hy hS h
  · intro j oj hj hji hd hwait
    have hlt : j < ops.size := (Array.getElem?_eq_some_iff.1 hj).1
    have h4 := h3 j hlt
    rw [hj] at h4
    simp only [Bool.and_eq_true, Bool.or_eq_true] at h4
    rcases h4.1 with ((h5 | h5) | h5) | h5
    · exact absurd (Nat.eq_of_beq_eq_true h5) hji
    · rw [hd] at h5; cases h5
    · rw [Array.any_eq_true] at h5
      obtain ⟨x, hx, h6⟩ := h5
      simp only [Bool.and_eq_true] at h6
      exact absurd (Nat.eq_of_beq_eq_true h6.2) (hwait _ (Array.getElem_mem hx) h6.1)
    · exact h5
  · intro j oj hj hz
    have hlt : j < ops.size := (Array.getElem?_eq_some_iff.1 hj).1
    have h4 := h3 j hlt
    rw [hj] at h4
    simp only [Bool.and_eq_true, Bool.or_eq_true] at h4
    rcases h4.2 with h5 | h5
    · rw [hz] at h5; cases h5
    · rw [Array.any_eq_true] at h5
      obtain ⟨x, hx, h6⟩ := h5
      simp only [Bool.and_eq_true] at h6
      exact ⟨_, Array.getElem_mem hx, h6.1, Nat.eq_of_beq_eq_true h6.2⟩
theorem WD_look {P : Program} {n : Nat} {Q : QE} {e : Env} {w : World} {ops : Array Oper} {S : World → Prop} {Z : List Nat} {i : Nat} {oi : Oper} {v : Value} {k d : Nat} {done : List Nat} (hi : ops.toList[i]? = some oi) (hc : takeOk ops Z done i = true)
    (hd : oi.dst = some d) (hdn : d < n) (hon : wantedE ops e oi = true) (hy : ∀ w, S w → (execOp (ev e) oi).run P w = .ok (.value v) w) (hS : S w)
    (h : WD P n ops Q S Z k (i :: done) (upd e d v) w) : WD P n ops Q S Z (k + 1) done e w :=
  WD_look0 (by simpa using hi) hc ⟨by rw [hd]; exact hdn, .inl ⟨hon, hy⟩⟩ hS (by rw [hd]; exact h)
theorem WD_lookoff {P : Program} {n : Nat} {Q : QE} {e : Env} {w : World} {ops : Array Oper} {S : World → Prop} {Z : List Nat} {i : Nat} {oi : Oper} {k d : Nat} {done : List Nat} (hi : ops.toList[i]? = some oi) (hc : takeOk ops Z done i = true)
    (hd : oi.dst = some d) (hdn : d < n) (hoff : wantedE ops e oi = false) (hS : S w)
    (h : WD P n ops Q S Z k (i :: done) (upd e d undef) w) : WD P n ops Q S Z (k + 1) done e w :=
  WD_look0 (by simpa using hi) hc ⟨by rw [hd]; exact hdn, .inr ⟨hoff, rfl⟩⟩ hS (by rw [hd]; exact h)
theorem WD_one {P : Program} {n : Nat} {Q : QE} {e : Env} {w : World} {ops : Array Oper} {S : World → Prop} {Z : List Nat} {i : Nat} {oi : Oper} {k : Nat} {done : List Nat} (hi : ops.toList[i]? = some oi) (hr : rdyL ops done = [i])
    (h : WO P n ops oi (fun e' w' => (S w' ∨ Z.contains i = true) ∧ WD P n ops Q S Z k (i :: done) e' w') e w) : WD P n ops Q S Z (k + 1) done e w := WD_only (by simpa using hi) hr h
section ends
variable {P : Program} {fn : Func} {R : Ending → World → Prop} {e : Env} {w w0 : World} {L : List Chk}
theorem retr (h : ∃ v, (∀ tmps : Array Value, (∀ i, tmps.getD i undef = e i) → (results fn tmps).run P w = .ok v w) ∧ R (.returned v) w) : retQ P fn R .ret e w := h
theorem retn (h : ∃ v, (∀ tmps : Array Value, (∀ i, tmps.getD i undef = e i) → (results fn tmps).run P w = .ok v w) ∧ R (.returned v) w) : retQ P fn R .normal e w := h
theorem ret0 (h : fn.results = #[]) (hR : R (.returned (.tuple #[])) w) : retQ P fn R .ret e w := res0 h hR
theorem ret0n (h : fn.results = #[]) (hR : R (.returned (.tuple #[])) w) : retQ P fn R .normal e w := res0 h hR
theorem ret1 {t : Tmp} {v : Value} (h : fn.results = #[.tmp t]) (he : e t = v) (hR : R (.returned v) w) : retQ P fn R .ret e w := res1 h he hR
theorem ret1n {t : Tmp} {v : Value} (h : fn.results = #[.tmp t]) (he : e t = v) (hR : R (.returned v) w) : retQ P fn R .normal e w := res1 h he hR
theorem ret2 {t t' : Tmp} {v v' : Value} (h : fn.results = #[.tmp t, .tmp t']) (he : e t = v) (he' : e t' = v') (hR : R (.returned (.tuple #[v, v'])) w) : retQ P fn R .ret e w := res2 h he he' hR
theorem ret2n {t t' : Tmp} {v v' : Value} (h : fn.results = #[.tmp t, .tmp t']) (he : e t = v) (he' : e t' = v') (hR : R (.returned (.tuple #[v, v'])) w) : retQ P fn R .normal e w := res2 h he he' hR
theorem ret3 {t t' t'' : Tmp} {v v' v'' : Value} (h : fn.results = #[.tmp t, .tmp t', .tmp t'']) (he : e t = v) (he' : e t' = v') (he'' : e t'' = v'') (hR : R (.returned (.tuple #[v, v', v''])) w) : retQ P fn R .ret e w := res3 h he he' he'' hR
theorem retc {t gb tt : Nat} {T : TypeId} {row : Array Value} {de : TypeDesc} (S : SL w0 L w) (h : fn.results = #[.cell t T]) (he : e t = .pointer (some ⟨gb, 0, none⟩))
    (hat : At (blk gb tt row) (blk gb tt row) L L) (hu : P.underlying T = some de) (hd : (match de with | .struct _ | .array _ _ => true | _ => false) = true) (hi : (P.info? T).map (·.size) = some row.size) (hR : R (.returned (.agg row)) w) : retQ P fn R .ret e w :=
  resc S h he hat hu hd hi hR
theorem retct {t t' gb tt : Nat} {T : TypeId} {row : Array Value} {v' : Value} {de : TypeDesc} (S : SL w0 L w) (h : fn.results = #[.cell t T, .tmp t']) (he : e t = .pointer (some ⟨gb, 0, none⟩)) (he' : e t' = v')
    (hat : At (blk gb tt row) (blk gb tt row) L L) (hu : P.underlying T = some de) (hd : (match de with | .struct _ | .array _ _ => true | _ => false) = true) (hi : (P.info? T).map (·.size) = some row.size) (hR : R (.returned (.tuple #[.agg row, v'])) w) : retQ P fn R .ret e w :=
  resc_t S h he he' hat hu hd hi hR
end ends
theorem off_undef {ops : Array Oper} {e : Env} {o : Oper} {j t : Nat} {b : Bool} (hg : o.guard = some (j, b)) (hj : (ops[j]?).bind (·.dst) = some t) (hv : e t = undef) : wantedE ops e o = false := by
  simp [wantedE, hg, hj, hv, undef]
/-- Noughts. -/
def zb (n : Nat) : ByteArray := ⟨Array.replicate n 0⟩
def zeroH : H := ⟨zb 32, rfl⟩
theorem bv_one (h : ByteArray) : ∀ u ∈ (bv h).toList, u.oneCell' = true := by
  intro u hu
  simp only [bv, Array.toList_map, List.mem_map] at hu
  obtain ⟨b, _, rfl⟩ := hu
  rfl
theorem bv_one' (h : ByteArray) : ∀ u ∈ (Value.agg (bv h)).cells.toList, u.oneCell' = true := bv_one h
theorem rowOf1 (r : Array Value) : rowOf [.agg r] = r := by simp [rowOf, Value.cells]
theorem rowOf2 (r s : Array Value) : rowOf [.agg r, .agg s] = r ++ s := by apply Array.toList_inj.1; simp [rowOf, Value.cells]
theorem rowOf3 (r s t : Array Value) : rowOf [.agg r, .agg s, .agg t] = r ++ s ++ t := by apply Array.toList_inj.1; simp [rowOf, Value.cells]
theorem cell_one {w : World} {gb t : Nat} {v : Value} (h : w.heap[gb]? = some (.cells #[v] t (0, 0))) : w.cell? ⟨gb, 0, none⟩ = some v := by rw [cell_of_row w gb 0 _ _ _ h]; rfl
theorem cell_row {w : World} {gb t i : Nat} {row : Array Value} {v : Value} (h : w.heap[gb]? = some (.cells row t (0, 0))) (hv : row[i]? = some v) : w.cell? ⟨gb, i, none⟩ = some v := by rw [cell_of_row w gb i _ _ _ h]; exact hv
theorem eq_H' {P : Program} {t e : Nat} (ht : P.underlying t = some (.array 32 e)) (he : P.underlying e = some (.int .u8)) (ct : P.cellsOf t = 32) (ce : P.cellsOf e = 1) (a b : H) (w : World) :
    (Op.equalIn 10000 t (.agg (hv a)) (.agg (hv b))).run P w = .ok (decide (a = b)) w := by
  rw [eq_bytes ht he ct ce a.1 b.1 a.2 b.2 w]
  congr 1
  rw [Bool.eq_iff_iff]
  simp only [decide_eq_true_eq]
  exact ⟨Subtype.ext, fun h => by rw [h]⟩
section
variable {P : Program} {ρ : Operand → Value} {w : World} {d : Option Nat} {ty : TypeId} {pos : String} {after : Array Edge} {g : Option (Nat × Bool)}
theorem x_neg {x : Operand} {k : IntKind} {a : Int} {T : TypeId} (hx : ρ x = .int k a) (hw : k.wrap (-a) = -a) : (execOp ρ ⟨d, .unOp .neg T x, ty, pos, after, g⟩).run P w = .ok (.value (.int k (-a))) w := by
  refine lift_v ?_
  simp [hx, Op.unary, Op.intArith, hw]
theorem x_beq {x y : Operand} {a b : Bool} {T T' : TypeId} (hx : ρ x = .bool a) (hy : ρ y = .bool b) (hu : P.underlying T = some .bool) : (execOp ρ ⟨d, .binOp .eql T x y T', ty, pos, after, g⟩).run P w = .ok (.value (.bool (decide (a = b)))) w := by
  refine lift_v ?_
  have he : (eqGuard .eql T x y (.bool a) (.bool b)).run P w = .ok () w := rfl
  have h2 : (Op.equalIn 10000 T (.bool a) (.bool b)).run P w = .ok (a == b) w := run_equalIn_bool w 9999 T a b hu
  simp only [hx, hy, Sem.run_bind, he, Result.andThen_ok, binOp, Op.equal, Op.maxDepth, h2]
  rfl
theorem x_bne {x y : Operand} {a b : Bool} {T T' : TypeId} (hx : ρ x = .bool a) (hy : ρ y = .bool b) (hu : P.underlying T = some .bool) : (execOp ρ ⟨d, .binOp .neq T x y T', ty, pos, after, g⟩).run P w = .ok (.value (.bool (!decide (a = b)))) w := by
  refine lift_v ?_
  have he : (eqGuard .neq T x y (.bool a) (.bool b)).run P w = .ok () w := rfl
  have h2 : (Op.equalIn 10000 T (.bool a) (.bool b)).run P w = .ok (a == b) w := run_equalIn_bool w 9999 T a b hu
  simp only [hx, hy, Sem.run_bind, he, Result.andThen_ok, binOp, Op.equal, Op.maxDepth, h2]
  rfl
/-- A byte of a text; 0 beyond it. -/
def bt (s : ByteArray) (i : Int) : Int := ((s.data[i.toNat]?).getD 0).toNat
theorem x_bt {T : Nat} {x y : Operand} {s : ByteArray} {k : IntKind} {i : Int} (hx : ρ x = .string s) (hy : ρ y = .int k i) (hu : P.underlying T = some .string) (h0 : 0 ≤ i) (h1 : i < s.size) :
    (execOp ρ ⟨d, .index T x y, ty, pos, after, g⟩).run P w = .ok (.value (.int .u8 (bt s i))) w := by
  have h2 : i.toNat < s.size := by omega
  rw [x_str_at hx hy hu h0 h2]
  have h3 : i.toNat < s.data.size := h2
  simp only [bt, Array.getElem?_eq_getElem h3, Option.getD_some]
  rfl
theorem bt_range (s : ByteArray) (i : Int) : 0 ≤ bt s i ∧ bt s i ≤ 255 := by
  unfold bt
  have := ((s.data[i.toNat]?).getD 0).toNat_lt
  omega
end
/-! ### Arrays of bytes, of numbers -/
def bset (s : ByteArray) (i x : Int) : ByteArray := ⟨s.data.setIfInBounds i.toNat (UInt8.ofNat x.toNat)⟩
@[simp] theorem bset_size (s : ByteArray) (i x : Int) : (bset s i x).size = s.size := Array.size_setIfInBounds
def hset (h : H) (i x : Int) : H := ⟨bset h.1 i x, (bset_size _ _ _).trans h.2⟩
@[simp] theorem zb_size (n : Nat) : (zb n).size = n := Array.size_replicate
theorem splice_bset {s : ByteArray} {i x : Int} (h0 : 0 ≤ i) (h1 : i < s.size) (h2 : 0 ≤ x) (h3 : x ≤ 255) : splice (bv s) (i.toNat * 1) #[.int .u8 x] = bv (bset s i x) := by
  have hlt : i.toNat < s.data.size := by
    have : s.data.size = s.size := rfl
    omega
  rw [Nat.mul_one, splice_one _ _ _ (by rw [bv_size]; exact hlt)]
  have hx : Value.int .u8 x = (fun b : UInt8 => Value.int .u8 (b.toNat : Int)) (UInt8.ofNat x.toNat) := by
    have : (UInt8.ofNat x.toNat).toNat = x.toNat := by simp; omega
    simp only [this]
    congr 1
    omega
  rw [hx]
  exact (Array.map_setIfInBounds ..).symm
theorem splice_hset {h : H} {i x : Int} (h0 : 0 ≤ i) (h1 : i < 32) (h2 : 0 ≤ x) (h3 : x ≤ 255) : splice (hv h) (i.toNat * 1) #[.int .u8 x] = hv (hset h i x) := splice_bset h0 (by rw [h.2]; exact h1) h2 h3
theorem bv_bt {s : ByteArray} {i : Int} (h0 : 0 ≤ i) (h1 : i < s.size) : (bv s)[i.toNat * 1]? = some (.int .u8 (bt s i)) := by
  have hlt : i.toNat < s.data.size := by
    have : s.data.size = s.size := rfl
    omega
  rw [Nat.mul_one, bv_get, bt, Array.getElem?_eq_getElem hlt]
  rfl
/-- Numbers of one kind. -/
def uv (k : IntKind) (l : List Int) : Array Value := (l.map fun x => Value.int k x).toArray
theorem uv_size (k : IntKind) (l : List Int) : (uv k l).size = l.length := by simp [uv]
theorem uv_one (k : IntKind) (l : List Int) : ∀ u ∈ (uv k l).toList, u.oneCell' = true := by
  intro u hu
  simp only [uv, List.mem_map] at hu
  obtain ⟨x, _, rfl⟩ := hu
  rfl
def nth (l : List Int) (i : Int) : Int := l.getD i.toNat 0
def nset (l : List Int) (i x : Int) : List Int := l.set i.toNat x
@[simp] theorem nset_length (l : List Int) (i x : Int) : (nset l i x).length = l.length := by simp [nset]
theorem uv_nth {k : IntKind} {l : List Int} {i : Int} (h0 : 0 ≤ i) (h1 : i < l.length) : (uv k l)[i.toNat * 1]? = some (.int k (nth l i)) := by
  have hlt : i.toNat < l.length := by omega
  simp [uv, nth, hlt]
theorem splice_uv {k : IntKind} {l : List Int} {i x : Int} (h0 : 0 ≤ i) (h1 : i < l.length) : splice (uv k l) (i.toNat * 1) #[.int k x] = uv k (nset l i x) := by
  rw [Nat.mul_one, splice_one _ _ _ (by rw [uv_size]; omega)]
  apply Array.toList_inj.1
  simp [uv, nset, List.map_set]
theorem bitop_u_nn (op : BinOp) (a b : Int) : 0 ≤ bitop op .u64 a b ∧ bitop op .u64 a b ≤ 18446744073709551615 := by
  unfold bitop
  cases op <;> simp only [IntKind.wrap_u64] <;> omega
theorem wrap_u8_in (a : Int) : 0 ≤ IntKind.u8.wrap a ∧ IntKind.u8.wrap a ≤ 255 := by rw [IntKind.wrap_u8]; omega
theorem wrap_u64_nn (a : Int) : 0 ≤ IntKind.u64.wrap a := by rw [IntKind.wrap_u64]; omega
theorem SL.old_blk {w0 w : World} {L : List Chk} (S : SL w0 L w) {g : Nat} {o : Obj} (h : w0.heap[g]? = some o) : w.heap[g]? = some o := (S.below.block g (Array.getElem?_eq_some_iff.1 h).1).trans h
/-- '^x'. -/
def compl (k : IntKind) (a : Int) : Int := bitop .xor k (if k.signed then -1 else k.max) a
section
variable {P : Program} {ρ : Operand → Value} {w : World} {d : Option Nat} {ty : TypeId} {pos : String} {after : Array Edge} {g : Option (Nat × Bool)}
theorem x_compl {x : Operand} {k : IntKind} {a : Int} {T : TypeId} (hx : ρ x = .int k a) : (execOp ρ ⟨d, .unOp .xor T x, ty, pos, after, g⟩).run P w = .ok (.value (.int k (compl k a))) w := by
  refine lift_v ?_
  simp [hx, Op.unary, Op.intBits, compl, bitop]
theorem x_slice_arrh {T e n gb : Nat} {x y : Operand} {k : IntKind} {b : Int} (hx : ρ x = .pointer (some ⟨gb, 0, none⟩)) (hy : ρ y = .int k b) (hu : P.underlying T = some (.array n e)) {sz : Nat} (hs : (P.info? e).map (·.size) = some sz) (h0 : 0 ≤ b) (h1 : b ≤ n) :
    (execOp ρ ⟨d, .slice T x none (some y) none, ty, pos, after, g⟩).run P w = .ok (.value (.slice (some ⟨gb, 0, none⟩) b.toNat n)) w := by
  refine lift_v ?_
  cases hq : P.info? e with
  | none => simp [hq] at hs
  | some i =>
  simp [hx, hy, Instr.sliceAt, run_underlying hu, Instr.sureAddr, Instr.sliceBounds, Instr.sliceBound, asIntOf, h0, h1, sizeOf, typeInfo, hq, Addr.add]
theorem x_bytes_pre {src e dst gb t m cap : Nat} {fr : Nat × Nat} {x : Operand} {h : ByteArray} (hx : ρ x = .slice (some ⟨gb, 0, none⟩) m cap) (hg : w.heap[gb]? = some (.cells (bv h) t fr)) (hs : P.underlying src = some (.slice e)) (he : P.underlying e = some (.int .u8)) (hd : P.underlying dst = some .string)
    (hm : m ≤ h.size) : (execOp ρ ⟨d, .convert src dst x, ty, pos, after, g⟩).run P w = .ok (.value (.string (h.extract 0 m))) w := by
  refine lift_v ?_
  rw [hx]
  have hsz : h.data.size = h.size := rfl
  have hl : (((h.extract 0 m).data.toList.map fun b => (b.toNat : Int))).length = m := by simp; omega
  have := run_convert_bytes_arg (P := P) w src e hs he gb 0 m cap ((h.extract 0 m).data.toList.map fun b => (b.toNat : Int)) hl (fun i hi => by
    have hi' : i < h.data.size := by omega
    rw [Nat.zero_add, cell_of_row w gb i _ _ _ hg, bv_get, Array.getElem?_eq_getElem hi']
    simp [ByteArray.data_extract, hi, hi']
    rw [Array.getElem?_eq_getElem hi']
    rfl) dst hd
  rw [this]
  congr 2
  apply ByteArray.ext
  show ((((h.extract 0 m).data.toList.map fun b => (b.toNat : Int))).map fun n => UInt8.ofNat n.toNat).toArray = (h.extract 0 m).data
  rw [List.map_map]
  have : ((fun n : Int => UInt8.ofNat n.toNat) ∘ fun b : UInt8 => (b.toNat : Int)) = id := by funext b; simp
  rw [this]
  simp
  apply Array.toList_inj.1
  simp
end
section
variable {P : Program} {ρ : Operand → Value} {w : World} {d : Option Nat} {ty : TypeId} {pos : String} {after : Array Edge} {g : Option (Nat × Bool)}
theorem x_build_arr {T e m sz bytes : Nat} {ps : Array (Nat × Operand)} {vs : List Value} {z : Value} {row : Array Value} (hu : P.underlying T = some (.array m e)) (he : (P.info? e).map (·.size) = some 1) (hi : TI P T z sz bytes) (hz : z.cells.size = vs.length * 1)
    (hp : (ps.toList.map fun p => (p.1, ρ p.2)) = (vs.zipIdx.map fun x => (x.2, x.1))) (hv : ∀ v ∈ vs, v.cells.size = 1) (hr : rowOf vs = row) :
    (execOp ρ ⟨d, .build T ps, ty, pos, after, g⟩).run P w = .ok (.value (.agg row)) w := by
  refine lift_v ?_
  subst hr
  obtain ⟨ti, hq, hzz, _⟩ := hi.ex
  obtain ⟨te, hqe, hze⟩ := size_of he
  have key := fill_all 1 vs 0 z.cells hv (by simpa using hz)
  have hp' : (ps.map fun (i, x) => (i, ρ x)).toList = (vs.zipIdx.map fun x => (x.2, x.1)) := by rw [Array.toList_map]; exact hp
  unfold Instr.build
  simp only [Sem.run_bind, zeroValue, typeInfo, Sem.run_pure, Result.andThen_ok]
  simp only [run_underlying hu, sizeOf, typeInfo]
  simp [Sem.run_bind, hq, hzz, hqe, hze]
  simp at hp'
  rw [hp']
  have k2 : Instr.fill (fun i => some (i, 1)) z.cells (vs.zipIdx.map fun x => (x.2, x.1)) = some (rowOf vs) := by
    have := key
    simp only [Nat.mul_one, Nat.zero_mul, List.take_zero] at this
    simpa using this
  rw [k2]
  rfl
theorem x_index_uv {T e m : Nat} {k k' : IntKind} {l : List Int} {x y : Operand} {i : Int} (hx : ρ x = .agg (uv k l)) (hy : ρ y = .int k' i) (hu : P.underlying T = some (.array m e)) (hs : (P.info? e).map (·.size) = some 1) {kd : IntKind} (he : P.underlying e = some (.int kd)) (h0 : 0 ≤ i) (h1 : i < m) (hl : l.length = m) :
    (execOp ρ ⟨d, .index T x y, ty, pos, after, g⟩).run P w = .ok (.value (.int k (nth l i))) w := by
  refine lift_v ?_
  obtain ⟨ti, hq, hz⟩ := size_of hs
  have hlt : i.toNat < l.length := by omega
  have hagg : (isAgg e).run P w = .ok false w := isAgg_false he rfl
  simp [hx, hy, Instr.index, run_underlying hu, asIntOf, h0, h1, sizeOf, typeInfo, hq, hz, part, Sem.run_bind, hagg, uv, nth, hlt]
end
end Go.Proofs.Ytjlbkbfnmcppeaa.Sl

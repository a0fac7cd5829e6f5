/-
  Rules for walking over a function's operations: environments, blocks, loops, regions that draw their order; no program in sight.
-/
import Derived.WalkKit
import Derived.KernelRfl
import Derived.Orders
import Derived.Deep.LoopGhost
namespace Go.Proofs.Ytjlbkbfnmcppeaa.Sl
open Go Go.RowKit

abbrev Env := Nat → Value
def upd (e : Env) (d : Nat) (v : Value) : Env := fun i => cond (Nat.beq i d) v (e i)
theorem upd_same (e : Env) (d : Nat) (v : Value) : upd e d v d = v := by simp [upd]
theorem upd_ne (e : Env) {d i : Nat} (v : Value) (h : i ≠ d) : upd e d v i = e i := by
  have : Nat.beq i d = false := by cases hb : Nat.beq i d with | false => rfl | true => exact absurd (Nat.eq_of_beq_eq_true hb) h
  simp [upd, this]
theorem upd_self (e : Env) (d : Nat) : upd e d (e d) = e := by
  funext i
  by_cases h : i = d
  · subst h; exact upd_same ..
  · exact upd_ne _ _ h
/-- The slots of a call's arguments. -/
def args : List Value → Env
  | [], _ => undef
  | v :: _, 0 => v
  | _ :: l, i + 1 => args l i
theorem args_eq : ∀ (l : List Value) (i : Nat), args l i = (l[i]?).getD undef
  | [], i => by simp [args]
  | v :: l, 0 => by simp [args]
  | v :: l, i + 1 => by simp [args, args_eq l i]

/-- The frame a's slots are e's. -/
structure Fr (n : Nat) (e : Env) (a : Act) : Prop where
  defers : a.defers = []
  size : a.tmps.size = n
  get : ∀ i, a.tmps.getD i undef = e i

def ev (e : Env) : Operand → Value
  | .tmp t => e t
  | .const v => v
  | .global g => .pointer (some ⟨g, 0, none⟩)
  | .func f => .func (.func f) #[] #[]

theorem Fr.eval {n : Nat} {e : Env} {a : Act} (h : Fr n e a) : a.eval = ev e := by
  funext x
  cases x with
  | tmp t => exact h.get t
  | _ => rfl

theorem Fr.put {n : Nat} {e : Env} {a : Act} (h : Fr n e a) {d : Nat} (hd : d < n) (v : Value) : Fr n (upd e d v) (a.put (some d) v) := by
  refine ⟨h.defers, ?_, fun i => ?_⟩
  · simp [Act.put, h.size]
  · by_cases hi : i = d
    · subst hi
      rw [upd_same]
      have : i < a.tmps.size := by rw [h.size]; exact hd
      simp [Act.put, this]
    · rw [upd_ne e v hi, ← h.get i]
      simp [Act.put, Array.getD_eq_getD_getElem?, Array.getElem?_setIfInBounds_ne (Ne.symm hi)]

abbrev QE := Exit → Env → World → Prop
def lift (n : Nat) (Q : QE) : Exit → Act → World → Prop := fun x a w => ∃ e, Fr n e a ∧ Q x e w
def WC (P : Program) (n : Nat) (c : Code) (Q : QE) (e : Env) (w : World) : Prop := ∀ a, Fr n e a → c.wp P (lift n Q) a w
def WL (P : Program) (n : Nat) (ops : Array Oper) (Q : QE) (l : List Oper) (e : Env) (w : World) : Prop := ∀ a, Fr n e a → wpList P ops (lift n Q) l a w
def thenQ (K : Env → World → Prop) (Q : QE) : QE
  | .normal, e, w => K e w
  | x, e, w => Q x e w
def blockQ (id : Nat) (Q : QE) : QE
  | .exit j, e, w => cond (Nat.beq j id) (Q .normal e w) (Q (.exit j) e w)
  | x, e, w => Q x e w

section rules
variable {P : Program} {n : Nat} {Q : QE} {e : Env} {w : World}
theorem WC.mono {c : Code} {Q' : QE} (h : WC P n c Q e w) (hq : ∀ x e w, Q x e w → Q' x e w) : WC P n c Q' e w := fun a ha =>
  wp_mono (h a ha) fun _ _ _ ⟨e, h1, h2⟩ => ⟨e, h1, hq _ _ _ h2⟩
theorem WC_seq {x y : Code} (h : WC P n x (thenQ (fun e w => WC P n y Q e w) Q) e w) : WC P n (x.seq y) Q e w := fun a ha => by
  refine wp_seq (wp_mono (h a ha) ?_)
  rintro x a w ⟨e, h1, h2⟩
  cases x <;> first | exact h2 a h1 | exact ⟨e, h1, h2⟩
theorem WC_block {id : Nat} {c : Code} (h : WC P n c (blockQ id Q) e w) : WC P n (.block id c) Q e w := fun a ha => by
  refine wp_block (wp_mono (h a ha) ?_)
  rintro x a w ⟨e, h1, h2⟩
  cases x with
  | exit j =>
    simp only [blockQ] at h2
    simp only [Exit.inBlock]
    by_cases hj : j = id
    · subst hj
      simp only [Nat.beq_refl, cond_true] at h2
      rw [if_pos rfl]
      exact ⟨e, h1, h2⟩
    · have : Nat.beq j id = false := by cases hb : Nat.beq j id with | false => rfl | true => exact absurd (Nat.eq_of_beq_eq_true hb) hj
      simp only [this, cond_false] at h2
      rw [if_neg hj]
      exact ⟨e, h1, h2⟩
  | _ => exact ⟨e, h1, h2⟩
theorem WC_exit {id : Nat} (h : Q (.exit id) e w) : WC P n (.exit id) Q e w := fun _ ha => wp_exit ⟨e, ha, h⟩
theorem WC_ret (h : Q .ret e w) : WC P n .ret Q e w := fun _ ha => wp_ret ⟨e, ha, h⟩
theorem WC_skip (h : Q .normal e w) : WC P n .skip Q e w := fun _ ha => wp_skip ⟨e, ha, h⟩
theorem WC_cond {c : Operand} {x y : Code} {t : Bool} (hc : ev e c = .bool t) (ht : t = true → WC P n x Q e w) (hf : t = false → WC P n y Q e w) : WC P n (.cond c x y) Q e w := fun a ha =>
  wp_cond_split (by rw [ha.eval]; exact hc) (fun h => ht h a ha) (fun h => hf h a ha)
/-- A loop by a measure that is a ghost. -/
theorem WC_loop {c : Code} (I : Nat → Env → World → Prop) {k : Nat} (h0 : I k e w)
    (round : ∀ k e w, I k e w → WC P n c (thenQ (fun e' w' => ∃ k', k' < k ∧ I k' e' w') Q) e w) : WC P n (.loop c) Q e w := fun a ha => by
  refine wp_loop_ghost (fun k a w => ∃ e, Fr n e a ∧ I k e w) k ⟨e, ha, h0⟩ ?_
  rintro k a w ⟨e, he, hI⟩
  refine wp_mono (round k e w hI a he) ?_
  rintro x a w ⟨e, h1, h2⟩
  cases x with
  | normal => obtain ⟨k', h3, h4⟩ := h2; exact ⟨k', h3, e, h1, h4⟩
  | _ => exact ⟨e, h1, h2⟩
/-- What the slots outside some say is forgotten. -/
theorem WC_env {c : Code} {e' : Env} (he : e' = e) (h : WC P n c Q e' w) : WC P n c Q e w := he ▸ h
/-- Where an operation writes. -/
def updo (e : Env) : Option Nat → Value → Env
  | some d, v => upd e d v
  | none, _ => e
def okd (n : Nat) : Option Nat → Prop
  | some d => d < n
  | none => True
theorem Fr.puto {n : Nat} {e : Env} {a : Act} (h : Fr n e a) {d : Option Nat} (hd : okd n d) (v : Value) : Fr n (updo e d v) (a.put d v) := by
  cases d with
  | none => exact h
  | some d => exact h.put hd v
/-- Is the operation wanted? -/
def wantedE (ops : Array Oper) (e : Env) (o : Oper) : Bool :=
  match o.guard with
  | none => true
  | some (j, b) => match (ops[j]?).bind (·.dst) with
    | some t => match e t with
      | .bool c => c == b
      | _ => false
    | none => false
theorem wantedE_eq {ops : Array Oper} {o : Oper} {a : Act} (ha : Fr n e a) : Region.wanted o (yielded ops a.tmps) = wantedE ops e o := by
  unfold Region.wanted wantedE
  cases hg : o.guard with
  | none => rfl
  | some p =>
    obtain ⟨j, b⟩ := p
    simp only [yielded]
    cases hj : (ops[j]?).bind (·.dst) with
    | none => simp
    | some t =>
      simp only [Option.bind_some]
      have h2 := ha.get t
      rw [Array.getD_eq_getD_getElem?] at h2
      cases ht : a.tmps[t]? with
      | none =>
        rw [ht] at h2
        simp only [Option.getD_none] at h2
        rw [← h2]
        rfl
      | some u =>
        rw [ht] at h2
        simp only [Option.getD_some] at h2
        rw [← h2]
        cases u <;> simp
/-- What one operation that runs comes to. -/
def Next1 (P : Program) (o : Oper) (e : Env) (K : Env → World → Prop) : Result Next → Prop
  | .ok (.value v) w' => K (updo e o.dst v) w'
  | .ok .skip w' => K (updo e o.dst undef) w'
  | .ok (.enter f vs) w' => Calls P f vs w' fun x w'' => ∃ v, x = .returned v ∧ K (updo e o.dst v) w''
  | _ => False
/-- One operation; K is what must hold behind it. -/
structure WO (P : Program) (n : Nat) (ops : Array Oper) (o : Oper) (K : Env → World → Prop) (e : Env) (w : World) : Prop where
  dst : okd n o.dst
  on : wantedE ops e o = true → Next1 P o e K ((execOp (ev e) o).run P w)
  off : wantedE ops e o = false → K (updo e o.dst undef) w
theorem Next1.mono {o : Oper} {K K' : Env → World → Prop} (hk : ∀ e w, K e w → K' e w) {r : Result Next} (h : Next1 P o e K r) : Next1 P o e K' r := by
  cases r with
  | halt x w => exact h.elim
  | ok x w =>
    cases x <;> first
      | exact hk _ _ h
      | exact Calls.mono h fun _ _ ⟨v, h1, h2⟩ => ⟨v, h1, hk _ _ h2⟩
      | exact h.elim
theorem WO.mono {ops : Array Oper} {o : Oper} {K K' : Env → World → Prop} (h : WO P n ops o K e w) (hk : ∀ e w, K e w → K' e w) : WO P n ops o K' e w :=
  ⟨h.dst, fun h1 => (h.on h1).mono hk, fun h1 => hk _ _ (h.off h1)⟩
theorem WO.wp {ops : Array Oper} {o : Oper} {K : Env → World → Prop} (h : WO P n ops o K e w) {a : Act} (ha : Fr n e a) (Q' : Exit → Act → World → Prop) :
    if Region.wanted o (yielded ops a.tmps) then o.wp P a w (fun a' w' => ∃ e', Fr n e' a' ∧ K e' w') Q' else ∃ e', Fr n e' (a.put o.dst undef) ∧ K e' w := by
  rw [wantedE_eq ha]
  split
  · rename_i hw
    have h1 := h.on hw
    unfold Oper.wp
    rw [ha.eval]
    generalize (execOp (ev e) o).run P w = r at *
    cases r with
    | halt x w => exact h1.elim
    | ok x w' =>
      cases x <;> first
        | exact ⟨_, ha.puto h.dst _, h1⟩
        | (refine Calls.mono h1 ?_
           rintro x w'' ⟨v, rfl, h2⟩
           exact ⟨_, ha.puto h.dst v, h2⟩)
        | exact h1.elim
  · rename_i hw
    exact ⟨_, ha.puto h.dst _, h.off (by simpa using hw)⟩
theorem WL_nil {ops : Array Oper} (h : Q .normal e w) : WL P n ops Q [] e w := fun _ ha => wpList_nil ⟨e, ha, h⟩
theorem WL_cons {ops : Array Oper} {o : Oper} {rest : List Oper} (h : WO P n ops o (WL P n ops Q rest) e w) : WL P n ops Q (o :: rest) e w := fun a ha => by
  unfold wpList
  have h1 := h.wp ha (lift n Q)
  split
  · rename_i hw
    rw [if_pos hw] at h1
    exact .inl (Oper.wp_mono (fun a w ⟨e', h2, h3⟩ => h3 a h2) h1)
  · rename_i hw
    rw [if_neg hw] at h1
    obtain ⟨e', h2, h3⟩ := h1
    exact h3 _ h2
theorem WC_region {id : Nat} {l : List Oper} (h : WL P n l.toArray Q l e w) : WC P n (.region id l.toArray false) Q e w := fun a ha => wp_region_lit (h a ha)

section op
variable {ops : Array Oper} {K : Env → World → Prop} {o : Oper}
/-- The operation is wanted: it has no guard, or the guard's slot says so. -/
theorem on_none (hg : o.guard = none) : wantedE ops e o = true := by simp [wantedE, hg]
theorem on_guard {j t : Nat} {b : Bool} (hg : o.guard = some (j, b)) (hj : (ops[j]?).bind (·.dst) = some t) (hv : e t = .bool b) : wantedE ops e o = true := by
  simp [wantedE, hg, hj, hv]
theorem off_guard {j t : Nat} {b : Bool} (hg : o.guard = some (j, b)) (hj : (ops[j]?).bind (·.dst) = some t) (hv : e t = .bool (!b)) : wantedE ops e o = false := by
  simp [wantedE, hg, hj, hv]
theorem WO_val {d : Nat} {v : Value} {w' : World} (hon : wantedE ops e o = true) (hd : o.dst = some d) (hdn : d < n) (hx : (execOp (ev e) o).run P w = .ok (.value v) w') (hk : K (upd e d v) w') : WO P n ops o K e w := by
  refine ⟨by rw [hd]; exact hdn, fun _ => ?_, fun h => (by rw [hon] at h; cases h)⟩
  rw [hx, Next1, hd]
  exact hk
theorem WO_skip {w' : World} (hon : wantedE ops e o = true) (hd : o.dst = none) (hx : (execOp (ev e) o).run P w = .ok .skip w') (hk : K e w') : WO P n ops o K e w := by
  refine ⟨by rw [hd]; trivial, fun _ => ?_, fun h => (by rw [hon] at h; cases h)⟩
  rw [hx, Next1, hd]
  exact hk
theorem WO_off {d : Nat} (hoff : wantedE ops e o = false) (hd : o.dst = some d) (hdn : d < n) (hk : K (upd e d undef) w) : WO P n ops o K e w := by
  refine ⟨by rw [hd]; exact hdn, fun h => (by rw [hoff] at h; cases h), fun _ => ?_⟩
  rw [hd]
  exact hk
theorem WO_off0 (hoff : wantedE ops e o = false) (hd : o.dst = none) (hk : K e w) : WO P n ops o K e w := by
  refine ⟨by rw [hd]; trivial, fun h => (by rw [hoff] at h; cases h), fun _ => ?_⟩
  rw [hd]
  exact hk
theorem WO_call {f : FuncId} {vs : Array Value} {w' : World} {d : Nat} (hon : wantedE ops e o = true) (hd : o.dst = some d) (hdn : d < n) (hx : (execOp (ev e) o).run P w = .ok (.enter f vs) w')
    {R : Ending → World → Prop} (hc : Calls P f vs w' R) (hk : ∀ x w'', R x w'' → ∃ v, x = .returned v ∧ K (upd e d v) w'') : WO P n ops o K e w := by
  refine ⟨by rw [hd]; exact hdn, fun _ => ?_, fun h => (by rw [hon] at h; cases h)⟩
  rw [hx, Next1, hd]
  exact hc.mono hk
end op

/-! ### A region that draws its order -/
/-- May the operation come up? -/
def Rdy (done : List Nat) (i : Nat) (o : Oper) : Bool := !done.contains i && o.after.all fun ed => !Region.binds .any ed || done.contains ed.on
/-- Which may. -/
def rdyL (ops : Array Oper) (done : List Nat) : List Nat := (List.range ops.size).filter fun i => (ops[i]?).any (Rdy done i)
/-- Whatever order is picked from here on; S holds till all is done. -/
def WD (P : Program) (n : Nat) (ops : Array Oper) (Q : QE) (S : World → Prop) (Z : List Nat) : Nat → List Nat → Env → World → Prop
  | 0, done, e, w => rdyL ops done = [] ∧ Q .normal e w
  | k + 1, done, e, w => (rdyL ops done = [] → Q .normal e w) ∧
    ∀ i o, ops[i]? = some o → i ∈ rdyL ops done → WO P n ops o (fun e' w' => (S w' ∨ Z.contains i = true) ∧ WD P n ops Q S Z k (i :: done) e' w') e w
theorem mem_rdyL {ops : Array Oper} {done : List Nat} {i : Nat} : i ∈ rdyL ops done ↔ ∃ o, ops[i]? = some o ∧ Rdy done i o = true := by
  unfold rdyL
  rw [List.mem_filter, List.mem_range]
  constructor
  · rintro ⟨h1, h2⟩
    exact ⟨ops[i], Array.getElem?_eq_getElem h1, by simpa [Array.getElem?_eq_getElem h1] using h2⟩
  · rintro ⟨o, h1, h2⟩
    exact ⟨(Array.getElem?_eq_some_iff.1 h1).1, by simp [h1, h2]⟩
theorem WC_draw {id : Nat} {ops : Array Oper} (hm : P.follows .mixedOrders = true) (S : World → Prop) (Z : List Nat) (h : WD P n ops Q S Z ops.size [] e w.drew) : WC P n (.region id ops true) Q e w := by
  intro a ha
  refine wp_region_any hm ?_
  have key : ∀ (fuel : Nat) (listed : Array Bool) (done : List Nat) (e : Env) (a : Act) (w : World), listed.size = ops.size → (∀ i, i < ops.size → listed[i]? = some (done.contains i)) → (∀ i, i ∈ done → i < ops.size) →
      Fr n e a → WD P n ops Q S Z fuel done e w → wpAny P .any ops (lift n Q) fuel listed a w := by
    have hready : ∀ (listed : Array Bool) (done : List Nat), listed.size = ops.size → (∀ i, i < ops.size → listed[i]? = some (done.contains i)) → (∀ i, i ∈ done → i < ops.size) → Region.ready .any ops listed = rdyL ops done := by
      intro listed done hs hl hdl
      unfold Region.ready rdyL
      refine List.filter_congr fun i hi => ?_
      have hilt := List.mem_range.1 hi
      have hb : ∀ j, listed.getD j false = done.contains j := fun j => by
        rw [Array.getD_eq_getD_getElem?]
        rcases Nat.lt_or_ge j ops.size with h | h
        · rw [hl j h]; rfl
        · rw [Array.getElem?_eq_none (by omega)]
          cases hc : done.contains j with
          | false => rfl
          | true => exact absurd (hdl j (by simpa using hc)) (by omega)
      rw [Array.getD_eq_getD_getElem?, hl i hilt, Array.getElem?_eq_getElem hilt]
      simp only [Option.getD_some, Option.map_some, Option.any_some, Rdy, hb]
    intro fuel
    induction fuel with
    | zero =>
      intro listed done e a w hs hl hdl hf hI
      refine ⟨by rw [hready listed done hs hl hdl]; exact hI.1, e, hf, hI.2⟩
    | succ fuel ih =>
      intro listed done e a w hs hl hdl hf hI
      refine ⟨fun hr => ⟨e, hf, hI.1 (by rw [← hready listed done hs hl hdl]; exact hr)⟩, fun i hi => ?_⟩
      rw [hready listed done hs hl hdl] at hi
      obtain ⟨o, ho, hro⟩ := mem_rdyL.1 hi
      have hilt : i < ops.size := (Array.getElem?_eq_some_iff.1 ho).1
      have h1 := (hI.2 i o ho hi).wp hf (lift n Q)
      have go : ∀ e' a' w', Fr n e' a' → WD P n ops Q S Z fuel (i :: done) e' w' → wpAny P .any ops (lift n Q) fuel (listed.setIfInBounds i true) a' w' := by
        intro e' a' w' hf' hI'
        refine ih _ (i :: done) e' a' w' (by simpa using hs) (fun j hj => ?_) (fun j hj => ?_) hf' hI'
        · by_cases hji : j = i
          · subst hji
            have : j < listed.size := by omega
            simp [this]
          · rw [Array.getElem?_setIfInBounds_ne (Ne.symm hji), hl j hj]
            simp [hji]
        · rcases List.mem_cons.1 hj with h | h
          · subst h; exact hilt
          · exact hdl j h
      unfold wpOp
      rw [ho]
      simp only []
      split
      · rename_i hw
        rw [if_pos hw] at h1
        exact .inl (Oper.wp_mono (fun a' w' ⟨e', h3, _, h4⟩ => go e' a' w' h3 h4) h1)
      · rename_i hw
        rw [if_neg hw] at h1
        obtain ⟨e', h3, _, h4⟩ := h1
        exact go e' _ w h3 h4
  exact key ops.size _ [] e a w.drew (by simp) (fun i hi => by simp [hi]) (by simp) ha h
/-- What an operation that only looks yields in every world that meets S. -/
def Yld (P : Program) (n : Nat) (ops : Array Oper) (S : World → Prop) (o : Oper) (v : Value) (e : Env) : Prop :=
  okd n o.dst ∧ ((wantedE ops e o = true ∧ ∀ w, S w → (execOp (ev e) o).run P w = .ok (.value v) w) ∨ (wantedE ops e o = false ∧ v = undef))
/-- The slots that an operation looks at. -/
def looks (ops : Array Oper) (o : Oper) : List Nat := o.looksAt ops
/-- Two operations that have nothing to do with each other. -/
def apartE (ops : Array Oper) (x y : Oper) : Bool := x.apart ops y
theorem upd_comm (e : Env) {d d' : Nat} (h : d ≠ d') (u v : Value) : upd (upd e d u) d' v = upd (upd e d' v) d u := by
  funext i
  by_cases h1 : i = d
  · subst h1
    rw [upd_ne _ _ h, upd_same, upd_same]
  · by_cases h2 : i = d'
    · subst h2
      rw [upd_same, upd_ne _ _ h1, upd_same]
    · rw [upd_ne _ _ h2, upd_ne _ _ h1, upd_ne _ _ h1, upd_ne _ _ h2]
theorem updo_comm (e : Env) {x y : Option Nat} (h : ∀ d, x = some d → y ≠ some d) (u v : Value) : updo (updo e x u) y v = updo (updo e y v) x u := by
  cases x with
  | none => rfl
  | some d =>
    cases y with
    | none => rfl
    | some d' => exact upd_comm e (fun e => h d rfl (by rw [e])) u v
theorem ev_updo {e : Env} {d : Option Nat} {v : Value} {x : Operand} (h : ∀ t, d = some t → x ≠ .tmp t) : ev (updo e d v) x = ev e x := by
  cases d with
  | none => rfl
  | some t =>
    cases x with
    | tmp i => exact upd_ne e v fun he => h t rfl (by rw [he])
    | _ => rfl
theorem exec_updo {e : Env} {ops : Array Oper} {o : Oper} (hs : ∀ cs b, o.op ≠ .select cs b) {d : Option Nat} {v : Value} (h : ∀ t, d = some t → t ∉ o.looksAt ops) : execOp (ev (updo e d v)) o = execOp (ev e) o :=
  execOp_congr o hs fun x hx => ev_updo fun t ht hxt => h t ht (by
    subst hxt
    exact List.mem_append_left _ (List.mem_filterMap.2 ⟨.tmp t, by simpa using hx, rfl⟩))
theorem wantedE_updo {e : Env} {ops : Array Oper} {o : Oper} {d : Option Nat} {v : Value} (h : ∀ t, d = some t → t ∉ o.looksAt ops) : wantedE ops (updo e d v) o = wantedE ops e o := by
  cases d with
  | none => rfl
  | some t =>
    unfold wantedE
    cases hg : o.guard with
    | none => rfl
    | some p =>
      obtain ⟨j, b⟩ := p
      simp only []
      cases hj : (ops[j]?).bind (·.dst) with
      | none => rfl
      | some u =>
        have hne : u ≠ t := fun he => h t rfl (by
          subst he
          unfold Oper.looksAt
          rw [hg]
          simp [hj])
        simp only [updo, upd_ne e v hne]
/-- The operation that only looks is taken first. -/
theorem WD_take {ops : Array Oper} {S : World → Prop} {Z : List Nat} {i : Nat} {oi : Oper} {v : Value} (hi : ops[i]? = some oi) (hsel : Region.noSelect ops = true) : ∀ (k : Nat) (done : List Nat) (e : Env) (w : World),
    (∀ j oj, ops[j]? = some oj → j ≠ i → done.contains j = false → (∀ ed ∈ oj.after, Region.binds .any ed = true → ed.on ≠ i) → oi.apart ops oj = true) →
    (∀ j oj, ops[j]? = some oj → Z.contains j = true → ∃ ed ∈ oj.after, Region.binds .any ed = true ∧ ed.on = i) → i ∈ rdyL ops done → Yld P n ops S oi v e → S w → WD P n ops Q S Z k (i :: done) (updo e oi.dst v) w → WD P n ops Q S Z (k + 1) done e w := by
  have sel : ∀ (j : Nat) (o : Oper) cs b, ops[j]? = some o → o.op ≠ .select cs b := Region.noSelect_spec hsel
  have swap : ∀ (done : List Nat) (j : Nat), rdyL ops (i :: j :: done) = rdyL ops (j :: i :: done) := fun done j => by
    have hc : ∀ x, (i :: j :: done).contains x = (j :: i :: done).contains x := fun x => by
      simp only [List.contains_cons]
      cases x == i <;> cases x == j <;> simp
    unfold rdyL Rdy
    simp only [hc]
  have swapWD : ∀ (k : Nat) (d1 d2 : List Nat) (e : Env) (w : World), (∀ x, d1.contains x = d2.contains x) → WD P n ops Q S Z k d1 e w → WD P n ops Q S Z k d2 e w := by
    intro k
    induction k with
    | zero =>
      intro d1 d2 e w hc h
      have hr : rdyL ops d1 = rdyL ops d2 := by unfold rdyL Rdy; simp only [hc]
      exact ⟨hr ▸ h.1, h.2⟩
    | succ k ih =>
      intro d1 d2 e w hc h
      have hr : rdyL ops d1 = rdyL ops d2 := by unfold rdyL Rdy; simp only [hc]
      refine ⟨fun h0 => h.1 (hr ▸ h0), fun j o ho hj => (h.2 j o ho (hr ▸ hj)).mono ?_⟩
      rintro e' w' ⟨h1, h2⟩
      have hc' : ∀ x, (j :: d1).contains x = (j :: d2).contains x := fun x => by simp only [List.contains_cons, hc]
      exact ⟨h1, ih _ _ e' w' hc' h2⟩
  intro k
  induction k with
  | zero =>
    intro done e w hap hz hr hy hS H
    refine ⟨fun h0 => (by rw [h0] at hr; cases hr), fun j o ho hj => ?_⟩
    by_cases hji : j = i
    · subst hji
      rw [hi] at ho
      injection ho with ho
      subst ho
      obtain ⟨hd, hy⟩ := hy
      rcases hy with ⟨h1, h2⟩ | ⟨h1, rfl⟩
      · exact ⟨hd, fun _ => by rw [h2 w hS]; exact ⟨.inl hS, H⟩, fun h => (by rw [h1] at h; cases h)⟩
      · exact ⟨hd, fun h => (by rw [h1] at h; cases h), fun _ => ⟨.inl hS, H⟩⟩
    · exfalso
      have : j ∈ rdyL ops (i :: done) := by
        obtain ⟨o', ho', hr'⟩ := mem_rdyL.1 hj
        refine mem_rdyL.2 ⟨o', ho', ?_⟩
        unfold Rdy at hr' ⊢
        simp only [Bool.and_eq_true, Bool.not_eq_true', List.contains_cons, Array.all_eq_true] at hr' ⊢
        refine ⟨(by have h9 := hr'.1; simp at h9; simp [h9, hji]), fun x hx => ?_⟩
        have := hr'.2 x hx
        simp only [Bool.or_eq_true] at this ⊢
        rcases this with h | h
        · exact .inl h
        · exact .inr (.inr h)
      rw [H.1] at this
      cases this
  | succ k ih =>
    intro done e w hap hz hr hy hS H
    refine ⟨fun h0 => (by rw [h0] at hr; cases hr), fun j o ho hj => ?_⟩
    by_cases hji : j = i
    · subst hji
      rw [hi] at ho
      injection ho with ho
      subst ho
      obtain ⟨hd, hy⟩ := hy
      rcases hy with ⟨h1, h2⟩ | ⟨h1, rfl⟩
      · exact ⟨hd, fun _ => by rw [h2 w hS]; exact ⟨.inl hS, H⟩, fun h => (by rw [h1] at h; cases h)⟩
      · exact ⟨hd, fun h => (by rw [h1] at h; cases h), fun _ => ⟨.inl hS, H⟩⟩
    · obtain ⟨o', ho', hrj⟩ := mem_rdyL.1 hj
      rw [ho] at ho'
      injection ho' with ho'
      subst ho'
      have hrj2 := hrj
      unfold Rdy at hrj2
      simp only [Bool.and_eq_true, Bool.not_eq_true', Array.all_eq_true] at hrj2
      have hinot : done.contains i = false := by
        obtain ⟨_, h1, h2⟩ := mem_rdyL.1 hr
        unfold Rdy at h2
        simp only [Bool.and_eq_true, Bool.not_eq_true'] at h2
        exact h2.1
      have hnot : ∀ ed ∈ o.after, Region.binds .any ed = true → ed.on ≠ i := fun ed hed hb heq => by
        obtain ⟨x, hx, hxe⟩ := Array.mem_iff_getElem.1 hed
        have := hrj2.2 x hx
        rw [hxe, hb, heq, hinot] at this
        simp at this
      have hA := hap j o ho hji hrj2.1 hnot
      obtain ⟨a1, a2, a3⟩ := Oper.apart_spec hA
      have hj' : j ∈ rdyL ops (i :: done) := by
        refine mem_rdyL.2 ⟨o, ho, ?_⟩
        unfold Rdy
        simp only [Bool.and_eq_true, Bool.not_eq_true', List.contains_cons, Array.all_eq_true]
        refine ⟨(by have h9 := hrj2.1; simp at h9; simp [h9, hji]), fun x hx => ?_⟩
        have := hrj2.2 x hx
        simp only [Bool.or_eq_true] at this ⊢
        rcases this with h | h
        · exact .inl h
        · exact .inr (.inr h)
      have h1 := H.2 j o ho hj'
      have hw : wantedE ops (updo e oi.dst v) o = wantedE ops e o := wantedE_updo a1
      have hx : execOp (ev (updo e oi.dst v)) o = execOp (ev e) o := exec_updo (fun cs b => sel j o cs b ho) a1
      have hrd : i ∈ rdyL ops (j :: done) := by
        obtain ⟨o2, ho2, h2⟩ := mem_rdyL.1 hr
        refine mem_rdyL.2 ⟨o2, ho2, ?_⟩
        unfold Rdy at h2 ⊢
        simp only [Bool.and_eq_true, Bool.not_eq_true', List.contains_cons, Array.all_eq_true] at h2 ⊢
        refine ⟨(by have h9 := h2.1; simp at h9; simp [h9, Ne.symm hji]), fun x hx => ?_⟩
        have := h2.2 x hx
        simp only [Bool.or_eq_true] at this ⊢
        rcases this with h | h
        · exact .inl h
        · exact .inr (.inr h)
      have hzj : Z.contains j = false := by
        cases hc : Z.contains j with
        | false => rfl
        | true =>
          obtain ⟨ed, h2, h3, h4⟩ := hz j o ho hc
          exact absurd h4 (hnot ed h2 h3)
      have step : ∀ e' w', ((S w' ∨ Z.contains j = true) ∧ WD P n ops Q S Z k (j :: i :: done) (updo e' oi.dst v) w') → Yld P n ops S oi v e' →
          (S w' ∨ Z.contains j = true) ∧ WD P n ops Q S Z (k + 1) (j :: done) e' w' := by
        rintro e' w' ⟨hS', h3⟩ hy'
        have hS2 : S w' := hS'.resolve_right (by rw [hzj]; simp)
        refine ⟨.inl hS2, ih (j :: done) e' w' ?_ hz hrd hy' hS2 (swapWD k _ _ _ _ (fun x => ?_) h3)⟩
        · intro l ol hol hli hdl hwait
          refine hap l ol hol hli ?_ hwait
          simp only [List.contains_cons, Bool.or_eq_false_iff] at hdl
          exact hdl.2
        · simp only [List.contains_cons]
          cases x == i <;> cases x == j <;> simp
      have keepY : ∀ u, Yld P n ops S oi v (updo e o.dst u) := fun u => by
        obtain ⟨hd, hy⟩ := hy
        refine ⟨hd, ?_⟩
        have e1 : execOp (ev (updo e o.dst u)) oi = execOp (ev e) oi := exec_updo (fun cs b => sel i oi cs b hi) a3
        have e2 : wantedE ops (updo e o.dst u) oi = wantedE ops e oi := wantedE_updo a3
        rw [e1, e2]
        exact hy
      refine ⟨h1.dst, fun hon => ?_, fun hoff => ?_⟩
      · have h2 := h1.on (by rw [hw]; exact hon)
        rw [hx] at h2
        generalize (execOp (ev e) o).run P w = r at *
        cases r with
        | halt x w => exact h2.elim
        | ok x w' =>
          cases x <;> first
            | (simp only [Next1] at h2 ⊢
               rw [updo_comm e a2] at h2
               exact step _ _ h2 (keepY _))
            | (refine Calls.mono h2 ?_
               rintro x w'' ⟨u, rfl, h3⟩
               rw [updo_comm e a2] at h3
               exact ⟨u, rfl, step _ _ h3 (keepY u)⟩)
            | exact h2.elim
      · have h2 := h1.off (by rw [hw]; exact hoff)
        rw [updo_comm e a2] at h2
        exact step _ _ h2 (keepY _)
/-- Just one operation may come up. -/
theorem WD_only {ops : Array Oper} {S : World → Prop} {Z : List Nat} {i : Nat} {oi : Oper} {k : Nat} {done : List Nat} (hi : ops[i]? = some oi) (hr : rdyL ops done = [i])
    (h : WO P n ops oi (fun e' w' => (S w' ∨ Z.contains i = true) ∧ WD P n ops Q S Z k (i :: done) e' w') e w) : WD P n ops Q S Z (k + 1) done e w := by
  refine ⟨fun h0 => (by rw [hr] at h0; cases h0), fun j o ho hj => ?_⟩
  rw [hr] at hj
  obtain rfl := List.mem_singleton.1 hj
  rw [hi] at ho
  injection ho with ho
  subst ho
  exact h
theorem WD_done {ops : Array Oper} {S : World → Prop} {Z : List Nat} {done : List Nat} (hr : rdyL ops done = []) (h : Q .normal e w) : WD P n ops Q S Z 0 done e w := ⟨hr, h⟩
end rules

/-- A call, by the walk over its body. -/
def retQ (P : Program) (fn : Func) (R : Ending → World → Prop) : QE
  | .normal, e, w | .ret, e, w => ∃ v, (∀ tmps : Array Value, (∀ i, tmps.getD i undef = e i) → (results fn tmps).run P w = .ok v w) ∧ R (.returned v) w
  | .panic chain, _, w => R (.panicked chain) w
  | _, _, _ => False
theorem calls_of_WC {P : Program} {f : FuncId} {fn : Func} {c : Code} {vs : List Value} {w : World} {R : Ending → World → Prop}
    (hf : P.funcs[f]? = some fn) (hb : fn.body = some c) (hn : vs.length ≤ fn.ntmps) (h : WC P fn.ntmps c (retQ P fn R) (args vs) w) : Calls P f vs.toArray w R := by
  refine calls_of_wp hf hb (wp_mono (h _ ⟨rfl, ?_, fun i => ?_⟩) ?_)
  · simp; omega
  · rw [args_eq, Array.getD_eq_getD_getElem?]
    simp only [Array.getElem?_append, List.size_toArray, List.getElem?_toArray]
    by_cases hi : i < vs.length
    · simp [hi]
    · simp only [hi, if_false, Array.getElem?_replicate]
      rw [List.getElem?_eq_none (by omega)]
      split <;> rfl
  · rintro x a w ⟨e, h1, h2⟩
    cases x with
    | normal => obtain ⟨v, h3, h4⟩ := h2; exact ⟨h1.defers, v, h3 _ h1.get, h4⟩
    | ret => obtain ⟨v, h3, h4⟩ := h2; exact ⟨h1.defers, v, h3 _ h1.get, h4⟩
    | panic ch => exact ⟨h1.defers, h2⟩
    | _ => exact h2.elim
end Go.Proofs.Ytjlbkbfnmcppeaa.Sl

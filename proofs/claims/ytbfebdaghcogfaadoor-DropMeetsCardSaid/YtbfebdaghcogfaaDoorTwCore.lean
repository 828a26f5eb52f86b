/- A small logic for walking Go functions: what the temporaries hold (a list), which blocks are one's own (a list), what is known of memory that is only read (facts with the blocks that they speak of). -/
import Derived.WalkKit
import Derived.Deep.LoopGhost
import Derived.Laws.OwnMore
import Derived.Laws.MakeOwn
import Derived.Laws.CopyRow
import Derived.Laws.Cover3
section
namespace Go.Tw

/-! ## What is known -/

abbrev Env := List (Nat × Value)

def look : Env → Nat → Option Value
  | [], _ => none
  | (s, v) :: r, t => bif Nat.beq s t then some v else look r t

theorem beq_ne {s t : Nat} (h : s ≠ t) : Nat.beq s t = false := by
  cases hb : Nat.beq s t with
  | false => rfl
  | true => exact absurd (Nat.eq_of_beq_eq_true hb) h

/-- What one owns: a block, or a slice of one's own with what it holds (n elements of s cells; nil is one, too). -/
inductive Ent where
  | blk (b : Nat) (o : Obj)
  | sl (v : Value) (T : TypeId) (s n : Nat) (xs : List Value)

def Ent.keys : Ent → List Nat
  | .blk b _ => [b]
  | .sl v _ _ _ _ => v.ownBlock.toList

def Ent.holds (w : World) : Ent → Prop
  | .blk b o => w.heap[b]? = some o
  | .sl v T s n xs => w.ownsRow 0 T s v n xs

theorem Ent.holds_of {w w' : World} {e : Ent} (h : e.holds w) (hs : ∀ b, b ∈ e.keys → w'.heap[b]? = w.heap[b]?) : e.holds w' := by
  cases e with
  | blk b o => show w'.heap[b]? = some o; rw [hs b (by simp [Ent.keys])]; exact h
  | sl v T s n xs =>
    refine ⟨h.1, ?_⟩
    rcases h.2 with h | ⟨g, cap, cur, hv, hb, hg, r⟩
    · exact Or.inl h
    · exact Or.inr ⟨g, cap, cur, hv, hb, by rw [hs g (by simp [Ent.keys, hv, Value.ownBlock])]; exact hg, r⟩

theorem heap_lt {w : World} {b : Nat} {o : Obj} (ho : w.heap[b]? = some o) : b < w.heap.size := by
  rcases Nat.lt_or_ge b w.heap.size with h | h
  · exact h
  · rw [Array.getElem?_eq_none h] at ho; cases ho

theorem Ent.lt {w : World} {e : Ent} (h : e.holds w) {b : Nat} (hb : b ∈ e.keys) : b < w.heap.size := by
  cases e with
  | blk b' o => simp [Ent.keys] at hb; subst hb; exact heap_lt h
  | sl v T s n xs =>
    rcases h.2 with ⟨hv, _⟩ | ⟨g, cap, cur, hv, _, hg, _⟩
    · simp [Ent.keys, hv, Value.ownBlock] at hb
    · simp [Ent.keys, hv, Value.ownBlock] at hb; subst hb; exact heap_lt hg

abbrev Own := List Ent

def keys (B : Own) : List Nat := B.flatMap Ent.keys

theorem mem_keys {B : Own} {e : Ent} {b : Nat} (he : e ∈ B) (hb : b ∈ e.keys) : b ∈ keys B := List.mem_flatMap.2 ⟨e, he, hb⟩

theorem keys_sub {B' B : Own} (h : List.Sublist B' B) : List.Sublist (keys B') (keys B) := by
  induction h with
  | slnil => exact .slnil
  | cons e _ ih => simp only [keys, List.flatMap_cons] at *; exact ih.trans (List.sublist_append_right _ _)
  | cons_cons e _ ih => simp only [keys, List.flatMap_cons] at *; exact (List.Sublist.refl _).append ih

/-- A fact on memory that is only read, and the blocks that it speaks of. -/
structure Fact where
  F : World → Prop
  fp : Nat → Prop

def Fact.holds (w : World) (f : Fact) : Prop := ∀ w', (∀ b, f.fp b → w'.heap[b]? = w.heap[b]?) → f.F w'

/-- What a walk owns in a world. -/
structure Has (w : World) (B : Own) : Prop where
  ent : ∀ e, e ∈ B → e.holds w
  nd : (keys B).Nodup

/-- What it may read. -/
structure Reads (w : World) (K : List Nat) (R : List Fact) : Prop where
  fact : ∀ f, f ∈ R → f.holds w
  dis : ∀ f, f ∈ R → ∀ b, f.fp b → b < w.heap.size ∧ b ∉ K

/-- What a call may have done: blocks K were handed to it. -/
structure Step (K : List Nat) (w w' : World) (B' : Own) : Prop where
  os : w'.os = w.os
  tape : w'.tape = w.tape
  output : w'.output = w.output
  size : w.heap.size ≤ w'.heap.size
  same : ∀ k, k < w.heap.size → k ∉ K → w'.heap[k]? = w.heap[k]?
  own : ∀ k, k ∈ keys B' → k ∈ K ∨ w.heap.size ≤ k

/-- What one operation has done. -/
structure LS (w w' : World) (B : Own) (B' : Own) : Prop where
  step : Step (keys B) w w' B'
  has : Has w' B'

/-- Where a function is walked. -/
structure Cx where
  P : Program
  n : Nat
  w0 : World
  K : List Nat
  R : List Fact
  D : List Deferred

structure St (c : Cx) (env : Env) (B : Own) (a : Act) (w : World) : Prop where
  defers : a.defers = c.D
  size : a.tmps.size = c.n
  env : ∀ t v, look env t = some v → a.tmps[t]? = some v
  has : Has w B
  step : Step c.K c.w0 w B
  reads : Reads c.w0 c.K c.R

def GL (c : Cx) (ops : Array Oper) (Q : Exit → Act → World → Prop) (l : List Oper) (env : Env) (B : Own) : Prop :=
  ∀ a w, St c env B a w → wpList c.P ops Q l a w

def GC (c : Cx) (Q : Exit → Act → World → Prop) (code : Code) (env : Env) (B : Own) : Prop :=
  ∀ a w, St c env B a w → code.wp c.P Q a w

/-- Where control has come to an exit. -/
def Fin (c : Cx) (Q : Exit → Act → World → Prop) (e : Exit) (env : Env) (B : Own) : Prop :=
  ∀ a w, St c env B a w → Q e a w

/-! ## Code -/

section code
variable {c : Cx} {Q : Exit → Act → World → Prop} {env : Env} {B : Own}

theorem c_seq {x y : Code} (h : GC c (Exit.then (fun a w => y.wp c.P Q a w) Q) x env B) : GC c Q (.seq x y) env B :=
  fun a w s => wp_seq (h a w s)

theorem c_skip (h : Fin c Q .normal env B) : GC c Q .skip env B := fun a w s => wp_skip (h a w s)
theorem c_exit {id : Nat} (h : Fin c Q (.exit id) env B) : GC c Q (.exit id) env B := fun a w s => wp_exit (h a w s)
theorem c_goto {l : Nat} (h : Fin c Q (.goto l) env B) : GC c Q (.goto l) env B := fun a w s => wp_goto (h a w s)
theorem c_label {l : Nat} (h : Fin c Q .normal env B) : GC c Q (.label l) env B := fun a w s => wp_label (h a w s)
theorem c_ret (h : Fin c Q .ret env B) : GC c Q .ret env B := fun a w s => wp_ret (h a w s)
theorem c_block {id : Nat} {x : Code} (h : GC c (Exit.inBlock id Q) x env B) : GC c Q (.block id x) env B := fun a w s => wp_block (h a w s)

/-- Behind the first of two comes the second. -/
theorem f_next {y : Code} (h : GC c Q y env B) : Fin c (Exit.then (fun a w => y.wp c.P Q a w) Q) .normal env B := h
theorem f_pass_ret {K : Act → World → Prop} (h : Fin c Q .ret env B) : Fin c (Exit.then K Q) .ret env B := h
theorem f_pass_exit {K : Act → World → Prop} {id : Nat} (h : Fin c Q (.exit id) env B) : Fin c (Exit.then K Q) (.exit id) env B := h
theorem f_pass_goto {K : Act → World → Prop} {id : Nat} (h : Fin c Q (.goto id) env B) : Fin c (Exit.then K Q) (.goto id) env B := h
theorem f_block_normal {id : Nat} (h : Fin c Q .normal env B) : Fin c (Exit.inBlock id Q) .normal env B := h
theorem f_block_ret {id : Nat} (h : Fin c Q .ret env B) : Fin c (Exit.inBlock id Q) .ret env B := h
theorem f_block_exit {id : Nat} (h : Fin c Q .normal env B) : Fin c (Exit.inBlock id Q) (.exit id) env B := by
  intro a w s; show Exit.inBlock id Q (.exit id) a w; simp only [Exit.inBlock, if_true]; exact h a w s
theorem f_block_pass {id j : Nat} (hne : Nat.beq j id = false) (h : Fin c Q (.exit j) env B) : Fin c (Exit.inBlock id Q) (.exit j) env B := by
  intro a w s; show Exit.inBlock id Q (.exit j) a w
  have : ¬ j = id := by intro e; rw [e] at hne; simp at hne
  simp only [Exit.inBlock, if_neg this]; exact h a w s

theorem St.eval {a : Act} {w : World} (s : St c env B a w) {t : Nat} {v : Value} (h : look env t = some v) : a.eval (.tmp t) = v := by
  have := s.env t v h
  simp only [Act.eval, Array.getD_eq_getD_getElem?, this, Option.getD_some]

/-- What an operand is. -/
def ev (env : Env) : Operand → Option Value
  | .tmp t => look env t
  | .const v => some v
  | .global g => some (.pointer (some ⟨g, 0, none⟩))
  | .func f => some (.func (.func f) #[] #[])

theorem St.ev {a : Act} {w : World} (s : St c env B a w) {x : Operand} {v : Value} (h : ev env x = some v) : a.eval x = v := by
  cases x with
  | tmp t => exact s.eval h
  | const v' => simp only [Tw.ev, Option.some.injEq] at h; exact h
  | global g => simp only [Tw.ev, Option.some.injEq] at h; exact h
  | func f => simp only [Tw.ev, Option.some.injEq] at h; exact h

theorem c_cond {x : Operand} {t e : Code} {b : Bool} (hx : ev env x = some (.bool b)) (ht : b = true → GC c Q t env B) (he : b = false → GC c Q e env B) : GC c Q (.cond x t e) env B :=
  fun a w s => wp_cond_split (s.ev hx) (fun h => ht h a w s) (fun h => he h a w s)
theorem c_cond_dec {x : Operand} {t e : Code} {p : Prop} [Decidable p] (hx : ev env x = some (.bool (decide p))) (ht : p → GC c Q t env B) (he : ¬ p → GC c Q e env B) : GC c Q (.cond x t e) env B :=
  c_cond hx (fun h => ht (of_decide_eq_true h)) (fun h => he (of_decide_eq_false h))
theorem c_cond_yes {x : Operand} {t e : Code} {p : Prop} [Decidable p] (hx : ev env x = some (.bool (decide p))) (hp : p) (ht : GC c Q t env B) : GC c Q (.cond x t e) env B :=
  c_cond_dec hx (fun _ => ht) (fun h => absurd hp h)
theorem c_cond_no {x : Operand} {t e : Code} {p : Prop} [Decidable p] (hx : ev env x = some (.bool (decide p))) (hp : ¬ p) (he : GC c Q e env B) : GC c Q (.cond x t e) env B :=
  c_cond_dec hx (fun h => absurd h hp) (fun _ => he)
theorem c_cond_true {x : Operand} {t e : Code} (hx : ev env x = some (.bool true)) (ht : GC c Q t env B) : GC c Q (.cond x t e) env B :=
  c_cond hx (fun _ => ht) (fun h => by cases h)
theorem c_cond_false {x : Operand} {t e : Code} (hx : ev env x = some (.bool false)) (he : GC c Q e env B) : GC c Q (.cond x t e) env B :=
  c_cond hx (fun h => by cases h) (fun _ => he)

/-- Less is known. -/
def EnvLe : Env → Env → Prop
  | [], _ => True
  | (t, v) :: r, env => look env t = some v ∧ EnvLe r env

theorem EnvLe.look : ∀ {e' e : Env}, EnvLe e' e → ∀ t v, look e' t = some v → look e t = some v
  | [], _, _, t, v, h => by simp [Tw.look] at h
  | (s, u) :: r, e, ⟨h1, h2⟩, t, v, h => by
    simp only [Tw.look] at h
    by_cases hs : s = t
    · subst hs; simp at h; rw [← h]; exact h1
    · have := beq_ne hs
      rw [this] at h; exact h2.look t v h

theorem Has.sub {w : World} {B B' : Own} (h : Has w B) (hB : List.Sublist B' B) : Has w B' :=
  ⟨fun e he => h.ent e (hB.mem he), List.Nodup.sublist (keys_sub hB) h.nd⟩

theorem St.weak {a : Act} {w : World} (s : St c env B a w) {env' : Env} {B' : Own} (he : EnvLe env' env) (hB : List.Sublist B' B) : St c env' B' a w where
  defers := s.defers
  size := s.size
  env := fun t v h => s.env t v (he.look t v h)
  has := s.has.sub hB
  step := { s.step with own := fun k hk => s.step.own k ((keys_sub hB).mem hk) }
  reads := s.reads

theorem c_weak {code : Code} {env' : Env} {B' : Own} (he : EnvLe env' env) (hB : List.Sublist B' B) (h : GC c Q code env' B') : GC c Q code env B :=
  fun a w s => h a w (s.weak he hB)

/-- A cut: what follows is walked once. -/
theorem c_loop {X : Type} {body : Code} (m : X → Nat) (E : X → Env) (BB : X → Own) (x0 : X)
    (he : EnvLe (E x0) env) (hB : List.Sublist (BB x0) B)
    (hr : ∀ x, GC c (Exit.then (fun a w => ∃ y, m y < m x ∧ St c (E y) (BB y) a w) Q) body (E x) (BB x)) : GC c Q (.loop body) env B := by
  intro a w s
  refine wp_loop_ghost (fun n a w => ∃ x, m x = n ∧ St c (E x) (BB x) a w) (m x0) ⟨x0, rfl, s.weak he hB⟩ ?_
  rintro n a w ⟨x, rfl, s⟩
  refine wp_mono (hr x a w s) ?_
  intro e a' w' q
  cases e with
  | normal => obtain ⟨y, hy, hs⟩ := q; exact ⟨m y, hy, y, rfl, hs⟩
  | _ => exact q

/-- A round's end. -/
theorem f_round {X : Type} {m : X → Nat} {E : X → Env} {BB : X → Own} {x : X} (y : X) (hm : m y < m x)
    (he : EnvLe (E y) env) (hB : List.Sublist (BB y) B) :
    Fin c (Exit.then (fun a w => ∃ y, m y < m x ∧ St c (E y) (BB y) a w) Q) .normal env B :=
  fun _ _ s => ⟨y, hm, s.weak he hB⟩

theorem c_region {id : Nat} {l : List Oper} (h : GL c l.toArray Q l env B) : GC c Q (.region id l.toArray false) env B :=
  fun a w s => wp_region_lit (h a w s)

theorem g_nil {ops : Array Oper} (h : Fin c Q .normal env B) : GL c ops Q [] env B := fun a w s => wpList_nil (h a w s)

end code

/-! ## Operations -/

theorem Step.trans {K : List Nat} {w0 w w' : World} {B B' : Own} (s : Step K w0 w B) (l : Step (keys B) w w' B') : Step K w0 w' B' where
  os := l.os.trans s.os
  tape := l.tape.trans s.tape
  output := l.output.trans s.output
  size := Nat.le_trans s.size l.size
  same := fun k hk hK => by
    rw [l.same k (Nat.lt_of_lt_of_le hk s.size) ?_, s.same k hk hK]
    intro hb
    rcases s.own k hb with h | h
    · exact hK h
    · omega
  own := fun k hk => by
    rcases l.own k hk with h | h
    · exact s.own k h
    · exact Or.inr (Nat.le_trans s.size h)

theorem St.put {c : Cx} {env : Env} {B B' : Own} {a : Act} {w w' : World} (s : St c env B a w) {d : Nat} (hd : Nat.blt d c.n = true) (v : Value) (l : LS w w' B B') :
    St c ((d, v) :: env) B' (a.put (some d) v) w' where
  defers := s.defers
  size := by simp only [Act.put, Array.size_setIfInBounds]; exact s.size
  env := by
    intro t u h
    have hd' : d < a.tmps.size := by rw [s.size]; exact Nat.le_of_ble_eq_true hd
    simp only [look] at h
    by_cases ht : d = t
    · subst ht
      simp at h
      subst h
      simp [Act.put, hd']
    · have := beq_ne ht
      rw [this] at h
      simp only [Act.put]
      rw [Array.getElem?_setIfInBounds_ne ht]
      exact s.env t u h
  has := l.has
  step := s.step.trans l.step
  reads := s.reads

theorem St.put0 {c : Cx} {env : Env} {B B' : Own} {a : Act} {w w' : World} (s : St c env B a w) (v : Value) (l : LS w w' B B') :
    St c env B' (a.put none v) w' where
  defers := s.defers
  size := s.size
  env := s.env
  has := l.has
  step := s.step.trans l.step
  reads := s.reads

theorem LS.refl {w : World} {B : Own} (h : Has w B) : LS w w B B :=
  ⟨⟨rfl, rfl, rfl, Nat.le_refl _, fun _ _ _ => rfl, fun _ h => Or.inl h⟩, h⟩

/-- Facts on what is only read hold in each later world. -/
theorem St.read {c : Cx} {env : Env} {B : Own} {a : Act} {w : World} (s : St c env B a w) {f : Fact} (hf : f ∈ c.R) : f.F w :=
  s.reads.fact f hf w fun b hb => s.step.same b (s.reads.dis f hf b hb).1 (s.reads.dis f hf b hb).2

/-- An operation that only reckons. -/
def OpE (c : Cx) (o : Oper) (env : Env) (B : Own) (v : Value) : Prop :=
  ∀ a w, St c env B a w → (execOp a.eval o).run c.P w = .ok (.value v) w

/-- Likewise, where it may be guarded. -/
def OpV (c : Cx) (ops : Array Oper) (o : Oper) (env : Env) (B : Own) (v : Value) : Prop :=
  ∀ a w, St c env B a w → (Region.wanted o (yielded ops a.tmps) = true ∧ (execOp a.eval o).run c.P w = .ok (.value v) w) ∨ (Region.wanted o (yielded ops a.tmps) = false ∧ v = undef)

/-- What an operation does, of itself or by a call. -/
def Does (c : Cx) (o : Oper) (ρ : Operand → Value) (w : World) (R : Value → World → Prop) : Prop :=
  (∃ v w', (execOp ρ o).run c.P w = .ok (.value v) w' ∧ R v w') ∨ (∃ w', (execOp ρ o).run c.P w = .ok .skip w' ∧ R undef w') ∨
  (∃ f args w', (execOp ρ o).run c.P w = .ok (.enter f args) w' ∧ Calls c.P f args w' (fun e w'' => ∃ v, e = .returned v ∧ R v w''))

theorem Does.wp {c : Cx} {o : Oper} {a : Act} {w : World} {R : Value → World → Prop} {K : Act → World → Prop} {Q : Exit → Act → World → Prop} (h : Does c o a.eval w R) (hK : ∀ u w', R u w' → K (a.put o.dst u) w') : o.wp c.P a w K Q := by
  unfold Oper.wp
  rcases h with ⟨v, w', hr, h⟩ | ⟨w', hr, h⟩ | ⟨f, args, w', hr, h⟩
  · rw [hr, Oper.upon_value]; exact hK _ _ h
  · rw [hr, Oper.upon_skip]; exact hK _ _ h
  · rw [hr, Oper.upon_enter]
    refine h.mono ?_
    rintro e w'' ⟨v, rfl, hv⟩
    exact hK _ _ hv

/-- An operation that may do something to the world: N is what is wanted behind it, of its result and of what one then owns. -/
def OpX (c : Cx) (o : Oper) (env : Env) (B : Own) (N : Value → Own → Prop) : Prop :=
  ∃ (X : Type) (v : X → Value) (B' : X → Own), (∀ x, N (v x) (B' x)) ∧ ∀ a w, St c env B a w → Does c o a.eval w (fun u w' => ∃ x, u = v x ∧ LS w w' B (B' x))

section ops
variable {c : Cx} {ops : Array Oper} {Q : Exit → Act → World → Prop} {rest : List Oper} {env : Env} {B : Own} {o : Oper} {N : Value → Own → Prop}

theorem opx {X : Type} {v : X → Value} {B' : X → Own}
    (hx : ∀ a w, St c env B a w → ∃ x w', (execOp a.eval o).run c.P w = .ok (.value (v x)) w' ∧ LS w w' B (B' x))
    (h : ∀ x, N (v x) (B' x)) : OpX c o env B N := by
  refine ⟨X, v, B', h, fun a w s => ?_⟩
  obtain ⟨x, w', hr, hl⟩ := hx a w s
  exact Or.inl ⟨_, w', hr, x, rfl, hl⟩

theorem opx0 {B' : Own} (hx : ∀ a w, St c env B a w → ∃ w', (execOp a.eval o).run c.P w = .ok .skip w' ∧ LS w w' B B')
    (h : N undef B') : OpX c o env B N := by
  refine ⟨Unit, fun _ => undef, fun _ => B', fun _ => h, fun a w s => ?_⟩
  obtain ⟨w', hr, hl⟩ := hx a w s
  exact Or.inr (Or.inl ⟨w', hr, (), rfl, hl⟩)

theorem v_plain {v : Value} (hp : OpE c o env B v) (hg : o.guard = none := by rfl) : OpV c ops o env B v := fun a w s =>
  Or.inl ⟨by simp [Region.wanted, hg], hp a w s⟩

theorem St.yields {a : Act} {w : World} (s : St c env B a w) {j t : Nat} {b : Bool} (ht : (ops[j]?).bind (·.dst) = some t) (hv : look env t = some (.bool b)) : yielded ops a.tmps j = some b := by
  have := s.env t _ hv
  simp [yielded, ht, this]

theorem v_yes {v : Value} {j t : Nat} {b : Bool} (hp : OpE c o env B v) (hg : o.guard = some (j, b) := by rfl) (ht : (ops[j]?).bind (·.dst) = some t := by rfl) (hv : look env t = some (.bool b) := by rfl) : OpV c ops o env B v := fun a w s =>
  Or.inl ⟨by simp [Region.wanted, hg, s.yields ht hv], hp a w s⟩
theorem v_no {j t : Nat} {b : Bool} (hg : o.guard = some (j, b) := by rfl) (ht : (ops[j]?).bind (·.dst) = some t := by rfl) (hv : look env t = some (.bool (!b)) := by rfl) : OpV c ops o env B undef := fun a w s =>
  Or.inr ⟨by simp [Region.wanted, hg, s.yields ht hv], rfl⟩

/-! In a sequence. -/
theorem s_v {v : Value} {d : Nat} (hp : OpV c ops o env B v) (h : GL c ops Q rest ((d, v) :: env) B) (ho : o.dst = some d := by rfl) (hd : Nat.blt d c.n = true := by rfl) : GL c ops Q (o :: rest) env B := by
  intro a w s
  have hs : ∀ u, u = v → wpList c.P ops Q rest (a.put o.dst u) w := fun u hu => by rw [hu, ho]; exact h _ _ (s.put hd v (LS.refl s.has))
  unfold wpList
  rcases hp a w s with ⟨hw, hr⟩ | ⟨hw, rfl⟩
  · rw [if_pos hw]
    left
    unfold Oper.wp
    rw [hr, Oper.upon_value]
    exact hs v rfl
  · rw [hw]
    exact hs undef rfl
theorem s_p {v : Value} {d : Nat} (hp : OpE c o env B v) (h : GL c ops Q rest ((d, v) :: env) B) (ho : o.dst = some d := by rfl) (hd : Nat.blt d c.n = true := by rfl) (hg : o.guard = none := by rfl) : GL c ops Q (o :: rest) env B :=
  s_v (v_plain hp hg) h ho hd
theorem s_x {d : Nat} (hp : OpX c o env B (fun v B' => GL c ops Q rest ((d, v) :: env) B')) (ho : o.dst = some d := by rfl) (hd : Nat.blt d c.n = true := by rfl) (hg : o.guard = none := by rfl) : GL c ops Q (o :: rest) env B := by
  intro a w s
  obtain ⟨X, v, B', hN, hx⟩ := hp
  refine wpList_plain hg fun K hK => (hx a w s).wp ?_
  rintro u w' ⟨x, rfl, hl⟩
  rw [ho]
  exact hK _ _ (hN x _ _ (s.put hd _ hl))
theorem s_xg {d j t : Nat} {b : Bool} (hp : OpX c o env B (fun v B' => GL c ops Q rest ((d, v) :: env) B')) (ho : o.dst = some d := by rfl) (hd : Nat.blt d c.n = true := by rfl) (hg : o.guard = some (j, b) := by rfl) (ht : (ops[j]?).bind (·.dst) = some t := by rfl) (hv : look env t = some (.bool b) := by rfl) : GL c ops Q (o :: rest) env B := by
  intro a w s
  obtain ⟨X, v, B', hN, hx⟩ := hp
  unfold wpList
  rw [if_pos (by simp [Region.wanted, hg, s.yields ht hv])]
  left
  refine (hx a w s).wp ?_
  rintro u w' ⟨x, rfl, hl⟩
  rw [ho]
  exact hN x _ _ (s.put hd _ hl)
theorem s_x0 (hp : OpX c o env B (fun _ B' => GL c ops Q rest env B')) (ho : o.dst = none := by rfl) (hg : o.guard = none := by rfl) : GL c ops Q (o :: rest) env B := by
  intro a w s
  obtain ⟨X, v, B', hN, hx⟩ := hp
  refine wpList_plain hg fun K hK => (hx a w s).wp ?_
  rintro u w' ⟨x, rfl, hl⟩
  rw [ho]
  exact hK _ _ (hN x _ _ (s.put0 _ hl))

end ops

/-- What a function does: from the blocks Bp that it is handed and the facts Rp on what it reads, it returns v, and owns B'. -/
def Fn (P : Program) (f : FuncId) (args : List Value) (Bp : Own) (Rp : List Fact) (Post : Value → Own → Prop) : Prop :=
  ∀ w, Has w Bp → Reads w (keys Bp) Rp → Calls P f args.toArray w (fun e w' => ∃ v B', e = .returned v ∧ Post v B' ∧ Has w' B' ∧ Step (keys Bp) w w' B')

/-- The temporaries at a function's begin. -/
def argEnv : Nat → List Value → Env
  | _, [] => []
  | i, v :: r => (i, v) :: argEnv (i + 1) r

theorem look_argEnv : ∀ (l : List Value) (i t : Nat) (v : Value), look (argEnv i l) t = some v → i ≤ t ∧ l[t - i]? = some v
  | [], _, _, _, h => by simp [argEnv, look] at h
  | u :: r, i, t, v, h => by
    simp only [argEnv, look] at h
    by_cases ht : i = t
    · subst ht; simp at h; subst h; simp
    · have := beq_ne ht
      rw [this] at h
      obtain ⟨h1, h2⟩ := look_argEnv r (i + 1) t v h
      refine ⟨by omega, ?_⟩
      have e : t - i = (t - (i + 1)) + 1 := by omega
      rw [e, List.getElem?_cons_succ]; exact h2

/-- What holds where a walked function returns. -/
def Ret (P : Program) (fn : Func) (w : World) (Bp : Own) (Post : Value → Own → Prop) : Exit → Act → World → Prop :=
  bodyPost P fn (fun e w' => ∃ v B', e = .returned v ∧ Post v B' ∧ Has w' B' ∧ Step (keys Bp) w w' B')

theorem fn_enter {P : Program} {f : FuncId} {fn : Func} {code : Code} {n : Nat} {args : List Value} {Bp : Own} {Rp : List Fact} {Post : Value → Own → Prop}
    (hf : P.funcs[f]? = some fn) (hb : fn.body = some code) (hn : fn.ntmps = n) (hle : Nat.ble args.length n = true)
    (h : ∀ w, GC ⟨P, n, w, keys Bp, Rp, []⟩ (Ret P fn w Bp Post) code (argEnv 0 args) Bp) :
    Fn P f args Bp Rp Post := by
  intro w hw hR
  refine calls_of_wp hf hb (h w _ _ ?_)
  have hle' : args.length ≤ n := Nat.le_of_ble_eq_true hle
  refine ⟨rfl, ?_, ?_, hw, ?_, hR⟩
  · simp only [Array.size_append, Array.size_replicate, List.size_toArray, hn]; omega
  · intro t v ht
    obtain ⟨_, h2⟩ := look_argEnv args 0 t v ht
    have hlt : t < args.length := by
      rcases Nat.lt_or_ge t args.length with h | h
      · exact h
      · rw [Nat.sub_zero, List.getElem?_eq_none h] at h2; cases h2
    rw [Array.getElem?_append_left (by simpa using hlt)]
    simpa using h2
  · exact ⟨rfl, rfl, rfl, Nat.le_refl _, fun _ _ _ => rfl, fun k hk => Or.inl hk⟩

/-- What a result variable holds. -/
inductive ResV (P : Program) (env : Env) (B : Own) : ResultVar → Value → Prop
  | tmp {t : Nat} {v : Value} (h : look env t = some v) : ResV P env B (.tmp t) v
  | agg {t : Nat} {ty b : Nat} {cs : List Value} {T : TypeId} {fr : Nat × Nat} (h : look env t = some (.pointer (some ⟨b, 0, none⟩))) (hb : Ent.blk b (.cells cs.toArray T fr) ∈ B)
      (ha : (isAgg ty).run P default = .ok true default) (hs : (sizeOf ty).run P default = .ok cs.length default) : ResV P env B (.cell t ty) (.agg cs.toArray)
  | one {t : Nat} {ty b : Nat} {v : Value} {T : TypeId} {fr : Nat × Nat} (h : look env t = some (.pointer (some ⟨b, 0, none⟩))) (hb : Ent.blk b (.cells #[v] T fr) ∈ B)
      (ha : (isAgg ty).run P default = .ok false default) : ResV P env B (.cell t ty) v

end Go.Tw
end

section
namespace Go.Tw

/-! ## The tables, and what one owns, found by instances -/

class Und (P : Program) (t : TypeId) (d : outParam TypeDesc) : Prop where
  und : P.underlying t = some d
class Inf (P : Program) (t : TypeId) (s by' : outParam Nat) : Prop where
  inf : ∃ i, P.info? t = some i ∧ i.size = s ∧ i.bytes = by'
class Zer (P : Program) (t : TypeId) (z : outParam (List Value)) : Prop where
  zer : ∃ i v, P.info? t = some i ∧ i.zero = some v ∧ v.cells = z.toArray
/-- Of one cell, no struct and no array. -/
class Sca (P : Program) (t : TypeId) : Prop where
  sca : ∃ d, P.underlying t = some d ∧ (match d with | .struct _ | .array _ _ => true | _ => false) = false
class Agg (P : Program) (t : TypeId) : Prop where
  agg : ∃ d, P.underlying t = some d ∧ (match d with | .struct _ | .array _ _ => true | _ => false) = true
/-- Field i of a struct type: where it begins, its type. -/
class Fld (P : Program) (t : TypeId) (i : Nat) (off ft : outParam Nat) : Prop where
  fld : ∃ fs f, P.underlying t = some (.struct fs) ∧ fs[i]? = some f ∧ f.offset = off ∧ f.type = ft

class InB (b : Nat) (o : outParam Obj) (B : Own) : Prop where
  mem : Ent.blk b o ∈ B
instance InB.head {b : Nat} {o : Obj} {B : Own} : InB b o (Ent.blk b o :: B) := ⟨List.mem_cons_self⟩
instance InB.tail {b : Nat} {o : Obj} {e : Ent} {B : Own} [h : InB b o B] : InB b o (e :: B) := ⟨List.mem_cons_of_mem _ h.mem⟩

class InSl (v : Value) (T : outParam TypeId) (s n : outParam Nat) (xs : outParam (List Value)) (B : Own) : Prop where
  mem : Ent.sl v T s n xs ∈ B
instance InSl.head {v : Value} {T : TypeId} {s n : Nat} {xs : List Value} {B : Own} : InSl v T s n xs (Ent.sl v T s n xs :: B) := ⟨List.mem_cons_self⟩
instance InSl.tail {v : Value} {T : TypeId} {s n : Nat} {xs : List Value} {e : Ent} {B : Own} [h : InSl v T s n xs B] : InSl v T s n xs (e :: B) := ⟨List.mem_cons_of_mem _ h.mem⟩

/-- One entry turned into another at its place. -/
class Up (e e' : Ent) (B : Own) (B' : outParam Own) : Prop where
  up : ∃ l r, B = l ++ e :: r ∧ B' = l ++ e' :: r
instance Up.head {e e' : Ent} {B : Own} : Up e e' (e :: B) (e' :: B) := ⟨[], B, rfl, rfl⟩
instance Up.tail {e e' x : Ent} {B B' : Own} [h : Up e e' B B'] : Up e e' (x :: B) (x :: B') := by
  obtain ⟨l, r, h1, h2⟩ := h.up
  exact ⟨x :: l, r, by rw [h1]; rfl, by rw [h2]; rfl⟩

/-- One entry taken out. -/
class Rm (e : Ent) (B : Own) (B' : outParam Own) : Prop where
  rm : ∃ l r, B = l ++ e :: r ∧ B' = l ++ r
instance Rm.head {e : Ent} {B : Own} : Rm e (e :: B) B := ⟨[], B, rfl, rfl⟩
instance Rm.tail {e x : Ent} {B B' : Own} [h : Rm e B B'] : Rm e (x :: B) (x :: B') := by
  obtain ⟨l, r, h1, h2⟩ := h.rm
  exact ⟨x :: l, r, by rw [h1]; rfl, by rw [h2]; rfl⟩

/-! ## What the world does -/

theorem Has.alloc {w : World} {B : Own} (h : Has w B) (o : Obj) : Has (w.alloc o) (Ent.blk w.heap.size o :: B) := by
  have hold : ∀ b, b < w.heap.size → (w.alloc o).heap[b]? = w.heap[b]? := fun b hb => by
    show (w.heap.push o)[b]? = _; rw [Array.getElem?_push, if_neg (by omega)]
  refine ⟨?_, ?_⟩
  · intro e he
    rcases List.mem_cons.1 he with rfl | he
    · show (w.heap.push o)[w.heap.size]? = _; rw [Array.getElem?_push, if_pos rfl]
    · exact Ent.holds_of (h.ent e he) fun b hb => hold b (Ent.lt (h.ent e he) hb)
  · simp only [keys, List.flatMap_cons, Ent.keys, List.singleton_append, List.nodup_cons]
    refine ⟨?_, h.nd⟩
    intro hm
    obtain ⟨e, he, hb⟩ := List.mem_flatMap.1 hm
    have := Ent.lt (h.ent e he) hb
    omega

theorem LS.alloc {w : World} {B : Own} (h : Has w B) (o : Obj) : LS w (w.alloc o) B (Ent.blk w.heap.size o :: B) where
  step := {
    os := rfl, tape := rfl, output := rfl, size := by simp
    same := fun k hk _ => by show (w.heap.push o)[k]? = _; rw [Array.getElem?_push, if_neg (by omega)]
    own := fun k hk => by
      simp only [keys, List.flatMap_cons, Ent.keys, List.singleton_append, List.mem_cons] at hk
      rcases hk with rfl | hk
      · exact Or.inr (Nat.le_refl _)
      · exact Or.inl hk }
  has := h.alloc o

theorem keys_app (l r : Own) : keys (l ++ r) = keys l ++ keys r := by simp [keys, List.flatMap_append]
theorem keys_cons (e : Ent) (r : Own) : keys (e :: r) = e.keys ++ keys r := rfl

/-- A world that differs in one entry's blocks alone. -/
theorem LS.up {w w' : World} {B B' : Own} {e e' : Ent} (hup : ∃ l r, B = l ++ e :: r ∧ B' = l ++ e' :: r) (h : Has w B) (hk : e'.keys = e.keys) (he : e'.holds w')
    (h1 : w'.os = w.os) (h2 : w'.tape = w.tape) (h3 : w'.output = w.output) (h4 : w.heap.size ≤ w'.heap.size) (hs : ∀ b, b ∉ e.keys → b < w.heap.size → w'.heap[b]? = w.heap[b]?) : LS w w' B B' := by
  obtain ⟨l, r, rfl, rfl⟩ := hup
  have hkk : keys (l ++ e' :: r) = keys (l ++ e :: r) := by simp only [keys_app, keys_cons, hk]
  refine ⟨⟨h1, h2, h3, h4, fun k hk hn => hs k (fun hm => hn (mem_keys (e := e) (by simp) hm)) hk, fun k hk => Or.inl (by rw [← hkk]; exact hk)⟩, ?_, ?_⟩
  · intro x hx
    have hnd := h.nd
    rw [keys_app, keys_cons] at hnd
    rcases List.mem_append.1 hx with hx | hx
    · refine Ent.holds_of (h.ent x (by simp [hx])) fun b hb => hs b ?_ (Ent.lt (h.ent x (by simp [hx])) hb)
      intro hm
      exact (List.nodup_append.1 hnd).2.2 b (mem_keys hx hb) b (List.mem_append_left _ hm) rfl
    · rcases List.mem_cons.1 hx with rfl | hx
      · exact he
      · refine Ent.holds_of (h.ent x (by simp [hx])) fun b hb => hs b ?_ (Ent.lt (h.ent x (by simp [hx])) hb)
        intro hm
        exact (List.nodup_append.1 (List.nodup_append.1 hnd).2.1).2.2 b hm b (mem_keys hx hb) rfl
  · rw [hkk]; exact h.nd

theorem LS.row {w : World} {B B' : Own} {b : Nat} {cs cs' : Array Value} {T : TypeId} {fr : Nat × Nat} (hup : ∃ l r, B = l ++ Ent.blk b (.cells cs T fr) :: r ∧ B' = l ++ Ent.blk b (.cells cs' T fr) :: r) (h : Has w B) : LS w (w.setRow b cs') B B' := by
  have hm : Ent.blk b (.cells cs T fr) ∈ B := by obtain ⟨l, r, h1, _⟩ := hup; rw [h1]; simp
  have hb := h.ent _ hm
  refine LS.up hup h rfl (setRow_heap w b cs cs' T fr hb) rfl rfl rfl (by simp) ?_
  intro k hk _
  exact setRow_other w b k cs' (by simpa [Ent.keys] using hk)

/-! ## Laws of the machine's words -/

section laws
variable {P : Program} {t s y : Nat} {d : TypeDesc} {z : List Value}

theorem run_und [h : Und P t d] (w : World) : (underlying t).run P w = .ok d w := by simp [underlying, h.und]
theorem run_inf (h : ∃ i, P.info? t = some i ∧ i.size = s ∧ i.bytes = y) (w : World) : (sizeOf t).run P w = .ok s w := by
  obtain ⟨i, hi, hs, _⟩ := h
  simp [sizeOf, typeInfo, hi, hs]
theorem run_zer [h : Zer P t z] (w : World) : ∃ v, (zeroValue t).run P w = .ok v w ∧ v.cells = z.toArray := by
  obtain ⟨i, v, hi, hv, hc⟩ := h.zer
  exact ⟨v, by simp [zeroValue, typeInfo, hi, hv], hc⟩
theorem run_sca [h : Sca P t] (w : World) : (isAgg t).run P w = .ok false w := by
  obtain ⟨d, hd, hb⟩ := h.sca
  simp only [isAgg, underlying]
  simp [hd]
  cases d <;> simp_all
theorem run_agg [h : Agg P t] (w : World) : (isAgg t).run P w = .ok true w := by
  obtain ⟨d, hd, hb⟩ := h.agg
  simp only [isAgg, underlying]
  simp [hd]
  cases d <;> simp_all

end laws

/-! ## Reckoning -/

/-- A row of unsigned numbers; one of signed ones. -/
def us (k : IntKind) (l : List Nat) : List Value := l.map fun x : Nat => .int k (x : Int)
def is (k : IntKind) (l : List Int) : List Value := l.map fun x => .int k x

@[simp] theorem us_length (k : IntKind) (l : List Nat) : (us k l).length = l.length := by simp [us]
@[simp] theorem is_length (k : IntKind) (l : List Int) : (is k l).length = l.length := by simp [is]
theorem us_get {k : IntKind} {l : List Nat} {i : Nat} (h : i < l.length) : (us k l)[i]? = some (.int k ((l.getD i 0 : Nat) : Int)) := by
  simp [us, h]
theorem is_get {k : IntKind} {l : List Int} {i : Nat} (h : i < l.length) : (is k l)[i]? = some (.int k (l.getD i 0)) := by
  simp [is, h]
theorem us_set (k : IntKind) (l : List Nat) (i x : Nat) : (us k l).set i (.int k (x : Int)) = us k (l.set i x) := by
  simp [us, List.map_set]
theorem is_set (k : IntKind) (l : List Int) (i : Nat) (x : Int) : (is k l).set i (.int k x) = is k (l.set i x) := by
  simp [is, List.map_set]
theorem us_take (k : IntKind) (l : List Nat) (i : Nat) : (us k l).take i = us k (l.take i) := by simp [us, List.map_take]
theorem us_drop (k : IntKind) (l : List Nat) (i : Nat) : (us k l).drop i = us k (l.drop i) := by simp [us, List.map_drop]
theorem us_append (k : IntKind) (l m : List Nat) : us k l ++ us k m = us k (l ++ m) := by simp [us]

theorem wrap_un {k : IntKind} (hk : k.signed = false) (n : Nat) : k.wrap (n : Int) = ((n % 2 ^ k.bits : Nat) : Int) := by
  cases k <;> simp [IntKind.signed] at hk <;> simp only [IntKind.wrap, IntKind.bits, IntKind.signed] <;> simp <;> omega

/-- A number that its kind holds. -/
class Fits (n : Nat) (k : IntKind) : Prop where
  lt : n < 2 ^ k.bits
instance Fits.mod {n : Nat} {k : IntKind} : Fits (n % 2 ^ k.bits) k := ⟨Nat.mod_lt _ (Nat.two_pow_pos _)⟩
instance Fits.and1 {a b : Nat} {k : IntKind} [h : Fits b k] : Fits (a &&& b) k := ⟨Nat.and_lt_two_pow _ h.lt⟩
instance Fits.and2 {a b : Nat} {k : IntKind} [h : Fits a k] : Fits (a &&& b) k := ⟨Nat.lt_of_le_of_lt Nat.and_le_left h.lt⟩
instance Fits.or {a b : Nat} {k : IntKind} [h1 : Fits a k] [h2 : Fits b k] : Fits (a ||| b) k := ⟨Nat.or_lt_two_pow h1.lt h2.lt⟩
instance Fits.xor {a b : Nat} {k : IntKind} [h1 : Fits a k] [h2 : Fits b k] : Fits (a ^^^ b) k := ⟨Nat.xor_lt_two_pow h1.lt h2.lt⟩
instance Fits.shr {a b : Nat} {k : IntKind} [h1 : Fits a k] : Fits (a >>> b) k := ⟨Nat.lt_of_le_of_lt (by rw [Nat.shiftRight_eq_div_pow]; exact Nat.div_le_self _ _) h1.lt⟩
instance Fits.div {a b : Nat} {k : IntKind} [h1 : Fits a k] : Fits (a / b) k := ⟨Nat.lt_of_le_of_lt (Nat.div_le_self _ _) h1.lt⟩
instance Fits.rem {a b : Nat} {k : IntKind} [h1 : Fits a k] : Fits (a % b) k := ⟨Nat.lt_of_le_of_lt (Nat.mod_le _ _) h1.lt⟩
instance Fits.zero {k : IntKind} : Fits 0 k := ⟨Nat.two_pow_pos _⟩
instance Fits.one {k : IntKind} : Fits 1 k := ⟨by cases k <;> decide⟩
instance Fits.not {a : Nat} {k : IntKind} : Fits (2 ^ k.bits - 1 - a) k := ⟨by have := Nat.two_pow_pos k.bits; omega⟩

section ops
variable {c : Cx} {ops : Array Oper} {Q : Exit → Act → World → Prop} {rest : List Oper} {env : Env} {B : Own} {d ty : Nat} {pos : String} {af : Array Edge} {x y z : Operand} {v vx vy : Value} {N : Value → Own → Prop}

theorem p_move (hx : ev env x = some v := by rfl) : OpE c ⟨some d, .move x, ty, pos, af, none⟩ env B (v) :=
  fun a w s => by simp only [execOp]; rw [s.ev hx]; rfl
theorem p_assign (hx : ev env x = some v := by rfl) : OpE c ⟨some d, .assign x, ty, pos, af, none⟩ env B (v) :=
  fun a w s => by simp only [execOp]; rw [s.ev hx]; rfl

theorem p_bin {op : BinOp} {t t2 : Nat} (hx : ev env x = some vx) (hy : ev env y = some vy) (hr : ∀ w, (do eqGuard op t x y vx vy; binOp op t vx vy : Sem Value).run c.P w = .ok v w) : OpE c ⟨some d, .binOp op t x y t2, ty, pos, af, none⟩ env B (v) :=
  fun a w s => by simp only [execOp]; rw [s.ev hx, s.ev hy]; rw [Sem.run_bind, hr]; rfl

theorem noGuard (op : BinOp) (t : Nat) (k : IntKind) (a b : Int) : eqGuard op t x y (.int k a) (.int k b) = pure () := by
  unfold eqGuard; cases op <;> rfl

section ints
variable {k : IntKind} {t t2 : Nat}

theorem p_int {op : BinOp} {a b : Int} (hx : ev env x = some (.int k a)) (hy : ev env y = some (.int k b)) (hr : ∀ w, (binOp op t (.int k a) (.int k b)).run c.P w = .ok v w) : OpE c ⟨some d, .binOp op t x y t2, ty, pos, af, none⟩ env B (v) :=
  p_bin hx hy (fun w => by rw [noGuard]; exact hr w)

/-! int: no sum passes its bounds. -/
theorem i64_in {n : Int} (h1 : -9223372036854775808 ≤ n) (h2 : n ≤ 9223372036854775807) : IntKind.i64.wrap n = n := by
  simp only [IntKind.wrap, IntKind.bits, IntKind.signed]; simp; omega

theorem p_addi {a b : Int} (hx : ev env x = some (.int .i64 a) := by rfl) (hy : ev env y = some (.int .i64 b) := by rfl) (h1 : -9223372036854775808 ≤ a + b := by first | omega | (simp only [IntKind.bits] at *; omega)) (h2 : a + b ≤ 9223372036854775807 := by first | omega | (simp only [IntKind.bits] at *; omega)) : OpE c ⟨some d, .binOp .add t x y t2, ty, pos, af, none⟩ env B (.int .i64 (a + b)) :=
  p_int hx hy (fun w => by simp [binOp, Op.intArith, i64_in h1 h2])
theorem p_subi {a b : Int} (hx : ev env x = some (.int .i64 a) := by rfl) (hy : ev env y = some (.int .i64 b) := by rfl) (h1 : -9223372036854775808 ≤ a - b := by first | omega | (simp only [IntKind.bits] at *; omega)) (h2 : a - b ≤ 9223372036854775807 := by first | omega | (simp only [IntKind.bits] at *; omega)) : OpE c ⟨some d, .binOp .sub t x y t2, ty, pos, af, none⟩ env B (.int .i64 (a - b)) :=
  p_int hx hy (fun w => by simp [binOp, Op.intArith, i64_in h1 h2])
theorem p_muli {a b : Int} (hx : ev env x = some (.int .i64 a) := by rfl) (hy : ev env y = some (.int .i64 b) := by rfl) (h1 : -9223372036854775808 ≤ a * b := by first | omega | (simp only [IntKind.bits] at *; omega)) (h2 : a * b ≤ 9223372036854775807 := by first | omega | (simp only [IntKind.bits] at *; omega)) : OpE c ⟨some d, .binOp .mul t x y t2, ty, pos, af, none⟩ env B (.int .i64 (a * b)) :=
  p_int hx hy (fun w => by simp [binOp, Op.intArith, i64_in h1 h2])

/-! int, from 0 on: as natural numbers. -/
theorem p_addn {a b : Nat} (hx : ev env x = some (.int .i64 (a : Int)) := by rfl) (hy : ev env y = some (.int .i64 (b : Int)) := by rfl) (h2 : a + b ≤ 9223372036854775807 := by first | omega | (simp only [IntKind.bits] at *; omega)) : OpE c ⟨some d, .binOp .add t x y t2, ty, pos, af, none⟩ env B (.int .i64 ((a + b : Nat) : Int)) :=
  by rw [Int.natCast_add]; exact p_addi hx hy (by omega) (by omega)
theorem p_subn {a b : Nat} (hx : ev env x = some (.int .i64 (a : Int)) := by rfl) (hy : ev env y = some (.int .i64 (b : Int)) := by rfl) (h1 : b ≤ a := by first | omega | (simp only [IntKind.bits] at *; omega)) (h2 : a ≤ 9223372036854775807 := by first | omega | (simp only [IntKind.bits] at *; omega)) : OpE c ⟨some d, .binOp .sub t x y t2, ty, pos, af, none⟩ env B (.int .i64 ((a - b : Nat) : Int)) :=
  by rw [Int.ofNat_sub h1]; exact p_subi hx hy (by omega) (by omega)
theorem p_muln {a b : Nat} (hx : ev env x = some (.int .i64 (a : Int)) := by rfl) (hy : ev env y = some (.int .i64 (b : Int)) := by rfl) (h2 : a * b ≤ 9223372036854775807 := by first | omega | (simp only [IntKind.bits] at *; omega)) : OpE c ⟨some d, .binOp .mul t x y t2, ty, pos, af, none⟩ env B (.int .i64 ((a * b : Nat) : Int)) :=
  by rw [Int.natCast_mul]; exact p_muli hx hy (by rw [← Int.natCast_mul]; omega) (by rw [← Int.natCast_mul]; omega)
theorem p_quon {a b : Nat} (hx : ev env x = some (.int .i64 (a : Int)) := by rfl) (hy : ev env y = some (.int .i64 (b : Int)) := by rfl) (h1 : b ≠ 0 := by first | omega | (simp only [IntKind.bits] at *; omega)) (h2 : a ≤ 9223372036854775807 := by first | omega | (simp only [IntKind.bits] at *; omega)) : OpE c ⟨some d, .binOp .quo t x y t2, ty, pos, af, none⟩ env B (.int .i64 ((a / b : Nat) : Int)) :=
  p_int hx hy (fun w => by
    have e : (a : Int).tdiv (b : Int) = ((a / b : Nat) : Int) := by rw [Int.ofNat_tdiv]
    have hle : a / b ≤ a := Nat.div_le_self a b
    simp only [binOp, Op.intDiv]
    rw [if_neg (by simp), if_neg (by omega)]
    simp only [Sem.run_pure]
    rw [e]
    generalize a / b = q at *
    rw [i64_in (by omega) (by omega)])
theorem p_remn {a b : Nat} (hx : ev env x = some (.int k (a : Int)) := by rfl) (hy : ev env y = some (.int k (b : Int)) := by rfl) (h1 : b ≠ 0 := by first | omega | (simp only [IntKind.bits] at *; omega)) : OpE c ⟨some d, .binOp .rem t x y t2, ty, pos, af, none⟩ env B (.int k ((a % b : Nat) : Int)) :=
  p_int hx hy (fun w => by
    have e : (a : Int).tmod (b : Int) = ((a % b : Nat) : Int) := by rw [Int.ofNat_tmod]
    simp only [binOp, Op.intDiv]
    rw [if_neg (by simp), if_neg (by omega)]
    simp only [Sem.run_pure]
    rw [e])

/-! Unsigned. -/
theorem p_addu {a b : Nat} (hx : ev env x = some (.int k (a : Int)) := by rfl) (hy : ev env y = some (.int k (b : Int)) := by rfl) (hk : k.signed = false := by rfl) : OpE c ⟨some d, .binOp .add t x y t2, ty, pos, af, none⟩ env B (.int k (((a + b) % 2 ^ k.bits : Nat) : Int)) :=
  p_int hx hy (fun w => by
    have := wrap_un hk (a + b)
    simp only [binOp, Op.intArith]; rw [if_neg (by simp)]; simp only [Sem.run_pure]; rw [← this, Int.natCast_add])
theorem p_mulu {a b : Nat} (hx : ev env x = some (.int k (a : Int)) := by rfl) (hy : ev env y = some (.int k (b : Int)) := by rfl) (hk : k.signed = false := by rfl) : OpE c ⟨some d, .binOp .mul t x y t2, ty, pos, af, none⟩ env B (.int k (((a * b) % 2 ^ k.bits : Nat) : Int)) :=
  p_int hx hy (fun w => by
    have := wrap_un hk (a * b)
    simp only [binOp, Op.intArith]; rw [if_neg (by simp)]; simp only [Sem.run_pure]; rw [← this, Int.natCast_mul])
theorem wrap_sub {k : IntKind} (hk : k.signed = false) {a b : Nat} (hb : b < 2 ^ k.bits) : k.wrap ((a : Int) - b) = (((a + (2 ^ k.bits - b)) % 2 ^ k.bits : Nat) : Int) := by
  cases k <;> simp [IntKind.signed] at hk <;> simp only [IntKind.wrap, IntKind.bits, IntKind.signed] at * <;> simp <;> omega
theorem p_subu {a b : Nat} (hx : ev env x = some (.int k (a : Int)) := by rfl) (hy : ev env y = some (.int k (b : Int)) := by rfl) (hk : k.signed = false := by rfl) (hb : b < 2 ^ k.bits := by first | exact Fits.lt | assumption | decide | (simp only [IntKind.bits] at *; omega)) : OpE c ⟨some d, .binOp .sub t x y t2, ty, pos, af, none⟩ env B (.int k (((a + (2 ^ k.bits - b)) % 2 ^ k.bits : Nat) : Int)) :=
  p_int hx hy (fun w => by
    have := wrap_sub (a := a) hk hb
    simp only [binOp, Op.intArith]; rw [if_neg (by simp)]; simp only [Sem.run_pure]; rw [← this])
theorem p_quou {a b : Nat} (hx : ev env x = some (.int k (a : Int)) := by rfl) (hy : ev env y = some (.int k (b : Int)) := by rfl) (hk : k.signed = false := by rfl) (h1 : b ≠ 0 := by first | omega | (simp only [IntKind.bits] at *; omega)) (ha : a < 2 ^ k.bits := by first | exact Fits.lt | assumption | decide | (simp only [IntKind.bits] at *; omega)) : OpE c ⟨some d, .binOp .quo t x y t2, ty, pos, af, none⟩ env B (.int k ((a / b : Nat) : Int)) :=
  p_int hx hy (fun w => by
    have e : (a : Int).tdiv (b : Int) = ((a / b : Nat) : Int) := by rw [Int.ofNat_tdiv]
    have hle : a / b ≤ a := Nat.div_le_self a b
    simp only [binOp, Op.intDiv]
    rw [if_neg (by simp), if_neg (by omega)]
    simp only [Sem.run_pure]
    rw [e, wrap_un hk, Nat.mod_eq_of_lt (by omega)])

theorem bv_nat (n : Nat) (a : Nat) : (BitVec.ofInt n (a : Int)).toNat = a % 2 ^ n := by simp

theorem p_andu {a b : Nat} (hx : ev env x = some (.int k (a : Int)) := by rfl) (hy : ev env y = some (.int k (b : Int)) := by rfl) (hk : k.signed = false := by rfl) (ha : a < 2 ^ k.bits := by first | exact Fits.lt | assumption | decide | (simp only [IntKind.bits] at *; omega)) (hb : b < 2 ^ k.bits := by first | exact Fits.lt | assumption | decide | (simp only [IntKind.bits] at *; omega)) : OpE c ⟨some d, .binOp .and t x y t2, ty, pos, af, none⟩ env B (.int k ((a &&& b : Nat) : Int)) :=
  p_int hx hy (fun w => by
    simp only [binOp, Op.intBits]; rw [if_neg (by simp)]; simp only [Sem.run_pure]
    rw [BitVec.toNat_and, bv_nat, bv_nat, Nat.mod_eq_of_lt ha, Nat.mod_eq_of_lt hb, wrap_un hk, Nat.mod_eq_of_lt (Nat.and_lt_two_pow _ hb)])
theorem p_oru {a b : Nat} (hx : ev env x = some (.int k (a : Int)) := by rfl) (hy : ev env y = some (.int k (b : Int)) := by rfl) (hk : k.signed = false := by rfl) (ha : a < 2 ^ k.bits := by first | exact Fits.lt | assumption | decide | (simp only [IntKind.bits] at *; omega)) (hb : b < 2 ^ k.bits := by first | exact Fits.lt | assumption | decide | (simp only [IntKind.bits] at *; omega)) : OpE c ⟨some d, .binOp .or t x y t2, ty, pos, af, none⟩ env B (.int k ((a ||| b : Nat) : Int)) :=
  p_int hx hy (fun w => by
    simp only [binOp, Op.intBits]; rw [if_neg (by simp)]; simp only [Sem.run_pure]
    rw [BitVec.toNat_or, bv_nat, bv_nat, Nat.mod_eq_of_lt ha, Nat.mod_eq_of_lt hb, wrap_un hk, Nat.mod_eq_of_lt (Nat.or_lt_two_pow ha hb)])
theorem p_xoru {a b : Nat} (hx : ev env x = some (.int k (a : Int)) := by rfl) (hy : ev env y = some (.int k (b : Int)) := by rfl) (hk : k.signed = false := by rfl) (ha : a < 2 ^ k.bits := by first | exact Fits.lt | assumption | decide | (simp only [IntKind.bits] at *; omega)) (hb : b < 2 ^ k.bits := by first | exact Fits.lt | assumption | decide | (simp only [IntKind.bits] at *; omega)) : OpE c ⟨some d, .binOp .xor t x y t2, ty, pos, af, none⟩ env B (.int k ((a ^^^ b : Nat) : Int)) :=
  p_int hx hy (fun w => by
    simp only [binOp, Op.intBits]; rw [if_neg (by simp)]; simp only [Sem.run_pure]
    rw [BitVec.toNat_xor, bv_nat, bv_nat, Nat.mod_eq_of_lt ha, Nat.mod_eq_of_lt hb, wrap_un hk, Nat.mod_eq_of_lt (Nat.xor_lt_two_pow ha hb)])
theorem p_andnotu {a b : Nat} (hx : ev env x = some (.int k (a : Int)) := by rfl) (hy : ev env y = some (.int k (b : Int)) := by rfl) (hk : k.signed = false := by rfl) (ha : a < 2 ^ k.bits := by first | exact Fits.lt | assumption | decide | (simp only [IntKind.bits] at *; omega)) (hb : b < 2 ^ k.bits := by first | exact Fits.lt | assumption | decide | (simp only [IntKind.bits] at *; omega)) : OpE c ⟨some d, .binOp .andNot t x y t2, ty, pos, af, none⟩ env B (.int k ((a &&& (2 ^ k.bits - 1 - b) : Nat) : Int)) :=
  p_int hx hy (fun w => by
    simp only [binOp, Op.intBits]; rw [if_neg (by simp)]; simp only [Sem.run_pure]
    rw [BitVec.toNat_and, BitVec.toNat_not, bv_nat, bv_nat, Nat.mod_eq_of_lt ha, Nat.mod_eq_of_lt hb, wrap_un hk, Nat.mod_eq_of_lt (Nat.and_lt_two_pow _ (by have := Nat.two_pow_pos k.bits; omega))])

/-! Comparisons. -/
theorem p_lss {a b : Nat} (hx : ev env x = some (.int k (a : Int)) := by rfl) (hy : ev env y = some (.int k (b : Int)) := by rfl) : OpE c ⟨some d, .binOp .lss t x y t2, ty, pos, af, none⟩ env B (.bool (decide (a < b))) :=
  p_int hx hy (fun w => by simp [binOp, Op.intCmp])
theorem p_leq {a b : Nat} (hx : ev env x = some (.int k (a : Int)) := by rfl) (hy : ev env y = some (.int k (b : Int)) := by rfl) : OpE c ⟨some d, .binOp .leq t x y t2, ty, pos, af, none⟩ env B (.bool (decide (a ≤ b))) :=
  p_int hx hy (fun w => by simp [binOp, Op.intCmp])
theorem p_gtr {a b : Nat} (hx : ev env x = some (.int k (a : Int)) := by rfl) (hy : ev env y = some (.int k (b : Int)) := by rfl) : OpE c ⟨some d, .binOp .gtr t x y t2, ty, pos, af, none⟩ env B (.bool (decide (b < a))) :=
  p_int hx hy (fun w => by simp [binOp, Op.intCmp])
theorem p_geq {a b : Nat} (hx : ev env x = some (.int k (a : Int)) := by rfl) (hy : ev env y = some (.int k (b : Int)) := by rfl) : OpE c ⟨some d, .binOp .geq t x y t2, ty, pos, af, none⟩ env B (.bool (decide (b ≤ a))) :=
  p_int hx hy (fun w => by simp [binOp, Op.intCmp])
theorem p_eql {a b : Nat} (hx : ev env x = some (.int k (a : Int)) := by rfl) (hy : ev env y = some (.int k (b : Int)) := by rfl) : OpE c ⟨some d, .binOp .eql t x y t2, ty, pos, af, none⟩ env B (.bool (decide (a = b))) :=
  p_int hx hy (fun w => by
    have e : ((a : Int) == b) = decide (a = b) := by rw [Bool.eq_iff_iff]; simp; omega
    simp [binOp, Op.intCmp, e])
theorem p_neq {a b : Nat} (hx : ev env x = some (.int k (a : Int)) := by rfl) (hy : ev env y = some (.int k (b : Int)) := by rfl) : OpE c ⟨some d, .binOp .neq t x y t2, ty, pos, af, none⟩ env B (.bool (decide (a ≠ b))) :=
  p_int hx hy (fun w => by
    have e : ((a : Int) != b) = decide (a ≠ b) := by rw [Bool.eq_iff_iff]; simp; omega
    simp only [binOp, Op.intCmp]; rw [if_neg (by simp)]; simp only [Sem.run_pure]; rw [e])
theorem p_lssi {a b : Int} (hx : ev env x = some (.int k a) := by rfl) (hy : ev env y = some (.int k b) := by rfl) : OpE c ⟨some d, .binOp .lss t x y t2, ty, pos, af, none⟩ env B (.bool (decide (a < b))) :=
  p_int hx hy (fun w => by simp [binOp, Op.intCmp])
theorem p_gtri {a b : Int} (hx : ev env x = some (.int k a) := by rfl) (hy : ev env y = some (.int k b) := by rfl) : OpE c ⟨some d, .binOp .gtr t x y t2, ty, pos, af, none⟩ env B (.bool (decide (b < a))) :=
  p_int hx hy (fun w => by simp [binOp, Op.intCmp])
theorem p_geqi {a b : Int} (hx : ev env x = some (.int k a) := by rfl) (hy : ev env y = some (.int k b) := by rfl) : OpE c ⟨some d, .binOp .geq t x y t2, ty, pos, af, none⟩ env B (.bool (decide (b ≤ a))) :=
  p_int hx hy (fun w => by simp [binOp, Op.intCmp])
theorem p_neqi {a b : Int} (hx : ev env x = some (.int k a) := by rfl) (hy : ev env y = some (.int k b) := by rfl) : OpE c ⟨some d, .binOp .neq t x y t2, ty, pos, af, none⟩ env B (.bool (decide (a ≠ b))) :=
  p_int hx hy (fun w => by
    have e : (a != b) = decide (a ≠ b) := by rw [Bool.eq_iff_iff]; simp
    simp only [binOp, Op.intCmp]; rw [if_neg (by simp)]; simp only [Sem.run_pure]; rw [e])

/-! Shifts: by a number of whatever kind, from 0 on. -/
theorem p_shift {op : BinOp} {k2 : IntKind} {a b : Int} (hx : ev env x = some (.int k a)) (hy : ev env y = some (.int k2 b)) (ho : op = .shl ∨ op = .shr) (hr : ∀ w, (Op.shift op k a k2 b).run c.P w = .ok v w) : OpE c ⟨some d, .binOp op t x y t2, ty, pos, af, none⟩ env B (v) :=
  p_bin hx hy (fun w => by rcases ho with rfl | rfl <;> (simp only [eqGuard, binOp]; simp [hr]))
theorem p_shru {k2 : IntKind} {a b : Nat} (hx : ev env x = some (.int k (a : Int)) := by rfl) (hy : ev env y = some (.int k2 (b : Int)) := by rfl) (ha : a < 2 ^ k.bits := by first | exact Fits.lt | assumption | decide | (simp only [IntKind.bits] at *; omega)) : OpE c ⟨some d, .binOp .shr t x y t2, ty, pos, af, none⟩ env B (.int k ((a >>> b : Nat) : Int)) :=
  p_shift hx hy (Or.inr rfl) (fun w => by
    simp only [Op.shift]; rw [if_neg (by omega)]; simp only [Sem.run_pure, Int.toNat_natCast]
    have e : (a : Int).fdiv (2 ^ min b k.bits) = ((a >>> b : Nat) : Int) := by
      have e1 : (2 : Int) ^ min b k.bits = ((2 ^ min b k.bits : Nat) : Int) := by simp
      rw [e1, Int.fdiv_eq_ediv_of_nonneg _ (Int.natCast_nonneg _), Nat.shiftRight_eq_div_pow]
      rcases Nat.le_total b k.bits with hb | hb
      · rw [Nat.min_eq_left hb]; rfl
      · rw [Nat.min_eq_right hb, Nat.div_eq_of_lt (Nat.lt_of_lt_of_le ha (Nat.pow_le_pow_right (by omega) hb))]
        have : (a : Int) / ((2 ^ k.bits : Nat) : Int) = ((a / 2 ^ k.bits : Nat) : Int) := rfl
        rw [this, Nat.div_eq_of_lt ha]
    rw [e])
theorem p_shlu {k2 : IntKind} {a b : Nat} (hx : ev env x = some (.int k (a : Int)) := by rfl) (hy : ev env y = some (.int k2 (b : Int)) := by rfl) (hk : k.signed = false := by rfl) : OpE c ⟨some d, .binOp .shl t x y t2, ty, pos, af, none⟩ env B (.int k (((a <<< b) % 2 ^ k.bits : Nat) : Int)) :=
  p_shift hx hy (Or.inl rfl) (fun w => by
    simp only [Op.shift]; rw [if_neg (by omega)]; simp only [Sem.run_pure, Int.toNat_natCast]
    have e1 : (a : Int) * (2 : Int) ^ min b k.bits = ((a * 2 ^ min b k.bits : Nat) : Int) := by simp
    rw [e1, wrap_un hk, Nat.shiftLeft_eq]
    rcases Nat.le_total b k.bits with hb | hb
    · rw [Nat.min_eq_left hb]
    · rw [Nat.min_eq_right hb, Nat.mul_mod_left]
      obtain ⟨m, rfl⟩ : ∃ m, b = k.bits + m := ⟨b - k.bits, by omega⟩
      rw [Nat.pow_add, ← Nat.mul_assoc, Nat.mul_right_comm, Nat.mul_mod_left])
theorem p_shri {k2 : IntKind} {a : Int} {b : Nat} (hx : ev env x = some (.int k a) := by rfl) (hy : ev env y = some (.int k2 (b : Int)) := by rfl) (hb : b ≤ k.bits := by decide) : OpE c ⟨some d, .binOp .shr t x y t2, ty, pos, af, none⟩ env B (.int k (a / 2 ^ b)) :=
  p_shift hx hy (Or.inr rfl) (fun w => by
    simp only [Op.shift]; rw [if_neg (by omega)]; simp only [Sem.run_pure, Int.toNat_natCast]
    rw [Nat.min_eq_left hb, Int.fdiv_eq_ediv_of_nonneg _ (Int.pow_nonneg (by omega))])

/-! One operand. -/
theorem p_un {op : UnOp} (hx : ev env x = some vx) (hr : ∀ w, (Op.unary op vx).run c.P w = .ok v w) : OpE c ⟨some d, .unOp op t x, ty, pos, af, none⟩ env B (v) :=
  fun a w s => by simp only [execOp]; rw [s.ev hx]; rw [Sem.run_bind, hr]; rfl
theorem p_negu {a : Nat} (hx : ev env x = some (.int k (a : Int)) := by rfl) (hk : k.signed = false := by rfl) (ha : a < 2 ^ k.bits := by first | exact Fits.lt | assumption | decide | (simp only [IntKind.bits] at *; omega)) : OpE c ⟨some d, .unOp .neg t x, ty, pos, af, none⟩ env B (.int k (((2 ^ k.bits - a) % 2 ^ k.bits : Nat) : Int)) :=
  p_un hx (fun w => by
    have := wrap_sub (a := 0) hk ha
    simp only [Op.unary, Op.intArith, Sem.run_pure]
    rw [Nat.zero_add] at this
    rw [← this]; rfl)
theorem p_notu {a : Nat} (hx : ev env x = some (.int k (a : Int)) := by rfl) (hk : k.signed = false := by rfl) (ha : a < 2 ^ k.bits := by first | exact Fits.lt | assumption | decide | (simp only [IntKind.bits] at *; omega)) : OpE c ⟨some d, .unOp .xor t x, ty, pos, af, none⟩ env B (.int k ((2 ^ k.bits - 1 - a : Nat) : Int)) :=
  p_un hx (fun w => by
    simp only [Op.unary, Op.intBits, hk, Sem.run_pure]
    have hm : (if false = true then (-1 : Int) else k.max) = ((2 ^ k.bits - 1 : Nat) : Int) := by
      rw [if_neg (by simp)]
      cases k <;> simp [IntKind.signed] at hk <;> rfl
    have hp := Nat.two_pow_pos k.bits
    rw [hm, BitVec.toNat_xor, bv_nat, bv_nat, Nat.mod_eq_of_lt ha, Nat.mod_eq_of_lt (by omega), wrap_un hk, Nat.mod_eq_of_lt (Nat.xor_lt_two_pow (by omega) ha)]
    congr 3
    rw [Nat.xor_comm]
    apply Nat.eq_of_testBit_eq
    intro i
    rw [Nat.testBit_xor, Nat.testBit_two_pow_sub_one]
    have : 2 ^ k.bits - 1 - a = 2 ^ k.bits - (a + 1) := by omega
    rw [this, Nat.testBit_two_pow_sub_succ ha]
    cases h1 : decide (i < k.bits) with
    | true => simp
    | false =>
      have : k.bits ≤ i := by simpa using h1
      simp [Nat.testBit_lt_two_pow (Nat.lt_of_lt_of_le ha (Nat.pow_le_pow_right (by omega) this))])
theorem p_not {b : Bool} (hx : ev env x = some (.bool b) := by rfl) : OpE c ⟨some d, .unOp .not t x, ty, pos, af, none⟩ env B (.bool (!b)) :=
  p_un hx (fun w => by simp [Op.unary])

/-! Kinds. -/
theorem p_conv {t1 t2 : Nat} {dd : TypeDesc} [h1 : Und c.P t1 dd] [h2 : Und c.P t2 (.int k)] {k0 : IntKind} {a : Int} (hx : ev env x = some (.int k0 a) := by rfl) : OpE c ⟨some d, .convert t1 t2 x, ty, pos, af, none⟩ env B (.int k (k.wrap a)) :=
  fun a w s => by simp only [execOp, convert]; rw [s.ev hx]; simp [run_und, Conv.intToInt]
theorem p_convu {t1 t2 : Nat} {dd : TypeDesc} [h1 : Und c.P t1 dd] [h2 : Und c.P t2 (.int k)] {k0 : IntKind} {a : Nat} (hx : ev env x = some (.int k0 (a : Int)) := by rfl) (hk : k.signed = false := by rfl) : OpE c ⟨some d, .convert t1 t2 x, ty, pos, af, none⟩ env B (.int k ((a % 2 ^ k.bits : Nat) : Int)) :=
  by rw [← wrap_un hk]; exact p_conv hx
/-- To a kind that holds it. -/
theorem p_convi {t1 t2 : Nat} {dd : TypeDesc} [h1 : Und c.P t1 dd] [h2 : Und c.P t2 (.int k)] {k0 : IntKind} {a : Int} (hx : ev env x = some (.int k0 a) := by rfl) (hw : k.wrap a = a) : OpE c ⟨some d, .convert t1 t2 x, ty, pos, af, none⟩ env B (.int k a) :=
  by have := p_conv (k := k) (t1 := t1) (t2 := t2) (ty := ty) (pos := pos) (af := af) (d := d) (c := c) (B := B) hx; rw [hw] at this; exact this

end ints

theorem p_pick_true {t : Nat} (hx : ev env x = some (.bool true) := by rfl) (hy : ev env y = some v := by rfl) : OpE c ⟨some d, .pick x y z, t, pos, af, none⟩ env B (v) :=
  fun a w s => by simp only [execOp]; rw [s.ev hx, s.ev hy]; simp [asBool]
theorem p_pick_false {t : Nat} (hx : ev env x = some (.bool false) := by rfl) (hz : ev env z = some v := by rfl) : OpE c ⟨some d, .pick x y z, t, pos, af, none⟩ env B (v) :=
  fun a w s => by simp only [execOp]; rw [s.ev hx, s.ev hz]; simp [asBool]
theorem p_extract {i : Nat} {vs : Array Value} (hx : ev env x = some (.tuple vs) := by rfl) (hi : vs[i]? = some v) : OpE c ⟨some d, .extract x i, ty, pos, af, none⟩ env B (v) :=
  fun a w s => by simp only [execOp]; rw [s.ev hx]; simp [Instr.extract, hi]
theorem p_nilcheck {ad : Addr} (hx : ev env x = some (.pointer (some ad)) := by rfl) : OpE c ⟨some d, .nilCheck x, ty, pos, af, none⟩ env B (.pointer (some ad)) :=
  fun a w s => by simp only [execOp]; rw [s.ev hx]; rfl

end ops
end Go.Tw
end

section
namespace Go.Tw

abbrev ptr (b off : Nat) : Value := .pointer (some ⟨b, off, none⟩)

/-- A slice v of n elements, s cells each, reads as xs. -/
def SlR (w : World) (v : Value) (s n : Nat) (xs : List Value) : Prop :=
  xs.length = n * s ∧ ∃ ad cap, v = .slice ad n cap ∧ n ≤ cap ∧ (n = 0 ∨ ∃ b off, ad = some ⟨b, off, none⟩ ∧ ∀ j u, xs[j]? = some u → w.cell? ⟨b, off + j, none⟩ = some u)

/-- As a fact on what came in. -/
def rdF (v : Value) (s n : Nat) (xs : List Value) : Fact := ⟨fun w => SlR w v s n xs, fun b => n ≠ 0 ∧ v.ownBlock = some b⟩

/-- Where a slice's block lies: it is one's own, or what came in to be read. -/
def Prov (c : Cx) (B : Own) (v : Value) (n : Nat) : Prop := n ≠ 0 → ∀ b, v.ownBlock = some b → b ∈ keys B ∨ (b < c.w0.heap.size ∧ b ∉ c.K)

class Rd (c : Cx) (B : Own) (v : Value) (s n : outParam Nat) (xs : outParam (List Value)) : Prop where
  both : ∀ env a w, St c env B a w → SlR w v s n xs ∧ Prov c B v n
theorem Rd.rd {c : Cx} {B : Own} {v : Value} {s n : Nat} {xs : List Value} (h : Rd c B v s n xs) (env : Env) (a : Act) (w : World) (st : St c env B a w) : SlR w v s n xs := (h.both env a w st).1
class InR (v : Value) (s n : outParam Nat) (xs : outParam (List Value)) (R : List Fact) : Prop where
  mem : rdF v s n xs ∈ R
instance InR.head {v : Value} {s n : Nat} {xs : List Value} {R : List Fact} : InR v s n xs (rdF v s n xs :: R) := ⟨List.mem_cons_self⟩
instance InR.tail {v : Value} {s n : Nat} {xs : List Value} {f : Fact} {R : List Fact} [h : InR v s n xs R] : InR v s n xs (f :: R) := ⟨List.mem_cons_of_mem _ h.mem⟩

instance Rd.ofR {c : Cx} {B : Own} {v : Value} {s n : Nat} {xs : List Value} [h : InR v s n xs c.R] : Rd c B v s n xs := ⟨fun _ _ _ st => ⟨st.read h.mem, fun hn b hb => Or.inr (st.reads.dis _ h.mem b ⟨hn, hb⟩)⟩⟩

theorem SlR.ofOwn {w : World} {v : Value} {T s n : Nat} {xs : List Value} (h : w.ownsRow 0 T s v n xs) : SlR w v s n xs := by
  refine ⟨h.1, ?_⟩
  rcases h.2 with ⟨rfl, rfl⟩ | ⟨g, cap, cur, rfl, _, hg, hn, _, hc, ht⟩
  · exact ⟨none, 0, rfl, Nat.le_refl _, Or.inl rfl⟩
  · refine ⟨_, cap, rfl, hn, Or.inr ⟨g, 0, rfl, fun j u hj => ?_⟩⟩
    rw [Nat.zero_add]
    simp only [World.cell?, hg]
    rw [← ht] at hj
    have hlt : j < n * s := by
      rcases Nat.lt_or_ge j (n * s) with h | h
      · exact h
      · rw [List.getElem?_eq_none (by simp; omega)] at hj; cases hj
    rw [List.getElem?_take_of_lt hlt] at hj
    simpa using hj

instance Rd.ofSl {c : Cx} {B : Own} {v : Value} {T s n : Nat} {xs : List Value} [h : InSl v T s n xs B] : Rd c B v s n xs := ⟨fun _ _ _ st => ⟨SlR.ofOwn (st.has.ent _ h.mem), fun _ b hb => Or.inl (mem_keys h.mem (by simp [Ent.keys, hb]))⟩⟩

/-- A side condition, found among the hypotheses. -/
class Ok (p : Prop) : Prop where
  ok : p

theorem SlR.ofBlk {w : World} {b off n cap : Nat} {cs : List Value} {T : TypeId} {fr : Nat × Nat} (hb : w.heap[b]? = some (.cells cs.toArray T fr)) (h : off + n ≤ cs.length) (hc : n ≤ cap) :
    SlR w (.slice (some ⟨b, off, none⟩) n cap) 1 n ((cs.drop off).take n) := by
  refine ⟨by simp; omega, _, cap, rfl, hc, Or.inr ⟨b, off, rfl, fun j u hj => ?_⟩⟩
  simp only [World.cell?, hb]
  have hlt : j < n := by
    rcases Nat.lt_or_ge j n with h | h
    · exact h
    · rw [List.getElem?_eq_none (by simp; omega)] at hj; cases hj
  rw [List.getElem?_take_of_lt hlt, List.getElem?_drop] at hj
  simpa using hj

instance Rd.ofBlk {c : Cx} {B : Own} {b off n cap : Nat} {cs : List Value} {T : TypeId} {fr : Nat × Nat} [h : InB b (.cells cs.toArray T fr) B] [ho : Ok (off + n ≤ cs.length ∧ n ≤ cap)] :
    Rd c B (.slice (some ⟨b, off, none⟩) n cap) 1 n ((cs.drop off).take n) := ⟨fun _ _ _ st => ⟨SlR.ofBlk (st.has.ent _ h.mem) ho.ok.1 ho.ok.2, fun _ b' hb => Or.inl (mem_keys h.mem (by simp [Value.ownBlock] at hb; simp [Ent.keys, hb]))⟩⟩

/-- A piece of a slice, from element lo to hi. -/
def subSl (v : Value) (s lo hi : Nat) : Value :=
  match v with
  | .slice a _ cap => .slice (if cap = lo then a else a.map (·.add (lo * s))) (hi - lo) (cap - lo)
  | v => v

theorem SlR.sub {w : World} {v : Value} {s n lo hi : Nat} {xs : List Value} (h : SlR w v s n xs) (h1 : lo ≤ hi) (h2 : hi ≤ n) : SlR w (subSl v s lo hi) s (hi - lo) ((xs.drop (lo * s)).take ((hi - lo) * s)) := by
  obtain ⟨hl, ad, cap, rfl, hcap, hr⟩ := h
  have hlen : lo * s + (hi - lo) * s ≤ xs.length := by
    rw [hl, ← Nat.add_mul]; exact Nat.mul_le_mul_right _ (by omega)
  refine ⟨by simp; omega, _, _, rfl, by omega, ?_⟩
  rcases hr with rfl | ⟨b, off, rfl, hr⟩
  · left; omega
  · by_cases he : hi - lo = 0
    · left; exact he
    · right
      by_cases hc : cap = lo
      · omega
      · refine ⟨b, off + lo * s, by rw [if_neg hc]; simp [Addr.add_lit], fun j u hj => ?_⟩
        have hlt : j < (hi - lo) * s := by
          rcases Nat.lt_or_ge j ((hi - lo) * s) with h | h
          · exact h
          · rw [List.getElem?_eq_none (by simp; omega)] at hj; cases hj
        rw [List.getElem?_take_of_lt hlt, List.getElem?_drop] at hj
        have := hr _ _ hj
        rw [← Nat.add_assoc] at this
        exact this
instance Rd.sub {c : Cx} {B : Own} {v : Value} {s n lo hi : Nat} {xs : List Value} [h : Rd c B v s n xs] [ho : Ok (lo ≤ hi ∧ hi ≤ n)] :
    Rd c B (subSl v s lo hi) s (hi - lo) ((xs.drop (lo * s)).take ((hi - lo) * s)) := ⟨fun _ _ _ st => ⟨(h.rd _ _ _ st).sub ho.ok.1 ho.ok.2, fun hn b hb => by
    refine (h.both _ _ _ st).2 (by have := ho.ok; omega) b ?_
    obtain ⟨_, ad, cap, rfl, _⟩ := h.rd _ _ _ st
    cases ad with
    | none => simp only [subSl] at hb; split at hb <;> simp [Value.ownBlock] at hb
    | some ad => simp only [subSl] at hb; split at hb <;> (simp [Value.ownBlock, Addr.add] at *; first | exact hb | (split at hb <;> exact hb))⟩⟩

/-- The nil slice reads as nothing. -/
instance Rd.nil {c : Cx} {B : Own} : Rd c B (.slice none 0 0) 1 0 [] := ⟨fun _ _ _ _ => ⟨⟨rfl, none, 0, rfl, Nat.le_refl _, Or.inl rfl⟩, fun h => absurd rfl h⟩⟩

/-- The place of cell j of a slice. -/
def slPtr (v : Value) (j : Nat) : Value :=
  match v with
  | .slice (some a) _ _ => .pointer (some (a.add j))
  | _ => .pointer none

section ops
variable {c : Cx} {ops : Array Oper} {Q : Exit → Act → World → Prop} {rest : List Oper} {env : Env} {B : Own} {d ty : Nat} {pos : String} {af : Array Edge} {x y z : Operand} {v vx vy : Value} {N : Value → Own → Prop}

theorem e_alloc {t : Nat} {zs : List Value} [hz : Zer c.P t zs] (h : ∀ b, N (ptr b 0) (.blk b (.cells zs.toArray t (0, 0)) :: B)) : OpX c ⟨some d, .alloc t, ty, pos, af, none⟩ env B N :=
  opx (X := Nat) (v := fun b => ptr b 0) (B' := fun b => .blk b (.cells zs.toArray t (0, 0)) :: B)
    (fun a w s => by
      obtain ⟨v, hv, hc⟩ := run_zer (P := c.P) (t := t) w
      refine ⟨w.heap.size, w.alloc (.cells zs.toArray t), ?_, LS.alloc s.has _⟩
      simp [execOp, Instr.alloc, hv, newVar, newRow, hc]) h

theorem e_box {t : Nat} {cs : List Value} (hx : ev env x = some v := by rfl) (hc : v.cells = cs.toArray := by rfl) (h : ∀ b, N (ptr b 0) (.blk b (.cells cs.toArray t (0, 0)) :: B)) : OpX c ⟨some d, .box t x, ty, pos, af, none⟩ env B N :=
  opx (X := Nat) (v := fun b => ptr b 0) (B' := fun b => .blk b (.cells cs.toArray t (0, 0)) :: B)
    (fun a w s => by
      refine ⟨w.heap.size, w.alloc (.cells cs.toArray t), ?_, LS.alloc s.has _⟩
      simp [execOp, Instr.box, s.ev hx, newVar, newRow, hc]) h

/-! Loads. -/
theorem run_loadVar_agg {P : Program} {t n y : Nat} [ha : Agg P t] [hi : Inf P t n y] {w : World} {b off : Nat} {cs : List Value} (hl : cs.length = n) (hc : ∀ j u, cs[j]? = some u → w.cell? ⟨b, off + j, none⟩ = some u) :
    (loadVar t ⟨b, off, none⟩).run P w = .ok (.agg cs.toArray) w := by
  have h := run_loadCells_list (P := P) w ⟨b, off, none⟩ cs (fun j v hv => by rw [Addr.add_lit]; exact hc j v hv)
  simp [loadVar, run_agg, run_inf hi.inf, ← hl, h]

theorem run_loadVar_one {P : Program} {t : Nat} [ha : Sca P t] {w : World} {ad : Addr} (hc : w.cell? ad = some v) : (loadVar t ad).run P w = .ok v w := by
  simp [loadVar, run_sca, hc]

theorem cell_blk {w : World} {b : Nat} {cs : List Value} {T : TypeId} {fr : Nat × Nat} (hb : w.heap[b]? = some (.cells cs.toArray T fr)) (j : Nat) : w.cell? ⟨b, j, none⟩ = cs[j]? := by
  simp [World.cell?, hb]

theorem p_load_all {t n y : Nat} {b : Nat} {cs : List Value} {T : TypeId} {fr : Nat × Nat} [Agg c.P t] [Inf c.P t n y] (hx : ev env x = some (ptr b 0) := by rfl) [hb : InB b (.cells cs.toArray T fr) B] (hl : cs.length = n := by first | (simp; done) | (simp [*]; done) | rfl | (simp; omega) | (simp [*]; done) | (simp [*]; omega)) : OpE c ⟨some d, .load t x, ty, pos, af, none⟩ env B (.agg cs.toArray) :=
  fun a w s => by
    have := run_loadVar_agg (P := c.P) (t := t) (w := w) (b := b) (off := 0) hl (fun j u hj => by rw [Nat.zero_add, cell_blk (s.has.ent _ hb.mem)]; exact hj)
    simp [execOp, s.ev hx, Instr.loadAt, Instr.sureAddr, this]

theorem p_load_part {t n y : Nat} {b off : Nat} {cs ps : List Value} {T : TypeId} {fr : Nat × Nat} [Agg c.P t] [Inf c.P t n y] (hx : ev env x = some (ptr b off) := by rfl) [hb : InB b (.cells cs.toArray T fr) B] (hp : (cs.drop off).take n = ps) (hl : ps.length = n := by first | (simp; done) | (simp [*]; done) | rfl | (simp; omega) | (simp [*]; done) | (simp [*]; omega)) : OpE c ⟨some d, .load t x, ty, pos, af, none⟩ env B (.agg ps.toArray) :=
  fun a w s => by
    have := run_loadVar_agg (P := c.P) (t := t) (w := w) (b := b) (off := off) hl (fun j u hj => by
      rw [cell_blk (s.has.ent _ hb.mem)]
      rw [← hp] at hj
      have hlt : j < n := by
        rcases Nat.lt_or_ge j n with h | h
        · exact h
        · rw [List.getElem?_eq_none (by simp; omega)] at hj; cases hj
      rw [List.getElem?_take_of_lt hlt, List.getElem?_drop] at hj
      exact hj)
    simp [execOp, s.ev hx, Instr.loadAt, Instr.sureAddr, this]

theorem p_load_one {t : Nat} {b off : Nat} {cs : List Value} {T : TypeId} {fr : Nat × Nat} [Sca c.P t] (hx : ev env x = some (ptr b off) := by rfl) [hb : InB b (.cells cs.toArray T fr) B] (hc : cs[off]? = some v) : OpE c ⟨some d, .load t x, ty, pos, af, none⟩ env B (v) :=
  fun a w s => by
    have := run_loadVar_one (P := c.P) (t := t) (w := w) (ad := ⟨b, off, none⟩) (v := v) (by rw [cell_blk (s.has.ent _ hb.mem)]; exact hc)
    simp [execOp, s.ev hx, Instr.loadAt, Instr.sureAddr, this]

/-- A cell of a slice. -/
theorem p_load_sl {t : Nat} {u : Value} {s n j : Nat} {xs : List Value} [Sca c.P t] (hx : ev env x = some (slPtr u j) := by rfl) [hr : Rd c B u s n xs] (hc : xs[j]? = some v) : OpE c ⟨some d, .load t x, ty, pos, af, none⟩ env B (v) :=
  fun a w st => by
    obtain ⟨hl, ad, cap, rfl, _, hn | ⟨b, off, rfl, hq⟩⟩ := hr.rd _ _ _ st
    · subst hn; simp at hl; subst hl; simp at hc
    · have := run_loadVar_one (P := c.P) (t := t) (w := w) (ad := ⟨b, off + j, none⟩) (v := v) (hq j v hc)
      simp [execOp, st.ev hx, slPtr, Addr.add_lit, Instr.loadAt, Instr.sureAddr, this]

/-- An aggregate that begins at cell j of a slice. -/
theorem p_load_sls {t m y : Nat} {u : Value} {s n j : Nat} {xs ps : List Value} [Agg c.P t] [Inf c.P t m y] (hx : ev env x = some (slPtr u j) := by rfl) [hr : Rd c B u s n xs] (hp : (xs.drop j).take m = ps) (hl : ps.length = m := by first | (simp; done) | (simp [*]; done) | rfl | (simp; omega) | (simp [*]; done) | (simp [*]; omega)) (hm : 0 < m := by first | omega | (simp only [IntKind.bits] at *; omega)) : OpE c ⟨some d, .load t x, ty, pos, af, none⟩ env B (.agg ps.toArray) :=
  fun a w st => by
    obtain ⟨hl', ad, cap, rfl, _, hn | ⟨b, off, rfl, hq⟩⟩ := hr.rd _ _ _ st
    · subst hn; simp at hl'; subst hl'; simp at hp; subst hp; simp at hl; omega
    · have := run_loadVar_agg (P := c.P) (t := t) (w := w) (b := b) (off := off + j) hl (fun i u hi => by
        rw [← hp] at hi
        have hlt : i < m := by
          rcases Nat.lt_or_ge i m with h | h
          · exact h
          · rw [List.getElem?_eq_none (by simp; omega)] at hi; cases hi
        rw [List.getElem?_take_of_lt hlt, List.getElem?_drop] at hi
        have := hq _ _ hi
        rw [← Nat.add_assoc] at this
        exact this)
      simp [execOp, st.ev hx, slPtr, Addr.add_lit, Instr.loadAt, Instr.sureAddr, this]

/-! Stores. -/
theorem storeCells_run {P : Program} {w : World} {b off : Nat} {T : TypeId} {cs vs : List Value} (hb : w.heap[b]? = some (.cells cs.toArray T (0, 0))) (hl : off + vs.length ≤ cs.length) (h1 : ∀ v ∈ vs, v.oneCell' = true) :
    (storeCells ⟨b, off, none⟩ vs).run P w = .ok () (w.setRow b (cs.take off ++ vs ++ cs.drop (off + vs.length)).toArray) := by
  have := run_storeCells_at P b off T vs 0 cs.toArray w hb (by simpa using hl) h1
  simpa using this

theorem us_one {k : IntKind} {l : List Nat} : ∀ v ∈ us k l, v.oneCell' = true := by
  intro v hv; simp only [us, List.mem_map] at hv; obtain ⟨x, _, rfl⟩ := hv; rfl
theorem is_one {k : IntKind} {l : List Int} : ∀ v ∈ is k l, v.oneCell' = true := by
  intro v hv; simp only [is, List.mem_map] at hv; obtain ⟨x, _, rfl⟩ := hv; rfl

/-- Over a whole variable. -/
theorem e_store_all {t n y' : Nat} {b : Nat} {cs vs : List Value} {T : TypeId} {B' : Own} [Inf c.P t n y'] (hx : ev env x = some (ptr b 0) := by rfl) (hy : ev env y = some v := by rfl) (hv : v.cells = vs.toArray := by rfl) [hb : InB b (.cells cs.toArray T (0, 0)) B]
    [hu : Up (.blk b (.cells cs.toArray T (0, 0))) (.blk b (.cells vs.toArray T (0, 0))) B B'] (hl : vs.length = n := by first | (simp; done) | (simp [*]; done) | rfl | (simp; omega) | (simp [*]; done) | (simp [*]; omega)) (hl' : cs.length = n := by first | (simp; done) | (simp [*]; done) | rfl | (simp; omega) | (simp [*]; done) | (simp [*]; omega)) (h1 : ∀ v ∈ vs, v.oneCell' = true := by first | exact us_one | exact is_one | (intro v hv; simp at hv; subst hv; rfl) | (simp; done)) (h : N undef B') : OpX c ⟨none, .store t x y, ty, pos, af, none⟩ env B N :=
  opx0 (fun a w s => by
    have hi := ‹Inf c.P t n y'›.inf
    have hst := storeCells_run (P := c.P) (off := 0) (vs := vs) (s.has.ent _ hb.mem) (by omega) h1
    have hd0 : cs.drop (0 + vs.length) = [] := List.drop_of_length_le (by omega)
    rw [hd0] at hst
    refine ⟨w.setRow b vs.toArray, ?_, LS.row hu.up s.has⟩
    simp only [List.take_zero, List.nil_append, List.append_nil] at hst
    simp [execOp, s.ev hx, s.ev hy, Instr.storeAt, Instr.sureAddr, storeVar, run_inf hi, hv, hl, hst]) h

/-- One cell. -/
theorem e_store_one {t : Nat} {y' : Nat} {b off : Nat} {cs : List Value} {T : TypeId} {B' : Own} [Inf c.P t 1 y'] (hx : ev env x = some (ptr b off) := by rfl) (hy : ev env y = some v := by rfl) (hv : v.oneCell' = true := by rfl) (hvc : v.cells = #[v] := by rfl) [hb : InB b (.cells cs.toArray T (0, 0)) B]
    (ho : off < cs.length := by first | omega | (simp; done) | (simp; omega) | (simp [*]; omega)) [hu : Up (.blk b (.cells cs.toArray T (0, 0))) (.blk b (.cells (cs.set off v).toArray T (0, 0))) B B'] (h : N undef B') : OpX c ⟨none, .store t x y, ty, pos, af, none⟩ env B N :=
  opx0 (fun a w s => by
    have hi := ‹Inf c.P t 1 y'›.inf
    have hst := storeCells_run (P := c.P) (off := off) (vs := [v]) (s.has.ent _ hb.mem) (by simp; omega) (by simpa using hv)
    refine ⟨w.setRow b (cs.set off v).toArray, ?_, LS.row hu.up s.has⟩
    have e : cs.take off ++ [v] ++ cs.drop (off + 1) = cs.set off v := by rw [List.set_eq_take_append_cons_drop, if_pos ho]; simp
    simp only [List.length_singleton] at hst
    rw [e] at hst
    simp [execOp, s.ev hx, s.ev hy, Instr.storeAt, Instr.sureAddr, storeVar, run_inf hi, hvc, hst]) h

/-- Some cells. -/
theorem e_store_part {t n y' : Nat} {b off : Nat} {cs vs cs' : List Value} {T : TypeId} {B' : Own} [Inf c.P t n y'] (hx : ev env x = some (ptr b off) := by rfl) (hy : ev env y = some v := by rfl) (hv : v.cells = vs.toArray := by rfl) [hb : InB b (.cells cs.toArray T (0, 0)) B]
    (hl : vs.length = n := by first | (simp; done) | (simp [*]; done) | rfl | (simp; omega) | (simp [*]; done) | (simp [*]; omega)) (h1 : ∀ v ∈ vs, v.oneCell' = true := by first | exact us_one | exact is_one | (intro v hv; simp at hv; subst hv; rfl) | (simp; done)) (ho : off + n ≤ cs.length := by first | omega | (simp; done) | (simp; omega) | (simp [*]; omega)) (hcs : cs.take off ++ vs ++ cs.drop (off + n) = cs') [hu : Up (.blk b (.cells cs.toArray T (0, 0))) (.blk b (.cells cs'.toArray T (0, 0))) B B'] (h : N undef B') : OpX c ⟨none, .store t x y, ty, pos, af, none⟩ env B N :=
  opx0 (fun a w s => by
    have hi := ‹Inf c.P t n y'›.inf
    have hst := storeCells_run (P := c.P) (off := off) (vs := vs) (s.has.ent _ hb.mem) (by omega) h1
    refine ⟨w.setRow b cs'.toArray, ?_, LS.row hu.up s.has⟩
    rw [hl, hcs] at hst
    simp [execOp, s.ev hx, s.ev hy, Instr.storeAt, Instr.sureAddr, storeVar, run_inf hi, hv, hl, hst]) h

/-! Addresses. -/
theorem p_ix_arr {t n e s y' : Nat} {b off i : Nat} {k : IntKind} [hu : Und c.P t (.array n e)] [hi : Inf c.P e s y'] (hx : ev env x = some (ptr b off) := by rfl) (hy : ev env y = some (.int k (i : Int)) := by rfl) (hlt : i < n := by first | omega | (simp only [IntKind.bits] at *; omega)) : OpE c ⟨some d, .indexAddr t x y, ty, pos, af, none⟩ env B (ptr b (off + i * s)) :=
  fun a w st => by
    simp [execOp, st.ev hx, st.ev hy, Instr.indexAt, run_und, Instr.sureAddr, asIntOf, run_inf hi.inf, hlt, Addr.add_lit]
/-- Elements of one cell; from the block's begin. -/
theorem p_ix_arr1 {t n e y' : Nat} {b off i : Nat} {k : IntKind} [hu : Und c.P t (.array n e)] [hi : Inf c.P e 1 y'] (hx : ev env x = some (ptr b off) := by rfl) (hy : ev env y = some (.int k (i : Int)) := by rfl) (hlt : i < n := by first | omega | (simp only [IntKind.bits] at *; omega)) : OpE c ⟨some d, .indexAddr t x y, ty, pos, af, none⟩ env B (ptr b (off + i)) :=
  by have := p_ix_arr (c := c) (env := env) (t := t) (s := 1) (d := d) (ty := ty) (pos := pos) (af := af) (B := B) hx hy hlt; rw [Nat.mul_one] at this; exact this
theorem p_ix_arr0 {t n e y' : Nat} {b i : Nat} {k : IntKind} [hu : Und c.P t (.array n e)] [hi : Inf c.P e 1 y'] (hx : ev env x = some (ptr b 0) := by rfl) (hy : ev env y = some (.int k (i : Int)) := by rfl) (hlt : i < n := by first | omega | (simp only [IntKind.bits] at *; omega)) : OpE c ⟨some d, .indexAddr t x y, ty, pos, af, none⟩ env B (ptr b i) :=
  by have := p_ix_arr1 (c := c) (env := env) (t := t) (d := d) (ty := ty) (pos := pos) (af := af) (B := B) hx hy hlt; rw [Nat.zero_add] at this; exact this

theorem p_ix_sl {t e s y' : Nat} {u : Value} {n i s' : Nat} {xs : List Value} {k : IntKind} [hu : Und c.P t (.slice e)] [hi : Inf c.P e s y'] (hx : ev env x = some u := by rfl) (hy : ev env y = some (.int k (i : Int)) := by rfl) [hr : Rd c B u s' n xs] (hlt : i < n := by first | omega | (simp only [IntKind.bits] at *; omega)) : OpE c ⟨some d, .indexAddr t x y, ty, pos, af, none⟩ env B (slPtr u (i * s)) :=
  fun a w st => by
    obtain ⟨hl', ad, cap, rfl, _, hn | ⟨b, off, rfl, hq⟩⟩ := hr.rd _ _ _ st
    · omega
    · simp [execOp, st.ev hx, st.ev hy, Instr.indexAt, run_und, asIntOf, run_inf hi.inf, hlt, slPtr]
theorem p_ix_sl1 {t e y' : Nat} {u : Value} {n i s' : Nat} {xs : List Value} {k : IntKind} [hu : Und c.P t (.slice e)] [hi : Inf c.P e 1 y'] (hx : ev env x = some u := by rfl) (hy : ev env y = some (.int k (i : Int)) := by rfl) [hr : Rd c B u s' n xs] (hlt : i < n := by first | omega | (simp only [IntKind.bits] at *; omega)) : OpE c ⟨some d, .indexAddr t x y, ty, pos, af, none⟩ env B (slPtr u i) :=
  by have := p_ix_sl (c := c) (env := env) (t := t) (s := 1) (d := d) (ty := ty) (pos := pos) (af := af) (B := B) hx hy hlt; rw [Nat.mul_one] at this; exact this

theorem p_field {t i off ft s y' : Nat} {b o : Nat} [hf : Fld c.P t i off ft] [hi : Inf c.P ft s y'] (hs : Nat.beq s 0 = false := by rfl) (hx : ev env x = some (ptr b o) := by rfl) : OpE c ⟨some d, .fieldAddr t x i, ty, pos, af, none⟩ env B (ptr b (o + off)) :=
  fun a w st => by
    obtain ⟨fs, f, h1, h2, h3, h4⟩ := hf.fld
    have hs' : s ≠ 0 := by intro e; subst e; simp at hs
    have hsz : ∀ w, (sizeOf f.type).run c.P w = .ok s w := by rw [h4]; exact run_inf hi.inf
    simp [execOp, st.ev hx, Instr.fieldAt, underlying, h1, h2, Instr.sureAddr, fieldPlace, hsz, hs', h3, Addr.add_lit]
theorem p_field0 {t i off ft s y' : Nat} {b : Nat} [hf : Fld c.P t i off ft] [hi : Inf c.P ft s y'] (hs : Nat.beq s 0 = false := by rfl) (hx : ev env x = some (ptr b 0) := by rfl) : OpE c ⟨some d, .fieldAddr t x i, ty, pos, af, none⟩ env B (ptr b off) :=
  by have := p_field (c := c) (env := env) (t := t) (i := i) (ft := ft) (off := off) (d := d) (ty := ty) (pos := pos) (af := af) (B := B) hs hx; rw [Nat.zero_add] at this; exact this

end ops
end Go.Tw
end

section
namespace Go.Tw

section ops
variable {c : Cx} {ops : Array Oper} {Q : Exit → Act → World → Prop} {rest : List Oper} {env : Env} {B : Own} {d ty : Nat} {pos : String} {af : Array Edge} {x y z : Operand} {v vx vy : Value} {N : Value → Own → Prop}

/-! ## Slicing -/

def evo (env : Env) : Option Operand → Option (Option Value)
  | none => some none
  | some x => (ev env x).map some

theorem St.evo {a : Act} {w : World} (s : St c env B a w) {x : Option Operand} {v : Option Value} (h : evo env x = some v) : x.map a.eval = v := by
  cases x with
  | none => simp only [Tw.evo, Option.some.injEq] at h; exact h
  | some x =>
    simp only [Tw.evo, Option.map_eq_some_iff] at h
    obtain ⟨u, hu, rfl⟩ := h
    simp [s.ev hu]

/-- Bounds: lo .. hi of a length n (of a slice: capacity). -/
def bnd (n : Nat) : Option Value → Option Nat
  | none => some n
  | some (.int _ i) => some i.toNat
  | _ => none

/-- Of an array: from lo to hi (left out: the begin, the end). -/
theorem p_slice_arr {t n e s y' : Nat} {b off lo hi : Nat} {kl kh : IntKind} [hu : Und c.P t (.array n e)] [hi' : Inf c.P e s y'] {l h' : Operand} (hx : ev env x = some (ptr b off) := by rfl) (hl : ev env l = some (.int kl (lo : Int)) := by rfl) (hh : ev env h' = some (.int kh (hi : Int)) := by rfl)
    (h1 : lo ≤ hi := by first | omega | (simp only [IntKind.bits] at *; omega)) (h2 : hi ≤ n := by first | omega | (simp only [IntKind.bits] at *; omega)) (h3 : lo < n := by first | omega | (simp only [IntKind.bits] at *; omega)) : OpE c ⟨some d, .slice t x (some l) (some h') none, ty, pos, af, none⟩ env B (.slice (some ⟨b, off + lo * s, none⟩) (hi - lo) (n - lo)) :=
  fun a w st => by
    have e1 : ¬ n = lo := by omega
    simp [execOp, st.ev hx, st.ev hl, st.ev hh, Instr.sliceAt, run_und, Instr.sureAddr, Instr.sliceBounds, Instr.sliceBound, asIntOf, run_inf hi'.inf, Addr.add_lit, h1, h2, e1]
theorem p_slice_arr_lo {t n e s y' : Nat} {b off lo : Nat} {kl : IntKind} [hu : Und c.P t (.array n e)] [hi' : Inf c.P e s y'] {l : Operand} (hx : ev env x = some (ptr b off) := by rfl) (hl : ev env l = some (.int kl (lo : Int)) := by rfl)
    (h3 : lo < n := by first | omega | (simp only [IntKind.bits] at *; omega)) : OpE c ⟨some d, .slice t x (some l) none none, ty, pos, af, none⟩ env B (.slice (some ⟨b, off + lo * s, none⟩) (n - lo) (n - lo)) :=
  fun a w st => by
    have e1 : ¬ n = lo := by omega
    have e2 : lo ≤ n := by omega
    simp [execOp, st.ev hx, st.ev hl, Instr.sliceAt, run_und, Instr.sureAddr, Instr.sliceBounds, Instr.sliceBound, asIntOf, run_inf hi'.inf, Addr.add_lit, e1, e2]
theorem p_slice_arr_hi {t n e s y' : Nat} {b off hi : Nat} {kh : IntKind} [hu : Und c.P t (.array n e)] [hi' : Inf c.P e s y'] {h' : Operand} (hx : ev env x = some (ptr b off) := by rfl) (hh : ev env h' = some (.int kh (hi : Int)) := by rfl)
    (h2 : hi ≤ n := by first | omega | (simp only [IntKind.bits] at *; omega)) : OpE c ⟨some d, .slice t x none (some h') none, ty, pos, af, none⟩ env B (.slice (some ⟨b, off, none⟩) hi n) :=
  fun a w st => by
    simp [execOp, st.ev hx, st.ev hh, Instr.sliceAt, run_und, Instr.sureAddr, Instr.sliceBounds, Instr.sliceBound, asIntOf, run_inf hi'.inf, Addr.add_lit, h2]
theorem p_slice_arr_all {t n e s y' : Nat} {b off : Nat} [hu : Und c.P t (.array n e)] [hi' : Inf c.P e s y'] (hx : ev env x = some (ptr b off) := by rfl) : OpE c ⟨some d, .slice t x none none none, ty, pos, af, none⟩ env B (.slice (some ⟨b, off, none⟩) n n) :=
  fun a w st => by
    simp [execOp, st.ev hx, Instr.sliceAt, run_und, Instr.sureAddr, Instr.sliceBounds, run_inf hi'.inf, Addr.add_lit]

/-- Of a slice, within its length. -/
theorem p_slice_sl {t e s y' : Nat} {u : Value} {n lo hi : Nat} {xs : List Value} {kl kh : IntKind} [hu : Und c.P t (.slice e)] [hi' : Inf c.P e s y'] {l h' : Operand} (hx : ev env x = some u := by rfl) (hl : ev env l = some (.int kl (lo : Int)) := by rfl) (hh : ev env h' = some (.int kh (hi : Int)) := by rfl)
    {s' : Nat} [hr : Rd c B u s' n xs] (h1 : lo ≤ hi := by first | omega | (simp only [IntKind.bits] at *; omega)) (h2 : hi ≤ n := by first | omega | (simp only [IntKind.bits] at *; omega)) : OpE c ⟨some d, .slice t x (some l) (some h') none, ty, pos, af, none⟩ env B (subSl u s lo hi) :=
  fun a w st => by
    obtain ⟨hl', ad, cap, rfl, hc, _⟩ := hr.rd _ _ _ st
    have e1 : hi ≤ cap := by omega
    simp [execOp, st.ev hx, st.ev hl, st.ev hh, Instr.sliceAt, Instr.slice, run_und, Instr.sliceBounds, Instr.sliceBound, asIntOf, run_inf hi'.inf, h1, e1, subSl]
theorem p_slice_sl_lo {t e s y' : Nat} {u : Value} {n lo : Nat} {xs : List Value} {kl : IntKind} [hu : Und c.P t (.slice e)] [hi' : Inf c.P e s y'] {l : Operand} (hx : ev env x = some u := by rfl) (hl : ev env l = some (.int kl (lo : Int)) := by rfl)
    {s' : Nat} [hr : Rd c B u s' n xs] (h1 : lo ≤ n := by first | omega | (simp only [IntKind.bits] at *; omega)) : OpE c ⟨some d, .slice t x (some l) none none, ty, pos, af, none⟩ env B (subSl u s lo n) :=
  fun a w st => by
    obtain ⟨hl', ad, cap, rfl, hc, _⟩ := hr.rd _ _ _ st
    simp [execOp, st.ev hx, st.ev hl, Instr.sliceAt, Instr.slice, run_und, Instr.sliceBounds, Instr.sliceBound, asIntOf, run_inf hi'.inf, h1, subSl]
theorem p_slice_sl_hi {t e s y' : Nat} {u : Value} {n hi : Nat} {xs : List Value} {kh : IntKind} [hu : Und c.P t (.slice e)] [hi' : Inf c.P e s y'] {h' : Operand} (hx : ev env x = some u := by rfl) (hh : ev env h' = some (.int kh (hi : Int)) := by rfl)
    {s' : Nat} [hr : Rd c B u s' n xs] (h2 : hi ≤ n := by first | omega | (simp only [IntKind.bits] at *; omega)) : OpE c ⟨some d, .slice t x none (some h') none, ty, pos, af, none⟩ env B (subSl u s 0 hi) :=
  fun a w st => by
    obtain ⟨hl', ad, cap, rfl, hc, _⟩ := hr.rd _ _ _ st
    have e1 : hi ≤ cap := by omega
    simp [execOp, st.ev hx, st.ev hh, Instr.sliceAt, Instr.slice, run_und, Instr.sliceBounds, Instr.sliceBound, asIntOf, run_inf hi'.inf, e1, subSl]

/-- A slice's first elements as an array. -/
theorem p_s2a {t e n m s : Nat} {u : Value} {xs : List Value} [hu : Und c.P t (.array n e)] (hx : ev env x = some u := by rfl) [hr : Rd c B u s m xs] (hn : n ≤ m := by first | omega | (simp only [IntKind.bits] at *; omega)) (hm : 0 < m := by first | omega | (simp only [IntKind.bits] at *; omega)) : OpE c ⟨some d, .sliceToArrayPointer t x, ty, pos, af, none⟩ env B (slPtr u 0) :=
  fun a w st => by
    obtain ⟨hl', ad, cap, rfl, hc, h0 | ⟨b, off, rfl, _⟩⟩ := hr.rd _ _ _ st
    · omega
    · have := run_arrayAt (P := c.P) w t e n (some ⟨b, off, none⟩) m cap hu.und hn
      simp [execOp, st.ev hx, this, slPtr, Addr.add_zero']

/-! ## len, min -/

theorem p_len {t e : Nat} {u : Value} {s n : Nat} {xs : List Value} [hu : Und c.P t (.slice e)] (hx : ev env x = some u := by rfl) [hr : Rd c B u s n xs] : OpE c ⟨some d, .call ⟨.builtin .len, #[x], #[t]⟩, ty, pos, af, none⟩ env B (.int .i64 (n : Int)) :=
  fun a w st => by
    obtain ⟨hl', ad, cap, rfl, hc, _⟩ := hr.rd _ _ _ st
    simp [execOp, resolve, invoke, builtin, Builtin.len_, st.ev hx, run_und, goInt]
theorem p_len_arr {t n e : Nat} [hu : Und c.P t (.array n e)] (hx : ev env x = some v := by rfl) : OpE c ⟨some d, .call ⟨.builtin .len, #[x], #[t]⟩, ty, pos, af, none⟩ env B (.int .i64 (n : Int)) :=
  fun a w st => by
    simp [execOp, resolve, invoke, builtin, Builtin.len_, st.ev hx, run_und, goInt]
theorem p_len_str {t : Nat} {sb : ByteArray} [hu : Und c.P t .string] (hx : ev env x = some (.string sb) := by rfl) : OpE c ⟨some d, .call ⟨.builtin .len, #[x], #[t]⟩, ty, pos, af, none⟩ env B (.int .i64 (sb.size : Int)) :=
  fun a w st => by
    simp [execOp, resolve, invoke, builtin, Builtin.len_, st.ev hx, run_und, goInt]
theorem p_min {t : Array Nat} {k : IntKind} {a b : Nat} (hx : ev env x = some (.int k (a : Int)) := by rfl) (hy : ev env y = some (.int k (b : Int)) := by rfl) : OpE c ⟨some d, .call ⟨.builtin .min, #[x, y], t⟩, ty, pos, af, none⟩ env B (.int k ((min a b : Nat) : Int)) :=
  fun a' w st => by
    simp [execOp, resolve, invoke, builtin, Builtin.min_, Builtin.min2, st.ev hx, st.ev hy]; split <;> omega

/-! ## What grows -/

theorem LS.own {w w' : World} {B B' : Own} {v v' : Value} {T s n n' : Nat} {xs xs' : List Value} (hup : ∃ l r, B = l ++ .sl v T s n xs :: r ∧ B' = l ++ .sl v' T s n' xs' :: r) (h : Has w B)
    (hown : w'.ownsRow 0 T s v' n' xs') (hg : w.grownBy w' v.ownBlock) (hnew : ∀ b, v'.ownBlock = some b → v.ownBlock = some b ∨ w.heap.size ≤ b) : LS w w' B B' := by
  obtain ⟨l, r, rfl, rfl⟩ := hup
  have hsame : ∀ b, b ∉ (Ent.sl v T s n xs).keys → b < w.heap.size → w'.heap[b]? = w.heap[b]? := fun b hb hlt =>
    hg.block b hlt (by intro e; apply hb; simp [Ent.keys, ← e])
  have hnd := h.nd
  rw [keys_app, keys_cons] at hnd
  refine ⟨⟨hg.os, hg.tape, hg.output, hg.size, fun k hk hn => hsame k (fun hm => hn (mem_keys (e := .sl v T s n xs) (by simp) hm)) hk, ?_⟩, ?_, ?_⟩
  · intro k hk
    rw [keys_app, keys_cons] at hk
    rcases List.mem_append.1 hk with hk | hk
    · exact Or.inl (by rw [keys_app]; exact List.mem_append_left _ hk)
    · rcases List.mem_append.1 hk with hk | hk
      · have hk' : v'.ownBlock = some k := by simpa [Ent.keys] using hk
        rcases hnew k hk' with h1 | h1
        · exact Or.inl (mem_keys (e := .sl v T s n xs) (by simp) (by simp [Ent.keys, h1]))
        · exact Or.inr h1
      · exact Or.inl (by rw [keys_app, keys_cons]; exact List.mem_append_right _ (List.mem_append_right _ hk))
  · intro e he
    rcases List.mem_append.1 he with he | he
    · refine Ent.holds_of (h.ent e (by simp [he])) fun b hb => hsame b ?_ (Ent.lt (h.ent e (by simp [he])) hb)
      intro hm
      exact (List.nodup_append.1 hnd).2.2 b (mem_keys he hb) b (List.mem_append_left _ hm) rfl
    · rcases List.mem_cons.1 he with rfl | he
      · exact hown
      · refine Ent.holds_of (h.ent e (by simp [he])) fun b hb => hsame b ?_ (Ent.lt (h.ent e (by simp [he])) hb)
        intro hm
        exact (List.nodup_append.1 (List.nodup_append.1 hnd).2.1).2.2 b hm b (mem_keys he hb) rfl
  · rw [keys_app, keys_cons]
    have hlt : ∀ b, b ∈ keys l ∨ b ∈ keys r → b < w.heap.size := by
      intro b hb
      rcases hb with hb | hb <;> (obtain ⟨e, he, hbe⟩ := List.mem_flatMap.1 hb; exact Ent.lt (h.ent e (by simp [he])) hbe)
    have hk1 : ∀ b, b ∈ (Ent.sl v' T s n' xs').keys → b ∈ (Ent.sl v T s n xs).keys ∨ w.heap.size ≤ b := by
      intro b hb
      have hb' : v'.ownBlock = some b := by simpa [Ent.keys] using hb
      rcases hnew b hb' with h1 | h1
      · exact Or.inl (by simp [Ent.keys, h1])
      · exact Or.inr h1
    obtain ⟨n1, n2, n3⟩ := List.nodup_append.1 hnd
    obtain ⟨m1, m2, m3⟩ := List.nodup_append.1 n2
    refine List.nodup_append.2 ⟨n1, List.nodup_append.2 ⟨?_, m2, ?_⟩, ?_⟩
    · show (v'.ownBlock.toList).Nodup
      cases v'.ownBlock <;> simp
    · intro p hp q hq e
      subst e
      rcases hk1 p hp with h1 | h1
      · exact m3 p h1 p hq rfl
      · have := hlt p (Or.inr hq); omega
    · intro p hp q hq e
      subst e
      rcases List.mem_append.1 hq with hq | hq
      · rcases hk1 p hq with h1 | h1
        · exact n3 p hp p (List.mem_append_left _ h1) rfl
        · have := hlt p (Or.inl hp); omega
      · exact n3 p hp p (List.mem_append_right _ hq) rfl

theorem ownsRow_base {w : World} {base e size : Nat} {v : Value} {n : Nat} {xs : List Value} (h : w.ownsRow base e size v n xs) : w.ownsRow 0 e size v n xs := by
  refine ⟨h.1, ?_⟩
  rcases h.2 with h | ⟨g, cap, cur, hv, _, r⟩
  · exact Or.inl h
  · exact Or.inr ⟨g, cap, cur, hv, Nat.zero_le _, r⟩

theorem run_append_mine {P : Program} {w : World} {t ty e size bytes : Nat} {zs : List Value} [hu : Und P t (.slice e)] [hi : Inf P e size bytes] [hz : Zer P e zs] (hzs : zs.length = size) (hsz : 0 < size)
    {v : Value} {n : Nat} {xs : List Value} (hown : w.ownsRow 0 e size v n xs) {u : Value} {m : Nat} {news : List Value} (hr : SlR w u size m news) (h1 : ∀ u ∈ news, u.oneCell' = true)
    (hbytes : (n + m) * bytes ≤ 140737488355328) (h63 : n + m ≤ 9223372036854775807) :
    ∃ v' w', (Builtin.append_ #[t, t] ty #[v, u]).run P w = .ok v' w' ∧ w'.ownsRow 0 e size v' (n + m) (xs ++ news) ∧ w.grownBy w' v.ownBlock ∧ (∀ b, v'.ownBlock = some b → v.ownBlock = some b ∨ w.heap.size ≤ b) := by
  obtain ⟨i, hi1, hi2, hi3⟩ := hi.inf
  obtain ⟨i', z, hz1, hz2, hz3⟩ := hz.zer
  have hii : i' = i := by rw [hi1] at hz1; exact (Option.some.inj hz1).symm
  subst hii
  have hzc : z.cells.size = size := by rw [hz3]; simpa using hzs
  obtain ⟨hl, ad, cap0, rfl, hcap0, hread⟩ := hr
  have hm63 : n + m ≤ maxLen := by simp only [maxLen]; omega
  rcases hread with rfl | ⟨b, off, rfl, hq⟩
  · -- nothing to append
    have hn : news = [] := List.eq_nil_of_length_eq_zero (by simpa using hl)
    subst hn
    refine ⟨v, w, ?_, by simpa using hown, ⟨rfl, rfl, rfl, Nat.le_refl _, fun _ _ _ => rfl⟩, fun b hb => Or.inl hb⟩
    have hf : (Builtin.firstCells size 0 (.slice ad 0 cap0)).run P w = .ok #[] w := by
      cases ad <;> simp [Builtin.firstCells, loadCells, loadCellsFrom]
    rcases hown.2 with ⟨rfl, rfl⟩ | ⟨g, cap, cur, rfl, _, _, hnc, _⟩
    · simp [Builtin.append_, run_und, run_inf hi.inf, Builtin.lenOf, hf]
    · simp [Builtin.append_, run_und, run_inf hi.inf, Builtin.lenOf, hf, hnc, storeCells]
  · have hnews : ∀ j u, news[j]? = some u → w.cell? ((⟨b, off, none⟩ : Addr).add j) = some u := fun j u hj => by rw [Addr.add_lit]; exact hq j u hj
    rcases hown.2 with ⟨rfl, rfl⟩ | ⟨g, cap, cur, rfl, hbg, hg, hnc, hcm, hcs, htake⟩
    · have hx : xs = [] := List.eq_nil_of_length_eq_zero (by simpa using hown.1)
      subst hx
      obtain ⟨v', w', h2, h3, h4, _⟩ := run_append_own (P := P) w w.heap.size t ty e i' z size bytes hu.und hi1 hz2 hi2 hi3 hzc hsz (.slice none 0 0) 0 [] (World.ownsRow_nil w _ e size) ⟨b, off, none⟩ m cap0 news hl hnews h1 hm63 hbytes (Nat.le_refl _)
      refine ⟨v', w', h2, ownsRow_base h3, h4, fun b hb => Or.inr ?_⟩
      rcases h3.2 with ⟨rfl, _⟩ | ⟨g, _, _, rfl, hge, _⟩
      · simp [Value.ownBlock] at hb
      · simp only [Value.ownBlock, Option.some.injEq] at hb; omega
    · by_cases hroom : n + m ≤ cap
      · obtain ⟨w', h2, h3, h4⟩ := run_append_fits (P := P) w 0 t ty e i' size hu.und hi1 hi2 g n cap xs hown ⟨b, off, none⟩ m cap0 news hl hnews h1 hroom
        exact ⟨_, w', h2, h3, h4, fun b hb => Or.inl hb⟩
      · have holds : ∀ j u, xs[j]? = some u → w.cell? ((⟨g, 0, none⟩ : Addr).add j) = some u := hown.cells (g := g) rfl
        have hlx : xs.length = n * i'.size := by rw [hi2]; exact hown.1
        have hln : news.length = m * i'.size := by rw [hi2]; exact hl
        have hr := run_append_grow (P := P) w t ty e i' z hu.und hi1 hz2 ⟨g, 0, none⟩ n cap xs hlx holds ⟨b, off, none⟩ m cap0 news hln hnews (by omega) (by omega) (growslice_fits (by omega) (by rw [hi3]; exact hbytes))
        have hge := grownCap_ge w (n + m) cap e
        have hcm' : grownCap w (n + m) cap e ≤ maxLen := grownCap_le_maxLen w (n + m) cap e hm63
        have hlen : (xs ++ news).length = (n + m) * size := by rw [List.length_append, hown.1, hl, Nat.add_mul]
        refine ⟨_, _, hr, ⟨hlen, .inr ⟨w.heap.size, _, _, rfl, Nat.zero_le _, heap_alloc_new w.drew _, hge, hcm', ?_, ?_⟩⟩, ⟨rfl, rfl, rfl, by simp, fun k hk _ => by show (w.heap.push _)[k]? = _; rw [Array.getElem?_push, if_neg (by omega)]⟩, fun b hb => Or.inr ?_⟩
        · simp only [Array.size_append, List.size_toArray, size_zeroCells, hzc, hown.1, hl, ← Nat.add_mul]
          congr 1
          omega
        · simp only [Array.toList_append, List.append_assoc]
          rw [← List.append_assoc, ← hlen]
          exact List.take_left
        · simp only [Value.ownBlock, Option.some.injEq] at hb; omega

theorem e_append {t e size bytes : Nat} {zs : List Value} [hu : Und c.P t (.slice e)] [hi : Inf c.P e size bytes] [hz : Zer c.P e zs] {n m : Nat} {xs news : List Value} (hx : ev env x = some v := by rfl) (hy : ev env y = some vy := by rfl)
    [hs : InSl v e size n xs B] [hr : Rd c B vy size m news] {B' : Value → Own} [hup : ∀ v', Up (.sl v e size n xs) (.sl v' e size (n + m) (xs ++ news)) B (B' v')]
    (hzs : zs.length = size := by first | (simp; done) | (simp [*]; done) | rfl | (simp; omega) | (simp [*]; done) | (simp [*]; omega)) (hsz : 0 < size := by first | omega | (simp only [IntKind.bits] at *; omega)) (h1 : ∀ u ∈ news, u.oneCell' = true := by first | exact us_one | exact is_one | (intro v hv; simp at hv; subst hv; rfl) | (simp; done)) (hbytes : (n + m) * bytes ≤ 140737488355328 := by first | omega | (simp only [IntKind.bits] at *; omega)) (h63 : n + m ≤ 9223372036854775807 := by first | omega | (simp only [IntKind.bits] at *; omega)) (h : ∀ v', N (v') (B' v')) : OpX c ⟨some d, .call ⟨.builtin .append, #[x, y], #[t, t]⟩, ty, pos, af, none⟩ env B N :=
  opx (X := Value) (v := fun v' => v') (B' := B') (fun a w st => by
    obtain ⟨v', w', h2, h3, h4, h5⟩ := run_append_mine (P := c.P) (t := t) (ty := ty) hzs hsz (st.has.ent _ hs.mem) (hr.rd _ _ _ st) h1 hbytes h63
    refine ⟨v', w', ?_, LS.own (hup v').up st.has h3 h4 h5⟩
    simp [execOp, resolve, invoke, builtin, st.ev hx, st.ev hy, h2]) h

theorem LS.new {w w' : World} {B : Own} {e : Ent} (h : Has w B) (he : e.holds w') (hk : ∀ b, b ∈ e.keys → w.heap.size ≤ b) (hnd : e.keys.Nodup)
    (h1 : w'.os = w.os) (h2 : w'.tape = w.tape) (h3 : w'.output = w.output) (h4 : w.heap.size ≤ w'.heap.size) (hs : ∀ b, b < w.heap.size → w'.heap[b]? = w.heap[b]?) : LS w w' B (e :: B) := by
  refine ⟨⟨h1, h2, h3, h4, fun k hk _ => hs k hk, ?_⟩, ?_, ?_⟩
  · intro k hkk
    rcases List.mem_append.1 hkk with h | h
    · exact Or.inr (hk k h)
    · exact Or.inl h
  · intro x hx
    rcases List.mem_cons.1 hx with rfl | hx
    · exact he
    · exact Ent.holds_of (h.ent x hx) fun b hb => hs b (Ent.lt (h.ent x hx) hb)
  · rw [keys_cons]
    refine List.nodup_append.2 ⟨hnd, h.nd, ?_⟩
    intro p hp q hq e'
    subst e'
    obtain ⟨x, hx, hb⟩ := List.mem_flatMap.1 hq
    have := Ent.lt (h.ent x hx) hb
    have := hk p hp
    omega

theorem sl_nodup {v : Value} {T s n : Nat} {xs : List Value} : (Ent.sl v T s n xs).keys.Nodup := by
  show (v.ownBlock.toList).Nodup
  cases v.ownBlock <;> simp

/-- To what is read alone, and has no room: a new row. -/
theorem e_append_new {t e size bytes : Nat} {zs : List Value} [hu : Und c.P t (.slice e)] [hi : Inf c.P e size bytes] [hz : Zer c.P e zs] {n m cap b off : Nat} {xs news : List Value} (hx : ev env x = some (.slice (some ⟨b, off, none⟩) n cap) := by rfl) (hy : ev env y = some vy := by rfl)
    [hs : Rd c B (.slice (some ⟨b, off, none⟩) n cap) size n xs] [hr : Rd c B vy size m news]
    (hzs : zs.length = size := by first | (simp; done) | (simp [*]; done) | rfl | (simp; omega) | (simp [*]; done) | (simp [*]; omega)) (hn : 0 < n := by first | omega | (simp only [IntKind.bits] at *; omega)) (hcap : cap < n + m := by first | omega | (simp only [IntKind.bits] at *; omega)) (hbytes : (n + m) * bytes ≤ 140737488355328 := by first | omega | (simp only [IntKind.bits] at *; omega)) (h63 : n + m ≤ 9223372036854775807 := by first | omega | (simp only [IntKind.bits] at *; omega)) (h : ∀ v', N (v') (.sl v' e size (n + m) (xs ++ news) :: B)) : OpX c ⟨some d, .call ⟨.builtin .append, #[x, y], #[t, t]⟩, ty, pos, af, none⟩ env B N :=
  opx (X := Value) (v := fun v' => v') (B' := fun v' => .sl v' e size (n + m) (xs ++ news) :: B) (fun a w st => by
    obtain ⟨i, hi1, hi2, hi3⟩ := hi.inf
    obtain ⟨i', z, hz1, hz2, hz3⟩ := hz.zer
    have hii : i' = i := by rw [hi1] at hz1; exact (Option.some.inj hz1).symm
    subst hii
    have hzc : z.cells.size = size := by rw [hz3]; simpa using hzs
    obtain ⟨hl1, ad1, cap1, hv1, hc1, hr1⟩ := hs.rd _ _ _ st
    simp only [Value.slice.injEq, true_and] at hv1
    obtain ⟨rfl, rfl⟩ := hv1
    obtain ⟨hl, ad, cap0, rfl, hcap0, hread⟩ := hr.rd _ _ _ st
    have hread' : ∃ ad', ad = some ad' ∧ ∀ j u, news[j]? = some u → w.cell? (ad'.add j) = some u := by
      rcases hread with rfl | ⟨b, off, rfl, hq⟩
      · omega
      · exact ⟨_, rfl, fun j u hj => by rw [Addr.add_lit]; exact hq j u hj⟩
    obtain ⟨ad', rfl, hnews⟩ := hread'
    have holds : ∀ j u, xs[j]? = some u → w.cell? ((⟨b, off, none⟩ : Addr).add j) = some u := by
      rcases hr1 with h0 | ⟨b', off', he, hq⟩
      · omega
      · simp only [Option.some.injEq, Addr.mk.injEq, and_true] at he
        obtain ⟨rfl, rfl⟩ := he
        exact fun j u hj => by rw [Addr.add_lit]; exact hq j u hj
    have hm63 : n + m ≤ maxLen := by simp only [maxLen]; omega
    have hlx : xs.length = n * i'.size := by rw [hi2]; exact hl1
    have hln : news.length = m * i'.size := by rw [hi2]; exact hl
    have hr := run_append_grow (P := c.P) w t ty e i' z hu.und hi1 hz2 ⟨b, off, none⟩ n cap xs hlx holds ad' m cap0 news hln hnews (by omega) (by omega) (growslice_fits (by omega) (by rw [hi3]; exact hbytes))
    have hge := grownCap_ge w (n + m) cap e
    have hcm' : grownCap w (n + m) cap e ≤ maxLen := grownCap_le_maxLen w (n + m) cap e hm63
    have hlen : (xs ++ news).length = (n + m) * size := by rw [List.length_append, hl1, hl, Nat.add_mul]
    refine ⟨_, _, by simp [execOp, resolve, invoke, builtin, st.ev hx, st.ev hy, hr]; rfl, LS.new st.has ⟨hlen, .inr ⟨w.heap.size, _, _, rfl, Nat.zero_le _, heap_alloc_new w.drew _, hge, hcm', ?_, ?_⟩⟩ ?_ sl_nodup rfl rfl rfl (by simp)
      (fun k hk => by show (w.heap.push _)[k]? = _; rw [Array.getElem?_push, if_neg (by omega)])⟩
    · rw [Array.size_append, List.size_toArray, size_zeroCells, hzc, hlen, ← Nat.add_mul]
      congr 1
      omega
    · simp only [Array.toList_append, List.append_assoc]
      rw [← List.append_assoc, ← hlen]
      exact List.take_left
    · intro b hb
      simp [Ent.keys, Value.ownBlock] at hb; omega) h

/-! ## make -/

theorem e_make {t e size bytes : Nat} {zs : List Value} [hu : Und c.P t (.slice e)] [hi : Inf c.P e size bytes] [hz : Zer c.P e zs] {k1 k2 : IntKind} {n cap : Nat} (hx : ev env x = some (.int k1 (n : Int)) := by rfl) (hy : ev env y = some (.int k2 (cap : Int)) := by rfl)
    (hle : n ≤ cap := by first | omega | (simp only [IntKind.bits] at *; omega)) (hbytes : bytes * cap ≤ 281474976710656 := by first | omega | (simp only [IntKind.bits] at *; omega)) (h63 : cap ≤ 9223372036854775807 := by first | omega | (simp only [IntKind.bits] at *; omega)) {xs : List Value} (hxs : ((madeCells zs.toArray (cap * size)).toList).take (n * size) = xs) (h : ∀ v', v' ≠ .slice none 0 0 → N (v') (.sl v' e size n xs :: B)) : OpX c ⟨some d, .makeSlice t x y, ty, pos, af, none⟩ env B N :=
  opx (X := { v' : Value // v' ≠ .slice none 0 0 }) (v := fun v' => v'.1) (B' := fun v' => .sl v'.1 e size n xs :: B) (fun a w st => by
    obtain ⟨i, hi1, hi2, hi3⟩ := hi.inf
    obtain ⟨i', z, hz1, hz2, hz3⟩ := hz.zer
    have hii : i' = i := by rw [hi1] at hz1; exact (Option.some.inj hz1).symm
    subst hii
    have hb' : (i'.bytes : Int) * (cap : Int) ≤ 281474976710656 := by
      have h : ((bytes * cap : Nat) : Int) ≤ 281474976710656 := by omega
      rw [hi3]; rwa [Int.natCast_mul] at h
    have hr := run_make (P := c.P) w t e i' z hu.und hi1 hz2 k1 k2 n cap (by omega) (by omega) hb' (by omega)
    simp only [Int.toNat_natCast] at hr
    have hlen : xs.length = n * size := by
      rw [← hxs, List.length_take, Array.length_toList, size_madeCells]
      have := Nat.mul_le_mul_right size hle
      omega
    refine ⟨⟨.slice (some ⟨w.heap.size, 0, none⟩) n cap, by simp⟩, _, by simp [execOp, st.ev hx, st.ev hy, hr]; rfl, LS.new st.has ⟨hlen, .inr ⟨w.heap.size, cap, _, rfl, Nat.zero_le _, heap_alloc_new w _, hle, by simp only [maxLen]; omega, ?_, ?_⟩⟩ ?_ sl_nodup rfl rfl rfl (by simp)
      (fun k hk => by show (w.heap.push _)[k]? = _; rw [Array.getElem?_push, if_neg (by omega)])⟩
    · rw [size_madeCells, hi2]
    · rw [hi2, hz3]; exact hxs
    · intro b hb; simp [Ent.keys, Value.ownBlock] at hb; omega) (fun v' => h v'.1 v'.2)

theorem made_zero (u : Value) (n : Nat) : (madeCells [u].toArray n).toList = List.replicate n u := by
  have := toList_madeCells_one u n
  exact this

/-- Empty, with room. -/
theorem e_make0 {t e size bytes : Nat} {zs : List Value} [hu : Und c.P t (.slice e)] [hi : Inf c.P e size bytes] [hz : Zer c.P e zs] {k1 k2 : IntKind} {cap : Nat} (hx : ev env x = some (.int k1 ((0 : Nat) : Int)) := by rfl) (hy : ev env y = some (.int k2 (cap : Int)) := by rfl)
    (hbytes : bytes * cap ≤ 281474976710656 := by first | omega | (simp only [IntKind.bits] at *; omega)) (h63 : cap ≤ 9223372036854775807 := by first | omega | (simp only [IntKind.bits] at *; omega)) (h : ∀ v', v' ≠ .slice none 0 0 → N (v') (.sl v' e size 0 [] :: B)) : OpX c ⟨some d, .makeSlice t x y, ty, pos, af, none⟩ env B N :=
  e_make (n := 0) hx hy (Nat.zero_le _) hbytes h63 (by simp) h

/-- All zero, of numbers. -/
theorem e_make1 {t e bytes : Nat} {u : Value} [hu : Und c.P t (.slice e)] [hi : Inf c.P e 1 bytes] [hz : Zer c.P e [u]] {k1 k2 : IntKind} {n : Nat} (hx : ev env x = some (.int k1 (n : Int)) := by rfl) (hy : ev env y = some (.int k2 (n : Int)) := by rfl)
    (hbytes : bytes * n ≤ 281474976710656 := by first | omega | (simp only [IntKind.bits] at *; omega)) (h63 : n ≤ 9223372036854775807 := by first | omega | (simp only [IntKind.bits] at *; omega)) (h : ∀ v', v' ≠ .slice none 0 0 → N (v') (.sl v' e 1 n (List.replicate n u) :: B)) : OpX c ⟨some d, .makeSlice t x y, ty, pos, af, none⟩ env B N :=
  e_make (n := n) hx hy (Nat.le_refl _) hbytes h63 (by rw [made_zero, Nat.mul_one]; exact List.take_of_length_le (by simp)) h

/-! ## A store into an element -/

theorem e_store_sl {t y' : Nat} {u : Value} {j : Nat} {T n : Nat} {s : Nat} {xs : List Value} {B' : Own} [Inf c.P t 1 y'] (hx : ev env x = some (slPtr u j) := by rfl) (hy : ev env y = some v := by rfl) (hv : v.oneCell' = true := by rfl) (hvc : v.cells = #[v] := by rfl) [hs : InSl u T s n xs B]
    (ho : j < xs.length := by first | omega | (simp; done) | (simp; omega) | (simp [*]; omega)) [hu : Up (.sl u T s n xs) (.sl u T s n (xs.set j v)) B B'] (h : N undef B') : OpX c ⟨none, .store t x y, ty, pos, af, none⟩ env B N :=
  opx0 (fun a w st => by
    have hi := ‹Inf c.P t 1 y'›.inf
    have hown : w.ownsRow 0 T s u n xs := st.has.ent _ hs.mem
    rcases hown.2 with ⟨rfl, rfl⟩ | ⟨g, cap, cur, rfl, h0, hg, hn, hm, hc, ht⟩
    · have h0 := hown.1; rw [h0] at ho; simp at ho
    · have hlx := hown.1
      have hle : n * s ≤ cap * s := Nat.mul_le_mul_right _ hn
      have hst := storeCells_run (P := c.P) (off := j) (vs := [v]) (cs := cur.toList) (by simpa using hg) (by simp [hc]; omega) (by simpa using hv)
      have hjc : j < cur.toList.length := by simp [hc]; omega
      have e : cur.toList.take j ++ [v] ++ cur.toList.drop (j + 1) = cur.toList.set j v := by rw [List.set_eq_take_append_cons_drop, if_pos hjc]; simp
      simp only [List.length_singleton] at hst
      rw [e] at hst
      refine ⟨_, by simp [execOp, st.ev hx, st.ev hy, slPtr, Addr.add_lit, Instr.storeAt, Instr.sureAddr, storeVar, run_inf hi, hvc, hst], LS.own hu.up st.has ⟨by simp [hlx], .inr ⟨g, cap, (cur.toList.set j v).toArray, rfl, h0, setRow_heap w g cur _ T _ hg, hn, hm, by simp [hc], ?_⟩⟩ ⟨rfl, rfl, rfl, by simp, fun k _ hk => setRow_other w g k _ (fun e => hk (by simp [Value.ownBlock, e]))⟩ (fun b hb => Or.inl hb)⟩
      rw [List.take_set, ht]) h

/-! ## Aggregates -/

/-- Of an array by value. -/
theorem p_index {t n e : Nat} {i : Nat} {k : IntKind} {cs : List Value} {y' : Nat} [hu : Und c.P t (.array n e)] [hi : Inf c.P e 1 y'] [hsc : Sca c.P e] (hx : ev env x = some (.agg cs.toArray) := by rfl) (hy : ev env y = some (.int k (i : Int)) := by rfl) (hlt : i < n := by first | omega | (simp only [IntKind.bits] at *; omega)) (hv : cs[i]? = some v) : OpE c ⟨some d, .index t x y, ty, pos, af, none⟩ env B (v) :=
  fun a w st => by
    simp [execOp, st.ev hx, st.ev hy, Instr.index, asIntOf, run_und, hlt, run_inf hi.inf, part, run_sca, hv]
theorem p_index_str {t : Nat} {i : Nat} {k : IntKind} {sb : ByteArray} {u : UInt8} [hu : Und c.P t .string] (hx : ev env x = some (.string sb) := by rfl) (hy : ev env y = some (.int k (i : Int)) := by rfl) (hv : sb[i]? = some u) : OpE c ⟨some d, .index t x y, ty, pos, af, none⟩ env B (.int .u8 (u.toNat : Int)) :=
  fun a w st => by
    simp [execOp, st.ev hx, st.ev hy, Instr.index, asIntOf, run_und, hv]
theorem p_fieldv_one {t i off ft : Nat} {cs : List Value} [hf : Fld c.P t i off ft] [hsc : Sca c.P ft] (hx : ev env x = some (.agg cs.toArray) := by rfl) (hv : cs[off]? = some v) : OpE c ⟨some d, .field t x i, ty, pos, af, none⟩ env B (v) :=
  fun a w st => by
    obtain ⟨fs, f, h1, h2, h3, h4⟩ := hf.fld
    subst h3 h4
    simp [execOp, st.ev hx, Instr.field, underlying, h1, h2, asAgg, part, run_sca, hv]
theorem p_fieldv_agg {t i off ft n y' : Nat} {cs ps : List Value} [hf : Fld c.P t i off ft] [hsc : Agg c.P ft] [hi : Inf c.P ft n y'] (hx : ev env x = some (.agg cs.toArray) := by rfl) (hp : (cs.drop off).take n = ps) : OpE c ⟨some d, .field t x i, ty, pos, af, none⟩ env B (.agg ps.toArray) :=
  fun a w st => by
    obtain ⟨fs, f, h1, h2, h3, h4⟩ := hf.fld
    subst h3 h4
    simp [execOp, st.ev hx, Instr.field, underlying, h1, h2, asAgg, part, run_agg, run_inf hi.inf]; exact hp

/-- A literal slice: its new row. -/
theorem e_build_sl {t e size bytes len : Nat} {zs : List Value} [hu : Und c.P t (.slice e)] [hi : Inf c.P e size bytes] [hz : Zer c.P e zs] {parts : Array (Nat × Operand)} {vs : List (Nat × Value)}
    (hp : ∀ a w, St c env B a w → (parts.map fun (i, x) => (i, a.eval x)) = vs.toArray) (hlen : len ≤ 1048576 := by first | omega | (simp only [IntKind.bits] at *; omega)) (hby : size ≤ 16 := by first | omega | (simp only [IntKind.bits] at *; omega)) {cells : List Value}
    (hf : Instr.fill (fun i => some (i * size, size)) (if len * size = 0 then #[] else (Array.range (len * size)).map (zs.toArray[· % zs.toArray.size]!)) vs = some cells.toArray) (hcl : cells.length = len * size) (h : ∀ v', v' ≠ .slice none 0 0 → N (v') (.sl v' e size len cells :: B)) : OpX c ⟨some d, .buildSlice t len parts, ty, pos, af, none⟩ env B N :=
  opx (X := { v' : Value // v' ≠ .slice none 0 0 }) (v := fun v' => v'.1) (B' := fun v' => .sl v'.1 e size len cells :: B) (fun a w st => by
    obtain ⟨i, hi1, hi2, hi3⟩ := hi.inf
    obtain ⟨z, hz1, hz2⟩ := run_zer (P := c.P) (t := e) w
    have hle : len * size ≤ 1048576 * 16 := Nat.mul_le_mul hlen hby
    have hnl : ¬ (len * size > 2 ^ 24) := by omega
    have hp' := hp a w st
    refine ⟨⟨.slice (some ⟨w.heap.size, 0, none⟩) len len, by simp⟩, w.alloc (.cells cells.toArray e), ?_, LS.new st.has ⟨hcl, .inr ⟨w.heap.size, len, cells.toArray, rfl, Nat.zero_le _, heap_alloc_new w _, Nat.le_refl _, by simp only [maxLen]; omega, by simpa using hcl, by rw [← hcl]; simp⟩⟩ ?_ sl_nodup rfl rfl rfl (by simp)
      (fun k hk => by show (w.heap.push _)[k]? = _; rw [Array.getElem?_push, if_neg (by omega)])⟩
    · by_cases h0 : len * size = 0
      · rw [if_pos h0] at hf
        simp only [execOp, Instr.buildSlice, hp']
        simp [run_und, run_inf hi.inf, h0, Array.range_zero', newRow, hf]
      · rw [if_neg h0] at hf
        simp only [execOp, Instr.buildSlice, hp']
        simp only [Sem.run_bind, run_und, run_inf hi.inf, Result.andThen_ok, if_neg hnl, if_neg h0, hz1, Sem.run_pure, hz2, hf]
        simp [newRow]
    · intro b hb; simp [Ent.keys, Value.ownBlock] at hb; omega) (fun v' => h v'.1 v'.2)

/-- A literal struct or array. -/
theorem p_build_arr {t n e size bytes : Nat} {zs : List Value} [hu : Und c.P t (.array n e)] [hi : Inf c.P e size bytes] [hz : Zer c.P t zs] {parts : Array (Nat × Operand)} {vs : List (Nat × Value)}
    (hp : ∀ a w, St c env B a w → (parts.map fun (i, x) => (i, a.eval x)) = vs.toArray) {cells : List Value}
    (hf : Instr.fill (fun i => some (i * size, size)) zs.toArray vs = some cells.toArray) : OpE c ⟨some d, .build t parts, ty, pos, af, none⟩ env B (.agg cells.toArray) :=
  fun a w st => by
    obtain ⟨z, hz1, hz2⟩ := run_zer (P := c.P) (t := t) w
    have hp' := hp a w st
    simp only [execOp, Instr.build, hp']
    simp [run_und, run_inf hi.inf, hz1, hz2, hf]

end ops
end Go.Tw
end

section
namespace Go.Tw

class Callee (P : Program) (f : FuncId) : Prop where
  call : ∀ (args : Array Value) (w : World), (callFunc f args).run P w = .ok (.enter f args) w

/-- All that a callee wants to read is there. -/
class RdAll (c : Cx) (B : Own) (R : List Fact) : Prop where
  rd : ∀ env a w, St c env B a w → ∀ f, f ∈ R → (f.holds w ∧ ∀ b, f.fp b → b < w.heap.size) ∧ ∀ b, f.fp b → b ∈ keys B ∨ (b < c.w0.heap.size ∧ b ∉ c.K)
instance RdAll.nil {c : Cx} {B : Own} : RdAll c B [] := ⟨fun _ _ _ _ f hf => by cases hf⟩

theorem SlR.holds {w : World} {v : Value} {s n : Nat} {xs : List Value} (h : SlR w v s n xs) (hs : 0 < s) : (rdF v s n xs).holds w ∧ ∀ b, (rdF v s n xs).fp b → b < w.heap.size := by
  obtain ⟨hl, ad, cap, rfl, hc, hr⟩ := h
  refine ⟨fun w' hw => ⟨hl, ad, cap, rfl, hc, ?_⟩, ?_⟩
  · by_cases hn : n = 0
    · exact Or.inl hn
    · rcases hr with h0 | ⟨b, off, rfl, hq⟩
      · exact absurd h0 hn
      · refine Or.inr ⟨b, off, rfl, fun j u hj => ?_⟩
        have := hq j u hj
        have hb := hw b ⟨hn, by simp [Value.ownBlock]⟩
        rw [World.cell?_of_block (w := w) (a := ⟨b, off + j, none⟩) hb]
        exact this
  · rintro b ⟨hn, hb⟩
    rcases hr with h0 | ⟨b', off, rfl, hq⟩
    · exact absurd h0 hn
    · simp only [Value.ownBlock, Option.some.injEq] at hb
      subst hb
      have hpos : 0 < xs.length := by rw [hl]; exact Nat.mul_pos (by omega) hs
      have := hq 0 xs[0] (by rw [List.getElem?_eq_getElem hpos])
      exact World.block_lt_of_cell? w _ this

instance RdAll.cons {c : Cx} {B : Own} {v : Value} {s n : Nat} {xs : List Value} {R : List Fact} [h1 : Rd c B v (s + 1) n xs] [h2 : RdAll c B R] : RdAll c B (rdF v (s + 1) n xs :: R) := ⟨fun env a w st f hf => by
  rcases List.mem_cons.1 hf with rfl | hf
  · exact ⟨(h1.rd _ _ _ st).holds (by omega), fun b hb => (h1.both _ _ _ st).2 hb.1 b hb.2⟩
  · exact h2.rd _ _ _ st f hf⟩

section ops
variable {c : Cx} {ops : Array Oper} {Q : Exit → Act → World → Prop} {rest : List Oper} {env : Env} {B : Own} {d ty : Nat} {pos : String} {af : Array Edge} {x y z : Operand} {v vx vy : Value} {N : Value → Own → Prop}

def evs (env : Env) : List Operand → Option (List Value)
  | [] => some []
  | x :: r => match ev env x, evs env r with
    | some v, some vs => some (v :: vs)
    | _, _ => none

theorem St.evs {a : Act} {w : World} (s : St c env B a w) : ∀ {xs : List Operand} {vs : List Value}, evs env xs = some vs → xs.map a.eval = vs
  | [], vs, h => by simp only [Tw.evs, Option.some.injEq] at h; exact h
  | x :: r, vs, h => by
    simp only [Tw.evs] at h
    split at h
    · next v vs' h1 h2 =>
      simp only [Option.some.injEq] at h
      subst h
      rw [List.map_cons, s.ev h1, s.evs h2]
    · cases h

theorem nodup_swap {l m r : List Nat} : (l ++ m ++ r).Nodup ↔ (m ++ (l ++ r)).Nodup := by
  rw [List.append_assoc]
  simp only [List.nodup_append, List.mem_append]
  constructor
  · rintro ⟨h1, ⟨h2, h3, h4⟩, h5⟩
    exact ⟨h2, ⟨h1, h3, fun a ha b hb => h5 a ha b (Or.inr hb)⟩, fun a ha b hb e => by
      rcases hb with hb | hb
      · exact h5 b hb a (Or.inl ha) e.symm
      · exact h4 a ha b hb e⟩
  · rintro ⟨h2, ⟨h1, h3, h4⟩, h5⟩
    exact ⟨h1, ⟨h2, h3, fun a ha b hb => h5 a ha b (Or.inr hb)⟩, fun a ha b hb e => by
      rcases hb with hb | hb
      · exact h5 b hb a (Or.inl ha) e.symm
      · exact h4 a ha b hb e⟩

/-- The blocks Bp are handed over, Br stay. -/
class Part (Bp B : Own) (Br : outParam Own) : Prop where
  perm : ∀ w, Has w B → Has w (Bp ++ Br)
  keys : ∀ k, k ∈ keys (Bp ++ Br) ↔ k ∈ Tw.keys B
instance Part.nil {B : Own} : Part [] B B := ⟨fun _ h => h, fun _ => Iff.rfl⟩
instance Part.cons {e : Ent} {Bp B B' Br : Own} [h1 : Rm e B B'] [h2 : Part Bp B' Br] : Part (e :: Bp) B Br := by
  obtain ⟨l, r, hB, hB'⟩ := h1.rm
  have hkk : ∀ k, k ∈ Tw.keys B ↔ k ∈ e.keys ∨ k ∈ Tw.keys B' := by
    intro k; rw [hB, hB', keys_app, keys_cons, keys_app]; simp only [List.mem_append]
    constructor
    · rintro (h | h | h) <;> simp [h]
    · rintro (h | h | h) <;> simp [h]
  refine ⟨fun w h => ?_, fun k => ?_⟩
  · have hnd := h.nd
    rw [hB, keys_app, keys_cons, ← List.append_assoc, nodup_swap, ← keys_app, ← hB'] at hnd
    have hr : Has w B' := ⟨fun x hx => h.ent x (by rw [hB]; rw [hB'] at hx; simp only [List.mem_append, List.mem_cons] at *; rcases hx with h | h <;> simp [h]), (List.nodup_append.1 hnd).2.1⟩
    have h3 := h2.perm w hr
    refine ⟨fun x hx => ?_, ?_⟩
    · rcases List.mem_cons.1 hx with rfl | hx
      · exact h.ent x (by rw [hB]; simp)
      · exact h3.ent x hx
    · rw [List.cons_append, keys_cons]
      refine List.nodup_append.2 ⟨(List.nodup_append.1 hnd).1, h3.nd, fun a ha b hb e => ?_⟩
      exact (List.nodup_append.1 hnd).2.2 a ha b ((h2.keys b).1 hb) e
  · rw [List.cons_append, keys_cons, List.mem_append, h2.keys, hkk]

theorem Part.cons' {e : Ent} {Bp B B' Br : Own} (h1 : Rm e B B') (h2 : Part Bp B' Br) : Part (e :: Bp) B Br := Part.cons
theorem Rm.tail' {e x : Ent} {B B' : Own} (h : Rm e B B') : Rm e (x :: B) (x :: B') := Rm.tail

/-- A call of a function by its contract. -/
theorem e_call {f : FuncId} {args : Array Operand} {tys : Array TypeId} {fo : Operand} {cap : Array Value} {vs : List Value} {Bp Br : Own} {Rp : List Fact} {Post : Value → Own → Prop}
    (hF : Fn c.P f (vs ++ cap.toList) Bp Rp Post) (hf : ev env fo = some (.func (.func f) #[] cap)) (hv : evs env args.toList = some vs := by rfl) [hc : Callee c.P f] [hp : Part Bp B Br] [hR : RdAll c Br Rp] (h : ∀ v B', Post v B' → N (v) (B' ++ Br)) : OpX c ⟨some d, .call ⟨.value fo, args, tys⟩, ty, pos, af, none⟩ env B N := by
  refine ⟨{ p : Value × Own // Post p.1 p.2 }, fun p => p.1.1, fun p => p.1.2 ++ Br, fun p => h _ _ p.2, fun a w st => ?_⟩
  have hargs : args.map a.eval = vs.toArray := by
    have := st.evs hv
    apply Array.toList_inj.1; simpa using this
  have hr : (execOp a.eval ⟨some d, .call ⟨.value fo, args, tys⟩, ty, pos, af, none⟩).run c.P w = .ok (.enter f (vs ++ cap.toList).toArray) w := by
    simp only [execOp, resolve, st.ev hf, hargs, Deferred.ofValue, Sem.run_bind, Sem.run_pure, Result.andThen_ok, invoke, Array.empty_append]
    rw [hc.call]
    simp
  have hh := hp.perm w st.has
  have hsub : Has w Bp := hh.sub (List.sublist_append_left _ _)
  have hbr : St c env Br a w := ⟨st.defers, st.size, st.env, hh.sub (List.sublist_append_right _ _), { st.step with own := fun k hk => st.step.own k ((hp.keys k).1 (by rw [keys_app]; exact List.mem_append_right _ hk)) }, st.reads⟩
  have hreads : Reads w (keys Bp) Rp := by
    refine ⟨fun f hf => (hR.rd _ _ _ hbr f hf).1.1, fun f hf b hb => ⟨(hR.rd _ _ _ hbr f hf).1.2 b hb, fun hbp => ?_⟩⟩
    rcases (hR.rd _ _ _ hbr f hf).2 b hb with h1 | ⟨h1, h2⟩
    · have := hh.nd; rw [keys_app] at this
      exact (List.nodup_append.1 this).2.2 b hbp b h1 rfl
    · rcases st.step.own b ((hp.keys b).1 (by rw [keys_app]; exact List.mem_append_left _ hbp)) with h3 | h3
      · exact h2 h3
      · omega
  refine Or.inr (Or.inr ⟨f, _, w, hr, (hF w hsub hreads).mono ?_⟩)
  rintro e w' ⟨v, B', rfl, hP, hB', hstep⟩
  refine ⟨v, rfl, ⟨(v, B'), hP⟩, rfl, ?_⟩
  have hold : ∀ k, k ∈ keys Br → k < w.heap.size := fun k hk => by
    obtain ⟨x, hx, hb⟩ := List.mem_flatMap.1 hk
    exact Ent.lt (hbr.has.ent x hx) hb
  have hdisj : ∀ k, k ∈ keys Br → k ∉ keys Bp := fun k hk hk' => by
    have := hh.nd; rw [keys_app] at this
    exact (List.nodup_append.1 this).2.2 k hk' k hk rfl
  refine ⟨⟨hstep.os, hstep.tape, hstep.output, hstep.size, fun k hk hn => hstep.same k hk (fun h' => hn ((hp.keys k).1 (by rw [keys_app]; exact List.mem_append_left _ h'))), ?_⟩, ?_, ?_⟩
  · intro k hk
    rw [keys_app, List.mem_append] at hk
    rcases hk with hk | hk
    · rcases hstep.own k hk with h1 | h1
      · exact Or.inl ((hp.keys k).1 (by rw [keys_app]; exact List.mem_append_left _ h1))
      · exact Or.inr h1
    · exact Or.inl ((hp.keys k).1 (by rw [keys_app]; exact List.mem_append_right _ hk))
  · intro x hx
    rcases List.mem_append.1 hx with hx | hx
    · exact hB'.ent x hx
    · exact Ent.holds_of (hbr.has.ent x hx) fun b hb => hstep.same b (hold b (mem_keys hx hb)) (hdisj b (mem_keys hx hb))
  · rw [keys_app]
    refine List.nodup_append.2 ⟨hB'.nd, hbr.has.nd, fun p hp' q hq e => ?_⟩
    subst e
    rcases hstep.own p hp' with h1 | h1
    · exact hdisj p hq h1
    · have := hold p hq; omega

/-- A function without memory of its own to tell: it gives v. -/
theorem e_callv {f : FuncId} {args : Array Operand} {tys : Array TypeId} {vs : List Value} {Rp : List Fact}
    (hF : Fn c.P f vs [] Rp (fun u B' => u = v ∧ B' = [])) (hv : evs env args.toList = some vs := by rfl) [hc : Callee c.P f] [hR : RdAll c B Rp] (h : N v B) : OpX c ⟨some d, .call ⟨.value (.func f), args, tys⟩, ty, pos, af, none⟩ env B N :=
  e_call (cap := #[]) (Bp := []) (by simpa using hF) rfl hv (fun u B' hP => by obtain ⟨hu, hB⟩ := hP; subst hu hB; exact h)

end ops

/-! ## Returns -/

section ret
variable {c : Cx} {fn : Func} {env : Env} {B : Own} {Bp : Own} {Post : Value → Own → Prop} {v : Value}

theorem Step.sub {K : List Nat} {w w' : World} {B B' : Own} (s : Step K w w' B) (h : List.Sublist B' B) : Step K w w' B' :=
  { s with own := fun k hk => s.own k ((keys_sub h).mem hk) }

theorem f_ret_of {e : Exit} (he : e = .ret ∨ e = .normal) {B' : Own} (hK : c.K = keys Bp) (hD : c.D = []) (hv : ∀ a w, St c env B a w → (results fn a.tmps).run c.P w = .ok v w) (hs : List.Sublist B' B) (hp : Post v B') :
    Fin c (Ret c.P fn c.w0 Bp Post) e env B := by
  intro a w st
  have : bodyPost c.P fn (fun e w' => ∃ v B', e = .returned v ∧ Post v B' ∧ Has w' B' ∧ Step (keys Bp) c.w0 w' B') .ret a w :=
    ⟨st.defers.trans hD, v, hv a w st, v, B', rfl, hp, st.has.sub hs, by rw [← hK]; exact st.step.sub hs⟩
  rcases he with rfl | rfl
  · exact this
  · exact this

/-- One result, in a temporary. -/
theorem f_ret1 {e : Exit} (he : e = .ret ∨ e = .normal) {t : Nat} {B' : Own} (hr : fn.results = #[.tmp t]) (hv : look env t = some v) (hK : c.K = keys Bp) (hD : c.D = []) (hs : List.Sublist B' B) (hp : Post v B') :
    Fin c (Ret c.P fn c.w0 Bp Post) e env B :=
  f_ret_of he hK hD (fun a w st => by rw [results_tmp hr]; have := st.eval hv; simp only [Act.eval] at this; rw [this]) hs hp
/-- None. -/
theorem f_ret0 {e : Exit} (he : e = .ret ∨ e = .normal) {B' : Own} (hr : fn.results = #[]) (hK : c.K = keys Bp) (hD : c.D = []) (hs : List.Sublist B' B) (hp : Post (.tuple #[]) B') :
    Fin c (Ret c.P fn c.w0 Bp Post) e env B :=
  f_ret_of he hK hD (fun a w st => by rw [results_none hr]) hs hp
/-- Two, in temporaries. -/
theorem f_ret2 {e : Exit} (he : e = .ret ∨ e = .normal) {t u : Nat} {v1 v2 : Value} {B' : Own} (hr : fn.results = #[.tmp t, .tmp u]) (hv : look env t = some v1) (hu : look env u = some v2) (hK : c.K = keys Bp) (hD : c.D = []) (hs : List.Sublist B' B) (hp : Post (.tuple #[v1, v2]) B') :
    Fin c (Ret c.P fn c.w0 Bp Post) e env B :=
  f_ret_of he hK hD (fun a w st => by
    rw [results_tmp2 hr]
    have h1 := st.eval hv; have h2 := st.eval hu
    simp only [Act.eval] at h1 h2; rw [h1, h2]) hs hp

/-- What a result variable in memory holds. -/
theorem run_cellvar {ty n y b : Nat} {cs : List Value} {T : TypeId} {fr : Nat × Nat} [Agg c.P ty] [Inf c.P ty n y] (hb : Ent.blk b (.cells cs.toArray T fr) ∈ B) (hl : cs.length = n) {a : Act} {w : World} (st : St c env B a w) :
    (loadVar ty ⟨b, 0, none⟩).run c.P w = .ok (.agg cs.toArray) w :=
  run_loadVar_agg (P := c.P) (t := ty) (w := w) (b := b) (off := 0) hl (fun j u hj => by rw [Nat.zero_add, cell_blk (st.has.ent _ hb)]; exact hj)

/-- One, in memory. -/
theorem f_retm {e : Exit} (he : e = .ret ∨ e = .normal) {t ty n y b : Nat} {cs : List Value} {T : TypeId} {fr : Nat × Nat} {B' : Own} [Agg c.P ty] [Inf c.P ty n y] (hr : fn.results = #[.cell t ty]) (hv : look env t = some (ptr b 0)) [hb : InB b (.cells cs.toArray T fr) B] (hl : cs.length = n)
    (hK : c.K = keys Bp) (hD : c.D = []) (hs : List.Sublist B' B) (hp : Post (.agg cs.toArray) B') : Fin c (Ret c.P fn c.w0 Bp Post) e env B :=
  f_ret_of he hK hD (fun a w st => by
    have := run_cellvar (ty := ty) hb.mem hl st
    simp [results, hr, st.env _ _ hv, asAddr, this]) hs hp
/-- Two, the first in memory. -/
theorem f_retmt {e : Exit} (he : e = .ret ∨ e = .normal) {t u ty n y b : Nat} {v2 : Value} {cs : List Value} {T : TypeId} {fr : Nat × Nat} {B' : Own} [Agg c.P ty] [Inf c.P ty n y] (hr : fn.results = #[.cell t ty, .tmp u]) (hv : look env t = some (ptr b 0)) (hu : look env u = some v2) [hb : InB b (.cells cs.toArray T fr) B] (hl : cs.length = n)
    (hK : c.K = keys Bp) (hD : c.D = []) (hs : List.Sublist B' B) (hp : Post (.tuple #[.agg cs.toArray, v2]) B') : Fin c (Ret c.P fn c.w0 Bp Post) e env B :=
  f_ret_of he hK hD (fun a w st => by
    have := run_cellvar (ty := ty) hb.mem hl st
    simp [results, hr, st.env _ _ hv, st.env _ _ hu, asAddr, this]) hs hp
/-- Two in memory. -/
theorem f_retmm {e : Exit} (he : e = .ret ∨ e = .normal) {t ty n y b t2 ty2 n2 y2 b2 : Nat} {cs cs2 : List Value} {T T2 : TypeId} {fr fr2 : Nat × Nat} {B' : Own} [Agg c.P ty] [Inf c.P ty n y] [Agg c.P ty2] [Inf c.P ty2 n2 y2] (hr : fn.results = #[.cell t ty, .cell t2 ty2])
    (hv : look env t = some (ptr b 0)) [hb : InB b (.cells cs.toArray T fr) B] (hl : cs.length = n) (hv2 : look env t2 = some (ptr b2 0)) [hb2 : InB b2 (.cells cs2.toArray T2 fr2) B] (hl2 : cs2.length = n2)
    (hK : c.K = keys Bp) (hD : c.D = []) (hs : List.Sublist B' B) (hp : Post (.tuple #[.agg cs.toArray, .agg cs2.toArray]) B') : Fin c (Ret c.P fn c.w0 Bp Post) e env B :=
  f_ret_of he hK hD (fun a w st => by
    have := run_cellvar (ty := ty) hb.mem hl st
    have h2 := run_cellvar (ty := ty2) hb2.mem hl2 st
    simp [results, hr, st.env _ _ hv, st.env _ _ hv2, asAddr, this, h2]) hs hp

end ret
end Go.Tw
end

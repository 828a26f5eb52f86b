/- A statement whose order is open: walked once, in one order; every other order comes to the same. -/
import Derived.Test.YtbfebdaghcogfaaDoorTwCore
import Derived.Orders
import Derived.Laws.MathBits
section
namespace Go.Tw

/-- What an operation of such a statement is: one that reckons (and may read memory), one that acts (on nothing that was there; on what this statement made; on more), a new variable. -/
inductive Cls where
  | flt (reads : Bool)
  | fln
  | eff (wr : Nat)
  | alc (t : TypeId) (zs : List Value)
  | mks (env : Env) (Bj : Own) (e n : Nat) (cells : List Value)

def putE (d : Option Nat) (v : Value) (env : Env) : Env := match d with | some d => (d, v) :: env | none => env

def EnvEq (e e' : Env) : Prop := ∀ t, look e t = look e' t

theorem look_cons (d : Nat) (v : Value) (e : Env) (t : Nat) : look ((d, v) :: e) t = if d = t then some v else look e t := by
  simp only [look]
  by_cases h : d = t
  · subst h; simp
  · rw [beq_ne h, if_neg h]; rfl

theorem EnvEq.cons {e e' : Env} (h : EnvEq e e') (d : Nat) (v : Value) : EnvEq ((d, v) :: e) ((d, v) :: e') := by
  intro t; rw [look_cons, look_cons, h t]
theorem EnvEq.putE {e e' : Env} (h : EnvEq e e') (d : Option Nat) (v : Value) : EnvEq (putE d v e) (putE d v e') := by
  cases d with
  | none => exact h
  | some d => exact h.cons d v
theorem EnvEq.swap {d d' : Nat} (hne : d ≠ d') (v v' : Value) (e : Env) : EnvEq ((d, v) :: (d', v') :: e) ((d', v') :: (d, v) :: e) := by
  intro t
  simp only [look_cons]
  by_cases h1 : d = t
  · rw [if_pos h1, if_neg (by omega), if_pos h1]
  · rw [if_neg h1, if_neg h1]
theorem EnvEq.swapP {d : Option Nat} {d' : Nat} (hne : ∀ x, d = some x → x ≠ d') (v v' : Value) (e : Env) : EnvEq (Tw.putE d v ((d', v') :: e)) ((d', v') :: Tw.putE d v e) := by
  cases d with
  | none => exact fun _ => rfl
  | some d => exact EnvEq.swap (hne d rfl) v v' e

theorem keys_perm {B B' : Own} (h : B.Perm B') : (keys B).Perm (keys B') := by
  unfold keys; exact List.Perm.flatMap_right _ h

theorem Has.perm {w : World} {B B' : Own} (h : Has w B) (hp : B'.Perm B) : Has w B' :=
  ⟨fun e he => h.ent e (hp.mem_iff.1 he), (keys_perm hp).nodup_iff.2 h.nd⟩

theorem St.equiv {c : Cx} {env env' : Env} {B B' : Own} {a : Act} {w : World} (s : St c env B a w) (he : EnvEq env' env) (hp : B'.Perm B) : St c env' B' a w where
  defers := s.defers
  size := s.size
  env := fun t v h => s.env t v (by rw [← he t]; exact h)
  has := s.has.perm hp
  step := { s.step with own := fun k hk => s.step.own k ((keys_perm hp).mem_iff.1 hk) }
  reads := s.reads

theorem St.subset {c : Cx} {env : Env} {B Bj : Own} {a : Act} {w : World} (s : St c env B a w) (hB : ∀ e, e ∈ Bj → e ∈ B) (hnd : (keys Bj).Nodup) : St c env Bj a w where
  defers := s.defers
  size := s.size
  env := s.env
  has := ⟨fun e he => s.has.ent e (hB e he), hnd⟩
  step := { s.step with own := fun k hk => (List.mem_flatMap.1 hk).elim fun e h => s.step.own k (mem_keys (hB e h.1) h.2) }
  reads := s.reads

theorem LS.perm {w w' : World} {B B1 B' B1' : Own} (h : LS w w' B B') (hp : B1.Perm B) (hp' : B1'.Perm B') : LS w w' B1 B1' where
  step := { h.step with
    same := fun k hk hn => h.step.same k hk (fun hm => hn ((keys_perm hp).mem_iff.2 hm))
    own := fun k hk => (h.step.own k ((keys_perm hp').mem_iff.1 hk)).imp (fun hm => (keys_perm hp).mem_iff.2 hm) id }
  has := h.has.perm hp'

theorem LS.frame {w w' : World} {B B' : Own} {e : Ent} (h : LS w w' B B') (hb : Has w (e :: B)) : LS w w' (e :: B) (e :: B') := by
  have hnd := hb.nd
  rw [keys_cons] at hnd
  obtain ⟨n1, n2, n3⟩ := List.nodup_append.1 hnd
  have he := hb.ent e List.mem_cons_self
  have hsame : ∀ b, b ∈ e.keys → w'.heap[b]? = w.heap[b]? := fun b hbk => h.step.same b (Ent.lt he hbk) (fun hm => n3 b hbk b hm rfl)
  refine ⟨{ h.step with
    same := fun k hk hn => h.step.same k hk (fun hm => hn (by rw [keys_cons]; exact List.mem_append_right _ hm))
    own := fun k hk => ?_ }, ?_, ?_⟩
  · rw [keys_cons, List.mem_append] at hk
    rcases hk with hk | hk
    · exact Or.inl (by rw [keys_cons]; exact List.mem_append_left _ hk)
    · exact (h.step.own k hk).imp (fun hm => by rw [keys_cons]; exact List.mem_append_right _ hm) id
  · intro x hx
    rcases List.mem_cons.1 hx with rfl | hx
    · exact Ent.holds_of he hsame
    · exact h.has.ent x hx
  · rw [keys_cons]
    refine List.nodup_append.2 ⟨n1, h.has.nd, fun p hp q hq e' => ?_⟩
    subst e'
    rcases h.step.own p hq with h1 | h1
    · exact n3 p hp p h1 rfl
    · have := Ent.lt he hp; omega

theorem look_mem : ∀ {env : Env} {t : Nat} {v : Value}, look env t = some v → (t, v) ∈ env
  | [], _, _, h => by simp [look] at h
  | (s, u) :: r, t, v, h => by
    rw [look_cons] at h
    split at h
    · next e => subst e; cases h; exact List.mem_cons_self
    · exact List.mem_cons_of_mem _ (look_mem h)

section
variable {c : Cx} {ops : Array Oper} {env : Env} {B : Own} {o : Oper}

def notSel (o : Oper) : Prop := ∀ cs b, o.op ≠ .select cs b

theorem St.put1 {a : Act} {w : World} (s : St c env B a w) {d : Nat} (hd : Nat.blt d c.n = true) (v : Value) : St c ((d, v) :: env) B (a.put (some d) v) w := s.put hd v (LS.refl s.has)

/-- Back to what was known ahead of a temporary that nobody looks at. -/
theorem St.back {a : Act} {w : World} {d : Nat} {v : Value} (s : St c ((d, v) :: env) B a w) (hd : Nat.blt d c.n = true) : ∃ u : Option Nat × Value, St c env B (a.put u.1 u.2) w ∧ (∀ x, u.1 = some x → x = d) := by
  have hd' : d < a.tmps.size := by rw [s.size]; exact Nat.le_of_ble_eq_true hd
  cases h : look env d with
  | none =>
    refine ⟨(none, undef), ⟨s.defers, s.size, fun t u ht => s.env t u ?_, s.has, s.step, s.reads⟩, fun x hx => by cases hx⟩
    rw [look_cons, if_neg]; exact ht
    intro e; subst e; rw [h] at ht; cases ht
  | some old =>
    refine ⟨(some d, old), ⟨s.defers, by simp only [Act.put, Array.size_setIfInBounds]; exact s.size, fun t u ht => ?_, s.has, s.step, s.reads⟩, fun x hx => (Option.some.inj hx).symm⟩
    by_cases hdt : d = t
    · subst hdt
      rw [h] at ht
      simp [Act.put, hd', Option.some.inj ht]
    · simp only [Act.put]
      rw [Array.getElem?_setIfInBounds_ne hdt]
      exact s.env t u (by rw [look_cons, if_neg hdt]; exact ht)

theorem OpV.drop {d : Nat} {u v : Value} (h : OpV c ops o ((d, u) :: env) B v) (hd : Nat.blt d c.n = true) (hs : notSel o) (hl : d ∉ o.looksAt ops) : OpV c ops o env B v := by
  intro a w s
  have := h _ w (s.put1 hd u)
  rw [execOp_put o hs a (some d) u (fun x hx => by cases hx; exact hl), wanted_put o a (some d) u (fun x hx => by cases hx; exact hl)] at this
  exact this
theorem OpV.add {d : Nat} {u v : Value} (h : OpV c ops o env B v) (hd : Nat.blt d c.n = true) (hs : notSel o) (hl : d ∉ o.looksAt ops) : OpV c ops o ((d, u) :: env) B v := by
  intro a w s
  obtain ⟨x, hx, hx2⟩ := s.back hd
  have := h _ w hx
  rw [execOp_put o hs a x.1 x.2 (fun y hy => by rw [hx2 y hy]; exact hl), wanted_put o a x.1 x.2 (fun y hy => by rw [hx2 y hy]; exact hl)] at this
  exact this
theorem OpV.addP {d : Option Nat} {u v : Value} (h : OpV c ops o env B v) (hd : ∀ x, d = some x → Nat.blt x c.n = true) (hs : notSel o) (hl : ∀ x, d = some x → x ∉ o.looksAt ops) : OpV c ops o (putE d u env) B v := by
  cases d with
  | none => exact h
  | some d => exact h.add (hd d rfl) hs (hl d rfl)
theorem OpV.equiv {env' : Env} {v : Value} (h : OpV c ops o env B v) (he : EnvEq env env') : OpV c ops o env' B v :=
  fun a w s => h a w (s.equiv he (.refl _))

theorem Does.put {a : Act} {d : Option Nat} {u : Value} {w : World} {R : Value → World → Prop} (hs : notSel o) (hl : ∀ x, d = some x → x ∉ o.looksAt ops) : Does c o (a.put d u).eval w R ↔ Does c o a.eval w R := by
  unfold Does
  rw [execOp_put (ops := ops) o hs a d u hl]
theorem Does.mono {ρ : Operand → Value} {w : World} {R R' : Value → World → Prop} (h : Does c o ρ w R) (hr : ∀ u w', R u w' → R' u w') : Does c o ρ w R' := by
  rcases h with ⟨v, w', h1, h2⟩ | ⟨w', h1, h2⟩ | ⟨f, args, w', h1, h2⟩
  · exact Or.inl ⟨v, w', h1, hr _ _ h2⟩
  · exact Or.inr (Or.inl ⟨w', h1, hr _ _ h2⟩)
  · exact Or.inr (Or.inr ⟨f, args, w', h1, h2.mono fun e w'' ⟨v, he, hv⟩ => ⟨v, he, hr _ _ hv⟩⟩)
end

/-- A new row is made, of what is known of some temporaries and of some of what is owned. -/
def MkDoes (c : Cx) (o : Oper) (env1 : Env) (Bj : Own) (e n : Nat) (cells : List Value) : Prop :=
  ∀ a w, St c env1 Bj a w → Does c o a.eval w (fun u w' => ∃ g cap rest, u = .slice (some ⟨g, 0, none⟩) n cap ∧ n ≤ cap ∧ (cells ++ rest).length = cap ∧ w.heap.size ≤ g ∧ LS w w' Bj (.blk g (.cells (cells ++ rest).toArray e (0, 0)) :: Bj))
/-- What such an operation looks at. -/
structure MkAt (c : Cx) (ops : Array Oper) (B0 : Own) (o : Oper) (env1 : Env) (Bj : Own) (env : Env) (B : Own) : Prop where
  le : ∀ t v, look env1 t = some v → look env t = some v
  ks : ∀ t v, look env1 t = some v → t ∈ o.looksAt ops
  inB : ∀ e, e ∈ Bj → e ∈ B
  inB0 : ∀ e, e ∈ Bj → e ∈ B0
  nd : (keys Bj).Nodup
/-- What is asked of an act by its number: 3 and 4 make new rows and touch none that was there at the begin (4: a call that is handed none), 5 writes into what was there. -/
structure EffC (B0 : Own) (wr : Nat) (X : Type) (M : Own) (M' : X → Own) : Prop where
  c3 : wr = 3 ∨ wr = 4 → Nonempty X ∧ (∀ e, e ∈ M → e ∉ B0) ∧ ∀ x e, e ∈ M' x → e ∉ B0
  c4 : wr = 4 → M = []
  c5 : wr = 5 → ∀ e, e ∈ M → ∃ k, k ∈ e.keys ∧ k ∈ keys B0
/-- A walk in one order. -/
inductive Dr (c : Cx) (ops : Array Oper) (Q : Exit → Act → World → Prop) (B0 : Own) (cls : Nat → Cls) : List Nat → Env → Own → Prop
  | nil {env : Env} {B : Own} (h : Fin c Q .normal env B) : Dr c ops Q B0 cls [] env B
  | flt {i : Nat} {s : List Nat} {env : Env} {B : Own} {o : Oper} {d : Nat} {v : Value} {rd : Bool} (Bj : Own) (hc : cls i = .flt rd) (ho : ops[i]? = some o) (hd : o.dst = some d) (hlt : Nat.blt d c.n = true)
      (hB : ∀ e, e ∈ Bj → e ∈ B) (hB0 : ∀ e, e ∈ Bj → e ∈ B0) (hnd : (keys Bj).Nodup) (hrd : rd = false → Bj = []) (hp : OpV c ops o env Bj v)
      (hn : Dr c ops Q B0 cls s ((d, v) :: env) B) : Dr c ops Q B0 cls (i :: s) env B
  | fln {i : Nat} {s : List Nat} {env : Env} {B : Own} {o : Oper} {d : Nat} {v : Value} (Bj : Own) (hc : cls i = .fln) (ho : ops[i]? = some o) (hd : o.dst = some d) (hlt : Nat.blt d c.n = true)
      (hB : ∀ e, e ∈ Bj → e ∈ B) (hk : ∀ k, k ∈ keys Bj → k ∉ keys B0) (hnd : (keys Bj).Nodup) (hp : OpV c ops o env Bj v)
      (hn : Dr c ops Q B0 cls s ((d, v) :: env) B) : Dr c ops Q B0 cls (i :: s) env B
  | alc {i : Nat} {s : List Nat} {env : Env} {B : Own} {o : Oper} {d t : Nat} {zs : List Value} (hc : cls i = .alc t zs) (ho : ops[i]? = some o) (hop : o.op = .alloc t) (hg : o.guard = none) (hd : o.dst = some d) (hlt : Nat.blt d c.n = true)
      (hn : ∀ b, b ∉ keys B0 → Dr c ops Q B0 cls s ((d, ptr b 0) :: env) (.blk b (.cells zs.toArray t (0, 0)) :: B)) : Dr c ops Q B0 cls (i :: s) env B
  | mks {i : Nat} {s : List Nat} {env : Env} {B : Own} {o : Oper} {d e n : Nat} {cells : List Value} {env1 : Env} {Bj : Own} (hc : cls i = .mks env1 Bj e n cells) (ho : ops[i]? = some o) (hg : o.guard = none) (hd : o.dst = some d) (hlt : Nat.blt d c.n = true)
      (hat : MkAt c ops B0 o env1 Bj env B) (hx : MkDoes c o env1 Bj e n cells)
      (hn : ∀ g cap rest, g ∉ keys B0 → n ≤ cap → (cells ++ rest).length = cap → Dr c ops Q B0 cls s ((d, .slice (some ⟨g, 0, none⟩) n cap) :: env) (.blk g (.cells (cells ++ rest).toArray e (0, 0)) :: B)) : Dr c ops Q B0 cls (i :: s) env B
  | eff {i : Nat} {s : List Nat} {env : Env} {B : Own} {o : Oper} {wr : Nat} (M R : Own) {X : Type} (v : X → Value) (B' M' : X → Own) (hc : cls i = .eff wr) (ho : ops[i]? = some o) (hlt : ∀ d, o.dst = some d → Nat.blt d c.n = true) (h3 : EffC B0 wr X M M')
      (hperm : B.Perm (M ++ R)) (hperm' : ∀ x, (B' x).Perm (M' x ++ R)) (h0 : wr = 0 → M = []) (h1 : wr = 1 → ∀ e, e ∈ M → e ∉ B0)
      (hw : ∀ a w, St c env B a w → Region.wanted o (yielded ops a.tmps) = true)
      (hx : ∀ a w, St c env B a w → (∀ k, k ∈ keys B0 → k < w.heap.size) → Does c o a.eval w (fun u w' => ∃ x, u = v x ∧ LS w w' B (B' x)))
      (hn : ∀ x, Dr c ops Q B0 cls s (putE o.dst (v x) env) (B' x)) : Dr c ops Q B0 cls (i :: s) env B

section
variable {c : Cx} {ops : Array Oper} {Q : Exit → Act → World → Prop} {B0 : Own} {cls : Nat → Cls}

theorem Dr.equiv {s : List Nat} {env : Env} {B : Own} (h : Dr c ops Q B0 cls s env B) : ∀ {env' : Env} {B1 : Own}, EnvEq env env' → B1.Perm B → Dr c ops Q B0 cls s env' B1 := by
  induction h with
  | nil h => exact fun he hp => .nil fun a w s => h a w (s.equiv he hp.symm)
  | flt Bj hc ho hd hlt hB hB0 hnd hrd hp hn ih =>
    exact fun he hpm => .flt Bj hc ho hd hlt (fun e h => hpm.mem_iff.2 (hB e h)) hB0 hnd hrd (hp.equiv he) (ih (he.cons _ _) hpm)
  | fln Bj hc ho hd hlt hB hk hnd hp hn ih =>
    exact fun he hpm => .fln Bj hc ho hd hlt (fun e h => hpm.mem_iff.2 (hB e h)) hk hnd (hp.equiv he) (ih (he.cons _ _) hpm)
  | alc hc ho hop hg hd hlt hn ih =>
    exact fun he hpm => .alc hc ho hop hg hd hlt (fun b hb => ih b hb (he.cons _ _) (hpm.cons _))
  | mks hc ho hg hd hlt hat hx hn ih =>
    exact fun he hpm => .mks hc ho hg hd hlt ⟨fun t v h => by rw [← he t]; exact hat.le t v h, hat.ks, fun e h => hpm.mem_iff.2 (hat.inB e h), hat.inB0, hat.nd⟩ hx (fun g cap rest h1 h2 h3 => ih g cap rest h1 h2 h3 (he.cons _ _) (hpm.cons _))
  | eff M R v B' M' hc ho hlt h3 hperm hperm' h0 h1 hw hx hn ih =>
    exact fun he hpm => .eff M R v B' M' hc ho hlt h3 (hpm.trans hperm) hperm' h0 h1 (fun a w s => hw a w (s.equiv he hpm.symm))
      (fun a w s hz => (hx a w (s.equiv he hpm.symm) hz).mono fun u w' ⟨x, hu, hl⟩ => ⟨x, hu, hl.perm hpm (.refl _)⟩)
      (fun x => ih x (he.putE _ _) (.refl _))

theorem Dr.tail {s s' : List Nat} (hs : ∀ env B, Dr c ops Q B0 cls s env B → Dr c ops Q B0 cls s' env B) {j : Nat} {env : Env} {B : Own} (h : Dr c ops Q B0 cls (j :: s) env B) : Dr c ops Q B0 cls (j :: s') env B := by
  cases h with
  | flt Bj hc ho hd hlt hB hB0 hnd hrd hp hn => exact .flt Bj hc ho hd hlt hB hB0 hnd hrd hp (hs _ _ hn)
  | fln Bj hc ho hd hlt hB hk hnd hp hn => exact .fln Bj hc ho hd hlt hB hk hnd hp (hs _ _ hn)
  | alc hc ho hop hg hd hlt hn => exact .alc hc ho hop hg hd hlt (fun b hb => hs _ _ (hn b hb))
  | mks hc ho hg hd hlt hat hx hn => exact .mks hc ho hg hd hlt hat hx (fun g cap rest h1 h2 h3 => hs _ _ (hn g cap rest h1 h2 h3))
  | eff M R v B' M' hc ho hlt h3 hperm hperm' h0 h1 hw hx hn => exact .eff M R v B' M' hc ho hlt h3 hperm hperm' h0 h1 hw hx (fun x => hs _ _ (hn x))

theorem Dr.swapF {j i : Nat} {s : List Nat} {env : Env} {B : Own} {oj oi : Oper} {rd : Bool} (hcj : cls j = .flt rd) (hoj : ops[j]? = some oj) (hoi : ops[i]? = some oi) (hap : oj.apart ops oi = true) (hsj : notSel oj) (hsi : notSel oi)
    (hpass : ∀ wr, cls i = .eff wr → rd = true → wr < 2 ∨ wr = 3 ∨ wr = 4) (h : Dr c ops Q B0 cls (j :: i :: s) env B) : Dr c ops Q B0 cls (i :: j :: s) env B := by
  obtain ⟨a1, a2, a3⟩ := Oper.apart_spec hap
  cases h with
  | alc hc => rw [hcj] at hc; cases hc
  | fln Bj hc => rw [hcj] at hc; cases hc
  | mks hc => rw [hcj] at hc; cases hc
  | eff M R v B' M' hc => rw [hcj] at hc; cases hc
  | @flt _ _ _ _ oj' dj vj rd' Bj hc ho hd hlt hB hB0 hnd hrd hp hn =>
    obtain rfl : oj' = oj := by rw [hoj] at ho; exact (Option.some.inj ho).symm
    obtain rfl : rd' = rd := by rw [hcj] at hc; cases hc; rfl
    have b1 := a1 dj hd
    have b2 := a2 dj hd
    cases hn with
    | @flt _ _ _ _ oi' di vi rdi Bi hci hoi' hdi hlti hBi hBi0 hndi hrdi hpi hni =>
      obtain rfl : oi' = oi := by rw [hoi] at hoi'; exact (Option.some.inj hoi').symm
      have hne : di ≠ dj := fun e => b2 (by rw [hdi, e])
      exact .flt Bi hci hoi hdi hlti hBi hBi0 hndi hrdi (hpi.drop hlt hsi b1) (.flt Bj hcj hoj hd hlt hB hB0 hnd hrd (hp.add hlti hsj (a3 di hdi)) (hni.equiv (EnvEq.swap hne _ _ _) (.refl _)))
    | @fln _ _ _ _ oi' di vi Bi hci hoi' hdi hlti hBi hki hndi hpi hni =>
      obtain rfl : oi' = oi := by rw [hoi] at hoi'; exact (Option.some.inj hoi').symm
      have hne : di ≠ dj := fun e => b2 (by rw [hdi, e])
      exact .fln Bi hci hoi hdi hlti hBi hki hndi (hpi.drop hlt hsi b1) (.flt Bj hcj hoj hd hlt hB hB0 hnd hrd (hp.add hlti hsj (a3 di hdi)) (hni.equiv (EnvEq.swap hne _ _ _) (.refl _)))
    | @alc _ _ _ _ oi' di t zs hci hoi' hop hg hdi hlti hni =>
      obtain rfl : oi' = oi := by rw [hoi] at hoi'; exact (Option.some.inj hoi').symm
      have hne : di ≠ dj := fun e => b2 (by rw [hdi, e])
      exact .alc hci hoi hop hg hdi hlti (fun b hb => .flt Bj hcj hoj hd hlt (fun e he => List.mem_cons_of_mem _ (hB e he)) hB0 hnd hrd (hp.add hlti hsj (a3 di hdi)) ((hni b hb).equiv (EnvEq.swap hne _ _ _) (.refl _)))
    | @mks _ _ _ _ oi' di e n cells env1 Bi hci hoi' hg hdi hlti hat hx hni =>
      obtain rfl : oi' = oi := by rw [hoi] at hoi'; exact (Option.some.inj hoi').symm
      have hne : di ≠ dj := fun e => b2 (by rw [hdi, e])
      have hat' : MkAt c ops B0 oi' env1 Bi env B := ⟨fun t v h => by
        have h2 := hat.le t v h
        rw [look_cons, if_neg (fun e => b1 (by rw [e]; exact hat.ks t v h))] at h2
        exact h2, hat.ks, hat.inB, hat.inB0, hat.nd⟩
      exact .mks hci hoi hg hdi hlti hat' hx (fun g cap rest h1 h2 h3 => .flt Bj hcj hoj hd hlt (fun e he => List.mem_cons_of_mem _ (hB e he)) hB0 hnd hrd (hp.add hlti hsj (a3 di hdi)) ((hni g cap rest h1 h2 h3).equiv (EnvEq.swap hne _ _ _) (.refl _)))
    | @eff _ _ _ _ oi' wr M R X v B' M' hci hoi' hlti h3 hperm hperm' h0 h1 hw hx hni =>
      obtain rfl : oi' = oi := by rw [hoi] at hoi'; exact (Option.some.inj hoi').symm
      have hin : ∀ e, e ∈ Bj → e ∈ R := by
        intro e he
        have hm := hperm.mem_iff.1 (hB e he)
        rcases List.mem_append.1 hm with hm | hm
        · exfalso
          by_cases hw0 : wr = 0
          · rw [h0 hw0] at hm; cases hm
          · by_cases hw1 : wr = 1
            · exact h1 hw1 e hm (hB0 e he)
            · cases hr : rd' with
              | false => rw [hrd hr] at he; cases he
              | true =>
                rcases hpass wr hci hr with h | h
                · omega
                · exact (h3.c3 h).2.1 e hm (hB0 e he)
        · exact hm
      refine .eff M R v B' M' hci hoi hlti h3 hperm hperm' h0 h1 ?_ ?_ ?_
      · intro a w st
        have := hw _ w (st.put1 hlt vj)
        rwa [wanted_put oi' a (some dj) vj (fun x hx => by cases hx; exact b1)] at this
      · intro a w st hz
        exact (Does.put (ops := ops) hsi (fun x hx => by cases hx; exact b1)).1 (hx _ w (st.put1 hlt vj) hz)
      · intro x
        refine .flt Bj hcj hoj hd hlt (fun e he => (hperm' x).mem_iff.2 (List.mem_append_right _ (hin e he))) hB0 hnd hrd (hp.addP hlti hsj a3) ((hni x).equiv (EnvEq.swapP (fun y hy e => b2 (by rw [hy, e])) _ _ _) (.refl _))

/-- Likewise one that reads what the statement has made. -/
theorem Dr.swapN {j i : Nat} {s : List Nat} {env : Env} {B : Own} {oj oi : Oper} (hcj : cls j = .fln) (hoj : ops[j]? = some oj) (hoi : ops[i]? = some oi) (hap : oj.apart ops oi = true) (hsj : notSel oj) (hsi : notSel oi)
    (hpass : ∀ wr, cls i = .eff wr → wr = 0 ∨ wr = 4 ∨ wr = 5) (h : Dr c ops Q B0 cls (j :: i :: s) env B) : Dr c ops Q B0 cls (i :: j :: s) env B := by
  obtain ⟨a1, a2, a3⟩ := Oper.apart_spec hap
  cases h with
  | alc hc => rw [hcj] at hc; cases hc
  | flt Bj hc => rw [hcj] at hc; cases hc
  | mks hc => rw [hcj] at hc; cases hc
  | eff M R v B' M' hc => rw [hcj] at hc; cases hc
  | @fln _ _ _ _ oj' dj vj Bj hc ho hd hlt hB hk hnd hp hn =>
    obtain rfl : oj' = oj := by rw [hoj] at ho; exact (Option.some.inj ho).symm
    have b1 := a1 dj hd
    have b2 := a2 dj hd
    cases hn with
    | @flt _ _ _ _ oi' di vi rdi Bi hci hoi' hdi hlti hBi hBi0 hndi hrdi hpi hni =>
      obtain rfl : oi' = oi := by rw [hoi] at hoi'; exact (Option.some.inj hoi').symm
      have hne : di ≠ dj := fun e => b2 (by rw [hdi, e])
      exact .flt Bi hci hoi hdi hlti hBi hBi0 hndi hrdi (hpi.drop hlt hsi b1) (.fln Bj hcj hoj hd hlt hB hk hnd (hp.add hlti hsj (a3 di hdi)) (hni.equiv (EnvEq.swap hne _ _ _) (.refl _)))
    | @fln _ _ _ _ oi' di vi Bi hci hoi' hdi hlti hBi hki hndi hpi hni =>
      obtain rfl : oi' = oi := by rw [hoi] at hoi'; exact (Option.some.inj hoi').symm
      have hne : di ≠ dj := fun e => b2 (by rw [hdi, e])
      exact .fln Bi hci hoi hdi hlti hBi hki hndi (hpi.drop hlt hsi b1) (.fln Bj hcj hoj hd hlt hB hk hnd (hp.add hlti hsj (a3 di hdi)) (hni.equiv (EnvEq.swap hne _ _ _) (.refl _)))
    | @alc _ _ _ _ oi' di t zs hci hoi' hop hg hdi hlti hni =>
      obtain rfl : oi' = oi := by rw [hoi] at hoi'; exact (Option.some.inj hoi').symm
      have hne : di ≠ dj := fun e => b2 (by rw [hdi, e])
      exact .alc hci hoi hop hg hdi hlti (fun b hb => .fln Bj hcj hoj hd hlt (fun e he => List.mem_cons_of_mem _ (hB e he)) hk hnd (hp.add hlti hsj (a3 di hdi)) ((hni b hb).equiv (EnvEq.swap hne _ _ _) (.refl _)))
    | @mks _ _ _ _ oi' di e n cells env1 Bi hci hoi' hg hdi hlti hat hx hni =>
      obtain rfl : oi' = oi := by rw [hoi] at hoi'; exact (Option.some.inj hoi').symm
      have hne : di ≠ dj := fun e => b2 (by rw [hdi, e])
      have hat' : MkAt c ops B0 oi' env1 Bi env B := ⟨fun t v h => by
        have h2 := hat.le t v h
        rw [look_cons, if_neg (fun e => b1 (by rw [e]; exact hat.ks t v h))] at h2
        exact h2, hat.ks, hat.inB, hat.inB0, hat.nd⟩
      exact .mks hci hoi hg hdi hlti hat' hx (fun g cap rest h1 h2 h3 => .fln Bj hcj hoj hd hlt (fun e he => List.mem_cons_of_mem _ (hB e he)) hk hnd (hp.add hlti hsj (a3 di hdi)) ((hni g cap rest h1 h2 h3).equiv (EnvEq.swap hne _ _ _) (.refl _)))
    | @eff _ _ _ _ oi' wr M R X v B' M' hci hoi' hlti h3 hperm hperm' h0 h1 hw hx hni =>
      obtain rfl : oi' = oi := by rw [hoi] at hoi'; exact (Option.some.inj hoi').symm
      have hin : ∀ e, e ∈ Bj → e ∈ R := by
        intro e he
        have hm := hperm.mem_iff.1 (hB e he)
        rcases List.mem_append.1 hm with hm | hm
        · exfalso
          rcases hpass wr hci with hw | hw | hw
          · rw [h0 hw] at hm; cases hm
          · rw [h3.c4 hw] at hm; cases hm
          · obtain ⟨k, k1, k2⟩ := h3.c5 hw e hm
            exact hk k (mem_keys he k1) k2
        · exact hm
      refine .eff M R v B' M' hci hoi hlti h3 hperm hperm' h0 h1 ?_ ?_ ?_
      · intro a w st
        have := hw _ w (st.put1 hlt vj)
        rwa [wanted_put oi' a (some dj) vj (fun x hx => by cases hx; exact b1)] at this
      · intro a w st hz
        exact (Does.put (ops := ops) hsi (fun x hx => by cases hx; exact b1)).1 (hx _ w (st.put1 hlt vj) hz)
      · intro x
        refine .fln Bj hcj hoj hd hlt (fun e he => (hperm' x).mem_iff.2 (List.mem_append_right _ (hin e he))) hk hnd (hp.addP hlti hsj a3) ((hni x).equiv (EnvEq.swapP (fun y hy e => b2 (by rw [hy, e])) _ _ _) (.refl _))

theorem Dr.swapA {j i : Nat} {s : List Nat} {env : Env} {B : Own} {oj oi : Oper} {t : Nat} {zs : List Value} (hci : cls i = .alc t zs) (hcj : ∀ rd, cls j ≠ .flt rd) (hcn : cls j ≠ .fln) (hoj : ops[j]? = some oj) (hoi : ops[i]? = some oi) (hap : oj.apart ops oi = true) (hsj : notSel oj)
    (hal : oi.op = .alloc t ∧ oi.guard = none ∧ ∃ d, oi.dst = some d ∧ Nat.blt d c.n = true)
    (h : Dr c ops Q B0 cls (j :: i :: s) env B) : Dr c ops Q B0 cls (i :: j :: s) env B := by
  obtain ⟨a1, a2, a3⟩ := Oper.apart_spec hap
  obtain ⟨hop, hg, di, hdi, hlti⟩ := hal
  -- behind any walk of i comes what comes behind its variable
  have inv : ∀ env' B', Dr c ops Q B0 cls (i :: s) env' B' → ∀ b, b ∉ keys B0 → Dr c ops Q B0 cls s ((di, ptr b 0) :: env') (.blk b (.cells zs.toArray t (0, 0)) :: B') := by
    intro env' B' h b hb
    cases h with
    | flt Bj hc => rw [hci] at hc; cases hc
    | fln Bj hc => rw [hci] at hc; cases hc
    | mks hc => rw [hci] at hc; cases hc
    | eff M R v B' M' hc => rw [hci] at hc; cases hc
    | @alc _ _ _ _ oi' di' t' zs' hc ho' hop' hg' hd' hlt' hn =>
      rw [hci] at hc; cases hc
      obtain rfl : oi' = oi := by rw [hoi] at ho'; exact (Option.some.inj ho').symm
      obtain rfl : di' = di := by rw [hdi] at hd'; exact (Option.some.inj hd').symm
      exact hn b hb
  cases h with
  | @flt _ _ _ _ _ _ _ rd Bj hc => exact absurd hc (hcj rd)
  | fln Bj hc => exact absurd hc hcn
  | @alc _ _ _ _ oj' dj tj zj hc ho hopj hgj hdj hltj hn =>
    obtain rfl : oj' = oj := by rw [hoj] at ho; exact (Option.some.inj ho).symm
    have hne : di ≠ dj := fun e => a2 dj hdj (by rw [hdi, e])
    refine .alc hci hoi hop hg hdi hlti (fun b hb => .alc hc hoj hopj hgj hdj hltj (fun b2 hb2 => ?_))
    exact (inv _ _ (hn b2 hb2) b hb).equiv (EnvEq.swap hne _ _ _) (List.Perm.swap _ _ _)
  | @mks _ _ _ _ oj' dj e n cells env1 Bj hc ho hgj hdj hltj hat hx hn =>
    obtain rfl : oj' = oj := by rw [hoj] at ho; exact (Option.some.inj ho).symm
    have hne : di ≠ dj := fun e => a2 dj hdj (by rw [hdi, e])
    have hat' : ∀ b, MkAt c ops B0 oj' env1 Bj ((di, ptr b 0) :: env) (.blk b (.cells zs.toArray t (0, 0)) :: B) := fun b => ⟨fun t v h => by
      rw [look_cons, if_neg (fun e => a3 di hdi (by rw [e]; exact hat.ks t v h))]; exact hat.le t v h, hat.ks, fun e h => List.mem_cons_of_mem _ (hat.inB e h), hat.inB0, hat.nd⟩
    refine .alc hci hoi hop hg hdi hlti (fun b hb => .mks hc hoj hgj hdj hltj (hat' b) hx (fun g cap rest h1 h2 h3 => ?_))
    exact (inv _ _ (hn g cap rest h1 h2 h3) b hb).equiv (EnvEq.swap hne _ _ _) (List.Perm.swap _ _ _)
  | @eff _ _ _ _ oj' wr M R X v B' M' hc ho hltj h3 hperm hperm' h0 h1 hw hx hn =>
    obtain rfl : oj' = oj := by rw [hoj] at ho; exact (Option.some.inj ho).symm
    have hl3 : di ∉ oj'.looksAt ops := a3 di hdi
    refine .alc hci hoi hop hg hdi hlti (fun b hb => ?_)
    have hb' : ∀ (a : Act) (w : World), St c ((di, ptr b 0) :: env) (.blk b (.cells zs.toArray t (0, 0)) :: B) a w → ∃ u : Option Nat × Value, St c env B (a.put u.1 u.2) w ∧ (∀ x, u.1 = some x → x = di) := by
      intro a w st
      obtain ⟨u, hu, hu2⟩ := st.back hlti
      exact ⟨u, hu.subset (fun e he => List.mem_cons_of_mem _ he) (List.Nodup.sublist (keys_sub (List.sublist_cons_self _ _)) hu.has.nd), hu2⟩
    refine .eff M (.blk b (.cells zs.toArray t (0, 0)) :: R) v (fun x => .blk b (.cells zs.toArray t (0, 0)) :: B' x) M' hc hoj hltj h3 ((hperm.cons _).trans List.perm_middle.symm) (fun x => ((hperm' x).cons _).trans List.perm_middle.symm) h0 h1 ?_ ?_ ?_
    · intro a w st
      obtain ⟨u, hu, hu2⟩ := hb' a w st
      have := hw _ w hu
      rwa [wanted_put oj' a u.1 u.2 (fun x hx => by rw [hu2 x hx]; exact hl3)] at this
    · intro a w st hz
      obtain ⟨u, hu, hu2⟩ := hb' a w st
      have := (Does.put (ops := ops) hsj (fun x hx => by rw [hu2 x hx]; exact hl3)).1 (hx _ w hu hz)
      exact this.mono fun u w' ⟨x, hu, hl⟩ => ⟨x, hu, hl.frame st.has⟩
    · intro x
      have := inv _ _ (hn x) b hb
      exact this.equiv (fun t => ((EnvEq.swapP (fun y hy e => a2 y hy (by rw [hdi, e])) (v x) (ptr b 0) env) t).symm) (.refl _)

theorem fresh_nat (L : List Nat) : ∃ b, b ∉ L := by
  have : ∃ m, ∀ x, x ∈ L → x < m := by
    induction L with
    | nil => exact ⟨0, fun x h => by cases h⟩
    | cons y L ih =>
      obtain ⟨m, hm⟩ := ih
      refine ⟨m + y + 1, fun x hx => ?_⟩
      rcases List.mem_cons.1 hx with rfl | hx
      · omega
      · have := hm x hx; omega
  obtain ⟨m, hm⟩ := this
  exact ⟨m, fun h => by have := hm m h; omega⟩
/-- A new row, ahead of what does not make it. -/
theorem Dr.swapM {j i : Nat} {s : List Nat} {env : Env} {B : Own} {oj oi : Oper} {e n : Nat} {cells : List Value} {env1 : Env} {Bi : Own} (hci : cls i = .mks env1 Bi e n cells) (hcj : ∀ rd, cls j ≠ .flt rd) (hcn : cls j ≠ .fln) (hcw : ∀ wr, cls j = .eff wr → (wr = 3 ∨ wr = 4) ∨ (env1 = [] ∧ Bi = [])) (hoj : ops[j]? = some oj) (hoi : ops[i]? = some oi) (hap : oj.apart ops oi = true) (hsj : notSel oj) {di : Nat} (hdi : oi.dst = some di) (hg : oi.guard = none) (hlti : Nat.blt di c.n = true)
    (hx : MkDoes c oi env1 Bi e n cells)
    (h : Dr c ops Q B0 cls (j :: i :: s) env B) : Dr c ops Q B0 cls (i :: j :: s) env B := by
  obtain ⟨a1, a2, a3⟩ := Oper.apart_spec hap
  have inv : ∀ env' B', Dr c ops Q B0 cls (i :: s) env' B' → MkAt c ops B0 oi env1 Bi env' B' ∧ ∀ g cap rest, g ∉ keys B0 → n ≤ cap → (cells ++ rest).length = cap → Dr c ops Q B0 cls s ((di, .slice (some ⟨g, 0, none⟩) n cap) :: env') (.blk g (.cells (cells ++ rest).toArray e (0, 0)) :: B') := by
    intro env' B' h
    cases h with
    | flt Bj hc => rw [hci] at hc; cases hc
    | fln Bj hc => rw [hci] at hc; cases hc
    | alc hc => rw [hci] at hc; cases hc
    | eff M R v B' M' hc => rw [hci] at hc; cases hc
    | @mks _ _ _ _ oi' di' e' n' cells' env1' Bj' hc ho' hg' hd' hlt' hat' hx' hn =>
      rw [hci] at hc; cases hc
      obtain rfl : oi' = oi := by rw [hoi] at ho'; exact (Option.some.inj ho').symm
      obtain rfl : di' = di := by rw [hdi] at hd'; exact (Option.some.inj hd').symm
      exact ⟨hat', hn⟩
  cases h with
  | @flt _ _ _ _ _ _ _ rd Bj hc => exact absurd hc (hcj rd)
  | fln Bj hc => exact absurd hc hcn
  | @alc _ _ _ _ oj' dj tj zj hc ho hopj hgj hdj hltj hn =>
    obtain rfl : oj' = oj := by rw [hoj] at ho; exact (Option.some.inj ho).symm
    have hne : di ≠ dj := fun e => a2 dj hdj (by rw [hdi, e])
    obtain ⟨b0, hb0⟩ := fresh_nat (keys B0)
    have hat0 := (inv _ _ (hn b0 hb0)).1
    have hat : MkAt c ops B0 oi env1 Bi env B := ⟨fun t v h => by
      have h2 := hat0.le t v h
      rw [look_cons, if_neg (fun e => a1 dj hdj (by rw [e]; exact hat0.ks t v h))] at h2
      exact h2, hat0.ks, fun x hx => by
        rcases List.mem_cons.1 (hat0.inB x hx) with h | h
        · exfalso; subst h; exact hb0 (mem_keys (hat0.inB0 _ hx) (by simp [Ent.keys]))
        · exact h, hat0.inB0, hat0.nd⟩
    refine .mks hci hoi hg hdi hlti hat hx (fun g cap rest h1 h2 h3 => .alc hc hoj hopj hgj hdj hltj (fun b2 hb2 => ?_))
    exact ((inv _ _ (hn b2 hb2)).2 g cap rest h1 h2 h3).equiv (EnvEq.swap hne _ _ _) (List.Perm.swap _ _ _)
  | @mks _ _ _ _ oj' dj e' n' cells' env1' Bj' hc ho hgj hdj hltj hatj hxj hn =>
    obtain rfl : oj' = oj := by rw [hoj] at ho; exact (Option.some.inj ho).symm
    have hne : di ≠ dj := fun e => a2 dj hdj (by rw [hdi, e])
    obtain ⟨b0, hb0⟩ := fresh_nat (keys B0)
    have hat0 := (inv _ _ (hn b0 (cells'.length + n') (List.replicate n' undef) hb0 (by omega) (by simp))).1
    have hat : MkAt c ops B0 oi env1 Bi env B := ⟨fun t v h => by
      have h2 := hat0.le t v h
      rw [look_cons, if_neg (fun e => a1 dj hdj (by rw [e]; exact hat0.ks t v h))] at h2
      exact h2, hat0.ks, fun x hx => by
        rcases List.mem_cons.1 (hat0.inB x hx) with h | h
        · exfalso; subst h; exact hb0 (mem_keys (hat0.inB0 _ hx) (by simp [Ent.keys]))
        · exact h, hat0.inB0, hat0.nd⟩
    refine .mks hci hoi hg hdi hlti hat hx (fun g cap rest h1 h2 h3 => .mks hc hoj hgj hdj hltj ⟨fun t v h => by
      rw [look_cons, if_neg (fun e => a3 di hdi (by rw [e]; exact hatj.ks t v h))]; exact hatj.le t v h, hatj.ks, fun e h => List.mem_cons_of_mem _ (hatj.inB e h), hatj.inB0, hatj.nd⟩ hxj (fun g2 cap2 rest2 k1 k2 k3 => ?_))
    exact ((inv _ _ (hn g2 cap2 rest2 k1 k2 k3)).2 g cap rest h1 h2 h3).equiv (EnvEq.swap hne _ _ _) (List.Perm.swap _ _ _)
  | @eff _ _ _ _ oj' wr M R X v B' M' hc ho hltj h3 hperm hperm' h0 h1 hw hxj hn =>
    obtain rfl : oj' = oj := by rw [hoj] at ho; exact (Option.some.inj ho).symm
    have hl3 : di ∉ oj'.looksAt ops := a3 di hdi
    have hat : MkAt c ops B0 oi env1 Bi env B := by
      rcases hcw wr hc with hw3 | ⟨rfl, rfl⟩
      · obtain ⟨⟨x⟩, h3a, h3b⟩ := h3.c3 hw3
        have hat0 := (inv _ _ (hn x)).1
        refine ⟨fun t v h => ?_, hat0.ks, fun e he => ?_, hat0.inB0, hat0.nd⟩
        · have h2 := hat0.le t v h
          cases hd : oj'.dst with
          | none => rw [hd] at h2; exact h2
          | some dj =>
            rw [hd] at h2
            show look env t = some v
            have h2' : look ((dj, _) :: env) t = some v := h2
            rw [look_cons, if_neg (fun e => a1 dj hd (by rw [e]; exact hat0.ks t v h))] at h2'
            exact h2'
        · rcases List.mem_append.1 ((hperm' x).mem_iff.1 (hat0.inB e he)) with h | h
          · exact absurd (hat0.inB0 e he) (h3b x e h)
          · exact hperm.mem_iff.2 (List.mem_append_right _ h)
      · exact ⟨fun t v h => by simp [look] at h, fun t v h => by simp [look] at h, fun e h => (by cases h), fun e h => (by cases h), by simp [keys]⟩
    refine .mks hci hoi hg hdi hlti hat hx (fun g cap rest k1 k2 k3 => ?_)
    have hb' : ∀ (a : Act) (w : World), St c ((di, .slice (some ⟨g, 0, none⟩) n cap) :: env) (.blk g (.cells (cells ++ rest).toArray e (0, 0)) :: B) a w → ∃ u : Option Nat × Value, St c env B (a.put u.1 u.2) w ∧ (∀ x, u.1 = some x → x = di) := by
      intro a w st
      obtain ⟨u, hu, hu2⟩ := st.back hlti
      exact ⟨u, hu.subset (fun e he => List.mem_cons_of_mem _ he) (List.Nodup.sublist (keys_sub (List.sublist_cons_self _ _)) hu.has.nd), hu2⟩
    refine .eff M (.blk g (.cells (cells ++ rest).toArray e (0, 0)) :: R) v (fun x => .blk g (.cells (cells ++ rest).toArray e (0, 0)) :: B' x) M' hc hoj hltj h3 ((hperm.cons _).trans List.perm_middle.symm) (fun x => ((hperm' x).cons _).trans List.perm_middle.symm) h0 h1 ?_ ?_ ?_
    · intro a w st
      obtain ⟨u, hu, hu2⟩ := hb' a w st
      have := hw _ w hu
      rwa [wanted_put oj' a u.1 u.2 (fun x hx => by rw [hu2 x hx]; exact hl3)] at this
    · intro a w st hz
      obtain ⟨u, hu, hu2⟩ := hb' a w st
      have := (Does.put (ops := ops) hsj (fun x hx => by rw [hu2 x hx]; exact hl3)).1 (hxj _ w hu hz)
      exact this.mono fun u w' ⟨x, hu, hl⟩ => ⟨x, hu, hl.frame st.has⟩
    · intro x
      have := (inv _ _ (hn x)).2 g cap rest k1 k2 k3
      exact this.equiv (fun t => ((EnvEq.swapP (fun y hy e => a2 y hy (by rw [hdi, e])) (v x) (.slice (some ⟨g, 0, none⟩) n cap) env) t).symm) (.refl _)
end
end Go.Tw
end

section
namespace Go.Tw

def mkOk (ops : Array Oper) (i : Nat) : Bool := match ops[i]? with | some o => o.guard.isNone && o.dst.isSome | none => false
/-- What is said of the new rows. -/
def MkSaid (c : Cx) (ops : Array Oper) (cls : Nat → Cls) : Prop := ∀ i env1 Bj e n cells, cls i = .mks env1 Bj e n cells → ∀ o, ops[i]? = some o → MkDoes c o env1 Bj e n cells
/-- May i, behind j in the order walked, come ahead of it? -/
def passOk (ops : Array Oper) (cls : Nat → Cls) (j i : Nat) : Bool :=
  (match cls j, cls i with
   | .flt rd, .eff wr => !rd || Nat.blt wr 2 || Nat.beq wr 3 || Nat.beq wr 4
   | .flt _, _ => true
   | .fln, .eff wr => Nat.beq wr 0 || Nat.beq wr 4 || Nat.beq wr 5
   | .fln, _ => true
   | .eff _, .alc t _ => (match ops[i]? with | some o => (match o.op with | .alloc t' => t' == t && o.guard.isNone && o.dst.isSome | _ => false) | none => false)
   | .alc .., .alc t _ => (match ops[i]? with | some o => (match o.op with | .alloc t' => t' == t && o.guard.isNone && o.dst.isSome | _ => false) | none => false)
   | .eff wr, .mks env1 Bj _ _ _ => (Nat.beq wr 3 || Nat.beq wr 4 || (env1.isEmpty && Bj.isEmpty)) && mkOk ops i
   | .alc .., .mks .. => mkOk ops i
   | .mks .., .mks .. => mkOk ops i
   | .mks .., .alc t _ => (match ops[i]? with | some o => (match o.op with | .alloc t' => t' == t && o.guard.isNone && o.dst.isSome | _ => false) | none => false)
   | _, _ => false) &&
  (match ops[j]?, ops[i]? with | some oj, some oi => oj.apart ops oi | _, _ => false)

/-- The operations that must stand ahead of i, by its own edges. -/
def direct (ops : Array Oper) (i : Nat) : List Nat :=
  match ops[i]? with
  | some o => (o.after.toList.filter (Region.binds .any)).map (·.on)
  | none => []

/-- A table for a region: s0 the order walked; T i: all that must stand ahead of i. -/
structure Tab (c : Cx) (ops : Array Oper) (cls : Nat → Cls) (T : Nat → List Nat) (s0 : List Nat) : Prop where
  nd : s0.Nodup
  mem : ∀ i, i ∈ s0 ↔ i < ops.size
  pass : s0.Pairwise fun j i => (T i).contains j = true ∨ passOk ops cls j i = true
  order : s0.Pairwise fun j i => (direct ops j).contains i = false
  self : ∀ i, i < ops.size → (direct ops i).contains i = false
  trans : ∀ i, i < ops.size → ∀ k, k ∈ T i → k ∈ direct ops i ∨ ∃ e, e ∈ direct ops i ∧ k ∈ T e
  sel : ∀ (i : Nat) (o : Oper), ops[i]? = some o → notSel o
  lt : ∀ (i : Nat) (o : Oper) (d : Nat), ops[i]? = some o → o.dst = some d → Nat.blt d c.n = true
  inn : ∀ (i : Nat), i < ops.size → ∀ k, k ∈ direct ops i → k < ops.size

def tabOk (n : Nat) (ops : Array Oper) (cls : Nat → Cls) (T : Nat → List Nat) (s0 : List Nat) : Bool :=
  decide s0.Nodup && s0.all (fun i => Nat.blt i ops.size) && Nat.beq s0.length ops.size && (List.range ops.size).all (fun i => s0.contains i) &&
  decide (s0.Pairwise fun j i => ((T i).contains j || passOk ops cls j i) = true) && decide (s0.Pairwise fun j i => (direct ops j).contains i = false) &&
  (List.range ops.size).all (fun i => !(direct ops i).contains i) &&
  (List.range ops.size).all (fun i => (T i).all fun k => (direct ops i).contains k || (direct ops i).any fun e => (T e).contains k) &&
  Region.noSelect ops && (List.range ops.size).all (fun i => (direct ops i).all fun k => Nat.blt k ops.size) &&
  ops.toList.all (fun o => match o.dst with | some d => Nat.blt d n | none => true)

theorem Tab.of {c : Cx} {ops : Array Oper} {cls : Nat → Cls} {T : Nat → List Nat} {s0 : List Nat} (h : tabOk c.n ops cls T s0 = true) : Tab c ops cls T s0 := by
  simp only [tabOk, Bool.and_eq_true, decide_eq_true_eq, List.all_eq_true, List.mem_range, Nat.blt_eq] at h
  obtain ⟨⟨⟨⟨⟨⟨⟨⟨⟨⟨h1, h2⟩, _⟩, h3⟩, h4⟩, h5⟩, h6⟩, h7⟩, h8⟩, h10⟩, h9⟩ := h
  refine ⟨h1, fun i => ⟨fun hi => h2 i hi, fun hi => by simpa using h3 i hi⟩, ?_, h5, fun i hi => by simpa using h6 i hi, ?_, ?_, ?_, fun i hi k hk => h10 i hi k hk⟩
  · refine h4.imp ?_
    intro j i h
    simpa using h
  · intro i hi k hk
    have := h7 i hi k hk
    simpa using this
  · exact fun i o ho cs b => Region.noSelect_spec h8 i o cs b ho
  · intro i o d ho hd
    have := h9 o (by simpa using Array.mem_of_getElem? ho)
    rw [hd] at this
    exact this

section
variable {c : Cx} {ops : Array Oper} {Q : Exit → Act → World → Prop} {B0 : Own} {cls : Nat → Cls} {T : Nat → List Nat} {s0 : List Nat}

theorem Dr.swap (tb : Tab c ops cls T s0) (mk : MkSaid c ops cls) {j i : Nat} {s : List Nat} {env : Env} {B : Own} (hp : passOk ops cls j i = true) (h : Dr c ops Q B0 cls (j :: i :: s) env B) : Dr c ops Q B0 cls (i :: j :: s) env B := by
  simp only [passOk, Bool.and_eq_true] at hp
  obtain ⟨h1, h2⟩ := hp
  cases hoj : ops[j]? with
  | none => simp [hoj] at h2
  | some oj =>
    cases hoi : ops[i]? with
    | none => simp [hoi] at h2
    | some oi =>
      simp only [hoj, hoi] at h2
      have hsj := tb.sel j oj hoj
      have hsi := tb.sel i oi hoi
      cases hcj : cls j with
      | flt rd =>
        refine h.swapF hcj hoj hoi h2 hsj hsi ?_
        intro wr hci hrd
        rw [hcj, hci, hrd] at h1
        simpa [or_assoc] using h1
      | fln =>
        refine h.swapN hcj hoj hoi h2 hsj hsi ?_
        intro wr hci
        rw [hcj, hci] at h1
        simpa [or_assoc] using h1
      | eff wr =>
        cases hci : cls i with
        | flt rd => simp [hcj, hci] at h1
        | fln => simp [hcj, hci] at h1
        | eff w => simp [hcj, hci] at h1
        | mks env1 Bj e n cells =>
          simp only [hcj, hci, mkOk, hoi, Bool.and_eq_true, Option.isNone_iff_eq_none, Option.isSome_iff_exists] at h1
          obtain ⟨hw3, hg, d, hd⟩ := h1
          refine h.swapM hci (by simp [hcj]) (by simp [hcj]) (fun wr' hw' => ?_) hoj hoi h2 hsj hd hg (tb.lt i oi d hoi hd) (mk i env1 Bj e n cells hci oi hoi)
          rw [hcj] at hw'; cases hw'
          simpa [List.isEmpty_iff, or_assoc] using hw3
        | alc t zs =>
          simp only [hcj, hci, hoi] at h1
          refine h.swapA hci (by simp [hcj]) (by simp [hcj]) hoj hoi h2 hsj ?_
          cases hop : oi.op <;> simp only [hop] at h1 <;> try (simp at h1; done)
          next t' =>
            simp only [Bool.and_eq_true, beq_iff_eq, Option.isNone_iff_eq_none, Option.isSome_iff_exists] at h1
            obtain ⟨⟨rfl, hg⟩, d, hd⟩ := h1
            exact ⟨rfl, hg, d, hd, tb.lt i oi d hoi hd⟩
      | alc tj zj =>
        cases hci : cls i with
        | flt rd => simp [hcj, hci] at h1
        | fln => simp [hcj, hci] at h1
        | eff w => simp [hcj, hci] at h1
        | mks env1 Bj e n cells =>
          simp only [hcj, hci, mkOk, hoi, Bool.and_eq_true, Option.isNone_iff_eq_none, Option.isSome_iff_exists] at h1
          obtain ⟨hg, d, hd⟩ := h1
          exact h.swapM hci (by simp [hcj]) (by simp [hcj]) (fun wr' hw' => by rw [hcj] at hw'; cases hw') hoj hoi h2 hsj hd hg (tb.lt i oi d hoi hd) (mk i env1 Bj e n cells hci oi hoi)
        | alc t zs =>
          simp only [hcj, hci, hoi] at h1
          refine h.swapA hci (by simp [hcj]) (by simp [hcj]) hoj hoi h2 hsj ?_
          cases hop : oi.op <;> simp only [hop] at h1 <;> try (simp at h1; done)
          next t' =>
            simp only [Bool.and_eq_true, beq_iff_eq, Option.isNone_iff_eq_none, Option.isSome_iff_exists] at h1
            obtain ⟨⟨rfl, hg⟩, d, hd⟩ := h1
            exact ⟨rfl, hg, d, hd, tb.lt i oi d hoi hd⟩
      | mks ej bj ee nj cj =>
        cases hci : cls i with
        | flt rd => simp [hcj, hci] at h1
        | fln => simp [hcj, hci] at h1
        | eff w => simp [hcj, hci] at h1
        | mks env1 Bj e n cells =>
          simp only [hcj, hci, mkOk, hoi, Bool.and_eq_true, Option.isNone_iff_eq_none, Option.isSome_iff_exists] at h1
          obtain ⟨hg, d, hd⟩ := h1
          exact h.swapM hci (by simp [hcj]) (by simp [hcj]) (fun wr' hw' => by rw [hcj] at hw'; cases hw') hoj hoi h2 hsj hd hg (tb.lt i oi d hoi hd) (mk i env1 Bj e n cells hci oi hoi)
        | alc t zs =>
          simp only [hcj, hci, hoi] at h1
          refine h.swapA hci (by simp [hcj]) (by simp [hcj]) hoj hoi h2 hsj ?_
          cases hop : oi.op <;> simp only [hop] at h1 <;> try (simp at h1; done)
          next t' =>
            simp only [Bool.and_eq_true, beq_iff_eq, Option.isNone_iff_eq_none, Option.isSome_iff_exists] at h1
            obtain ⟨⟨rfl, hg⟩, d, hd⟩ := h1
            exact ⟨rfl, hg, d, hd, tb.lt i oi d hoi hd⟩

theorem Dr.front (tb : Tab c ops cls T s0) (mk : MkSaid c ops cls) {i : Nat} {r : List Nat} : ∀ (l : List Nat), (∀ j, j ∈ l → passOk ops cls j i = true) → ∀ env B, Dr c ops Q B0 cls (l ++ i :: r) env B → Dr c ops Q B0 cls (i :: (l ++ r)) env B
  | [], _, _, _, h => h
  | j :: l, hl, env, B, h => by
    have := h.tail (Dr.front tb mk l (fun k hk => hl k (List.mem_cons_of_mem _ hk)))
    exact this.swap tb mk (hl j List.mem_cons_self)

theorem same_ent {B : Own} (hnd : (keys B).Nodup) {e e' : Ent} (he : e ∈ B) (he' : e' ∈ B) {b : Nat} (hb : b ∈ e.keys) (hb' : b ∈ e'.keys) : e = e' := by
  induction B with
  | nil => cases he
  | cons x B ih =>
    rw [keys_cons] at hnd
    obtain ⟨_, h2, h3⟩ := List.nodup_append.1 hnd
    rcases List.mem_cons.1 he with h4 | h4
    · rcases List.mem_cons.1 he' with h5 | h5
      · rw [h4, h5]
      · rw [h4] at hb; exact absurd rfl (h3 b hb b (mem_keys h5 hb'))
    · rcases List.mem_cons.1 he' with h5 | h5
      · rw [h5] at hb'; exact absurd rfl (h3 b hb' b (mem_keys h4 hb))
      · exact ih h2 h4 h5
/-- What is done with a part of what is owned is done with all of it. -/
theorem LS.whole {w w' : World} {Bj B : Own} {g : Nat} {o : Obj} (hl : LS w w' Bj (.blk g o :: Bj)) (hin : ∀ e, e ∈ Bj → e ∈ B) (hge : w.heap.size ≤ g) (hb : Has w B) : LS w w' B (.blk g o :: B) := by
  have hkin : ∀ k, k ∈ keys Bj → k ∈ keys B := fun k hk => by
    obtain ⟨e, he, hbk⟩ := List.mem_flatMap.1 hk
    exact mem_keys (hin e he) hbk
  refine ⟨⟨hl.step.os, hl.step.tape, hl.step.output, hl.step.size, fun k hk hn => hl.step.same k hk (fun h => hn (hkin k h)), ?_⟩, ?_, ?_⟩
  · intro k hk
    rw [keys_cons, List.mem_append] at hk
    rcases hk with hk | hk
    · simp [Ent.keys] at hk; subst hk; exact Or.inr hge
    · exact Or.inl hk
  · intro x hx
    rcases List.mem_cons.1 hx with rfl | hx
    · exact hl.has.ent _ List.mem_cons_self
    · by_cases hxj : x ∈ Bj
      · exact hl.has.ent _ (List.mem_cons_of_mem _ hxj)
      · refine Ent.holds_of (hb.ent x hx) fun b hbk => hl.step.same b (Ent.lt (hb.ent x hx) hbk) (fun hm => ?_)
        obtain ⟨e, he, hbe⟩ := List.mem_flatMap.1 hm
        exact hxj (by rw [same_ent hb.nd hx (hin e he) hbk hbe]; exact he)
  · rw [keys_cons]
    refine List.nodup_append.2 ⟨by simp [Ent.keys], hb.nd, fun p hp q hq e => ?_⟩
    subst e
    simp [Ent.keys] at hp; subst hp
    obtain ⟨e, he, hbe⟩ := List.mem_flatMap.1 hq
    have := Ent.lt (hb.ent e he) hbe
    omega

theorem Dr.run {i : Nat} {s : List Nat} {env : Env} {B : Own} (h : Dr c ops Q B0 cls (i :: s) env B) {a : Act} {w : World} (st : St c env B a w) (hf : ∀ k, k ∈ keys B0 → k < w.heap.size)
    (hz : ∀ t zs, cls i = .alc t zs → Zer c.P t zs) :
    wpOp c.P ops Q i (fun a' w' => w.heap.size ≤ w'.heap.size ∧ ∃ env' B', Dr c ops Q B0 cls s env' B' ∧ St c env' B' a' w') a w := by
  cases h with
  | @flt _ _ _ _ o d v rd Bj hc ho hd hlt hB hB0 hnd hrd hp hn =>
    unfold wpOp
    simp only [ho]
    have hK : w.heap.size ≤ w.heap.size ∧ ∃ env' B', Dr c ops Q B0 cls s env' B' ∧ St c env' B' (a.put o.dst v) w := ⟨Nat.le_refl _, _, _, hn, by rw [hd]; exact st.put1 hlt v⟩
    rcases hp a w (st.subset hB hnd) with ⟨hw, hr⟩ | ⟨hw, rfl⟩
    · rw [if_pos hw]
      left
      unfold Oper.wp
      rw [hr, Oper.upon_value]
      exact hK
    · rw [hw]
      exact hK
  | @fln _ _ _ _ o d v Bj hc ho hd hlt hB hk hnd hp hn =>
    unfold wpOp
    simp only [ho]
    have hK : w.heap.size ≤ w.heap.size ∧ ∃ env' B', Dr c ops Q B0 cls s env' B' ∧ St c env' B' (a.put o.dst v) w := ⟨Nat.le_refl _, _, _, hn, by rw [hd]; exact st.put1 hlt v⟩
    rcases hp a w (st.subset hB hnd) with ⟨hw, hr⟩ | ⟨hw, rfl⟩
    · rw [if_pos hw]
      left
      unfold Oper.wp
      rw [hr, Oper.upon_value]
      exact hK
    · rw [hw]
      exact hK
  | @alc _ _ _ _ o d t zs hc ho hop hg hd hlt hn =>
    unfold wpOp
    simp only [ho]
    rw [if_pos (by simp [Region.wanted, hg])]
    left
    have := hz t zs hc
    obtain ⟨v, hv, hcv⟩ := run_zer (P := c.P) (t := t) w
    unfold Oper.wp
    have hr : (execOp a.eval o).run c.P w = .ok (.value (ptr w.heap.size 0)) (w.alloc (.cells zs.toArray t)) := by
      simp [execOp, hop, Instr.alloc, hv, newVar, newRow, hcv]
    rw [hr, Oper.upon_value, hd]
    exact ⟨by simp, _, _, hn w.heap.size (fun hm => by have := hf _ hm; omega), st.put hlt _ (LS.alloc st.has _)⟩
  | @mks _ _ _ _ o d e n cells env1 Bj hc ho hg hd hlt hat hx hn =>
    unfold wpOp
    simp only [ho]
    rw [if_pos (by simp [Region.wanted, hg])]
    left
    have st0 : St c env1 Bj a w := { st.subset hat.inB hat.nd with env := fun t v h => st.env t v (hat.le t v h) }
    refine (hx a w st0).wp ?_
    rintro u w' ⟨g, cap, rest, rfl, h1, h2, hge, hl⟩
    have hl2 := hl.whole hat.inB hge st.has
    exact ⟨hl.step.size, _, _, hn g cap rest (fun hm => by have := hf _ hm; omega) h1 h2, by rw [hd]; exact st.put hlt _ hl2⟩
  | @eff _ _ _ _ o wr M R X v B' M' hc ho hlt h3 hperm hperm' h0 h1 hw hx hn =>
    unfold wpOp
    simp only [ho]
    rw [if_pos (hw a w st)]
    left
    refine (hx a w st hf).wp ?_
    rintro u w' ⟨x, rfl, hl⟩
    refine ⟨hl.step.size, _, _, hn x, ?_⟩
    cases hd : o.dst with
    | none => exact st.put0 _ hl
    | some d => exact st.put (hlt d hd) _ hl

theorem getD_lt {listed : Array Bool} {n i : Nat} (hs : listed.size = n) (h : listed.getD i true = false) : i < n := by
  rcases Nat.lt_or_ge i n with h' | h'
  · exact h'
  · simp [Array.getElem?_eq_none (by omega : listed.size ≤ i)] at h

theorem any_of_dr (tb : Tab c ops cls T s0) (mk : MkSaid c ops cls) (hz : ∀ i t zs, cls i = .alc t zs → Zer c.P t zs) : ∀ (fuel : Nat) (s : List Nat) (listed : Array Bool) (env : Env) (B : Own) (a : Act) (w : World),
    s.length = fuel → List.Sublist s s0 → listed.size = ops.size → (∀ i, i < ops.size → (listed.getD i true = false ↔ i ∈ s)) → (∀ m, m < ops.size → m ∉ s → ∀ k, k ∈ T m → k ∉ s) →
    Dr c ops Q B0 cls s env B → St c env B a w → (∀ k, k ∈ keys B0 → k < w.heap.size) → wpAny c.P .any ops Q fuel listed a w := by
  intro fuel
  have empty : ∀ (s : List Nat) (listed : Array Bool) (env : Env) (B : Own) (a : Act) (w : World), List.Sublist s s0 → listed.size = ops.size → (∀ i, i < ops.size → (listed.getD i true = false ↔ i ∈ s)) →
      Dr c ops Q B0 cls s env B → St c env B a w → Region.ready .any ops listed = [] → Q .normal a w := by
    intro s listed env B a w hsub hsz hls hD st hr
    cases s with
    | nil => cases hD with | nil h => exact h a w st
    | cons i s =>
      exfalso
      have hi : i < ops.size := (tb.mem i).1 (hsub.mem List.mem_cons_self)
      have ho : ops[i]? = some ops[i] := Array.getElem?_eq_getElem hi
      have : i ∈ Region.ready .any ops listed := by
        rw [mem_ready]
        refine ⟨(hls i hi).2 List.mem_cons_self, _, ho, fun e he hb => ?_⟩
        have hd : e.on ∈ direct ops i := by
          simp only [direct, ho]
          exact List.mem_map.2 ⟨e, List.mem_filter.2 ⟨by simpa using he, hb⟩, rfl⟩
        have hne : e.on ≠ i := fun h => by have := tb.self i hi; rw [h] at hd; simp [hd] at this
        have hns : e.on ∉ i :: s := by
          intro hm
          rcases List.mem_cons.1 hm with h | h
          · exact hne h
          · have := (List.pairwise_cons.1 (tb.order.sublist hsub)).1 _ h
            simp [hd] at this
        cases hlt : listed.getD e.on true with
        | false =>
          have := getD_lt hsz hlt
          exact absurd ((hls _ this).1 hlt) hns
        | true =>
          by_cases hin : e.on < listed.size
          · simp [hin] at hlt ⊢; exact hlt
          · exact absurd (by rw [hsz]; exact tb.inn i hi _ hd) hin
      rw [hr] at this; cases this
  induction fuel with
  | zero =>
    intro s listed env B a w hl hsub hsz hls hcl hD st hf
    have hs : s = [] := List.eq_nil_of_length_eq_zero hl
    subst hs
    refine ⟨?_, ?_⟩
    · apply List.eq_nil_iff_forall_not_mem.2
      intro i hi
      have := (mem_ready.1 hi).1
      have hlt := getD_lt hsz this
      exact absurd ((hls i hlt).1 this) (by simp)
    · cases hD with | nil h => exact h a w st
  | succ fuel ih =>
    intro s listed env B a w hl hsub hsz hls hcl hD st hf
    refine ⟨fun hr => empty s listed env B a w hsub hsz hls hD st hr, fun i hi => ?_⟩
    obtain ⟨hun, o, ho, hall⟩ := mem_ready.1 hi
    have hlt := getD_lt hsz hun
    have his : i ∈ s := (hls i hlt).1 hun
    obtain ⟨l, r, rfl⟩ := List.append_of_mem his
    have hdir : ∀ k, k ∈ direct ops i → k < ops.size ∧ k ∉ l ++ i :: r := by
      intro k hk
      simp only [direct, ho] at hk
      obtain ⟨e, he, rfl⟩ := List.mem_map.1 hk
      obtain ⟨he1, he2⟩ := List.mem_filter.1 he
      have := hall e (by simpa using he1) he2
      have hlt' : e.on < ops.size := by
        rcases Nat.lt_or_ge e.on ops.size with h | h
        · exact h
        · simp [Array.getElem?_eq_none (by omega : listed.size ≤ e.on)] at this
      refine ⟨hlt', fun hm => ?_⟩
      have h2 := (hls _ hlt').2 hm
      have hin : e.on < listed.size := by omega
      simp [hin] at this h2
      rw [this] at h2; cases h2
    have hT : ∀ k, k ∈ T i → k ∉ l ++ i :: r := by
      intro k hk
      rcases tb.trans i hlt k hk with h | ⟨e, he, hke⟩
      · exact (hdir k h).2
      · exact hcl e (hdir e he).1 (hdir e he).2 k hke
    have hpw := tb.pass.sublist hsub
    have hpass : ∀ j, j ∈ l → passOk ops cls j i = true := by
      intro j hj
      have := (List.pairwise_append.1 hpw).2.2 j hj i List.mem_cons_self
      rcases this with h | h
      · exact absurd (List.mem_append_left _ hj) (hT j (by simpa using h))
      · exact h
    have hnds : (l ++ i :: r).Nodup := List.Nodup.sublist hsub tb.nd
    have hni : i ∉ l ++ r := by
      have := hnds
      rw [List.nodup_append] at this
      obtain ⟨_, h2, h3⟩ := this
      rw [List.nodup_cons] at h2
      simp only [List.mem_append]
      rintro (h | h)
      · exact h3 i h i List.mem_cons_self rfl
      · exact h2.1 h
    refine wpOp_mono ?_ ((Dr.front tb mk l hpass env B hD).run st hf (hz i))
    rintro a' w' ⟨hsz', env', B', hD', st'⟩
    refine ih (l ++ r) _ env' B' a' w' (by simp at hl ⊢; omega) ((List.Sublist.append_left (List.sublist_cons_self _ _) _).trans hsub) (by simp [hsz]) ?_ ?_ hD' st' (fun k hk => Nat.lt_of_lt_of_le (hf k hk) hsz')
    · intro k hk
      by_cases hki : i = k
      · subst hki
        simp [hsz, hk]
        simpa using hni
      · rw [getD_set_ne true hki, hls k hk]
        simp only [List.mem_append, List.mem_cons]
        constructor
        · rintro (h | h | h)
          · exact Or.inl h
          · exact absurd h.symm hki
          · exact Or.inr h
        · rintro (h | h)
          · exact Or.inl h
          · exact Or.inr (Or.inr h)
    · intro m hm hms k hk hks
      by_cases hmi : m = i
      · subst hmi
        refine hT k hk ?_
        simp only [List.mem_append, List.mem_cons] at hks ⊢
        rcases hks with h | h
        · exact Or.inl h
        · exact Or.inr (Or.inr h)
      · have : m ∉ l ++ i :: r := by
          simp only [List.mem_append, List.mem_cons] at hms ⊢
          rintro (h | h | h)
          · exact hms (Or.inl h)
          · exact hmi h
          · exact hms (Or.inr h)
        refine hcl m hm this k hk ?_
        simp only [List.mem_append, List.mem_cons] at hks ⊢
        rcases hks with h | h
        · exact Or.inl h
        · exact Or.inr (Or.inr h)

end
end Go.Tw
end

section
namespace Go.Tw

theorem St.drew {c : Cx} {env : Env} {B : Own} {a : Act} {w : World} (s : St c env B a w) (n : Nat) : St c env B a { w with drawn := n } where
  defers := s.defers
  size := s.size
  env := s.env
  has := ⟨fun e he => Ent.holds_of (s.has.ent e he) (fun _ _ => rfl), s.has.nd⟩
  step := ⟨s.step.os, s.step.tape, s.step.output, s.step.size, s.step.same, s.step.own⟩
  reads := s.reads

/-- The new variables among a region's operations begin as zeros. -/
class ZAll (P : Program) (L : List Cls) : Prop where
  zer : ∀ (t : Nat) (zs : List Value), Cls.alc t zs ∈ L → Zer P t zs
instance ZAll.nil {P : Program} : ZAll P [] := ⟨fun _ _ h => by cases h⟩
instance ZAll.flt {P : Program} {b : Bool} {L : List Cls} [h : ZAll P L] : ZAll P (.flt b :: L) := ⟨fun t zs hm => by
  rcases List.mem_cons.1 hm with e | hm
  · cases e
  · exact h.zer t zs hm⟩
instance ZAll.fln {P : Program} {L : List Cls} [h : ZAll P L] : ZAll P (.fln :: L) := ⟨fun t zs hm => by
  rcases List.mem_cons.1 hm with e | hm
  · cases e
  · exact h.zer t zs hm⟩
instance ZAll.eff {P : Program} {b : Nat} {L : List Cls} [h : ZAll P L] : ZAll P (.eff b :: L) := ⟨fun t zs hm => by
  rcases List.mem_cons.1 hm with e | hm
  · cases e
  · exact h.zer t zs hm⟩
instance ZAll.alc {P : Program} {t : Nat} {zs : List Value} {L : List Cls} [hz : Zer P t zs] [h : ZAll P L] : ZAll P (.alc t zs :: L) := ⟨fun t zs hm => by
  rcases List.mem_cons.1 hm with e | hm
  · cases e; exact hz
  · exact h.zer t zs hm⟩

instance ZAll.mks {P : Program} {e1 : Env} {bj : Own} {e n : Nat} {cells : List Value} {L : List Cls} [h : ZAll P L] : ZAll P (.mks e1 bj e n cells :: L) := ⟨fun t zs hm => by
  rcases List.mem_cons.1 hm with e | hm
  · cases e
  · exact h.zer t zs hm⟩
def noMks : List Cls → Bool
  | [] => true
  | .mks .. :: _ => false
  | _ :: r => noMks r
theorem noMks_getD : ∀ {L : List Cls}, noMks L = true → ∀ i e1 bj e n cells, L.getD i (.flt true) ≠ .mks e1 bj e n cells
  | [], _, i, e1, bj, e, n, cells, h => by simp at h
  | x :: r, hn, 0, e1, bj, e, n, cells, h => by
    rw [List.getD_cons_zero] at h
    subst h
    simp [noMks] at hn
  | x :: r, hn, i + 1, e1, bj, e, n, cells, h => by
    rw [List.getD_cons_succ] at h
    have : noMks r = true := by
      cases x <;> simp [noMks] at hn ⊢ <;> exact hn
    exact noMks_getD this i e1 bj e n cells h
theorem MkSaid.none {c : Cx} {ops : Array Oper} {L : List Cls} (h : noMks L = true) : MkSaid c ops (fun i => L.getD i (.flt true)) := fun i e1 bj e n cells hc => absurd hc (noMks_getD h i e1 bj e n cells)
section
variable {c : Cx} {ops : Array Oper} {Q : Exit → Act → World → Prop} {env : Env} {B B0 : Own} {cls : Nat → Cls}

/-- A statement whose order is open. -/
theorem c_par {id : Nat} (hm : c.P.follows .mixedOrders = true) (L : List Cls) (T : List (List Nat)) (s0 : List Nat) (ht : tabOk c.n ops (fun i => L.getD i (.flt true)) (fun i => T.getD i []) s0 = true) [hz : ZAll c.P L] (mk : MkSaid c ops (fun i => L.getD i (.flt true)))
    (h : (keys B).Nodup → Dr c ops Q B (fun i => L.getD i (.flt true)) s0 env B) : GC c Q (.region id ops true) env B := by
  intro a w st
  refine wp_region_any hm ?_
  have tb : Tab c ops (fun i => L.getD i (.flt true)) (fun i => T.getD i []) s0 := Tab.of ht
  have hlen : s0.length = ops.size := by
    simp only [tabOk, Bool.and_eq_true] at ht
    exact Nat.eq_of_beq_eq_true ht.1.1.1.1.1.1.1.1.2
  refine any_of_dr tb mk ?_ ops.size s0 _ env B a _ hlen (.refl _) (by simp) ?_ ?_ (h st.has.nd) (st.drew _) ?_
  · intro i t zs hi
    refine hz.zer t zs ?_
    simp only [List.getD_eq_getElem?_getD] at hi
    cases hg : L[i]? with
    | none => rw [hg] at hi; simp at hi
    | some x => rw [hg] at hi; simp only [Option.getD_some] at hi; rw [← hi]; exact List.mem_of_getElem? hg
  · intro i hi
    simp [hi, tb.mem i]
  · intro m hm' hms
    exact absurd ((tb.mem m).2 hm') hms
  · intro k hk
    obtain ⟨e, he, hb⟩ := List.mem_flatMap.1 hk
    exact Ent.lt (st.has.ent e he) hb

/-- What of B was there at the begin, and is as it was. -/
class Common (B B0 : Own) (Bj : outParam Own) : Prop where
  l : List.Sublist Bj B
  r : List.Sublist Bj B0
instance (priority := 800) Common.both {e e' : Ent} {B B0 Bj : Own} [h : Common B B0 Bj] : Common (e :: B) (e' :: B0) Bj := ⟨h.l.cons _, h.r.cons _⟩
instance (priority := 900) Common.tail {e : Ent} {B B0 Bj : Own} [h : Common B B0 Bj] : Common (e :: B) B0 Bj := ⟨h.l.cons _, h.r⟩
instance Common.same {B : Own} : Common B B B := ⟨.refl _, .refl _⟩

theorem d_nil (h : Fin c Q .normal env B) : Dr c ops Q B0 cls [] env B := .nil h

variable {i d : Nat} {s : List Nat} {o : Oper} {v : Value}

/-- It reckons. -/
theorem d_v (ho : ops[i]? = some o) (hp : OpV c ops o env [] v) (hn : Dr c ops Q B0 cls s ((d, v) :: env) B) (hc : cls i = .flt false := by rfl) (hd : o.dst = some d := by rfl) (hlt : Nat.blt d c.n = true := by rfl) : Dr c ops Q B0 cls (i :: s) env B :=
  .flt [] hc ho hd hlt (fun _ h => by cases h) (fun _ h => by cases h) .nil (fun _ => rfl) hp hn
theorem d_p (ho : ops[i]? = some o) (hp : OpE c o env [] v) (hn : Dr c ops Q B0 cls s ((d, v) :: env) B) (hc : cls i = .flt false := by rfl) (hd : o.dst = some d := by rfl) (hlt : Nat.blt d c.n = true := by rfl) (hg : o.guard = none := by rfl) : Dr c ops Q B0 cls (i :: s) env B :=
  d_v ho (v_plain hp hg) hn hc hd hlt
/-- It reads. -/
theorem d_rv {Bj : Own} (hnd : (keys B0).Nodup) (ho : ops[i]? = some o) [hb : Common B B0 Bj] (hp : OpV c ops o env Bj v) (hn : Dr c ops Q B0 cls s ((d, v) :: env) B) (hc : cls i = .flt true := by rfl) (hd : o.dst = some d := by rfl) (hlt : Nat.blt d c.n = true := by rfl) : Dr c ops Q B0 cls (i :: s) env B :=
  .flt Bj hc ho hd hlt (fun _ h => hb.l.mem h) (fun _ h => hb.r.mem h) (List.Nodup.sublist (keys_sub hb.r) hnd) (fun h => by cases h) hp hn
theorem d_r {Bj : Own} (hnd : (keys B0).Nodup) (ho : ops[i]? = some o) [hb : Common B B0 Bj] (hp : OpE c o env Bj v) (hn : Dr c ops Q B0 cls s ((d, v) :: env) B) (hc : cls i = .flt true := by rfl) (hd : o.dst = some d := by rfl) (hlt : Nat.blt d c.n = true := by rfl) (hg : o.guard = none := by rfl) : Dr c ops Q B0 cls (i :: s) env B :=
  d_rv hnd ho (v_plain hp hg) hn hc hd hlt
/-- A new variable. -/
theorem d_a {t : Nat} {zs : List Value} (ho : ops[i]? = some o) (hn : ∀ b, b ∉ keys B0 → Dr c ops Q B0 cls s ((d, ptr b 0) :: env) (.blk b (.cells zs.toArray t (0, 0)) :: B)) (hop : o.op = .alloc t := by rfl) (hc : cls i = .alc t zs := by rfl) (hd : o.dst = some d := by rfl) (hlt : Nat.blt d c.n = true := by rfl) (hg : o.guard = none := by rfl) :
    Dr c ops Q B0 cls (i :: s) env B := .alc hc ho hop hg hd hlt hn

/-- What was there stays as it was, among what is owned. -/
class Grow (B' B : Own) : Prop where
  g : ∃ M, B'.Perm (M ++ B)
instance (priority := 900) Grow.tail {e : Ent} {B' B : Own} [h : Grow B' B] : Grow (e :: B') B := by
  obtain ⟨M, hM⟩ := h.g; exact ⟨e :: M, hM.cons _⟩
instance (priority := 950) Grow.both {e : Ent} {B' B : Own} [h : Grow B' B] : Grow (e :: B') (e :: B) := by
  obtain ⟨M, hM⟩ := h.g; exact ⟨M, (hM.cons _).trans List.perm_middle.symm⟩
instance Grow.same {B : Own} : Grow B B := ⟨[], .refl _⟩
instance Grow.app {l B : Own} : Grow (l ++ B) B := ⟨l, .refl _⟩

theorem d_xw (M R : Own) (hperm : B.Perm (M ++ R)) {wr : Nat} (ho : ops[i]? = some o) (h0 : wr = 0 → M = []) (h1 : wr = 1 → ∀ e, e ∈ M → e ∉ B0) (hne : wr < 3) (hc : cls i = .eff wr) (hlt : ∀ d, o.dst = some d → Nat.blt d c.n = true)
    (hw : ∀ a w, St c env B a w → Region.wanted o (yielded ops a.tmps) = true)
    (hx : OpX c o env B (fun v B' => (∃ M', B'.Perm (M' ++ R)) ∧ Dr c ops Q B0 cls s (putE o.dst v env) B')) : Dr c ops Q B0 cls (i :: s) env B := by
  obtain ⟨X, v, B', hN, hx⟩ := hx
  exact .eff M R v B' (fun x => Classical.choose (hN x).1) hc ho hlt ⟨fun h => by omega, fun h => by omega, fun h => by omega⟩ hperm (fun x => Classical.choose_spec (hN x).1) h0 h1 hw (fun a w st _ => hx a w st) (fun x => (hN x).2)

theorem OpX.mono {N N' : Value → Own → Prop} (h : OpX c o env B N) (hn : ∀ v B', N v B' → N' v B') : OpX c o env B N' := by
  obtain ⟨X, v, B', hN, hx⟩ := h
  exact ⟨X, v, B', fun x => hn _ _ (hN x), hx⟩

/-- It acts, on nothing that was there. -/
theorem d_x0 (ho : ops[i]? = some o) (hx : OpX c o env B (fun v B' => Grow B' B ∧ Dr c ops Q B0 cls s ((d, v) :: env) B')) (hc : cls i = .eff 0 := by rfl) (hd : o.dst = some d := by rfl) (hlt : Nat.blt d c.n = true := by rfl) (hg : o.guard = none := by rfl) : Dr c ops Q B0 cls (i :: s) env B :=
  d_xw [] B (.refl _) ho (fun _ => rfl) (fun h => by cases h) (by decide) hc (fun x h => by rw [hd] at h; cases h; exact hlt) (fun a w _ => by simp [Region.wanted, hg]) (hx.mono fun v B' h => ⟨h.1.g, by rw [hd]; exact h.2⟩)
/-- On whatever. -/
theorem d_x2 (ho : ops[i]? = some o) (hx : OpX c o env B (fun v B' => Dr c ops Q B0 cls s ((d, v) :: env) B')) (hc : cls i = .eff 2 := by rfl) (hd : o.dst = some d := by rfl) (hlt : Nat.blt d c.n = true := by rfl) (hg : o.guard = none := by rfl) : Dr c ops Q B0 cls (i :: s) env B :=
  d_xw B [] (by simp) ho (fun h => by cases h) (fun h => by cases h) (by decide) hc (fun x h => by rw [hd] at h; cases h; exact hlt) (fun a w _ => by simp [Region.wanted, hg]) (hx.mono fun v B' h => ⟨⟨B', by simp⟩, by rw [hd]; exact h⟩)
/-- A store; a call without a result. -/
theorem d_s2 (ho : ops[i]? = some o) (hx : OpX c o env B (fun _ B' => Dr c ops Q B0 cls s env B')) (hc : cls i = .eff 2 := by rfl) (hd : o.dst = none := by rfl) (hg : o.guard = none := by rfl) : Dr c ops Q B0 cls (i :: s) env B :=
  d_xw B [] (by simp) ho (fun h => by cases h) (fun h => by cases h) (by decide) hc (fun x h => by rw [hd] at h; cases h) (fun a w _ => by simp [Region.wanted, hg]) (hx.mono fun v B' h => ⟨⟨B', by simp⟩, by rw [hd]; exact h⟩)
/-- Into a variable that this statement has made. -/
theorem d_s1 {b : Nat} {ob : Obj} {R : Own} (hb : b ∉ keys B0) (ho : ops[i]? = some o) [_hi : InB b ob B] [hr : Rm (.blk b ob) B R] (hx : OpX c o env B (fun _ B' => Grow B' R ∧ Dr c ops Q B0 cls s env B')) (hc : cls i = .eff 1 := by rfl) (hd : o.dst = none := by rfl) (hg : o.guard = none := by rfl) :
    Dr c ops Q B0 cls (i :: s) env B := by
  refine d_xw [.blk b ob] R ?_ ho (fun h => by cases h) (fun _ e he hm => ?_) (by decide) hc (fun x h => by rw [hd] at h; cases h) (fun a w _ => by simp [Region.wanted, hg]) (hx.mono fun v B' h => ⟨h.1.g, by rw [hd]; exact h.2⟩)
  · obtain ⟨l, r, h1, h2⟩ := hr.rm
    rw [h1, h2]; exact List.perm_middle
  · simp only [List.mem_singleton] at he
    subst he
    exact hb (mem_keys hm (by simp [Ent.keys]))
/-- Into a block that was there when the statement began. -/
theorem d_s5 {b : Nat} {ob : Obj} {R : Own} (hb : b ∈ keys B0) (ho : ops[i]? = some o) [_hi : InB b ob B] [hr : Rm (.blk b ob) B R] (hx : OpX c o env B (fun _ B' => Grow B' R ∧ Dr c ops Q B0 cls s env B')) (hc : cls i = .eff 5 := by rfl) (hd : o.dst = none := by rfl) (hg : o.guard = none := by rfl) :
    Dr c ops Q B0 cls (i :: s) env B := by
  obtain ⟨X, v, B', hN, hx⟩ := hx
  obtain ⟨l, r, h1, h2⟩ := hr.rm
  refine .eff [.blk b ob] R v B' (fun x => Classical.choose (hN x).1.g) hc ho (fun x h => by rw [hd] at h; cases h) ⟨fun h => by omega, fun h => by omega, fun _ e he => ?_⟩ (by rw [h1, h2]; exact List.perm_middle) (fun x => Classical.choose_spec (hN x).1.g) (fun h => by cases h) (fun h => by cases h) (fun a w _ => by simp [Region.wanted, hg]) (fun a w st _ => hx a w st) (fun x => by rw [hd]; exact (hN x).2)
  simp only [List.mem_singleton] at he
  subst he
  exact ⟨b, by simp [Ent.keys], hb⟩
/-- It reads a block that the statement has made. -/
theorem d_n {b : Nat} {ob : Obj} (hk : b ∉ keys B0) (ho : ops[i]? = some o) [hb : InB b ob B] (hp : OpE c o env [.blk b ob] v) (hn : Dr c ops Q B0 cls s ((d, v) :: env) B) (hc : cls i = .fln := by rfl) (hd : o.dst = some d := by rfl) (hlt : Nat.blt d c.n = true := by rfl) (hg : o.guard = none := by rfl) : Dr c ops Q B0 cls (i :: s) env B :=
  .fln [.blk b ob] hc ho hd hlt (fun e he => by simp only [List.mem_singleton] at he; subst he; exact hb.mem) (fun k hkm => by simp [keys, Ent.keys] at hkm; subst hkm; exact hk) (by simp [keys, Ent.keys]) (v_plain hp hg) hn
/-- A call that is handed nothing. -/
theorem d_x4 {f : FuncId} {args : Array Operand} {tys : Array TypeId} {ty : Nat} {pos : String} {af : Array Edge} {vs : List Value} {Rp : List Fact} {Post : Value → Own → Prop} (ho : ops[i]? = some ⟨some d, .call ⟨.value (.func f), args, tys⟩, ty, pos, af, none⟩)
    (hF : Fn c.P f vs [] Rp Post) (hne : ∃ u B', Post u B' ∧ ∀ k, k ∈ keys B' → k ∉ keys B0) (hkey : ∀ u B', Post u B' → ∀ e, e ∈ B' → e.keys ≠ []) (hv : evs env args.toList = some vs := by rfl) [hcal : Callee c.P f] (hR : RdAll c B Rp := by repeat (first | exact RdAll.nil | refine @RdAll.cons _ _ _ _ _ _ _ (by infer_instance) ?_ | refine @RdAll.consG _ _ _ _ _ _ (by infer_instance) ?_))
    (hn : ∀ u B', Post u B' → (∀ k, k ∈ keys B' → k ∉ keys B0) → Dr c ops Q B0 cls s ((d, u) :: env) (B' ++ B)) (hc : cls i = .eff 4 := by rfl) (hlt : Nat.blt d c.n = true := by rfl) : Dr c ops Q B0 cls (i :: s) env B := by
  have hx : OpX c ⟨some d, .call ⟨.value (.func f), args, tys⟩, ty, pos, af, none⟩ env B (fun v B2 => ∃ B', Post v B' ∧ B2 = B' ++ B) := e_call (cap := #[]) (Bp := []) (hp := Part.nil) (by simpa using hF) rfl hv (fun v B' h => ⟨B', h, rfl⟩)
  obtain ⟨X, v, B1, hN, hx⟩ := hx
  obtain ⟨u0, B0', hp0, hk0⟩ := hne
  have hcall : ∀ a w, St c env B a w → Does c ⟨some d, .call ⟨.value (.func f), args, tys⟩, ty, pos, af, none⟩ a.eval w (fun u w' => ∃ B', Post u B' ∧ LS w w' B (B' ++ B)) := by
    intro a w st
    refine (hx a w st).mono fun u w' ⟨x, hu, hl⟩ => ?_
    obtain ⟨B', hP, e⟩ := hN x
    subst hu
    exact ⟨B', hP, e ▸ hl⟩
  refine .eff [] B (X := { x : Value × Own // Post x.1 x.2 ∧ ∀ k, k ∈ keys x.2 → k ∉ keys B0 }) (fun x => x.1.1) (fun x => x.1.2 ++ B) (fun x => x.1.2) hc ho (fun x h => by cases h; exact hlt) ⟨fun _ => ⟨⟨⟨(u0, B0'), hp0, hk0⟩⟩, fun _ h => (by cases h), fun x e he hm => ?_⟩, fun _ => rfl, fun h => by omega⟩ (.refl _) (fun _ => .refl _) (fun _ => rfl) (fun h => by cases h) (fun a w _ => by simp [Region.wanted]) (fun a w st hz => ?_) (fun x => hn _ _ x.2.1 x.2.2)
  · obtain ⟨k, hk⟩ := List.exists_mem_of_ne_nil _ (hkey _ _ x.2.1 e he)
    exact x.2.2 k (mem_keys he hk) (mem_keys hm hk)
  · refine (hcall a w st).mono fun u w' ⟨B', hP, hl⟩ => ⟨⟨(u, B'), hP, fun k hk hm => ?_⟩, rfl, hl⟩
    have hnd := hl.has.nd
    rw [keys_app] at hnd
    have h3 := (List.nodup_append.1 hnd).2.2
    rcases hl.step.own k (by rw [keys_app]; exact List.mem_append_left _ hk) with h | h
    · exact h3 k hk k h rfl
    · have := hz k hm
      omega

end
end Go.Tw
end

section
namespace Go.Tw

/-- A row of numbers that a kind holds. -/
class Us (k : IntKind) (l : List Nat) : Prop where
  lt : ∀ x, x ∈ l → x < 2 ^ k.bits
instance Us.nil {k : IntKind} : Us k [] := ⟨fun _ h => by cases h⟩
instance Us.cons {k : IntKind} {x : Nat} {l : List Nat} [hx : Fits x k] [h : Us k l] : Us k (x :: l) := ⟨fun y hy => by
  rcases List.mem_cons.1 hy with rfl | hy
  · exact hx.lt
  · exact h.lt y hy⟩
instance Us.app {k : IntKind} {l m : List Nat} [h1 : Us k l] [h2 : Us k m] : Us k (l ++ m) := ⟨fun y hy => (List.mem_append.1 hy).elim (h1.lt y) (h2.lt y)⟩
instance Us.set {k : IntKind} {l : List Nat} {i x : Nat} [h1 : Us k l] [h2 : Fits x k] : Us k (l.set i x) := ⟨fun y hy => (List.mem_or_eq_of_mem_set hy).elim (h1.lt y) (fun e => by rw [e]; exact h2.lt)⟩
instance Us.take {k : IntKind} {l : List Nat} {i : Nat} [h1 : Us k l] : Us k (l.take i) := ⟨fun y hy => h1.lt y (List.mem_of_mem_take hy)⟩
instance Us.drop {k : IntKind} {l : List Nat} {i : Nat} [h1 : Us k l] : Us k (l.drop i) := ⟨fun y hy => h1.lt y (List.mem_of_mem_drop hy)⟩
instance Us.rep {k : IntKind} {n x : Nat} [h : Fits x k] : Us k (List.replicate n x) := ⟨fun y hy => by rw [List.eq_of_mem_replicate hy]; exact h.lt⟩
instance Us.rev {k : IntKind} {l : List Nat} [h1 : Us k l] : Us k l.reverse := ⟨fun y hy => h1.lt y (List.mem_reverse.1 hy)⟩
theorem Us.getD_lt {k : IntKind} {l : List Nat} (h : Us k l) (i : Nat) : l.getD i 0 < 2 ^ k.bits := by
  rw [List.getD_eq_getElem?_getD]
  cases e : l[i]? with
  | none => exact Nat.two_pow_pos _
  | some x => exact h.lt x (List.mem_of_getElem? e)
instance Us.get {k : IntKind} {l : List Nat} {i : Nat} [h : Us k l] : Fits (l.getD i 0) k := ⟨h.getD_lt i⟩
instance Fits.addmod {a : Nat} {k : IntKind} : Fits (a % 256) k := ⟨Nat.lt_of_lt_of_le (Nat.mod_lt _ (by decide)) (by cases k <;> decide)⟩

instance (priority := 500) Fits.w8_64 {a : Nat} [h : Fits a .u8] : Fits a .u64 := ⟨Nat.lt_of_lt_of_le h.lt (by decide)⟩
instance (priority := 490) Fits.w32_64 {a : Nat} [h : Fits a .u32] : Fits a .u64 := ⟨Nat.lt_of_lt_of_le h.lt (by decide)⟩
instance (priority := 500) Fits.w8_32 {a : Nat} [h : Fits a .u8] : Fits a .u32 := ⟨Nat.lt_of_lt_of_le h.lt (by decide)⟩
section ops
variable {c : Cx} {env : Env} {B : Own} {d ty : Nat} {pos : String} {af : Array Edge} {x y z : Operand} {N : Value → Own → Prop} {k : IntKind}

theorem p_load_u {t b off : Nat} {l : List Nat} {T : TypeId} {fr : Nat × Nat} [Sca c.P t] (hx : ev env x = some (ptr b off) := by rfl) [hb : InB b (.cells (us k l).toArray T fr) B] (ho : off < l.length := by first | omega | (simp; done) | (simp; omega) | (simp [*]; done) | (simp [*]; omega)) :
    OpE c ⟨some d, .load t x, ty, pos, af, none⟩ env B (.int k ((l.getD off 0 : Nat) : Int)) := p_load_one hx (us_get ho)

theorem p_load_slu {t : Nat} {u : Value} {s n j : Nat} {l : List Nat} [Sca c.P t] (hx : ev env x = some (slPtr u j) := by rfl) [hr : Rd c B u s n (us k l)] (ho : j < l.length := by first | omega | (simp; done) | (simp; omega) | (simp [*]; done) | (simp [*]; omega)) :
    OpE c ⟨some d, .load t x, ty, pos, af, none⟩ env B (.int k ((l.getD j 0 : Nat) : Int)) := p_load_sl hx (us_get ho)

theorem e_store_u {t y' b off v : Nat} {l l' : List Nat} {T : TypeId} {B' : Own} [Inf c.P t 1 y'] (hx : ev env x = some (ptr b off) := by rfl) (hy : ev env y = some (.int k (v : Int)) := by rfl) [hb : InB b (.cells (us k l).toArray T (0, 0)) B]
    (ho : off < l.length := by first | omega | (simp; done) | (simp; omega) | (simp [*]; done) | (simp [*]; omega)) [hu : Up (.blk b (.cells (us k l).toArray T (0, 0))) (.blk b (.cells (us k l').toArray T (0, 0))) B B'] (h : N undef B') (hl : l.set off v = l' := by rfl) : OpX c ⟨none, .store t x y, ty, pos, af, none⟩ env B N := by
  have hu' := hu
  rw [← hl, ← us_set] at hu'
  exact e_store_one hx hy rfl rfl (by simpa using ho) h

theorem e_store_slu {t y' v : Nat} {u : Value} {j T n s : Nat} {l l' : List Nat} {B' : Own} [Inf c.P t 1 y'] (hx : ev env x = some (slPtr u j) := by rfl) (hy : ev env y = some (.int k (v : Int)) := by rfl) [hs : InSl u T s n (us k l) B]
    (ho : j < l.length := by first | omega | (simp; done) | (simp; omega) | (simp [*]; done) | (simp [*]; omega)) [hu : Up (.sl u T s n (us k l)) (.sl u T s n (us k l')) B B'] (h : N undef B') (hl : l.set j v = l' := by rfl) : OpX c ⟨none, .store t x y, ty, pos, af, none⟩ env B N := by
  have hu' := hu
  rw [← hl, ← us_set] at hu'
  exact e_store_sl hx hy rfl rfl (by simpa using ho) h

/-- A number that the new kind holds, too. -/
theorem p_convw {t1 t2 : Nat} {dd : TypeDesc} [h1 : Und c.P t1 dd] [h2 : Und c.P t2 (.int k)] {k0 : IntKind} {a : Nat} (hx : ev env x = some (.int k0 (a : Int)) := by rfl) (hk : k.signed = false := by rfl)
    (ha : a < 2 ^ k.bits := by first | exact Fits.lt | assumption | decide | (simp only [IntKind.bits] at *; omega) | omega) : OpE c ⟨some d, .convert t1 t2 x, ty, pos, af, none⟩ env B (.int k (a : Int)) := by
  have := p_convu (k := k) (t1 := t1) (t2 := t2) (ty := ty) (pos := pos) (af := af) (d := d) (c := c) (B := B) hx hk
  rwa [Nat.mod_eq_of_lt ha] at this
theorem p_convn {t1 t2 : Nat} {dd : TypeDesc} [h1 : Und c.P t1 dd] [h2 : Und c.P t2 (.int .i64)] {k0 : IntKind} {a : Nat} (hx : ev env x = some (.int k0 (a : Int)) := by rfl)
    (ha : a ≤ 9223372036854775807 := by first | omega | (simp only [IntKind.bits] at *; omega)) : OpE c ⟨some d, .convert t1 t2 x, ty, pos, af, none⟩ env B (.int .i64 (a : Int)) :=
  p_convi hx (i64_in (by omega) (by omega))

/-- Constants as natural numbers. -/
theorem ev_nat {a : Int} {n : Nat} (h : ev env x = some (.int k a)) (hn : (n : Int) = a) : ev env x = some (.int k (n : Int)) := by rw [hn]; exact h

theorem us_set_eq {l l' : List Nat} {off v : Nat} (h : l.set off v = l') : (us k l).set off (.int k (v : Int)) = us k l' := by rw [us_set, h]

/-! Unsigned, where nothing is lost. -/
theorem p_adduw {t t2 : Nat} {a b : Nat} (hx : ev env x = some (.int k (a : Int)) := by rfl) (hy : ev env y = some (.int k (b : Int)) := by rfl) (hk : k.signed = false := by rfl) (h : a + b < 2 ^ k.bits := by first | assumption | (simp only [IntKind.bits] at *; omega) | omega) : OpE c ⟨some d, .binOp .add t x y t2, ty, pos, af, none⟩ env B (.int k ((a + b : Nat) : Int)) := by
  have := p_addu (c := c) (env := env) (t := t) (t2 := t2) (ty := ty) (pos := pos) (af := af) (d := d) (B := B) hx hy hk
  rwa [Nat.mod_eq_of_lt h] at this
theorem p_muluw {t t2 : Nat} {a b : Nat} (hx : ev env x = some (.int k (a : Int)) := by rfl) (hy : ev env y = some (.int k (b : Int)) := by rfl) (hk : k.signed = false := by rfl) (h : a * b < 2 ^ k.bits := by first | assumption | (simp only [IntKind.bits] at *; omega) | omega) : OpE c ⟨some d, .binOp .mul t x y t2, ty, pos, af, none⟩ env B (.int k ((a * b : Nat) : Int)) := by
  have := p_mulu (c := c) (env := env) (t := t) (t2 := t2) (ty := ty) (pos := pos) (af := af) (d := d) (B := B) hx hy hk
  rwa [Nat.mod_eq_of_lt h] at this
theorem p_subuw {t t2 : Nat} {a b : Nat} (hx : ev env x = some (.int k (a : Int)) := by rfl) (hy : ev env y = some (.int k (b : Int)) := by rfl) (hk : k.signed = false := by rfl) (h : b ≤ a := by first | assumption | (simp only [IntKind.bits] at *; omega) | omega) (ha : a < 2 ^ k.bits := by first | exact Fits.lt | assumption | decide | (simp only [IntKind.bits] at *; omega) | omega) : OpE c ⟨some d, .binOp .sub t x y t2, ty, pos, af, none⟩ env B (.int k ((a - b : Nat) : Int)) := by
  have := p_subu (c := c) (env := env) (t := t) (t2 := t2) (ty := ty) (pos := pos) (af := af) (d := d) (B := B) hx hy hk (by omega)
  rwa [show (a + (2 ^ k.bits - b)) % 2 ^ k.bits = a - b from by
    rw [show a + (2 ^ k.bits - b) = (a - b) + 2 ^ k.bits from by omega, Nat.add_mod_right, Nat.mod_eq_of_lt (by omega)]] at this
end ops
end Go.Tw
end

section
namespace Go.Tw

def ins (x : Nat) (l : List Nat) : List Nat := bif l.any (Nat.beq x) then l else x :: l
/-- All that must stand ahead of each of the first n. -/
def tclose (ops : Array Oper) : Nat → List (List Nat)
  | 0 => []
  | n + 1 => tclose ops n ++ [(direct ops n).foldl (fun acc e => ((tclose ops n).getD e []).foldl (fun a x => ins x a) (ins e acc)) []]

/-- The same, each row reckoned once. -/
def tcloseL (l : List (List Nat)) : List (List Nat) → List (List Nat)
  | [] => l
  | d :: r => tcloseL (l ++ [d.foldl (fun acc e => (l.getD e []).foldl (fun a x => ins x a) (ins e acc)) []]) r

class Mix (P : Program) : Prop where
  mix : P.follows .mixedOrders = true

abbrev Cls.p : Cls := .flt false
abbrev Cls.r : Cls := .flt true
abbrev Cls.x0 : Cls := .eff 0
abbrev Cls.x1 : Cls := .eff 1
abbrev Cls.x2 : Cls := .eff 2

theorem c_run {c : Cx} {Q : Exit → Act → World → Prop} {env : Env} {B : Own} {id : Nat} {l : List Oper} [hm : Mix c.P] (L : List Cls) (s0 : List Nat)
    (ht : tabOk c.n l.toArray (fun i => L.getD i (.flt true)) (fun i => (tcloseL [] ((List.range l.length).map (direct l.toArray))).getD i []) s0 = true) [hz : ZAll c.P L]
    (h : (keys B).Nodup → Dr c l.toArray Q B (fun i => L.getD i (.flt true)) s0 env B) (hno : noMks L = true := by rfl) : GC c Q (.region id l.toArray true) env B :=
  c_par hm.mix L _ s0 ht (MkSaid.none hno) h
theorem c_runm {c : Cx} {Q : Exit → Act → World → Prop} {env : Env} {B : Own} {id : Nat} {l : List Oper} [hm : Mix c.P] (L : List Cls) (s0 : List Nat)
    (ht : tabOk c.n l.toArray (fun i => L.getD i (.flt true)) (fun i => (tcloseL [] ((List.range l.length).map (direct l.toArray))).getD i []) s0 = true) [hz : ZAll c.P L] (mk : MkSaid c l.toArray (fun i => L.getD i (.flt true)))
    (h : MkSaid c l.toArray (fun i => L.getD i (.flt true)) → (keys B).Nodup → Dr c l.toArray Q B (fun i => L.getD i (.flt true)) s0 env B) : GC c Q (.region id l.toArray true) env B :=
  c_par hm.mix L _ s0 ht mk (h mk)

end Go.Tw
end

section
namespace Go.Tw
section
variable {c : Cx} {Q : Exit → Act → World → Prop} {env : Env} {B Br : Own}

theorem EnvLe.app : ∀ {a b e : Env}, EnvLe a e → EnvLe b e → EnvLe (a ++ b) e
  | [], _, _, _, h => h
  | (_, _) :: _, _, _, h1, h2 => ⟨h1.1, EnvLe.app h1.2 h2⟩

theorem St.part {a : Act} {w : World} (s : St c env B a w) {env' : Env} {B' : Own} (he : EnvLe env' env) [hB : Part B' B Br] : St c env' B' a w where
  defers := s.defers
  size := s.size
  env := fun t v h => s.env t v (he.look t v h)
  has := (hB.perm w s.has).sub (List.sublist_append_left _ _)
  step := { s.step with own := fun k hk => s.step.own k ((hB.keys k).1 (by rw [keys_app]; exact List.mem_append_left _ hk)) }
  reads := s.reads

theorem c_lp {X : Type} {body : Code} (m : X → Nat) (I : Cx → X → Prop) (chg : X → Env) (keep : Env) (BB : X → Own) (x0 : X) (hI : I c x0) (hk : EnvLe keep env) (he : EnvLe (chg x0) env := by repeat (first | exact trivial | refine ⟨rfl, ?_⟩)) (hB : Part (BB x0) B Br := by repeat (first | exact Part.nil | exact Rm.head | apply Part.cons' | apply Rm.tail'))
    (hr : ∀ x, I c x → GC c (Exit.then (fun a w => ∃ y, m y < m x ∧ I c y ∧ St c (chg y ++ keep) (BB y) a w) Q) body (chg x ++ keep) (BB x)) : GC c Q (.loop body) env B := by
  intro a w s
  refine wp_loop_ghost (fun n a w => ∃ x, m x = n ∧ I c x ∧ St c (chg x ++ keep) (BB x) a w) (m x0) ⟨x0, rfl, hI, s.part (hB := hB) (he.app hk)⟩ ?_
  rintro n a w ⟨x, rfl, hI, s⟩
  refine wp_mono (hr x hI a w s) ?_
  intro e a' w' q
  cases e with
  | normal => obtain ⟨y, hy, hs⟩ := q; exact ⟨m y, hy, y, rfl, hs⟩
  | _ => exact q

theorem f_rd {X : Type} {m : X → Nat} {I : X → Prop} {E : X → Env} {BB : X → Own} {mx : Nat} (y : X) (hI : I y := by first | omega | trivial) (hm : m y < mx := by first | omega | (simp; omega))
    (he : EnvLe (E y) env := by repeat (first | exact trivial | refine ⟨rfl, ?_⟩)) (hB : Part (BB y) B Br := by repeat (first | exact Part.nil | exact Rm.head | apply Part.cons' | apply Rm.tail')) :
    Fin c (Exit.then (fun a w => ∃ y, m y < mx ∧ I y ∧ St c (E y) (BB y) a w) Q) .normal env B :=
  fun _ _ s => ⟨y, hm, hI, s.part (hB := hB) he⟩

/-- Only what is needed is kept. -/
theorem f_keep {e : Exit} (keep : Env) (BB : Own) (hk : EnvLe keep env) (hB : Part BB B Br := by repeat (first | exact Part.nil | exact Rm.head | apply Part.cons' | apply Rm.tail')) (h : Fin c Q e keep BB) : Fin c Q e env B := fun _ _ s => h _ _ (s.part (hB := hB) hk)

/-- Two ways come together. -/
theorem c_join {code rest : Code} {X : Type} (I : Cx → X → Prop) (E : X → Env) (BB : X → Own)
    (h1 : GC c (Exit.then (fun a w => ∃ x, I c x ∧ St c (E x) (BB x) a w) Q) code env B) (h2 : ∀ x, I c x → GC c Q rest (E x) (BB x)) : GC c Q (.seq code rest) env B := by
  refine c_seq (fun a w s => wp_mono (h1 a w s) ?_)
  intro e a' w' q
  cases e with
  | normal => obtain ⟨x, hI, hs⟩ := q; exact h2 x hI a' w' hs
  | _ => exact q
theorem c_join2 {code rest : Code} {X : Type} (I : Cx → X → Prop) (E : X → Env) (BB : X → Own)
    (h1 : GC c (Exit.then (fun a w => ∃ x, I c x ∧ St c (E x) (BB x) a w) Q) code env B) (h2 : ∀ x, I c x → GC c Q rest (E x) (BB x)) : GC c (Exit.then (fun a w => rest.wp c.P Q a w) Q) code env B := by
  intro a w s
  refine wp_mono (h1 a w s) ?_
  intro e a' w' q
  cases e with
  | normal => obtain ⟨x, hI, hs⟩ := q; exact h2 x hI a' w' hs
  | _ => exact q
theorem f_join {X : Type} {I : X → Prop} {E : X → Env} {BB : X → Own} (x : X) (hI : I x := by first | omega | trivial) (he : EnvLe (E x) env := by repeat (first | exact trivial | refine ⟨rfl, ?_⟩)) (hB : Part (BB x) B Br := by repeat (first | exact Part.nil | exact Rm.head | apply Part.cons' | apply Rm.tail')) :
    Fin c (Exit.then (fun a w => ∃ x, I x ∧ St c (E x) (BB x) a w) Q) .normal env B := fun _ _ s => ⟨x, hI, s.part (hB := hB) he⟩

theorem c_own {code : Code} {B2 : Own} (h : B = B2) (hc : GC c Q code env B2) : GC c Q code env B := by subst h; exact hc
theorem f_own {e : Exit} {B2 : Own} (h : B = B2) (hc : Fin c Q e env B2) : Fin c Q e env B := by subst h; exact hc
theorem c_env {code : Code} {env2 : Env} (h : env = env2) (hc : GC c Q code env2 B) : GC c Q code env B := by subst h; exact hc
theorem g_own {ops : Array Oper} {l : List Oper} {B2 : Own} (h : B = B2) (hc : GL c ops Q l env B2) : GL c ops Q l env B := by subst h; exact hc
/-- A plain fact that the state tells. -/
theorem c_fact {p : Prop} {code : Code} (hp : ∀ a w, St c env B a w → p) (h : p → GC c Q code env B) : GC c Q code env B := fun a w s => h (hp a w s) a w s

/-! Returns: what is owned, in whatever order. -/
section ret
variable {fn : Func} {Bp B' : Own} {Post : Value → Own → Prop} {v : Value}

theorem f_r {e : Exit} (he : e = .ret ∨ e = .normal) (hK : c.K = keys Bp) (hD : c.D = []) (hv : ∀ a w, St c env B a w → (results fn a.tmps).run c.P w = .ok v w) (hp : Post v B') (hB : Part B' B Br) :
    Fin c (Ret c.P fn c.w0 Bp Post) e env B := by
  intro a w st
  have st' := st.part (hB := hB) (env' := []) (B' := B') trivial
  have : bodyPost c.P fn (fun e w' => ∃ v B', e = .returned v ∧ Post v B' ∧ Has w' B' ∧ Step (keys Bp) c.w0 w' B') .ret a w :=
    ⟨st.defers.trans hD, v, hv a w st, v, B', rfl, hp, st'.has, by rw [← hK]; exact st'.step⟩
  rcases he with rfl | rfl
  · exact this
  · exact this
theorem f_r1 {e : Exit} (he : e = .ret ∨ e = .normal) {t : Nat} (hr : fn.results = #[.tmp t]) (hp : Post v B') (hv : look env t = some v := by rfl) (hK : c.K = keys Bp := by rfl) (hD : c.D = [] := by rfl) (hB : Part B' B Br := by repeat (first | exact Part.nil | exact Rm.head | apply Part.cons' | apply Rm.tail')) :
    Fin c (Ret c.P fn c.w0 Bp Post) e env B :=
  f_r he hK hD (fun a w st => by rw [results_tmp hr]; have := st.eval hv; simp only [Act.eval] at this; rw [this]) hp hB
theorem f_r0 {e : Exit} (he : e = .ret ∨ e = .normal) (hr : fn.results = #[]) (hp : Post (.tuple #[]) B') (hK : c.K = keys Bp := by rfl) (hD : c.D = [] := by rfl) (hB : Part B' B Br := by repeat (first | exact Part.nil | exact Rm.head | apply Part.cons' | apply Rm.tail')) :
    Fin c (Ret c.P fn c.w0 Bp Post) e env B :=
  f_r he hK hD (fun a w st => by rw [results_none hr]) hp hB
theorem f_r2 {e : Exit} (he : e = .ret ∨ e = .normal) {t u : Nat} {v1 v2 : Value} (hr : fn.results = #[.tmp t, .tmp u]) (hp : Post (.tuple #[v1, v2]) B') (hv : look env t = some v1 := by rfl) (hu : look env u = some v2 := by rfl) (hK : c.K = keys Bp := by rfl) (hD : c.D = [] := by rfl) (hB : Part B' B Br := by repeat (first | exact Part.nil | exact Rm.head | apply Part.cons' | apply Rm.tail')) :
    Fin c (Ret c.P fn c.w0 Bp Post) e env B :=
  f_r he hK hD (fun a w st => by
    rw [results_tmp2 hr]
    have h1 := st.eval hv; have h2 := st.eval hu
    simp only [Act.eval] at h1 h2; rw [h1, h2]) hp hB
theorem f_r3 {e : Exit} (he : e = .ret ∨ e = .normal) {t u s : Nat} {v1 v2 v3 : Value} (hr : fn.results = #[.tmp t, .tmp u, .tmp s]) (hp : Post (.tuple #[v1, v2, v3]) B') (hv : look env t = some v1 := by rfl) (hu : look env u = some v2 := by rfl) (hs : look env s = some v3 := by rfl) (hK : c.K = keys Bp := by rfl) (hD : c.D = [] := by rfl) (hB : Part B' B Br := by repeat (first | exact Part.nil | exact Rm.head | apply Part.cons' | apply Rm.tail')) :
    Fin c (Ret c.P fn c.w0 Bp Post) e env B :=
  f_r he hK hD (fun a w st => by simp [results, hr, st.env _ _ hv, st.env _ _ hu, st.env _ _ hs]) hp hB
theorem f_rm {e : Exit} (he : e = .ret ∨ e = .normal) {t ty n y b : Nat} {cs : List Value} {T : TypeId} {fr : Nat × Nat} [Agg c.P ty] [Inf c.P ty n y] (hr : fn.results = #[.cell t ty]) (hp : Post (.agg cs.toArray) B') (hv : look env t = some (ptr b 0) := by rfl) [hb : InB b (.cells cs.toArray T fr) B]
    (hl : cs.length = n := by first | (simp; done) | (simp [*]; done) | rfl | (simp [*]; done)) (hK : c.K = keys Bp := by rfl) (hD : c.D = [] := by rfl) (hB : Part B' B Br := by repeat (first | exact Part.nil | exact Rm.head | apply Part.cons' | apply Rm.tail')) : Fin c (Ret c.P fn c.w0 Bp Post) e env B :=
  f_r he hK hD (fun a w st => by
    have := run_cellvar (ty := ty) hb.mem hl st
    simp [results, hr, st.env _ _ hv, asAddr, this]) hp hB
theorem f_rmt {e : Exit} (he : e = .ret ∨ e = .normal) {t u ty n y b : Nat} {v2 : Value} {cs : List Value} {T : TypeId} {fr : Nat × Nat} [Agg c.P ty] [Inf c.P ty n y] (hr : fn.results = #[.cell t ty, .tmp u]) (hp : Post (.tuple #[.agg cs.toArray, v2]) B') (hv : look env t = some (ptr b 0) := by rfl) (hu : look env u = some v2 := by rfl) [hb : InB b (.cells cs.toArray T fr) B]
    (hl : cs.length = n := by first | (simp; done) | (simp [*]; done) | rfl | (simp [*]; done)) (hK : c.K = keys Bp := by rfl) (hD : c.D = [] := by rfl) (hB : Part B' B Br := by repeat (first | exact Part.nil | exact Rm.head | apply Part.cons' | apply Rm.tail')) : Fin c (Ret c.P fn c.w0 Bp Post) e env B :=
  f_r he hK hD (fun a w st => by
    have := run_cellvar (ty := ty) hb.mem hl st
    simp [results, hr, st.env _ _ hv, st.env _ _ hu, asAddr, this]) hp hB
theorem f_rmm {e : Exit} (he : e = .ret ∨ e = .normal) {t ty n y b t2 ty2 n2 y2 b2 : Nat} {cs cs2 : List Value} {T T2 : TypeId} {fr fr2 : Nat × Nat} [Agg c.P ty] [Inf c.P ty n y] [Agg c.P ty2] [Inf c.P ty2 n2 y2] (hr : fn.results = #[.cell t ty, .cell t2 ty2]) (hp : Post (.tuple #[.agg cs.toArray, .agg cs2.toArray]) B')
    (hv : look env t = some (ptr b 0) := by rfl) [hb : InB b (.cells cs.toArray T fr) B] (hv2 : look env t2 = some (ptr b2 0) := by rfl) [hb2 : InB b2 (.cells cs2.toArray T2 fr2) B] (hl : cs.length = n := by first | (simp; done) | (simp [*]; done) | rfl | (simp [*]; done)) (hl2 : cs2.length = n2 := by first | (simp; done) | (simp [*]; done) | rfl | (simp [*]; done))
    (hK : c.K = keys Bp := by rfl) (hD : c.D = [] := by rfl) (hB : Part B' B Br := by repeat (first | exact Part.nil | exact Rm.head | apply Part.cons' | apply Rm.tail')) : Fin c (Ret c.P fn c.w0 Bp Post) e env B :=
  f_r he hK hD (fun a w st => by
    have := run_cellvar (ty := ty) hb.mem hl st
    have h2 := run_cellvar (ty := ty2) hb2.mem hl2 st
    simp [results, hr, st.env _ _ hv, st.env _ _ hv2, asAddr, this, h2]) hp hB
end ret
end
end Go.Tw
end

section
namespace Go.Tw

/-- What a package variable's block holds. -/
def glF (g : Nat) (cs : List Value) (T : TypeId) : Fact := ⟨fun w => w.heap[g]? = some (.cells cs.toArray T (0, 0)), fun b => b = g⟩
class InG (g : Nat) (cs : outParam (List Value)) (T : outParam TypeId) (R : List Fact) : Prop where
  mem : glF g cs T ∈ R
instance InG.head {g : Nat} {cs : List Value} {T : TypeId} {R : List Fact} : InG g cs T (glF g cs T :: R) := ⟨List.mem_cons_self⟩
instance InG.tail {g : Nat} {cs : List Value} {T : TypeId} {f : Fact} {R : List Fact} [h : InG g cs T R] : InG g cs T (f :: R) := ⟨List.mem_cons_of_mem _ h.mem⟩

instance RdAll.consG {c : Cx} {B : Own} {g : Nat} {cs : List Value} {T : TypeId} {R : List Fact} [h1 : InG g cs T c.R] [h2 : RdAll c B R] : RdAll c B (glF g cs T :: R) := ⟨fun env a w st f hf => by
  rcases List.mem_cons.1 hf with rfl | hf
  · have hr : w.heap[g]? = some (.cells cs.toArray T (0, 0)) := st.read h1.mem
    refine ⟨⟨fun w' hw => ?_, ?_⟩, ?_⟩
    · show w'.heap[g]? = _
      rw [hw g rfl]; exact hr
    · rintro b rfl
      exact heap_lt hr
    · rintro b rfl
      exact Or.inr (st.reads.dis _ h1.mem _ rfl)
  · exact h2.rd _ _ _ st f hf⟩

section ops
variable {c : Cx} {env : Env} {B : Own} {d ty : Nat} {pos : String} {af : Array Edge} {x y z : Operand} {v vx vy : Value} {N : Value → Own → Prop} {k : IntKind}

theorem p_load_gall {t n y' g : Nat} {cs : List Value} {T : TypeId} [Agg c.P t] [Inf c.P t n y'] (hx : ev env x = some (ptr g 0) := by rfl) [hb : InG g cs T c.R] (hl : cs.length = n := by first | (simp; done) | (simp [*]; done) | rfl | (simp; omega) | (simp [*]; done) | (simp [*]; omega)) :
    OpE c ⟨some d, .load t x, ty, pos, af, none⟩ env B (.agg cs.toArray) :=
  fun a w s => by
    have hb' : w.heap[g]? = some (.cells cs.toArray T (0, 0)) := s.read hb.mem
    have := run_loadVar_agg (P := c.P) (t := t) (w := w) (b := g) (off := 0) hl (fun j u hj => by rw [Nat.zero_add, cell_blk hb']; exact hj)
    simp [execOp, s.ev hx, Instr.loadAt, Instr.sureAddr, this]
theorem p_load_gone {t g off : Nat} {cs : List Value} {T : TypeId} [Sca c.P t] (hx : ev env x = some (ptr g off) := by rfl) [hb : InG g cs T c.R] (hc : cs[off]? = some v) : OpE c ⟨some d, .load t x, ty, pos, af, none⟩ env B v :=
  fun a w s => by
    have hb' : w.heap[g]? = some (.cells cs.toArray T (0, 0)) := s.read hb.mem
    have := run_loadVar_one (P := c.P) (t := t) (w := w) (ad := ⟨g, off, none⟩) (v := v) (by rw [cell_blk hb']; exact hc)
    simp [execOp, s.ev hx, Instr.loadAt, Instr.sureAddr, this]
theorem p_load_gu {t g off : Nat} {l : List Nat} {T : TypeId} [Sca c.P t] (hx : ev env x = some (ptr g off) := by rfl) [hb : InG g (us k l) T c.R] (ho : off < l.length := by first | omega | (simp; done) | (simp; omega) | (simp [*]; done) | (simp [*]; omega)) :
    OpE c ⟨some d, .load t x, ty, pos, af, none⟩ env B (.int k ((l.getD off 0 : Nat) : Int)) := p_load_gone hx (us_get ho)

/-- Into a variable's cells from place o on: min of both lengths. -/
theorem e_copy {t1 t2 e b o dl dc sn m y' : Nat} {cs xs cs' : List Value} {T : TypeId} {B' : Own} [hu : Und c.P t1 (.slice e)] [hi : Inf c.P e 1 y'] (hx : ev env x = some (.slice (some ⟨b, o, none⟩) dl dc) := by rfl) (hy : ev env y = some vy := by rfl)
    [hb : InB b (.cells cs.toArray T (0, 0)) B] [hr : Rd c B vy 1 sn xs] (hm : min sn dl = m) (h1 : ∀ u ∈ xs, u.oneCell' = true := by first | exact us_one | exact is_one | (simp; done)) (hfit : o + m ≤ cs.length := by first | omega | (simp; done) | (simp; omega) | (simp [*]; omega))
    [hup0 : Up (.blk b (.cells cs.toArray T (0, 0))) (.blk b (.cells cs'.toArray T (0, 0))) B B'] (h : N (.int .i64 (m : Int)) B') (hl0 : cs.take o ++ xs.take m ++ cs.drop (o + m) = cs' := by rfl) : OpX c ⟨some d, .call ⟨.builtin .copy, #[x, y], #[t1, t2]⟩, ty, pos, af, none⟩ env B N := by
  have hup := hup0
  rw [← hl0] at hup
  refine opx (X := Unit) (v := fun _ => .int .i64 (m : Int)) (B' := fun _ => B') (fun a w st => ?_) (fun _ => h)
  obtain ⟨hl, ad, cap, rfl, hcap, hq⟩ := hr.rd _ _ _ st
  have hbk : w.heap[b]? = some (.cells cs.toArray T (0, 0)) := st.has.ent _ hb.mem
  obtain ⟨i, hi1, hi2, _⟩ := hi.inf
  have hlen : (xs.take m).length = m := by simp; omega
  have hlm : m = Nat.min sn dl := hm.symm
  refine ⟨(), w.setRow b (cs.take o ++ xs.take m ++ cs.drop (o + m)).toArray, ?_, LS.row hup.up st.has⟩
  have key : (Builtin.copy_ #[t1, t2] ty #[.slice (some ⟨b, o, none⟩) dl dc, .slice ad sn cap]).run c.P w = .ok (goInt m) (w.setRow b (cs.take o ++ xs.take m ++ cs.drop (o + m)).toArray) := by
    have hst := run_storeCells_at c.P b o T (xs.take m) 0 cs.toArray w hbk (by rw [hlen]; simpa using hfit) (fun u hu => h1 u (List.mem_of_mem_take hu))
    rw [hlen] at hst
    simp only at hst
    rcases hq with h0 | ⟨b', off, rfl, hq⟩
    · subst h0
      have hm0 : m = 0 := by omega
      subst hm0
      simp only [List.take_zero] at hst ⊢
      have hf : (Builtin.firstCells 1 0 (.slice ad 0 cap)).run c.P w = .ok #[] w := by
        cases ad <;> simp [Builtin.firstCells, loadCells, loadCellsFrom]
      simp [Builtin.copy_, run_und, Builtin.lenOf, run_inf hi.inf, hf]
      simp at hst
      rw [hst]; simp
    · have hld := run_loadCells_list (P := c.P) w ⟨b', off, none⟩ (xs.take m) (fun j u hj => by
        rw [Addr.add_lit]
        refine hq j u ?_
        have hlt : j < m := by
          rcases Nat.lt_or_ge j m with h | h
          · exact h
          · rw [List.getElem?_eq_none (by simp; omega)] at hj; cases hj
        rwa [List.getElem?_take_of_lt hlt] at hj)
      rw [hlen] at hld
      simp [Builtin.copy_, run_und, Builtin.lenOf, Builtin.firstCells, run_inf hi.inf, ← hlm, hld]
      simp at hst
      rw [hst]; simp
  simp [execOp, resolve, invoke, builtin, st.ev hx, st.ev hy, key]
  simp [goInt]

end ops
end Go.Tw
end

section
namespace Go.Tw

def lput (cs vs : List Value) (off : Nat) : List Value := cs.take off ++ vs ++ cs.drop (off + vs.length)

theorem lput_set {cs vs : List Value} {p : Nat} {u : Value} (h : p < cs.length) : lput (cs.set p u) vs (p + 1) = lput cs (u :: vs) p := by
  unfold lput
  rw [List.drop_set_of_lt (by omega), List.take_set, List.length_cons]
  have e1 : (cs.take (p + 1)).set p u = cs.take p ++ [u] := by
    rw [List.take_succ_eq_append_getElem h, List.set_append_right _ _ (by simp; omega)]
    have : p - (cs.take p).length = 0 := by simp; omega
    rw [this]; rfl
  rw [e1]
  have e2 : p + 1 + vs.length = p + (vs.length + 1) := by omega
  rw [e2]
  simp

theorem fold_put (off : Nat) : ∀ (vs : List Value) (k : Nat) (cs : Array Value), off + k + vs.length ≤ cs.size →
    (vs.zipIdx k).foldl (fun cs p => cs.setIfInBounds (off + p.2) p.1) cs = (lput cs.toList vs (off + k)).toArray
  | [], k, cs, _ => by simp [lput]
  | u :: vs, k, cs, h => by
    simp only [List.length_cons] at h
    rw [List.zipIdx_cons, List.foldl_cons, fold_put off vs (k + 1) _ (by simp; omega)]
    have := lput_set (cs := cs.toList) (vs := vs) (p := off + k) (u := u) (by simp; omega)
    rw [← this]
    simp [Nat.add_assoc]

def lfill (place : Nat → Option (Nat × Nat)) : List Value → List (Nat × Value) → Option (List Value)
  | cs, [] => some cs
  | cs, (i, v) :: r => match place i with
    | none => none
    | some (off, size) => if v.cells.toList.length = size ∧ off + size ≤ cs.length then lfill place (lput cs v.cells.toList off) r else none

theorem lfill_fill (place : Nat → Option (Nat × Nat)) : ∀ (vs : List (Nat × Value)) (cs l : List Value), lfill place cs vs = some l → Instr.fill place cs.toArray vs = some l.toArray
  | [], cs, l, h => by simp only [lfill, Option.some.injEq] at h; subst h; rfl
  | (i, v) :: r, cs, l, h => by
    simp only [lfill] at h
    unfold Instr.fill
    split at h
    · cases h
    · next off size hp =>
      split at h
      · next hs =>
        simp only [Array.length_toList] at hs
        simp only [hp]
        rw [if_neg (by simp; omega)]
        have e : v.cells.zipIdx.foldl (fun cs x => cs.setIfInBounds (off + x.2) x.1) cs.toArray = (lput cs v.cells.toList off).toArray := by
          have := fold_put off v.cells.toList 0 cs.toArray (by simp; omega)
          simp only [Nat.add_zero] at this
          rw [← this, ← Array.foldl_toList, Array.toList_zipIdx]
        rw [e]
        exact lfill_fill place r _ _ h
      · cases h

def evps (env : Env) : List (Nat × Operand) → Option (List (Nat × Value))
  | [] => some []
  | (i, x) :: r => match ev env x, evps env r with
    | some v, some vs => some ((i, v) :: vs)
    | _, _ => none
theorem St.evps {c : Cx} {env : Env} {B : Own} {a : Act} {w : World} (s : St c env B a w) : ∀ {xs : List (Nat × Operand)} {vs : List (Nat × Value)}, evps env xs = some vs → xs.map (fun p => (p.1, a.eval p.2)) = vs
  | [], vs, h => by simp only [Tw.evps, Option.some.injEq] at h; exact h
  | (i, x) :: r, vs, h => by
    simp only [Tw.evps] at h
    split at h
    · next v vs' h1 h2 =>
      simp only [Option.some.injEq] at h
      subst h
      rw [List.map_cons, s.ev h1, s.evps h2]
    · cases h

/-- Where a struct's fields lie: offset and size. -/
class Str (P : Program) (t : TypeId) (pl : outParam (List (Nat × Nat))) : Prop where
  str : ∃ fs, P.underlying t = some (.struct fs) ∧ ∀ w, (fs.mapM fun f => do pure (f.offset, ← sizeOf f.type) : Sem (Array (Nat × Nat))).run P w = .ok pl.toArray w

section ops
variable {c : Cx} {env : Env} {B : Own} {d ty : Nat} {pos : String} {af : Array Edge} {N : Value → Own → Prop}

theorem p_barr {t n e size bytes : Nat} {zs : List Value} [hu : Und c.P t (.array n e)] [hi : Inf c.P e size bytes] [hz : Zer c.P t zs] {parts : List (Nat × Operand)} {vs : List (Nat × Value)} {cells : List Value}
    (hf : lfill (fun i => some (i * size, size)) zs vs = some cells) (hp : evps env parts = some vs := by rfl) : OpE c ⟨some d, .build t parts.toArray, ty, pos, af, none⟩ env B (.agg cells.toArray) :=
  p_build_arr (vs := vs) (fun a w st => by have := st.evps hp; simp [← this]) (lfill_fill _ _ _ _ hf)

theorem p_bstr {t : Nat} {pl : List (Nat × Nat)} {zs : List Value} [hu : Str c.P t pl] [hz : Zer c.P t zs] {parts : List (Nat × Operand)} {vs : List (Nat × Value)} {cells : List Value}
    (hf : lfill (fun i => pl[i]?) zs vs = some cells) (hp : evps env parts = some vs := by rfl) : OpE c ⟨some d, .build t parts.toArray, ty, pos, af, none⟩ env B (.agg cells.toArray) :=
  fun a w st => by
    obtain ⟨fs, hf1, hf2⟩ := hu.str
    obtain ⟨z, hz1, hz2⟩ := run_zer (P := c.P) (t := t) w
    have hp' := st.evps hp
    have hp2 : (parts.toArray.map fun (i, x) => (i, a.eval x)) = vs.toArray := by simp [← hp']
    have hfl := lfill_fill _ _ _ _ hf
    have h3 := hf2 w
    simp only [execOp, Instr.build, hp2, Sem.run_bind, hz1, Result.andThen_ok, hz2]
    have hul : (underlying t).run c.P w = .ok (.struct fs) w := by simp [underlying, hf1]
    simp only [Sem.run_bind, hul, Result.andThen_ok, h3]

    simp [hfl]

theorem e_bsl {t e size bytes len : Nat} {zs : List Value} [hu : Und c.P t (.slice e)] [hi : Inf c.P e size bytes] [hz : Zer c.P e zs] {parts : List (Nat × Operand)} {vs : List (Nat × Value)} {cells : List Value}
    (hf : lfill (fun i => some (i * size, size)) (List.replicate len zs).flatten vs = some cells) (hcl : cells.length = len * size := by first | rfl | (simp; done)) (hp : evps env parts = some vs := by rfl) (hzs : zs.length = size := by rfl) (hlen : len ≤ 1048576 := by decide) (hby : size ≤ 16 := by decide) (h0 : 0 < size := by decide)
    (h : ∀ v', v' ≠ .slice none 0 0 → N v' (.sl v' e size len cells :: B)) : OpX c ⟨some d, .buildSlice t len parts.toArray, ty, pos, af, none⟩ env B N :=
  e_build_sl (vs := vs) (fun a w st => by have := st.evps hp; simp [← this]) hlen hby (by
    have key : (if len * size = 0 then #[] else (Array.range (len * size)).map (zs.toArray[· % zs.toArray.size]!)) = (List.replicate len zs).flatten.toArray := by
      apply Array.toList_inj.1
      have hg : ∀ n, ((List.range (n * size)).map fun i => zs.toArray[i % zs.toArray.size]!) = (List.replicate n zs).flatten := by
        intro n
        induction n with
        | zero => simp
        | succ n ih =>
          rw [Nat.succ_mul, List.range_add, List.map_append, ih, List.replicate_succ', List.flatten_append]
          congr 1
          simp only [List.map_map, List.flatten_cons, List.flatten_nil, List.append_nil]
          apply List.ext_getElem
          · simp [hzs]
          · intro i h1 h2
            simp only [List.getElem_map, List.getElem_range, Function.comp, List.size_toArray, hzs]
            rw [Nat.add_comm, Nat.add_mul_mod_self_right, Nat.mod_eq_of_lt (by omega)]
            simp [h2]
      split
      · next h0' =>
        have : len = 0 := by rcases Nat.mul_eq_zero.1 h0' with h | h <;> omega
        subst this; rfl
      · simp only [Array.toList_map, Array.toList_range]; exact hg len
    rw [key]
    exact lfill_fill _ _ _ _ hf) hcl h
end ops
end Go.Tw
end

section
namespace Go.Tw
section ops
variable {c : Cx} {env : Env} {B : Own} {d ty : Nat} {pos : String} {af : Array Edge} {x y z : Operand} {v vx vy : Value} {N : Value → Own → Prop} {k : IntKind} {o : Oper}

theorem p_eq {v' : Value} (hp : OpE c o env B v) (h : v = v') : OpE c o env B v' := by subst h; exact hp
theorem p_nat {a b : Nat} (hp : OpE c o env B (.int k (a : Int))) (h : a = b) : OpE c o env B (.int k (b : Int)) := by subst h; exact hp
theorem p_bool {p q : Prop} [Decidable p] [Decidable q] (hp : OpE c o env B (.bool (decide p))) (h : p ↔ q) : OpE c o env B (.bool (decide q)) := by
  rw [show decide q = decide p from by simp [h]]; exact hp

theorem e_bsl1 {t e bytes : Nat} {z0 : Value} {a : Nat} [hu : Und c.P t (.slice e)] [hi : Inf c.P e 1 bytes] [hz : Zer c.P e [z0]] (hx : ev env x = some (.int k (a : Int)) := by rfl) (h : ∀ v', v' ≠ .slice none 0 0 → N v' (.sl v' e 1 1 (us k [a]) :: B)) : OpX c ⟨some d, .buildSlice t 1 #[(0, x)], ty, pos, af, none⟩ env B N :=
  e_bsl (t := t) (size := 1) (zs := [z0]) (parts := [(0, x)]) (vs := [(0, .int k (a : Int))]) (cells := us k [a]) (by rfl) rfl (by simp only [evps, hx]) rfl (by decide) (Nat.le_of_ble_eq_true rfl) Nat.one_pos h

/-- Numbers behind numbers. -/
theorem e_app {t e bytes : Nat} {z0 : Value} [hu : Und c.P t (.slice e)] [hi : Inf c.P e 1 bytes] [hz : Zer c.P e [z0]] {n m n' : Nat} {l news l' : List Nat} (hx : ev env x = some v := by rfl) (hy : ev env y = some vy := by rfl)
    [hs : InSl v e 1 n (us k l) B] [hr : Rd c B vy 1 m (us k news)] {B' : Value → Own} [hup : ∀ v', Up (.sl v e 1 n (us k l)) (.sl v' e 1 n' (us k l')) B (B' v')]
    (hbytes : (n + m) * bytes ≤ 140737488355328 := by first | omega | (simp only [IntKind.bits] at *; omega)) (h63 : n + m ≤ 9223372036854775807 := by first | omega | (simp only [IntKind.bits] at *; omega)) (h : ∀ v', N v' (B' v')) (hn : n + m = n' := by rfl) (hl : l ++ news = l' := by rfl) : OpX c ⟨some d, .call ⟨.builtin .append, #[x, y], #[t, t]⟩, ty, pos, af, none⟩ env B N := by
  have hup' := hup
  simp only [← hl, ← hn, ← us_append] at hup'
  exact e_append (hup := hup') (size := 1) hx hy rfl (by decide) us_one hbytes h63 h

/-- Into numbers of a variable, from place o on. -/
theorem e_copyu {t1 t2 e b o dl dc sn m y' : Nat} {l l' xs : List Nat} {T : TypeId} {B' : Own} [hu : Und c.P t1 (.slice e)] [hi : Inf c.P e 1 y'] (hx : ev env x = some (.slice (some ⟨b, o, none⟩) dl dc) := by rfl) (hy : ev env y = some vy := by rfl)
    [hb : InB b (.cells (us k l).toArray T (0, 0)) B] [hr : Rd c B vy 1 sn (us k xs)] (hm : min sn dl = m) (hfit : o + m ≤ l.length := by first | omega | (simp; done) | (simp; omega) | (simp [*]; omega))
    [hup : Up (.blk b (.cells (us k l).toArray T (0, 0))) (.blk b (.cells (us k l').toArray T (0, 0))) B B'] (h : N (.int .i64 (m : Int)) B') (hl : l.take o ++ xs.take m ++ l.drop (o + m) = l' := by rfl) : OpX c ⟨some d, .call ⟨.builtin .copy, #[x, y], #[t1, t2]⟩, ty, pos, af, none⟩ env B N := by
  exact e_copy hx hy hm us_one (by simpa using hfit) h (by rw [us_take, us_take, us_drop, us_append, us_append, hl])

/-- Into a slice of one's own, from its begin on. -/
theorem e_copysl {t1 t2 e T n sn m y' : Nat} {xs cs xs' : List Value} {B' : Own} [hu : Und c.P t1 (.slice e)] [hi : Inf c.P e 1 y'] (hx : ev env x = some vx := by rfl) (hy : ev env y = some vy := by rfl)
    [hb : InSl vx T 1 n cs B] [hr : Rd c B vy 1 sn xs] (hm : min sn n = m) (h1 : ∀ u ∈ xs, u.oneCell' = true := by first | exact us_one | exact is_one | (simp; done))
    [hup : Up (.sl vx T 1 n cs) (.sl vx T 1 n xs') B B'] (h : N (.int .i64 (m : Int)) B') (hl : xs.take m ++ cs.drop m = xs' := by rfl) : OpX c ⟨some d, .call ⟨.builtin .copy, #[x, y], #[t1, t2]⟩, ty, pos, af, none⟩ env B N := by
  refine opx (X := Unit) (v := fun _ => .int .i64 (m : Int)) (B' := fun _ => B') (fun a w st => ?_) (fun _ => h)
  obtain ⟨hls, ad, cap, rfl, hcap, hq⟩ := hr.rd _ _ _ st
  have hown : w.ownsRow 0 T 1 vx n cs := st.has.ent _ hb.mem
  obtain ⟨i, hi1, hi2, _⟩ := hi.inf
  have hlen : (xs.take m).length = m := by simp; omega
  have hlm : m = Nat.min sn n := hm.symm
  have hf : (Builtin.firstCells 1 m (.slice ad sn cap)).run c.P w = .ok (xs.take m).toArray w := by
    rcases hq with h0 | ⟨b', off, rfl, hq⟩
    · have hm0 : m = 0 := by omega
      rw [hm0, List.take_zero]
      cases ad <;> simp [Builtin.firstCells, loadCells, loadCellsFrom]
    · have hld := run_loadCells_list (P := c.P) w ⟨b', off, none⟩ (xs.take m) (fun j u hj => by
        rw [Addr.add_lit]
        refine hq j u ?_
        have hlt : j < m := by
          rcases Nat.lt_or_ge j m with h | h
          · exact h
          · rw [List.getElem?_eq_none (by simp; omega)] at hj; cases hj
        rwa [List.getElem?_take_of_lt hlt] at hj)
      rw [hlen] at hld
      simp [Builtin.firstCells, hld]
  rcases hown.2 with ⟨rfl, rfl⟩ | ⟨g, cap', cur, rfl, h0, hg, hn, hmx, hc, ht⟩
  · have hm0 : m = 0 := by omega
    subst hm0
    have hcs : cs = [] := List.eq_nil_of_length_eq_zero (by simpa using hown.1)
    subst hcs
    have hxs : xs' = [] := by rw [← hl]; rfl
    subst hxs
    refine ⟨(), w, ?_, LS.own hup.up st.has hown ⟨rfl, rfl, rfl, Nat.le_refl _, fun _ _ _ => rfl⟩ (fun b hb => Or.inl hb)⟩
    simp only [List.take_zero] at hf
    simp [execOp, resolve, invoke, builtin, st.ev hx, st.ev hy, Builtin.copy_, run_und, Builtin.lenOf, run_inf hi.inf, hf, goInt]
  · have hst := run_storeCells_at c.P g 0 T (xs.take m) 0 cur w hg (by simp [hlen, hc]; omega) (fun u hu => h1 u (List.mem_of_mem_take hu))
    rw [hlen] at hst
    simp only [Nat.zero_add, List.take_zero, List.nil_append] at hst
    have hlx := hown.1
    refine ⟨(), w.setRow g (xs.take m ++ cur.toList.drop m).toArray, ?_, LS.own hup.up st.has ⟨by rw [← hl]; simp [hlx]; omega, .inr ⟨g, cap', _, rfl, h0, setRow_heap w g cur _ T _ hg, hn, hmx, by simp [hc]; omega, ?_⟩⟩ ⟨rfl, rfl, rfl, by simp, fun k _ hk => setRow_other w g k _ (by rintro rfl; exact hk rfl)⟩ (fun b hb => Or.inl hb)⟩
    · have key : (Builtin.copy_ #[t1, t2] ty #[.slice (some ⟨g, 0, none⟩) n cap', .slice ad sn cap]).run c.P w = .ok (goInt m) (w.setRow g (xs.take m ++ cur.toList.drop m).toArray) := by
        simp [Builtin.copy_, run_und, Builtin.lenOf, run_inf hi.inf, ← hlm, hf]
        rw [hst]; simp
      simp [execOp, resolve, invoke, builtin, st.ev hx, st.ev hy, key]
      simp [goInt]
    · rw [← hl, ← ht, List.take_append, hlen, List.take_of_length_le (by rw [hlen]; omega), List.drop_take]
theorem e_copyslu {t1 t2 e T n sn m y' : Nat} {xs cs xs' : List Nat} {B' : Own} [hu : Und c.P t1 (.slice e)] [hi : Inf c.P e 1 y'] (hx : ev env x = some vx := by rfl) (hy : ev env y = some vy := by rfl)
    [hb : InSl vx T 1 n (us k cs) B] [hr : Rd c B vy 1 sn (us k xs)] (hm : min sn n = m) [hup : Up (.sl vx T 1 n (us k cs)) (.sl vx T 1 n (us k xs')) B B'] (h : N (.int .i64 (m : Int)) B') (hl : xs.take m ++ cs.drop m = xs' := by rfl) : OpX c ⟨some d, .call ⟨.builtin .copy, #[x, y], #[t1, t2]⟩, ty, pos, af, none⟩ env B N := by
  exact e_copysl hx hy hm us_one h (by rw [us_take, us_drop, us_append, hl])
end ops
end Go.Tw
namespace Go.Tw
theorem p_ext {c : Cx} {env : Env} {B : Own} {d ty : Nat} {pos : String} {af : Array Edge} {x : Operand} {i : Nat} {vs : List Value} {v : Value} (hx : ev env x = some (.tuple vs.toArray)) (hi : vs[i]? = some v) : OpE c ⟨some d, .extract x i, ty, pos, af, none⟩ env B v :=
  p_extract hx (by simpa using hi)
/-- A call of a function that the model stands in for. -/
theorem p_extern {c : Cx} {env : Env} {B : Own} {d ty : Nat} {pos : String} {af : Array Edge} {v : Value} {f : FuncId} {args : Array Operand} {tys : Array TypeId} {vs : List Value}
    (hr : ∀ w, (callFunc f vs.toArray).run c.P w = .ok (.value v) w) (hv : evs env args.toList = some vs := by rfl) : OpE c ⟨some d, .call ⟨.value (.func f), args, tys⟩, ty, pos, af, none⟩ env B v := fun a w st => by
  have hargs : args.map a.eval = vs.toArray := by
    have := st.evs hv
    apply Array.toList_inj.1; simpa using this
  have h0 : a.eval (.func f) = .func (.func f) #[] #[] := rfl
  simp only [execOp, resolve, h0, hargs, Deferred.ofValue, Sem.run_bind, Sem.run_pure, Result.andThen_ok, invoke, Array.empty_append, Array.append_empty, hr]

def sub64Entry : Array Value → Sem Value := fun args => do
  let (x, y, b) ← Extern.MathBitsCarry.three "Sub64" args
  pure (Extern.MathBitsCarry.pair ((x + Extern.MathBitsCarry.m64 - y - b) % Extern.MathBitsCarry.m64) (if x < y + b then 1 else 0))
theorem run_add64n {P : Program} (x y c : Nat) (hc : c ≤ 1) (w : World) : (add64Entry #[.int .u64 (x : Int), .int .u64 (y : Int), .int .u64 (c : Int)]).run P w =
    .ok (.tuple #[.int .u64 (((x + y + c) % 2 ^ 64 : Nat) : Int), .int .u64 (((x + y + c) / 2 ^ 64 : Nat) : Int)]) w := by
  have := run_add64 (P := P) x y c (by omega) (by omega) (by omega) (by omega) w
  rw [this]; simp
theorem run_sub64n {P : Program} (x y c : Nat) (hc : c ≤ 1) (w : World) : (sub64Entry #[.int .u64 (x : Int), .int .u64 (y : Int), .int .u64 (c : Int)]).run P w =
    .ok (.tuple #[.int .u64 (((x + 2 ^ 64 - y - c) % 2 ^ 64 : Nat) : Int), .int .u64 (((if x < y + c then 1 else 0 : Nat)) : Int)]) w := by
  have : c = 0 ∨ c = 1 := by omega
  rcases this with rfl | rfl <;> rfl
end Go.Tw

namespace Go.Tw
/-- A call by a contract, nothing captured. -/
theorem e_callx {c : Cx} {env : Env} {B : Own} {d ty : Nat} {pos : String} {af : Array Edge} {N : Value → Own → Prop} {f : FuncId} {args : Array Operand} {tys : Array TypeId} {vs : List Value} {Bp Br : Own} {Rp : List Fact} {Post : Value → Own → Prop}
    (hF : Fn c.P f vs Bp Rp Post) (hv : evs env args.toList = some vs := by rfl) [hc : Callee c.P f] (hp : Part Bp B Br := by repeat (first | exact Part.nil | exact Rm.head | apply Part.cons' | apply Rm.tail'))
    (hR : RdAll c Br Rp := by repeat (first | exact RdAll.nil | refine @RdAll.cons _ _ _ _ _ _ _ (by infer_instance) ?_ | refine @RdAll.consG _ _ _ _ _ _ (by infer_instance) ?_)) (h : ∀ v B', Post v B' → N v (B' ++ Br)) : OpX c ⟨some d, .call ⟨.value (.func f), args, tys⟩, ty, pos, af, none⟩ env B N :=
  e_call (hp := hp) (hR := hR) (cap := #[]) (by simpa using hF) rfl hv h
/-- Of a function that only reckons. -/
theorem e_callp {c : Cx} {env : Env} {B : Own} {d ty : Nat} {pos : String} {af : Array Edge} {N : Value → Own → Prop} {v : Value} {f : FuncId} {args : Array Operand} {tys : Array TypeId} {vs : List Value} {Rp : List Fact}
    (hF : Fn c.P f vs [] Rp (fun u B' => u = v ∧ B' = [])) (hv : evs env args.toList = some vs := by rfl) [hc : Callee c.P f]
    (hR : RdAll c B Rp := by repeat (first | exact RdAll.nil | refine @RdAll.cons _ _ _ _ _ _ _ (by infer_instance) ?_ | refine @RdAll.consG _ _ _ _ _ _ (by infer_instance) ?_)) (h : N v B) : OpX c ⟨some d, .call ⟨.value (.func f), args, tys⟩, ty, pos, af, none⟩ env B N :=
  e_callx hF hv Part.nil hR (fun u B' hP => by obtain ⟨hu, hB⟩ := hP; subst hu hB; exact h)

instance (priority := 2000) Rd.subus {c : Cx} {B : Own} {v : Value} {k : IntKind} {n lo hi : Nat} {l : List Nat} [h : Rd c B v 1 n (us k l)] [ho : Ok (lo ≤ hi ∧ hi ≤ n)] :
    Rd c B (subSl v 1 lo hi) 1 (hi - lo) (us k ((l.drop lo).take (hi - lo))) := by
  have := Rd.sub (c := c) (B := B) (v := v) (s := 1) (n := n) (lo := lo) (hi := hi) (xs := us k l)
  rwa [Nat.mul_one, Nat.mul_one, us_drop, us_take] at this
instance (priority := 2000) Rd.ofBlku {c : Cx} {B : Own} {b off n cap : Nat} {k : IntKind} {l : List Nat} {T : TypeId} {fr : Nat × Nat} [h : InB b (.cells (us k l).toArray T fr) B] [ho : Ok (off + n ≤ l.length ∧ n ≤ cap)] :
    Rd c B (.slice (some ⟨b, off, none⟩) n cap) 1 n (us k ((l.drop off).take n)) := by
  have ho' : Ok (off + n ≤ (us k l).length ∧ n ≤ cap) := ⟨by simpa using ho.ok⟩
  have := Rd.ofBlk (c := c) (B := B) (off := off) (n := n) (cap := cap) (h := h) (ho := ho')
  rwa [us_drop, us_take] at this
instance (priority := 3000) Rd.ofBlkall {c : Cx} {B : Own} {b n cap : Nat} {k : IntKind} {l : List Nat} {T : TypeId} {fr : Nat × Nat} [h : InB b (.cells (us k l).toArray T fr) B] [ho : Ok (l.length = n ∧ n ≤ cap)] :
    Rd c B (.slice (some ⟨b, 0, none⟩) n cap) 1 n (us k l) := by
  have ho' : Ok (0 + n ≤ l.length ∧ n ≤ cap) := ⟨by have := ho.ok; omega⟩
  have := Rd.ofBlku (c := c) (B := B) (off := 0) (n := n) (cap := cap) (h := h) (ho := ho')
  rwa [List.drop_zero, List.take_of_length_le (by have := ho.ok; omega)] at this
theorem Rd.dropu {c : Cx} {B : Own} {v : Value} {k : IntKind} {n lo : Nat} {l : List Nat} (h : Rd c B v 1 n (us k l)) (hlo : lo ≤ n) (hl : l.length = n) : Rd c B (subSl v 1 lo n) 1 (n - lo) (us k (l.drop lo)) := by
  have ho : Ok (lo ≤ n ∧ n ≤ n) := ⟨⟨hlo, Nat.le_refl _⟩⟩
  have := Rd.subus (c := c) (B := B) (v := v) (lo := lo) (hi := n) (h := h) (ho := ho)
  rwa [List.take_of_length_le (by simp; omega)] at this

/-- Bytes as a number, the lowest first. -/
def leN : List Nat → Nat
  | [] => 0
  | b :: l => b + 256 * leN l
theorem leN_lt : ∀ (l : List Nat) [_h : Us .u8 l], leN l < 256 ^ l.length
  | [], _ => by decide
  | b :: l, h => by
    have h1 : b < 256 := h.lt b List.mem_cons_self
    have h2 := @leN_lt l ⟨fun x hx => h.lt x (List.mem_cons_of_mem _ hx)⟩
    simp only [leN, List.length_cons, Nat.pow_succ]
    omega
theorem leN_app : ∀ (l m : List Nat), leN (l ++ m) = leN l + 256 ^ l.length * leN m
  | [], m => by simp [leN]
  | b :: l, m => by
    simp only [List.cons_append, leN, leN_app l m, List.length_cons, Nat.pow_succ, Nat.mul_add]
    rw [Nat.mul_comm (256 ^ l.length) 256, Nat.mul_assoc]; omega
/-- A number's first n bytes, the lowest first. -/
def leB (n v : Nat) : List Nat := (List.range n).map fun i => (v >>> (8 * i)) % 256
@[simp] theorem leB_length (n v : Nat) : (leB n v).length = n := by simp [leB]
instance {n v : Nat} : Us .u8 (leB n v) := ⟨fun x hx => by
  simp only [leB, List.mem_map] at hx
  obtain ⟨i, _, rfl⟩ := hx
  exact Nat.mod_lt _ (by decide)⟩
theorem leB_succ (n v : Nat) : leB (n + 1) v = leB n v ++ [(v >>> (8 * n)) % 256] := by
  simp [leB, List.range_succ]
theorem or_step {v b i : Nat} (hv : v < 256 ^ i) : v ||| (b <<< (8 * i)) = v + 256 ^ i * b := by
  have h : v < 2 ^ (8 * i) := by rw [Nat.pow_mul]; exact hv
  rw [Nat.or_comm, ← Nat.shiftLeft_add_eq_or_of_lt h, Nat.shiftLeft_eq, Nat.pow_mul, Nat.mul_comm b, Nat.add_comm]
theorem leN_take {l : List Nat} {i : Nat} (h : i < l.length) : leN (l.take (i + 1)) = leN (l.take i) + 256 ^ i * l.getD i 0 := by
  rw [List.take_succ_eq_append_getElem h, leN_app]
  simp [leN, h, Nat.min_eq_left (Nat.le_of_lt h)]
theorem leN_step {l : List Nat} [Us .u8 l] {i k : Nat} (h : i < l.length) (hk : 256 ^ l.length ≤ 2 ^ k) : leN (l.take i) ||| ((l.getD i 0 <<< (8 * i)) % 2 ^ k) = leN (l.take (i + 1)) := by
  have h1 := leN_lt (l.take (i + 1))
  have h2 := leN_lt (l.take i)
  simp only [List.length_take] at h1 h2
  rw [Nat.min_eq_left (by omega)] at h1 h2
  have e := leN_take h
  have hle : 256 ^ (i + 1) ≤ 2 ^ k := Nat.le_trans (Nat.pow_le_pow_right (by decide) h) hk
  rw [Nat.mod_eq_of_lt, or_step h2, ← e]
  rw [Nat.shiftLeft_eq, Nat.pow_mul, Nat.mul_comm]
  show 256 ^ i * _ < _
  omega
end Go.Tw
end

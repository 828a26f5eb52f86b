/- From a walked law to its row: what the given form says of the arguments and of the listed tables; what it asks behind the call. -/
import Derived.Test.YtbfebdaghcogfaaDoorTwPar
import Derived.Scope
import Derived.ChangeKeysEq
import Derived.Defers
import Derived.ReadAgain
import Derived.Deep.Slices
import Derived.OpenShut
import Derived.Deep.DeepHandedRow
import Derived.Lib.LaidTab
section
namespace Go.Tw
section ops
variable {c : Cx} {env : Env} {B : Own} {d ty : Nat} {pos : String} {af : Array Edge} {x y z : Operand} {v vx vy : Value} {N : Value → Own → Prop} {k : IntKind} {o : Oper}

theorem p_eq_of {t t2 : Nat} {b : Bool} (hx : ev env x = some vx) (hy : ev env y = some vy) (hg : ∀ w, (eqGuard .eql t x y vx vy).run c.P w = .ok () w) (hb : binOp .eql t vx vy = (do pure (.bool (← Op.equal t vx vy)))) (hr : ∀ w, (Op.equalIn 10000 t vx vy).run c.P w = .ok b w) : OpE c ⟨some d, .binOp .eql t x y t2, ty, pos, af, none⟩ env B (.bool b) :=
  p_bin hx hy (fun w => by
    have hr' : (Op.equal t vx vy).run c.P w = .ok b w := hr w
    rw [Sem.run_bind, hg w, Result.andThen_ok, hb, Sem.run_bind, hr']; rfl)
theorem p_neq_of {t t2 : Nat} {b : Bool} (hx : ev env x = some vx) (hy : ev env y = some vy) (hg : ∀ w, (eqGuard .neq t x y vx vy).run c.P w = .ok () w) (hb : binOp .neq t vx vy = (do pure (.bool (!(← Op.equal t vx vy))))) (hr : ∀ w, (Op.equalIn 10000 t vx vy).run c.P w = .ok b w) : OpE c ⟨some d, .binOp .neq t x y t2, ty, pos, af, none⟩ env B (.bool (!b)) :=
  p_bin hx hy (fun w => by
    have hr' : (Op.equal t vx vy).run c.P w = .ok b w := hr w
    rw [Sem.run_bind, hg w, Result.andThen_ok, hb, Sem.run_bind, hr']; rfl)

theorem eqI_pn {P : Program} {t e : Nat} {a : Addr} [hu : Und P t (.pointer e)] (n : Nat) (w : World) : (Op.equalIn (n + 1) t (.pointer (some a)) (.pointer none)).run P w = .ok false w := by
  simp only [Op.equalIn]; rw [Sem.run_bind, run_und]; rfl
theorem eqI_p0 {P : Program} {t e : Nat} [hu : Und P t (.pointer e)] (n : Nat) (w : World) : (Op.equalIn (n + 1) t (.pointer none) (.pointer none)).run P w = .ok true w := by
  simp only [Op.equalIn]; rw [Sem.run_bind, run_und]; rfl
theorem eqI_sn {P : Program} {t e i j : Nat} {a : Option Addr} [hu : Und P t (.slice e)] (n : Nat) (w : World) : (Op.equalIn (n + 1) t (.slice a i j) (.slice none 0 0)).run P w = .ok a.isNone w := by
  simp only [Op.equalIn]; rw [Sem.run_bind, run_und]; cases a <;> rfl

theorem p_eqpn {t t2 e : Nat} {a : Addr} [hu : Und c.P t (.pointer e)] (hx : ev env x = some (.pointer (some a)) := by rfl) (hy : ev env y = some (.pointer none) := by rfl) : OpE c ⟨some d, .binOp .eql t x y t2, ty, pos, af, none⟩ env B (.bool false) :=
  p_eq_of hx hy (fun w => by simp [eqGuard]) rfl (fun w => eqI_pn 9999 w)
theorem p_neqpn {t t2 e : Nat} {a : Addr} [hu : Und c.P t (.pointer e)] (hx : ev env x = some (.pointer (some a)) := by rfl) (hy : ev env y = some (.pointer none) := by rfl) : OpE c ⟨some d, .binOp .neq t x y t2, ty, pos, af, none⟩ env B (.bool true) :=
  p_neq_of (b := false) hx hy (fun w => by simp [eqGuard]) rfl (fun w => eqI_pn 9999 w)
theorem p_eqp0 {t t2 e : Nat} [hu : Und c.P t (.pointer e)] (hx : ev env x = some (.pointer none) := by rfl) (hy : ev env y = some (.pointer none) := by rfl) : OpE c ⟨some d, .binOp .eql t x y t2, ty, pos, af, none⟩ env B (.bool true) :=
  p_eq_of hx hy (fun w => by simp [eqGuard]) rfl (fun w => eqI_p0 9999 w)
theorem p_eqsn {t t2 e n m : Nat} {a : Option Addr} [hu : Und c.P t (.slice e)] (hx : ev env x = some (.slice a n m) := by rfl) (hy : ev env y = some (.slice none 0 0) := by rfl) : OpE c ⟨some d, .binOp .eql t x y t2, ty, pos, af, none⟩ env B (.bool a.isNone) :=
  p_eq_of hx hy (fun w => by simp [eqGuard]) rfl (fun w => eqI_sn 9999 w)
theorem p_neqsn {t t2 e n m : Nat} {a : Option Addr} [hu : Und c.P t (.slice e)] (hx : ev env x = some (.slice a n m) := by rfl) (hy : ev env y = some (.slice none 0 0) := by rfl) : OpE c ⟨some d, .binOp .neq t x y t2, ty, pos, af, none⟩ env B (.bool (!a.isNone)) :=
  p_neq_of hx hy (fun w => by simp [eqGuard]) rfl (fun w => eqI_sn 9999 w)

/-- A store whose outcome is named. -/
theorem e_store_c {t y' b off : Nat} {cs cs' : List Value} {T : TypeId} {B' : Own} [Inf c.P t 1 y'] (hx : ev env x = some (ptr b off) := by rfl) (hy : ev env y = some v := by rfl) [hb : InB b (.cells cs.toArray T (0, 0)) B] (hl : cs.set off v = cs') (ho : off < cs.length) (hv : v.oneCell' = true := by rfl) (hvc : v.cells = #[v] := by rfl)
    [hu : Up (.blk b (.cells cs.toArray T (0, 0))) (.blk b (.cells cs'.toArray T (0, 0))) B B'] (h : N undef B') : OpX c ⟨none, .store t x y, ty, pos, af, none⟩ env B N := by
  have hu' := hu
  rw [← hl] at hu'
  exact e_store_one hx hy hv hvc ho h
end ops

/-- f, for 0 .. n - 1, from a on. -/
def iter {α : Type} (f : Nat → α → α) (a : α) : Nat → α
  | 0 => a
  | n + 1 => f n (iter f a n)
theorem iter_len {f : Nat → List Nat → List Nat} (h : ∀ n l, (f n l).length = l.length) (a : List Nat) : ∀ n, (iter f a n).length = a.length
  | 0 => rfl
  | n + 1 => by rw [iter, h, iter_len h a n]
theorem iter_us {k : IntKind} {f : Nat → List Nat → List Nat} (h : ∀ n l, Us k l → Us k (f n l)) {a : List Nat} (ha : Us k a) : ∀ n, Us k (iter f a n)
  | 0 => ha
  | n + 1 => h _ _ (iter_us h ha n)
theorem iter_congr {α : Type} {f g : Nat → α → α} {a : α} : ∀ n, (∀ i x, i < n → f i x = g i x) → iter f a n = iter g a n
  | 0, _ => rfl
  | n + 1, h => by rw [iter, iter, iter_congr n fun i x hi => h i x (by omega), h n _ (by omega)]

/-- A row of n, of which the first k are filled. -/
def fillL (f : Nat → Nat) (n k : Nat) : List Nat := (List.range k).map f ++ List.replicate (n - k) 0
theorem fillL_zero (f : Nat → Nat) (n : Nat) : List.replicate n 0 = fillL f n 0 := by simp [fillL]
theorem fillL_all (f : Nat → Nat) (n : Nat) : fillL f n n = (List.range n).map f := by simp [fillL]
@[simp] theorem fillL_length (f : Nat → Nat) {n k : Nat} (h : k ≤ n) : (fillL f n k).length = n := by simp [fillL]; omega
theorem fillL_set (f : Nat → Nat) {n k v : Nat} (h : k < n) (hv : v = f k) : (fillL f n k).set k v = fillL f n (k + 1) := by
  subst hv
  unfold fillL
  rw [List.set_append_right _ _ (by simp), List.range_succ]
  obtain ⟨m, hm⟩ : ∃ m, n - k = m + 1 := ⟨n - k - 1, by omega⟩
  rw [hm, List.replicate_succ, show n - (k + 1) = m from by omega]
  simp
end Go.Tw
end

section
namespace Go.Tw
section
variable {c : Cx} {Q : Exit → Act → World → Prop} {env : Env} {B B2 : Own}
/-- B is B2 as well. -/
structure Cv (B B2 : Own) : Prop where
  has : ∀ w, Has w B → Has w B2
  keys : ∀ k, k ∈ keys B2 → k ∈ keys B
theorem St.cv {a : Act} {w : World} (s : St c env B a w) (h : Cv B B2) : St c env B2 a w :=
  { s with has := h.has w s.has, step := { s.step with own := fun k hk => s.step.own k (h.keys k hk) } }
theorem f_cv {e : Exit} (h : Cv B B2) (hf : Fin c Q e env B2) : Fin c Q e env B := fun _ _ s => hf _ _ (s.cv h)
theorem c_cv {code : Code} (h : Cv B B2) (hf : GC c Q code env B2) : GC c Q code env B := fun _ _ s => hf _ _ (s.cv h)
theorem g_cv {ops : Array Oper} {l : List Oper} (h : Cv B B2) (hf : GL c ops Q l env B2) : GL c ops Q l env B := fun _ _ s => hf _ _ (s.cv h)
theorem Cv.nil {T s : Nat} : Cv B (.sl (.slice none 0 0) T s 0 [] :: B) := ⟨fun w h => ⟨fun e he => by
    rcases List.mem_cons.1 he with rfl | he
    · exact ⟨by simp, Or.inl ⟨rfl, rfl⟩⟩
    · exact h.ent e he, by rw [keys_cons]; simpa [Ent.keys, Value.ownBlock] using h.nd⟩, fun k hk => by
    rw [keys_cons] at hk; simpa [Ent.keys, Value.ownBlock] using hk⟩
theorem Cv.sl {b n : Nat} {cs : List Value} {T : TypeId} [_hb : InB b (.cells cs.toArray T (0, 0)) B] (hl : cs.length = n) (hn : n ≤ 9223372036854775807) [hu : Up (.blk b (.cells cs.toArray T (0, 0))) (.sl (.slice (some ⟨b, 0, none⟩) n n) T 1 n cs) B B2] : Cv B B2 := by
  obtain ⟨l, r, rfl, rfl⟩ := hu.up
  have hk : Tw.keys (l ++ .sl (.slice (some ⟨b, 0, none⟩) n n) T 1 n cs :: r) = Tw.keys (l ++ .blk b (.cells cs.toArray T (0, 0)) :: r) := by
    simp [keys_app, keys_cons, Ent.keys, Value.ownBlock]
  refine ⟨fun w h => ⟨fun e he => ?_, by rw [hk]; exact h.nd⟩, fun k hkm => by rw [← hk]; exact hkm⟩
  rcases List.mem_append.1 he with he | he
  · exact h.ent e (by simp [he])
  · rcases List.mem_cons.1 he with rfl | he
    · have hb : w.heap[b]? = some (.cells cs.toArray T (0, 0)) := h.ent _ (List.mem_append_right _ List.mem_cons_self)
      exact ⟨by omega, Or.inr ⟨b, n, cs.toArray, rfl, Nat.zero_le _, hb, Nat.le_refl _, by simp only [maxLen]; omega, by simp [hl], by simp [← hl]⟩⟩
    · exact h.ent e (by simp [he])
theorem Cv.cut {v : Value} {T s n N : Nat} {xs ys : List Value} [_hb : InSl v T s n xs B] (hN : N ≤ n) (hy : xs.take (N * s) = ys) [hu : Up (.sl v T s n xs) (.sl (subSl v s 0 N) T s N ys) B B2] : Cv B B2 := by
  obtain ⟨l, r, rfl, rfl⟩ := hu.up
  have key : ∀ w, (Ent.sl v T s n xs).holds w → (Ent.sl (subSl v s 0 N) T s N ys).holds w ∧ (subSl v s 0 N).ownBlock = v.ownBlock := by
    intro w h
    obtain ⟨h1, h2⟩ := h
    have hlen : ys.length = N * s := by rw [← hy, List.length_take, h1, Nat.min_eq_left (Nat.mul_le_mul_right _ hN)]
    rcases h2 with ⟨rfl, rfl⟩ | ⟨g, cap, cur, rfl, h0, hg, hn, hm, hc, ht⟩
    · obtain rfl : N = 0 := by omega
      exact ⟨⟨hlen, Or.inl ⟨rfl, rfl⟩⟩, rfl⟩
    · have e : subSl (.slice (some ⟨g, 0, none⟩) n cap) s 0 N = .slice (some ⟨g, 0, none⟩) N cap := by
        simp [subSl, Addr.add_lit]
      rw [e]
      refine ⟨⟨hlen, Or.inr ⟨g, cap, cur, rfl, h0, hg, by omega, hm, hc, ?_⟩⟩, rfl⟩
      rw [← hy, ← ht, List.take_take, Nat.min_eq_left (Nat.mul_le_mul_right _ hN)]
  have hkk : ∀ w, (Ent.sl v T s n xs).holds w → Tw.keys (l ++ .sl (subSl v s 0 N) T s N ys :: r) = Tw.keys (l ++ .sl v T s n xs :: r) := by
    intro w h
    simp only [keys_app, keys_cons, Ent.keys, (key w h).2]
  have hsub : ∀ k, k ∈ Tw.keys (l ++ .sl (subSl v s 0 N) T s N ys :: r) → k ∈ Tw.keys (l ++ .sl v T s n xs :: r) := by
    intro k hk
    simp only [keys_app, keys_cons, Ent.keys, List.mem_append] at hk ⊢
    rcases hk with h | h | h
    · exact Or.inl h
    · refine Or.inr (Or.inl ?_)
      cases v with
      | slice a m cap =>
        cases a with
        | none => simp [subSl, Value.ownBlock] at h
        | some a =>
          simp only [subSl] at h
          split at h
          · simpa [Value.ownBlock] using h
          · simpa [Value.ownBlock, Addr.add_zero'] using h
      | _ => exact h
    · exact Or.inr (Or.inr h)
  refine ⟨fun w h => ⟨fun e he => ?_, ?_⟩, hsub⟩
  · rcases List.mem_append.1 he with he | he
    · exact h.ent e (by simp [he])
    · rcases List.mem_cons.1 he with rfl | he
      · exact (key w (h.ent _ (by simp))).1
      · exact h.ent e (by simp [he])
  · rw [hkk w (h.ent _ (by simp))]; exact h.nd
theorem Cv.trans {B3 : Own} (h : Cv B B2) (h' : Cv B2 B3) : Cv B B3 := ⟨fun w hw => h'.has w (h.has w hw), fun k hk => h.keys k (h'.keys k hk)⟩
end
theorem g_fact {c : Cx} {Q : Exit → Act → World → Prop} {env : Env} {B : Own} {p : Prop} {ops : Array Oper} {l : List Oper} (hp : ∀ a w, St c env B a w → p) (h : p → GL c ops Q l env B) : GL c ops Q l env B := fun a w s => h (hp a w s) a w s
theorem own_cells {c : Cx} {env : Env} {B : Own} {a : Act} {w : World} {v : Value} {T s n : Nat} {xs : List Value} (st : St c env B a w) (h : Ent.sl v T s n xs ∈ B) : v.cells = #[v] := by
  rcases (st.has.ent _ h).2 with ⟨rfl, _⟩ | ⟨g, cap, cur, rfl, _⟩ <;> rfl
section
variable {c : Cx} {env : Env} {B : Own} {d ty : Nat} {pos : String} {af : Array Edge} {x y z : Operand} {u0 u1 u2 : Value} {N : Value → Own → Prop}
/-- Slices of two and of three values of one cell. -/
theorem e_bsl2 {t e bytes : Nat} {z0 : Value} [hu : Und c.P t (.slice e)] [hi : Inf c.P e 1 bytes] [hz : Zer c.P e [z0]] (hx : ev env x = some u0 := by rfl) (hy : ev env y = some u1 := by rfl) (h0 : u0.cells = #[u0] := by first | rfl | assumption) (h1 : u1.cells = #[u1] := by first | rfl | assumption) (h : ∀ v', v' ≠ .slice none 0 0 → N v' (.sl v' e 1 2 [u0, u1] :: B)) : OpX c ⟨some d, .buildSlice t 2 #[(0, x), (1, y)], ty, pos, af, none⟩ env B N :=
  e_bsl (t := t) (size := 1) (zs := [z0]) (parts := [(0, x), (1, y)]) (vs := [(0, u0), (1, u1)]) (cells := [u0, u1]) (by simp [lfill, lput, h0, h1]) rfl (by simp only [evps, hx, hy]) rfl (by decide) (Nat.le_of_ble_eq_true rfl) Nat.one_pos h
theorem e_bsl3 {t e bytes : Nat} {z0 : Value} [hu : Und c.P t (.slice e)] [hi : Inf c.P e 1 bytes] [hz : Zer c.P e [z0]] (hx : ev env x = some u0 := by rfl) (hy : ev env y = some u1 := by rfl) (hz' : ev env z = some u2 := by rfl) (h0 : u0.cells = #[u0] := by first | rfl | assumption) (h1 : u1.cells = #[u1] := by first | rfl | assumption) (h2 : u2.cells = #[u2] := by first | rfl | assumption) (h : ∀ v', v' ≠ .slice none 0 0 → N v' (.sl v' e 1 3 [u0, u1, u2] :: B)) : OpX c ⟨some d, .buildSlice t 3 #[(0, x), (1, y), (2, z)], ty, pos, af, none⟩ env B N :=
  e_bsl (t := t) (size := 1) (zs := [z0]) (parts := [(0, x), (1, y), (2, z)]) (vs := [(0, u0), (1, u1), (2, u2)]) (cells := [u0, u1, u2]) (by simp [lfill, lput, h0, h1, h2]) rfl (by simp only [evps, hx, hy, hz']) rfl (by decide) (Nat.le_of_ble_eq_true rfl) Nat.one_pos h
end
/-- The bytes behind a first cell. -/
instance (priority := 3000) Rd.ofBlk1 {c : Cx} {B : Own} {b n cap : Nat} {k : IntKind} {x : Value} {l : List Nat} {T : TypeId} {fr : Nat × Nat} [h : InB b (.cells (x :: us k l).toArray T fr) B] [ho : Ok (l.length = n ∧ n ≤ cap)] :
    Rd c B (.slice (some ⟨b, 1, none⟩) n cap) 1 n (us k l) := by
  have ho' : Ok (1 + n ≤ (x :: us k l).length ∧ n ≤ cap) := ⟨by have := ho.ok; simp; omega⟩
  have := Rd.ofBlk (c := c) (B := B) (off := 1) (n := n) (cap := cap) (h := h) (ho := ho')
  rwa [List.drop_succ_cons, List.drop_zero, List.take_of_length_le (by have := ho.ok; simp; omega)] at this
end Go.Tw
end

section
namespace Go.Tw
section
variable {c : Cx} {Q : Exit → Act → World → Prop} {env : Env} {B : Own}
theorem open_has {v : Value} {T s n : Nat} {xs : List Value} (hv : v ≠ .slice none 0 0) {B' : Nat → List Value → Own} (hmem : Ent.sl v T s n xs ∈ B) (hup : ∀ g rest, ∃ l r, B = l ++ .sl v T s n xs :: r ∧ B' g rest = l ++ .blk g (.cells (xs ++ rest).toArray T (0, 0)) :: r) {a : Act} {w : World} (st : St c env B a w) :
    ∃ g cap rest, v = .slice (some ⟨g, 0, none⟩) n cap ∧ n ≤ cap ∧ cap ≤ 9223372036854775807 ∧ xs.length = n * s ∧ (xs ++ rest).length = cap * s ∧ St c env (B' g rest) a w := by
  have h := st.has.ent _ hmem
  rcases h.2 with ⟨h0, _⟩ | ⟨g, cap, cur, rfl, h0, hg, hn, hm, hc, ht⟩
  · exact absurd h0 hv
  · have hle := Nat.mul_le_mul_right s hn
    have hcur : xs ++ cur.toList.drop (n * s) = cur.toList := by rw [← ht]; exact List.take_append_drop _ _
    obtain ⟨l, r, e1, e2⟩ := hup g (cur.toList.drop (n * s))
    have hk : keys (B' g (cur.toList.drop (n * s))) = keys B := by
      rw [e1, e2]; simp [keys_app, keys_cons, Ent.keys, Value.ownBlock]
    refine ⟨g, cap, cur.toList.drop (n * s), rfl, hn, by simpa [maxLen] using hm, h.1, by rw [hcur]; simpa using hc, ?_⟩
    refine { st with has := ⟨fun e he => ?_, by rw [hk]; exact st.has.nd⟩, step := { st.step with own := fun k hkm => st.step.own k (by rw [← hk]; exact hkm) } }
    rw [e2] at he
    rcases List.mem_append.1 he with he | he
    · exact st.has.ent e (by rw [e1]; simp [he])
    · rcases List.mem_cons.1 he with rfl | he
      · show w.heap[g]? = _
        rw [hcur]; simpa using hg
      · exact st.has.ent e (by rw [e1]; simp [he])

theorem g_open {ops : Array Oper} {l : List Oper} {v : Value} {T s n : Nat} {xs : List Value} (hv : v ≠ .slice none 0 0) {B' : Nat → List Value → Own} [hi : InSl v T s n xs B] [hu : ∀ g rest, Up (.sl v T s n xs) (.blk g (.cells (xs ++ rest).toArray T (0, 0))) B (B' g rest)]
    (h : ∀ g cap rest, v = .slice (some ⟨g, 0, none⟩) n cap → n ≤ cap → cap ≤ 9223372036854775807 → xs.length = n * s → (xs ++ rest).length = cap * s → GL c ops Q l env (B' g rest)) : GL c ops Q l env B := by
  intro a w st
  obtain ⟨g, cap, rest, h1, h2, h3, h4, h5, st'⟩ := open_has hv hi.mem (fun g rest => (hu g rest).up) st
  exact h g cap rest h1 h2 h3 h4 h5 a w st'
theorem c_open {code : Code} {v : Value} {T s n : Nat} {xs : List Value} (hv : v ≠ .slice none 0 0) {B' : Nat → List Value → Own} [hi : InSl v T s n xs B] [hu : ∀ g rest, Up (.sl v T s n xs) (.blk g (.cells (xs ++ rest).toArray T (0, 0))) B (B' g rest)]
    (h : ∀ g cap rest, v = .slice (some ⟨g, 0, none⟩) n cap → n ≤ cap → cap ≤ 9223372036854775807 → xs.length = n * s → (xs ++ rest).length = cap * s → GC c Q code env (B' g rest)) : GC c Q code env B := by
  intro a w st
  obtain ⟨g, cap, rest, h1, h2, h3, h4, h5, st'⟩ := open_has hv hi.mem (fun g rest => (hu g rest).up) st
  exact h g cap rest h1 h2 h3 h4 h5 a w st'
/-- And closed: n elements of the block's cells. -/
theorem Cv.close {g cap n s : Nat} {cs xs : List Value} {T : TypeId} {B2 : Own} [_hb : InB g (.cells cs.toArray T (0, 0)) B] (hn : n ≤ cap) (hcap : cap ≤ 9223372036854775807) (hc : cs.length = cap * s) (hx : cs.take (n * s) = xs)
    [hu : Up (.blk g (.cells cs.toArray T (0, 0))) (.sl (.slice (some ⟨g, 0, none⟩) n cap) T s n xs) B B2] : Cv B B2 := by
  obtain ⟨l, r, rfl, rfl⟩ := hu.up
  have hk : Tw.keys (l ++ .sl (.slice (some ⟨g, 0, none⟩) n cap) T s n xs :: r) = Tw.keys (l ++ .blk g (.cells cs.toArray T (0, 0)) :: r) := by
    simp [keys_app, keys_cons, Ent.keys, Value.ownBlock]
  refine ⟨fun w h => ⟨fun e he => ?_, by rw [hk]; exact h.nd⟩, fun k hkm => by rw [← hk]; exact hkm⟩
  rcases List.mem_append.1 he with he | he
  · exact h.ent e (by simp [he])
  · rcases List.mem_cons.1 he with rfl | he
    · have hb : w.heap[g]? = some (.cells cs.toArray T (0, 0)) := h.ent _ (List.mem_append_right _ List.mem_cons_self)
      have hle := Nat.mul_le_mul_right s hn
      exact ⟨by rw [← hx, List.length_take, hc, Nat.min_eq_left hle], Or.inr ⟨g, cap, cs.toArray, rfl, Nat.zero_le _, hb, hn, by simp only [maxLen]; omega, by simp [hc], by simpa using hx⟩⟩
    · exact h.ent e (by simp [he])
end
end Go.Tw
namespace Go.Tw
theorem made_us {k : IntKind} {s N : Nat} (hs : 0 < s) : (madeCells (us k (List.replicate s 0)).toArray N).toList = us k (List.replicate N 0) := by
  apply List.ext_getElem
  · simp [madeCells]
  · intro i h1 h2
    have hi : i % s < s := Nat.mod_lt _ hs
    simp [madeCells, us, hi]
end Go.Tw
end

section
namespace Go.Tw
variable {c : Cx} {env : Env} {B : Own} {d ty : Nat} {pos : String} {af : Array Edge} {x y z : Operand} {v vx vy : Value} {N : Value → Own → Prop} {k : IntKind} {o : Oper}
theorem p_ie {a b : Int} (hp : OpE c o env B (.int k a)) (h : a = b) : OpE c o env B (.int k b) := by subst h; exact hp
theorem p_mkfunc {f : Nat} {caps : Array Operand} {vs : List Value} (hv : evs env caps.toList = some vs := by rfl) : OpE c ⟨some d, .makeFunc (.func f) #[] caps, ty, pos, af, none⟩ env B (.func (.func f) #[] vs.toArray) := fun a w st => by
  have hargs : caps.map a.eval = vs.toArray := by
    have := st.evs hv
    apply Array.toList_inj.1; simpa using this
  simp [execOp, hargs, Instr.makeFunc]
/-- A call of a closure. -/
theorem e_callf {f : FuncId} {args : Array Operand} {tys : Array TypeId} {fo : Operand} {cap : List Value} {vs : List Value} {Bp Br : Own} {Rp : List Fact} {Post : Value → Own → Prop}
    (hF : Fn c.P f (vs ++ cap) Bp Rp Post) (hf : ev env fo = some (.func (.func f) #[] cap.toArray) := by rfl) (hv : evs env args.toList = some vs := by rfl) [hc : Callee c.P f] (hp : Part Bp B Br := by repeat (first | exact Part.nil | exact Rm.head | apply Part.cons' | apply Rm.tail'))
    (hR : RdAll c Br Rp := by repeat (first | exact RdAll.nil | refine @RdAll.cons _ _ _ _ _ _ _ (by infer_instance) ?_ | refine @RdAll.consG _ _ _ _ _ _ (by infer_instance) ?_)) (h : ∀ v B', Post v B' → N v (B' ++ Br)) : OpX c ⟨some d, .call ⟨.value fo, args, tys⟩, ty, pos, af, none⟩ env B N :=
  e_call (hp := hp) (hR := hR) (cap := cap.toArray) (by simpa using hF) hf hv h
end Go.Tw
namespace Go.Tw
/-- A call of a function that the model stands in for, among others. -/
theorem e_ext {c : Cx} {env : Env} {B : Own} {d ty : Nat} {pos : String} {af : Array Edge} {v : Value} {N : Value → Own → Prop} {f : FuncId} {args : Array Operand} {tys : Array TypeId} {vs : List Value}
    (hr : ∀ w, (callFunc f vs.toArray).run c.P w = .ok (.value v) w) (hv : evs env args.toList = some vs := by rfl) (h : N v B) : OpX c ⟨some d, .call ⟨.value (.func f), args, tys⟩, ty, pos, af, none⟩ env B N :=
  opx (X := Unit) (v := fun _ => v) (B' := fun _ => B) (fun a w st => ⟨(), w, p_extern hr hv a w st, LS.refl st.has⟩) (fun _ => h)
end Go.Tw
namespace Go.Tw
theorem lfill_one {n : Nat} {zs vs : List Value} (h1 : vs.length = n) (h2 : zs.length = n) : lfill (fun i => [(0, n)][i]?) zs [(0, .agg vs.toArray)] = some vs := by
  subst h1
  simp only [lfill, List.getElem?_cons_zero, Value.cells, Nat.zero_add]
  rw [if_pos (by simp [h2])]
  simp [lput, h2]
end Go.Tw
namespace Go.Tw
theorem f_r4 {c : Cx} {env : Env} {B Br B' : Own} {fn : Func} {Bp : Own} {Post : Value → Own → Prop} {e : Exit} (he : e = .ret ∨ e = .normal) {t u s r : Nat} {v1 v2 v3 v4 : Value} (hr : fn.results = #[.tmp t, .tmp u, .tmp s, .tmp r]) (hp : Post (.tuple #[v1, v2, v3, v4]) B') (hv : look env t = some v1 := by rfl) (hu : look env u = some v2 := by rfl) (hs : look env s = some v3 := by rfl) (hr4 : look env r = some v4 := by rfl) (hK : c.K = keys Bp := by rfl) (hD : c.D = [] := by rfl) (hB : Part B' B Br := by repeat (first | exact Part.nil | exact Rm.head | apply Part.cons' | apply Rm.tail')) :
    Fin c (Ret c.P fn c.w0 Bp Post) e env B :=
  f_r he hK hD (fun a w st => by simp [results, hr, st.env _ _ hv, st.env _ _ hu, st.env _ _ hs, st.env _ _ hr4]) hp hB
end Go.Tw
namespace Go.Tw
theorem lfill_put {place : Nat → Option (Nat × Nat)} {i off size : Nat} {v : Value} {vs cs : List Value} {r : List (Nat × Value)} (hp : place i = some (off, size)) (hv : v.cells.toList = vs) (hl : vs.length = size) (hc : off + size ≤ cs.length) : lfill place cs ((i, v) :: r) = lfill place (lput cs vs off) r := by
  subst hv
  simp only [lfill, hp]
  rw [if_pos ⟨hl, hc⟩]
@[simp] theorem lput_length {cs vs : List Value} {off : Nat} (h : off + vs.length ≤ cs.length) : (lput cs vs off).length = cs.length := by
  simp [lput]; omega
end Go.Tw
namespace Go.Tw
section
variable {c : Cx} {Q : Exit → Act → World → Prop} {env : Env} {B : Own} {ops : Array Oper} {d ty : Nat} {pos : String} {af : Array Edge} {x y z : Operand} {v : Value}
/-- A scope none of whose jumps is taken. -/
theorem c_scope {code : Code} (h : GC c (Exit.noGoto Q) code env B) : GC c Q (.scope code) env B := fun a w s => wp_scope_straight (h a w s)
theorem f_scope_normal (h : Fin c Q .normal env B) : Fin c (Exit.noGoto Q) .normal env B := h
theorem f_scope_ret (h : Fin c Q .ret env B) : Fin c (Exit.noGoto Q) .ret env B := h
theorem f_scope_exit {id : Nat} (h : Fin c Q (.exit id) env B) : Fin c (Exit.noGoto Q) (.exit id) env B := h
theorem p_pick_f (hx : ev env x = some (.bool false) := by rfl) (hz : ev env z = some v := by rfl) : OpE c ⟨some d, .pick x y z, ty, pos, af, none⟩ env B v := fun a w st => by
  simp [execOp, st.ev hx, st.ev hz, asBool]
theorem p_pick_t (hx : ev env x = some (.bool true) := by rfl) (hy : ev env y = some v := by rfl) : OpE c ⟨some d, .pick x y z, ty, pos, af, none⟩ env B v := fun a w st => by
  simp [execOp, st.ev hx, st.ev hy, asBool]
end
end Go.Tw
namespace Go.Tw
instance (priority := 4000) Rd.subhi {c : Cx} {B : Own} {v : Value} {k : IntKind} {n hi : Nat} {l : List Nat} [h : Rd c B v 1 n (us k l)] [ho : Ok (hi ≤ n)] :
    Rd c B (subSl v 1 0 hi) 1 hi (us k (l.take hi)) := by
  have ho' : Ok (0 ≤ hi ∧ hi ≤ n) := ⟨Nat.zero_le _, ho.ok⟩
  have := Rd.subus (c := c) (B := B) (v := v) (k := k) (n := n) (lo := 0) (hi := hi) (l := l)
  simpa using this
instance (priority := 4000) Rd.sublo {c : Cx} {B : Own} {v : Value} {k : IntKind} {n lo : Nat} {l : List Nat} [h : Rd c B v 1 n (us k l)] [ho : Ok (lo ≤ n ∧ l.length = n)] :
    Rd c B (subSl v 1 lo n) 1 (n - lo) (us k (l.drop lo)) := h.dropu ho.ok.1 ho.ok.2
end Go.Tw
namespace Go.Tw
theorem v_yg {c : Cx} {env : Env} {B : Own} {ops : Array Oper} {d : Option Nat} {op : Op} {ty : Nat} {pos : String} {af : Array Edge} {v : Value} {j t : Nat} {b : Bool} (hp : OpE c ⟨d, op, ty, pos, af, none⟩ env B v) (ht : (ops[j]?).bind (·.dst) = some t := by rfl) (hv : look env t = some (.bool b) := by rfl) : OpV c ops ⟨d, op, ty, pos, af, some (j, b)⟩ env B v := fun a w s =>
  Or.inl ⟨by simp [Region.wanted, s.yields ht hv], hp a w s⟩
end Go.Tw
namespace Go.Tw
/-! New rows, in statements whose order is open. -/
def MkL (c : Cx) (ops : Array Oper) : Nat → List Cls → Prop
  | _, [] => True
  | i, .mks env1 Bj e n cells :: r => (∀ o, ops[i]? = some o → MkDoes c o env1 Bj e n cells) ∧ MkL c ops (i + 1) r
  | i, _ :: r => MkL c ops (i + 1) r
theorem MkL.at {c : Cx} {ops : Array Oper} : ∀ {L : List Cls} {k : Nat}, MkL c ops k L → ∀ i env1 Bj e n cells, L.getD i (.flt true) = .mks env1 Bj e n cells → ∀ o, ops[k + i]? = some o → MkDoes c o env1 Bj e n cells
  | [], _, _, i, env1, Bj, e, n, cells, h => by simp at h
  | x :: r, k, hl, 0, env1, Bj, e, n, cells, h => by
    rw [List.getD_cons_zero] at h
    subst h
    exact hl.1
  | x :: r, k, hl, i + 1, env1, Bj, e, n, cells, h => by
    rw [List.getD_cons_succ] at h
    have hr : MkL c ops (k + 1) r := by
      cases x <;> first | exact hl.2 | exact hl
    have := MkL.at hr i env1 Bj e n cells h
    rwa [show k + 1 + i = k + (i + 1) from by omega] at this
theorem MkSaid.ofL {c : Cx} {ops : Array Oper} {L : List Cls} (h : MkL c ops 0 L) : MkSaid c ops (fun i => L.getD i (.flt true)) := fun i env1 Bj e n cells hc o ho => by
  have := h.at i env1 Bj e n cells hc o
  rw [Nat.zero_add] at this
  exact this ho
theorem mk_of {c : Cx} {o : Oper} {env1 : Env} {Bj : Own} {e n : Nat} {cells : List Value} (h : OpX c o env1 Bj (fun v B' => B' = .sl v e 1 n cells :: Bj)) (hn0 : 0 < n := by decide) :
    ∀ o', some o = some o' → MkDoes c o' env1 Bj e n cells := by
  intro o' ho a w st
  obtain rfl := Option.some.inj ho
  obtain ⟨X, v, B', hN, hx⟩ := h
  refine (hx a w st).mono ?_
  rintro u w' ⟨x, rfl, hl⟩
  rw [hN x] at hl
  rcases (hl.has.ent _ List.mem_cons_self).2 with ⟨_, h3⟩ | ⟨g, cap, cur, hv, _, hg, hn, _, hc, ht⟩
  · omega
  · rw [Nat.mul_one] at hc ht
    have hcur : cells ++ cur.toList.drop n = cur.toList := by rw [← ht]; exact List.take_append_drop _ _
    have hk : keys (Ent.blk g (.cells (cells ++ cur.toList.drop n).toArray e (0, 0)) :: Bj) = keys (Ent.sl (v x) e 1 n cells :: Bj) := by
      rw [keys_cons, keys_cons]; simp [Ent.keys, hv, Value.ownBlock]
    have hge : w.heap.size ≤ g := by
      have hgk : g ∈ keys (Ent.sl (v x) e 1 n cells :: Bj) := by rw [← hk, keys_cons]; simp [Ent.keys]
      rcases hl.step.own g hgk with h | h
      · have hnd := hl.has.nd
        rw [← hk, keys_cons] at hnd
        exact absurd rfl ((List.nodup_append.1 hnd).2.2 g (by simp [Ent.keys]) g h)
      · exact h
    refine ⟨g, cap, cur.toList.drop n, hv, hn, by rw [hcur]; simpa using hc, hge, ⟨{ hl.step with own := fun k hkm => hl.step.own k (by rw [← hk]; exact hkm) }, ?_, by rw [hk]; exact hl.has.nd⟩⟩
    intro y hy
    rcases List.mem_cons.1 hy with rfl | hy
    · show w'.heap[g]? = _
      rw [hcur]; simpa using hg
    · exact hl.has.ent y (List.mem_cons_of_mem _ hy)
theorem look_keys : ∀ {l : Env} {t : Nat} {v : Value} {L : List Nat}, (l.all fun p => L.contains p.1) = true → look l t = some v → t ∈ L
  | [], t, v, L, _, h => by simp [look] at h
  | (s, u) :: r, t, v, L, ha, h => by
    simp only [List.all_cons, Bool.and_eq_true] at ha
    by_cases hs : s = t
    · subst hs; simpa using ha.1
    · have : look r t = some v := by
        have h' := h
        rw [look_cons, if_neg hs] at h'
        exact h'
      exact look_keys ha.2 this
theorem pk_nil {B : Own} : ∃ Br : Own, B.Perm ([] ++ Br) := ⟨B, .refl _⟩
theorem pk_cons {e : Ent} {Bp B B' : Own} (h1 : Rm e B B') (h2 : ∃ Br : Own, B'.Perm (Bp ++ Br)) : ∃ Br : Own, B.Perm (e :: Bp ++ Br) := by
  obtain ⟨l, r, hB, hB'⟩ := h1.rm
  obtain ⟨Br, hp⟩ := h2
  refine ⟨Br, ?_⟩
  rw [hB]
  refine List.perm_middle.trans ?_
  rw [← hB']
  exact hp.cons _
theorem d_m {c : Cx} {ops : Array Oper} {Q : Exit → Act → World → Prop} {B0 : Own} {cls : Nat → Cls} {i d e n : Nat} {cells : List Value} {s : List Nat} {env env1 : Env} {B Bj : Own} {o : Oper} (mk : MkSaid c ops cls) (hnd : (keys B0).Nodup) (ho : ops[i]? = some o)
    (hn : ∀ g cap rest, g ∉ keys B0 → n ≤ cap → (cells ++ rest).length = cap → Dr c ops Q B0 cls s ((d, .slice (some ⟨g, 0, none⟩) n cap) :: env) (.blk g (.cells (cells ++ rest).toArray e (0, 0)) :: B)) (hc : cls i = .mks env1 Bj e n cells := by rfl) (hd : o.dst = some d := by rfl) (hlt : Nat.blt d c.n = true := by rfl) (hg : o.guard = none := by rfl)
    (hle : EnvLe env1 env := by repeat (first | exact trivial | refine ⟨rfl, ?_⟩)) (hks : (env1.all fun p => (o.looksAt ops).contains p.1) = true := by rfl) (hB : ∃ Br : Own, B.Perm (Bj ++ Br) := by repeat (first | exact pk_nil | exact Rm.head | apply pk_cons | apply Rm.tail')) (hB0 : ∃ Br : Own, B0.Perm (Bj ++ Br) := by repeat (first | exact pk_nil | exact Rm.head | apply pk_cons | apply Rm.tail')) :
    Dr c ops Q B0 cls (i :: s) env B := by
  have hin : ∀ {B1 : Own}, (∃ Br : Own, B1.Perm (Bj ++ Br)) → ∀ x, x ∈ Bj → x ∈ B1 := fun ⟨Br, h⟩ x hx => h.mem_iff.2 (List.mem_append_left _ hx)
  have hnd2 : (keys Bj).Nodup := by
    obtain ⟨Br, h⟩ := hB0
    have := (keys_perm h).nodup_iff.1 hnd
    rw [keys_app] at this
    exact (List.nodup_append.1 this).1
  exact .mks hc ho hg hd hlt ⟨hle.look, fun t v h => look_keys hks h, hin hB, hin hB0, hnd2⟩ (mk i env1 Bj e n cells hc o ho) hn
/-- Numbers behind numbers that are read alone and have no room: a new row. -/
theorem e_appn {c : Cx} {env : Env} {B : Own} {d ty : Nat} {pos : String} {af : Array Edge} {x y : Operand} {vy : Value} {N : Value → Own → Prop} {k : IntKind} {t e bytes : Nat} {z0 : Value} [hu : Und c.P t (.slice e)] [hi : Inf c.P e 1 bytes] [hz : Zer c.P e [z0]] {n m cap b off : Nat} {l news l' : List Nat} (hx : ev env x = some (.slice (some ⟨b, off, none⟩) n cap) := by rfl) (hy : ev env y = some vy := by rfl)
    [hs : Rd c B (.slice (some ⟨b, off, none⟩) n cap) 1 n (us k l)] [hr : Rd c B vy 1 m (us k news)]
    (hn : 0 < n := by omega) (hcap : cap < n + m := by omega) (hbytes : (n + m) * bytes ≤ 140737488355328 := by omega) (h63 : n + m ≤ 9223372036854775807 := by omega) (h : ∀ v', N (v') (.sl v' e 1 (n + m) (us k l') :: B)) (hl : l ++ news = l' := by rfl) : OpX c ⟨some d, .call ⟨.builtin .append, #[x, y], #[t, t]⟩, ty, pos, af, none⟩ env B N :=
  e_append_new (zs := [z0]) (size := 1) hx hy rfl hn hcap hbytes h63 (fun v' => by rw [us_append, hl]; exact h v')
end Go.Tw
namespace Go.Tw
theorem freeze_heap {w : World} {g : Nat} {cs : List Value} {T : TypeId} (hg : w.heap[g]? = some (.cells cs.toArray T (0, 0))) (k : Nat) (b : Nat) : (w.freeze ⟨g, k, none⟩ 1).heap[b]? = if b = g then some (.cells cs.toArray T (k, k + 1)) else w.heap[b]? := by
  unfold World.freeze
  rw [if_neg (by decide)]
  simp only [Array.getElem?_modify]
  by_cases h : g = b
  · subst h; simp [hg]
  · rw [if_neg h, if_neg (fun e => h e.symm)]
theorem LS.frz {w : World} {B B' : Own} {g k : Nat} {cs : List Value} {T : TypeId} (hup : ∃ l r, B = l ++ .blk g (.cells cs.toArray T (0, 0)) :: r ∧ B' = l ++ .blk g (.cells cs.toArray T (k, k + 1)) :: r) (h : Has w B) : LS w (w.freeze ⟨g, k, none⟩ 1) B B' := by
  have hm : Ent.blk g (.cells cs.toArray T (0, 0)) ∈ B := by obtain ⟨l, r, h1, _⟩ := hup; rw [h1]; simp
  have hb : w.heap[g]? = some (.cells cs.toArray T (0, 0)) := h.ent _ hm
  refine LS.up hup h rfl ?_ ?_ ?_ ?_ ?_ ?_
  · show (w.freeze ⟨g, k, none⟩ 1).heap[g]? = _
    rw [freeze_heap hb, if_pos rfl]
  · simp [World.freeze]
  · simp [World.freeze]
  · simp [World.freeze]
  · simp [World.freeze]
  · intro b hn _
    rw [freeze_heap hb, if_neg (fun e => hn (by simp [Ent.keys, e]))]
theorem run_convb {P : Program} {w : World} {t e g n cap : Nat} {cs : List Value} {T : TypeId} [h1 : Und P t (.slice e)] [h2 : Und P e (.int .u8)] (hb : w.heap[g]? = some (.cells cs.toArray T (0, 0))) :
    (convert t t (.slice (some ⟨g, 0, none⟩) n cap)).run P w = .ok (.slice (some ⟨g, 0, none⟩) n cap) (w.freeze ⟨g, cs.length, none⟩ 1) := by
  have hsh : w.shape? g = some (T, cs.length) := by unfold World.shape?; rw [hb]; simp
  simp [convert, run_und, markStringish, hsh]
/-- A literal's bytes, as bytes: the row is marked behind its end. -/
theorem e_convb {c : Cx} {env : Env} {B B' : Own} {d ty : Nat} {pos : String} {af : Array Edge} {x : Operand} {N : Value → Own → Prop} {t e g n cap : Nat} {cs : List Value} {T : TypeId} [h1 : Und c.P t (.slice e)] [h2 : Und c.P e (.int .u8)] (hx : ev env x = some (.slice (some ⟨g, 0, none⟩) n cap) := by rfl) [hb : InB g (.cells cs.toArray T (0, 0)) B]
    [hu : Up (.blk g (.cells cs.toArray T (0, 0))) (.blk g (.cells cs.toArray T (cs.length, cs.length + 1))) B B'] (h : N (.slice (some ⟨g, 0, none⟩) n cap) B') : OpX c ⟨some d, .convert t t x, ty, pos, af, none⟩ env B N :=
  opx (X := Unit) (v := fun _ => .slice (some ⟨g, 0, none⟩) n cap) (B' := fun _ => B') (fun a w st => ⟨(), w.freeze ⟨g, cs.length, none⟩ 1, by
    have := run_convb (P := c.P) (t := t) (n := n) (cap := cap) (st.has.ent _ hb.mem)
    simp [execOp, st.ev hx, this], LS.frz hu.up st.has⟩) (fun _ => h)
/-- In a statement whose order is open: a row that the statement has made. -/
theorem d_c {c : Cx} {ops : Array Oper} {Q : Exit → Act → World → Prop} {B0 : Own} {cls : Nat → Cls} {i d ty : Nat} {pos : String} {af : Array Edge} {x : Operand} {s : List Nat} {env : Env} {B R : Own} {t e g n cap : Nat} {cs : List Value} {T : TypeId} [h1 : Und c.P t (.slice e)] [h2 : Und c.P e (.int .u8)] (hg : g ∉ keys B0) (ho : ops[i]? = some ⟨some d, .convert t t x, ty, pos, af, none⟩)
    [hb : InB g (.cells cs.toArray T (0, 0)) B] [hr : Rm (.blk g (.cells cs.toArray T (0, 0))) B R]
    (hn : Dr c ops Q B0 cls s ((d, .slice (some ⟨g, 0, none⟩) n cap) :: env) (.blk g (.cells cs.toArray T (cs.length, cs.length + 1)) :: R)) (hx : ev env x = some (.slice (some ⟨g, 0, none⟩) n cap) := by rfl) (hc : cls i = .eff 3 := by rfl) (hlt : Nat.blt d c.n = true := by rfl) : Dr c ops Q B0 cls (i :: s) env B := by
  obtain ⟨l, r, e1, e2⟩ := hr.rm
  have hperm : B.Perm ([Ent.blk g (.cells cs.toArray T (0, 0))] ++ R) := by rw [e1, e2]; exact List.perm_middle
  refine .eff [.blk g (.cells cs.toArray T (0, 0))] R (X := Unit) (fun _ => .slice (some ⟨g, 0, none⟩) n cap) (fun _ => .blk g (.cells cs.toArray T (cs.length, cs.length + 1)) :: R) (fun _ => [.blk g (.cells cs.toArray T (cs.length, cs.length + 1))]) hc ho (fun d' h => by cases h; exact hlt) ⟨fun _ => ⟨⟨()⟩, fun y hy hm => ?_, fun _ y hy hm => ?_⟩, fun h => by omega, fun h => by omega⟩ hperm (fun _ => .refl _) (fun h => by cases h) (fun h => by cases h) (fun a w _ => by simp [Region.wanted]) (fun a w st _ => ?_) (fun _ => hn)
  · simp only [List.mem_singleton] at hy; subst hy; exact hg (mem_keys hm (by simp [Ent.keys]))
  · simp only [List.mem_singleton] at hy; subst hy; exact hg (mem_keys hm (by simp [Ent.keys]))
  · have := run_convb (P := c.P) (t := t) (n := n) (cap := cap) (st.has.ent _ hb.mem)
    refine Or.inl ⟨.slice (some ⟨g, 0, none⟩) n cap, w.freeze ⟨g, cs.length, none⟩ 1, by simp [execOp, st.ev hx, this], (), rfl, ?_⟩
    refine LS.perm (B := B) (B' := l ++ .blk g (.cells cs.toArray T (cs.length, cs.length + 1)) :: r) (LS.frz ⟨l, r, e1, rfl⟩ st.has) (.refl _) (by rw [e2]; exact List.perm_middle.symm)
/-- The first bytes of a block. -/
instance (priority := 3500) Rd.ofBlkPre {c : Cx} {B : Own} {b n cap : Nat} {k : IntKind} {l : List Nat} {rest : List Value} {T : TypeId} {fr : Nat × Nat} [h : InB b (.cells (us k l ++ rest).toArray T fr) B] [ho : Ok (l.length = n ∧ n ≤ cap)] :
    Rd c B (.slice (some ⟨b, 0, none⟩) n cap) 1 n (us k l) := by
  have ho' : Ok (0 + n ≤ (us k l ++ rest).length ∧ n ≤ cap) := ⟨by have := ho.ok; simp; omega⟩
  have := Rd.ofBlk (c := c) (B := B) (off := 0) (n := n) (cap := cap) (h := h) (ho := ho')
  rwa [List.drop_zero, List.take_append_of_le_length (by have := ho.ok; simp; omega), List.take_of_length_le (by have := ho.ok; simp; omega)] at this
end Go.Tw
namespace Go.Tw
/-- What is said of a function, said less. -/
theorem Fn.post {P : Program} {f : FuncId} {args : List Value} {Bp : Own} {Rp : List Fact} {Post Post2 : Value → Own → Prop} (h : Fn P f args Bp Rp Post) (hp : ∀ u B', Post u B' → ∃ B2, Post2 u B2 ∧ Cv B' B2) : Fn P f args Bp Rp Post2 := fun w hw hr =>
  (h w hw hr).mono fun e w' ⟨v, B', he, hP, hB', hs⟩ => by
    obtain ⟨B2, h2, hc⟩ := hp v B' hP
    exact ⟨v, B2, he, h2, hc.has w' hB', { hs with own := fun k hk => hs.own k (hc.keys k hk) }⟩
theorem Cv.refl {B : Own} : Cv B B := ⟨fun _ h => h, fun _ h => h⟩
end Go.Tw
end

section
namespace Go.Tw
theorem eqItems_us {P : Program} {e y : Nat} {k : IntKind} [hue : Und P e (.int k)] [hi : Inf P e 1 y] [hs : Sca P e] {l m : List Nat} (d : Nat) (w : World) : ∀ (is : List Nat), (∀ i, i ∈ is → i < l.length ∧ i < m.length) →
    (Op.eqItems (d + 1) e 1 (us k l).toArray (us k m).toArray is).run P w = .ok (decide (∀ i, i ∈ is → l.getD i 0 = m.getD i 0)) w
  | [], _ => by simp [Op.eqItems]
  | i :: is, h => by
    obtain ⟨h1, h2⟩ := h i List.mem_cons_self
    have p1 : (part e (us k l).toArray (i * 1)).run P w = .ok (.int k ((l.getD i 0 : Nat) : Int)) w := by
      have hg := us_get (k := k) h1
      unfold part
      rw [Sem.run_bind, run_sca, Result.andThen_ok]
      simp only [Bool.false_eq_true, if_false, Nat.mul_one, List.getElem?_toArray, hg, Sem.run_pure]
    have p2 : (part e (us k m).toArray (i * 1)).run P w = .ok (.int k ((m.getD i 0 : Nat) : Int)) w := by
      have hg := us_get (k := k) h2
      unfold part
      rw [Sem.run_bind, run_sca, Result.andThen_ok]
      simp only [Bool.false_eq_true, if_false, Nat.mul_one, List.getElem?_toArray, hg, Sem.run_pure]
    have p3 : (Op.equalIn (d + 1) e (.int k ((l.getD i 0 : Nat) : Int)) (.int k ((m.getD i 0 : Nat) : Int))).run P w = .ok (decide (l.getD i 0 = m.getD i 0)) w := by
      simp only [Op.equalIn, Sem.run_bind, run_und, Result.andThen_ok, if_true, Sem.run_pure]
      congr 1
      by_cases e : l.getD i 0 = m.getD i 0
      · rw [e]; simp
      · have : ((l.getD i 0 : Nat) : Int) ≠ ((m.getD i 0 : Nat) : Int) := fun h => e (Int.ofNat_inj.1 h)
        simp only [e, decide_false]; simpa using this
    have ih := eqItems_us (l := l) (m := m) (k := k) (e := e) (P := P) d w is (fun j hj => h j (List.mem_cons_of_mem _ hj))
    simp only [Op.eqItems, Sem.run_bind, p1, p2, p3, Result.andThen_ok]
    by_cases e : l.getD i 0 = m.getD i 0
    · simp only [e, decide_true, Bool.not_true, Bool.false_eq_true, if_false]
      rw [ih]
      congr 1
      simp only [decide_eq_decide]
      exact ⟨fun h j hj => (List.mem_cons.1 hj).elim (fun q => by rw [q]; exact e) (h j), fun h j hj => h j (List.mem_cons_of_mem _ hj)⟩
    · simp only [e, decide_false, Bool.not_false, if_true, Sem.run_pure]
      congr 1
      symm
      simp only [decide_eq_false_iff_not]
      exact fun h => e (h i List.mem_cons_self)
theorem eqI_us {P : Program} {t n e y : Nat} {k : IntKind} [hu : Und P t (.array n e)] [hue : Und P e (.int k)] [hi : Inf P e 1 y] [hs : Sca P e] {l m : List Nat} (hl : l.length = n) (hm : m.length = n) (d : Nat) (w : World) :
    (Op.equalIn (d + 2) t (.agg (us k l).toArray) (.agg (us k m).toArray)).run P w = .ok (decide (l = m)) w := by
  obtain ⟨i, hi1, hi2, _⟩ := hi.inf
  have hc : P.cellsOf e = 1 := by simp [Program.cellsOf, hi1, hi2]
  rw [run_equalIn_array (i := i) w (d + 1) _ _ hu.und hi1, hc, eqItems_us d w _ (fun j hj => by simp at hj; omega)]
  congr 1
  have : (∀ i, i ∈ List.range n → l.getD i 0 = m.getD i 0) ↔ l = m := by
    constructor
    · intro h
      refine List.ext_getElem (by omega) fun j h1 h2 => ?_
      have := h j (by simp; omega)
      simpa [List.getD_eq_getElem?_getD, h1, h2] using this
    · rintro rfl; simp
  simp only [this]
/-- A type none of whose parts is an interface. -/
class NoGuard (P : Program) (t : TypeId) : Prop where
  no : P.eqGuardType P.depth t = false
section
variable {c : Cx} {env : Env} {B : Own} {d ty : Nat} {pos : String} {af : Array Edge} {x y : Operand} {k : IntKind} {t t2 n e y' : Nat} {l m : List Nat}
theorem p_eqarr [hu : Und c.P t (.array n e)] [hue : Und c.P e (.int k)] [hi : Inf c.P e 1 y'] [hs : Sca c.P e] [hg : NoGuard c.P t] (hx : ev env x = some (.agg (us k l).toArray) := by rfl) (hy : ev env y = some (.agg (us k m).toArray) := by rfl) (hl : l.length = n := by first | (simp; done) | (simp [*]; done)) (hm : m.length = n := by first | (simp; done) | (simp [*]; done)) :
    OpE c ⟨some d, .binOp .eql t x y t2, ty, pos, af, none⟩ env B (.bool (decide (l = m))) :=
  p_eq_of hx hy (fun w => by simp [eqGuard, hg.no]) (by rfl) (fun w => eqI_us hl hm 9998 w)
theorem p_neqarr [hu : Und c.P t (.array n e)] [hue : Und c.P e (.int k)] [hi : Inf c.P e 1 y'] [hs : Sca c.P e] [hg : NoGuard c.P t] (hx : ev env x = some (.agg (us k l).toArray) := by rfl) (hy : ev env y = some (.agg (us k m).toArray) := by rfl) (hl : l.length = n := by first | (simp; done) | (simp [*]; done)) (hm : m.length = n := by first | (simp; done) | (simp [*]; done)) :
    OpE c ⟨some d, .binOp .neq t x y t2, ty, pos, af, none⟩ env B (.bool (decide (l ≠ m))) := by
  have := p_neq_of (c := c) (env := env) (B := B) (d := d) (ty := ty) (pos := pos) (af := af) (t := t) (t2 := t2) (b := decide (l = m)) hx hy (fun w => by simp [eqGuard, hg.no]) (by rfl) (fun w => eqI_us hl hm 9998 w)
  simpa using this
/-- A call under a guard that holds. -/
theorem s_xyg {ops : Array Oper} {Q : Exit → Act → World → Prop} {rest : List Oper} {op : Op} {j t : Nat} {b : Bool} (hp : OpX c ⟨some d, op, ty, pos, af, none⟩ env B (fun v B' => GL c ops Q rest ((d, v) :: env) B')) (hd : Nat.blt d c.n = true := by rfl) (ht : (ops[j]?).bind (·.dst) = some t := by rfl) (hv : look env t = some (.bool b) := by rfl) : GL c ops Q (⟨some d, op, ty, pos, af, some (j, b)⟩ :: rest) env B := by
  intro a w s
  obtain ⟨X, v, B', hN, hx⟩ := hp
  unfold wpList
  rw [if_pos (by simp [Region.wanted, s.yields ht hv])]
  left
  have h2 : Does c ⟨some d, op, ty, pos, af, some (j, b)⟩ a.eval w (fun u w' => ∃ x, u = v x ∧ LS w w' B (B' x)) := hx a w s
  refine h2.wp ?_
  rintro u w' ⟨x, rfl, hl⟩
  exact hN x _ _ (s.put hd _ hl)
end
end Go.Tw
end

section
namespace Go.Tw
open Go

section
variable {P : Program}

/-- A deferred builtin: the frame's own step. -/
theorem step_bdefer {fr : Frame} {cs : List Frame} {w w' : World} {d : Deferred} {ds : List Deferred} {b : Builtin} {ts : Array TypeId} {ty : TypeId} {ks : Array Bool} {v : Value} (hm : fr.mode = .returning) (hd : fr.defers = d :: ds) (ht : d.target = .builtin b ts ty ks)
    (hi : (invoke d.target d.args).run P w = .ok (.value v) w') : step P (lone fr cs w) = .next (lone { fr with defers := ds } cs w') := by
  obtain ⟨t, a⟩ := d
  simp only at ht hi
  subst ht
  refine step_lone_go ?_
  simp [stepG, unwind, callDeferred, hm, hd, Sem.runT_eq, hi]

/-- What the deferred builtins do, one behind the other, and the result then. -/
def LeavesB (P : Program) (fn : Func) (tmps : Array Value) (R : Ending → World → Prop) : List Deferred → World → Prop
  | [], w => ∃ v, (results fn tmps).run P w = .ok v w ∧ R (.returned v) w
  | d :: ds, w => ∃ b ts ty ks v w', d.target = .builtin b ts ty ks ∧ (invoke d.target d.args).run P w = .ok (.value v) w' ∧ LeavesB P fn tmps R ds w'

theorem leavesB_steps {fn : Func} {tmps : Array Value} {R : Ending → World → Prop} : ∀ (ds : List Deferred) (w : World) (fr : Frame)
    (cs : List Frame), fr.mode = .returning → fr.defers = ds → fr.tmps = tmps → P.funcs[fr.fn]? = some fn → fr.kind = .normal → LeavesB P fn tmps R ds w →
    ∃ e w' fr', R e w' ∧ Comes P (lone fr cs w) (lone fr' cs w') e ∧ fr'.fn = fr.fn ∧ fr'.leaving P w' e := by
  intro ds
  induction ds with
  | nil =>
    intro w fr cs hu hd ht hf hk h
    obtain ⟨v, hr, hR⟩ := h
    exact ⟨.returned v, w, fr, hR, Steps.refl P _, rfl, hu, hd, hk, fn, hf, ht ▸ hr⟩
  | cons d ds ih =>
    intro w fr cs hu hd ht hf hk h
    obtain ⟨b, ts, ty, ks, v, w', htar, hinv, hrest⟩ := h
    have h1 := step_bdefer (cs := cs) hu hd htar hinv
    obtain ⟨e', w'', fr', hR', hs', hfn', hl'⟩ := ih w' { fr with defers := ds } cs hu rfl ht hf hk hrest
    exact ⟨e', w'', fr', hR', Comes.of_steps (.one h1) hs', hfn', hl'⟩

def bodyPostB (P : Program) (fn : Func) (R : Ending → World → Prop) : Exit → Act → World → Prop
  | .normal, a, w | .ret, a, w => LeavesB P fn a.tmps R a.defers w
  | .outgrown, _, w => R .outgrown w
  | _, _, _ => False

theorem calls_of_wpB {f : FuncId} {fn : Func} {c : Code} {args : Array Value} {w : World} {R : Ending → World → Prop}
    (hf : P.funcs[f]? = some fn) (hb : fn.body = some c)
    (h : c.wp P (bodyPostB P fn R) { tmps := args ++ Array.replicate (fn.ntmps - args.size) undef, defers := [] } w) : Calls P f args w R := by
  intro cs
  let b : Frame := { (default : Frame) with fn := f, kind := .normal }
  have henter : Frame.enter P f args .normal =
      b.at { tmps := args ++ Array.replicate (fn.ntmps - args.size) undef, defers := [] } [.code c] := by
    simp [Frame.enter, Frame.at, hf, hb, b]
  obtain ⟨e, a', w', hq, harr⟩ := h b [] cs
  rw [← henter] at harr
  cases e with
  | normal =>
    obtain ⟨e', w'', fr', hR, hs, hfn, hl⟩ := leavesB_steps a'.defers w' { b.at a' [] with mode := .returning } cs rfl rfl rfl hf rfl hq
    exact ⟨e', w'', fr', hR, Comes.of_steps (Steps.trans harr (.one step_end)) hs, hfn, hl⟩
  | ret =>
    obtain ⟨todo, hs₀⟩ := harr
    obtain ⟨e', w'', fr', hR, hs, hfn, hl⟩ := leavesB_steps a'.defers w' { b.at a' todo with mode := .returning } cs rfl rfl rfl hf rfl hq
    exact ⟨e', w'', fr', hR, Comes.of_steps hs₀ hs, hfn, hl⟩
  | panic chain => exact hq.elim
  | exit id => exact hq.elim
  | goto l => exact hq.elim
  | outgrown => exact ⟨.outgrown, w', b, hq, harr.resolve_left (by simp [b]), rfl, trivial⟩

/-- What holds where a walked function that defers returns. -/
def RetB (P : Program) (fn : Func) (w : World) (Bp : Own) (Post : Value → Own → Prop) : Exit → Act → World → Prop :=
  bodyPostB P fn (fun e w' => ∃ v B', e = .returned v ∧ Post v B' ∧ Has w' B' ∧ Step (keys Bp) w w' B')

theorem fn_enterB {f : FuncId} {fn : Func} {code : Code} {n : Nat} {args : List Value} {Bp : Own} {Rp : List Fact} {Post : Value → Own → Prop}
    (hf : P.funcs[f]? = some fn) (hb : fn.body = some code) (hn : fn.ntmps = n) (hle : Nat.ble args.length n = true)
    (h : ∀ w, GC ⟨P, n, w, keys Bp, Rp, []⟩ (RetB P fn w Bp Post) code (argEnv 0 args) Bp) :
    Fn P f args Bp Rp Post := by
  intro w hw hR
  refine calls_of_wpB hf hb (h w _ _ ?_)
  have hle' : args.length ≤ n := Nat.le_of_ble_eq_true hle
  refine ⟨rfl, ?_, ?_, hw, ?_, hR⟩
  · simp only [Array.size_append, Array.size_replicate, List.size_toArray, hn]; omega
  · intro t v ht
    obtain ⟨_, h2⟩ := look_argEnv args 0 t v ht
    have hlt : t < args.length := by
      rcases Nat.lt_or_ge t args.length with h | h
      · exact h
      · rw [Nat.sub_zero, List.getElem?_eq_none h] at h2; cases h2
    rw [Array.getElem?_append_left (by simpa using hlt)]
    simpa using h2
  · exact ⟨rfl, rfl, rfl, Nat.le_refl _, fun _ _ _ => rfl, fun k hk => Or.inl hk⟩
end

section
variable {c : Cx} {env : Env} {B : Own} {ty : Nat} {pos : String} {af : Array Edge} {x : Operand} {vx : Value}

/-- The same place, more deferred. -/
def Cx.df (c : Cx) (d : Deferred) : Cx := ⟨c.P, c.n, c.w0, c.K, c.R, d :: c.D⟩

theorem s_dfr {ops : Array Oper} {Q : Exit → Act → World → Prop} {rest : List Oper} {b : Builtin} {t1 : TypeId} (hx : ev env x = some vx := by rfl) (hc : (match x with | .const _ => true | _ => false) = false := by rfl)
    (h : GL ⟨c.P, c.n, c.w0, c.K, c.R, ⟨.builtin b #[t1] ty #[false], #[vx]⟩ :: c.D⟩ ops Q rest env B) : GL c ops Q (⟨none, .defer ⟨.builtin b, #[x], #[t1]⟩, ty, pos, af, none⟩ :: rest) env B := by
  intro a w st
  refine wpList_plain rfl fun K hK => ?_
  have hr : (execOp a.eval ⟨none, .defer ⟨.builtin b, #[x], #[t1]⟩, ty, pos, af, none⟩).run c.P w = .ok (.defer ⟨.builtin b #[t1] ty #[false], #[vx]⟩) w := by
    simp [execOp, resolve, st.ev hx]
    cases x <;> simp_all
  unfold Oper.wp
  rw [hr, Oper.upon_defer]
  refine hK _ _ (h _ _ ?_)
  exact ⟨by show _ :: a.defers = _ :: c.D; rw [st.defers], st.size, st.env, st.has, st.step, st.reads⟩

/-- Behind the return: these are still to run. -/
def FinB (c : Cx) (fn : Func) (Bp : Own) (Post : Value → Own → Prop) (ds : List Deferred) (env : Env) (B : Own) : Prop :=
  ∀ a w, St ⟨c.P, c.n, c.w0, c.K, c.R, ds⟩ env B a w → LeavesB c.P fn a.tmps (fun e w' => ∃ v B', e = .returned v ∧ Post v B' ∧ Has w' B' ∧ Step (keys Bp) c.w0 w' B') ds w

theorem f_retB {fn : Func} {Bp : Own} {Post : Value → Own → Prop} {e : Exit} (he : e = .ret ∨ e = .normal) (h : FinB c fn Bp Post c.D env B) : Fin c (RetB c.P fn c.w0 Bp Post) e env B := by
  intro a w st
  have h1 := h a w st
  rw [← st.defers] at h1
  rcases he with rfl | rfl
  · exact h1
  · exact h1

theorem b_end {fn : Func} {Bp : Own} {Post : Value → Own → Prop} {v : Value} {B' : Own} (hK : c.K = keys Bp) (hv : ∀ a w, St ⟨c.P, c.n, c.w0, c.K, c.R, []⟩ env B a w → (results fn a.tmps).run c.P w = .ok v w) (hs : List.Sublist B' B) (hp : Post v B') :
    FinB c fn Bp Post [] env B := by
  intro a w st
  exact ⟨v, hv a w st, v, B', rfl, hp, st.has.sub hs, by rw [← hK]; exact st.step.sub hs⟩

/-- What clear does to a block's cells. -/
theorem b_clear {fn : Func} {Bp : Own} {Post : Value → Own → Prop} {ds : List Deferred} {t1 e b off n cap ty : Nat} {ks : Array Bool} {z : Value} {cs : List Value} {T : TypeId} {B' : Own} [hu : Und c.P t1 (.slice e)] [hz : Zer c.P e [z]]
    [hb : InB b (.cells cs.toArray T (0, 0)) B] (h1 : z.oneCell' = true) (hn : 0 < n) (hfit : off + n ≤ cs.length)
    [hup : Up (.blk b (.cells cs.toArray T (0, 0))) (.blk b (.cells (cs.take off ++ List.replicate n z ++ cs.drop (off + n)).toArray T (0, 0))) B B'] (h : FinB c fn Bp Post ds env B') :
    FinB c fn Bp Post (⟨.builtin .clear #[t1] ty ks, #[.slice (some ⟨b, off, none⟩) n cap]⟩ :: ds) env B := by
  intro a w st
  have hbk : w.heap[b]? = some (.cells cs.toArray T (0, 0)) := st.has.ent _ hb.mem
  have hst := run_storeCells_at c.P b off T (List.replicate n z) 0 cs.toArray w hbk (by simpa using hfit) (fun u hu => by rw [List.eq_of_mem_replicate hu]; exact h1)
  obtain ⟨zv, hzv, hzc⟩ := run_zer (P := c.P) (t := e) (z := [z]) w
  have hrun : (invoke (.builtin .clear #[t1] ty ks) #[.slice (some ⟨b, off, none⟩) n cap]).run c.P w = .ok (.value (.tuple #[])) (w.setRow b (cs.take off ++ List.replicate n z ++ cs.drop (off + n)).toArray) := by
    obtain ⟨m, rfl⟩ : ∃ m, n = m + 1 := ⟨n - 1, by omega⟩
    have hzr : (Builtin.zeroCells zv.cells (m + 1)).toList = List.replicate (m + 1) z := by
      rw [hzc]
      apply List.ext_getElem
      · simp [Builtin.zeroCells]
      · intro i h1 h2
        simp [Builtin.zeroCells, Nat.mod_one]
    rw [List.length_replicate] at hst
    simp only at hst
    simp only [invoke, builtin, Builtin.clear_, Go.Sem.run_bind]
    simp [run_und, hzv, hzr, hst]
  refine ⟨_, _, _, _, _, _, rfl, hrun, ?_⟩
  have ls : LS w (w.setRow b (cs.take off ++ List.replicate n z ++ cs.drop (off + n)).toArray) B B' := LS.row hup.up st.has
  exact h { a with defers := ds } _ ⟨rfl, st.size, st.env, ls.has, st.step.trans ls.step, st.reads⟩

/-- Nothing to clear. -/
theorem b_clear_nil {fn : Func} {Bp : Own} {Post : Value → Own → Prop} {ds : List Deferred} {t1 e ty : Nat} {ks : Array Bool} [hu : Und c.P t1 (.slice e)] (h : FinB c fn Bp Post ds env B) :
    FinB c fn Bp Post (⟨.builtin .clear #[t1] ty ks, #[.slice none 0 0]⟩ :: ds) env B := by
  intro a w st
  refine ⟨_, _, _, _, .tuple #[], w, rfl, ?_, h { a with defers := ds } _ ⟨rfl, st.size, st.env, st.has, st.step, st.reads⟩⟩
  simp [invoke, builtin, Builtin.clear_, run_und]

theorem b_ret2 {fn : Func} {Bp : Own} {Post : Value → Own → Prop} {t u : Nat} {v1 v2 : Value} {B' : Own} (hr : fn.results = #[.tmp t, .tmp u]) (hv : look env t = some v1) (hu : look env u = some v2) (hK : c.K = keys Bp) (hs : List.Sublist B' B) (hp : Post (.tuple #[v1, v2]) B') :
    FinB c fn Bp Post [] env B :=
  b_end hK (fun a w st => by
    rw [results_tmp2 hr]
    have h1 := st.eval hv; have h2 := st.eval hu
    simp only [Act.eval] at h1 h2; rw [h1, h2]) hs hp

theorem b_retmt {fn : Func} {Bp : Own} {Post : Value → Own → Prop} {t u ty n y b : Nat} {v2 : Value} {cs : List Value} {T : TypeId} {fr : Nat × Nat} {B' : Own} [Agg c.P ty] [Inf c.P ty n y] (hr : fn.results = #[.cell t ty, .tmp u]) (hv : look env t = some (ptr b 0)) (hu : look env u = some v2) [hb : InB b (.cells cs.toArray T fr) B] (hl : cs.length = n)
    (hK : c.K = keys Bp) (hs : List.Sublist B' B) (hp : Post (.tuple #[.agg cs.toArray, v2]) B') : FinB c fn Bp Post [] env B :=
  b_end hK (fun a w st => by
    have := run_cellvar (ty := ty) hb.mem hl st
    simp only at this
    simp [results, hr, st.env _ _ hv, st.env _ _ hu, asAddr, this]) hs hp
end
end Go.Tw
namespace Go.Tw
/-- Facts that one was told oneself are told on. -/
theorem RdAll.ofR {c : Cx} {B : Own} {Rp : List Fact} (h : ∀ f, f ∈ Rp → f ∈ c.R) : RdAll c B Rp := ⟨fun env a w st f hf => by
  have hm := h f hf
  have hsame : ∀ b, f.fp b → w.heap[b]? = c.w0.heap[b]? := fun b hb => st.step.same b (st.reads.dis f hm b hb).1 (st.reads.dis f hm b hb).2
  refine ⟨⟨fun w' hw => st.reads.fact f hm w' (fun b hb => by rw [hw b hb, hsame b hb]), fun b hb => Nat.lt_of_lt_of_le (st.reads.dis f hm b hb).1 st.step.size⟩, fun b hb => Or.inr (st.reads.dis f hm b hb)⟩⟩
/-- What is said of a function, said less, with what it owns at hand. -/
theorem Fn.postH {P : Program} {f : FuncId} {args : List Value} {Bp : Own} {Rp : List Fact} {Post Post2 : Value → Own → Prop} (h : Fn P f args Bp Rp Post) (hp : ∀ w u B', Post u B' → Has w B' → ∃ B2, Post2 u B2 ∧ Has w B2 ∧ ∀ k, k ∈ keys B2 → k ∈ keys B') : Fn P f args Bp Rp Post2 := fun w hw hr =>
  (h w hw hr).mono fun e w' ⟨v, B', he, hP, hB', hs⟩ => by
    obtain ⟨B2, h2, h3, h4⟩ := hp w' v B' hP hB'
    exact ⟨v, B2, he, h2, h3, { hs with own := fun k hk => hs.own k (h4 k hk) }⟩
/-- A new row, as the block that it is. -/
theorem Fn.opened {P : Program} {f : FuncId} {args : List Value} {Bp : Own} {Rp : List Fact} {T n : Nat} {xs : List Value} (hn : 0 < n) (h : Fn P f args Bp Rp (fun u B' => B' = [.sl u T 1 n xs])) :
    Fn P f args Bp Rp (fun u B' => ∃ g cap rest, u = .slice (some ⟨g, 0, none⟩) n cap ∧ n ≤ cap ∧ xs.length = n ∧ (xs ++ rest).length = cap ∧ B' = [.blk g (.cells (xs ++ rest).toArray T (0, 0))]) := by
  refine h.postH ?_
  rintro w u B' rfl hh
  have h1 := hh.ent _ List.mem_cons_self
  rcases h1.2 with ⟨h0, h2⟩ | ⟨g, cap, cur, rfl, h0, hg, hnc, hm, hc, ht⟩
  · omega
  · have hcur : xs ++ cur.toList.drop n = cur.toList := by rw [← ht, Nat.mul_one]; exact List.take_append_drop _ _
    refine ⟨[.blk g (.cells (xs ++ cur.toList.drop n).toArray T (0, 0))], ⟨g, cap, cur.toList.drop n, rfl, hnc, by simpa using h1.1, by rw [hcur]; simpa using hc, rfl⟩, ⟨fun e he => ?_, by simp [keys, Ent.keys]⟩, fun k hk => by simpa [keys, Ent.keys, Value.ownBlock] using hk⟩
    simp only [List.mem_singleton] at he
    subst he
    show w.heap[g]? = _
    rw [hcur]; simpa using hg
end Go.Tw
namespace Go.Tw
section
variable {c : Cx} {ops : Array Oper} {Q : Exit → Act → World → Prop} {env : Env} {B B0 : Own} {cls : Nat → Cls} {i d : Nat} {s : List Nat} {o : Oper}
theorem fresh_row (B0 : Own) (n : Nat) (cells : List Value) : ∃ x : Nat × Nat × List Value, x.1 ∉ keys B0 ∧ n ≤ x.2.1 ∧ (cells ++ x.2.2).length = x.2.1 := by
  obtain ⟨b, hb⟩ := fresh_nat (keys B0)
  exact ⟨(b, cells.length + n, List.replicate n undef), hb, by show n ≤ cells.length + n; omega, by simp⟩
/-- A new row, of what the statement itself has made. -/
theorem d_m4 {e n : Nat} {cells : List Value} (ho : ops[i]? = some o) (hmk : ∀ o', some o = some o' → MkDoes c o' env [] e n cells)
    (hn : ∀ g cap rest, g ∉ keys B0 → n ≤ cap → (cells ++ rest).length = cap → Dr c ops Q B0 cls s ((d, .slice (some ⟨g, 0, none⟩) n cap) :: env) (.blk g (.cells (cells ++ rest).toArray e (0, 0)) :: B)) (hc : cls i = .eff 4 := by rfl) (hd : o.dst = some d := by rfl) (hlt : Nat.blt d c.n = true := by rfl) (hg : o.guard = none := by rfl) : Dr c ops Q B0 cls (i :: s) env B := by
  refine .eff [] B (X := { x : Nat × Nat × List Value // x.1 ∉ keys B0 ∧ n ≤ x.2.1 ∧ (cells ++ x.2.2).length = x.2.1 }) (fun x => .slice (some ⟨x.1.1, 0, none⟩) n x.1.2.1) (fun x => .blk x.1.1 (.cells (cells ++ x.1.2.2).toArray e (0, 0)) :: B) (fun x => [.blk x.1.1 (.cells (cells ++ x.1.2.2).toArray e (0, 0))]) hc ho (fun x h => by rw [hd] at h; cases h; exact hlt)
    ⟨fun _ => ⟨⟨⟨_, (fresh_row B0 n cells).choose_spec⟩⟩, fun _ h => (by cases h), fun x y hy hm => ?_⟩, fun _ => rfl, fun h => by omega⟩ (.refl _) (fun _ => .refl _) (fun _ => rfl) (fun h => by cases h) (fun a w _ => by simp [Region.wanted, hg]) (fun a w st hz => ?_) (fun x => ?_)
  · simp only [List.mem_singleton] at hy
    subst hy
    exact x.2.1 (mem_keys hm (by simp [Ent.keys]))
  · have st0 : St c env [] a w := st.subset (fun _ h => by cases h) (by simp [keys])
    refine (hmk o rfl a w st0).mono ?_
    rintro u w' ⟨g, cap, rest, rfl, h1, h2, hge, hl⟩
    refine ⟨⟨(g, cap, rest), fun hm => ?_, h1, h2⟩, rfl, hl.whole (fun _ h => by cases h) hge st.has⟩
    have := hz _ hm
    omega
  · rw [hd]
    exact hn _ _ _ x.2.1 x.2.2.1 x.2.2.2
/-- A call that is handed nothing and gives a new row. -/
theorem d_x4o {f : FuncId} {args : Array Operand} {tys : Array TypeId} {ty T n : Nat} {xs : List Value} {pos : String} {af : Array Edge} {vs : List Value} {Rp : List Fact} (ho : ops[i]? = some ⟨some d, .call ⟨.value (.func f), args, tys⟩, ty, pos, af, none⟩)
    (hF : Fn c.P f vs [] Rp (fun u B' => B' = [.sl u T 1 n xs])) (hn0 : 0 < n) (hxl : xs.length = n) (hv : evs env args.toList = some vs := by rfl) [hcal : Callee c.P f] (hR : RdAll c B Rp := by repeat (first | exact RdAll.nil | refine @RdAll.cons _ _ _ _ _ _ _ (by infer_instance) ?_ | refine @RdAll.consG _ _ _ _ _ _ (by infer_instance) ?_))
    (hn : ∀ g cap rest, g ∉ keys B0 → n ≤ cap → (xs ++ rest).length = cap → Dr c ops Q B0 cls s ((d, .slice (some ⟨g, 0, none⟩) n cap) :: env) (.blk g (.cells (xs ++ rest).toArray T (0, 0)) :: B)) (hc : cls i = .eff 4 := by rfl) (hlt : Nat.blt d c.n = true := by rfl) : Dr c ops Q B0 cls (i :: s) env B := by
  refine d_x4 ho (hF.opened hn0) ?_ ?_ hv hR ?_ hc hlt
  · obtain ⟨x, h1, h2, h3⟩ := fresh_row B0 n xs
    exact ⟨_, _, ⟨x.1, x.2.1, x.2.2, rfl, h2, hxl, h3, rfl⟩, fun k hk => by simp [keys, Ent.keys] at hk; subst hk; exact h1⟩
  · rintro u B' ⟨g, cap, rest, rfl, _, _, _, rfl⟩ e he
    simp only [List.mem_singleton] at he
    subst he
    simp [Ent.keys]
  · rintro u B' ⟨g, cap, rest, rfl, h1, _, h3, rfl⟩ hk
    exact hn g cap rest (hk g (by simp [keys, Ent.keys])) h1 h3
end
end Go.Tw
namespace Go.Tw
/-- The first cells of a block. -/
instance (priority := 3400) Rd.ofBlkPreV {c : Cx} {B : Own} {b n cap : Nat} {xs rest : List Value} {T : TypeId} {fr : Nat × Nat} [h : InB b (.cells (xs ++ rest).toArray T fr) B] [ho : Ok (xs.length = n ∧ n ≤ cap)] :
    Rd c B (.slice (some ⟨b, 0, none⟩) n cap) 1 n xs := by
  have ho' : Ok (0 + n ≤ (xs ++ rest).length ∧ n ≤ cap) := ⟨by have := ho.ok; simp; omega⟩
  have := Rd.ofBlk (c := c) (B := B) (off := 0) (n := n) (cap := cap) (h := h) (ho := ho')
  rwa [List.drop_zero, List.take_append_of_le_length (by have := ho.ok; simp; omega), List.take_of_length_le (by have := ho.ok; simp; omega)] at this
end Go.Tw
namespace Go.Tw
section
variable {c : Cx} {env : Env} {B : Own} {d ty t t2 : Nat} {pos : String} {af : Array Edge} {x y : Operand} {Q : Exit → Act → World → Prop}
theorem p_shln {k2 : IntKind} {a b : Nat} (hx : ev env x = some (.int .i64 (a : Int)) := by rfl) (hy : ev env y = some (.int k2 (b : Int)) := by rfl) (hb : b ≤ 64 := by decide) (hin : a * 2 ^ b ≤ 9223372036854775807 := by omega) : OpE c ⟨some d, .binOp .shl t x y t2, ty, pos, af, none⟩ env B (.int .i64 ((a * 2 ^ b : Nat) : Int)) :=
  p_shift hx hy (Or.inl rfl) (fun w => by
    simp only [Op.shift]; rw [if_neg (by omega)]; simp only [Sem.run_pure, Int.toNat_natCast]
    have e1 : (a : Int) * (2 : Int) ^ min b IntKind.i64.bits = ((a * 2 ^ b : Nat) : Int) := by rw [Nat.min_eq_left (show b ≤ IntKind.i64.bits from hb)]; simp
    rw [e1, i64_in (by omega) (by omega)])
theorem p_orn {a b : Nat} (hx : ev env x = some (.int .i64 (a : Int)) := by rfl) (hy : ev env y = some (.int .i64 (b : Int)) := by rfl) (ha : a < 2 ^ 63 := by omega) (hb : b < 2 ^ 63 := by omega) : OpE c ⟨some d, .binOp .or t x y t2, ty, pos, af, none⟩ env B (.int .i64 ((a ||| b : Nat) : Int)) :=
  p_int hx hy (fun w => by
    simp only [binOp, Op.intBits]; rw [if_neg (by simp)]; simp only [Sem.run_pure]
    have h64 : IntKind.i64.bits = 64 := rfl
    have hl := Nat.or_lt_two_pow ha hb
    rw [BitVec.toNat_or, bv_nat, bv_nat, Nat.mod_eq_of_lt (by rw [h64]; omega), Nat.mod_eq_of_lt (by rw [h64]; omega), i64_in (by omega) (by omega)])
theorem open_has0 {v : Value} {T s n : Nat} {xs : List Value} (hn0 : 0 < n) (hmem : Ent.sl v T s n xs ∈ B) {a : Act} {w : World} (st : St c env B a w) : v ≠ .slice none 0 0 := by
  have h := st.has.ent _ hmem
  rcases h.2 with ⟨_, h0⟩ | ⟨g, cap, cur, rfl, _⟩
  · omega
  · simp
theorem g_open0 {ops : Array Oper} {l : List Oper} {v : Value} {T s n : Nat} {xs : List Value} (hn0 : 0 < n) {B' : Nat → List Value → Own} [hi : InSl v T s n xs B] [hu : ∀ g rest, Up (.sl v T s n xs) (.blk g (.cells (xs ++ rest).toArray T (0, 0))) B (B' g rest)]
    (h : ∀ g cap rest, v = .slice (some ⟨g, 0, none⟩) n cap → n ≤ cap → cap ≤ 9223372036854775807 → xs.length = n * s → (xs ++ rest).length = cap * s → GL c ops Q l env (B' g rest)) : GL c ops Q l env B := fun a w st => g_open (open_has0 hn0 hi.mem st) h a w st
theorem c_open0 {code : Code} {v : Value} {T s n : Nat} {xs : List Value} (hn0 : 0 < n) {B' : Nat → List Value → Own} [hi : InSl v T s n xs B] [hu : ∀ g rest, Up (.sl v T s n xs) (.blk g (.cells (xs ++ rest).toArray T (0, 0))) B (B' g rest)]
    (h : ∀ g cap rest, v = .slice (some ⟨g, 0, none⟩) n cap → n ≤ cap → cap ≤ 9223372036854775807 → xs.length = n * s → (xs ++ rest).length = cap * s → GC c Q code env (B' g rest)) : GC c Q code env B := fun a w st => c_open (open_has0 hn0 hi.mem st) h a w st
end
end Go.Tw
end

section
namespace Go.Tw
open Go.ChangeShapes Go.WideShapes Go.ChangeAt Go.RowKit

section
variable {H : Type} {enc : TypeId × Value → H} {P : Program} {w w' : World} {base : Nat} {sp : Nat → Bool} {held : Bool}

theorem cells_same {K : List Nat} {B' : Own} (s : Step K w w' B') {p : MemPlace} (hp : p.block < w.heap.size) (hk : p.block ∉ K) : w.sameAt w' p := by
  cases p with
  | cell b off =>
    have := s.same b hp hk
    simp only [World.sameAt, World.cell?, this]
  | map b => exact s.same b hp hk

theorem trodAll_carry {T : List TypeId} : ∀ {vs : List Value} {ds : List (DataW H)} {ps : List MemPlace}, DataW.TrodAll enc P w base sp held T vs ds ps → (∀ p ∈ ps, w.sameAt w' p) → DataW.TrodAll enc P w' base sp held T vs ds ps := by
  induction T with
  | nil => intro vs ds ps h _; obtain ⟨rfl, rfl, rfl⟩ := trodAll_nil h; rfl
  | cons t ts ih =>
    intro vs ds ps h hs
    obtain ⟨v, vs', d, ds', p, q, rfl, rfl, rfl, h1, h2⟩ := trodAll_cons h
    obtain ⟨n, hn⟩ := h1
    exact ⟨p, q, ⟨n, DataW.trod_carry _ _ _ _ hn (fun x hx => hs x (List.mem_append_left _ hx))⟩, ih h2 (fun x hx => hs x (List.mem_append_right _ hx)), rfl⟩

/-- Nothing that was there has changed. -/
theorem kept_of_step {may : MemPlace → Prop} {B' : Own} (s : Step [] w w' B') : w.keptBut w' may := by
  refine ⟨s.os, s.output, fun i hi => ?_⟩
  have e := s.same i hi (by simp)
  rw [e]
  cases w.heap[i]? with
  | none => rfl
  | some o =>
    cases o with
    | cells c t fr => exact ⟨rfl, rfl, rfl, fun _ _ => rfl⟩
    | map es clock => exact Or.inr ⟨rfl, rfl⟩
    | _ => rfl

/-- A law that answers true and leaves what it was handed alone. -/
theorem post_true {fn : Func} {s : ChangeSpec} {T : TypeId} {args : Array Value} {ds gs : List (DataW H)} {before : List MemPlace} {B' : Own}
    (K : Kids P (· < P.types.size)) (full : ∀ t e, t < P.types.size → P.underlying t = some (.slice e) → 0 < P.cellsOf e)
    (hres : fn.resultTypes = #[T]) (hT : P.underlying T = some .bool) (hts : ∀ t ∈ fn.params.toList, t < P.types.size) (hv : s.vars = [])
    (hW : DataW.Whole enc P fn.params.toList s.vars false w args.toList ds gs before)
    (hf : s.fn H (ds ++ gs) = { results := [.lit (.bool true)], args := ds }) (st : Step [] w w' B') :
    s.post enc P fn false true false false w args (.bool true) w' := by
  have hlt := hW.lt
  have hW' := hW
  obtain ⟨p, q, hA, hV, rfl, _, _⟩ := hW
  rw [hv] at hV
  obtain ⟨rfl, rfl⟩ := trodVars_none hV
  simp only [List.append_nil] at *
  have h1 := DataW.TrodAll.respare (spare' := fun b => decide (b < w.heap.size)) K full hts hA (fun x hx => by simpa using hlt x hx)
  have h2 := trodAll_carry (w' := w') h1 (fun x hx => cells_same st (hlt x hx) (by simp))
  refine ⟨ds, [], p, [], p, [], hW', ?_, ?_, ?_, kept_of_step st, fun h => by cases h⟩
  · rw [List.append_nil, hf, hres]
    exact trodAll_mk1 ⟨1, by simp [DataW.trod, Value.cells, hT]⟩
  · rw [List.append_nil, hf]; exact h2
  · rw [hv, List.append_nil, hf]; rfl

theorem wf_un {k : IntKind} (hk : k.signed = false) {n : Int} (h : (Lit.int k n).wf = true) : ∃ m : Nat, n = (m : Int) ∧ m < 2 ^ k.bits := by
  simp only [Lit.wf, Bool.and_eq_true, decide_eq_true_eq] at h
  refine ⟨n.toNat, ?_, ?_⟩
  · cases k <;> simp [IntKind.signed] at hk <;> simp [IntKind.min, IntKind.max, IntKind.bits, IntKind.signed] at h ⊢ <;> omega
  · cases k <;> simp [IntKind.signed] at hk <;> simp [IntKind.min, IntKind.max, IntKind.bits, IntKind.signed] at h ⊢ <;> omega

/-- The cells of a row of numbers. -/
theorem cells_row {e : TypeId} {k : IntKind} (he : P.underlying e = some (.int k)) (hk : k.signed = false) {fuel : Nat} : ∀ (n : Nat) (cs : List Value), cs.length = n →
    (∀ i, i < n → ∃ y, DataW.trod enc P w base sp held fuel e ((cs.drop i).take 1) = some y) → ∃ l : List Nat, cs = us k l ∧ l.length = n ∧ Us k l
  | 0, cs, hl, _ => ⟨[], by rw [List.length_eq_zero_iff.1 hl]; rfl, rfl, inferInstance⟩
  | n + 1, [], hl, _ => by simp at hl
  | n + 1, c :: cs, hl, h => by
    obtain ⟨l, rfl, h1, h2⟩ := cells_row he hk n cs (by simpa using hl) (fun i hi => by simpa using h (i + 1) (by omega))
    obtain ⟨y, hy⟩ := h 0 (by omega)
    obtain ⟨z, hc, _, hz⟩ := DataW.trod_int he hy
    obtain ⟨m, rfl, hm⟩ := wf_un hk hz
    simp only [List.drop_zero, List.take_succ_cons, List.take_zero, List.cons.injEq, and_true] at hc
    subst hc
    haveI : Fits m k := ⟨hm⟩
    exact ⟨m :: l, rfl, by simp [h1], inferInstance⟩

theorem mapM_get {α β : Type} {f : α → Option β} : ∀ {l : List α} {r : List β}, l.mapM f = some r → ∀ a ∈ l, ∃ b, f a = some b := by
  intro l r h a ha
  obtain ⟨i, hi, rfl⟩ := List.mem_iff_getElem.1 ha
  obtain ⟨b, _, hb⟩ := Go.Lib.mapM_at h i l[i] (by simp [hi])
  exact ⟨b, hb⟩

theorem trod_row {t e : TypeId} {n : Nat} {k : IntKind} (ht : P.underlying t = some (.array n e)) (he : P.underlying e = some (.int k)) (hk : k.signed = false) (hce : P.cellsOf e = 1) (hct : P.cellsOf t = n)
    {fuel : Nat} {cs : List Value} {x : DataW H × List MemPlace} (h : DataW.trod enc P w base sp held fuel t cs = some x) : ∃ l : List Nat, cs = us k l ∧ l.length = n ∧ Us k l := by
  cases fuel with
  | zero => simp [DataW.trod] at h
  | succ fuel =>
    simp only [DataW.trod, ht, hce, hct, Nat.mul_one] at h
    split at h
    · rename_i hl
      obtain ⟨xs, hm, _⟩ := Option.map_eq_some_iff.1 h
      exact cells_row he hk n cs hl (fun i hi => mapM_get hm i (by simpa using hi))
    · cases h

/-- The parts of a struct's cells. -/
theorem trod_fields {t : TypeId} {fs : Array Field} (ht : P.underlying t = some (.struct fs)) {fuel : Nat} {cs : List Value} {x : DataW H × List MemPlace} (h : DataW.trod enc P w base sp held fuel t cs = some x) :
    ∃ fuel', cs.length = P.cellsOf t ∧ ∀ f ∈ fs.toList, ∃ y, DataW.trod enc P w base sp held fuel' f.type ((cs.drop f.offset).take (P.cellsOf f.type)) = some y := by
  cases fuel with
  | zero => simp [DataW.trod] at h
  | succ fuel =>
    simp only [DataW.trod, ht] at h
    split at h
    · rename_i hl
      obtain ⟨xs, hm, _⟩ := Option.map_eq_some_iff.1 h
      exact ⟨fuel, hl, mapM_get hm⟩
    · cases h

theorem okWide_arr {t e : TypeId} {n : Nat} {r : Reach} {v : Value} (ht : P.underlying t = some (.array n e)) (h : Value.okWide P w r base t v) : ∃ cs : Array Value, v = .agg cs := by
  simp only [Value.okWide, ht] at h
  obtain ⟨cs, h1, _⟩ := h
  exact ⟨cs, h1⟩
theorem okWide_str {t : TypeId} {fs : Array Field} {r : Reach} {v : Value} (ht : P.underlying t = some (.struct fs)) (h : Value.okWide P w r base t v) : ∃ cs : Array Value, v = .agg cs := by
  simp only [Value.okWide, ht] at h
  obtain ⟨cs, h1, _⟩ := h
  exact ⟨cs, h1⟩

/-- An argument that is a row of numbers. -/
theorem arg_row {t e : TypeId} {n : Nat} {k : IntKind} {r : Reach} {b0 : Nat} {v : Value} {d : DataW H} {ps : List MemPlace} (ht : P.underlying t = some (.array n e)) (he : P.underlying e = some (.int k)) (hk : k.signed = false) (hce : P.cellsOf e = 1) (hct : P.cellsOf t = n)
    (hv : Value.okWide P w r b0 t v) (h : DataW.Trod enc P w base sp held t v d ps) : ∃ l : List Nat, v = .agg (us k l).toArray ∧ l.length = n ∧ Us k l := by
  obtain ⟨cs, rfl⟩ := okWide_arr ht hv
  obtain ⟨fuel, h⟩ := h
  obtain ⟨l, h1, h2, h3⟩ := trod_row ht he hk hce hct h
  refine ⟨l, ?_, h2, h3⟩
  rw [← h1]
  rfl

/-- A listed table: what its block holds. -/
theorem table_block {g : Nat} {name : String} {k : IntKind} {zs : List Nat} {T : TypeId} {z0 : Array Value} (hg : P.globalNamed name = some g) (hlt : g < P.globals.size)
    (h0 : ((begin P (fun _ _ => 0) default).world.heap[g]?).bind Obj.row? = some (z0, T)) (hs : w.ShapedOpen P)
    (ht : Go.Lib.TabIs P w name k (zs.map fun n : Nat => (n : Int))) : w.heap[g]? = some (.cells (us k zs).toArray T (0, 0)) := by
  obtain ⟨cs, h1, _, _⟩ := hs.1 g z0 T hlt h0
  unfold Go.Lib.TabIs at ht
  simp only [World.var?, hg, Option.bind_some, h1, Option.some.injEq] at ht
  rw [h1, ht]
  simp [us, List.map_map, Function.comp_def]

theorem has_nil (w : World) : Has w [] := ⟨fun _ h => by simp at h, by simp [keys]⟩

theorem reads2 {g1 g2 : Nat} {c1 c2 : List Value} {T1 T2 : TypeId} (h1 : w.heap[g1]? = some (.cells c1.toArray T1 (0, 0))) (h2 : w.heap[g2]? = some (.cells c2.toArray T2 (0, 0))) : Reads w (keys []) [glF g1 c1 T1, glF g2 c2 T2] := by
  refine ⟨fun f hf => ?_, fun f hf b hb => ?_⟩
  · simp only [List.mem_cons, List.not_mem_nil, or_false] at hf
    rcases hf with rfl | rfl
    · intro w' hw; show w'.heap[g1]? = _; rw [hw g1 rfl]; exact h1
    · intro w' hw; show w'.heap[g2]? = _; rw [hw g2 rfl]; exact h2
  · simp only [List.mem_cons, List.not_mem_nil, or_false] at hf
    refine ⟨?_, by simp [keys]⟩
    rcases hf with rfl | rfl
    · obtain rfl : b = g1 := hb; exact heap_lt h1
    · obtain rfl : b = g2 := hb; exact heap_lt h2
end
end Go.Tw
namespace Go.Tw
open Go.ChangeShapes Go.WideShapes Go.ChangeAt Go.RowKit
section
variable {H : Type} {enc : TypeId × Value → H} {P : Program} {w : World} {base : Nat} {sp : Nat → Bool} {held : Bool}
theorem choose_list {p : Nat → Nat → Prop} : ∀ (n : Nat), (∀ i, i < n → ∃ x, p i x) → ∃ l : List Nat, l.length = n ∧ ∀ i (h : i < l.length), p i l[i]
  | 0, _ => ⟨[], rfl, fun i h => by simp at h⟩
  | n + 1, h => by
    obtain ⟨l, hl, hp⟩ := choose_list n (fun i hi => h i (by omega))
    obtain ⟨x, hx⟩ := h n (by omega)
    refine ⟨l ++ [x], by simp [hl], fun i hi => ?_⟩
    simp only [List.length_append, List.length_cons, List.length_nil] at hi
    by_cases hin : i < l.length
    · rw [List.getElem_append_left hin]; exact hp i hin
    · have : i = l.length := by omega
      subst this
      rw [List.getElem_append_right (by omega)]
      simpa [hl] using hx

/-- A slice of numbers, as it is read. -/
theorem trod_bytes {t e : TypeId} {k : IntKind} (ht : P.underlying t = some (.slice e)) (he : P.underlying e = some (.int k)) (hk : k.signed = false) (hce : P.cellsOf e = 1)
    {fuel : Nat} {cs : List Value} {x : DataW H × List MemPlace} (h : DataW.trod enc P w base sp held fuel t cs = some x) :
    ∃ (v : Value) (n : Nat) (l : List Nat), cs = [v] ∧ SlR w v 1 n (us k l) ∧ Us k l ∧ n ≤ maxLen ∧ ∀ b, n ≠ 0 → v.ownBlock = some b → b < w.heap.size := by
  rcases Go.Deep.open_slice1 ht hce h with ⟨rfl, _⟩ | ⟨a, len, cap, m, f, V, D, Pl, rfl, _, hl, hm, hmm, _, hx⟩
  · exact ⟨.slice none 0 0, 0, [], rfl, ⟨rfl, none, 0, rfl, Nat.le_refl _, Or.inl rfl⟩, inferInstance, Nat.zero_le _, fun b h => absurd rfl h⟩
  · have hle : len ≤ m := by rw [hmm]; split <;> omega
    obtain ⟨l, hll, hp⟩ := choose_list (p := fun i y => V i = .int k (y : Int) ∧ y < 2 ^ k.bits) len (fun i hi => by
      obtain ⟨_, h2⟩ := hx i (by omega)
      obtain ⟨z, hc, _, hz⟩ := DataW.trod_int he h2
      obtain ⟨y, rfl, hy⟩ := wf_un hk hz
      simp only [List.cons.injEq, and_true] at hc
      exact ⟨y, hc, hy⟩)
    have hus : Us k l := ⟨fun y hy => by
      obtain ⟨i, hi, rfl⟩ := List.mem_iff_getElem.1 hy
      exact (hp i hi).2⟩
    refine ⟨.slice (some a) len cap, len, l, rfl, ⟨by simp [hll], some a, cap, rfl, hl, ?_⟩, hus, by omega, fun b h0 hb => ?_⟩
    · by_cases h0 : len = 0
      · exact Or.inl h0
      · obtain ⟨b, off, spot⟩ := a
        have hs : spot = none := by simpa [Addr.add] using World.cell?_spot (hx 0 (by omega)).1
        subst hs
        refine Or.inr ⟨b, off, rfl, fun j u hj => ?_⟩
        have hj2 : j < l.length := by
          rcases Nat.lt_or_ge j l.length with h | h
          · exact h
          · rw [List.getElem?_eq_none (by simpa using h)] at hj; cases hj
        have h1 := (hx j (by omega)).1
        rw [Addr.add_lit, (hp j hj2).1] at h1
        rw [h1, ← hj]
        simp [us, List.getElem?_eq_getElem hj2]
    · have h1 := World.block_lt_of_cell? _ _ (hx 0 (by omega)).1
      simp [Value.ownBlock] at hb
      subst hb
      simpa [Addr.add] using h1

theorem reads3 {g1 g2 n : Nat} {c1 c2 xs : List Value} {T1 T2 : TypeId} {v : Value} (hs : SlR w v 1 n xs) (hb : ∀ b, n ≠ 0 → v.ownBlock = some b → b < w.heap.size) (h : Reads w (keys []) [glF g1 c1 T1, glF g2 c2 T2]) : Reads w (keys []) [rdF v 1 n xs, glF g1 c1 T1, glF g2 c2 T2] := by
  refine ⟨fun f hf => ?_, fun f hf b hfb => ?_⟩
  · rcases List.mem_cons.1 hf with rfl | hf
    · exact (hs.holds (by decide)).1
    · exact h.fact f hf
  · rcases List.mem_cons.1 hf with rfl | hf
    · exact ⟨hb b hfb.1 hfb.2, by simp [keys]⟩
    · exact h.dis f hf b hfb
end
end Go.Tw
end

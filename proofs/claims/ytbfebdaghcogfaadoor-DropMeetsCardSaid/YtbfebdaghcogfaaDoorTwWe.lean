/- Walks through functions that the statement reaches: what each computes. -/
import Derived.Test.YtbfebdaghcogfaaDoorTwWa
import Derived.Test.YtbfebdaghcogfaaDoorTwMore
section
namespace Go.Tw
open Go Go.Proofs

def padn (r : Nat) : Nat := if r < 56 then 56 - r else 120 - r
def padA (len x : Nat) : List Nat := iter (fun i p => p.set (padn (len % 64) + i) ((((8 * len) % 2 ^ 64) >>> (56 - 8 * i)) % 2 ^ 8)) ((List.replicate 128 0).set 0 128) x
@[simp] theorem padA_length (len x : Nat) : (padA len x).length = 128 := by rw [padA, iter_len (by intros; simp)]; rfl
instance {len x : Nat} : Us .u8 (padA len x) := iter_us (fun n l h => ⟨fun y hy => (List.mem_or_eq_of_mem_set hy).elim (h.lt y) (fun e => by rw [e]; exact Nat.mod_lt _ (by decide))⟩) (@Us.set _ _ _ _ Us.rep ⟨by decide⟩) x
/-- What is written behind len bytes. -/
def padL (len : Nat) : List Nat := (padA len 8).take (padn (len % 64) + 8)
theorem padn_le (len : Nat) : 1 ≤ padn (len % 64) ∧ padn (len % 64) ≤ 64 := by unfold padn; split <;> omega
theorem padL_length (len : Nat) : (padL len).length = padn (len % 64) + 8 := by have := padn_le len; simp [padL]; omega
instance {len : Nat} : Us .u8 (padL len) := by unfold padL; infer_instance
def shaO (S : List Nat) (i : Nat) : Nat := (S.getD (i / 4) 0 >>> (24 - 8 * (i % 4))) % 2 ^ 8
/-- The digest. -/
def sha (m : List Nat) : List Nat := (List.range 32).map (shaO (shaS (m ++ padL m.length)))
@[simp] theorem sha_length (m : List Nat) : (sha m).length = 32 := by simp [sha]
instance {m : List Nat} : Us .u8 (sha m) := ⟨fun x hx => by
  simp only [sha, List.mem_map] at hx
  obtain ⟨i, _, rfl⟩ := hx
  exact Nat.mod_lt _ (by decide)⟩

theorem hsum_ok (p : Nat) (m bl : List Nat) (hb : HB m bl) (hlen : m.length ≤ 1099511627776) : Fn Tryd.prog 99 [ptr p 0] [hashM p m bl] [glF 1 (us .u32 shaK) 181] (fun u B' => u = .agg (us .u8 (sha m)).toArray ∧ B' = [hashM p m bl]) := by
  refine fn_enter Tryd.func99 rfl Tryd.ntmps99 rfl fun w => ?_
  have hC := hashC_length (used := m.length % 64) (size := m.length) (shaS_length m) hb.len
  have hp := padn_le m.length
  refine c_seq (c_region ?_)
  refine s_x (e_alloc fun b2 => ?_)
  refine g_nil (f_next ?_)
  refine c_seq ?_
  refine c_seq (c_region ?_)
  refine s_p p_move ?_
  refine s_p p_eqpn ?_
  refine g_nil (f_next ?_)
  refine c_cond_false rfl ?_
  refine c_skip (f_next ?_)
  refine c_seq (c_region ?_)
  refine s_p p_move ?_
  refine s_p p_nilcheck ?_
  refine s_p (p_load_all rfl hC) ?_
  refine s_x (e_alloc fun b3 => ?_)
  refine s_x0 (e_store_all rfl rfl rfl hC (by rfl) (by simp [hashC, us, Value.oneCell']; grind) (h := ?_))
  refine g_nil (f_next ?_)
  refine c_seq (c_region ?_)
  refine s_x (e_alloc fun b4 => ?_)
  refine g_nil (f_next ?_)
  refine c_seq (c_region ?_)
  refine s_p p_ix_arr0 ?_
  refine s_x0 (e_store_u rfl rfl (l' := padA m.length 0) (h := ?_))
  refine g_nil (f_next ?_)
  refine c_seq (c_region ?_)
  refine s_p p_field0 ?_
  refine s_p (p_load_one rfl (hashC_used (shaS_length m) hb.len)) ?_
  refine s_p (p_subi (a := 56) rfl rfl (by omega) (by omega)) ?_
  refine s_p p_assign ?_
  refine g_nil (f_next ?_)
  refine c_seq ?_
  refine c_seq (c_region ?_)
  refine s_p p_move ?_
  refine s_p (p_lssi (b := 1)) ?_
  refine g_nil (f_next ?_)
  refine c_join2 (X := Int) (fun c x => x = ((padn (m.length % 64) : Nat) : Int)) (fun x => [(0, ptr p 0), (2, ptr b2 0), (3, ptr b3 0), (4, ptr b4 0), (5, .int .i64 x)]) (fun x => [.blk b4 (.cells (us .u8 (padA m.length 0)).toArray 172 (0, 0)), hashM b3 m bl, .blk b2 (.cells (us .u8 (List.replicate 32 0)).toArray 87 (0, 0)), hashM p m bl]) ?_ (fun x hx => ?_)
  · skip
    refine c_cond_dec rfl (fun h21 => ?_) (fun h21 => ?_)
    · skip
      refine c_region ?_
      refine s_p p_move ?_
      refine s_p (p_addi (b := 64) rfl rfl (by omega) (by omega)) ?_
      refine s_p p_assign ?_
      refine g_nil ?_
      exact f_join ((56 : Int) - ((m.length % 64 : Nat) : Int) + 64) (by simp only [padn]; split <;> omega)
    refine c_skip ?_
    exact f_join ((56 : Int) - ((m.length % 64 : Nat) : Int)) (by simp only [padn]; split <;> omega)
  obtain rfl := hx
  refine c_seq (c_region ?_)
  refine s_p p_field0 ?_
  refine s_p (p_load_one rfl (hashC_size (shaS_length m) hb.len)) ?_
  refine s_p (p_mulu (a := 8)) ?_
  refine s_p p_assign ?_
  refine g_nil (f_next ?_)
  refine c_seq ?_
  refine c_seq (c_region ?_)
  refine s_p (p_move (v := .int .i64 ((0 : Nat) : Int))) ?_
  refine g_nil (f_next ?_)
  refine c_block ?_
  refine c_lp (X := Nat) (fun x => 8 - x) (fun c x => x ≤ 8) (fun x => [(27, .int .i64 (x : Int))]) [(2, _), (3, _), (4, _), (5, _), (6, _)] (fun x => [.blk b4 (.cells (us .u8 (padA m.length x)).toArray 172 (0, 0)), hashM b3 m bl, .blk b2 (.cells (us .u8 (List.replicate 32 0)).toArray 87 (0, 0)), hashM p m bl]) 0 (by first | omega | trivial) ⟨rfl, rfl, rfl, rfl, rfl, trivial⟩ (hr := fun x hx => ?_)
  refine c_seq (c_region ?_)
  refine s_p (p_lss (b := 8)) ?_
  refine g_nil (f_next ?_)
  refine c_seq ?_
  refine c_cond_dec rfl (fun h28 => ?_) (fun h28 => ?_)
  · skip
    replace h28 : _ < 8 := h28
    refine c_skip (f_next ?_)
    refine c_seq ?_
    refine c_block ?_
    refine c_seq (c_region ?_)
    refine s_p p_move ?_
    refine s_p p_assign ?_
    refine g_nil (f_next ?_)
    refine c_region ?_
    refine s_p p_move ?_
    refine s_p p_move ?_
    refine s_p p_addn ?_
    refine s_p p_move ?_
    refine s_p p_move ?_
    refine s_p (p_muln (a := 8)) ?_
    refine s_p (p_subn (a := 56)) ?_
    refine s_p p_shru ?_
    refine s_p p_convu ?_
    refine s_p p_ix_arr0 ?_
    refine s_x0 (e_store_u rfl rfl (l' := padA m.length (x + 1)) (h := ?_))
    refine g_nil (f_block_normal (f_next ?_))
    refine c_region ?_
    refine s_p (p_addn (b := 1)) ?_
    refine s_p p_move ?_
    refine g_nil ?_
    exact f_rd (x + 1)
  replace h28 : ¬ (_ < 8) := h28
  refine c_exit (f_pass_exit (f_pass_exit (f_block_exit (f_next ?_))))
  obtain rfl : x = 8 := by omega
  haveI : Ok (0 + (padn (m.length % 64) + 8) ≤ (padA m.length 8).length ∧ padn (m.length % 64) + 8 ≤ 128) := ⟨by rw [padA_length]; omega⟩
  refine c_seq (c_region ?_)
  refine s_p p_move ?_
  refine s_p (p_addn (b := 8)) ?_
  refine s_p (p_slice_arr_hi rfl rfl) ?_
  refine s_x (e_callx (hwrite_ok b3 m bl _ (padn (m.length % 64) + 8) (padL m.length) hb (by omega)) (h := fun v44 B44 h44 => ?_))
  obtain ⟨bl2, hb2, rfl, rfl⟩ := h44
  simp only [List.cons_append, List.nil_append]
  refine g_nil (f_next ?_)
  refine c_seq (c_region ?_)
  refine s_x (e_alloc fun b8 => ?_)
  refine g_nil (f_next ?_)
  refine c_seq ?_
  refine c_seq (c_region ?_)
  refine s_p (p_move (v := .int .i64 ((0 : Nat) : Int))) ?_
  refine g_nil (f_next ?_)
  refine c_block ?_
  refine c_lp (X := Nat) (fun x => 32 - x) (fun c x => x ≤ 32) (fun x => [(45, .int .i64 (x : Int))]) [(2, _), (3, _), (8, _)] (fun x => [.blk b8 (.cells (us .u8 (fillL (shaO (shaS (m ++ padL m.length))) 32 x)).toArray 87 (0, 0)), hashM b3 (m ++ padL m.length) bl2, .blk b2 (.cells (us .u8 (List.replicate 32 0)).toArray 87 (0, 0)), hashM p m bl]) 0 (by first | omega | trivial) ⟨rfl, rfl, rfl, trivial⟩ (hr := fun x hx => ?_)
  refine c_seq (c_region ?_)
  refine s_p (p_lss (b := 32)) ?_
  refine g_nil (f_next ?_)
  refine c_seq ?_
  refine c_cond_dec rfl (fun h46 => ?_) (fun h46 => ?_)
  · skip
    replace h46 : _ < 32 := h46
    refine c_skip (f_next ?_)
    refine c_seq ?_
    refine c_block ?_
    refine c_seq (c_region ?_)
    refine s_p p_move ?_
    refine s_p p_assign ?_
    refine g_nil (f_next ?_)
    refine c_region ?_
    refine s_p p_move ?_
    refine s_p p_move ?_
    refine s_p (p_quon (b := 4)) ?_
    refine s_p p_field0 ?_
    refine s_p p_ix_arr0 ?_
    refine s_p (p_load_one rfl (hashC_st (shaS_length _) (by omega))) ?_
    refine s_p p_move ?_
    refine s_p (p_remn (b := 4)) ?_
    refine s_p (p_muln (a := 8)) ?_
    refine s_p (p_subn (a := 24)) ?_
    refine s_p p_shru ?_
    refine s_p p_convu ?_
    refine s_p p_ix_arr0 ?_
    refine s_x0 (e_store_u rfl rfl (by rw [fillL_length _ (by omega)]; omega) (l' := fillL (shaO (shaS (m ++ padL m.length))) 32 (x + 1)) (h := ?_) (hl := fillL_set _ (by omega) rfl))
    refine g_nil (f_block_normal (f_next ?_))
    refine c_region ?_
    refine s_p (p_addn (b := 1)) ?_
    refine s_p p_move ?_
    refine g_nil ?_
    exact f_rd (x + 1)
  replace h46 : ¬ (_ < 32) := h46
  refine c_exit (f_pass_exit (f_pass_exit (f_block_exit (f_next ?_))))
  obtain rfl : x = 32 := by omega
  rw [fillL_all]
  refine c_seq (c_region ?_)
  refine s_p (p_load_all rfl) ?_
  refine s_x0 (e_store_all rfl rfl rfl (h := ?_))
  refine g_nil (f_next ?_)
  refine c_ret ?_
  exact f_rm (Or.inl rfl) Tryd.results99 ⟨rfl, rfl⟩

end Go.Tw
end

section
namespace Go.Tw
open Go Go.Proofs

/-- Parts: each a slice, its length, its bytes. -/
abbrev Parts := List (Value × Nat × List Nat)
def cat (ps : Parts) : List Nat := ps.flatMap fun q => q.2.2
abbrev partF (ps : Parts) : List Fact := ps.map fun q => rdF q.1 1 q.2.1 (us .u8 q.2.2)
theorem cat_succ {ps : Parts} {x : Nat} {q : Value × Nat × List Nat} (h : ps[x]? = some q) : cat (ps.take (x + 1)) = cat (ps.take x) ++ q.2.2 := by
  rw [List.take_add_one, h]; simp [cat]
theorem cat_le (ps : Parts) (x : Nat) : (cat (ps.take x)).length ≤ (cat ps).length := by
  have : cat ps = cat (ps.take x) ++ cat (ps.drop x) := by
    unfold cat; rw [← List.flatMap_append, List.take_append_drop]
  rw [this]; simp
theorem part_inR {ps : Parts} {x : Nat} {q : Value × Nat × List Nat} (h : ps[x]? = some q) {R : List Fact} (hR : ∀ f, f ∈ partF ps → f ∈ R) : InR q.1 1 q.2.1 (us .u8 q.2.2) R :=
  ⟨hR _ (List.mem_map.2 ⟨q, List.mem_of_getElem? h, rfl⟩)⟩
theorem HB.nil : HB [] (List.replicate 64 0) := ⟨inferInstance, rfl, rfl⟩

theorem dsum_ok (v : Value) (n : Nat) (ps : Parts) (hus : ∀ q, q ∈ ps → Us .u8 q.2.2) (hlen : (cat ps).length ≤ 1099511627776) (hn : n ≤ 1048576) : Fn Tryd.prog 95 [v] [] (rdF v 1 n (ps.map (·.1)) :: glF 0 (us .u32 shaH) 167 :: glF 1 (us .u32 shaK) 181 :: partF ps) (fun u B' => u = .agg (us .u8 (sha (cat ps))).toArray ∧ B' = []) := by
  refine fn_enter Tryd.func95 rfl Tryd.ntmps95 rfl fun w => ?_
  refine c_fact (p := ps.length = n ∧ ∀ q, q ∈ ps → q.2.2.length = q.2.1) (fun _ _ s => ⟨by simpa using (s.read (f := rdF v 1 n (ps.map (·.1))) (by simp)).1, fun q hq => by simpa using (s.read (f := rdF q.1 1 q.2.1 (us .u8 q.2.2)) (by simp only [List.mem_cons]; exact Or.inr (Or.inr (Or.inr (List.mem_map.2 ⟨q, hq, rfl⟩))))).1⟩) fun hl => ?_
  obtain ⟨hl, hq⟩ := hl
  refine c_seq (c_region ?_)
  refine s_x (e_alloc fun b2 => ?_)
  refine g_nil (f_next ?_)
  refine c_seq (c_region ?_)
  refine s_x (e_callx new_ok (h := fun v6 B6 h6 => ?_))
  obtain ⟨p6, rfl, rfl⟩ := h6
  simp only [List.cons_append, List.nil_append]
  refine s_p p_assign ?_
  refine g_nil (f_next ?_)
  refine c_seq ?_
  refine c_seq (c_region ?_)
  refine s_p p_move ?_
  refine s_p (p_len rfl) ?_
  refine s_p (p_move (v := .int .i64 ((0 : Nat) : Int))) ?_
  refine g_nil (f_next ?_)
  refine c_block ?_
  refine c_lp (X := Nat × List Nat) (fun x => n - x.1) (fun c x => x.1 ≤ n ∧ HB (cat (ps.take x.1)) x.2) (fun x => [(9, .int .i64 (x.1 : Int))]) [(2, _), (3, _), (7, _), (8, _)] (fun x => [hashM p6 (cat (ps.take x.1)) x.2, .blk b2 (.cells (us .u8 (List.replicate 32 0)).toArray 87 (0, 0))]) (0, List.replicate 64 0) ⟨Nat.zero_le _, HB.nil⟩ ⟨rfl, rfl, rfl, rfl, trivial⟩ (hr := fun x hx => ?_)
  refine c_seq (c_region ?_)
  refine s_p p_lss ?_
  refine g_nil (f_next ?_)
  refine c_seq ?_
  refine c_cond_dec rfl (fun h10 => ?_) (fun h10 => ?_)
  · skip
    obtain ⟨q, hxq⟩ : ∃ q, ps[x.1]? = some q := ⟨_, List.getElem?_eq_getElem (by omega)⟩
    haveI := part_inR hxq (R := (rdF v 1 n (ps.map (·.1)) :: glF 0 (us .u32 shaH) 167 :: glF 1 (us .u32 shaK) 181 :: partF ps)) (fun f hf => by simp only [List.mem_cons]; exact Or.inr (Or.inr (Or.inr hf)))
    haveI := hus q (List.mem_of_getElem? hxq)
    have hql := hq q (List.mem_of_getElem? hxq)
    have hcs := cat_succ hxq
    have hcl := cat_le ps (x.1 + 1)
    rw [hcs, List.length_append] at hcl
    refine c_skip (f_next ?_)
    refine c_seq ?_
    refine c_block ?_
    refine c_seq (c_region ?_)
    refine s_p (p_ix_sl1 rfl rfl) ?_
    refine s_p (p_load_sl rfl (by rw [List.getElem?_map, hxq]; rfl)) ?_
    refine s_p p_assign ?_
    refine g_nil (f_next ?_)
    refine c_region ?_
    refine s_p p_move ?_
    refine s_p p_move ?_
    refine s_x (e_callx (hwrite_ok p6 (cat (ps.take x.1)) x.2 q.1 q.2.1 q.2.2 hx.2 (by omega)) (h := fun v15 B15 h15 => ?_))
    obtain ⟨bl2, hb2, rfl, rfl⟩ := h15
    simp only [List.cons_append, List.nil_append]
    rw [← hcs] at hb2 ⊢
    refine g_nil (f_block_normal (f_next ?_))
    refine c_region ?_
    refine s_p (p_addn (b := 1)) ?_
    refine s_p p_move ?_
    refine g_nil ?_
    exact f_rd (x.1 + 1, bl2) ⟨by show x.1 + 1 ≤ n; omega, hb2⟩ (by show n - (x.1 + 1) < n - x.1; omega)
  refine c_exit (f_pass_exit (f_pass_exit (f_block_exit (f_next ?_))))
  have e0 : ps.take x.1 = ps := List.take_of_length_le (by omega)
  rw [e0] at hx ⊢
  refine c_seq (c_region ?_)
  refine s_p p_move ?_
  refine s_x (e_callx (hsum_ok p6 (cat ps) x.2 hx.2 hlen) (h := fun v18 B18 h18 => ?_))
  obtain ⟨rfl, rfl⟩ := h18
  simp only [List.cons_append, List.nil_append]
  refine s_x0 (e_store_all rfl rfl rfl (h := ?_))
  refine g_nil (f_next ?_)
  refine c_ret ?_
  exact f_rm (Or.inl rfl) Tryd.results95 ⟨rfl, rfl⟩

end Go.Tw
end

section
namespace Go.Tw
open Go Go.Proofs

def hkey (key : List Nat) : List Nat := if 64 < key.length then sha key else key
instance {key : List Nat} [Us .u8 key] : Us .u8 (hkey key) := by unfold hkey; split <;> infer_instance
theorem hkey_le (key : List Nat) : (hkey key).length ≤ 64 := by
  unfold hkey; split
  · simp
  · omega
def kf (key : List Nat) : List Nat := hkey key ++ List.replicate (64 - (hkey key).length) 0
@[simp] theorem kf_length (key : List Nat) : (kf key).length = 64 := by have := hkey_le key; simp [kf]; omega
instance {key : List Nat} [Us .u8 key] : Us .u8 (kf key) := by unfold kf; infer_instance
theorem fillL_us {k : IntKind} {f : Nat → Nat} {n x : Nat} (h : ∀ i, f i < 2 ^ k.bits) : Us k (fillL f n x) := by
  unfold fillL
  have : Us k ((List.range x).map f) := ⟨fun y hy => by obtain ⟨i, _, rfl⟩ := List.mem_map.1 hy; exact h i⟩
  infer_instance
def padN (c : Nat) (key : List Nat) (x : Nat) : List Nat := fillL (fun i => (kf key).getD i 0 ^^^ c) 64 x
theorem padN_length (c : Nat) (key : List Nat) {x : Nat} (h : x ≤ 64) : (padN c key x).length = 64 := fillL_length _ h
theorem padN_set (c : Nat) (key : List Nat) {x : Nat} (h : x < 64) : (padN c key x).set x ((kf key).getD x 0 ^^^ c) = padN c key (x + 1) := fillL_set _ h rfl
instance {c : Nat} {key : List Nat} {x : Nat} [hc : Fits c .u8] [Us .u8 key] : Us .u8 (padN c key x) := fillL_us fun i => Nat.xor_lt_two_pow (Fits.lt (n := (kf key).getD i 0)) hc.lt
instance : Fits 54 .u8 := ⟨by decide⟩
instance : Fits 92 .u8 := ⟨by decide⟩
abbrev ipad (key : List Nat) : List Nat := padN 54 key 64
abbrev opad (key : List Nat) : List Nat := padN 92 key 64
instance {c : Nat} {key : List Nat} : Ok ((padN c key 64).length = 64 ∧ 64 ≤ 64) := ⟨padN_length c key (by omega), by omega⟩
instance {m : List Nat} : Ok ((sha m).length = 32 ∧ 32 ≤ 32) := ⟨by simp⟩
def hmac (key m : List Nat) : List Nat := sha (opad key ++ sha (ipad key ++ m))
@[simp] theorem hmac_length (key m : List Nat) : (hmac key m).length = 32 := sha_length _
instance {key m : List Nat} : Us .u8 (hmac key m) := by unfold hmac; infer_instance
instance {key m : List Nat} : Ok ((hmac key m).length = 32 ∧ 32 ≤ 32) := ⟨by simp⟩
abbrev macE (p q : Nat) (outer : List Nat) : Ent := .blk p (.cells (ptr q 0 :: us .u8 outer).toArray 162 (0, 0))
abbrev glH : Fact := glF 0 (us .u32 shaH) 167
abbrev glK : Fact := glF 1 (us .u32 shaK) 181
theorem sl_shape {c : Cx} {env : Env} {B : Own} {a : Act} {w : World} {v : Value} {n : Nat} {l : List Nat} (s : St c env B a w) (h : rdF v 1 n (us .u8 l) ∈ c.R) : ∃ ad cap, v = .slice ad n cap ∧ l.length = n := by
  obtain ⟨h1, ad, cap, h2, _⟩ := s.read h
  exact ⟨ad, cap, h2, by simpa using h1⟩

theorem mnew_ok (v : Value) (n : Nat) (key : List Nat) [Us .u8 key] (hn : n ≤ 1099511627776) : Fn Tryd.prog 86 [v] [] [rdF v 1 n (us .u8 key), glH, glK] (fun u B' => ∃ p q bl, HB (ipad key) bl ∧ u = ptr p 0 ∧ B' = [macE p q (opad key), hashM q (ipad key) bl]) := by
  refine fn_enter Tryd.func86 rfl Tryd.ntmps86 rfl fun w => ?_
  refine c_fact (fun _ _ s => sl_shape (v := v) (n := n) (l := key) s (by simp)) fun hl => ?_
  obtain ⟨ad, cap, rfl, rfl⟩ := hl
  refine c_seq (c_region ?_)
  refine s_p p_assign ?_
  refine g_nil (f_next ?_)
  refine c_seq (c_region ?_)
  refine s_x (e_alloc fun b3 => ?_)
  refine g_nil (f_next ?_)
  refine c_seq ?_
  refine c_seq (c_region ?_)
  refine s_p p_move ?_
  refine s_p (p_len rfl) ?_
  refine s_p (p_gtr (b := 64)) ?_
  refine g_nil (f_next ?_)
  refine c_join2 (X := Unit) (fun c x => True) (fun x => [(3, ptr b3 0)]) (fun x => [.blk b3 (.cells (us .u8 (kf key)).toArray 128 (0, 0))]) ?_ (fun x hx => ?_)
  · skip
    refine c_cond_dec rfl (fun h11 => ?_) (fun h11 => ?_)
    · skip
      replace h11 : 64 < _ := h11
      refine c_seq (c_region ?_)
      refine s_p p_move ?_
      refine s_x (e_bsl (cells := [.slice ad key.length cap]) (hp := rfl) (hf := by rfl) (h := fun v13 n13 => ?_))
      refine s_x (e_callp (dsum_ok v13 1 [(.slice ad key.length cap, key.length, key)] (by simpa using ‹Us .u8 key›) (by simp [cat]; omega) (by decide)) (h := ?_))
      refine s_x (e_alloc fun b4 => ?_)
      refine s_x0 (e_store_all rfl rfl rfl (h := ?_))
      refine g_nil (f_next ?_)
      have hk1 : hkey key = sha key := if_pos (by omega)
      refine (c_run [.p, .p, .x2] [0, 1, 2] (by kernel_rfl) fun hn4 => ?_)
      refine d_p rfl (p_slice_arr_all rfl) ?_
      refine d_p rfl (p_slice_arr_all rfl) ?_
      refine d_x2 rfl (e_copyu rfl rfl (m := 32) rfl (l' := kf key) (h := ?_) (hl := by simp [kf, hk1, cat, List.take_of_length_le]))
      refine d_nil ?_
      exact f_join ()
    replace h11 : ¬ (64 < _) := h11
    have hk2 : hkey key = key := if_neg (by omega)
    refine c_region ?_
    refine s_p (p_slice_arr_all rfl) ?_
    refine s_p p_move ?_
    refine s_x (e_copyu rfl rfl (m := key.length) (by omega) (l' := kf key) (h := ?_) (hl := by rw [kf, hk2, List.take_zero, List.take_of_length_le (Nat.le_refl _), List.nil_append, Nat.zero_add, List.drop_replicate]))
    refine g_nil ?_
    exact f_join ()
  refine c_seq (c_region ?_)
  refine s_x (e_callx new_ok (h := fun v21 B21 h21 => ?_))
  obtain ⟨p21, rfl, rfl⟩ := h21
  simp only [List.cons_append, List.nil_append]
  refine s_p (p_bstr (cells := ptr p21 0 :: us .u8 (List.replicate 64 0)) (hp := rfl) (hf := by rfl)) ?_
  refine s_x (e_box rfl rfl fun b23 => ?_)
  refine s_p p_assign ?_
  refine g_nil (f_next ?_)
  refine c_seq (c_region ?_)
  refine s_x (e_alloc fun b6 => ?_)
  refine g_nil (f_next ?_)
  refine c_seq ?_
  refine c_seq (c_region ?_)
  refine s_p (p_load_all rfl) ?_
  refine s_p (p_move (v := .int .i64 ((0 : Nat) : Int))) ?_
  refine g_nil (f_next ?_)
  refine c_block ?_
  refine c_lp (X := Nat) (fun x => 64 - x) (fun c x => x ≤ 64) (fun x => [(25, .int .i64 (x : Int))]) [(5, _), (6, _), (24, _)] (fun x => [.blk b6 (.cells (us .u8 (padN 54 key x)).toArray 128 (0, 0)), macE b23 p21 (padN 92 key x), hashM p21 [] (List.replicate 64 0)]) 0 (by first | omega | trivial) ⟨rfl, rfl, rfl, trivial⟩ (hr := fun x hx => ?_)
  refine c_seq (c_region ?_)
  refine s_p (p_lss (b := 64)) ?_
  refine g_nil (f_next ?_)
  refine c_seq ?_
  refine c_cond_dec rfl (fun h26 => ?_) (fun h26 => ?_)
  · skip
    replace h26 : _ < 64 := h26
    refine c_skip (f_next ?_)
    refine c_seq ?_
    refine c_block ?_
    refine c_seq (c_region ?_)
    refine s_p p_move ?_
    refine s_p (p_index rfl rfl (by omega) (us_get (by rw [kf_length]; omega))) ?_
    refine s_p p_assign ?_
    refine s_p p_assign ?_
    refine g_nil (f_next ?_)
    refine c_seq (c_region ?_)
    refine s_p p_move ?_
    refine s_p p_move ?_
    refine s_p (p_xoru (b := 54)) ?_
    refine s_p p_ix_arr0 ?_
    refine s_x0 (e_store_u rfl rfl (by rw [padN_length _ _ hx]; omega) (l' := padN 54 key (x + 1)) (h := ?_) (hl := padN_set _ _ (by omega)))
    refine g_nil (f_next ?_)
    refine c_region ?_
    refine s_p p_move ?_
    refine s_p p_move ?_
    refine s_p p_move ?_
    refine s_p (p_xoru (b := 92)) ?_
    refine s_p p_nilcheck ?_
    refine s_p p_field0 ?_
    refine s_p p_ix_arr1 ?_
    refine s_x0 (e_store_c rfl rfl (cs' := ptr p21 0 :: us .u8 (padN 92 key (x + 1))) (by rw [Nat.add_comm 1, List.set_cons_succ, us_set_eq (padN_set _ _ (by omega))]) (by simp [padN_length _ _ hx]; omega) (h := ?_))
    refine g_nil (f_block_normal (f_next ?_))
    refine c_region ?_
    refine s_p (p_addn (b := 1)) ?_
    refine s_p p_move ?_
    refine g_nil ?_
    exact f_rd (x + 1)
  replace h26 : ¬ (_ < 64) := h26
  refine c_exit (f_pass_exit (f_pass_exit (f_block_exit (f_next ?_))))
  obtain rfl : x = 64 := by omega
  refine c_seq (c_run [.p, .p, .p, .r, .p, .x2] [0, 1, 2, 3, 4, 5] (by kernel_rfl) fun hn14 => ?_)
  refine d_p rfl p_move ?_
  refine d_p rfl p_nilcheck ?_
  refine d_p rfl p_field0 ?_
  refine d_r hn14 rfl (p_load_one rfl rfl) ?_
  refine d_p rfl (p_slice_arr_all rfl) ?_
  refine d_x2 rfl (e_callx (hwrite_ok p21 [] (List.replicate 64 0) _ 64 (ipad key) HB.nil (by simp)) (h := fun v46 B46 h46 => ?_))
  obtain ⟨bl, hb, rfl, rfl⟩ := h46
  simp only [List.cons_append, List.nil_append]
  refine d_nil (f_next ?_)
  refine c_seq (c_region ?_)
  refine s_p p_move ?_
  refine s_p p_assign ?_
  refine g_nil (f_next ?_)
  refine c_ret ?_
  exact f_r1 (Or.inl rfl) Tryd.results86 ⟨_, _, _, hb, rfl, rfl⟩

end Go.Tw
end

section
namespace Go.Tw
open Go Go.Proofs

theorem mput_ok (p q : Nat) (m bl outer : List Nat) (v : Value) (n : Nat) (l : List Nat) [Us .u8 l] (hb : HB m bl) (hlen : m.length + n ≤ 1152921504606846976) : Fn Tryd.prog 98 [ptr p 0, v] [macE p q outer, hashM q m bl] [rdF v 1 n (us .u8 l), glK] (fun u B' => ∃ bl', HB (m ++ l) bl' ∧ u = .tuple #[.int .i64 (n : Int), .nilIface] ∧ B' = [macE p q outer, hashM q (m ++ l) bl']) := by
  refine fn_enter Tryd.func98 rfl Tryd.ntmps98 rfl fun w => ?_
  refine c_seq (c_region ?_)
  refine s_p (p_assign (v := .int .i64 ((0 : Nat) : Int))) ?_
  refine s_p p_assign ?_
  refine g_nil (f_next ?_)
  refine c_seq (c_region ?_)
  refine s_p p_move ?_
  refine s_p p_nilcheck ?_
  refine s_p p_field0 ?_
  refine s_p (p_load_one rfl rfl) ?_
  refine s_p (p_bstr (cells := [ptr q 0]) (hp := rfl) (hf := by rfl)) ?_
  refine s_x (e_alloc fun b6 => ?_)
  refine s_x0 (e_store_all rfl rfl rfl (h := ?_))
  refine g_nil (f_next ?_)
  refine c_seq (c_region ?_)
  refine s_p p_field0 ?_
  refine s_p (p_load_one rfl rfl) ?_
  refine s_p p_move ?_
  refine s_x (e_callx (hwrite_ok q m bl v n l hb hlen) (h := fun v15 B15 h15 => ?_))
  obtain ⟨bl2, hb2, rfl, rfl⟩ := h15
  simp only [List.cons_append, List.nil_append]
  refine s_p (p_ext rfl rfl) ?_
  refine s_p (p_ext rfl rfl) ?_
  refine s_p p_assign ?_
  refine s_p p_assign ?_
  refine g_nil (f_next ?_)
  refine c_ret ?_
  exact f_r2 (Or.inl rfl) Tryd.results98 ⟨bl2, hb2, rfl, rfl⟩

theorem mwrite_ok (p q : Nat) (m bl outer : List Nat) (v : Value) (n : Nat) (l : List Nat) [Us .u8 l] (hb : HB m bl) (hlen : m.length + n ≤ 1152921504606846976) : Fn Tryd.prog 87 [ptr p 0, v] [macE p q outer, hashM q m bl] [rdF v 1 n (us .u8 l), glK] (fun u B' => ∃ bl', HB (m ++ l) bl' ∧ u = .tuple #[.int .i64 (n : Int), .nilIface] ∧ B' = [macE p q outer, hashM q (m ++ l) bl']) := by
  refine fn_enter Tryd.func87 rfl Tryd.ntmps87 rfl fun w => ?_
  refine c_seq (c_region ?_)
  refine s_p (p_assign (v := .int .i64 ((0 : Nat) : Int))) ?_
  refine s_p p_assign ?_
  refine g_nil (f_next ?_)
  refine c_seq ?_
  refine c_seq (c_region ?_)
  refine s_p p_move ?_
  refine s_p p_eqpn ?_
  refine g_nil (f_next ?_)
  refine c_cond_false rfl ?_
  refine c_skip (f_next ?_)
  refine c_seq (c_region ?_)
  refine s_p p_move ?_
  refine s_p p_move ?_
  refine s_x (e_callx (mput_ok p q m bl outer v n l hb hlen) (h := fun v15 B15 h15 => ?_))
  obtain ⟨bl2, hb2, rfl, rfl⟩ := h15
  simp only [List.cons_append, List.nil_append]
  refine s_p (p_ext rfl rfl) ?_
  refine s_p (p_ext rfl rfl) ?_
  refine s_p p_assign ?_
  refine s_p p_assign ?_
  refine g_nil (f_next ?_)
  refine c_ret ?_
  exact f_r2 (Or.inl rfl) Tryd.results87 ⟨bl2, hb2, rfl, rfl⟩

theorem msum_ok (p q : Nat) (m bl outer : List Nat) [Us .u8 outer] (ho : outer.length = 64) (hb : HB m bl) (hlen : m.length ≤ 1099511627776) : Fn Tryd.prog 88 [ptr p 0] [macE p q outer, hashM q m bl] [glH, glK] (fun u B' => u = .agg (us .u8 (sha (outer ++ sha m))).toArray ∧ B' = [macE p q outer, hashM q m bl]) := by
  refine fn_enter Tryd.func88 rfl Tryd.ntmps88 rfl fun w => ?_
  haveI : Ok (outer.length = 64 ∧ 64 ≤ 64) := ⟨ho, by omega⟩
  refine c_seq (c_region ?_)
  refine s_x (e_alloc fun b2 => ?_)
  refine g_nil (f_next ?_)
  refine c_seq ?_
  refine c_seq (c_region ?_)
  refine s_p p_move ?_
  refine s_p p_eqpn ?_
  refine g_nil (f_next ?_)
  refine c_cond_false rfl ?_
  refine c_skip (f_next ?_)
  refine c_seq (c_region ?_)
  refine s_p p_move ?_
  refine s_p p_nilcheck ?_
  refine s_p p_field0 ?_
  refine s_p (p_load_one rfl rfl) ?_
  refine s_x (e_callx (hsum_ok q m bl hb hlen) (h := fun v11 B11 h11 => ?_))
  obtain ⟨rfl, rfl⟩ := h11
  simp only [List.cons_append, List.nil_append]
  refine s_x (e_alloc fun b3 => ?_)
  refine s_x0 (e_store_all rfl rfl rfl (h := ?_))
  refine g_nil (f_next ?_)
  refine c_seq (c_run [.p, .p, .p, .p, .p, .x0, .x0, .x2] [0, 1, 2, 3, 4, 5, 6, 7] (by kernel_rfl) fun hn4 => ?_)
  refine d_p rfl p_move ?_
  refine d_p rfl p_nilcheck ?_
  refine d_p rfl p_field0 ?_
  refine d_p rfl (p_slice_arr_all rfl) ?_
  refine d_p rfl (p_slice_arr_all rfl) ?_
  refine d_x0 rfl (e_bsl (cells := [.slice (some ⟨p, 1, none⟩) 64 64, .slice (some ⟨b3, 0, none⟩) 32 32]) (hp := rfl) (hf := by rfl) (h := fun v17 n17 => ⟨inferInstance, ?_⟩))
  refine d_x0 rfl (e_callp (dsum_ok v17 2 [(.slice (some ⟨p, 1, none⟩) 64 64, 64, outer), (.slice (some ⟨b3, 0, none⟩) 32 32, 32, sha m)] (by simp; exact ⟨by assumption, inferInstance⟩) (by simp [cat]; omega) (by decide)) (h := ⟨inferInstance, ?_⟩))
  simp only [cat, List.flatMap_cons, List.flatMap_nil, List.append_nil]
  refine d_s2 rfl (e_store_all rfl rfl rfl (h := ?_))
  refine d_nil (f_next ?_)
  refine c_ret ?_
  exact f_rm (Or.inl rfl) Tryd.results88 ⟨rfl, rfl⟩

theorem dmac_ok (kv : Value) (kn : Nat) (key : List Nat) (v : Value) (n : Nat) (ps : Parts) [Us .u8 key] (hus : ∀ q, q ∈ ps → Us .u8 q.2.2) (hkn : kn ≤ 1099511627776) (hlen : (cat ps).length ≤ 1073741824) (hn : n ≤ 1048576) : Fn Tryd.prog 69 [kv, v] [] (rdF kv 1 kn (us .u8 key) :: rdF v 1 n (ps.map (·.1)) :: glH :: glK :: partF ps) (fun u B' => u = .agg (us .u8 (hmac key (cat ps))).toArray ∧ B' = []) := by
  refine fn_enter Tryd.func69 rfl Tryd.ntmps69 rfl fun w => ?_
  refine c_fact (p := ps.length = n ∧ ∀ q, q ∈ ps → q.2.2.length = q.2.1) (fun _ _ s => ⟨by simpa using (s.read (f := rdF v 1 n (ps.map (·.1))) (by simp)).1, fun q hq => by simpa using (s.read (f := rdF q.1 1 q.2.1 (us .u8 q.2.2)) (by simp only [List.mem_cons]; exact Or.inr (Or.inr (Or.inr (Or.inr (List.mem_map.2 ⟨q, hq, rfl⟩)))))).1⟩) fun hl => ?_
  obtain ⟨hl, hq⟩ := hl
  refine c_seq (c_region ?_)
  refine s_x (e_alloc fun b4 => ?_)
  refine g_nil (f_next ?_)
  refine c_seq (c_region ?_)
  refine s_p p_move ?_
  refine s_x (e_callx (mnew_ok kv kn key hkn) (h := fun v9 B9 h9 => ?_))
  obtain ⟨p9, q9, bl9, hb9, rfl, rfl⟩ := h9
  simp only [List.cons_append, List.nil_append]
  refine s_p p_assign ?_
  refine g_nil (f_next ?_)
  refine c_seq ?_
  refine c_seq (c_region ?_)
  refine s_p p_move ?_
  refine s_p (p_len rfl) ?_
  refine s_p (p_move (v := .int .i64 ((0 : Nat) : Int))) ?_
  refine g_own (B2 := [macE p9 q9 (opad key), hashM q9 (ipad key ++ cat (ps.take 0)) bl9, .blk b4 (.cells (us .u8 (List.replicate 32 0)).toArray 87 (0, 0))]) (by simp [cat]) ?_
  refine g_nil (f_next ?_)
  refine c_block ?_
  refine c_lp (X := Nat × List Nat) (fun x => n - x.1) (fun c x => x.1 ≤ n ∧ HB (ipad key ++ cat (ps.take x.1)) x.2) (fun x => [(12, .int .i64 (x.1 : Int))]) [(4, _), (5, _), (10, _), (11, _)] (fun x => [macE p9 q9 (opad key), hashM q9 (ipad key ++ cat (ps.take x.1)) x.2, .blk b4 (.cells (us .u8 (List.replicate 32 0)).toArray 87 (0, 0))]) (0, bl9) ⟨Nat.zero_le _, by simpa [cat] using hb9⟩ ⟨rfl, rfl, rfl, rfl, trivial⟩ (hr := fun x hx => ?_)
  refine c_seq (c_region ?_)
  refine s_p p_lss ?_
  refine g_nil (f_next ?_)
  refine c_seq ?_
  refine c_cond_dec rfl (fun h13 => ?_) (fun h13 => ?_)
  · skip
    obtain ⟨q, hxq⟩ : ∃ q, ps[x.1]? = some q := ⟨_, List.getElem?_eq_getElem (by omega)⟩
    haveI := part_inR hxq (R := (rdF kv 1 kn (us .u8 key) :: rdF v 1 n (ps.map (·.1)) :: glH :: glK :: partF ps)) (fun f hf => by simp only [List.mem_cons]; exact Or.inr (Or.inr (Or.inr (Or.inr hf))))
    haveI := hus q (List.mem_of_getElem? hxq)
    have hql := hq q (List.mem_of_getElem? hxq)
    have hcs := cat_succ hxq
    have hcl := cat_le ps (x.1 + 1)
    rw [hcs, List.length_append] at hcl
    have hpl := padN_length 54 key (x := 64) (by omega)
    refine c_skip (f_next ?_)
    refine c_seq ?_
    refine c_block ?_
    refine c_seq (c_region ?_)
    refine s_p (p_ix_sl1 rfl rfl) ?_
    refine s_p (p_load_sl rfl (by rw [List.getElem?_map, hxq]; rfl)) ?_
    refine s_p p_assign ?_
    refine g_nil (f_next ?_)
    refine c_region ?_
    refine s_p p_move ?_
    refine s_p p_move ?_
    refine s_x (e_callx (mwrite_ok p9 q9 (ipad key ++ cat (ps.take x.1)) x.2 (opad key) q.1 q.2.1 q.2.2 hx.2 (by rw [List.length_append, hpl]; omega)) (h := fun v15 B15 h15 => ?_))
    obtain ⟨bl2, hb2, rfl, rfl⟩ := h15
    simp only [List.cons_append, List.nil_append]
    rw [List.append_assoc, ← hcs] at hb2 ⊢
    refine g_nil (f_block_normal (f_next ?_))
    refine c_region ?_
    refine s_p (p_addn (b := 1)) ?_
    refine s_p p_move ?_
    refine g_nil ?_
    exact f_rd (x.1 + 1, bl2) ⟨by show x.1 + 1 ≤ n; omega, hb2⟩ (by show n - (x.1 + 1) < n - x.1; omega)
  refine c_exit (f_pass_exit (f_pass_exit (f_block_exit (f_next ?_))))
  have e0 : ps.take x.1 = ps := List.take_of_length_le (by omega)
  rw [e0] at hx ⊢
  have hpl := padN_length 54 key (x := 64) (by omega)
  refine c_seq (c_region ?_)
  refine s_p p_move ?_
  refine s_x (e_callx (msum_ok p9 q9 (ipad key ++ cat ps) x.2 (opad key) (padN_length _ _ (by omega)) hx.2 (by rw [List.length_append, hpl]; omega)) (h := fun v18 B18 h18 => ?_))
  obtain ⟨rfl, rfl⟩ := h18
  simp only [List.cons_append, List.nil_append]
  rw [← hmac]
  refine s_x0 (e_store_all rfl rfl rfl (h := ?_))
  refine g_nil (f_next ?_)
  refine c_ret ?_
  exact f_rm (Or.inl rfl) Tryd.results69 ⟨rfl, rfl⟩

theorem extract_ok (sv : Value) (sn : Nat) (salt : List Nat) (v : Value) (n : Nat) (l : List Nat) [Us .u8 salt] [Us .u8 l] (hsn : sn ≤ 1099511627776) (hn : n ≤ 1073741824) : Fn Tryd.prog 41 [sv, v] [] [rdF sv 1 sn (us .u8 salt), rdF v 1 n (us .u8 l), glH, glK] (fun u B' => u = .agg (us .u8 (hmac salt l)).toArray ∧ B' = []) := by
  refine fn_enter Tryd.func41 rfl Tryd.ntmps41 rfl fun w => ?_
  refine c_fact (fun _ _ s => sl_shape (v := v) (n := n) (l := l) s (by simp)) fun hl => ?_
  obtain ⟨ad, cap, rfl, rfl⟩ := hl
  refine c_seq (c_region ?_)
  refine s_x (e_alloc fun b4 => ?_)
  refine g_nil (f_next ?_)
  refine c_seq (c_region ?_)
  refine s_p p_move ?_
  refine s_p p_move ?_
  refine s_x (e_bsl (cells := [.slice ad l.length cap]) (hp := rfl) (hf := by rfl) (h := fun v7 n7 => ?_))
  refine s_x (e_callp (dmac_ok sv sn salt v7 1 [(.slice ad l.length cap, l.length, l)] (by simpa using ‹Us .u8 l›) hsn (by simpa [cat] using hn) (by decide)) (h := ?_))
  simp only [cat, List.flatMap_cons, List.flatMap_nil, List.append_nil]
  refine s_x0 (e_store_all rfl rfl rfl (h := ?_))
  refine g_nil (f_next ?_)
  refine c_ret ?_
  exact f_rm (Or.inl rfl) Tryd.results41 ⟨rfl, rfl⟩

end Go.Tw
end

section
namespace Go.Tw
open Go Go.Proofs

/-- HKDF: the i-th block; the blocks; n bytes of them. -/
def hkT (prk info : List Nat) : Nat → List Nat
  | 0 => []
  | k + 1 => hmac prk (hkT prk info k ++ (info ++ [(k + 1) % 2 ^ 8]))
instance hkT_us {prk info : List Nat} : ∀ {k : Nat}, Us .u8 (hkT prk info k)
  | 0 => (inferInstance : Us .u8 [])
  | _ + 1 => (inferInstance : Us .u8 (hmac _ _))
theorem hkT_length (prk info : List Nat) (k : Nat) : (hkT prk info (k + 1)).length = 32 := hmac_length _ _
theorem hkT_le (prk info : List Nat) : ∀ k, (hkT prk info k).length ≤ 32
  | 0 => Nat.zero_le _
  | k + 1 => Nat.le_of_eq (hkT_length _ _ k)
instance {prk info : List Nat} {k : Nat} : Ok ((hkT prk info (k + 1)).length = 32 ∧ 32 ≤ 32) := ⟨hkT_length _ _ k, by omega⟩
def hkO (prk info : List Nat) : Nat → List Nat
  | 0 => []
  | k + 1 => hkO prk info k ++ hkT prk info (k + 1)
theorem hkO_length (prk info : List Nat) : ∀ k, (hkO prk info k).length = 32 * k
  | 0 => rfl
  | k + 1 => by rw [hkO, List.length_append, hkO_length, hkT_length]; omega
instance hkO_us {prk info : List Nat} : ∀ {k : Nat}, Us .u8 (hkO prk info k)
  | 0 => (inferInstance : Us .u8 [])
  | k + 1 => by have := @hkO_us prk info k; unfold hkO; infer_instance
def hkdf (prk info : List Nat) (n : Nat) : List Nat := (hkO prk info ((n + 31) / 32)).take n
theorem hkdf_length (prk info : List Nat) (n : Nat) : (hkdf prk info n).length = n := by rw [hkdf, List.length_take, hkO_length]; omega
instance {prk info : List Nat} {n : Nat} : Us .u8 (hkdf prk info n) := by unfold hkdf; infer_instance

theorem expand_ok (prk : List Nat) (v : Value) (n : Nat) (info : List Nat) (m : Nat) [Us .u8 prk] [Us .u8 info] (hp : prk.length = 32) (hn : n ≤ 1073741) (hm : m ≤ 8160) : Fn Tryd.prog 70 [.agg (us .u8 prk).toArray, v, .int .i64 (m : Int)] [] [rdF v 1 n (us .u8 info), glH, glK] (fun u B' => ∃ w, u = .tuple #[w, .int .i64 0] ∧ B' = [.sl w 5 1 m (us .u8 (hkdf prk info m))]) := by
  refine fn_enter Tryd.func70 rfl Tryd.ntmps70 rfl fun w => ?_
  refine c_fact (fun _ _ s => sl_shape (v := v) (n := n) (l := info) s (by simp)) fun hl => ?_
  obtain ⟨ad, cap, rfl, rfl⟩ := hl
  haveI : Ok (prk.length = 32 ∧ 32 ≤ 32) := ⟨hp, by omega⟩
  refine c_seq (c_region ?_)
  refine s_x (e_box rfl rfl fun b3 => ?_)
  refine s_p p_assign ?_
  refine s_p (p_assign (v := .int .i64 ((0 : Nat) : Int))) ?_
  refine g_nil (f_next ?_)
  refine c_seq ?_
  refine c_seq (c_region ?_)
  refine s_p p_move ?_
  refine s_p (p_lss (b := 0)) ?_
  refine g_nil (f_next ?_)
  refine c_cond_no rfl (by omega) ?_
  refine c_skip (f_next ?_)
  refine c_seq ?_
  refine c_seq (c_region ?_)
  refine s_p p_move ?_
  refine s_p (p_gtr (b := 8160)) ?_
  refine g_nil (f_next ?_)
  refine c_cond_no rfl (by omega) ?_
  refine c_skip (f_next ?_)
  refine c_seq (c_region ?_)
  refine s_p p_move ?_
  refine s_p (p_addn (b := 32)) ?_
  refine s_x (e_make0 rfl rfl (by omega) (by omega) (fun v18 n18 => ?_))
  refine s_p p_assign ?_
  refine g_nil (f_next ?_)
  refine c_seq (c_region ?_)
  refine s_p p_assign ?_
  refine g_nil (f_next ?_)
  refine c_seq ?_
  refine c_seq (c_region ?_)
  refine s_p (p_assign (v := .int .u8 ((1 : Nat) : Int))) ?_
  refine g_cv (Cv.nil (T := 87) (s := 1)) ?_
  refine g_nil (f_next ?_)
  refine c_block ?_
  refine c_lp (X := Value × Value × Nat) (fun x => m + 32 - 32 * x.2.2) (fun c x => 32 * x.2.2 < m + 32) (fun x => [(8, x.1), (9, x.2.1), (10, .int .u8 (((x.2.2 + 1) % 2 ^ 8 : Nat) : Int))]) [(1, _), (2, _), (3, _)] (fun x => [.sl x.2.1 87 1 (hkT prk info x.2.2).length (us .u8 (hkT prk info x.2.2)), .sl x.1 5 1 (32 * x.2.2) (us .u8 (hkO prk info x.2.2)), .blk b3 (.cells (us .u8 prk).toArray 87 (0, 0))]) (v18, .slice none 0 0, 0) (by show 32 * 0 < m + 32; omega) ⟨rfl, rfl, rfl, trivial⟩ (hr := fun x hx => ?_)
  refine c_seq ?_
  refine c_seq (c_region ?_)
  refine s_p p_move ?_
  refine s_p (p_len rfl) ?_
  refine s_p p_move ?_
  refine s_p p_lss ?_
  refine g_nil (f_next ?_)
  refine c_cond_dec rfl (fun h22 => ?_) (fun h22 => ?_)
  · skip
    refine c_cv (B2 := [.sl x.2.1 87 1 (hkT prk info x.2.2).length (us .u8 (hkT prk info x.2.2)), .sl x.1 5 1 (32 * x.2.2) (us .u8 (hkO prk info x.2.2)), .blk b3 (.cells (us .u8 prk).toArray 87 (0, 0))]) ⟨fun _ h => h, fun _ h => h⟩ ?_
    refine c_fact (fun _ _ s => own_cells s (v := x.2.1) List.mem_cons_self) fun hct => ?_
    have hle := hkT_le prk info x.2.2
    refine c_skip (f_next ?_)
    refine c_seq ?_
    refine c_block ?_
    refine c_seq (c_region ?_)
    refine s_p (p_slice_arr_all rfl) ?_
    refine s_p p_move ?_
    refine s_p p_move ?_
    refine s_p p_move ?_
    refine s_x (e_bsl1 rfl fun v29 n29 => ?_)
    refine g_fact (fun _ _ s => own_cells s (v := v29) List.mem_cons_self) fun hc29 => ?_
    refine s_x (e_bsl3 rfl rfl rfl hct rfl hc29 (h := fun v30 n30 => ?_))
    refine s_x (e_callp (dmac_ok _ 32 prk v30 3 [(x.2.1, (hkT prk info x.2.2).length, hkT prk info x.2.2), (.slice ad info.length cap, info.length, info), (v29, 1, [(x.2.2 + 1) % 2 ^ 8])] (by simp; exact ⟨inferInstance, ‹Us .u8 info›, ⟨by intro y hy; simp at hy; subst hy; exact Nat.mod_lt _ (by decide)⟩⟩) (by decide) (by simp [cat]; omega) (by decide)) (h := ?_))
    simp only [cat, List.flatMap_cons, List.flatMap_nil, List.append_nil]
    rw [show hmac prk (hkT prk info x.2.2 ++ (info ++ [(x.2.2 + 1) % 2 ^ 8])) = hkT prk info (x.2.2 + 1) from rfl]
    refine s_x (e_alloc fun b11 => ?_)
    refine s_x0 (e_store_all rfl rfl rfl (h := ?_))
    refine g_nil (f_next ?_)
    refine c_seq (c_region ?_)
    refine s_p (p_slice_arr_all rfl) ?_
    refine s_p p_assign ?_
    refine g_nil (f_next ?_)
    refine c_region ?_
    refine s_p p_move ?_
    refine s_p p_move ?_
    refine s_x (e_app rfl rfl (n' := 32 * (x.2.2 + 1)) (l' := hkO prk info (x.2.2 + 1)) (h := fun v35 => ?_))
    refine s_p p_assign ?_
    refine g_nil (f_block_normal (f_next ?_))
    refine c_region ?_
    refine s_p p_move ?_
    refine s_p (p_nat (p_addu (b := 1)) (b := (x.2.2 + 1 + 1) % 2 ^ 8) (by show (_ % 2 ^ 8 + 1) % 2 ^ 8 = _; omega)) ?_
    refine s_p p_assign ?_
    refine g_cv (Cv.sl (b := b11) (cs := us .u8 (hkT prk info (x.2.2 + 1))) (n := 32) (by rw [us_length, hkT_length]) (by decide)) ?_
    refine g_nil ?_
    exact f_rd (v35, .slice (some ⟨b11, 0, none⟩) 32 32, x.2.2 + 1) (by show 32 * (x.2.2 + 1) < m + 32; omega) (by show m + 32 - 32 * (x.2.2 + 1) < m + 32 - 32 * x.2.2; omega)
  refine c_exit (f_pass_exit (f_pass_exit (f_block_exit (f_next ?_))))
  have hx2 : x.2.2 = (m + 31) / 32 := by omega
  refine c_seq (c_region ?_)
  refine s_p p_move ?_
  refine s_p p_move ?_
  refine s_p (p_slice_sl_hi rfl rfl) ?_
  refine s_p p_assign ?_
  refine s_p (p_assign (v := .int .i64 ((0 : Nat) : Int))) ?_
  refine g_cv (Cv.cut (v := x.1) (xs := us .u8 (hkO prk info x.2.2)) (N := m) (ys := us .u8 (hkdf prk info m)) (by omega) (by rw [Nat.mul_one, us_take, hkdf, hx2])) ?_
  refine g_nil (f_next ?_)
  refine c_ret ?_
  exact f_r2 (Or.inl rfl) Tryd.results70 ⟨_, rfl, rfl⟩

end Go.Tw
end

section
namespace Go.Tw
open Go Go.Proofs

theorem derive_ok (sv : Value) (sn : Nat) (salt : List Nat) (v : Value) (n : Nat) (l : List Nat) (iv : Value) (ni : Nat) (info : List Nat) (m : Nat) [Us .u8 salt] [Us .u8 l] [Us .u8 info] (hsn : sn ≤ 1099511627776) (hn : n ≤ 1073741824) (hni : ni ≤ 1073741) (hm : m ≤ 8160) : Fn Tryd.prog 79 [sv, v, iv, .int .i64 (m : Int)] [] [rdF sv 1 sn (us .u8 salt), rdF v 1 n (us .u8 l), rdF iv 1 ni (us .u8 info), glH, glK] (fun u B' => ∃ w, u = .tuple #[w, .int .i64 0] ∧ B' = [.sl w 5 1 m (us .u8 (hkdf (hmac salt l) info m))]) := by
  refine fn_enter Tryd.func79 rfl Tryd.ntmps79 rfl fun w => ?_
  refine c_seq (c_region ?_)
  refine s_p p_assign ?_
  refine s_p (p_assign (v := .int .i64 ((0 : Nat) : Int))) ?_
  refine g_nil (f_next ?_)
  refine c_seq (c_region ?_)
  refine s_p p_move ?_
  refine s_p p_move ?_
  refine s_x (e_callp (extract_ok sv sn salt v n l hsn hn) (h := ?_))
  refine s_p p_move ?_
  refine s_p p_move ?_
  refine s_x (e_callx (expand_ok (hmac salt l) iv ni info m (by simp) hni hm) (h := fun v15 B15 h15 => ?_))
  obtain ⟨w15, rfl, rfl⟩ := h15
  simp only [List.cons_append, List.nil_append]
  refine s_p (p_ext rfl rfl) ?_
  refine s_p (p_ext rfl rfl) ?_
  refine s_p p_assign ?_
  refine s_p p_assign ?_
  refine g_nil (f_next ?_)
  refine c_ret ?_
  exact f_r2 (Or.inl rfl) Tryd.results79 ⟨w15, rfl, rfl⟩

/-- N keys of 32 bytes, the first x of them filled. -/
def keyN (K : List Nat) (N x : Nat) : List Nat := K.take (x * 32) ++ List.replicate ((N - x) * 32) 0
theorem keyN_length {K : List Nat} {N x : Nat} (hK : K.length = N * 32) (hx : x ≤ N) : (keyN K N x).length = N * 32 := by
  simp only [keyN, List.length_append, List.length_take, List.length_replicate, hK]; omega
theorem keyN_put {K : List Nat} {N x : Nat} (hK : K.length = N * 32) (hx : x < N) {rest : List Value} :
    (us .u8 (keyN K N x) ++ rest).take (x * 32) ++ us .u8 (((K.drop (x * 32)).take (N * 32 - x * 32)).take 32) ++ (us .u8 (keyN K N x) ++ rest).drop (x * 32 + 32) = us .u8 (keyN K N (x + 1)) ++ rest := by
  have hl := keyN_length hK (Nat.le_of_lt hx)
  rw [List.take_append_of_le_length (by simp [hl]; omega), List.drop_append_of_le_length (by simp [hl]; omega), us_take, us_drop, List.append_assoc, ← List.append_assoc (us .u8 _) (us .u8 _), us_append, ← List.append_assoc, us_append]
  congr 2
  unfold keyN
  rw [List.take_append_of_le_length (by simp [hK]; omega), List.take_take, Nat.min_self, List.take_take, Nat.min_eq_left (by omega), List.drop_append, List.drop_of_length_le (l := K.take _) (by simp; omega), List.nil_append, List.drop_replicate, Nat.add_mul, List.take_add]
  simp [hK]
  omega

theorem keys_ok (sv : Value) (sn : Nat) (salt : List Nat) (v : Value) (n : Nat) (l : List Nat) (iv : Value) (ni : Nat) (info : List Nat) (N : Nat) [Us .u8 salt] [Us .u8 l] [Us .u8 info] (hsn : sn ≤ 1099511627776) (hn : n ≤ 1073741824) (hni : ni ≤ 1073741) (hN : N ≤ 255) (hN0 : 0 < N) : Fn Tryd.prog 56 [sv, v, iv, .int .i64 (N : Int)] [] [rdF sv 1 sn (us .u8 salt), rdF v 1 n (us .u8 l), rdF iv 1 ni (us .u8 info), glH, glK] (fun u B' => ∃ w, u = .tuple #[w, .int .i64 0] ∧ B' = [.sl w 23 32 N (us .u8 (hkdf (hmac salt l) info (N * 32)))]) := by
  refine fn_enter Tryd.func56 rfl Tryd.ntmps56 rfl fun w => ?_
  have hK := hkdf_length (hmac salt l) info (N * 32)
  refine c_seq (c_region ?_)
  refine s_p p_assign ?_
  refine s_p (p_assign (v := .int .i64 ((0 : Nat) : Int))) ?_
  refine g_nil (f_next ?_)
  refine c_seq ?_
  refine c_seq (c_region ?_)
  refine s_p p_move ?_
  refine s_p (p_lss (b := 0)) ?_
  refine g_nil (f_next ?_)
  refine c_cond_no rfl (by omega) ?_
  refine c_skip (f_next ?_)
  refine c_seq ?_
  refine c_seq (c_region ?_)
  refine s_p p_move ?_
  refine s_p (p_gtr (b := 255)) ?_
  refine g_nil (f_next ?_)
  refine c_cond_no rfl (by omega) ?_
  refine c_skip (f_next ?_)
  refine c_seq (c_region ?_)
  refine s_p p_move ?_
  refine s_p p_move ?_
  refine s_p p_move ?_
  refine s_p p_move ?_
  refine s_p (p_muln (b := 32)) ?_
  refine s_x (e_callx (derive_ok sv sn salt v n l iv ni info (N * 32) hsn hn hni (by omega)) (h := fun v24 B24 h24 => ?_))
  obtain ⟨w24, rfl, rfl⟩ := h24
  simp only [List.cons_append, List.nil_append]
  refine s_p p_move ?_
  refine s_p (p_ext rfl rfl) ?_
  refine s_p (p_ext rfl rfl) ?_
  refine s_p p_assign ?_
  refine s_p p_assign ?_
  refine g_nil (f_next ?_)
  refine c_seq ?_
  refine c_seq (c_region ?_)
  refine s_p p_move ?_
  refine s_p (p_neq (b := 0)) ?_
  refine g_nil (f_next ?_)
  refine c_cond_no rfl (by decide) ?_
  refine c_skip (f_next ?_)
  refine c_seq (c_region ?_)
  refine s_p p_move ?_
  refine s_x (e_make rfl rfl (by omega) (by omega) (by omega) (xs := us .u8 (keyN (hkdf (hmac salt l) info (N * 32)) N 0)) (by rw [made_us (by omega), us_take]; simp [keyN]) fun v31 n31 => ?_)
  refine s_p p_assign ?_
  refine g_nil (f_next ?_)
  refine c_seq ?_
  refine c_seq (c_region ?_)
  refine s_p p_move ?_
  refine s_p (p_len rfl) ?_
  refine s_p (p_move (v := .int .i64 ((0 : Nat) : Int))) ?_
  refine g_open (v := v31) n31 (fun g cap rest hv hc hcap hx hr => ?_)
  subst hv
  refine g_nil (f_next ?_)
  refine c_block ?_
  refine c_lp (X := Nat) (fun x => N - x) (fun c x => x ≤ N) (fun x => [(34, .int .i64 (x : Int))]) [(10, _), (12, _), (33, _)] (fun x => [.blk g (.cells (us .u8 (keyN (hkdf (hmac salt l) info (N * 32)) N x) ++ rest).toArray 23 (0, 0)), .sl w24 5 1 (N * 32) (us .u8 (hkdf (hmac salt l) info (N * 32)))]) 0 (by first | omega | trivial) ⟨rfl, rfl, rfl, trivial⟩ (hr := fun x hx => ?_)
  refine c_seq (c_region ?_)
  refine s_p p_lss ?_
  refine g_nil (f_next ?_)
  refine c_seq ?_
  refine c_cond_dec rfl (fun h35 => ?_) (fun h35 => ?_)
  · skip
    have hkl := keyN_length hK hx
    haveI : Ok (0 + N ≤ (us .u8 (keyN (hkdf (hmac salt l) info (N * 32)) N x) ++ rest).length ∧ N ≤ cap) := ⟨by rw [List.length_append, us_length, hkl]; omega, hc⟩
    haveI : Ok (x * 32 ≤ N * 32 ∧ N * 32 ≤ N * 32) := ⟨by omega, by omega⟩
    refine c_skip (f_next ?_)
    refine c_seq ?_
    refine c_block ?_
    refine c_seq (c_region ?_)
    refine s_p p_move ?_
    refine s_p p_assign ?_
    refine g_nil (f_next ?_)
    refine (c_run [.p, .p, .r, .p, .p, .p, .p, .r, .x2] [0, 1, 2, 3, 4, 5, 6, 7, 8] (by kernel_rfl) fun hn12 => ?_)
    refine d_p rfl p_move ?_
    refine d_p rfl p_move ?_
    refine d_r hn12 rfl (p_ix_sl rfl rfl (i := x) (by omega)) ?_
    refine d_p rfl (p_slice_arr_all (b := g) (off := x * 32) (by show some (slPtr _ _) = _; simp [slPtr, Addr.add_lit])) ?_
    refine d_p rfl p_move ?_
    refine d_p rfl p_move ?_
    refine d_p rfl (p_muln (b := 32)) ?_
    refine d_r hn12 rfl (p_slice_sl_lo rfl rfl) ?_
    refine d_x2 rfl (e_copy rfl rfl (m := 32) (by omega) us_one (by rw [List.length_append, us_length, hkl]; omega) (cs' := us .u8 (keyN (hkdf (hmac salt l) info (N * 32)) N (x + 1)) ++ rest) (h := ?_) (hl0 := by rw [us_take]; exact keyN_put hK (by omega)))
    refine d_nil (f_block_normal (f_next ?_))
    refine c_region ?_
    refine s_p (p_addn (b := 1)) ?_
    refine s_p p_move ?_
    refine g_nil ?_
    exact f_rd (x + 1)
  refine c_exit (f_pass_exit (f_pass_exit (f_block_exit (f_next ?_))))
  obtain rfl : x = N := by omega
  refine c_cv (Cv.close (g := g) (n := x) (cap := cap) (s := 32) (cs := us .u8 (keyN (hkdf (hmac salt l) info (x * 32)) x x) ++ rest) (xs := us .u8 (hkdf (hmac salt l) info (x * 32))) hc hcap (by rw [← hr]; simp [keyN_length hK]) (by rw [List.take_append_of_le_length (by simp [keyN_length hK]), us_take]; simp [keyN, hK, List.take_of_length_le])) ?_
  refine c_seq (c_region ?_)
  refine s_p p_move ?_
  refine s_p p_assign ?_
  refine s_p (p_assign (v := .int .i64 ((0 : Nat) : Int))) ?_
  refine g_nil (f_next ?_)
  refine c_ret ?_
  exact f_r2 (Or.inl rfl) Tryd.results56 ⟨_, rfl, rfl⟩

end Go.Tw
end

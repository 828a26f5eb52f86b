/- Walks through functions that the statement reaches: what each computes. -/
import Derived.Test.YtbfebdaghcogfaaDoorTwWq
import Derived.Test.YtbfebdaghcogfaaDoorTwWe
import Derived.Test.YtbfebdaghcogfaaDoorTwMore
section
namespace Go.Tw
open Go Go.Proofs

def nonceL (kind number : Nat) : List Nat := leB 4 kind ++ leB 8 number
@[simp] theorem nonceL_length (kind number : Nat) : (nonceL kind number).length = 12 := by simp [nonceL]
instance {kind number : Nat} : Us .u8 (nonceL kind number) := by unfold nonceL; infer_instance

theorem nonce_ok (kind number : Nat) [hk : Fits kind .u32] [hn : Fits number .u64] : Fn Tryd.prog 27 [.int .u32 (kind : Int), .int .u64 (number : Int)] [] [] (fun u B' => u = .agg (us .u8 (nonceL kind number)).toArray ∧ B' = []) := by
  refine fn_enter Tryd.func27 rfl Tryd.ntmps27 rfl fun w => ?_
  refine c_seq (c_region ?_)
  refine s_x (e_alloc fun b4 => ?_)
  refine g_nil (f_next ?_)
  refine c_seq (c_region ?_)
  refine s_p p_move ?_
  refine s_x (e_callx (put32_ok (.slice none 0 0) 0 [] kind (by omega)) (h := fun v7 B7 h7 => ?_))
  subst h7
  simp only [List.cons_append, List.nil_append]
  refine s_p p_move ?_
  refine s_x (e_callx (put64_ok v7 (0 + 4) (leB 4 kind) number (by omega)) (h := fun v9 B9 h9 => ?_))
  subst h9
  simp only [List.cons_append, List.nil_append]
  refine s_p p_assign ?_
  refine g_nil (f_next ?_)
  refine c_seq (c_region ?_)
  refine s_p p_move ?_
  refine s_p (p_s2a rfl) ?_
  refine s_p (p_load_sls rfl (ps := us .u8 (nonceL kind number)) (by rw [List.drop_zero, List.take_of_length_le (by simp)]; rfl) (by simp)) ?_
  refine s_x0 (e_store_all rfl rfl rfl (h := ?_))
  refine g_nil (f_next ?_)
  refine c_ret ?_
  exact f_rm (Or.inl rfl) Tryd.results27 ⟨rfl, rfl⟩

def pad16 (l : List Nat) : List Nat := l ++ List.replicate ((16 - l.length % 16) % 16) 0
instance {l : List Nat} [Us .u8 l] : Us .u8 (pad16 l) := by unfold pad16; infer_instance
theorem pad16_le (l : List Nat) : (pad16 l).length ≤ l.length + 16 := by simp [pad16]; omega
def oneL (key nonce : List Nat) : List Nat := (blkL key 0 nonce).take 32
@[simp] theorem oneL_length (key nonce : List Nat) : (oneL key nonce).length = 32 := by simp [oneL]
instance {key nonce : List Nat} : Us .u8 (oneL key nonce) := by unfold oneL; infer_instance
def vouM (more cover : List Nat) : List Nat := pad16 more ++ pad16 cover ++ (leB 8 more.length ++ leB 8 cover.length)
instance {more cover : List Nat} [Us .u8 more] [Us .u8 cover] : Us .u8 (vouM more cover) := by unfold vouM; infer_instance
/-- The tag of a cover, with more. -/
def vouchL (key nonce more cover : List Nat) : List Nat := polyT (polyR (oneL key nonce)) (polyS (oneL key nonce)) (vouM more cover)
@[simp] theorem vouchL_length (key nonce more cover : List Nat) : (vouchL key nonce more cover).length = 16 := polyT_length _ _ _
instance {key nonce more cover : List Nat} : Us .u8 (vouchL key nonce more cover) := by unfold vouchL; infer_instance
def padC (ps : Parts) : List Nat := ps.flatMap fun q => pad16 q.2.2
theorem padC_succ {ps : Parts} {x : Nat} {q : Value × Nat × List Nat} (h : ps[x]? = some q) : padC (ps.take (x + 1)) = padC (ps.take x) ++ pad16 q.2.2 := by
  rw [List.take_add_one, h]; simp [padC]
theorem padC_le {ps : Parts} {N : Nat} (h : ∀ q, q ∈ ps → q.2.2.length ≤ N) : (padC ps).length ≤ ps.length * (N + 16) := by
  induction ps with
  | nil => simp [padC]
  | cons q ps ih =>
    have h1 := h q List.mem_cons_self
    have h2 := ih fun q hq => h q (List.mem_cons_of_mem _ hq)
    have h3 := pad16_le q.2.2
    simp only [padC, List.flatMap_cons, List.length_append, List.length_cons] at *
    rw [Nat.add_mul]; omega

theorem vouch_ok (key nonce : List Nat) (vm : Value) (nm : Nat) (more : List Nat) (vc : Value) (nc : Nat) (cover : List Nat) [hku : Us .u8 key] [hnu : Us .u8 nonce] [hmu : Us .u8 more] [hcu : Us .u8 cover] (hk : key.length = 32) (hn : nonce.length = 12) (hnm : nm ≤ 281474976710656) (hnc : nc ≤ 281474976710656) : Fn Tryd.prog 55 [.agg (us .u8 key).toArray, .agg (us .u8 nonce).toArray, vm, vc] [] [rdF vm 1 nm (us .u8 more), rdF vc 1 nc (us .u8 cover)] (fun u B' => u = .agg (us .u8 (vouchL key nonce more cover)).toArray ∧ B' = []) := by
  refine fn_enter Tryd.func55 rfl Tryd.ntmps55 rfl fun w => ?_
  refine c_fact (fun _ _ s => sl_shape (v := vm) (n := nm) (l := more) s (by simp)) fun hl1 => ?_
  obtain ⟨ad1, cap1, hvm, hl1⟩ := hl1
  refine c_fact (fun _ _ s => sl_shape (v := vc) (n := nc) (l := cover) s (by simp)) fun hl2 => ?_
  obtain ⟨ad2, cap2, hvc, hl2⟩ := hl2
  have hcm : vm.cells = #[vm] := by rw [hvm]; rfl
  have hcc : vc.cells = #[vc] := by rw [hvc]; rfl
  haveI : Fits nm .u64 := ⟨by simp only [IntKind.bits]; omega⟩
  haveI : Fits nc .u64 := ⟨by simp only [IntKind.bits]; omega⟩
  obtain ⟨ps, hps⟩ : ∃ ps : Parts, [(vm, nm, more), (vc, nc, cover)] = ps := ⟨_, rfl⟩
  have hpl : ps.length = 2 := by rw [← hps]; rfl
  have hpv : ps.map (·.1) = [vm, vc] := by rw [← hps]; rfl
  have hpu : ∀ q, q ∈ ps → Us .u8 q.2.2 := by rw [← hps]; simp; exact ⟨hmu, hcu⟩
  have hpn : ∀ q, q ∈ ps → q.2.2.length = q.2.1 ∧ q.2.2.length ≤ 281474976710656 := by rw [← hps]; simp; exact ⟨⟨hl1, by omega⟩, hl2, by omega⟩
  have hpF : partF ps = [rdF vm 1 nm (us .u8 more), rdF vc 1 nc (us .u8 cover)] := by rw [← hps]; rfl
  have hpC : padC ps = pad16 more ++ pad16 cover := by rw [← hps]; simp [padC]
  haveI : Ok ((blkL key 0 nonce).length = 64 ∧ 64 ≤ 64) := ⟨by simp, by omega⟩
  refine c_seq (c_region ?_)
  refine s_x (e_box rfl rfl fun b4 => ?_)
  refine s_x (e_box rfl rfl fun b5 => ?_)
  refine s_x (e_alloc fun b8 => ?_)
  refine g_nil (f_next ?_)
  refine c_seq (c_region ?_)
  refine s_x (e_alloc fun b9 => ?_)
  refine g_nil (f_next ?_)
  refine c_seq (c_region ?_)
  refine s_p (p_load_all rfl) ?_
  refine s_p (p_load_all rfl) ?_
  refine s_x (e_callp (block_ok key 0 nonce hk hn) (h := ?_))
  refine s_x (e_alloc fun b10 => ?_)
  refine s_x0 (e_store_all rfl rfl rfl (h := ?_))
  refine g_nil (f_next ?_)
  refine c_seq (c_run [.p, .p, .x2] [0, 1, 2] (by kernel_rfl) fun hn3 => ?_)
  refine d_p rfl (p_slice_arr_all rfl) ?_
  refine d_p rfl (p_slice_arr_all rfl) ?_
  refine d_x2 rfl (e_copyu rfl rfl (m := 32) rfl (l' := oneL key nonce) (h := ?_) (hl := by simp [oneL]))
  refine d_nil (f_next ?_)
  refine c_seq (c_region ?_)
  refine s_p (p_load_all rfl) ?_
  refine s_x (e_callx (tnew_ok (oneL key nonce) (by simp)) (h := fun v22 B22 h22 => ?_))
  obtain ⟨p22, rfl, rfl⟩ := h22
  simp only [List.cons_append, List.nil_append]
  refine s_p p_assign ?_
  refine g_own (B2 := [polyM p22 (polyR (oneL key nonce)) (polyS (oneL key nonce)) [] (List.replicate 16 0), .blk b10 (.cells (us .u8 (blkL key 0 nonce)).toArray 128 (0, 0)), .blk b9 (.cells (us .u8 (oneL key nonce)).toArray 23 (0, 0)), .blk b8 (.cells (us .u8 (List.replicate 16 0)).toArray 102 (0, 0)), .blk b5 (.cells (us .u8 nonce).toArray 71 (0, 0)), .blk b4 (.cells (us .u8 key).toArray 23 (0, 0))]) rfl ?_
  refine g_nil (f_next ?_)
  refine c_seq (c_region ?_)
  refine s_x (e_alloc fun b12 => ?_)
  refine g_nil (f_next ?_)
  refine c_seq ?_
  refine c_seq (c_region ?_)
  refine s_p p_move ?_
  refine s_p p_move ?_
  refine s_x (e_bsl2 rfl rfl hcm hcc (h := fun v25 n25 => ?_))
  refine s_p (p_len rfl) ?_
  refine s_p (p_move (v := .int .i64 ((0 : Nat) : Int))) ?_
  refine g_nil (f_next ?_)
  refine c_block ?_
  refine c_lp (X := Nat × List Nat) (fun x => 2 - x.1) (fun c x => x.1 ≤ 2 ∧ PB (padC (ps.take x.1)) x.2) (fun x => [(27, .int .i64 (x.1 : Int))]) [(2, _), (3, _), (8, _), (11, _), (12, _), (25, _), (26, _)] (fun x => [polyM p22 (polyR (oneL key nonce)) (polyS (oneL key nonce)) (padC (ps.take x.1)) x.2, .sl v25 28 1 2 [vm, vc], .blk b12 (.cells (us .u8 (List.replicate 16 0)).toArray 37 (0, 0)), .blk b8 (.cells (us .u8 (List.replicate 16 0)).toArray 102 (0, 0))]) (0, List.replicate 16 0) ⟨Nat.zero_le _, PB.nil⟩ ⟨rfl, rfl, rfl, rfl, rfl, rfl, rfl, trivial⟩ (hr := fun x hx => ?_)
  refine c_seq (c_region ?_)
  refine s_p p_lss ?_
  refine g_nil (f_next ?_)
  refine c_seq ?_
  refine c_cond_dec rfl (fun h28 => ?_) (fun h28 => ?_)
  · skip
    obtain ⟨q, hxq⟩ : ∃ q, ps[x.1]? = some q := ⟨_, List.getElem?_eq_getElem (by omega)⟩
    haveI := part_inR hxq (R := [rdF vm 1 nm (us .u8 more), rdF vc 1 nc (us .u8 cover)]) (fun f hf => by rw [hpF] at hf; exact hf)
    haveI := hpu q (List.mem_of_getElem? hxq)
    obtain ⟨hql, hqn⟩ := hpn q (List.mem_of_getElem? hxq)
    have hcs := padC_succ hxq
    have hcl := padC_le (ps := ps.take x.1) (N := 281474976710656) (fun q hq => (hpn q (List.mem_of_mem_take hq)).2)
    have hcl2 : (ps.take x.1).length ≤ 2 := by simp; omega
    have hcl3 : (padC (ps.take x.1)).length ≤ 2 * (281474976710656 + 16) := Nat.le_trans hcl (Nat.mul_le_mul_right _ hcl2)
    haveI : Ok (0 + (16 - q.2.1 % 16) % 16 ≤ (List.replicate 16 0).length ∧ (16 - q.2.1 % 16) % 16 ≤ 16) := ⟨by simp; omega, by omega⟩
    have hz : ((List.replicate 16 0).drop 0).take ((16 - q.2.1 % 16) % 16) = List.replicate ((16 - q.2.2.length % 16) % 16) 0 := by rw [hql, List.drop_zero, List.take_replicate, Nat.min_eq_left (by omega)]
    refine c_skip (f_next ?_)
    refine c_seq ?_
    refine c_block ?_
    refine c_seq (c_region ?_)
    refine s_p (p_ix_sl1 rfl rfl) ?_
    refine s_p (p_load_sl rfl (show [vm, vc][x.1]? = some q.1 by rw [← hpv, List.getElem?_map, hxq]; rfl)) ?_
    refine s_p p_assign ?_
    refine g_nil (f_next ?_)
    refine c_seq (c_region ?_)
    refine s_p p_move ?_
    refine s_p p_move ?_
    refine s_x (e_callx (twrite_ok p22 _ _ (padC (ps.take x.1)) x.2 q.1 q.2.1 q.2.2 rfl rfl hx.2 (by omega)) (h := fun v33 B33 h33 => ?_))
    obtain ⟨bl2, hb2, rfl, rfl⟩ := h33
    simp only [List.cons_append, List.nil_append]
    refine g_nil (f_next ?_)
    refine c_region ?_
    refine s_p p_move ?_
    refine s_p p_move ?_
    refine s_p (p_len rfl) ?_
    refine s_p (p_remn (b := 16)) ?_
    refine s_p (p_subn (a := 16)) ?_
    refine s_p (p_remn (b := 16)) ?_
    refine s_p (p_slice_arr_hi rfl rfl) ?_
    refine s_x (e_callx (twrite_ok p22 _ _ (padC (ps.take x.1) ++ q.2.2) bl2 _ ((16 - q.2.1 % 16) % 16) (((List.replicate 16 0).drop 0).take ((16 - q.2.1 % 16) % 16)) rfl rfl hb2 (by rw [List.length_append]; omega)) (h := fun v41 B41 h41 => ?_))
    obtain ⟨bl3, hb3, rfl, rfl⟩ := h41
    simp only [List.cons_append, List.nil_append]
    rw [hz, List.append_assoc, show q.2.2 ++ List.replicate ((16 - q.2.2.length % 16) % 16) 0 = pad16 q.2.2 from rfl, ← hcs] at hb3 ⊢
    refine g_nil (f_block_normal (f_next ?_))
    refine c_region ?_
    refine s_p (p_addn (b := 1)) ?_
    refine s_p p_move ?_
    refine g_nil ?_
    exact f_rd (x.1 + 1, bl3) ⟨by show x.1 + 1 ≤ 2; omega, hb3⟩ (by show 2 - (x.1 + 1) < 2 - x.1; omega)
  refine c_exit (f_pass_exit (f_pass_exit (f_block_exit (f_next ?_))))
  have e0 : ps.take x.1 = ps := List.take_of_length_le (by omega)
  rw [e0, hpC] at hx ⊢
  have hcl1 := pad16_le more
  have hcl2 := pad16_le cover
  refine c_seq (c_region ?_)
  refine s_p p_move ?_
  refine s_p p_move ?_
  refine s_p (p_len rfl) ?_
  refine s_p p_convw ?_
  refine s_x (e_callx (put64_ok (.slice none 0 0) 0 [] nm (by omega)) (h := fun v47 B47 h47 => ?_))
  subst h47
  simp only [List.cons_append, List.nil_append]
  refine s_p p_move ?_
  refine s_p (p_len rfl) ?_
  refine s_p p_convw ?_
  refine s_x (e_callx (put64_ok v47 (0 + 8) (leB 8 nm) nc (by omega)) (h := fun v51 B51 h51 => ?_))
  subst h51
  simp only [List.cons_append, List.nil_append]
  refine s_x (e_callx (twrite_ok p22 _ _ (pad16 more ++ pad16 cover) x.2 v51 (0 + 8 + 8) (leB 8 nm ++ leB 8 nc) rfl rfl hx.2 (by rw [List.length_append]; omega)) (h := fun v52 B52 h52 => ?_))
  obtain ⟨bl4, hb4, rfl, rfl⟩ := h52
  simp only [List.cons_append, List.nil_append]
  rw [show pad16 more ++ pad16 cover ++ (leB 8 nm ++ leB 8 nc) = vouM more cover from by rw [vouM, hl1, hl2]] at hb4 ⊢
  refine g_nil (f_next ?_)
  refine c_seq (c_region ?_)
  refine s_p p_move ?_
  refine s_x (e_callx (tsum_ok p22 _ _ (vouM more cover) bl4 rfl rfl hb4) (h := fun v54 B54 h54 => ?_))
  obtain ⟨rfl, rfl⟩ := h54
  simp only [List.cons_append, List.nil_append]
  rw [show polyT (polyR (oneL key nonce)) (polyS (oneL key nonce)) (vouM more cover) = vouchL key nonce more cover from rfl]
  refine s_x0 (e_store_all rfl rfl rfl (h := ?_))
  refine g_nil (f_next ?_)
  refine c_ret ?_
  exact f_rm (Or.inl rfl) Tryd.results55 ⟨rfl, rfl⟩

/-- The box of a text. -/
def sealL (key nonce more text : List Nat) : List Nat := xorL key nonce (64 * 1) text ++ vouchL key nonce more (xorL key nonce (64 * 1) text)
@[simp] theorem sealL_length (key nonce more text : List Nat) : (sealL key nonce more text).length = text.length + 16 := by simp [sealL]
instance {key nonce more text : List Nat} [Us .u8 text] : Us .u8 (sealL key nonce more text) := by unfold sealL; infer_instance

theorem seal_ok (key nonce : List Nat) (vm : Value) (nm : Nat) (more : List Nat) (v : Value) (n : Nat) (text : List Nat) [hku : Us .u8 key] [hnu : Us .u8 nonce] [hmu : Us .u8 more] [htu : Us .u8 text] (hk : key.length = 32) (hn : nonce.length = 12) (hnm : nm ≤ 1048576) : Fn Tryd.prog 25 [.agg (us .u8 key).toArray, .agg (us .u8 nonce).toArray, vm, v] [] [rdF vm 1 nm (us .u8 more), rdF v 1 n (us .u8 text)] (fun u B' => (n ≤ 1048576 ∧ ∃ w, u = .tuple #[w, .int .i64 0] ∧ B' = [.sl w 5 1 (n + 16) (us .u8 (sealL key nonce more text))]) ∨ (1048576 < n ∧ u = .tuple #[.slice none 0 0, .int .i64 3] ∧ B' = [])) := by
  refine fn_enter Tryd.func25 rfl Tryd.ntmps25 rfl fun w => ?_
  refine c_fact (p := text.length = n) (fun _ _ s => by simpa using (s.read (f := rdF v 1 n (us .u8 text)) (by simp)).1) fun hl => ?_
  obtain ⟨cover, hcov⟩ : ∃ cover, xorL key nonce (64 * 1) text = cover := ⟨_, rfl⟩
  haveI hcu : Us .u8 cover := by rw [← hcov]; infer_instance
  have hcl : cover.length = n := by rw [← hcov]; simp [hl]
  refine c_seq (c_region ?_)
  refine s_x (e_box rfl rfl fun b4 => ?_)
  refine s_x (e_box rfl rfl fun b5 => ?_)
  refine s_p p_assign ?_
  refine s_p (p_assign (v := .int .i64 ((0 : Nat) : Int))) ?_
  refine g_nil (f_next ?_)
  refine c_seq ?_
  refine c_seq (c_region ?_)
  refine s_p p_move ?_
  refine s_p (p_len rfl) ?_
  refine s_p (p_eq (p_gtr (b := 1048576)) (v' := .bool false) (by simp; omega)) ?_
  refine s_p p_move ?_
  refine s_v (v_yg p_move) ?_
  refine s_v (v_yg (p_len rfl)) ?_
  refine s_v (v_yg (p_gtr (b := 1048576))) ?_
  refine s_p p_pick_f ?_
  refine g_nil (f_next ?_)
  refine c_cond_dec rfl (fun h21 => ?_) (fun h21 => ?_)
  · skip
    replace h21 : 1048576 < n := h21
    refine c_seq (c_region ?_)
    refine s_p p_assign ?_
    refine s_p (p_assign (v := .int .i64 ((3 : Nat) : Int))) ?_
    refine g_nil (f_next ?_)
    refine c_ret (f_pass_ret ?_)
    exact f_r2 (Or.inl rfl) Tryd.results25 (Or.inr ⟨h21, rfl, rfl⟩)
  replace h21 : ¬ (1048576 < n) := h21
  refine c_skip (f_next ?_)
  refine c_seq (c_region ?_)
  refine s_p (p_load_all rfl) ?_
  refine s_p (p_load_all rfl) ?_
  refine s_p p_move ?_
  refine s_x (e_callx (xor_ok key nonce 1 v n text hk hn (by omega)) (h := fun v26 B26 h26 => ?_))
  obtain ⟨w26, rfl, rfl⟩ := h26
  simp only [List.cons_append, List.nil_append]
  rw [hcov]
  refine s_p p_move ?_
  refine s_p (p_ext rfl rfl) ?_
  refine s_p (p_ext rfl rfl) ?_
  refine s_p p_assign ?_
  refine s_p p_assign ?_
  refine g_nil (f_next ?_)
  refine c_seq ?_
  refine c_seq (c_region ?_)
  refine s_p p_move ?_
  refine s_p (p_neq (b := 0)) ?_
  refine g_nil (f_next ?_)
  refine c_cond_no rfl (by decide) ?_
  refine c_skip (f_next ?_)
  refine c_seq (c_region ?_)
  refine s_p (p_load_all rfl) ?_
  refine s_p (p_load_all rfl) ?_
  refine s_p p_move ?_
  refine s_p p_move ?_
  refine s_x (e_callp (vouch_ok key nonce vm nm more w26 n cover hk hn (by omega) (by omega)) (h := ?_))
  refine s_x (e_alloc fun b12 => ?_)
  refine s_x0 (e_store_all rfl rfl rfl (h := ?_))
  refine g_nil (f_next ?_)
  haveI : Ok ((vouchL key nonce more cover).length = 16 ∧ 16 ≤ 16) := ⟨by simp, by omega⟩
  refine c_seq (c_region ?_)
  refine s_p p_move ?_
  refine s_p (p_len rfl) ?_
  refine s_p (p_addn (b := 16)) ?_
  refine s_x (e_make (n := 0) rfl rfl (by omega) (by omega) (by omega) (xs := us .u8 []) (by simp [us]) fun v40 n40 => ?_)
  refine s_p p_assign ?_
  refine g_nil (f_next ?_)
  refine c_seq (c_run [.p, .p, .x2, .p, .x2, .p, .p] [0, 1, 3, 2, 4, 5, 6] (by kernel_rfl) fun hn8 => ?_)
  refine d_p rfl p_move ?_
  refine d_p rfl p_move ?_
  refine d_p rfl (p_slice_arr_all rfl) ?_
  refine d_x2 rfl (e_app rfl rfl (n' := n) (l' := cover) (h := fun v43 => ?_) (hn := by omega) (hl := List.nil_append _))
  refine d_x2 rfl (e_app rfl rfl (n' := n + 16) (l' := sealL key nonce more text) (h := fun v45 => ?_) (hl := by rw [sealL, hcov]))
  refine d_p rfl p_assign ?_
  refine d_p rfl (p_assign (v := .int .i64 ((0 : Nat) : Int))) ?_
  refine d_nil (f_next ?_)
  refine c_ret ?_
  exact f_r2 (Or.inl rfl) Tryd.results25 (Or.inl ⟨by omega, _, rfl, rfl⟩)

end Go.Tw
end

section
namespace Go.Tw
open Go Go.Proofs

/-- Is the tag right? -/
def rightL (key nonce more box : List Nat) : Nat := msame (vouchL key nonce more (box.take (box.length - 16))) (box.drop (box.length - 16))
instance {key nonce more box : List Nat} : Fits (rightL key nonce more box) .u64 := by unfold rightL; infer_instance
/-- The text of a box; noughts if the tag is wrong. -/
def textL (key nonce more box : List Nat) : List Nat := if rightL key nonce more box = 0 then List.replicate (box.length - 16) 0 else xorL key nonce (64 * 1) (box.take (box.length - 16))
@[simp] theorem textL_length (key nonce more box : List Nat) : (textL key nonce more box).length = box.length - 16 := by
  unfold textL; split
  · simp
  · simp
instance {key nonce more box : List Nat} [Us .u8 box] : Us .u8 (textL key nonce more box) := by unfold textL; split <;> infer_instance
theorem wipe_step (n x : Nat) (l : List Nat) (hl : l.length = n) (h : x < n) : (List.replicate x 0 ++ l.drop x).set x 0 = List.replicate (x + 1) 0 ++ l.drop (x + 1) := by
  rw [List.set_append_right _ _ (by simp), List.length_replicate, Nat.sub_self, List.drop_eq_getElem_cons (by omega), List.set_cons_zero, List.replicate_succ']
  simp
/-- What is sealed is opened. -/
theorem open_seal (key nonce more text : List Nat) : rightL key nonce more (sealL key nonce more text) = 2 ^ 64 - 1 ∧ textL key nonce more (sealL key nonce more text) = text := by
  have h1 : (sealL key nonce more text).take ((sealL key nonce more text).length - 16) = xorL key nonce (64 * 1) text := by
    rw [sealL_length, Nat.add_sub_cancel, sealL, List.take_append_of_le_length (by simp), List.take_of_length_le (by simp)]
  have h2 : (sealL key nonce more text).drop ((sealL key nonce more text).length - 16) = vouchL key nonce more (xorL key nonce (64 * 1) text) := by
    rw [sealL_length, Nat.add_sub_cancel, sealL, List.drop_append, List.drop_of_length_le (by simp), List.nil_append, xorL_length, Nat.sub_self, List.drop_zero]
  have h3 : rightL key nonce more (sealL key nonce more text) = 2 ^ 64 - 1 := by
    rw [rightL, h1, h2, msame, if_pos rfl]
  refine ⟨h3, ?_⟩
  rw [textL, if_neg (by rw [h3]; decide), h1, xorL_twice]
theorem right_cases (key nonce more box : List Nat) : rightL key nonce more box = 0 ∨ rightL key nonce more box = 2 ^ 64 - 1 := by
  unfold rightL msame; split
  · exact Or.inr rfl
  · exact Or.inl rfl

theorem look_ok (key nonce : List Nat) (vm : Value) (nm : Nat) (more : List Nat) (v : Value) (n : Nat) (box : List Nat) [hku : Us .u8 key] [hnu : Us .u8 nonce] [hmu : Us .u8 more] [hbu : Us .u8 box] (hk : key.length = 32) (hn : nonce.length = 12) (hnm : nm ≤ 1048576) (h16 : 16 ≤ n) (hmax : n ≤ 1048592) : Fn Tryd.prog 71 [.agg (us .u8 key).toArray, .agg (us .u8 nonce).toArray, vm, v] [] [rdF vm 1 nm (us .u8 more), rdF v 1 n (us .u8 box)] (fun u B' => ∃ w, u = .tuple #[w, .int .u64 ((rightL key nonce more box : Nat) : Int), .int .i64 0] ∧ B' = [.sl w 5 1 (n - 16) (us .u8 (textL key nonce more box))]) := by
  refine fn_enter Tryd.func71 rfl Tryd.ntmps71 rfl fun w => ?_
  refine c_fact (p := box.length = n) (fun _ _ s => by simpa using (s.read (f := rdF v 1 n (us .u8 box)) (by simp)).1) fun hl => ?_
  haveI : Ok (n - 16 ≤ n) := ⟨by omega⟩
  haveI : Ok (n - 16 ≤ n ∧ box.length = n) := ⟨by omega, hl⟩
  obtain ⟨cover, hcov⟩ : ∃ cover, box.take (n - 16) = cover := ⟨_, rfl⟩
  haveI hcu : Us .u8 cover := by rw [← hcov]; infer_instance
  have hcl : cover.length = n - 16 := by rw [← hcov]; simp; omega
  have hright : msame (vouchL key nonce more cover) (box.drop (n - 16)) = rightL key nonce more box := by rw [rightL, hl, hcov]
  have htl : (xorL key nonce (64 * 1) cover).length = n - 16 := by simp [hcl]
  refine c_seq (c_region ?_)
  refine s_x (e_box rfl rfl fun b4 => ?_)
  refine s_x (e_box rfl rfl fun b5 => ?_)
  refine s_p p_assign ?_
  refine s_p (p_assign (v := .int .u64 ((0 : Nat) : Int))) ?_
  refine s_p (p_assign (v := .int .i64 ((0 : Nat) : Int))) ?_
  refine g_nil (f_next ?_)
  refine c_scope ?_
  refine c_seq (c_region ?_)
  refine s_p p_move ?_
  refine s_p (p_len rfl) ?_
  refine s_p (p_subn (b := 16)) ?_
  refine s_p p_assign ?_
  refine g_nil (f_next ?_)
  refine c_seq ?_
  refine c_seq (c_region ?_)
  refine s_p p_move ?_
  refine s_p (p_lss (b := 0)) ?_
  refine g_nil (f_next ?_)
  refine c_cond_no rfl (by omega) ?_
  refine c_skip (f_next ?_)
  refine c_seq ?_
  refine c_seq (c_region ?_)
  refine s_p p_move ?_
  refine s_p (p_len rfl) ?_
  refine s_p (p_eq (p_gtr (b := 1048576)) (v' := .bool false) (by simp; omega)) ?_
  refine s_p p_move ?_
  refine s_v (v_yg p_move) ?_
  refine s_v (v_yg (p_gtr (b := 1048576))) ?_
  refine s_p p_pick_f ?_
  refine g_nil (f_next ?_)
  refine c_cond_no rfl (by omega) ?_
  refine c_skip (f_next ?_)
  refine c_seq (c_run [.r, .r, .p, .p, .p, .r, .x0, .alc 102 (us .u8 (List.replicate 16 0)), .x2] [0, 1, 2, 3, 4, 5, 6, 7, 8] (by kernel_rfl) fun hn6 => ?_)
  refine d_r hn6 rfl (p_load_all rfl) ?_
  refine d_r hn6 rfl (p_load_all rfl) ?_
  refine d_p rfl p_move ?_
  refine d_p rfl p_move ?_
  refine d_p rfl p_move ?_
  refine d_r hn6 rfl (p_slice_sl_hi rfl rfl) ?_
  refine d_x0 rfl (e_callp (vouch_ok key nonce vm nm more (subSl v 1 0 (n - 16)) (n - 16) (box.take (n - 16)) hk hn (by omega) (by omega)) (h := ⟨inferInstance, ?_⟩))
  rw [hcov]
  refine d_a rfl fun b12 hb12 => ?_
  refine d_s2 rfl (e_store_all rfl rfl rfl (h := ?_))
  refine d_nil (f_next ?_)
  haveI : Ok ((vouchL key nonce more cover).length = 16 ∧ 16 ≤ 16) := ⟨by simp, by omega⟩
  refine c_seq (c_run [.p, .p, .p, .r, .x0, .p] [0, 1, 2, 3, 4, 5] (by kernel_rfl) fun hn7 => ?_)
  refine d_p rfl (p_slice_arr_all rfl) ?_
  refine d_p rfl p_move ?_
  refine d_p rfl p_move ?_
  refine d_r hn7 rfl (p_slice_sl_lo rfl rfl) ?_
  refine d_x0 rfl (e_callp (same_ok (.slice (some ⟨b12, 0, none⟩) 16 16) (subSl v 1 (n - 16) n) 16 (n - (n - 16)) (vouchL key nonce more cover) (box.drop (n - 16)) (by omega)) (h := ⟨inferInstance, ?_⟩))
  rw [hright]
  refine d_p rfl p_assign ?_
  refine d_nil (f_next ?_)
  refine c_seq (c_run [.r, .r, .p, .p, .r, .x0, .p, .p, .p, .p, .p] [0, 1, 2, 3, 4, 5, 6, 7, 8, 9, 10] (by kernel_rfl) fun hn8 => ?_)
  refine d_r hn8 rfl (p_load_all rfl) ?_
  refine d_r hn8 rfl (p_load_all rfl) ?_
  refine d_p rfl p_move ?_
  refine d_p rfl p_move ?_
  refine d_r hn8 rfl (p_slice_sl_hi rfl rfl) ?_
  refine d_x0 rfl (e_callx (xor_ok key nonce 1 (subSl v 1 0 (n - 16)) (n - 16) (box.take (n - 16)) hk hn (by omega)) (h := fun v47 B47 h47 => ⟨inferInstance, ?_⟩))
  obtain ⟨w47, rfl, rfl⟩ := h47
  simp only [List.cons_append, List.nil_append]
  rw [hcov]
  refine d_p rfl p_move ?_
  refine d_p rfl (p_ext rfl rfl) ?_
  refine d_p rfl (p_ext rfl rfl) ?_
  refine d_p rfl p_assign ?_
  refine d_p rfl p_assign ?_
  refine d_nil (f_next ?_)
  refine c_seq ?_
  refine c_seq (c_region ?_)
  refine s_p p_move ?_
  refine s_p (p_neq (b := 0)) ?_
  refine g_nil (f_next ?_)
  refine c_cond_no rfl (by decide) ?_
  refine c_skip (f_next ?_)
  refine c_seq ?_
  refine c_seq (c_region ?_)
  refine s_p p_move ?_
  refine s_p (p_neq (b := 0)) ?_
  refine g_nil (f_next ?_)
  refine c_cond_dec rfl (fun h53 => ?_) (fun h53 => ?_)
  · skip
    replace h53 : _ ≠ 0 := h53
    replace h53 : rightL key nonce more box ≠ 0 := h53
    have htx : xorL key nonce (64 * 1) cover = textL key nonce more box := by rw [textL, if_neg h53, hl, hcov]
    rw [htx]
    refine c_seq (c_region ?_)
    refine s_p p_move ?_
    refine s_p p_move ?_
    refine s_p p_assign ?_
    refine s_p p_assign ?_
    refine s_p (p_assign (v := .int .i64 ((0 : Nat) : Int))) ?_
    refine g_nil (f_next ?_)
    refine c_ret (f_pass_ret (f_scope_ret ?_))
    exact f_r3 (Or.inl rfl) Tryd.results71 ⟨_, rfl, rfl⟩
  replace h53 : ¬ (_ ≠ 0) := h53
  replace h53 : rightL key nonce more box = 0 := by simpa using h53
  have htx : List.replicate (n - 16) 0 ++ (xorL key nonce (64 * 1) cover).drop (n - 16) = textL key nonce more box := by rw [textL, if_pos h53, hl, List.drop_of_length_le (by omega), List.append_nil]
  refine c_own (B2 := [.sl w47 5 1 (n - 16) (us .u8 (List.replicate 0 0 ++ (xorL key nonce (64 * 1) cover).drop 0)), .blk b12 (.cells (us .u8 (vouchL key nonce more cover)).toArray 102 (0, 0)), .blk b5 (.cells (us .u8 nonce).toArray 71 (0, 0)), .blk b4 (.cells (us .u8 key).toArray 23 (0, 0))]) rfl ?_
  refine c_skip (f_next ?_)
  refine c_seq ?_
  refine c_label (f_next ?_)
  refine c_seq ?_
  refine c_seq (c_region ?_)
  refine s_p p_move ?_
  refine s_p (p_len rfl) ?_
  refine s_p (p_move (v := .int .i64 ((0 : Nat) : Int))) ?_
  refine g_nil (f_next ?_)
  refine c_block ?_
  refine c_lp (X := Nat) (fun x => n - 16 - x) (fun c x => x ≤ n - 16) (fun x => [(58, .int .i64 (x : Int))]) [(14, _), (15, _), (57, _)] (fun x => [.sl w47 5 1 (n - 16) (us .u8 (List.replicate x 0 ++ (xorL key nonce (64 * 1) cover).drop x))]) 0 (by first | omega | trivial) ⟨rfl, rfl, rfl, trivial⟩ (hr := fun x hx => ?_)
  refine c_seq (c_region ?_)
  refine s_p p_lss ?_
  refine g_nil (f_next ?_)
  refine c_seq ?_
  refine c_cond_dec rfl (fun h59 => ?_) (fun h59 => ?_)
  · skip
    refine c_skip (f_next ?_)
    refine c_seq ?_
    refine c_block ?_
    refine c_seq (c_region ?_)
    refine s_p p_move ?_
    refine s_p p_assign ?_
    refine g_nil (f_next ?_)
    refine c_region ?_
    refine s_p p_move ?_
    refine s_p p_move ?_
    refine s_p (p_ix_sl1 rfl rfl) ?_
    refine s_x0 (e_store_slu (v := 0) rfl rfl (by simp [htl]; omega) (l' := List.replicate (x + 1) 0 ++ (xorL key nonce (64 * 1) cover).drop (x + 1)) (h := ?_) (hl := wipe_step (n - 16) x _ htl (by omega)))
    refine g_nil (f_block_normal (f_next ?_))
    refine c_region ?_
    refine s_p (p_addn (b := 1)) ?_
    refine s_p p_move ?_
    refine g_nil ?_
    exact f_rd (x + 1)
  refine c_exit (f_pass_exit (f_pass_exit (f_block_exit (f_next ?_))))
  obtain rfl : x = n - 16 := by omega
  rw [htx]
  refine c_seq (c_region ?_)
  refine s_p p_move ?_
  refine s_p p_move ?_
  refine s_p p_assign ?_
  refine s_p (p_nat (p_assign (v := .int .u64 ((0 : Nat) : Int))) (b := rightL key nonce more box) h53.symm) ?_
  refine s_p p_assign ?_
  refine g_nil (f_next ?_)
  refine c_ret (f_scope_ret ?_)
  exact f_r3 (Or.inl rfl) Tryd.results71 ⟨_, rfl, rfl⟩

theorem sopen_ok (key nonce : List Nat) (vm : Value) (nm : Nat) (more : List Nat) (v : Value) (n : Nat) (box : List Nat) [hku : Us .u8 key] [hnu : Us .u8 nonce] [hmu : Us .u8 more] [hbu : Us .u8 box] (hk : key.length = 32) (hn : nonce.length = 12) (hnm : nm ≤ 1048576) (h16 : 16 ≤ n) (hmax : n ≤ 1048592) : Fn Tryd.prog 46 [.agg (us .u8 key).toArray, .agg (us .u8 nonce).toArray, vm, v] [] [rdF vm 1 nm (us .u8 more), rdF v 1 n (us .u8 box)] (fun u B' => (rightL key nonce more box ≠ 0 ∧ ∃ w, u = .tuple #[w, .int .i64 0] ∧ B' = [.sl w 5 1 (n - 16) (us .u8 (textL key nonce more box))]) ∨ (rightL key nonce more box = 0 ∧ u = .tuple #[.slice none 0 0, .int .i64 70] ∧ B' = [])) := by
  refine fn_enter Tryd.func46 rfl Tryd.ntmps46 rfl fun w => ?_
  refine c_seq (c_region ?_)
  refine s_x (e_box rfl rfl fun b4 => ?_)
  refine s_x (e_box rfl rfl fun b5 => ?_)
  refine s_p p_assign ?_
  refine s_p (p_assign (v := .int .i64 ((0 : Nat) : Int))) ?_
  refine g_nil (f_next ?_)
  refine c_seq (c_region ?_)
  refine s_p (p_load_all rfl) ?_
  refine s_p (p_load_all rfl) ?_
  refine s_p p_move ?_
  refine s_p p_move ?_
  refine s_x (e_callx (look_ok key nonce vm nm more v n box hk hn hnm h16 hmax) (h := fun v18 B18 h18 => ?_))
  obtain ⟨w18, rfl, rfl⟩ := h18
  simp only [List.cons_append, List.nil_append]
  refine s_p p_move ?_
  refine s_p (p_ext rfl rfl) ?_
  refine s_p (p_ext rfl rfl) ?_
  refine s_p (p_ext rfl rfl) ?_
  refine s_p p_assign ?_
  refine s_p p_assign ?_
  refine s_p p_assign ?_
  refine g_nil (f_next ?_)
  refine c_seq ?_
  refine c_seq (c_region ?_)
  refine s_p p_move ?_
  refine s_p (p_neq (b := 0)) ?_
  refine g_nil (f_next ?_)
  refine c_cond_no rfl (by decide) ?_
  refine c_skip (f_next ?_)
  refine c_seq ?_
  refine c_seq (c_region ?_)
  refine s_p p_move ?_
  refine s_p (p_eql (b := 0)) ?_
  refine g_nil (f_next ?_)
  refine c_cond_dec rfl (fun h26 => ?_) (fun h26 => ?_)
  · skip
    replace h26 : _ = 0 := h26
    replace h26 : rightL key nonce more box = 0 := h26
    refine c_seq (c_region ?_)
    refine s_p p_assign ?_
    refine s_p (p_assign (v := .int .i64 ((70 : Nat) : Int))) ?_
    refine g_nil (f_next ?_)
    refine c_ret (f_pass_ret ?_)
    exact f_r2 (Or.inl rfl) Tryd.results46 (Or.inr ⟨h26, rfl, rfl⟩)
  replace h26 : ¬ (_ = 0) := h26
  replace h26 : ¬ (rightL key nonce more box = 0) := h26
  refine c_skip (f_next ?_)
  refine c_seq (c_region ?_)
  refine s_p p_move ?_
  refine s_p p_assign ?_
  refine s_p (p_assign (v := .int .i64 ((0 : Nat) : Int))) ?_
  refine g_nil (f_next ?_)
  refine c_ret ?_
  exact f_r2 (Or.inl rfl) Tryd.results46 (Or.inl ⟨h26, _, rfl, rfl⟩)

theorem peek_ok (key nonce : List Nat) (vm : Value) (nm : Nat) (more : List Nat) (v : Value) (n : Nat) (box : List Nat) [hku : Us .u8 key] [hnu : Us .u8 nonce] [hmu : Us .u8 more] [hbu : Us .u8 box] (hk : key.length = 32) (hn : nonce.length = 12) (hnm : nm ≤ 1048576) (h16 : 16 ≤ n) (hmax : n ≤ 1048592) : Fn Tryd.prog 72 [.agg (us .u8 key).toArray, .agg (us .u8 nonce).toArray, vm, v] [] [rdF vm 1 nm (us .u8 more), rdF v 1 n (us .u8 box)] (fun u B' => ∃ w, u = .tuple #[w, .int .u64 ((rightL key nonce more box : Nat) : Int), .int .i64 0] ∧ B' = [.sl w 5 1 (n - 16) (us .u8 (textL key nonce more box))]) := by
  refine fn_enter Tryd.func72 rfl Tryd.ntmps72 rfl fun w => ?_
  refine c_seq (c_region ?_)
  refine s_x (e_box rfl rfl fun b4 => ?_)
  refine s_x (e_box rfl rfl fun b5 => ?_)
  refine s_p p_assign ?_
  refine s_p (p_assign (v := .int .u64 ((0 : Nat) : Int))) ?_
  refine s_p (p_assign (v := .int .i64 ((0 : Nat) : Int))) ?_
  refine g_nil (f_next ?_)
  refine c_seq (c_region ?_)
  refine s_p (p_load_all rfl) ?_
  refine s_p (p_load_all rfl) ?_
  refine s_p p_move ?_
  refine s_p p_move ?_
  refine s_x (e_callx (look_ok key nonce vm nm more v n box hk hn hnm h16 hmax) (h := fun v15 B15 h15 => ?_))
  obtain ⟨w15, rfl, rfl⟩ := h15
  simp only [List.cons_append, List.nil_append]
  refine s_p (p_ext rfl rfl) ?_
  refine s_p (p_ext rfl rfl) ?_
  refine s_p (p_ext rfl rfl) ?_
  refine s_p p_assign ?_
  refine s_p p_assign ?_
  refine s_p p_assign ?_
  refine g_nil (f_next ?_)
  refine c_ret ?_
  exact f_r3 (Or.inl rfl) Tryd.results72 ⟨_, rfl, rfl⟩

end Go.Tw
end

section
namespace Go.Tw
open Go Go.Proofs

def invTag : List Nat := [116, 114, 121, 115, 116, 32, 105, 110, 118, 105, 116, 101]
instance : Us .u8 invTag := ⟨by decide⟩
/-- An invitation's key. -/
def ikeyL (z first to : List Nat) : List Nat := hkdf (hmac invTag z) (first ++ to) (1 * 32)
@[simp] theorem ikeyL_length (z first to : List Nat) : (ikeyL z first to).length = 32 := hkdf_length _ _ _
instance {z first to : List Nat} : Us .u8 (ikeyL z first to) := by unfold ikeyL; infer_instance

theorem ikey_ok (z first to : List Nat) [hzu : Us .u8 z] [hfu : Us .u8 first] [htu : Us .u8 to] (hz : z.length = 32) (hf : first.length = 32) (ht : to.length = 32) : Fn Tryd.prog 26 [.agg (us .u8 z).toArray, .agg (us .u8 first).toArray, .agg (us .u8 to).toArray] [] [glH, glK] (fun u B' => u = .agg (us .u8 (ikeyL z first to)).toArray ∧ B' = []) := by
  refine fn_enter Tryd.func26 rfl Tryd.ntmps26 rfl fun w => ?_
  haveI : Ok (z.length = 32 ∧ 32 ≤ 32) := ⟨hz, by omega⟩
  haveI : Ok (first.length = 32 ∧ 32 ≤ 32) := ⟨hf, by omega⟩
  haveI : Ok (to.length = 32 ∧ 32 ≤ 32) := ⟨ht, by omega⟩
  refine c_seq (c_region ?_)
  refine s_x (e_box rfl rfl fun b3 => ?_)
  refine s_x (e_box rfl rfl fun b4 => ?_)
  refine s_x (e_box rfl rfl fun b5 => ?_)
  refine s_x (e_alloc fun b6 => ?_)
  refine g_nil (f_next ?_)
  refine c_seq (c_runm [.mks [] [] 5 12 (us .u8 invTag), .eff 3, .p, .p, .p, .mks [(13, .slice (some ⟨b4, 0, none⟩) 32 32), (14, .slice (some ⟨b5, 0, none⟩) 32 32)] [.blk b5 (.cells (us .u8 to).toArray 23 (0, 0)), .blk b4 (.cells (us .u8 first).toArray 23 (0, 0))] 5 64 (us .u8 (first ++ to)), .x0, .p, .p, .p, .p, .p] [2, 3, 4, 0, 1, 5, 6, 7, 8, 9, 10, 11] (by kernel_rfl) (MkSaid.ofL ⟨mk_of (e_bsl (cells := us .u8 invTag) (hp := rfl) (hf := by rfl) (h := fun v h => rfl)), mk_of (e_appn (n := 32) (m := 32) rfl rfl (h := fun v => rfl)), trivial⟩) fun hm1 hn1 => ?_)
  refine d_p rfl (p_slice_arr_all rfl) ?_
  refine d_p rfl (p_slice_arr_all rfl) ?_
  refine d_p rfl (p_slice_arr_all rfl) ?_
  refine d_m hm1 hn1 rfl fun g10 cap10 rest10 hg10 hc10 hr10 => ?_
  refine d_c hg10 rfl ?_
  refine d_m hm1 hn1 rfl fun g15 cap15 rest15 hg15 hc15 hr15 => ?_
  haveI : Ok (invTag.length = 12 ∧ 12 ≤ cap10) := ⟨rfl, hc10⟩
  haveI : Ok ((first ++ to).length = 64 ∧ 64 ≤ cap15) := ⟨by simp [hf, ht], hc15⟩
  refine d_x0 rfl (e_callx (keys_ok (.slice (some ⟨g10, 0, none⟩) 12 cap10) 12 invTag (.slice (some ⟨b3, 0, none⟩) 32 32) 32 z (.slice (some ⟨g15, 0, none⟩) 64 cap15) 64 (first ++ to) 1 (by omega) (by omega) (by omega) (by omega) (by omega)) (h := fun v16 B16 h16 => ⟨inferInstance, ?_⟩))
  obtain ⟨w16, rfl, rfl⟩ := h16
  simp only [List.cons_append, List.nil_append]
  refine d_p rfl p_move ?_
  refine d_p rfl (p_ext rfl rfl) ?_
  refine d_p rfl (p_ext rfl rfl) ?_
  refine d_p rfl p_assign ?_
  refine d_p rfl p_assign ?_
  refine d_nil (f_next ?_)
  refine c_seq ?_
  refine c_seq (c_region ?_)
  refine s_p p_move ?_
  refine s_p (p_neq (b := 0)) ?_
  refine g_nil (f_next ?_)
  refine c_cond_no rfl (by decide) ?_
  refine c_skip (f_next ?_)
  refine c_seq (c_region ?_)
  refine s_p p_move ?_
  refine s_p (p_ix_sl rfl rfl (i := 0) (by omega)) ?_
  refine s_p (p_load_sls rfl (ps := us .u8 (ikeyL z first to)) (by rw [Nat.zero_mul, List.drop_zero, List.take_of_length_le (by simp [hkdf_length])]; rfl) (by simp)) ?_
  refine s_x0 (e_store_all rfl rfl rfl (h := ?_))
  refine g_nil (f_next ?_)
  refine c_ret ?_
  exact f_rm (Or.inl rfl) Tryd.results26 ⟨rfl, rfl⟩

/-- An invitation; where there is one. -/
def invL (priv fr to : List Nat) (round : Nat) : List Nat := baseL priv ++ sealL (ikeyL (x255 priv to) (baseL priv) to) (nonceL 2 round) [] (fr ++ leB 8 round)
@[simp] theorem invL_length (priv fr to : List Nat) (round : Nat) (h : fr.length = 32) : (invL priv fr to round).length = 88 := by simp [invL, h]
instance {priv fr to : List Nat} {round : Nat} [Us .u8 fr] : Us .u8 (invL priv fr to round) := by unfold invL; infer_instance
theorem strong_zero {z : List Nat} : strong z = 0 ↔ z = List.replicate 32 0 := by
  unfold strong; split
  · next h => exact ⟨fun _ => h, fun _ => rfl⟩
  · next h => exact ⟨fun e => absurd e (by decide), fun e => absurd e h⟩
instance : Fits 2 .u32 := ⟨by decide⟩
instance : Fits 1 .u32 := ⟨by decide⟩

theorem imake_ok (priv fr to : List Nat) (round : Nat) [hpu : Us .u8 priv] [hfu : Us .u8 fr] [htu : Us .u8 to] [hru : Fits round .u64] (hp : priv.length = 32) (hf : fr.length = 32) (ht : to.length = 32) : Fn Tryd.prog 8 [.agg (us .u8 priv).toArray, .agg (us .u8 fr).toArray, .agg (us .u8 to).toArray, .int .u64 (round : Int)] [] [glH, glK] (fun u B' => (x255 priv to = List.replicate 32 0 ∧ u = .tuple #[.slice none 0 0, .int .i64 90] ∧ B' = []) ∨ (x255 priv to ≠ List.replicate 32 0 ∧ ∃ w, u = .tuple #[w, .int .i64 0] ∧ B' = [.sl w 5 1 88 (us .u8 (invL priv fr to round))])) := by
  refine fn_enter Tryd.func8 rfl Tryd.ntmps8 rfl fun w => ?_
  haveI : Ok (fr.length = 32 ∧ 32 ≤ 32) := ⟨hf, by omega⟩
  haveI : Ok ((baseL priv).length = 32 ∧ 32 ≤ 32) := ⟨by simp, by omega⟩
  refine c_seq (c_region ?_)
  refine s_x (e_box rfl rfl fun b4 => ?_)
  refine s_x (e_box rfl rfl fun b5 => ?_)
  refine s_x (e_box rfl rfl fun b6 => ?_)
  refine s_p p_assign ?_
  refine s_p (p_assign (v := .int .i64 ((0 : Nat) : Int))) ?_
  refine g_nil (f_next ?_)
  refine c_seq (c_region ?_)
  refine s_p (p_load_all rfl) ?_
  refine s_p (p_load_all rfl) ?_
  refine s_x (e_callp (agree_ok priv to hp ht) (h := ?_))
  refine s_p p_move ?_
  refine s_p (p_ext rfl rfl) ?_
  refine s_p (p_ext rfl rfl) ?_
  refine s_x (e_alloc fun b10 => ?_)
  refine s_x0 (e_store_all rfl rfl rfl (h := ?_))
  refine s_p p_assign ?_
  refine g_nil (f_next ?_)
  refine c_seq ?_
  refine c_seq (c_region ?_)
  refine s_p p_move ?_
  refine s_p (p_eql (b := 0)) ?_
  refine g_nil (f_next ?_)
  refine c_cond_dec rfl (fun h22 => ?_) (fun h22 => ?_)
  · skip
    replace h22 : _ = 0 := h22
    replace h22 : strong (x255 priv to) = 0 := h22
    refine c_seq (c_region ?_)
    refine s_p p_assign ?_
    refine s_p (p_assign (v := .int .i64 ((90 : Nat) : Int))) ?_
    refine g_nil (f_next ?_)
    refine c_ret (f_pass_ret ?_)
    exact f_r2 (Or.inl rfl) Tryd.results8 (Or.inl ⟨strong_zero.1 h22, rfl, rfl⟩)
  replace h22 : ¬ (_ = 0) := h22
  replace h22 : ¬ (strong (x255 priv to) = 0) := h22
  refine c_skip (f_next ?_)
  refine c_seq (c_region ?_)
  refine s_p (p_load_all rfl) ?_
  refine s_x (e_callp (base_ok priv hp) (h := ?_))
  refine s_x (e_alloc fun b12 => ?_)
  refine s_x0 (e_store_all rfl rfl rfl (h := ?_))
  refine g_nil (f_next ?_)
  refine c_seq (c_run [.r, .r, .r, .x0, .p, .x0, .p, .p, .x0, .x0, .p, .p, .p, .p, .p] [0, 1, 2, 4, 6, 7, 3, 5, 8, 9, 10, 11, 12, 13, 14] (by kernel_rfl) fun hn5 => ?_)
  refine d_r hn5 rfl (p_load_all rfl) ?_
  refine d_r hn5 rfl (p_load_all rfl) ?_
  refine d_r hn5 rfl (p_load_all rfl) ?_
  refine d_p rfl p_move ?_
  refine d_p rfl (p_slice_arr_all rfl) ?_
  refine d_p rfl p_move ?_
  refine d_x0 rfl (e_callp (ikey_ok (x255 priv to) (baseL priv) to (by simp) (by simp) ht) (h := ⟨inferInstance, ?_⟩))
  refine d_x0 rfl (e_callp (nonce_ok 2 round) (h := ⟨inferInstance, ?_⟩))
  refine d_x0 rfl (e_callx (put64_ok (.slice (some ⟨b5, 0, none⟩) 32 32) 32 fr round (by omega)) (h := fun v34 B34 h34 => ⟨inferInstance, ?_⟩))
  subst h34
  simp only [List.cons_append, List.nil_append]
  refine d_x0 rfl (e_callx (seal_ok (ikeyL (x255 priv to) (baseL priv) to) (nonceL 2 round) (.slice none 0 0) 0 [] v34 (32 + 8) (fr ++ leB 8 round) (by simp) (by simp) (by omega)) (h := fun v35 B35 h35 => ⟨inferInstance, ?_⟩))
  obtain ⟨_, w35, rfl, rfl⟩ := h35.resolve_right (by omega)
  simp only [List.cons_append, List.nil_append]
  refine d_p rfl p_move ?_
  refine d_p rfl (p_ext rfl rfl) ?_
  refine d_p rfl (p_ext rfl rfl) ?_
  refine d_p rfl p_assign ?_
  refine d_p rfl p_assign ?_
  refine d_nil (f_next ?_)
  refine c_seq ?_
  refine c_seq (c_region ?_)
  refine s_p p_move ?_
  refine s_p (p_neq (b := 0)) ?_
  refine g_nil (f_next ?_)
  refine c_cond_no rfl (by decide) ?_
  refine c_skip (f_next ?_)
  refine c_seq (c_region ?_)
  refine s_p (p_slice_arr_all rfl) ?_
  refine s_p p_move ?_
  refine s_x (e_appn (n := 32) (m := 32 + 8 + 16) (l := baseL priv) (l' := invL priv fr to round) rfl rfl (h := fun v43 => ?_))
  refine s_p p_assign ?_
  refine s_p (p_assign (v := .int .i64 ((0 : Nat) : Int))) ?_
  refine g_nil (f_next ?_)
  refine c_ret ?_
  exact f_r2 (Or.inl rfl) Tryd.results8 (Or.inr ⟨fun h => h22 (strong_zero.2 h), _, rfl, rfl⟩)

end Go.Tw
end

section
namespace Go.Tw
open Go Go.Proofs

theorem sopen2_ok (key nonce : List Nat) (vm : Value) (nm : Nat) (more : List Nat) (v : Value) (n : Nat) (box : List Nat) [hku : Us .u8 key] [hnu : Us .u8 nonce] [hmu : Us .u8 more] [hbu : Us .u8 box] (hk : key.length = 32) (hn : nonce.length = 12) (hnm : nm ≤ 1048576) (h16 : 16 ≤ n) (hmax : n ≤ 1048592) : Fn Tryd.prog 46 [.agg (us .u8 key).toArray, .agg (us .u8 nonce).toArray, vm, v] [] [rdF vm 1 nm (us .u8 more), rdF v 1 n (us .u8 box)] (fun u B' => ∃ w m l, u = .tuple #[w, .int .i64 ((if rightL key nonce more box = 0 then 70 else 0 : Nat) : Int)] ∧ B' = [.sl w 5 1 m (us .u8 l)] ∧ (rightL key nonce more box ≠ 0 → m = n - 16 ∧ l = textL key nonce more box)) := by
  refine (sopen_ok key nonce vm nm more v n box hk hn hnm h16 hmax).post ?_
  rintro u B' (⟨h, w, rfl, rfl⟩ | ⟨h, rfl, rfl⟩)
  · exact ⟨_, ⟨w, n - 16, textL key nonce more box, by rw [if_neg h]; rfl, rfl, fun _ => ⟨rfl, rfl⟩⟩, Cv.refl⟩
  · exact ⟨_, ⟨.slice none 0 0, 0, [], by rw [if_pos h]; rfl, rfl, fun h' => absurd h h'⟩, Cv.nil⟩
/-- What an invitation tells: the error's number, and from whom it comes. -/
def openI (own pub : List Nat) (round : Nat) (box : List Nat) : Nat × List Nat :=
  if box.length ≠ 88 then (220, List.replicate 32 0)
  else if x255 own (box.take 32) = List.replicate 32 0 then (90, List.replicate 32 0)
  else if rightL (ikeyL (x255 own (box.take 32)) (box.take 32) pub) (nonceL 2 round) [] (box.drop 32) = 0 then (70, List.replicate 32 0)
  else if leN ((textL (ikeyL (x255 own (box.take 32)) (box.take 32) pub) (nonceL 2 round) [] (box.drop 32)).drop 32) ≠ round then (220, List.replicate 32 0)
  else (0, (textL (ikeyL (x255 own (box.take 32)) (box.take 32) pub) (nonceL 2 round) [] (box.drop 32)).take 32)
@[simp] theorem openI_length (own pub : List Nat) (round : Nat) (box : List Nat) : (openI own pub round box).2.length = 32 := by
  unfold openI
  split
  · simp
  · next h =>
    have h88 : box.length = 88 := by omega
    split
    · simp
    · split
      · simp
      · split
        · simp
        · simp [h88]
theorem openI_us {own pub : List Nat} {round : Nat} {box : List Nat} [Us .u8 box] : Us .u8 (openI own pub round box).2 := by
  unfold openI
  split
  · exact Us.rep
  · split
    · exact Us.rep
    · split
      · exact Us.rep
      · split
        · exact Us.rep
        · exact Us.take
instance {own pub : List Nat} {round : Nat} {box : List Nat} [Us .u8 box] : Us .u8 (openI own pub round box).2 := openI_us


theorem iopen_ok (own pub : List Nat) (round : Nat) (v : Value) (n : Nat) (box : List Nat) [hou : Us .u8 own] [hpu : Us .u8 pub] [hbu : Us .u8 box] [hru : Fits round .u64] (ho : own.length = 32) (hp : pub.length = 32) : Fn Tryd.prog 40 [.agg (us .u8 own).toArray, .agg (us .u8 pub).toArray, .int .u64 (round : Int), v] [] [rdF v 1 n (us .u8 box), glH, glK] (fun u B' => u = .tuple #[.agg (us .u8 (openI own pub round box).2).toArray, .int .i64 (((openI own pub round box).1 : Nat) : Int)] ∧ B' = []) := by
  refine fn_enter Tryd.func40 rfl Tryd.ntmps40 rfl fun w => ?_
  refine c_fact (p := box.length = n) (fun _ _ s => by simpa using (s.read (f := rdF v 1 n (us .u8 box)) (by simp)).1) fun hl => ?_
  refine c_seq (c_region ?_)
  refine s_x (e_box rfl rfl fun b4 => ?_)
  refine s_x (e_box rfl rfl fun b5 => ?_)
  refine s_x (e_alloc fun b8 => ?_)
  refine s_p (p_assign (v := .int .i64 ((0 : Nat) : Int))) ?_
  refine g_nil (f_next ?_)
  refine c_seq ?_
  refine c_seq (c_region ?_)
  refine s_p p_move ?_
  refine s_p (p_len rfl) ?_
  refine s_p (p_neq (b := 88)) ?_
  refine g_nil (f_next ?_)
  refine c_cond_dec rfl (fun h19 => ?_) (fun h19 => ?_)
  · skip
    replace h19 : _ ≠ 88 := h19
    refine c_seq (c_region ?_)
    refine s_p (p_barr (cells := us .u8 (List.replicate 32 0)) rfl) ?_
    refine s_x0 (e_store_all rfl rfl rfl (h := ?_))
    refine s_p (p_assign (v := .int .i64 ((220 : Nat) : Int))) ?_
    refine g_nil (f_next ?_)
    refine c_ret (f_pass_ret ?_)
    exact f_rmt (Or.inl rfl) Tryd.results40 ⟨by rw [openI, if_pos (by omega)], rfl⟩
  replace h19 : ¬ (_ ≠ 88) := h19
  obtain rfl : n = 88 := by omega
  have h88 : ¬ (box.length ≠ 88) := by omega
  haveI : Ok (32 ≤ 88) := ⟨by omega⟩
  haveI : Ok (32 ≤ 88 ∧ box.length = 88) := ⟨by omega, hl⟩
  refine c_skip (f_next ?_)
  refine c_seq (c_region ?_)
  refine s_p p_move ?_
  refine s_p (p_slice_sl_hi rfl rfl) ?_
  refine s_p (p_s2a rfl) ?_
  refine s_p (p_load_sls rfl (ps := us .u8 (box.take 32)) (by simp [us_take, List.take_take]) (by simp; omega)) ?_
  refine s_x (e_alloc fun b10 => ?_)
  refine s_x0 (e_store_all rfl rfl rfl (h := ?_))
  refine g_nil (f_next ?_)
  refine c_seq (c_region ?_)
  refine s_p (p_load_all rfl) ?_
  refine s_p (p_load_all rfl) ?_
  refine s_x (e_callp (agree_ok own (box.take 32) ho (by simp; omega)) (h := ?_))
  refine s_p p_move ?_
  refine s_p (p_ext rfl rfl) ?_
  refine s_p (p_ext rfl rfl) ?_
  refine s_x (e_alloc fun b11 => ?_)
  refine s_x0 (e_store_all rfl rfl rfl (h := ?_))
  refine s_p p_assign ?_
  refine g_nil (f_next ?_)
  refine c_seq ?_
  refine c_seq (c_region ?_)
  refine s_p p_move ?_
  refine s_p (p_eql (b := 0)) ?_
  refine g_nil (f_next ?_)
  refine c_cond_dec rfl (fun h32 => ?_) (fun h32 => ?_)
  · skip
    replace h32 : _ = 0 := h32
    replace h32 : strong (x255 own (box.take 32)) = 0 := h32
    refine c_seq (c_region ?_)
    refine s_p (p_barr (cells := us .u8 (List.replicate 32 0)) rfl) ?_
    refine s_x0 (e_store_all rfl rfl rfl (h := ?_))
    refine s_p (p_assign (v := .int .i64 ((90 : Nat) : Int))) ?_
    refine g_nil (f_next ?_)
    refine c_ret (f_pass_ret ?_)
    exact f_rmt (Or.inl rfl) Tryd.results40 ⟨by rw [openI, if_neg h88, if_pos (strong_zero.1 h32)], rfl⟩
  replace h32 : ¬ (_ = 0) := h32
  replace h32 : ¬ (strong (x255 own (box.take 32)) = 0) := h32
  have hw : x255 own (box.take 32) ≠ List.replicate 32 0 := fun h => h32 (strong_zero.2 h)
  obtain ⟨k, hk⟩ : ∃ k, ikeyL (x255 own (box.take 32)) (box.take 32) pub = k := ⟨_, rfl⟩
  haveI hku : Us .u8 k := by rw [← hk]; infer_instance
  have hkl : k.length = 32 := by rw [← hk]; simp
  refine c_skip (f_next ?_)
  refine c_seq (c_run [.r, .r, .r, .x0, .p, .x0, .p, .r, .x0, .p, .p, .p, .p, .p] [0, 1, 2, 4, 6, 7, 3, 5, 8, 9, 10, 11, 12, 13] (by kernel_rfl) fun hn7 => ?_)
  refine d_r hn7 rfl (p_load_all rfl) ?_
  refine d_r hn7 rfl (p_load_all rfl) ?_
  refine d_r hn7 rfl (p_load_all rfl) ?_
  refine d_p rfl p_move ?_
  refine d_p rfl p_move ?_
  refine d_r hn7 rfl (p_slice_sl_lo (lo := 32) rfl rfl) ?_
  refine d_x0 rfl (e_callp (ikey_ok (x255 own (box.take 32)) (box.take 32) pub (by simp) (by simp; omega) hp) (h := ⟨inferInstance, ?_⟩))
  rw [hk]
  refine d_x0 rfl (e_callp (nonce_ok 2 round) (h := ⟨inferInstance, ?_⟩))
  refine d_x0 rfl (e_callx (sopen2_ok k (nonceL 2 round) (.slice none 0 0) 0 [] (subSl v 1 32 88) (88 - 32) (box.drop 32) hkl (by simp) (by omega) (by omega) (by omega)) (h := fun v43 B43 h43 => ⟨inferInstance, ?_⟩))
  obtain ⟨w43, m43, l43, rfl, rfl, hl43⟩ := h43
  simp only [List.cons_append, List.nil_append]
  refine d_p rfl p_move ?_
  refine d_p rfl (p_ext rfl rfl) ?_
  refine d_p rfl (p_ext rfl rfl) ?_
  refine d_p rfl p_assign ?_
  refine d_p rfl p_assign ?_
  refine d_nil (f_next ?_)
  refine c_seq ?_
  refine c_seq (c_region ?_)
  refine s_p p_move ?_
  refine s_p (p_neq (a := if rightL k (nonceL 2 round) [] (box.drop 32) = 0 then 70 else 0) (b := 0)) ?_
  refine g_nil (f_next ?_)
  refine c_cond_dec rfl (fun h47 => ?_) (fun h47 => ?_)
  · skip
    have hr0 : rightL k (nonceL 2 round) [] (box.drop 32) = 0 := by
      by_cases h : rightL k (nonceL 2 round) [] (box.drop 32) = 0
      · exact h
      · rw [if_neg h] at h47; exact absurd rfl h47
    refine c_seq (c_region ?_)
    refine s_p (p_barr (cells := us .u8 (List.replicate 32 0)) rfl) ?_
    refine s_p p_move ?_
    refine s_x0 (e_store_all rfl rfl rfl (h := ?_))
    refine s_p (p_nat p_assign (b := 70) (by rw [if_pos hr0])) ?_
    refine g_nil (f_next ?_)
    refine c_ret (f_pass_ret ?_)
    exact f_rmt (Or.inl rfl) Tryd.results40 ⟨by rw [openI, if_neg h88, if_neg hw, hk, if_pos hr0], rfl⟩
  have hr0 : rightL k (nonceL 2 round) [] (box.drop 32) ≠ 0 := fun h => by rw [if_pos h] at h47; exact h47 (by decide)
  obtain ⟨rfl, ht⟩ := hl43 hr0
  obtain ⟨t, htt⟩ : ∃ t, textL k (nonceL 2 round) [] (box.drop 32) = t := ⟨_, rfl⟩
  rw [htt] at ht
  obtain rfl := ht
  haveI htu : Us .u8 l43 := by rw [← htt]; infer_instance
  have htl : l43.length = 40 := by rw [← htt]; simp [hl]
  haveI : Ok (32 ≤ 88 - 32 - 16) := ⟨by omega⟩
  haveI : Ok (32 ≤ 88 - 32 - 16 ∧ l43.length = 88 - 32 - 16) := ⟨by omega, htl⟩
  refine c_skip (f_next ?_)
  refine c_seq ?_
  refine c_seq (c_region ?_)
  refine s_p p_move ?_
  refine s_p (p_slice_sl_lo (lo := 32) rfl rfl) ?_
  refine s_x (e_callp (little64_ok (subSl w43 1 32 (88 - 32 - 16)) (l43.drop 32) (by simp [htl])) (h := ?_))
  refine s_p p_move ?_
  refine s_p (p_ext rfl rfl) ?_
  refine s_p (p_ext rfl rfl) ?_
  refine s_p p_assign ?_
  refine s_p p_assign ?_
  refine g_nil (f_next ?_)
  refine c_seq (c_region ?_)
  refine s_p p_move ?_
  refine s_p (p_eq (p_neq (a := 0) (b := 0)) (v' := .bool false) rfl) ?_
  refine s_p p_move ?_
  refine s_v (v_yg p_move) ?_
  refine s_v (v_yg p_move) ?_
  refine s_v (v_yg p_neq) ?_
  refine s_p p_pick_f ?_
  refine g_nil (f_next ?_)
  refine c_cond_dec rfl (fun h62 => ?_) (fun h62 => ?_)
  · skip
    replace h62 : leN (l43.drop 32) ≠ round := h62
    refine c_seq (c_region ?_)
    refine s_p (p_barr (cells := us .u8 (List.replicate 32 0)) rfl) ?_
    refine s_x0 (e_store_all rfl rfl rfl (h := ?_))
    refine s_p (p_assign (v := .int .i64 ((220 : Nat) : Int))) ?_
    refine g_nil (f_next ?_)
    refine c_ret (f_pass_ret ?_)
    exact f_rmt (Or.inl rfl) Tryd.results40 ⟨by rw [openI, if_neg h88, if_neg hw, hk, if_neg hr0, htt, if_pos h62], rfl⟩
  replace h62 : ¬ (leN (l43.drop 32) ≠ round) := h62
  refine c_skip (f_next ?_)
  refine c_seq (c_region ?_)
  refine s_p p_move ?_
  refine s_p (p_slice_sl_hi rfl rfl) ?_
  refine s_p (p_s2a rfl) ?_
  refine s_p (p_load_sls rfl (ps := us .u8 (l43.take 32)) (by simp [us_take, List.take_take]) (by simp [htl])) ?_
  refine s_x0 (e_store_all rfl rfl rfl (by simp [htl]) (by simp) (h := ?_))
  refine s_p (p_assign (v := .int .i64 ((0 : Nat) : Int))) ?_
  refine g_nil (f_next ?_)
  refine c_ret ?_
  exact f_rmt (Or.inl rfl) Tryd.results40 ⟨by rw [openI, if_neg h88, if_neg hw, hk, if_neg hr0, htt, if_neg h62], rfl⟩ (hl := by simp [htl])

theorem iOpen_ok (own : List Nat) (round : Nat) (v : Value) (n : Nat) (box : List Nat) [hou : Us .u8 own] [hbu : Us .u8 box] [hru : Fits round .u64] (ho : own.length = 32) : Fn Tryd.prog 11 [.agg (us .u8 own).toArray, .int .u64 (round : Int), v] [] [rdF v 1 n (us .u8 box), glH, glK] (fun u B' => u = .tuple #[.agg (us .u8 (openI own (baseL own) round box).2).toArray, .int .i64 (((openI own (baseL own) round box).1 : Nat) : Int)] ∧ B' = []) := by
  refine fn_enter Tryd.func11 rfl Tryd.ntmps11 rfl fun w => ?_
  refine c_seq (c_region ?_)
  refine s_x (e_box rfl rfl fun b3 => ?_)
  refine s_x (e_alloc fun b6 => ?_)
  refine s_p (p_assign (v := .int .i64 ((0 : Nat) : Int))) ?_
  refine g_nil (f_next ?_)
  refine c_seq (c_run [.r, .r, .x0, .p, .p, .x0, .p, .p, .x2, .p] [0, 1, 3, 4, 2, 5, 6, 7, 8, 9] (by kernel_rfl) fun hn1 => ?_)
  refine d_r hn1 rfl (p_load_all rfl) ?_
  refine d_r hn1 rfl (p_load_all rfl) ?_
  refine d_p rfl p_move ?_
  refine d_p rfl p_move ?_
  refine d_x0 rfl (e_callp (base_ok own ho) (h := ⟨inferInstance, ?_⟩))
  refine d_x0 rfl (e_callp (iopen_ok own (baseL own) round v n box ho (by simp)) (h := ⟨inferInstance, ?_⟩))
  refine d_p rfl (p_ext rfl rfl) ?_
  refine d_p rfl (p_ext rfl rfl) ?_
  refine d_s2 rfl (e_store_all rfl rfl rfl (by simp) (by simp) (h := ?_))
  refine d_p rfl p_assign ?_
  refine d_nil (f_next ?_)
  refine c_ret ?_
  exact f_rmt (Or.inl rfl) Tryd.results11 ⟨rfl, rfl⟩ (hl := by simp)

end Go.Tw
end

section
namespace Go.Tw
open Go Go.Proofs

/-- What is made for somebody is opened by them, and tells from whom it comes. -/
theorem inv_back {own priv fr : List Nat} {round : Nat} [hou : Us .u8 own] [hpu : Us .u8 priv] [hfu : Us .u8 fr] (ho : own.length = 32) (hp : priv.length = 32) (hf : fr.length = 32) (hr : round < 2 ^ 64) : openI own (baseL own) round (invL priv fr (baseL own) round) = (0, fr) := by
  have hl : (invL priv fr (baseL own) round).length = 88 := invL_length _ _ _ _ hf
  have h1 : (invL priv fr (baseL own) round).take 32 = baseL priv := by
    rw [invL, List.take_append_of_le_length (by simp), List.take_of_length_le (by simp)]
  have h2 : (invL priv fr (baseL own) round).drop 32 = sealL (ikeyL (x255 priv (baseL own)) (baseL priv) (baseL own)) (nonceL 2 round) [] (fr ++ leB 8 round) := by
    rw [invL, List.drop_append, List.drop_of_length_le (by simp), List.nil_append, baseL_length, Nat.sub_self, List.drop_zero]
  have hdh : x255 own (baseL priv) = x255 priv (baseL own) := x255_dh ho hp
  obtain ⟨hright, htext⟩ := open_seal (ikeyL (x255 priv (baseL own)) (baseL priv) (baseL own)) (nonceL 2 round) [] (fr ++ leB 8 round)
  have h3 : (fr ++ leB 8 round).drop 32 = leB 8 round := by rw [List.drop_append, List.drop_of_length_le (by omega), List.nil_append, hf, Nat.sub_self, List.drop_zero]
  have h4 : (fr ++ leB 8 round).take 32 = fr := by rw [List.take_append_of_le_length (by omega), List.take_of_length_le (by omega)]
  have h5 : leN (leB 8 round) = round := by rw [leN_leB]; exact Nat.mod_eq_of_lt hr
  rw [openI, if_neg (by omega), h1, h2, hdh, if_neg (x255_ne hp ho), hright, if_neg (by decide), htext, h3, h4, h5, if_neg (by simp)]
instance : Fits 7 .u64 := ⟨by decide⟩
instance : NoGuard Tryd.prog 23 := ⟨by kernel_rfl⟩
def lk3 : List Nat := 3 :: List.replicate 31 0
def lk45 : List Nat := 4 :: 5 :: List.replicate 30 0
def lk12 : List Nat := 1 :: 2 :: List.replicate 30 0
instance : Us .u8 lk3 := ⟨by decide⟩
instance : Us .u8 lk45 := ⟨by decide⟩
instance : Us .u8 lk12 := ⟨by decide⟩
@[simp] theorem lk3_length : lk3.length = 32 := rfl
@[simp] theorem lk45_length : lk45.length = 32 := rfl
@[simp] theorem lk12_length : lk12.length = 32 := rfl

theorem works22_ok : Fn Tryd.prog 10 [] [] [glH, glK] (fun u B' => u = .bool true ∧ B' = []) := by
  refine fn_enter Tryd.func10 rfl Tryd.ntmps10 rfl fun w => ?_
  refine c_seq (c_region ?_)
  refine s_p p_assign ?_
  refine g_nil (f_next ?_)
  refine c_seq (c_region ?_)
  refine s_p (p_barr (cells := us .u8 lk12) rfl) ?_
  refine s_x (e_alloc fun b1 => ?_)
  refine s_x0 (e_store_all rfl rfl rfl (h := ?_))
  refine g_nil (f_next ?_)
  refine c_seq (c_region ?_)
  refine s_p (p_barr (cells := us .u8 lk3) rfl) ?_
  refine s_p (p_barr (cells := us .u8 lk45) rfl) ?_
  refine s_p (p_load_all rfl) ?_
  refine s_x (e_callp (base_ok lk12 rfl) (h := ?_))
  refine s_x (e_callx (imake_ok lk3 lk45 (baseL lk12) 7 rfl rfl (by simp)) (h := fun v12 B12 h12 => ?_))
  obtain ⟨_, w12, rfl, rfl⟩ := h12.resolve_left (fun h => x255_ne rfl rfl h.1)
  simp only [List.cons_append, List.nil_append]
  refine s_p p_move ?_
  refine s_p (p_ext rfl rfl) ?_
  refine s_p (p_ext rfl rfl) ?_
  refine s_p p_assign ?_
  refine s_p p_assign ?_
  refine g_nil (f_next ?_)
  refine c_seq (c_region ?_)
  refine s_p (p_load_all rfl) ?_
  refine s_p p_move ?_
  refine s_x (e_callp (iOpen_ok lk12 7 w12 88 (invL lk3 lk45 (baseL lk12) 7) rfl) (h := ?_))
  rw [inv_back (own := lk12) rfl rfl rfl (by decide)]
  refine s_p p_move ?_
  refine s_p (p_ext rfl rfl) ?_
  refine s_p (p_ext rfl rfl) ?_
  refine s_x (e_alloc fun b4 => ?_)
  refine s_x0 (e_store_all rfl rfl rfl (h := ?_))
  refine s_p p_assign ?_
  refine g_nil (f_next ?_)
  refine c_seq (c_region ?_)
  refine s_p p_move ?_
  refine s_p (p_eq (p_eql (a := 0) (b := 0)) (v' := .bool true) rfl) ?_
  refine s_p p_move ?_
  refine s_v (v_yg p_move) ?_
  refine s_v (v_yg (p_eq (p_eql (a := 0) (b := 0)) (v' := .bool true) rfl)) ?_
  refine s_p (p_pick_t rfl rfl) ?_
  refine s_p p_move ?_
  refine s_v (v_yg p_move) ?_
  refine s_v (v_yg (p_len rfl)) ?_
  refine s_v (v_yg (p_eq (p_eql (a := 88) (b := 88)) (v' := .bool true) rfl)) ?_
  refine s_p (p_pick_t rfl rfl) ?_
  refine s_p p_move ?_
  refine s_v (v_yg (p_load_all rfl)) ?_
  refine s_v (v_yg (p_barr (cells := us .u8 lk45) rfl)) ?_
  refine s_v (v_yg (p_eq (p_eqarr (l := lk45) (m := lk45)) (v' := .bool true) (by simp))) ?_
  refine s_p (p_pick_t rfl rfl) ?_
  refine s_p p_assign ?_
  refine g_nil (f_next ?_)
  refine c_ret ?_
  exact f_r1 (Or.inl rfl) Tryd.results10 ⟨rfl, rfl⟩

/-- A Sent: a private key, from whom, to whom, the round. -/
def sentC (priv fr to : List Nat) (round : Nat) : List Value := us .u8 priv ++ (us .u8 fr ++ (us .u8 to ++ [.int .u64 (round : Int)]))
section
variable {priv fr to : List Nat} {round : Nat} (hp : priv.length = 32) (hf : fr.length = 32) (ht : to.length = 32)
include hp
theorem sentC_priv : ((sentC priv fr to round).drop 0).take 32 = us .u8 priv := by
  rw [List.drop_zero, sentC, List.take_append_of_le_length (by simp [hp]), List.take_of_length_le (by simp [hp])]
include hf
theorem sentC_from : ((sentC priv fr to round).drop 32).take 32 = us .u8 fr := by
  rw [sentC, List.drop_append, List.drop_of_length_le (by simp [hp]), List.nil_append, us_length, hp, Nat.sub_self, List.drop_zero, List.take_append_of_le_length (by simp [hf]), List.take_of_length_le (by simp [hf])]
include ht
theorem sentC_round : (sentC priv fr to round)[96]? = some (.int .u64 (round : Int)) := by
  rw [sentC, List.getElem?_append_right (by simp [hp]), List.getElem?_append_right (by simp [hp, hf]), List.getElem?_append_right (by simp [hp, hf, ht])]
  simp [hp, hf, ht]
end

theorem inviteBack_ok (own priv fr to : List Nat) (round : Nat) [hou : Us .u8 own] [hpu : Us .u8 priv] [hfu : Us .u8 fr] [hru : Fits round .u64] (ho : own.length = 32) (hp : priv.length = 32) (hf : fr.length = 32) (ht : to.length = 32) : Fn Tryd.prog 3 [.agg (us .u8 own).toArray, .agg (sentC priv fr to round).toArray] [] [glH, glK] (fun u B' => u = .bool true ∧ B' = []) := by
  refine fn_enter Tryd.func3 rfl Tryd.ntmps3 rfl fun w => ?_
  refine c_seq (c_region ?_)
  refine s_x (e_box rfl rfl fun b2 => ?_)
  refine s_x (e_box rfl rfl fun b3 => ?_)
  refine s_p p_assign ?_
  refine g_nil (f_next ?_)
  refine c_seq (c_region ?_)
  refine s_p (p_load_all rfl) ?_
  refine s_x (e_callp (base_ok own ho) (h := ?_))
  refine s_x (e_alloc fun b5 => ?_)
  refine s_x0 (e_store_all rfl rfl rfl (h := ?_))
  refine g_nil (f_next ?_)
  refine c_seq (c_region ?_)
  refine s_p p_field0 ?_
  refine s_p (p_load_part rfl (sentC_priv hp)) ?_
  refine s_p p_field0 ?_
  refine s_p (p_load_part rfl (sentC_from hp hf)) ?_
  refine s_p (p_load_all rfl) ?_
  refine s_p p_field0 ?_
  refine s_p (p_load_one rfl (sentC_round hp hf ht)) ?_
  refine s_x (e_callx (imake_ok priv fr (baseL own) round hp hf (by simp)) (h := fun v20 B20 h20 => ?_))
  obtain ⟨_, w20, rfl, rfl⟩ := h20.resolve_left (fun h => x255_ne hp ho h.1)
  simp only [List.cons_append, List.nil_append]
  refine s_p p_move ?_
  refine s_p (p_ext rfl rfl) ?_
  refine s_p (p_ext rfl rfl) ?_
  refine s_p p_assign ?_
  refine s_p p_assign ?_
  refine g_nil (f_next ?_)
  refine c_seq ?_
  refine c_seq (c_region ?_)
  refine s_p p_move ?_
  refine s_p (p_eql (a := 0) (b := 90)) ?_
  refine g_nil (f_next ?_)
  refine c_cond_no rfl (by decide) ?_
  refine c_skip (f_next ?_)
  refine c_seq (c_region ?_)
  refine s_p (p_load_all rfl) ?_
  refine s_p p_field0 ?_
  refine s_p (p_load_one rfl (sentC_round hp hf ht)) ?_
  refine s_p p_move ?_
  refine s_x (e_callp (iOpen_ok own round w20 88 (invL priv fr (baseL own) round) ho) (h := ?_))
  rw [inv_back ho hp hf hru.lt]
  refine s_p p_move ?_
  refine s_p (p_ext rfl rfl) ?_
  refine s_p (p_ext rfl rfl) ?_
  refine s_x (e_alloc fun b8 => ?_)
  refine s_x0 (e_store_all rfl rfl rfl (by simp [hf]) (by simp) (h := ?_))
  refine s_p p_assign ?_
  refine g_nil (f_next ?_)
  refine c_seq (c_region ?_)
  refine s_p p_move ?_
  refine s_p (p_eq (p_eql (a := 0) (b := 0)) (v' := .bool true) rfl) ?_
  refine s_p p_move ?_
  refine s_v (v_yg p_move) ?_
  refine s_v (v_yg (p_eq (p_eql (a := 0) (b := 0)) (v' := .bool true) rfl)) ?_
  refine s_p (p_pick_t rfl rfl) ?_
  refine s_p p_move ?_
  refine s_v (v_yg p_move) ?_
  refine s_v (v_yg (p_len rfl)) ?_
  refine s_v (v_yg (p_eq (p_eql (a := 88) (b := 88)) (v' := .bool true) rfl)) ?_
  refine s_p (p_pick_t rfl rfl) ?_
  refine s_p p_move ?_
  refine s_v (v_yg (p_load_all rfl)) ?_
  refine s_v (v_yg p_field0) ?_
  refine s_v (v_yg (p_load_part rfl (sentC_from hp hf))) ?_
  refine s_v (v_yg (p_eq (p_eqarr (l := fr) (m := fr)) (v' := .bool true) (by simp))) ?_
  refine s_p (p_pick_t rfl rfl) ?_
  refine s_p p_move ?_
  refine s_xyg (e_callp works22_ok (h := ?_))
  refine s_p (p_pick_t rfl rfl) ?_
  refine s_p p_assign ?_
  refine g_nil (f_next ?_)
  refine c_ret ?_
  exact f_r1 (Or.inl rfl) Tryd.results3 ⟨rfl, rfl⟩

end Go.Tw
end

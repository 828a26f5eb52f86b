/- Walks through functions that the statement reaches: what each computes. -/
import Derived.Test.YtbfebdaghcogfaaDoorTwWk
import Derived.Test.YtbfebdaghcogfaaDoorTwMore
section
namespace Go.Tw
open Go Go.Proofs

instance : Fits 248 .u8 := ⟨by decide⟩
instance : Fits 121665 .u32 := ⟨by decide⟩
instance : Fits 127 .u8 := ⟨by decide⟩
instance : Fits 64 .u8 := ⟨by decide⟩
theorem ladI_x2 {z n : List Nat} {j : Nat} : (ladI z n (j + 1)).x2 = fMul (ladAA n j (ladI z n j)) (ladBB n j (ladI z n j)) := ladS_x2
theorem ladI_z2 {z n : List Nat} {j : Nat} : (ladI z n (j + 1)).z2 = fMul (ladE n j (ladI z n j)) (fAdd (ladAA n j (ladI z n j)) (fMul (ladE n j (ladI z n j)) (fSmall 121665))) := ladS_z2
theorem ladI_x3 {z n : List Nat} {j : Nat} : (ladI z n (j + 1)).x3 = fMul (fAdd (ladDA n j (ladI z n j)) (ladCB n j (ladI z n j))) (fAdd (ladDA n j (ladI z n j)) (ladCB n j (ladI z n j))) := ladS_x3
theorem ladI_z3 {z n : List Nat} {j : Nat} : (ladI z n (j + 1)).z3 = fMul z (fMul (fSub (ladDA n j (ladI z n j)) (ladCB n j (ladI z n j))) (fSub (ladDA n j (ladI z n j)) (ladCB n j (ladI z n j)))) := ladS_z3
theorem ladI_last {z n : List Nat} {j : Nat} : (ladI z n (j + 1)).last = lbit n j := ladS_last
instance {n : List Nat} {j : Nat} {s : LSt} : Fits (lmask n j s) .u64 := by unfold lmask; infer_instance
instance ladA_el {n : List Nat} {j : Nat} {s : LSt} [h1 : El s.x2] [h2 : El s.x3] : El (ladA n j s) := by unfold ladA; exact fAdd_el
instance ladB_el {n : List Nat} {j : Nat} {s : LSt} [h1 : El s.x2] [h2 : El s.x3] : El (ladB n j s) := by unfold ladB; exact fSub_el
instance {s : LSt} : El (ladX s) := fMul_el

theorem clamp_ok (k : List Nat) [Us .u8 k] (hk : k.length = 32) : Fn Tryd.prog 29 [.agg (us .u8 k).toArray] [] [] (fun u B' => u = .agg (us .u8 (clampL k)).toArray ∧ B' = []) := by
  refine fn_enter Tryd.func29 rfl Tryd.ntmps29 rfl fun w => ?_
  refine c_seq (c_region ?_)
  refine s_x (e_box rfl rfl fun b1 => ?_)
  refine s_x (e_alloc fun b2 => ?_)
  refine g_nil (f_next ?_)
  refine c_seq (c_region ?_)
  refine s_p p_ix_arr0 ?_
  refine s_p (p_load_u rfl) ?_
  refine s_p (p_andu (b := 248)) ?_
  refine s_p p_ix_arr0 ?_
  refine s_x0 (e_store_u rfl rfl (h := ?_))
  refine g_nil (f_next ?_)
  refine c_seq (c_region ?_)
  refine s_p p_ix_arr0 ?_
  refine s_p (p_load_u rfl) ?_
  refine s_p (p_andu (b := 127)) ?_
  refine s_p (p_oru (b := 64)) ?_
  refine s_p p_ix_arr0 ?_
  refine s_x0 (e_store_u rfl rfl (l' := clampL k) (h := ?_))
  refine g_nil (f_next ?_)
  refine c_seq (c_region ?_)
  refine s_p (p_load_all rfl) ?_
  refine s_x0 (e_store_all rfl rfl rfl (h := ?_))
  refine g_nil (f_next ?_)
  refine c_ret ?_
  exact f_rm (Or.inl rfl) Tryd.results29 ⟨rfl, rfl⟩

theorem lmul_ok (k v : List Nat) [hku : Us .u8 k] [hvu : Us .u8 v] (hk : k.length = 32) (hv : v.length = 32) : Fn Tryd.prog 9 [.agg (us .u8 k).toArray, .agg (us .u8 v).toArray] [] [] (fun u B' => u = .agg (us .u8 (x255 k v)).toArray ∧ B' = []) := by
  refine fn_enter Tryd.func9 rfl Tryd.ntmps9 rfl fun w => ?_
  obtain ⟨n, hn⟩ : ∃ n, clampL k = n := ⟨_, rfl⟩
  haveI hnu : Us .u8 n := by rw [← hn]; infer_instance
  have hnl : n.length = 32 := by rw [← hn]; simp [hk]
  obtain ⟨z, hz⟩ : ∃ z, fOf v = z := ⟨_, rfl⟩
  haveI hze : El z := by rw [← hz]; infer_instance
  have hfin : fBytes (ladX (ladI z n 255)) = x255 k v := by rw [← hn, ← hz]; exact x255_eq hk hv
  refine c_seq (c_region ?_)
  refine s_x (e_box rfl rfl fun b2 => ?_)
  refine s_x (e_box rfl rfl fun b3 => ?_)
  refine s_x (e_alloc fun b4 => ?_)
  refine g_nil (f_next ?_)
  refine c_seq (c_region ?_)
  refine s_p (p_load_all rfl) ?_
  refine s_x (e_callp (clamp_ok _ hk) (h := ?_))
  rw [hn]
  refine s_x (e_alloc fun b5 => ?_)
  refine s_x0 (e_store_all rfl rfl rfl (h := ?_))
  refine g_nil (f_next ?_)
  refine c_seq (c_region ?_)
  refine s_p (p_load_all rfl) ?_
  refine s_x (e_callp (fof_ok _ hv) (h := ?_))
  rw [hz]
  refine s_x (e_alloc fun b6 => ?_)
  refine s_x0 (e_store_all rfl rfl rfl (h := ?_))
  refine g_nil (f_next ?_)
  refine c_seq (c_region ?_)
  refine s_x (e_callp (fsmall_ok _) (h := ?_))
  refine s_x (e_callp (fsmall_ok _) (h := ?_))
  refine s_x (e_alloc fun b7 => ?_)
  refine s_x (e_alloc fun b8 => ?_)
  refine s_x0 (e_store_all rfl rfl rfl (h := ?_))
  refine s_x0 (e_store_all rfl rfl rfl (h := ?_))
  refine g_nil (f_next ?_)
  refine c_seq (c_run [.r, .x0, .alc 77 (us .u64 (List.replicate 5 0)), .alc 77 (us .u64 (List.replicate 5 0)), .x2, .x2] [0, 1, 2, 3, 4, 5] (by kernel_rfl) fun hn4 => ?_)
  refine d_r hn4 rfl (p_load_all rfl) ?_
  refine d_x0 rfl (e_callp (fsmall_ok _) (h := ⟨inferInstance, ?_⟩))
  refine d_a rfl fun b9 hb9 => ?_
  refine d_a rfl fun b10 hb10 => ?_
  refine d_s2 rfl (e_store_all rfl rfl rfl (h := ?_))
  refine d_s2 rfl (e_store_all rfl rfl rfl (h := ?_))
  refine d_nil (f_next ?_)
  refine c_seq (c_region ?_)
  refine s_p (p_assign (v := .int .u64 ((0 : Nat) : Int))) ?_
  refine g_nil (f_next ?_)
  refine c_seq ?_
  refine c_seq (c_region ?_)
  refine s_p (p_ie (p_assign (v := .int .i64 ((254 : Nat) : Int))) (b := (254 : Int) - ((0 : Nat) : Int)) (by decide)) ?_
  refine g_own (B2 := [.blk b10 (.cells (us .u64 (ladI z n 0).z3).toArray 77 (0, 0)), .blk b9 (.cells (us .u64 (ladI z n 0).x3).toArray 77 (0, 0)), .blk b8 (.cells (us .u64 (ladI z n 0).z2).toArray 77 (0, 0)), .blk b7 (.cells (us .u64 (ladI z n 0).x2).toArray 77 (0, 0)), .blk b6 (.cells (us .u64 z).toArray 77 (0, 0)), .blk b5 (.cells (us .u8 n).toArray 23 (0, 0)), .blk b4 (.cells (us .u8 (List.replicate 32 0)).toArray 23 (0, 0)), .blk b3 (.cells (us .u8 v).toArray 23 (0, 0)), .blk b2 (.cells (us .u8 k).toArray 23 (0, 0))]) rfl ?_
  refine g_nil (f_next ?_)
  refine c_block ?_
  refine c_lp (X := Nat) (fun x => 255 - x) (fun c x => x ≤ 255) (fun x => [(12, .int .i64 ((254 : Int) - (x : Int))), (11, .int .u64 (((ladI z n x).last : Nat) : Int))]) [(4, _), (5, _), (6, _), (7, _), (8, _), (9, _), (10, _)] (fun x => [.blk b10 (.cells (us .u64 (ladI z n x).z3).toArray 77 (0, 0)), .blk b9 (.cells (us .u64 (ladI z n x).x3).toArray 77 (0, 0)), .blk b8 (.cells (us .u64 (ladI z n x).z2).toArray 77 (0, 0)), .blk b7 (.cells (us .u64 (ladI z n x).x2).toArray 77 (0, 0)), .blk b6 (.cells (us .u64 z).toArray 77 (0, 0)), .blk b5 (.cells (us .u8 n).toArray 23 (0, 0)), .blk b4 (.cells (us .u8 (List.replicate 32 0)).toArray 23 (0, 0))]) 0 (by first | omega | trivial) ⟨rfl, rfl, rfl, rfl, rfl, rfl, rfl, trivial⟩ (hr := fun x hx => ?_)
  refine c_seq ?_
  refine c_seq (c_region ?_)
  refine s_p p_move ?_
  refine s_p (p_geqi (b := 0)) ?_
  refine g_nil (f_next ?_)
  refine c_cond_dec rfl (fun h31 => ?_) (fun h31 => ?_)
  · skip
    have hx8 : x < 255 := by have := of_decide_eq_true (show decide ((0 : Int) ≤ 254 - (x : Int)) = true by simpa using h31); omega
    refine c_skip (f_next ?_)
    refine c_seq ?_
    refine c_block ?_
    refine c_seq (c_region ?_)
    refine s_p (p_ie p_move (b := ((254 - x : Nat) : Int)) (by omega)) ?_
    refine s_p (p_quon (b := 8)) ?_
    refine s_p p_ix_arr0 ?_
    refine s_p (p_load_u rfl) ?_
    refine s_p (p_ie p_move (b := ((254 - x : Nat) : Int)) (by omega)) ?_
    refine s_p (p_remn (b := 8)) ?_
    refine s_p p_shru ?_
    refine s_p p_convw ?_
    refine s_p (p_andu (b := 1)) ?_
    refine s_p (p_nat p_assign (b := lbit n x) rfl) ?_
    refine g_nil (f_next ?_)
    refine c_seq (c_region ?_)
    refine s_p p_move ?_
    refine s_p p_move ?_
    refine s_p p_xoru ?_
    refine s_p p_negu ?_
    refine s_p (p_nat p_assign (b := lmask n x (ladI z n x)) rfl) ?_
    refine g_nil (f_next ?_)
    refine c_seq (c_region ?_)
    refine s_p p_move ?_
    refine s_p (p_load_all rfl) ?_
    refine s_p (p_load_all rfl) ?_
    refine s_x (e_callp (fswap_ok (lmask n x (ladI z n x)) (ladI z n x).x2 (ladI z n x).x3) (h := ?_))
    refine s_p p_move ?_
    refine s_p (p_ext rfl rfl) ?_
    refine s_p (p_ext rfl rfl) ?_
    refine s_x0 (e_store_all rfl rfl rfl (h := ?_))
    refine s_x0 (e_store_all rfl rfl rfl (h := ?_))
    refine g_nil (f_next ?_)
    refine c_seq (c_region ?_)
    refine s_p p_move ?_
    refine s_p (p_load_all rfl) ?_
    refine s_p (p_load_all rfl) ?_
    refine s_x (e_callp (fswap_ok (lmask n x (ladI z n x)) (ladI z n x).z2 (ladI z n x).z3) (h := ?_))
    refine s_p p_move ?_
    refine s_p (p_ext rfl rfl) ?_
    refine s_p (p_ext rfl rfl) ?_
    refine s_x0 (e_store_all rfl rfl rfl (h := ?_))
    refine s_x0 (e_store_all rfl rfl rfl (h := ?_))
    refine g_nil (f_next ?_)
    refine c_seq (c_region ?_)
    refine s_p p_move ?_
    refine s_p p_assign ?_
    refine g_nil (f_next ?_)
    refine c_seq (c_run [.r, .r, .x0, .r, .r, .x0, .alc 77 (us .u64 (List.replicate 5 0)), .alc 77 (us .u64 (List.replicate 5 0)), .x2, .x2] [0, 1, 3, 4, 2, 5, 6, 7, 8, 9] (by kernel_rfl) fun hn14 => ?_)
    refine d_r hn14 rfl (p_load_all rfl) ?_
    refine d_r hn14 rfl (p_load_all rfl) ?_
    refine d_r hn14 rfl (p_load_all rfl) ?_
    refine d_r hn14 rfl (p_load_all rfl) ?_
    refine d_x0 rfl (e_callp (v := .agg (us .u64 (ladA n x (ladI z n x))).toArray) (fadd_ok _ _) (h := ⟨inferInstance, ?_⟩))
    refine d_x0 rfl (e_callp (v := .agg (us .u64 (ladB n x (ladI z n x))).toArray) (fsub_ok _ _) (h := ⟨inferInstance, ?_⟩))
    refine d_a rfl fun b15 hb15 => ?_
    refine d_a rfl fun b16 hb16 => ?_
    refine d_s2 rfl (e_store_all rfl rfl rfl (h := ?_))
    refine d_s2 rfl (e_store_all rfl rfl rfl (h := ?_))
    refine d_nil (f_next ?_)
    refine c_seq (c_run [.r, .x0, .r, .x0, .alc 77 (us .u64 (List.replicate 5 0)), .alc 77 (us .u64 (List.replicate 5 0)), .x2, .x2] [0, 2, 1, 3, 4, 5, 6, 7] (by kernel_rfl) fun hn15 => ?_)
    refine d_r hn15 rfl (p_load_all rfl) ?_
    refine d_r hn15 rfl (p_load_all rfl) ?_
    refine d_x0 rfl (e_callp (v := .agg (us .u64 (ladAA n x (ladI z n x))).toArray) (fsq_ok _) (h := ⟨inferInstance, ?_⟩))
    refine d_x0 rfl (e_callp (v := .agg (us .u64 (ladBB n x (ladI z n x))).toArray) (fsq_ok _) (h := ⟨inferInstance, ?_⟩))
    refine d_a rfl fun b17 hb17 => ?_
    refine d_a rfl fun b18 hb18 => ?_
    refine d_s2 rfl (e_store_all rfl rfl rfl (h := ?_))
    refine d_s2 rfl (e_store_all rfl rfl rfl (h := ?_))
    refine d_nil (f_next ?_)
    refine c_seq (c_run [.r, .r, .x0, .r, .x0, .r, .r, .x0, .r, .x0, .alc 77 (us .u64 (List.replicate 5 0)), .alc 77 (us .u64 (List.replicate 5 0)), .x2, .x2] [0, 1, 3, 5, 6, 8, 2, 4, 7, 9, 10, 11, 12, 13] (by kernel_rfl) fun hn16 => ?_)
    refine d_r hn16 rfl (p_load_all rfl) ?_
    refine d_r hn16 rfl (p_load_all rfl) ?_
    refine d_r hn16 rfl (p_load_all rfl) ?_
    refine d_r hn16 rfl (p_load_all rfl) ?_
    refine d_r hn16 rfl (p_load_all rfl) ?_
    refine d_r hn16 rfl (p_load_all rfl) ?_
    refine d_x0 rfl (e_callp (fsub_ok _ _) (h := ⟨inferInstance, ?_⟩))
    refine d_x0 rfl (e_callp (v := .agg (us .u64 (ladDA n x (ladI z n x))).toArray) (fmul_ok _ _) (h := ⟨inferInstance, ?_⟩))
    refine d_x0 rfl (e_callp (fadd_ok _ _) (h := ⟨inferInstance, ?_⟩))
    refine d_x0 rfl (e_callp (v := .agg (us .u64 (ladCB n x (ladI z n x))).toArray) (fmul_ok _ _) (h := ⟨inferInstance, ?_⟩))
    refine d_a rfl fun b19 hb19 => ?_
    refine d_a rfl fun b20 hb20 => ?_
    refine d_s2 rfl (e_store_all rfl rfl rfl (h := ?_))
    refine d_s2 rfl (e_store_all rfl rfl rfl (h := ?_))
    refine d_nil (f_next ?_)
    refine c_seq (c_region ?_)
    refine s_p (p_load_all rfl) ?_
    refine s_p (p_load_all rfl) ?_
    refine s_x (e_callp (v := .agg (us .u64 (ladE n x (ladI z n x))).toArray) (fsub_ok _ _) (h := ?_))
    refine s_x (e_alloc fun b21 => ?_)
    refine s_x0 (e_store_all rfl rfl rfl (h := ?_))
    refine g_nil (f_next ?_)
    refine c_seq (c_region ?_)
    refine s_p (p_load_all rfl) ?_
    refine s_p (p_load_all rfl) ?_
    refine s_x (e_callp (fadd_ok _ _) (h := ?_))
    refine s_x (e_callp (fsq_ok _) (h := ?_))
    rw [← ladI_x3]
    refine s_x0 (e_store_all rfl rfl rfl (h := ?_))
    refine g_nil (f_next ?_)
    refine c_seq (c_run [.r, .r, .r, .x0, .x0, .x0, .x2] [0, 1, 2, 3, 4, 5, 6] (by kernel_rfl) fun hn19 => ?_)
    refine d_r hn19 rfl (p_load_all rfl) ?_
    refine d_r hn19 rfl (p_load_all rfl) ?_
    refine d_r hn19 rfl (p_load_all rfl) ?_
    refine d_x0 rfl (e_callp (fsub_ok _ _) (h := ⟨inferInstance, ?_⟩))
    refine d_x0 rfl (e_callp (fsq_ok _) (h := ⟨inferInstance, ?_⟩))
    refine d_x0 rfl (e_callp (fmul_ok _ _) (h := ⟨inferInstance, ?_⟩))
    rw [← ladI_z3]
    refine d_s2 rfl (e_store_all rfl rfl rfl (h := ?_))
    refine d_nil (f_next ?_)
    refine c_seq (c_region ?_)
    refine s_p (p_load_all rfl) ?_
    refine s_p (p_load_all rfl) ?_
    refine s_x (e_callp (fmul_ok _ _) (h := ?_))
    rw [← ladI_x2]
    refine s_x0 (e_store_all rfl rfl rfl (h := ?_))
    refine g_nil (f_next ?_)
    refine (c_run [.r, .r, .r, .x0, .x0, .x0, .x2] [0, 1, 2, 3, 4, 5, 6] (by kernel_rfl) fun hn21 => ?_)
    refine d_r hn21 rfl (p_load_all rfl) ?_
    refine d_r hn21 rfl (p_load_all rfl) ?_
    refine d_r hn21 rfl (p_load_all rfl) ?_
    refine d_x0 rfl (e_callp (ftimes_ok _ 121665) (h := ⟨inferInstance, ?_⟩))
    refine d_x0 rfl (e_callp (fadd_ok _ _) (h := ⟨inferInstance, ?_⟩))
    refine d_x0 rfl (e_callp (fmul_ok _ _) (h := ⟨inferInstance, ?_⟩))
    rw [← ladI_z2]
    refine d_s2 rfl (e_store_all rfl rfl rfl (h := ?_))
    refine d_nil (f_block_normal (f_next ?_))
    refine c_region ?_
    refine s_p p_move ?_
    refine s_p (p_ie (p_subi (b := 1) rfl rfl (by omega) (by omega)) (b := (254 : Int) - ((x + 1 : Nat) : Int)) (by omega)) ?_
    refine s_p p_assign ?_
    rw [← ladI_last (z := z)]
    refine g_nil ?_
    exact f_rd (x + 1)
  refine c_exit (f_pass_exit (f_pass_exit (f_block_exit (f_next ?_))))
  obtain rfl : x = 255 := by omega
  refine c_seq (c_region ?_)
  refine s_p p_move ?_
  refine s_p p_negu ?_
  refine s_p (p_load_all rfl) ?_
  refine s_p (p_load_all rfl) ?_
  refine s_x (e_callp (fswap_ok (lneg (ladI z n 255).last) (ladI z n 255).x2 (ladI z n 255).x3) (h := ?_))
  refine s_p p_move ?_
  refine s_p (p_ext rfl rfl) ?_
  refine s_p (p_ext rfl rfl) ?_
  refine s_x0 (e_store_all rfl rfl rfl (h := ?_))
  refine g_nil (f_next ?_)
  refine c_seq (c_region ?_)
  refine s_p p_move ?_
  refine s_p p_negu ?_
  refine s_p (p_load_all rfl) ?_
  refine s_p (p_load_all rfl) ?_
  refine s_x (e_callp (fswap_ok (lneg (ladI z n 255).last) (ladI z n 255).z2 (ladI z n 255).z3) (h := ?_))
  refine s_p p_move ?_
  refine s_p (p_ext rfl rfl) ?_
  refine s_p (p_ext rfl rfl) ?_
  refine s_x0 (e_store_all rfl rfl rfl (h := ?_))
  refine g_nil (f_next ?_)
  refine c_seq (c_run [.r, .r, .x0, .x0, .x0, .x2] [0, 1, 2, 3, 4, 5] (by kernel_rfl) fun hn24 => ?_)
  refine d_r hn24 rfl (p_load_all rfl) ?_
  refine d_r hn24 rfl (p_load_all rfl) ?_
  refine d_x0 rfl (e_callp (finv_ok _) (h := ⟨inferInstance, ?_⟩))
  refine d_x0 rfl (e_callp (v := .agg (us .u64 (ladX (ladI z n 255))).toArray) (fmul_ok _ _) (h := ⟨inferInstance, ?_⟩))
  refine d_x0 rfl (e_callp (fbytes_ok _) (h := ⟨inferInstance, ?_⟩))
  rw [hfin]
  refine d_s2 rfl (e_store_all rfl rfl rfl (h := ?_))
  refine d_nil (f_next ?_)
  refine c_ret ?_
  exact f_rm (Or.inl rfl) Tryd.results9 ⟨rfl, rfl⟩ (hl := by simp)

theorem base_ok (k : List Nat) [hku : Us .u8 k] (hk : k.length = 32) : Fn Tryd.prog 7 [.agg (us .u8 k).toArray] [] [] (fun u B' => u = .agg (us .u8 (baseL k)).toArray ∧ B' = []) := by
  refine fn_enter Tryd.func7 rfl Tryd.ntmps7 rfl fun w => ?_
  refine c_seq (c_region ?_)
  refine s_x (e_box rfl rfl fun b1 => ?_)
  refine s_x (e_alloc fun b2 => ?_)
  refine g_nil (f_next ?_)
  refine c_seq (c_region ?_)
  refine s_p (p_load_all rfl) ?_
  refine s_p (p_barr (cells := us .u8 nineL) rfl) ?_
  refine s_x (e_callp (v := .agg (us .u8 (baseL k)).toArray) (lmul_ok _ _ hk (by simp)) (h := ?_))
  refine s_x0 (e_store_all rfl rfl rfl (h := ?_))
  refine g_nil (f_next ?_)
  refine c_ret ?_
  exact f_rm (Or.inl rfl) Tryd.results7 ⟨rfl, rfl⟩ (hl := by simp)

theorem agree_ok (k v : List Nat) [hku : Us .u8 k] [hvu : Us .u8 v] (hk : k.length = 32) (hv : v.length = 32) : Fn Tryd.prog 24 [.agg (us .u8 k).toArray, .agg (us .u8 v).toArray] [] [] (fun u B' => u = .tuple #[.agg (us .u8 (x255 k v)).toArray, .int .u64 ((strong (x255 k v) : Nat) : Int)] ∧ B' = []) := by
  refine fn_enter Tryd.func24 rfl Tryd.ntmps24 rfl fun w => ?_
  obtain ⟨z, hz⟩ : ∃ z, x255 k v = z := ⟨_, rfl⟩
  haveI hzu : Us .u8 z := by rw [← hz]; infer_instance
  have hzl : z.length = 32 := by rw [← hz]; simp
  rw [hz]
  refine c_seq (c_region ?_)
  refine s_x (e_box rfl rfl fun b2 => ?_)
  refine s_x (e_box rfl rfl fun b3 => ?_)
  refine s_x (e_alloc fun b4 => ?_)
  refine s_p (p_assign (v := .int .u64 ((0 : Nat) : Int))) ?_
  refine g_nil (f_next ?_)
  refine c_seq (c_region ?_)
  refine s_p (p_load_all rfl) ?_
  refine s_p (p_load_all rfl) ?_
  refine s_x (e_callp (lmul_ok _ _ hk hv) (h := ?_))
  rw [hz]
  refine s_x (e_alloc fun b6 => ?_)
  refine s_x0 (e_store_all rfl rfl rfl (h := ?_))
  refine g_nil (f_next ?_)
  refine c_seq (c_region ?_)
  refine s_p (p_nat p_assign (a := 0) (b := orI z 0) rfl) ?_
  refine g_nil (f_next ?_)
  refine c_seq ?_
  refine c_seq (c_region ?_)
  refine s_p (p_load_all rfl) ?_
  refine s_p (p_move (v := .int .i64 ((0 : Nat) : Int))) ?_
  refine g_nil (f_next ?_)
  refine c_block ?_
  refine c_lp (X := Nat) (fun x => 32 - x) (fun c x => x ≤ 32) (fun x => [(14, .int .i64 (x : Int)), (7, .int .u64 ((orI z x : Nat) : Int))]) [(4, _), (6, _), (13, _)] (fun x => [.blk b6 (.cells (us .u8 z).toArray 23 (0, 0)), .blk b4 (.cells (us .u8 (List.replicate 32 0)).toArray 23 (0, 0))]) 0 (by first | omega | trivial) ⟨rfl, rfl, rfl, trivial⟩ (hr := fun x hx => ?_)
  refine c_seq (c_region ?_)
  refine s_p (p_lss (b := 32)) ?_
  refine g_nil (f_next ?_)
  refine c_seq ?_
  refine c_cond_dec rfl (fun h15 => ?_) (fun h15 => ?_)
  · skip
    replace h15 : _ < 32 := h15
    refine c_skip (f_next ?_)
    refine c_seq ?_
    refine c_block ?_
    refine c_seq (c_region ?_)
    refine s_p (p_index rfl rfl (by omega) (us_get (by omega))) ?_
    refine s_p p_assign ?_
    refine g_nil (f_next ?_)
    refine c_region ?_
    refine s_p p_move ?_
    refine s_p p_move ?_
    refine s_p p_convw ?_
    refine s_p p_oru ?_
    refine s_p p_assign ?_
    refine g_nil (f_block_normal (f_next ?_))
    refine c_region ?_
    refine s_p (p_addn (b := 1)) ?_
    refine s_p p_move ?_
    refine g_nil ?_
    exact f_rd (x + 1)
  replace h15 : ¬ (_ < 32) := h15
  refine c_exit (f_pass_exit (f_pass_exit (f_block_exit (f_next ?_))))
  obtain rfl : x = 32 := by omega
  refine c_seq (c_region ?_)
  refine s_p (p_load_all rfl) ?_
  refine s_p p_move ?_
  refine s_p (p_addu (b := 255)) ?_
  refine s_p (p_shru (b := 8)) ?_
  refine s_p (p_nat p_negu (b := strong z) (strong_eq hzl)) ?_
  refine s_x0 (e_store_all rfl rfl rfl (h := ?_))
  refine s_p p_assign ?_
  refine g_nil (f_next ?_)
  refine c_ret ?_
  exact f_rmt (Or.inl rfl) Tryd.results24 ⟨rfl, rfl⟩

end Go.Tw
end

section
namespace Go.Tw
open Go Go.Proofs

def qA (a b _c _d : Nat) : Nat := (a + b) % 2 ^ IntKind.u32.bits
def qD (a b c d : Nat) : Nat := rotl (d ^^^ qA a b c d) 16
def qC (a b c d : Nat) : Nat := (c + qD a b c d) % 2 ^ IntKind.u32.bits
def qB (a b c d : Nat) : Nat := rotl (b ^^^ qC a b c d) 12
instance {a b c d : Nat} : Fits (qA a b c d) .u32 := by unfold qA; infer_instance
instance {a b c d : Nat} [Fits d .u32] : Fits (qD a b c d) .u32 := by unfold qD; infer_instance
instance {a b c d : Nat} : Fits (qC a b c d) .u32 := by unfold qC; infer_instance
instance {a b c d : Nat} [Fits b .u32] : Fits (qB a b c d) .u32 := by unfold qB; infer_instance
def qA2 (a b c d : Nat) : Nat := (qA a b c d + qB a b c d) % 2 ^ IntKind.u32.bits
def qD2 (a b c d : Nat) : Nat := rotl (qD a b c d ^^^ qA2 a b c d) 8
def qC2 (a b c d : Nat) : Nat := (qC a b c d + qD2 a b c d) % 2 ^ IntKind.u32.bits
def qB2 (a b c d : Nat) : Nat := rotl (qB a b c d ^^^ qC2 a b c d) 7
instance {a b c d : Nat} : Fits (qA2 a b c d) .u32 := by unfold qA2; infer_instance
instance {a b c d : Nat} [Fits d .u32] : Fits (qD2 a b c d) .u32 := by unfold qD2; infer_instance
instance {a b c d : Nat} : Fits (qC2 a b c d) .u32 := by unfold qC2; infer_instance
instance {a b c d : Nat} [Fits b .u32] : Fits (qB2 a b c d) .u32 := by unfold qB2; infer_instance

theorem quarter_ok (a b c d : Nat) [Fits a .u32] [Fits b .u32] [Fits c .u32] [Fits d .u32] : Fn Tryd.prog 102 [.int .u32 (a : Int), .int .u32 (b : Int), .int .u32 (c : Int), .int .u32 (d : Int)] [] [] (fun u B' => u = .tuple #[.int .u32 ((qA2 a b c d : Nat) : Int), .int .u32 ((qB2 a b c d : Nat) : Int), .int .u32 ((qC2 a b c d : Nat) : Int), .int .u32 ((qD2 a b c d : Nat) : Int)] ∧ B' = []) := by
  refine fn_enter Tryd.func102 rfl Tryd.ntmps102 rfl fun w => ?_
  refine c_seq (c_region ?_)
  refine s_p (p_assign (v := .int .u32 ((0 : Nat) : Int))) ?_
  refine s_p (p_assign (v := .int .u32 ((0 : Nat) : Int))) ?_
  refine s_p (p_assign (v := .int .u32 ((0 : Nat) : Int))) ?_
  refine s_p (p_assign (v := .int .u32 ((0 : Nat) : Int))) ?_
  refine g_nil (f_next ?_)
  refine c_seq (c_region ?_)
  refine s_p p_move ?_
  refine s_p p_move ?_
  refine s_p p_addu ?_
  refine s_p (p_nat p_assign (b := qA a b c d) rfl) ?_
  refine g_nil (f_next ?_)
  refine c_seq (c_region ?_)
  refine s_p p_move ?_
  refine s_p p_move ?_
  refine s_p p_xoru ?_
  refine s_p p_assign ?_
  refine g_nil (f_next ?_)
  refine c_seq (c_region ?_)
  refine s_p p_move ?_
  refine s_x (e_callp (rot_ok _ _ 16 rfl) (h := ?_))
  refine s_p (p_nat p_assign (b := qD a b c d) rfl) ?_
  refine g_nil (f_next ?_)
  refine c_seq (c_region ?_)
  refine s_p p_move ?_
  refine s_p p_move ?_
  refine s_p p_addu ?_
  refine s_p (p_nat p_assign (b := qC a b c d) rfl) ?_
  refine g_nil (f_next ?_)
  refine c_seq (c_region ?_)
  refine s_p p_move ?_
  refine s_p p_move ?_
  refine s_p p_xoru ?_
  refine s_p p_assign ?_
  refine g_nil (f_next ?_)
  refine c_seq (c_region ?_)
  refine s_p p_move ?_
  refine s_x (e_callp (rot_ok _ _ 12 rfl) (h := ?_))
  refine s_p (p_nat p_assign (b := qB a b c d) rfl) ?_
  refine g_nil (f_next ?_)
  refine c_seq (c_region ?_)
  refine s_p p_move ?_
  refine s_p p_move ?_
  refine s_p p_addu ?_
  refine s_p (p_nat p_assign (b := qA2 a b c d) rfl) ?_
  refine g_nil (f_next ?_)
  refine c_seq (c_region ?_)
  refine s_p p_move ?_
  refine s_p p_move ?_
  refine s_p p_xoru ?_
  refine s_p p_assign ?_
  refine g_nil (f_next ?_)
  refine c_seq (c_region ?_)
  refine s_p p_move ?_
  refine s_x (e_callp (rot_ok _ _ 8 rfl) (h := ?_))
  refine s_p (p_nat p_assign (b := qD2 a b c d) rfl) ?_
  refine g_nil (f_next ?_)
  refine c_seq (c_region ?_)
  refine s_p p_move ?_
  refine s_p p_move ?_
  refine s_p p_addu ?_
  refine s_p (p_nat p_assign (b := qC2 a b c d) rfl) ?_
  refine g_nil (f_next ?_)
  refine c_seq (c_region ?_)
  refine s_p p_move ?_
  refine s_p p_move ?_
  refine s_p p_xoru ?_
  refine s_p p_assign ?_
  refine g_nil (f_next ?_)
  refine c_seq (c_region ?_)
  refine s_p p_move ?_
  refine s_x (e_callp (rot_ok _ _ 7 rfl) (h := ?_))
  refine s_p (p_nat p_assign (b := qB2 a b c d) rfl) ?_
  refine g_nil (f_next ?_)
  refine c_seq (c_region ?_)
  refine s_p p_move ?_
  refine s_p p_move ?_
  refine s_p p_move ?_
  refine s_p p_move ?_
  refine s_p p_assign ?_
  refine s_p p_assign ?_
  refine s_p p_assign ?_
  refine s_p p_assign ?_
  refine g_nil (f_next ?_)
  refine c_ret ?_
  exact f_r4 (Or.inl rfl) Tryd.results102 ⟨rfl, rfl⟩

theorem sword_ok (v : Value) (l : List Nat) [hu : Us .u8 l] (hl : l.length = 4) : Fn Tryd.prog 101 [v] [] [rdF v 1 4 (us .u8 l)] (fun u B' => u = .int .u32 (leN l : Int) ∧ B' = []) := by
  refine fn_enter Tryd.func101 rfl Tryd.ntmps101 rfl fun w => ?_
  refine c_seq (c_region ?_)
  refine s_p (p_assign (v := .int .u32 ((0 : Nat) : Int))) ?_
  refine g_nil (f_next ?_)
  refine c_seq (c_region ?_)
  refine s_p p_move ?_
  refine s_x (e_callp (little32_ok _ _ (by first | assumption | simp; done)) (h := ?_))
  refine s_p p_move ?_
  refine s_p (p_ext rfl rfl) ?_
  refine s_p (p_ext rfl rfl) ?_
  refine s_p p_assign ?_
  refine s_p p_assign ?_
  refine g_nil (f_next ?_)
  refine c_seq (c_region ?_)
  refine s_p p_move ?_
  refine s_p p_assign ?_
  refine g_nil (f_next ?_)
  refine c_ret ?_
  exact f_r1 (Or.inl rfl) Tryd.results101 ⟨rfl, rfl⟩

theorem leN_lt4 (l : List Nat) [Us .u8 l] : leN (l.take 4) < 2 ^ IntKind.u32.bits := by
  have := leN_lt (l.take 4)
  refine Nat.lt_of_lt_of_le this ?_
  exact Nat.le_trans (Nat.pow_le_pow_right (by decide) (by rw [List.length_take]; exact Nat.min_le_left _ _ : (l.take 4).length ≤ 4)) (by decide)
instance {l : List Nat} [Us .u8 l] : Fits (leN (l.take 4)) .u32 := ⟨leN_lt4 l⟩
def stA (key : List Nat) (i : Nat) (s : List Nat) : List Nat := s.set (4 + i) (leN ((key.drop (4 * i)).take 4))
def stN (nonce : List Nat) (i : Nat) (s : List Nat) : List Nat := s.set (13 + i) (leN ((nonce.drop (4 * i)).take 4))
def st0 : List Nat := [1634760805, 857760878, 2036477234, 1797285236] ++ List.replicate 12 0
instance : Us .u32 st0 := ⟨by decide⟩
def stK (key : List Nat) (n : Nat) : List Nat := iter (stA key) st0 n
def stC (key : List Nat) (ctr : Nat) : List Nat := (stK key 8).set 12 ctr
def stM (key : List Nat) (ctr : Nat) (nonce : List Nat) (n : Nat) : List Nat := iter (stN nonce) (stC key ctr) n
@[simp] theorem stK_length (key : List Nat) (n : Nat) : (stK key n).length = 16 := by rw [stK, iter_len (by intros; simp [stA])]; rfl
@[simp] theorem stC_length (key : List Nat) (ctr : Nat) : (stC key ctr).length = 16 := by simp [stC]
@[simp] theorem stM_length (key : List Nat) (ctr : Nat) (nonce : List Nat) (n : Nat) : (stM key ctr nonce n).length = 16 := by rw [stM, iter_len (by intros; simp [stN])]; simp
instance stK_us {key : List Nat} {n : Nat} [Us .u8 key] : Us .u32 (stK key n) := iter_us (fun n l h => by unfold stA; infer_instance) (by infer_instance) n
instance stM_us {key nonce : List Nat} {ctr n : Nat} [Us .u8 key] [Us .u8 nonce] [Fits ctr .u32] : Us .u32 (stM key ctr nonce n) := iter_us (fun n l h => by unfold stN; infer_instance) (by unfold stC; infer_instance) n

theorem state_ok (key : List Nat) (ctr : Nat) (nonce : List Nat) [hku : Us .u8 key] [hnu : Us .u8 nonce] [hc : Fits ctr .u32] (hk : key.length = 32) (hn : nonce.length = 12) : Fn Tryd.prog 90 [.agg (us .u8 key).toArray, .int .u32 (ctr : Int), .agg (us .u8 nonce).toArray] [] [] (fun u B' => u = .agg (us .u32 (stM key ctr nonce 3)).toArray ∧ B' = []) := by
  refine fn_enter Tryd.func90 rfl Tryd.ntmps90 rfl fun w => ?_
  refine c_seq (c_region ?_)
  refine s_x (e_box rfl rfl fun b3 => ?_)
  refine s_x (e_box rfl rfl fun b5 => ?_)
  refine s_x (e_alloc fun b6 => ?_)
  refine g_nil (f_next ?_)
  refine c_seq (c_region ?_)
  refine s_p (p_barr (cells := us .u32 (stK key 0)) rfl) ?_
  refine s_x (e_alloc fun b7 => ?_)
  refine s_x0 (e_store_all rfl rfl rfl (h := ?_))
  refine g_nil (f_next ?_)
  refine c_seq ?_
  refine c_seq (c_region ?_)
  refine s_p (p_move (v := .int .i64 ((0 : Nat) : Int))) ?_
  refine g_nil (f_next ?_)
  refine c_block ?_
  refine c_lp (X := Nat) (fun x => 8 - x) (fun c x => x ≤ 8) (fun x => [(11, .int .i64 (x : Int))]) [(1, _), (3, _), (5, _), (6, _), (7, _)] (fun x => [.blk b7 (.cells (us .u32 (stK key x)).toArray 148 (0, 0)), .blk b6 (.cells (us .u32 (List.replicate 16 0)).toArray 148 (0, 0)), .blk b5 (.cells (us .u8 nonce).toArray 71 (0, 0)), .blk b3 (.cells (us .u8 key).toArray 23 (0, 0))]) 0 (by first | omega | trivial) ⟨rfl, rfl, rfl, rfl, rfl, trivial⟩ (hr := fun x hx => ?_)
  refine c_seq (c_region ?_)
  refine s_p (p_lss (b := 8)) ?_
  refine g_nil (f_next ?_)
  refine c_seq ?_
  refine c_cond_dec rfl (fun h12 => ?_) (fun h12 => ?_)
  · skip
    replace h12 : _ < 8 := h12
    haveI : Ok (4 * x + 4 ≤ key.length ∧ 4 ≤ 32 - 4 * x) := ⟨by omega, by omega⟩
    refine c_skip (f_next ?_)
    refine c_seq ?_
    refine c_block ?_
    refine c_seq (c_region ?_)
    refine s_p p_move ?_
    refine s_p p_assign ?_
    refine g_nil (f_next ?_)
    refine c_region ?_
    refine s_p p_move ?_
    refine s_p (p_addn (a := 4)) ?_
    refine s_p p_move ?_
    refine s_p (p_muln (a := 4)) ?_
    refine s_p p_move ?_
    refine s_p (p_muln (a := 4)) ?_
    refine s_p (p_addn (b := 4)) ?_
    refine s_p (p_eq (p_slice_arr rfl rfl rfl) (v' := .slice (some ⟨b3, 4 * x, none⟩) 4 (32 - 4 * x)) (by congr <;> omega)) ?_
    refine s_x (e_callp (sword_ok _ ((key.drop (4 * x)).take 4) (by simp [*]; omega)) (h := ?_))
    refine s_p p_ix_arr0 ?_
    refine s_x0 (e_store_u rfl rfl (l' := stK key (x + 1)) (h := ?_))
    refine g_nil (f_block_normal (f_next ?_))
    refine c_region ?_
    refine s_p (p_addn (b := 1)) ?_
    refine s_p p_move ?_
    refine g_nil ?_
    exact f_rd (x + 1)
  replace h12 : ¬ (_ < 8) := h12
  refine c_exit (f_pass_exit (f_pass_exit (f_block_exit (f_next ?_))))
  obtain rfl : x = 8 := by omega
  refine c_seq (c_region ?_)
  refine s_p p_move ?_
  refine s_p p_ix_arr0 ?_
  refine s_x0 (e_store_u rfl rfl (l' := stM key ctr nonce 0) (h := ?_))
  refine g_nil (f_next ?_)
  refine c_seq ?_
  refine c_seq (c_region ?_)
  refine s_p (p_move (v := .int .i64 ((0 : Nat) : Int))) ?_
  refine g_nil (f_next ?_)
  refine c_block ?_
  refine c_lp (X := Nat) (fun x => 3 - x) (fun c x => x ≤ 3) (fun x => [(27, .int .i64 (x : Int))]) [(5, _), (6, _), (7, _)] (fun x => [.blk b7 (.cells (us .u32 (stM key ctr nonce x)).toArray 148 (0, 0)), .blk b6 (.cells (us .u32 (List.replicate 16 0)).toArray 148 (0, 0)), .blk b5 (.cells (us .u8 nonce).toArray 71 (0, 0))]) 0 (by first | omega | trivial) ⟨rfl, rfl, rfl, trivial⟩ (hr := fun x hx => ?_)
  refine c_seq (c_region ?_)
  refine s_p (p_lss (b := 3)) ?_
  refine g_nil (f_next ?_)
  refine c_seq ?_
  refine c_cond_dec rfl (fun h28 => ?_) (fun h28 => ?_)
  · skip
    replace h28 : _ < 3 := h28
    haveI : Ok (4 * x + 4 ≤ nonce.length ∧ 4 ≤ 12 - 4 * x) := ⟨by omega, by omega⟩
    refine c_skip (f_next ?_)
    refine c_seq ?_
    refine c_block ?_
    refine c_seq (c_region ?_)
    refine s_p p_move ?_
    refine s_p p_assign ?_
    refine g_nil (f_next ?_)
    refine c_region ?_
    refine s_p p_move ?_
    refine s_p (p_addn (a := 13)) ?_
    refine s_p p_move ?_
    refine s_p (p_muln (a := 4)) ?_
    refine s_p p_move ?_
    refine s_p (p_muln (a := 4)) ?_
    refine s_p (p_addn (b := 4)) ?_
    refine s_p (p_eq (p_slice_arr rfl rfl rfl) (v' := .slice (some ⟨b5, 4 * x, none⟩) 4 (12 - 4 * x)) (by congr <;> omega)) ?_
    refine s_x (e_callp (sword_ok _ ((nonce.drop (4 * x)).take 4) (by simp [*]; omega)) (h := ?_))
    refine s_p p_ix_arr0 ?_
    refine s_x0 (e_store_u rfl rfl (l' := stM key ctr nonce (x + 1)) (h := ?_))
    refine g_nil (f_block_normal (f_next ?_))
    refine c_region ?_
    refine s_p (p_addn (b := 1)) ?_
    refine s_p p_move ?_
    refine g_nil ?_
    exact f_rd (x + 1)
  replace h28 : ¬ (_ < 3) := h28
  refine c_exit (f_pass_exit (f_pass_exit (f_block_exit (f_next ?_))))
  obtain rfl : x = 3 := by omega
  refine c_seq (c_region ?_)
  refine s_p (p_load_all rfl) ?_
  refine s_x0 (e_store_all rfl rfl rfl (h := ?_))
  refine g_nil (f_next ?_)
  refine c_ret ?_
  exact f_rm (Or.inl rfl) Tryd.results90 ⟨rfl, rfl⟩

def qS (t i : Nat) (s : List Nat) : List Nat :=
  (((s.set i (qA2 (s.getD i 0) (s.getD (4 + (i + t) % 4) 0) (s.getD (8 + (i + 2 * t) % 4) 0) (s.getD (12 + (i + 3 * t) % 4) 0))).set (4 + (i + t) % 4) (qB2 (s.getD i 0) (s.getD (4 + (i + t) % 4) 0) (s.getD (8 + (i + 2 * t) % 4) 0) (s.getD (12 + (i + 3 * t) % 4) 0))).set (8 + (i + 2 * t) % 4) (qC2 (s.getD i 0) (s.getD (4 + (i + t) % 4) 0) (s.getD (8 + (i + 2 * t) % 4) 0) (s.getD (12 + (i + 3 * t) % 4) 0))).set (12 + (i + 3 * t) % 4) (qD2 (s.getD i 0) (s.getD (4 + (i + t) % 4) 0) (s.getD (8 + (i + 2 * t) % 4) 0) (s.getD (12 + (i + 3 * t) % 4) 0))
def twI (s : List Nat) (n : Nat) : List Nat := iter (fun n s => qS (n / 4) (n % 4) s) s n
@[simp] theorem twI_length (s : List Nat) (n : Nat) : (twI s n).length = s.length := by rw [twI, iter_len (by intros; simp [qS])]
theorem qS_us {t i : Nat} {s : List Nat} (h : Us .u32 s) : Us .u32 (qS t i s) := by unfold qS; infer_instance
instance twI_us {s : List Nat} {n : Nat} [h : Us .u32 s] : Us .u32 (twI s n) := iter_us (fun n l h => qS_us h) h n
theorem twI_step (s : List Nat) {t i : Nat} (hi : i < 4) : qS t i (twI s (4 * t + i)) = twI s (4 * t + (i + 1)) := by
  have e1 : (4 * t + i) / 4 = t := by omega
  have e2 : (4 * t + i) % 4 = i := by omega
  show _ = qS ((4 * t + i) / 4) ((4 * t + i) % 4) (twI s (4 * t + i))
  rw [e1, e2]

theorem twice_ok (s : List Nat) [hs : Us .u32 s] (hl : s.length = 16) : Fn Tryd.prog 91 [.agg (us .u32 s).toArray] [] [] (fun u B' => u = .agg (us .u32 (twI s 8)).toArray ∧ B' = []) := by
  refine fn_enter Tryd.func91 rfl Tryd.ntmps91 rfl fun w => ?_
  refine c_seq (c_region ?_)
  refine s_x (e_box rfl rfl fun b1 => ?_)
  refine s_x (e_alloc fun b2 => ?_)
  refine g_nil (f_next ?_)
  refine c_seq ?_
  refine c_seq (c_region ?_)
  refine s_p (p_move (v := .int .i64 ((0 : Nat) : Int))) ?_
  refine g_nil (f_next ?_)
  refine c_block ?_
  refine c_lp (X := Nat) (fun x => 2 - x) (fun c x => x ≤ 2) (fun x => [(8, .int .i64 (x : Int))]) [(1, _), (2, _)] (fun x => [.blk b1 (.cells (us .u32 (twI s (4 * x))).toArray 148 (0, 0)), .blk b2 (.cells (us .u32 (List.replicate 16 0)).toArray 148 (0, 0))]) 0 (by first | omega | trivial) ⟨rfl, rfl, trivial⟩ (hr := fun x hx => ?_)
  refine c_seq (c_region ?_)
  refine s_p (p_lss (b := 2)) ?_
  refine g_nil (f_next ?_)
  refine c_seq ?_
  refine c_cond_dec rfl (fun h9 => ?_) (fun h9 => ?_)
  · skip
    replace h9 : _ < 2 := h9
    refine c_skip (f_next ?_)
    refine c_seq ?_
    refine c_block ?_
    refine c_seq (c_region ?_)
    refine s_p p_move ?_
    refine s_p p_assign ?_
    refine g_nil (f_next ?_)
    refine c_seq (c_region ?_)
    refine s_p (p_move (v := .int .i64 ((0 : Nat) : Int))) ?_
    refine g_nil (f_next ?_)
    refine c_block ?_
    refine c_lp (X := Nat) (fun i => 4 - i) (fun c i => i ≤ 4) (fun i => [(11, .int .i64 (i : Int))]) [(1, _), (2, _), (3, _), (8, _)] (fun i => [.blk b1 (.cells (us .u32 (twI s (4 * x + i))).toArray 148 (0, 0)), .blk b2 (.cells (us .u32 (List.replicate 16 0)).toArray 148 (0, 0))]) 0 (by omega) ⟨rfl, rfl, rfl, rfl, trivial⟩ (hr := fun i hi => ?_)
    refine c_seq (c_region ?_)
    refine s_p (p_lss (b := 4)) ?_
    refine g_nil (f_next ?_)
    refine c_seq ?_
    refine c_cond_dec rfl (fun h12 => ?_) (fun h12 => ?_)
    · skip
      replace h12 : _ < 4 := h12
      refine c_skip (f_next ?_)
      refine c_seq ?_
      refine c_block ?_
      refine c_seq (c_region ?_)
      refine s_p p_move ?_
      refine s_p p_assign ?_
      refine g_nil (f_next ?_)
      refine c_seq (c_region ?_)
      refine s_p p_move ?_
      refine s_p p_move ?_
      refine s_p p_addn ?_
      refine s_p (p_remn (b := 4)) ?_
      refine s_p (p_addn (a := 4)) ?_
      refine s_p p_move ?_
      refine s_p p_move ?_
      refine s_p (p_muln (a := 2)) ?_
      refine s_p p_addn ?_
      refine s_p (p_remn (b := 4)) ?_
      refine s_p (p_addn (a := 8)) ?_
      refine s_p p_move ?_
      refine s_p p_move ?_
      refine s_p (p_muln (a := 3)) ?_
      refine s_p p_addn ?_
      refine s_p (p_remn (b := 4)) ?_
      refine s_p (p_addn (a := 12)) ?_
      refine s_p p_assign ?_
      refine s_p p_assign ?_
      refine s_p p_assign ?_
      refine g_nil (f_next ?_)
      refine (c_run [.p, .p, .p, .p, .p, .p, .r, .p, .p, .r, .p, .p, .r, .p, .p, .r, .x0, .p, .p, .p, .p, .p, .p, .x2, .p, .x2, .p, .x2, .p, .x2] [0, 1, 2, 3, 4, 5, 6, 7, 8, 9, 10, 11, 12, 13, 14, 15, 16, 17, 18, 19, 20, 21, 22, 23, 24, 25, 26, 27, 28, 29] (by kernel_rfl) fun hn8 => ?_)
      refine d_p rfl p_move ?_
      refine d_p rfl p_move ?_
      refine d_p rfl p_move ?_
      refine d_p rfl p_move ?_
      refine d_p rfl p_move ?_
      refine d_p rfl p_ix_arr0 ?_
      refine d_r hn8 rfl (p_load_u rfl) ?_
      refine d_p rfl p_move ?_
      refine d_p rfl p_ix_arr0 ?_
      refine d_r hn8 rfl (p_load_u rfl) ?_
      refine d_p rfl p_move ?_
      refine d_p rfl p_ix_arr0 ?_
      refine d_r hn8 rfl (p_load_u rfl) ?_
      refine d_p rfl p_move ?_
      refine d_p rfl p_ix_arr0 ?_
      refine d_r hn8 rfl (p_load_u rfl) ?_
      refine d_x0 rfl (e_callp (quarter_ok _ _ _ _) (h := ⟨inferInstance, ?_⟩))
      refine d_p rfl p_move ?_
      refine d_p rfl (p_ext rfl rfl) ?_
      refine d_p rfl (p_ext rfl rfl) ?_
      refine d_p rfl (p_ext rfl rfl) ?_
      refine d_p rfl (p_ext rfl rfl) ?_
      refine d_p rfl p_ix_arr0 ?_
      refine d_s2 rfl (e_store_u rfl rfl (h := ?_))
      refine d_p rfl p_ix_arr0 ?_
      refine d_s2 rfl (e_store_u rfl rfl (h := ?_))
      refine d_p rfl p_ix_arr0 ?_
      refine d_s2 rfl (e_store_u rfl rfl (h := ?_))
      refine d_p rfl p_ix_arr0 ?_
      refine d_s2 rfl (e_store_u rfl rfl (l' := twI s (4 * x + (i + 1))) (h := ?_) (hl := twI_step s (by omega)))
      refine d_nil (f_block_normal (f_next ?_))
      refine c_region ?_
      refine s_p (p_addn (b := 1)) ?_
      refine s_p p_move ?_
      refine g_nil ?_
      exact f_rd (i + 1) (by show i + 1 ≤ 4; omega) (by show 4 - (i + 1) < 4 - i; omega)
    replace h12 : ¬ (_ < 4) := h12
    refine c_exit (f_pass_exit (f_pass_exit (f_block_exit (f_block_normal (f_next ?_)))))
    obtain rfl : i = 4 := by omega
    refine c_region ?_
    refine s_p (p_addn (b := 1)) ?_
    refine s_p p_move ?_
    refine g_nil ?_
    exact f_rd (x + 1) (by show x + 1 ≤ 2; omega) (by show 2 - (x + 1) < 2 - x; omega)
  replace h9 : ¬ (_ < 2) := h9
  refine c_exit (f_pass_exit (f_pass_exit (f_block_exit (f_next ?_))))
  obtain rfl : x = 2 := by omega
  refine c_seq (c_region ?_)
  refine s_p (p_load_all rfl) ?_
  refine s_x0 (e_store_all rfl rfl rfl (h := ?_))
  refine g_nil (f_next ?_)
  refine c_ret ?_
  exact f_rm (Or.inl rfl) Tryd.results91 ⟨rfl, rfl⟩

end Go.Tw
end

section
namespace Go.Tw
open Go Go.Proofs

theorem put32_ok (v : Value) (n : Nat) (l : List Nat) (X : Nat) [hx : Fits X .u32] (hn : n ≤ 1073741824) : Fn Tryd.prog 57 [v, .int .u32 (X : Int)] [] [rdF v 1 n (us .u8 l)] (fun u B' => B' = [.sl u 5 1 (n + 4) (us .u8 (l ++ leB 4 X))]) := by
  refine fn_enter Tryd.func57 rfl Tryd.ntmps57 rfl fun w => ?_
  refine c_fact (p := l.length = n) (fun _ _ s => by simpa using (s.read (f := rdF v 1 n (us .u8 l)) (by simp)).1) fun hl => ?_
  refine c_seq (c_region ?_)
  refine s_p p_assign ?_
  refine g_nil (f_next ?_)
  refine c_seq (c_region ?_)
  refine s_x (e_callp width32_ok (h := ?_))
  refine s_p p_assign ?_
  refine g_nil (f_next ?_)
  refine c_seq (c_region ?_)
  refine s_p p_move ?_
  refine s_p (p_len rfl) ?_
  refine s_p p_move ?_
  refine s_p (p_len rfl) ?_
  refine s_p p_move ?_
  refine s_p p_addn ?_
  refine s_x (e_make rfl rfl (by omega) (by omega) (by omega) (xs := us .u8 (List.replicate n 0)) (by rw [made_zero]; simp [us]) fun v15 n15 => ?_)
  refine s_p p_assign ?_
  refine g_nil (f_next ?_)
  refine c_seq (c_region ?_)
  refine s_p p_move ?_
  refine s_p p_move ?_
  refine s_x (e_copyslu rfl rfl (m := n) (by omega) (h := ?_) (hl := (show _ = l ++ leB 0 X by simp [← hl, leB])))
  refine g_nil (f_next ?_)
  refine c_seq ?_
  refine c_seq (c_region ?_)
  refine s_p p_move ?_
  refine s_p (p_move (v := .int .i64 ((0 : Nat) : Int))) ?_
  refine g_nil (f_next ?_)
  refine c_block ?_
  refine c_lp (X := Value × Nat) (fun x => 4 - x.2) (fun c x => x.2 ≤ 4) (fun x => [(6, x.1), (20, .int .i64 (x.2 : Int))]) [(1, _), (19, _)] (fun x => [.sl x.1 5 1 (n + x.2) (us .u8 (l ++ leB x.2 X))]) (v15, 0) (by first | omega | trivial) ⟨rfl, rfl, trivial⟩ (hr := fun x hx => ?_)
  refine c_seq (c_region ?_)
  refine s_p p_lss ?_
  refine g_nil (f_next ?_)
  refine c_seq ?_
  refine c_cond_dec rfl (fun h21 => ?_) (fun h21 => ?_)
  · skip
    refine c_skip (f_next ?_)
    refine c_seq ?_
    refine c_block ?_
    refine c_seq (c_region ?_)
    refine s_p p_move ?_
    refine s_p p_assign ?_
    refine g_nil (f_next ?_)
    refine c_region ?_
    refine s_p p_move ?_
    refine s_p p_move ?_
    refine s_p p_move ?_
    refine s_p (p_muln (a := 8)) ?_
    refine s_p p_shru ?_
    refine s_p (p_nat p_convu (b := (X >>> (8 * x.2)) % 256) rfl) ?_
    refine s_x (e_bsl1 rfl fun v29 n29 => ?_)
    refine s_x (e_app rfl rfl (n' := n + (x.2 + 1)) (l' := l ++ leB (x.2 + 1) X) (h := fun v30 => ?_) (hl := by rw [leB_succ, List.append_assoc]))
    refine s_p p_assign ?_
    refine g_nil (f_block_normal (f_next ?_))
    refine c_region ?_
    refine s_p (p_addn (b := 1)) ?_
    refine s_p p_move ?_
    refine g_nil ?_
    exact f_rd (v30, x.2 + 1)
  refine c_exit (f_pass_exit (f_pass_exit (f_block_exit (f_next ?_))))
  obtain ⟨x1, x2⟩ := x; obtain rfl : x2 = 4 := by simp only at h21 hx; omega
  refine c_seq (c_region ?_)
  refine s_p p_move ?_
  refine s_p p_assign ?_
  refine g_nil (f_next ?_)
  refine c_ret ?_
  exact f_r1 (Or.inl rfl) Tryd.results57 rfl

def blS (key : List Nat) (ctr : Nat) (nonce : List Nat) (n : Nat) : List Nat := iter (fun _ s => twI s 8) (stM key ctr nonce 3) n
theorem blS_zero (key : List Nat) (ctr : Nat) (nonce : List Nat) : blS key ctr nonce 0 = stM key ctr nonce 3 := by simp only [blS, iter]
theorem blS_succ (key : List Nat) (ctr : Nat) (nonce : List Nat) (n : Nat) : blS key ctr nonce (n + 1) = twI (blS key ctr nonce n) 8 := by simp only [blS, iter]
@[simp] theorem blS_length (key : List Nat) (ctr : Nat) (nonce : List Nat) (n : Nat) : (blS key ctr nonce n).length = 16 := by rw [blS, iter_len (by intros; simp)]; simp
instance blS_us {key nonce : List Nat} {ctr n : Nat} [Us .u8 key] [Us .u8 nonce] [Fits ctr .u32] : Us .u32 (blS key ctr nonce n) := iter_us (fun _ _ h => inferInstance) (by infer_instance) n
def blW (f s : List Nat) (i : Nat) : Nat := (s.getD i 0 + f.getD i 0) % 2 ^ IntKind.u32.bits
instance {f s : List Nat} {i : Nat} : Fits (blW f s i) .u32 := by unfold blW; infer_instance
def blF (f s : List Nat) : Nat → List Nat
  | 0 => []
  | n + 1 => blF f s n ++ leB 4 (blW f s n)
@[simp] theorem blF_length (f s : List Nat) : ∀ n, (blF f s n).length = 4 * n
  | 0 => rfl
  | n + 1 => by rw [blF, List.length_append, blF_length, leB_length]; omega
instance blF_us {f s : List Nat} : ∀ {n : Nat}, Us .u8 (blF f s n)
  | 0 => (inferInstance : Us .u8 [])
  | n + 1 => by have := @blF_us f s n; unfold blF; infer_instance
def blO (f s : List Nat) (n : Nat) : List Nat := blF f s n ++ List.replicate (64 - 4 * n) 0
theorem blO_length (f s : List Nat) {n : Nat} (h : n ≤ 16) : (blO f s n).length = 64 := by simp [blO]; omega
instance blO_us {f s : List Nat} {n : Nat} : Us .u8 (blO f s n) := by unfold blO; infer_instance
theorem blO_step (f s : List Nat) {n : Nat} (h : n < 16) : (blO f s n).take (4 * n) ++ (leB 4 (blW f s n)).take 4 ++ (blO f s n).drop (4 * n + 4) = blO f s (n + 1) := by
  have h1 : (blO f s n).take (4 * n) = blF f s n := by rw [blO, List.take_append_of_le_length (by simp), List.take_of_length_le (by simp)]
  have h2 : (blO f s n).drop (4 * n + 4) = List.replicate (64 - 4 * (n + 1)) 0 := by
    rw [blO, List.drop_append, List.drop_of_length_le (by simp), List.nil_append, List.drop_replicate, blF_length]
    congr 1; omega
  rw [h1, h2, List.take_of_length_le (by simp)]
  rfl
/-- 64 bytes of the key stream. -/
def blkL (key : List Nat) (ctr : Nat) (nonce : List Nat) : List Nat := blO (stM key ctr nonce 3) (blS key ctr nonce 10) 16
@[simp] theorem blkL_length (key : List Nat) (ctr : Nat) (nonce : List Nat) : (blkL key ctr nonce).length = 64 := blO_length _ _ (by decide)
instance {key nonce : List Nat} {ctr : Nat} : Us .u8 (blkL key ctr nonce) := by unfold blkL; infer_instance

theorem block_ok (key : List Nat) (ctr : Nat) (nonce : List Nat) [hku : Us .u8 key] [hnu : Us .u8 nonce] [hc : Fits ctr .u32] (hk : key.length = 32) (hn : nonce.length = 12) : Fn Tryd.prog 75 [.agg (us .u8 key).toArray, .int .u32 (ctr : Int), .agg (us .u8 nonce).toArray] [] [] (fun u B' => u = .agg (us .u8 (blkL key ctr nonce)).toArray ∧ B' = []) := by
  refine fn_enter Tryd.func75 rfl Tryd.ntmps75 rfl fun w => ?_
  obtain ⟨f, hf⟩ : ∃ f, stM key ctr nonce 3 = f := ⟨_, rfl⟩
  haveI hfu : Us .u32 f := by rw [← hf]; infer_instance
  have hfl : f.length = 16 := by rw [← hf]; simp
  refine c_seq (c_region ?_)
  refine s_x (e_box rfl rfl fun b3 => ?_)
  refine s_x (e_box rfl rfl fun b5 => ?_)
  refine s_x (e_alloc fun b6 => ?_)
  refine g_nil (f_next ?_)
  refine c_seq (c_region ?_)
  refine s_p (p_load_all rfl) ?_
  refine s_p p_move ?_
  refine s_p (p_load_all rfl) ?_
  refine s_x (e_callp (state_ok key ctr nonce hk hn) (h := ?_))
  rw [hf]
  refine s_x (e_alloc fun b7 => ?_)
  refine s_x0 (e_store_all rfl rfl rfl (h := ?_))
  refine g_nil (f_next ?_)
  refine c_seq (c_region ?_)
  refine s_p (p_load_all rfl) ?_
  refine s_x (e_alloc fun b8 => ?_)
  refine s_x0 (e_store_all rfl rfl rfl (h := ?_))
  refine g_own (B2 := [.blk b8 (.cells (us .u32 (blS key ctr nonce 0)).toArray 148 (0, 0)), .blk b7 (.cells (us .u32 f).toArray 148 (0, 0)), .blk b6 (.cells (us .u8 (List.replicate 64 0)).toArray 128 (0, 0)), .blk b5 (.cells (us .u8 nonce).toArray 71 (0, 0)), .blk b3 (.cells (us .u8 key).toArray 23 (0, 0))]) (by rw [blS_zero, hf]) ?_
  refine g_nil (f_next ?_)
  refine c_seq ?_
  refine c_seq (c_region ?_)
  refine s_p (p_move (v := .int .i64 ((0 : Nat) : Int))) ?_
  refine g_nil (f_next ?_)
  refine c_block ?_
  refine c_lp (X := Nat) (fun x => 10 - x) (fun c x => x ≤ 10) (fun x => [(17, .int .i64 (x : Int))]) [(6, _), (7, _), (8, _)] (fun x => [.blk b8 (.cells (us .u32 (blS key ctr nonce x)).toArray 148 (0, 0)), .blk b7 (.cells (us .u32 f).toArray 148 (0, 0)), .blk b6 (.cells (us .u8 (List.replicate 64 0)).toArray 128 (0, 0))]) 0 (by first | omega | trivial) ⟨rfl, rfl, rfl, trivial⟩ (hr := fun x hx => ?_)
  refine c_seq (c_region ?_)
  refine s_p (p_lss (b := 10)) ?_
  refine g_nil (f_next ?_)
  refine c_seq ?_
  refine c_cond_dec rfl (fun h18 => ?_) (fun h18 => ?_)
  · skip
    replace h18 : _ < 10 := h18
    refine c_skip (f_next ?_)
    refine c_seq ?_
    refine c_block ?_
    refine c_region ?_
    refine s_p (p_load_all rfl) ?_
    refine s_x (e_callp (twice_ok (blS key ctr nonce x) (by simp)) (h := ?_))
    rw [← blS_succ]
    refine s_x0 (e_store_all rfl rfl rfl (h := ?_))
    refine g_nil (f_block_normal (f_next ?_))
    refine c_region ?_
    refine s_p (p_addn (b := 1)) ?_
    refine s_p p_move ?_
    refine g_nil ?_
    exact f_rd (x + 1)
  replace h18 : ¬ (_ < 10) := h18
  refine c_exit (f_pass_exit (f_pass_exit (f_block_exit (f_next ?_))))
  obtain rfl : x = 10 := by omega
  obtain ⟨s, hs⟩ : ∃ s, blS key ctr nonce 10 = s := ⟨_, rfl⟩
  haveI hsu : Us .u32 s := by rw [← hs]; infer_instance
  have hsl : s.length = 16 := by rw [← hs]; simp
  have hfin : blO f s 16 = blkL key ctr nonce := by rw [← hs, ← hf]; rfl
  refine c_own (B2 := [.blk b8 (.cells (us .u32 s).toArray 148 (0, 0)), .blk b7 (.cells (us .u32 f).toArray 148 (0, 0)), .blk b6 (.cells (us .u8 (List.replicate 64 0)).toArray 128 (0, 0))]) (by rw [hs]) ?_
  refine c_seq (c_region ?_)
  refine s_x (e_alloc fun b9 => ?_)
  refine g_nil (f_next ?_)
  refine c_seq ?_
  refine c_seq (c_region ?_)
  refine s_p (p_load_all rfl) ?_
  refine s_p (p_move (v := .int .i64 ((0 : Nat) : Int))) ?_
  refine g_nil (f_next ?_)
  refine c_block ?_
  refine c_lp (X := Nat) (fun x => 16 - x) (fun c x => x ≤ 16) (fun x => [(23, .int .i64 (x : Int))]) [(6, _), (7, _), (9, _), (22, _)] (fun x => [.blk b9 (.cells (us .u8 (blO f s x)).toArray 128 (0, 0)), .blk b7 (.cells (us .u32 f).toArray 148 (0, 0)), .blk b6 (.cells (us .u8 (List.replicate 64 0)).toArray 128 (0, 0))]) 0 (by first | omega | trivial) ⟨rfl, rfl, rfl, rfl, trivial⟩ (hr := fun x hx => ?_)
  refine c_seq (c_region ?_)
  refine s_p (p_lss (b := 16)) ?_
  refine g_nil (f_next ?_)
  refine c_seq ?_
  refine c_cond_dec rfl (fun h24 => ?_) (fun h24 => ?_)
  · skip
    replace h24 : _ < 16 := h24
    have hol := blO_length f s hx
    refine c_skip (f_next ?_)
    refine c_seq ?_
    refine c_block ?_
    refine c_seq (c_region ?_)
    refine s_p p_move ?_
    refine s_p (p_index rfl rfl (by omega) (us_get (by omega))) ?_
    refine s_p p_assign ?_
    refine s_p p_assign ?_
    refine g_nil (f_next ?_)
    refine (c_run [.p, .p, .p, .p, .p, .p, .r, .p, .x0, .x2] [0, 1, 2, 3, 4, 5, 6, 7, 8, 9] (by kernel_rfl) fun hn11 => ?_)
    refine d_p rfl p_move ?_
    refine d_p rfl (p_muln (a := 4)) ?_
    refine d_p rfl (p_eq (p_slice_arr_lo rfl rfl) (v' := .slice (some ⟨b9, 4 * x, none⟩) (64 - 4 * x) (64 - 4 * x)) (by simp)) ?_
    refine d_p rfl p_move ?_
    refine d_p rfl p_move ?_
    refine d_p rfl p_ix_arr0 ?_
    refine d_r hn11 rfl (p_load_u rfl) ?_
    refine d_p rfl p_addu ?_
    refine d_x0 rfl (e_callx (put32_ok (.slice none 0 0) 0 [] (blW f s x) (by omega)) (h := fun v35 B35 h35 => ⟨inferInstance, ?_⟩))
    subst h35
    simp only [List.cons_append, List.nil_append]
    refine d_x2 rfl (e_copyu rfl rfl (m := 4) (by omega) (l' := blO f s (x + 1)) (h := ?_) (hl := blO_step f s (by omega)))
    refine d_nil (f_block_normal (f_next ?_))
    refine c_region ?_
    refine s_p (p_addn (b := 1)) ?_
    refine s_p p_move ?_
    refine g_nil ?_
    exact f_rd (x + 1)
  replace h24 : ¬ (_ < 16) := h24
  refine c_exit (f_pass_exit (f_pass_exit (f_block_exit (f_next ?_))))
  obtain rfl : x = 16 := by omega
  refine c_own (B2 := [.blk b9 (.cells (us .u8 (blkL key ctr nonce)).toArray 128 (0, 0)), .blk b7 (.cells (us .u32 f).toArray 148 (0, 0)), .blk b6 (.cells (us .u8 (List.replicate 64 0)).toArray 128 (0, 0))]) (by rw [hfin]) ?_
  refine c_seq (c_region ?_)
  refine s_p (p_load_all rfl) ?_
  refine s_x0 (e_store_all rfl rfl rfl (h := ?_))
  refine g_nil (f_next ?_)
  refine c_ret ?_
  exact f_rm (Or.inl rfl) Tryd.results75 ⟨rfl, rfl⟩

/-- A stream in memory. -/
def strC (key nonce : List Nat) (place : Nat) : List Value := us .u8 key ++ (us .u8 nonce ++ [.int .u64 (place : Int)])
section
variable {key nonce : List Nat} {place : Nat} (hk : key.length = 32) (hn : nonce.length = 12)
include hk
theorem strC_key : ((strC key nonce place).drop 0).take 32 = us .u8 key := by
  rw [List.drop_zero, strC, List.take_append_of_le_length (by simp [hk]), List.take_of_length_le (by simp [hk])]
include hn
theorem strC_length : (strC key nonce place).length = 45 := by simp [strC, hk, hn]
theorem strC_nonce : ((strC key nonce place).drop 32).take 12 = us .u8 nonce := by
  rw [strC, List.drop_append, List.drop_of_length_le (by simp [hk]), List.nil_append, us_length, hk, Nat.sub_self, List.drop_zero, List.take_append_of_le_length (by simp [hn]), List.take_of_length_le (by simp [hn])]
theorem strC_place : (strC key nonce place)[44]? = some (.int .u64 (place : Int)) := by
  rw [strC, List.getElem?_append_right (by simp [hk]), List.getElem?_append_right (by simp [hk, hn])]
  simp [hk, hn]
theorem strC_setplace {x : Nat} : (strC key nonce place).set 44 (.int .u64 (x : Int)) = strC key nonce x := by
  rw [strC, List.set_append_right _ _ (by simp [hk]), List.set_append_right _ _ (by simp [hk, hn])]
  simp [hk, hn, strC]
theorem strC_build {zs : List Value} (hz : zs.length = 45) : lfill (fun i => [(0, 32), (32, 12), (44, 1)][i]?) zs [(0, .agg (us .u8 key).toArray), (1, .agg (us .u8 nonce).toArray), (2, .int .u64 (place : Int))] = some (strC key nonce place) := by
  have e : lput (lput (lput zs (us .u8 key) 0) (us .u8 nonce) 32) [.int .u64 (place : Int)] 44 = strC key nonce place := by
    have h1 : lput zs (us .u8 key) 0 = us .u8 key ++ zs.drop 32 := by simp [lput, hk]
    have h2 : lput (us .u8 key ++ zs.drop 32) (us .u8 nonce) 32 = us .u8 key ++ (us .u8 nonce ++ zs.drop 44) := by
      rw [lput, List.take_append_of_le_length (by simp [hk]), List.take_of_length_le (by simp [hk]), List.drop_append, List.drop_of_length_le (by simp [hk])]
      simp [hk, hn]
    have h3 : zs.drop 44 = [zs.getD 44 undef] := by
      rw [List.drop_eq_getElem_cons (by omega), List.drop_of_length_le (by omega), List.getD_eq_getElem?_getD, List.getElem?_eq_getElem (by omega)]; rfl
    rw [h1, h2, lput, h3]
    rw [List.take_append, List.take_of_length_le (l := us .u8 key) (by simp [hk]), List.take_append, List.take_of_length_le (l := us .u8 nonce) (by simp [hk, hn]), List.drop_of_length_le (by simp [hk, hn])]
    simp [hk, hn, strC]
  have h1 : (lput zs (us .u8 key) 0).length = 45 := by rw [lput_length (by simp [hk, hz]), hz]
  have h2 : (lput (lput zs (us .u8 key) 0) (us .u8 nonce) 32).length = 45 := by rw [lput_length (by simp [hn, h1]), h1]
  rw [lfill_put (vs := us .u8 key) (off := 0) (size := 32) rfl rfl (by simp [hk]) (by omega), lfill_put (vs := us .u8 nonce) (off := 32) (size := 12) rfl rfl (by simp [hn]) (by omega), lfill_put (vs := [.int .u64 (place : Int)]) (off := 44) (size := 1) rfl rfl rfl (by omega)]
  exact congrArg some e
end
def ksB (key nonce : List Nat) (q : Nat) : Nat := (blkL key (q / 64 % 2 ^ IntKind.u32.bits) nonce).getD (q % 64) 0
instance {key nonce : List Nat} {q : Nat} : Fits (ksB key nonce q) .u8 := by unfold ksB; infer_instance
def xoF (key nonce : List Nat) (place : Nat) (l : List Nat) (i : Nat) : Nat := l.getD i 0 ^^^ ksB key nonce (place + i)
/-- A text over the key stream from a place on. -/
def xorL (key nonce : List Nat) (place : Nat) (l : List Nat) : List Nat := (List.range l.length).map (xoF key nonce place l)
@[simp] theorem xorL_length (key nonce : List Nat) (place : Nat) (l : List Nat) : (xorL key nonce place l).length = l.length := by simp [xorL]
instance xorL_us {key nonce : List Nat} {place : Nat} {l : List Nat} [h : Us .u8 l] : Us .u8 (xorL key nonce place l) := ⟨fun x hx => by
  simp only [xorL, List.mem_map] at hx
  obtain ⟨i, _, rfl⟩ := hx
  exact Nat.xor_lt_two_pow (h.getD_lt i) (Fits.lt (n := ksB key nonce (place + i)))⟩
theorem xorL_twice (key nonce : List Nat) (place : Nat) (l : List Nat) : xorL key nonce place (xorL key nonce place l) = l := by
  refine List.ext_getElem (by simp) fun i h1 h2 => ?_
  have h3 : i < (xorL key nonce place l).length := by simpa using h2
  simp only [xorL, List.getElem_map, List.getElem_range, xoF, List.length_map, List.length_range]
  rw [List.getD_eq_getElem?_getD, List.getElem?_map, List.getElem?_range h2]
  simp only [Option.map_some, Option.getD_some, xoF]
  rw [Nat.xor_assoc, Nat.xor_self, Nat.xor_zero, List.getD_eq_getElem?_getD, List.getElem?_eq_getElem h2]
  rfl
theorem ks_at (key nonce : List Nat) {P d r i : Nat} (hr : (P + d) % 64 = r) (hi : i < 64 - r) : ((blkL key ((P + d) / 64 % 2 ^ IntKind.u32.bits) nonce).drop r |>.take (64 - r)).getD i 0 = ksB key nonce (P + (d + i)) := by
  have e1 : (P + (d + i)) / 64 = (P + d) / 64 := by omega
  have e2 : (P + (d + i)) % 64 = r + i := by omega
  unfold ksB
  rw [e1, e2, List.getD_eq_getElem?_getD, List.getElem?_take_of_lt hi, List.getElem?_drop, ← List.getD_eq_getElem?_getD]
abbrev strE (p : Nat) (key nonce : List Nat) (place : Nat) : Ent := .blk p (.cells (strC key nonce place).toArray 147 (0, 0))

theorem snew_ok (key nonce : List Nat) (ctr : Nat) [hc : Fits ctr .u32] (hk : key.length = 32) (hn : nonce.length = 12) : Fn Tryd.prog 73 [.agg (us .u8 key).toArray, .agg (us .u8 nonce).toArray, .int .u32 (ctr : Int)] [] [] (fun u B' => ∃ p, u = ptr p 0 ∧ B' = [strE p key nonce (64 * ctr)]) := by
  refine fn_enter Tryd.func73 rfl Tryd.ntmps73 rfl fun w => ?_
  have hlt := hc.lt
  simp only [IntKind.bits] at hlt
  refine c_seq (c_region ?_)
  refine s_x (e_box rfl rfl fun b3 => ?_)
  refine s_x (e_box rfl rfl fun b4 => ?_)
  refine s_p p_assign ?_
  refine g_nil (f_next ?_)
  refine c_seq (c_region ?_)
  refine s_p (p_load_all rfl) ?_
  refine s_p (p_load_all rfl) ?_
  refine s_p p_move ?_
  refine s_p p_convw ?_
  refine s_p (p_muluw (a := 64)) ?_
  refine s_p (p_bstr (cells := strC key nonce (64 * ctr)) (strC_build hk hn (by simp))) ?_
  refine s_x (e_box rfl rfl fun b13 => ?_)
  refine s_p p_assign ?_
  refine g_nil (f_next ?_)
  refine c_ret ?_
  exact f_r1 (Or.inl rfl) Tryd.results73 ⟨_, rfl, rfl⟩

theorem sxor_ok (p : Nat) (key nonce : List Nat) (place : Nat) (v : Value) (n : Nat) (l : List Nat) [hku : Us .u8 key] [hnu : Us .u8 nonce] [hlu : Us .u8 l] (hk : key.length = 32) (hn : nonce.length = 12) (hfit : place + n ≤ 274877906944) : Fn Tryd.prog 74 [ptr p 0, v] [strE p key nonce place] [rdF v 1 n (us .u8 l)] (fun u B' => ∃ w, u = .tuple #[w, .int .i64 0] ∧ B' = [.sl w 5 1 n (us .u8 (xorL key nonce place l)), strE p key nonce (place + n)]) := by
  refine fn_enter Tryd.func74 rfl Tryd.ntmps74 rfl fun w => ?_
  refine c_fact (p := l.length = n) (fun _ _ s => by simpa using (s.read (f := rdF v 1 n (us .u8 l)) (by simp)).1) fun hl => ?_
  refine c_seq (c_region ?_)
  refine s_p p_assign ?_
  refine s_p (p_assign (v := .int .i64 ((0 : Nat) : Int))) ?_
  refine g_nil (f_next ?_)
  refine c_seq ?_
  refine c_seq (c_region ?_)
  refine s_p p_move ?_
  refine s_p p_eqpn ?_
  refine g_nil (f_next ?_)
  refine c_cond_false rfl ?_
  refine c_skip (f_next ?_)
  refine c_seq ?_
  refine c_seq (c_region ?_)
  refine s_p p_move ?_
  refine s_p (p_len rfl) ?_
  refine s_p p_convw ?_
  refine s_p p_move ?_
  refine s_p p_nilcheck ?_
  refine s_p p_field0 ?_
  refine s_p (p_load_one rfl (strC_place hk hn)) ?_
  refine s_p (p_subuw (a := 274877906944)) ?_
  refine s_p p_gtr ?_
  refine g_nil (f_next ?_)
  refine c_cond_no rfl (by omega) ?_
  refine c_skip (f_next ?_)
  refine c_seq (c_region ?_)
  refine s_p p_move ?_
  refine s_p (p_len rfl) ?_
  refine s_x (e_make rfl rfl (by omega) (by omega) (by omega) (xs := us .u8 (fillL (xoF key nonce place l) n 0)) (by rw [made_zero]; simp [us, fillL]) fun v25 n25 => ?_)
  refine s_p p_assign ?_
  refine g_nil (f_next ?_)
  refine c_seq ?_
  refine c_seq (c_region ?_)
  refine s_p (p_assign (v := .int .i64 ((0 : Nat) : Int))) ?_
  refine g_nil (f_next ?_)
  refine c_block ?_
  refine c_lp (X := Nat) (fun d => n - d) (fun c d => d ≤ n) (fun d => [(7, .int .i64 (d : Int))]) [(0, _), (1, _), (6, _)] (fun d => [.sl v25 5 1 n (us .u8 (fillL (xoF key nonce place l) n d)), strE p key nonce (place + d)]) 0 (by omega) ⟨rfl, rfl, rfl, trivial⟩ (hr := fun d hd => ?_)
  refine c_seq ?_
  refine c_seq (c_region ?_)
  refine s_p p_move ?_
  refine s_p p_move ?_
  refine s_p (p_len rfl) ?_
  refine s_p p_lss ?_
  refine g_nil (f_next ?_)
  refine c_cond_dec rfl (fun h29 => ?_) (fun h29 => ?_)
  · skip
    refine c_skip (f_next ?_)
    refine c_block ?_
    refine c_seq (c_run [.p, .p, .p, .r, .p, .p, .p, .r, .p, .p, .p, .p, .p, .r, .x0, .alc 128 (us .u8 (List.replicate 64 0)), .x2] [0, 1, 2, 3, 4, 5, 6, 7, 8, 9, 10, 11, 12, 13, 14, 15, 16] (by kernel_rfl) fun hn8 => ?_)
    refine d_p rfl p_move ?_
    refine d_p rfl p_nilcheck ?_
    refine d_p rfl p_field0 ?_
    refine d_r hn8 rfl (p_load_part rfl (strC_key hk)) ?_
    refine d_p rfl p_move ?_
    refine d_p rfl p_nilcheck ?_
    refine d_p rfl p_field0 ?_
    refine d_r hn8 rfl (p_load_one rfl (strC_place hk hn)) ?_
    refine d_p rfl (p_quou (b := 64) rfl rfl rfl (by omega) (by simp only [IntKind.bits]; omega)) ?_
    refine d_p rfl p_convu ?_
    refine d_p rfl p_move ?_
    refine d_p rfl p_nilcheck ?_
    refine d_p rfl p_field0 ?_
    refine d_r hn8 rfl (p_load_part rfl (strC_nonce hk hn)) ?_
    refine d_x0 rfl (e_callp (block_ok key ((place + d) / 64 % 2 ^ IntKind.u32.bits) nonce hk hn) (h := ⟨inferInstance, ?_⟩))
    refine d_a rfl fun b8 hb8 => ?_
    refine d_s2 rfl (e_store_all rfl rfl rfl (h := ?_))
    refine d_nil (f_next ?_)
    obtain ⟨r, hr⟩ : ∃ r, (place + d) % 64 = r := ⟨_, rfl⟩
    have hr64 : r < 64 := by omega
    haveI : Ok (r + (64 - r) ≤ (blkL key ((place + d) / 64 % 2 ^ IntKind.u32.bits) nonce).length ∧ 64 - r ≤ 64 - r) := ⟨by simp; omega, Nat.le_refl _⟩
    refine c_seq (c_region ?_)
    refine s_p p_move ?_
    refine s_p p_nilcheck ?_
    refine s_p p_field0 ?_
    refine s_p (p_load_one rfl (strC_place hk hn)) ?_
    refine s_p (p_nat (p_remn (b := 64)) hr) ?_
    refine s_p (p_eq (p_slice_arr_lo rfl rfl) (v' := .slice (some ⟨b8, r, none⟩) (64 - r) (64 - r)) (by simp)) ?_
    refine s_p p_assign ?_
    refine g_nil (f_next ?_)
    refine c_seq (c_region ?_)
    refine s_p p_move ?_
    refine s_p (p_len rfl) ?_
    refine s_p p_move ?_
    refine s_p (p_len rfl) ?_
    refine s_p p_move ?_
    refine s_p p_subn ?_
    refine s_p p_min ?_
    refine s_p p_assign ?_
    refine g_nil (f_next ?_)
    refine c_seq ?_
    obtain ⟨k, hkk⟩ : ∃ k, min (64 - r) (n - d) = k := ⟨_, rfl⟩
    rw [hkk]
    refine c_seq (c_region ?_)
    refine s_p p_move ?_
    refine s_p (p_move (v := .int .i64 ((0 : Nat) : Int))) ?_
    refine g_nil (f_next ?_)
    refine c_block ?_
    refine c_lp (X := Nat) (fun i => k - i) (fun c i => i ≤ k) (fun i => [(59, .int .i64 (i : Int))]) [(0, _), (1, _), (6, _), (7, _), (9, _), (10, _), (58, _)] (fun i => [.blk b8 (.cells (us .u8 (blkL key ((place + d) / 64 % 2 ^ IntKind.u32.bits) nonce)).toArray 128 (0, 0)), .sl v25 5 1 n (us .u8 (fillL (xoF key nonce place l) n (d + i))), strE p key nonce (place + d)]) 0 (by omega) ⟨rfl, rfl, rfl, rfl, rfl, rfl, rfl, trivial⟩ (hr := fun i hi => ?_)
    refine c_seq (c_region ?_)
    refine s_p p_lss ?_
    refine g_nil (f_next ?_)
    refine c_seq ?_
    refine c_cond_dec rfl (fun h60 => ?_) (fun h60 => ?_)
    · skip
      have hfl := fillL_length (xoF key nonce place l) (n := n) (k := d + i) (by omega)
      refine c_skip (f_next ?_)
      refine c_seq ?_
      refine c_block ?_
      refine c_seq (c_region ?_)
      refine s_p p_move ?_
      refine s_p p_assign ?_
      refine g_nil (f_next ?_)
      refine (c_run [.p, .p, .p, .p, .p, .p, .p, .p, .r, .r, .p, .p, .r, .r, .p, .r, .x2] [0, 1, 2, 3, 4, 5, 6, 7, 8, 9, 10, 11, 12, 13, 14, 15, 16] (by kernel_rfl) fun hn14 => ?_)
      refine d_p rfl p_move ?_
      refine d_p rfl p_move ?_
      refine d_p rfl p_move ?_
      refine d_p rfl p_addn ?_
      refine d_p rfl p_move ?_
      refine d_p rfl p_move ?_
      refine d_p rfl p_move ?_
      refine d_p rfl p_addn ?_
      refine d_r hn14 rfl (p_ix_sl1 rfl rfl) ?_
      refine d_r hn14 rfl (p_load_slu rfl) ?_
      refine d_p rfl p_move ?_
      refine d_p rfl p_move ?_
      refine d_r hn14 rfl (p_ix_sl1 rfl rfl) ?_
      refine d_r hn14 rfl (p_nat (p_load_slu rfl (by simp; omega)) (ks_at key nonce hr (by omega))) ?_
      refine d_p rfl p_xoru ?_
      refine d_r hn14 rfl (p_ix_sl1 rfl rfl) ?_
      refine d_s2 rfl (e_store_slu rfl rfl (by omega) (l' := fillL (xoF key nonce place l) n (d + (i + 1))) (h := ?_) (hl := fillL_set _ (by omega) rfl))
      refine d_nil (f_block_normal (f_next ?_))
      refine c_region ?_
      refine s_p (p_addn (b := 1)) ?_
      refine s_p p_move ?_
      refine g_nil ?_
      exact f_rd (i + 1) (by show i + 1 ≤ k; omega) (by show k - (i + 1) < k - i; omega)
    refine c_exit (f_pass_exit (f_pass_exit (f_block_exit (f_next ?_))))
    obtain rfl : i = k := by omega
    refine c_seq (c_region ?_)
    refine s_p p_move ?_
    refine s_p p_move ?_
    refine s_p p_addn ?_
    refine s_p p_assign ?_
    refine g_nil (f_next ?_)
    refine c_region ?_
    refine s_p p_move ?_
    refine s_p p_nilcheck ?_
    refine s_p p_field0 ?_
    refine s_p (p_load_one rfl (strC_place hk hn)) ?_
    refine s_p p_move ?_
    refine s_p p_convw ?_
    refine s_p p_adduw ?_
    refine s_p p_nilcheck ?_
    refine s_p p_field0 ?_
    refine s_x0 (e_store_c rfl rfl (cs' := strC key nonce (place + (d + i))) (by rw [strC_setplace hk hn, Nat.add_assoc]) (by rw [strC_length hk hn]; omega) (h := ?_))
    refine g_nil (f_block_normal ?_)
    exact f_rd (d + i) (by show d + i ≤ n; omega) (by show n - (d + i) < n - d; omega)
  refine c_exit (f_pass_exit (f_pass_exit (f_block_exit (f_next ?_))))
  obtain rfl : d = n := by omega
  have hfin : fillL (xoF key nonce place l) d d = xorL key nonce place l := by rw [fillL_all, xorL, hl]
  rw [hfin]
  refine c_seq (c_region ?_)
  refine s_p p_move ?_
  refine s_p p_assign ?_
  refine s_p (p_assign (v := .int .i64 ((0 : Nat) : Int))) ?_
  refine g_nil (f_next ?_)
  refine c_ret ?_
  exact f_r2 (Or.inl rfl) Tryd.results74 ⟨_, rfl, rfl⟩

theorem xor_ok (key nonce : List Nat) (ctr : Nat) (v : Value) (n : Nat) (l : List Nat) [hc : Fits ctr .u32] [hku : Us .u8 key] [hnu : Us .u8 nonce] [hlu : Us .u8 l] (hk : key.length = 32) (hn : nonce.length = 12) (hfit : 64 * ctr + n ≤ 274877906944) : Fn Tryd.prog 54 [.agg (us .u8 key).toArray, .agg (us .u8 nonce).toArray, .int .u32 (ctr : Int), v] [] [rdF v 1 n (us .u8 l)] (fun u B' => ∃ w, u = .tuple #[w, .int .i64 0] ∧ B' = [.sl w 5 1 n (us .u8 (xorL key nonce (64 * ctr) l))]) := by
  refine fn_enter Tryd.func54 rfl Tryd.ntmps54 rfl fun w => ?_
  refine c_seq (c_region ?_)
  refine s_x (e_box rfl rfl fun b4 => ?_)
  refine s_x (e_box rfl rfl fun b5 => ?_)
  refine s_p p_assign ?_
  refine s_p (p_assign (v := .int .i64 ((0 : Nat) : Int))) ?_
  refine g_nil (f_next ?_)
  refine c_seq (c_region ?_)
  refine s_p (p_load_all rfl) ?_
  refine s_p (p_load_all rfl) ?_
  refine s_p p_move ?_
  refine s_x (e_callx (snew_ok key nonce ctr hk hn) (h := fun v13 B13 h13 => ?_))
  obtain ⟨p13, rfl, rfl⟩ := h13
  simp only [List.cons_append, List.nil_append]
  refine s_p p_move ?_
  refine s_x (e_callx (sxor_ok p13 key nonce (64 * ctr) v n l hk hn hfit) (h := fun v15 B15 h15 => ?_))
  obtain ⟨w15, rfl, rfl⟩ := h15
  simp only [List.cons_append, List.nil_append]
  refine s_p (p_ext rfl rfl) ?_
  refine s_p (p_ext rfl rfl) ?_
  refine s_p p_assign ?_
  refine s_p p_assign ?_
  refine g_nil (f_next ?_)
  refine c_ret ?_
  exact f_r2 (Or.inl rfl) Tryd.results54 ⟨_, rfl, rfl⟩

end Go.Tw
end

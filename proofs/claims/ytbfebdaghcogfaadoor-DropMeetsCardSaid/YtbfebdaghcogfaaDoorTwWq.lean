/- Walks through functions that the statement reaches: what each computes. -/
import Derived.Test.YtbfebdaghcogfaaDoorTwWn
section
namespace Go.Tw
open Go Go.Proofs

theorem tword_ok (l : List Nat) [hu : Us .u8 l] (h8 : l.length = 8) : Fn Tryd.prog 92 [.agg (us .u8 l).toArray] [] [] (fun u B' => u = .int .u64 (leN l : Int) ∧ B' = []) := by
  refine fn_enter Tryd.func92 rfl Tryd.ntmps92 rfl fun w => ?_
  refine c_seq (c_region ?_)
  refine s_x (e_box rfl rfl fun b1 => ?_)
  refine s_p (p_assign (v := .int .u64 ((0 : Nat) : Int))) ?_
  refine g_nil (f_next ?_)
  refine c_seq (c_region ?_)
  refine s_p (p_eq (p_assign) (v' := .int .u64 (leN (l.drop (8 - 0)) : Int)) (by rw [List.drop_of_length_le (by omega)]; rfl)) ?_
  refine g_nil (f_next ?_)
  refine c_seq ?_
  refine c_seq (c_region ?_)
  refine s_p (p_assign (v := .int .i64 ((7 : Nat) : Int))) ?_
  refine g_nil (f_next ?_)
  refine c_block ?_
  refine c_lp (X := Nat) (fun x => 8 - x) (fun c x => x ≤ 8) (fun x => [(3, .int .u64 (leN (l.drop (8 - x)) : Int)), (4, .int .i64 ((7 : Int) - (x : Int)))]) [(1, _)] (fun x => [.blk b1 (.cells (us .u8 l).toArray 156 (0, 0))]) 0 (by first | omega | trivial) ⟨rfl, trivial⟩ (hr := fun x hx => ?_)
  refine c_seq ?_
  refine c_seq (c_region ?_)
  refine s_p p_move ?_
  refine s_p (p_geqi (b := 0)) ?_
  refine g_nil (f_next ?_)
  refine c_cond_dec rfl (fun h6 => ?_) (fun h6 => ?_)
  · skip
    have hx8 : x < 8 := by have := of_decide_eq_true (show decide ((0 : Int) ≤ 7 - (x : Int)) = true by simpa using h6); omega
    haveI : Fits (leN (l.drop (8 - x))) .u64 := ⟨Nat.lt_of_lt_of_le (leN_lt _) (by rw [List.length_drop, h8]; exact Nat.le_trans (Nat.pow_le_pow_right (by decide) (by omega : 8 - (8 - x) ≤ 8)) (by decide))⟩
    refine c_skip (f_next ?_)
    refine c_seq ?_
    refine c_block ?_
    refine c_region ?_
    refine s_p p_move ?_
    refine s_p (p_shlu (b := 8)) ?_
    refine s_p (p_ie p_move (b := ((7 - x : Nat) : Int)) (by omega)) ?_
    refine s_p p_ix_arr0 ?_
    refine s_p (p_load_u rfl) ?_
    refine s_p p_convw ?_
    refine s_p (p_nat p_oru (leN_cons_step h8 hx8)) ?_
    refine s_p p_assign ?_
    refine g_nil (f_block_normal (f_next ?_))
    refine c_region ?_
    refine s_p p_move ?_
    refine s_p (p_ie (p_subi (b := 1) rfl rfl (by omega) (by omega)) (b := (7 : Int) - ((x + 1 : Nat) : Int)) (by omega)) ?_
    refine s_p p_assign ?_
    refine g_nil ?_
    exact f_rd (x + 1)
  refine c_exit (f_pass_exit (f_pass_exit (f_block_exit (f_next ?_))))
  obtain rfl : x = 8 := by omega
  refine c_seq (c_region ?_)
  refine s_p p_move ?_
  refine s_p p_assign ?_
  refine g_nil (f_next ?_)
  refine c_ret ?_
  exact f_r1 (Or.inl rfl) Tryd.results92 ⟨rfl, rfl⟩

instance fits_mod64 {x : Nat} : Fits (x % 2 ^ 64) .u64 := ⟨Nat.mod_lt _ (by decide)⟩
instance fits_muldiv {x y : Nat} [hx : Fits x .u64] [hy : Fits y .u64] : Fits (x * y / 2 ^ 64) .u64 := ⟨by
  have h1 := hx.lt; have h2 := hy.lt
  simp only [IntKind.bits] at *
  refine Nat.div_lt_of_lt_mul ?_
  exact Nat.mul_lt_mul'' h1 h2⟩
def tmul (x y : Nat) : List Nat := [x * y % 2 ^ IntKind.u64.bits, x * y / 2 ^ 64]
instance {x y : Nat} [Fits x .u64] [Fits y .u64] : Us .u64 (tmul x y) := by unfold tmul; infer_instance
@[simp] theorem tmul_length (x y : Nat) : (tmul x y).length = 2 := rfl
def tadd (a b : List Nat) : List Nat := [(a.getD 0 0 + b.getD 0 0 + 0) % 2 ^ 64, (a.getD 1 0 + b.getD 1 0 + (a.getD 0 0 + b.getD 0 0 + 0) / 2 ^ 64) % 2 ^ 64]
instance {a b : List Nat} : Us .u64 (tadd a b) := by unfold tadd; infer_instance
@[simp] theorem tadd_length (a b : List Nat) : (tadd a b).length = 2 := rfl
def tplus (h x : List Nat) : List Nat :=
  ((h.set 0 ((h.getD 0 0 + x.getD 0 0 + 0) % 2 ^ 64)).set 1 (((h.set 0 ((h.getD 0 0 + x.getD 0 0 + 0) % 2 ^ 64)).getD 1 0 + x.getD 1 0 + (h.getD 0 0 + x.getD 0 0 + 0) / 2 ^ 64) % 2 ^ 64)).set 2 ((((h.set 0 ((h.getD 0 0 + x.getD 0 0 + 0) % 2 ^ 64)).set 1 (((h.set 0 ((h.getD 0 0 + x.getD 0 0 + 0) % 2 ^ 64)).getD 1 0 + x.getD 1 0 + (h.getD 0 0 + x.getD 0 0 + 0) / 2 ^ 64) % 2 ^ 64)).getD 2 0 + ((h.set 0 ((h.getD 0 0 + x.getD 0 0 + 0) % 2 ^ 64)).getD 1 0 + x.getD 1 0 + (h.getD 0 0 + x.getD 0 0 + 0) / 2 ^ 64) / 2 ^ 64) % 2 ^ IntKind.u64.bits)
instance {h x : List Nat} [Us .u64 h] : Us .u64 (tplus h x) := by unfold tplus; infer_instance
@[simp] theorem tplus_length (h x : List Nat) : (tplus h x).length = h.length := by simp [tplus]
theorem carry1 {a b c : Nat} (ha : a < 2 ^ 64) (hb : b < 2 ^ 64) (hc : c ≤ 1) : (a + b + c) / 2 ^ 64 ≤ 1 := by omega
theorem Us.lt64 {l : List Nat} (h : Us .u64 l) (i : Nat) : l.getD i 0 < 2 ^ 64 := h.getD_lt i

theorem tmul_ok (x y : Nat) [Fits x .u64] [Fits y .u64] : Fn Tryd.prog 108 [.int .u64 (x : Int), .int .u64 (y : Int)] [] [] (fun u B' => u = .agg (us .u64 (tmul x y)).toArray ∧ B' = []) := by
  refine fn_enter Tryd.func108 rfl Tryd.ntmps108 rfl fun w => ?_
  refine c_seq (c_region ?_)
  refine s_x (e_alloc fun b4 => ?_)
  refine g_nil (f_next ?_)
  refine c_seq (c_region ?_)
  refine s_p p_move ?_
  refine s_p p_move ?_
  refine s_x (e_callp (mul64_ok _ _) (h := ?_))
  refine s_p p_move ?_
  refine s_p (p_ext rfl rfl) ?_
  refine s_p (p_ext rfl rfl) ?_
  refine s_p p_assign ?_
  refine s_p p_assign ?_
  refine g_nil (f_next ?_)
  refine c_seq (c_region ?_)
  refine s_p p_move ?_
  refine s_p p_move ?_
  refine s_p (p_bstr (cells := us .u64 (tmul x y)) rfl) ?_
  refine s_x0 (e_store_all rfl rfl rfl (h := ?_))
  refine g_nil (f_next ?_)
  refine c_ret ?_
  exact f_rm (Or.inl rfl) Tryd.results108 ⟨rfl, rfl⟩

theorem tadd_ok (a b : List Nat) [ha : Us .u64 a] [hb : Us .u64 b] (hal : a.length = 2) (hbl : b.length = 2) : Fn Tryd.prog 109 [.agg (us .u64 a).toArray, .agg (us .u64 b).toArray] [] [] (fun u B' => u = .agg (us .u64 (tadd a b)).toArray ∧ B' = []) := by
  refine fn_enter Tryd.func109 rfl Tryd.ntmps109 rfl fun w => ?_
  refine c_seq (c_region ?_)
  refine s_x (e_box rfl rfl fun b2 => ?_)
  refine s_x (e_box rfl rfl fun b3 => ?_)
  refine s_x (e_alloc fun b4 => ?_)
  refine g_nil (f_next ?_)
  refine c_seq (c_region ?_)
  refine s_p p_field0 ?_
  refine s_p (p_load_u rfl) ?_
  refine s_p p_field0 ?_
  refine s_p (p_load_u rfl) ?_
  refine s_x (e_ext (add64_r (a.getD 0 0) (b.getD 0 0) 0 (by decide)) (h := ?_))
  refine s_p p_move ?_
  refine s_p (p_ext rfl rfl) ?_
  refine s_p (p_ext rfl rfl) ?_
  refine s_p p_assign ?_
  refine s_p p_assign ?_
  refine g_nil (f_next ?_)
  refine c_seq (c_region ?_)
  refine s_p p_field0 ?_
  refine s_p (p_load_u rfl) ?_
  refine s_p p_field0 ?_
  refine s_p (p_load_u rfl) ?_
  refine s_p p_move ?_
  refine s_x (e_ext (add64_r (a.getD 1 0) (b.getD 1 0) ((a.getD 0 0 + b.getD 0 0 + 0) / 2 ^ 64) (carry1 (ha.lt64 _) (hb.lt64 _) (by decide))) (h := ?_))
  refine s_p p_move ?_
  refine s_p (p_ext rfl rfl) ?_
  refine s_p (p_ext rfl rfl) ?_
  refine s_p p_assign ?_
  refine s_p p_assign ?_
  refine g_nil (f_next ?_)
  refine c_seq (c_region ?_)
  refine s_p p_move ?_
  refine s_p p_move ?_
  refine s_p (p_bstr (cells := us .u64 (tadd a b)) rfl) ?_
  refine s_x0 (e_store_all rfl rfl rfl (h := ?_))
  refine g_nil (f_next ?_)
  refine c_ret ?_
  exact f_rm (Or.inl rfl) Tryd.results109 ⟨rfl, rfl⟩

theorem tplus_ok (h x : List Nat) [hh : Us .u64 h] [hx : Us .u64 x] (hhl : h.length = 3) (hxl : x.length = 2) : Fn Tryd.prog 110 [.agg (us .u64 h).toArray, .agg (us .u64 x).toArray] [] [] (fun u B' => u = .agg (us .u64 (tplus h x)).toArray ∧ B' = []) := by
  refine fn_enter Tryd.func110 rfl Tryd.ntmps110 rfl fun w => ?_
  refine c_seq (c_region ?_)
  refine s_x (e_box rfl rfl fun b2 => ?_)
  refine s_x (e_box rfl rfl fun b3 => ?_)
  refine s_x (e_alloc fun b4 => ?_)
  refine g_nil (f_next ?_)
  refine c_seq (c_region ?_)
  refine s_p (p_assign (v := .int .u64 ((0 : Nat) : Int))) ?_
  refine g_nil (f_next ?_)
  refine c_seq (c_region ?_)
  refine s_p p_ix_arr0 ?_
  refine s_p (p_load_u rfl) ?_
  refine s_p p_field0 ?_
  refine s_p (p_load_u rfl) ?_
  refine s_x (e_ext (add64_r (h.getD 0 0) (x.getD 0 0) 0 (by decide)) (h := ?_))
  refine s_p p_move ?_
  refine s_p (p_ext rfl rfl) ?_
  refine s_p (p_ext rfl rfl) ?_
  refine s_p p_ix_arr0 ?_
  refine s_x0 (e_store_u rfl rfl (h := ?_))
  refine s_p p_assign ?_
  refine g_nil (f_next ?_)
  refine c_seq (c_region ?_)
  refine s_p p_ix_arr0 ?_
  refine s_p (p_load_u rfl) ?_
  refine s_p p_field0 ?_
  refine s_p (p_load_u rfl) ?_
  refine s_p p_move ?_
  refine s_x (e_ext (add64_r ((h.set 0 ((h.getD 0 0 + x.getD 0 0 + 0) % 2 ^ 64)).getD 1 0) (x.getD 1 0) ((h.getD 0 0 + x.getD 0 0 + 0) / 2 ^ 64) (carry1 (hh.lt64 _) (hx.lt64 _) (by decide))) (h := ?_))
  refine s_p p_move ?_
  refine s_p (p_ext rfl rfl) ?_
  refine s_p (p_ext rfl rfl) ?_
  refine s_p p_ix_arr0 ?_
  refine s_x0 (e_store_u rfl rfl (h := ?_))
  refine s_p p_assign ?_
  refine g_nil (f_next ?_)
  refine c_seq (c_region ?_)
  refine s_p p_ix_arr0 ?_
  refine s_p (p_load_u rfl) ?_
  refine s_p p_move ?_
  refine s_p p_addu ?_
  refine s_p p_ix_arr0 ?_
  refine s_x0 (e_store_u rfl rfl (l' := tplus h x) (h := ?_))
  refine g_nil (f_next ?_)
  refine c_seq (c_region ?_)
  refine s_p (p_load_all rfl) ?_
  refine s_x0 (e_store_all rfl rfl rfl (h := ?_))
  refine g_nil (f_next ?_)
  refine c_ret ?_
  exact f_rm (Or.inl rfl) Tryd.results110 ⟨rfl, rfl⟩

section
variable (h r : List Nat)
def tm0 : List Nat := tmul (h.getD 0 0) (r.getD 0 0)
def tm1 : List Nat := tadd (tmul (h.getD 1 0) (r.getD 0 0)) (tmul (h.getD 0 0) (r.getD 1 0))
def tm2 : List Nat := tadd (tmul (h.getD 2 0) (r.getD 0 0)) (tmul (h.getD 1 0) (r.getD 1 0))
def tm3 : List Nat := tmul (h.getD 2 0) (r.getD 1 0)
def tt1 : Nat := (tm1 h r).getD 0 0 + (tm0 h r).getD 1 0 + 0
def tt2 : Nat := (tm2 h r).getD 0 0 + (tm1 h r).getD 1 0 + tt1 h r / 2 ^ 64
def tt3 : Nat := (tm3 h r).getD 0 0 + (tm2 h r).getD 1 0 + tt2 h r / 2 ^ 64
def tout : List Nat := [(tm0 h r).getD 0 0, tt1 h r % 2 ^ 64, tt2 h r % 2 ^ 64 &&& 3]
def tfour : List Nat := [tt2 h r % 2 ^ 64 &&& (2 ^ IntKind.u64.bits - 1 - 3), tt3 h r % 2 ^ 64]
def tquar : List Nat := [(tfour h r).getD 0 0 >>> 2 ||| ((tfour h r).getD 1 0 <<< 62) % 2 ^ IntKind.u64.bits, (tfour h r).getD 1 0 >>> 2]
/-- h times r, modulo 2^130 - 5 but for a multiple. -/
def ttimes : List Nat := tplus (tplus (tout h r) (tfour h r)) (tquar h r)
instance [Us .u64 h] [Us .u64 r] : Us .u64 (tm0 h r) := by unfold tm0; infer_instance
instance : Us .u64 (tm1 h r) := by unfold tm1; infer_instance
instance : Us .u64 (tm2 h r) := by unfold tm2; infer_instance
instance [Us .u64 h] [Us .u64 r] : Us .u64 (tm3 h r) := by unfold tm3; infer_instance
@[simp] theorem tm0_length : (tm0 h r).length = 2 := rfl
@[simp] theorem tm1_length : (tm1 h r).length = 2 := rfl
@[simp] theorem tm2_length : (tm2 h r).length = 2 := rfl
@[simp] theorem tm3_length : (tm3 h r).length = 2 := rfl
instance [Us .u64 h] [Us .u64 r] : Us .u64 (tout h r) := by unfold tout; infer_instance
instance [Us .u64 h] [Us .u64 r] : Us .u64 (tfour h r) := by unfold tfour; infer_instance
instance [Us .u64 h] [Us .u64 r] : Us .u64 (tquar h r) := by unfold tquar; infer_instance
@[simp] theorem tout_length : (tout h r).length = 3 := rfl
@[simp] theorem tfour_length : (tfour h r).length = 2 := rfl
@[simp] theorem tquar_length : (tquar h r).length = 2 := rfl
@[simp] theorem ttimes_length : (ttimes h r).length = 3 := by simp [ttimes]
instance [Us .u64 h] [Us .u64 r] : Us .u64 (ttimes h r) := by unfold ttimes; infer_instance
end
instance : Fits 3 .u64 := ⟨by decide⟩

theorem ttimes_ok (h r : List Nat) [hh : Us .u64 h] [hr : Us .u64 r] (hhl : h.length = 3) (hrl : r.length = 2) : Fn Tryd.prog 103 [.agg (us .u64 h).toArray, .agg (us .u64 r).toArray] [] [] (fun u B' => u = .agg (us .u64 (ttimes h r)).toArray ∧ B' = []) := by
  refine fn_enter Tryd.func103 rfl Tryd.ntmps103 rfl fun w => ?_
  refine c_seq (c_region ?_)
  refine s_x (e_box rfl rfl fun b2 => ?_)
  refine s_x (e_box rfl rfl fun b3 => ?_)
  refine s_x (e_alloc fun b4 => ?_)
  refine g_nil (f_next ?_)
  refine c_seq (c_region ?_)
  refine s_p p_ix_arr0 ?_
  refine s_p (p_load_u rfl) ?_
  refine s_p p_ix_arr0 ?_
  refine s_p (p_load_u rfl) ?_
  refine s_x (e_callp (v := .agg (us .u64 (tm0 h r)).toArray) (tmul_ok _ _) (h := ?_))
  refine s_x (e_alloc fun b5 => ?_)
  refine s_x0 (e_store_all rfl rfl rfl (h := ?_))
  refine g_nil (f_next ?_)
  refine c_seq (c_run [.p, .r, .p, .r, .x0, .p, .r, .p, .r, .x0, .x0, .alc 177 (us .u64 (List.replicate 2 0)), .x2] [0, 1, 2, 3, 5, 6, 7, 8, 4, 9, 10, 11, 12] (by kernel_rfl) fun hn2 => ?_)
  refine d_p rfl p_ix_arr0 ?_
  refine d_r hn2 rfl (p_load_u rfl) ?_
  refine d_p rfl p_ix_arr0 ?_
  refine d_r hn2 rfl (p_load_u rfl) ?_
  refine d_p rfl p_ix_arr0 ?_
  refine d_r hn2 rfl (p_load_u rfl) ?_
  refine d_p rfl p_ix_arr0 ?_
  refine d_r hn2 rfl (p_load_u rfl) ?_
  refine d_x0 rfl (e_callp (tmul_ok _ _) (h := ⟨inferInstance, ?_⟩))
  refine d_x0 rfl (e_callp (tmul_ok _ _) (h := ⟨inferInstance, ?_⟩))
  refine d_x0 rfl (e_callp (v := .agg (us .u64 (tm1 h r)).toArray) (tadd_ok _ _ rfl rfl) (h := ⟨inferInstance, ?_⟩))
  refine d_a rfl fun b6 hb6 => ?_
  refine d_s2 rfl (e_store_all rfl rfl rfl (h := ?_))
  refine d_nil (f_next ?_)
  refine c_seq (c_run [.p, .r, .p, .r, .x0, .p, .r, .p, .r, .x0, .x0, .alc 177 (us .u64 (List.replicate 2 0)), .x2] [0, 1, 2, 3, 5, 6, 7, 8, 4, 9, 10, 11, 12] (by kernel_rfl) fun hn3 => ?_)
  refine d_p rfl p_ix_arr0 ?_
  refine d_r hn3 rfl (p_load_u rfl) ?_
  refine d_p rfl p_ix_arr0 ?_
  refine d_r hn3 rfl (p_load_u rfl) ?_
  refine d_p rfl p_ix_arr0 ?_
  refine d_r hn3 rfl (p_load_u rfl) ?_
  refine d_p rfl p_ix_arr0 ?_
  refine d_r hn3 rfl (p_load_u rfl) ?_
  refine d_x0 rfl (e_callp (tmul_ok _ _) (h := ⟨inferInstance, ?_⟩))
  refine d_x0 rfl (e_callp (tmul_ok _ _) (h := ⟨inferInstance, ?_⟩))
  refine d_x0 rfl (e_callp (v := .agg (us .u64 (tm2 h r)).toArray) (tadd_ok _ _ rfl rfl) (h := ⟨inferInstance, ?_⟩))
  refine d_a rfl fun b7 hb7 => ?_
  refine d_s2 rfl (e_store_all rfl rfl rfl (h := ?_))
  refine d_nil (f_next ?_)
  refine c_seq (c_region ?_)
  refine s_p p_ix_arr0 ?_
  refine s_p (p_load_u rfl) ?_
  refine s_p p_ix_arr0 ?_
  refine s_p (p_load_u rfl) ?_
  refine s_x (e_callp (v := .agg (us .u64 (tm3 h r)).toArray) (tmul_ok _ _) (h := ?_))
  refine s_x (e_alloc fun b8 => ?_)
  refine s_x0 (e_store_all rfl rfl rfl (h := ?_))
  refine g_nil (f_next ?_)
  refine c_seq (c_region ?_)
  refine s_p p_field0 ?_
  refine s_p (p_load_u rfl) ?_
  refine s_p p_assign ?_
  refine g_nil (f_next ?_)
  refine c_seq (c_region ?_)
  refine s_p p_field0 ?_
  refine s_p (p_load_u rfl) ?_
  refine s_p p_field0 ?_
  refine s_p (p_load_u rfl) ?_
  refine s_x (e_ext (add64_r ((tm1 h r).getD 0 0) ((tm0 h r).getD 1 0) 0 (by decide)) (h := ?_))
  refine s_p p_move ?_
  refine s_p (p_ext rfl rfl) ?_
  refine s_p (p_ext rfl rfl) ?_
  refine s_p p_assign ?_
  refine s_p p_assign ?_
  refine g_nil (f_next ?_)
  refine c_seq (c_region ?_)
  refine s_p p_field0 ?_
  refine s_p (p_load_u rfl) ?_
  refine s_p p_field0 ?_
  refine s_p (p_load_u rfl) ?_
  refine s_p p_move ?_
  refine s_x (e_ext (add64_r ((tm2 h r).getD 0 0) ((tm1 h r).getD 1 0) (tt1 h r / 2 ^ 64) (carry1 (Us.lt64 inferInstance _) (Us.lt64 inferInstance _) (by decide))) (h := ?_))
  refine s_p p_move ?_
  refine s_p (p_ext rfl rfl) ?_
  refine s_p (p_ext rfl rfl) ?_
  refine s_p p_assign ?_
  refine s_p p_assign ?_
  refine g_nil (f_next ?_)
  refine c_seq (c_region ?_)
  refine s_p p_field0 ?_
  refine s_p (p_load_u rfl) ?_
  refine s_p p_field0 ?_
  refine s_p (p_load_u rfl) ?_
  refine s_p p_move ?_
  refine s_x (e_ext (add64_r ((tm3 h r).getD 0 0) ((tm2 h r).getD 1 0) (tt2 h r / 2 ^ 64) (carry1 (Us.lt64 inferInstance _) (Us.lt64 inferInstance _) (carry1 (Us.lt64 inferInstance _) (Us.lt64 inferInstance _) (by decide)))) (h := ?_))
  refine s_p p_move ?_
  refine s_p (p_ext rfl rfl) ?_
  refine s_p (p_ext rfl rfl) ?_
  refine s_p p_assign ?_
  refine s_p p_assign ?_
  refine g_nil (f_next ?_)
  refine c_seq (c_region ?_)
  refine s_p p_move ?_
  refine s_p p_move ?_
  refine s_p p_move ?_
  refine s_p (p_andu (b := 3)) ?_
  refine s_p (p_barr (cells := us .u64 (tout h r)) rfl) ?_
  refine s_x (e_alloc fun b15 => ?_)
  refine s_x0 (e_store_all rfl rfl rfl (h := ?_))
  refine g_nil (f_next ?_)
  refine c_seq (c_region ?_)
  refine s_p p_move ?_
  refine s_p (p_andnotu (b := 3)) ?_
  refine s_p p_move ?_
  refine s_p (p_bstr (cells := us .u64 (tfour h r)) rfl) ?_
  refine s_x (e_alloc fun b16 => ?_)
  refine s_x0 (e_store_all rfl rfl rfl (h := ?_))
  refine g_nil (f_next ?_)
  refine c_seq (c_region ?_)
  refine s_p (p_load_all rfl) ?_
  refine s_p (p_load_all rfl) ?_
  refine s_x (e_callp (tplus_ok (tout h r) (tfour h r) rfl rfl) (h := ?_))
  refine s_x0 (e_store_all rfl rfl rfl (h := ?_))
  refine g_nil (f_next ?_)
  refine c_seq (c_region ?_)
  refine s_p (p_load_all rfl) ?_
  refine s_p p_field0 ?_
  refine s_p (p_load_u rfl) ?_
  refine s_p (p_shru (b := 2)) ?_
  refine s_p p_field0 ?_
  refine s_p (p_load_u rfl) ?_
  refine s_p (p_shlu (b := 62)) ?_
  refine s_p p_oru ?_
  refine s_p p_field0 ?_
  refine s_p (p_load_u rfl) ?_
  refine s_p (p_shru (b := 2)) ?_
  refine s_p (p_bstr (cells := us .u64 (tquar h r)) rfl) ?_
  refine s_x (e_callp (v := .agg (us .u64 (ttimes h r)).toArray) (tplus_ok (tplus (tout h r) (tfour h r)) (tquar h r) (by simp) rfl) (h := ?_))
  refine s_x0 (e_store_all rfl rfl rfl (h := ?_))
  refine g_nil (f_next ?_)
  refine c_ret ?_
  exact f_rm (Or.inl rfl) Tryd.results103 ⟨rfl, rfl⟩

/-- A Poly in memory. -/
def polyC (r s h rest : List Nat) (used : Nat) : List Value := us .u64 r ++ (us .u64 s ++ (us .u64 h ++ (us .u8 rest ++ [.int .i64 (used : Int)])))
section
variable {r s h rest : List Nat} {used : Nat} (hr : r.length = 2) (hs : s.length = 2) (hh : h.length = 3)
include hr
theorem polyC_r : ((polyC r s h rest used).drop 0).take 2 = us .u64 r := by
  rw [List.drop_zero, polyC, List.take_append_of_le_length (by simp [hr]), List.take_of_length_le (by simp [hr])]
theorem polyC_setr {i x : Nat} (hi : i < 2) {r' : List Nat} (e : r.set i x = r') : (polyC r s h rest used).set (0 + i) (.int .u64 (x : Int)) = polyC r' s h rest used := by
  rw [Nat.zero_add, polyC, List.set_append_left _ _ (by simp [hr]; omega), us_set, e]; rfl
include hs
theorem polyC_sets {i x : Nat} (hi : i < 2) {s' : List Nat} (e : s.set i x = s') : (polyC r s h rest used).set (2 + i) (.int .u64 (x : Int)) = polyC r s' h rest used := by
  rw [polyC, List.set_append_right _ _ (by simp [hr]), List.set_append_left _ _ (by simp [hr, hs]; omega)]
  simp only [us_length, hr, Nat.add_sub_cancel_left, us_set, e]; rfl
theorem polyC_s {i : Nat} (hi : i < 2) : (polyC r s h rest used)[2 + i]? = some (.int .u64 (s.getD i 0 : Int)) := by
  rw [polyC, List.getElem?_append_right (by simp [hr]), List.getElem?_append_left (by simp [hr, hs]; omega)]
  simp only [us_length, hr, Nat.add_sub_cancel_left]
  exact us_get (by omega)
include hh
theorem polyC_h : ((polyC r s h rest used).drop 4).take 3 = us .u64 h := by
  rw [polyC, List.drop_append, List.drop_of_length_le (by simp [hr]), List.drop_append, List.drop_of_length_le (by simp [hr, hs])]
  simp only [us_length, hr, hs, List.nil_append, Nat.reduceSub, List.drop_zero]
  rw [List.take_append_of_le_length (by simp [hh]), List.take_of_length_le (by simp [hh])]
theorem polyC_puth {h' : List Nat} (_hh' : h'.length = 3) : (polyC r s h rest used).take 4 ++ us .u64 h' ++ (polyC r s h rest used).drop (4 + 3) = polyC r s h' rest used := by
  have e1 : (polyC r s h rest used).take 4 = us .u64 r ++ us .u64 s := by
    rw [polyC, ← List.append_assoc, List.take_append_of_le_length (by simp [hr, hs]), List.take_of_length_le (by simp [hr, hs])]
  have e2 : (polyC r s h rest used).drop (4 + 3) = us .u8 rest ++ [.int .i64 (used : Int)] := by
    rw [polyC, ← List.append_assoc, ← List.append_assoc, List.drop_append, List.drop_of_length_le (by simp [hr, hs, hh])]
    simp [hr, hs, hh]
  rw [e1, e2, polyC]
  simp only [List.append_assoc]
variable (hb : rest.length = 16)
include hb
theorem polyC_length : (polyC r s h rest used).length = 24 := by simp [polyC, hr, hs, hh, hb]
theorem polyC_rest : ((polyC r s h rest used).drop 7).take 16 = us .u8 rest := by
  rw [polyC, ← List.append_assoc, ← List.append_assoc, List.drop_append, List.drop_of_length_le (by simp [hr, hs, hh])]
  simp [hr, hs, hh, hb]
theorem polyC_used : (polyC r s h rest used)[23]? = some (.int .i64 (used : Int)) := by
  rw [polyC, List.getElem?_append_right (by simp [hr]), List.getElem?_append_right (by simp [hr, hs]), List.getElem?_append_right (by simp [hr, hs, hh]), List.getElem?_append_right (by simp [hr, hs, hh, hb])]
  simp [hr, hs, hh, hb]
theorem polyC_setused {x : Nat} : (polyC r s h rest used).set 23 (.int .i64 (x : Int)) = polyC r s h rest x := by
  rw [polyC, List.set_append_right _ _ (by simp [hr]), List.set_append_right _ _ (by simp [hr, hs]), List.set_append_right _ _ (by simp [hr, hs, hh]), List.set_append_right _ _ (by simp [hr, hs, hh, hb])]
  simp [hr, hs, hh, hb, polyC]
theorem polyC_putrest {t : List Nat} {j k : Nat} (hk : t.length = k) (hj : j + k ≤ 16) : (polyC r s h rest used).take (7 + j * 1) ++ us .u8 t ++ (polyC r s h rest used).drop (7 + j * 1 + k) = polyC r s h (putL rest t j) used := by
  subst hk
  rw [Nat.mul_one]
  have e0 : polyC r s h rest used = (us .u64 r ++ us .u64 s ++ us .u64 h) ++ (us .u8 rest ++ [.int .i64 (used : Int)]) := by simp [polyC]
  have hl : (us .u64 r ++ us .u64 s ++ us .u64 h).length = 7 := by simp [hr, hs, hh]
  have e1 : (polyC r s h rest used).take (7 + j) = us .u64 r ++ us .u64 s ++ us .u64 h ++ us .u8 (rest.take j) := by
    rw [e0, List.take_append, List.take_of_length_le (by omega), hl, Nat.add_sub_cancel_left, List.take_append_of_le_length (by simp [hb]; omega), us_take]
  have e2 : (polyC r s h rest used).drop (7 + j + t.length) = us .u8 (rest.drop (j + t.length)) ++ [.int .i64 (used : Int)] := by
    rw [e0, List.drop_append, List.drop_of_length_le (by omega), List.nil_append, hl, show 7 + j + t.length - 7 = j + t.length from by omega, List.drop_append_of_le_length (by simp [hb]; omega), us_drop]
  rw [e1, e2]
  simp only [polyC, putL, ← us_append, List.append_assoc]
end
abbrev polyE (p : Nat) (r s h rest : List Nat) (used : Nat) : Ent := .blk p (.cells (polyC r s h rest used).toArray 154 (0, 0))
/-- A chunk goes in. -/
def tin (h b : List Nat) (top : Nat) : List Nat :=
  ((h.set 0 ((h.getD 0 0 + leN (b.take 8) + 0) % 2 ^ 64)).set 1 (((h.set 0 ((h.getD 0 0 + leN (b.take 8) + 0) % 2 ^ 64)).getD 1 0 + leN (b.drop 8) + (h.getD 0 0 + leN (b.take 8) + 0) / 2 ^ 64) % 2 ^ 64)).set 2 ((((h.set 0 ((h.getD 0 0 + leN (b.take 8) + 0) % 2 ^ 64)).set 1 (((h.set 0 ((h.getD 0 0 + leN (b.take 8) + 0) % 2 ^ 64)).getD 1 0 + leN (b.drop 8) + (h.getD 0 0 + leN (b.take 8) + 0) / 2 ^ 64) % 2 ^ 64)).getD 2 0 + (((h.set 0 ((h.getD 0 0 + leN (b.take 8) + 0) % 2 ^ 64)).getD 1 0 + leN (b.drop 8) + (h.getD 0 0 + leN (b.take 8) + 0) / 2 ^ 64) / 2 ^ 64 + top) % 2 ^ IntKind.u64.bits) % 2 ^ IntKind.u64.bits)
instance {h b : List Nat} {top : Nat} [Us .u64 h] : Us .u64 (tin h b top) := by unfold tin; infer_instance
@[simp] theorem tin_length (h b : List Nat) (top : Nat) : (tin h b top).length = h.length := by simp [tin]
theorem leN_lt64 {l : List Nat} [Us .u8 l] (h : l.length = 8) : leN l < 2 ^ 64 := by
  have := leN_lt l; rw [h] at this; exact this

theorem ttake_ok (p : Nat) (r s h rest b : List Nat) (used top : Nat) [hru : Us .u64 r] [hhu : Us .u64 h] [hbu : Us .u8 b] (hr : r.length = 2) (hs : s.length = 2) (hh : h.length = 3) (hrest : rest.length = 16) (hb : b.length = 16) : Fn Tryd.prog 93 [ptr p 0, .agg (us .u8 b).toArray, .int .u64 (top : Int)] [polyE p r s h rest used] [] (fun u B' => u = .tuple #[] ∧ B' = [polyE p r s (ttimes (tin h b top) r) rest used]) := by
  refine fn_enter Tryd.func93 rfl Tryd.ntmps93 rfl fun w => ?_
  haveI : Ok (0 + 8 ≤ b.length ∧ 8 ≤ 16) := ⟨by omega, by omega⟩
  haveI : Ok (8 + 8 ≤ b.length ∧ 8 ≤ 8) := ⟨by omega, by omega⟩
  have hw1 : leN (b.take 8) < 2 ^ 64 := leN_lt64 (by simp; omega)
  have hw2 : leN (b.drop 8) < 2 ^ 64 := leN_lt64 (by simp; omega)
  have hpl := polyC_length (used := used) hr hs hh hrest
  refine c_seq (c_region ?_)
  refine s_x (e_box rfl rfl fun b4 => ?_)
  refine g_nil (f_next ?_)
  refine c_seq (c_region ?_)
  refine s_p p_move ?_
  refine s_p p_nilcheck ?_
  refine s_p p_field0 ?_
  refine s_p (p_load_part rfl (polyC_h hr hs hh)) ?_
  refine s_x (e_alloc fun b6 => ?_)
  refine s_x0 (e_store_all rfl rfl rfl (h := ?_))
  refine g_nil (f_next ?_)
  refine c_seq (c_region ?_)
  refine s_p (p_assign (v := .int .u64 ((0 : Nat) : Int))) ?_
  refine g_nil (f_next ?_)
  refine c_seq (c_run [.p, .r, .p, .r, .r, .x0, .x0, .p, .p, .p, .p, .x2, .p] [0, 1, 2, 3, 4, 5, 6, 7, 8, 9, 10, 11, 12] (by kernel_rfl) fun hn3 => ?_)
  refine d_p rfl p_ix_arr0 ?_
  refine d_r hn3 rfl (p_load_u rfl) ?_
  refine d_p rfl (p_slice_arr_hi (hi := 8) rfl rfl) ?_
  refine d_r hn3 rfl (p_s2a rfl) ?_
  refine d_r hn3 rfl (p_load_sls rfl (ps := us .u8 (b.take 8)) (by simp [us_take, List.take_take]) (by simp; omega)) ?_
  refine d_x0 rfl (e_callp (tword_ok (b.take 8) (by simp; omega)) (h := ⟨inferInstance, ?_⟩))
  refine d_x0 rfl (e_ext (add64_r (h.getD 0 0) (leN (b.take 8)) 0 (by decide)) (h := ⟨inferInstance, ?_⟩))
  refine d_p rfl p_move ?_
  refine d_p rfl (p_ext rfl rfl) ?_
  refine d_p rfl (p_ext rfl rfl) ?_
  refine d_p rfl p_ix_arr0 ?_
  refine d_s2 rfl (e_store_u rfl rfl (h := ?_))
  refine d_p rfl p_assign ?_
  refine d_nil (f_next ?_)
  refine c_seq (c_run [.p, .r, .p, .r, .r, .x0, .p, .x0, .p, .p, .p, .p, .x2, .p] [0, 1, 2, 3, 4, 6, 5, 7, 8, 9, 10, 11, 12, 13] (by kernel_rfl) fun hn4 => ?_)
  refine d_p rfl p_ix_arr0 ?_
  refine d_r hn4 rfl (p_load_u rfl) ?_
  refine d_p rfl (p_eq (p_slice_arr_lo (lo := 8) rfl rfl) (v' := .slice (some ⟨b4, 8, none⟩) 8 8) (by simp)) ?_
  refine d_r hn4 rfl (p_s2a rfl) ?_
  refine d_r hn4 rfl (p_load_sls rfl (ps := us .u8 (b.drop 8)) (by rw [List.drop_zero, us_take, List.take_take]; rw [List.take_of_length_le (by simp; omega)]) (by simp; omega)) ?_
  refine d_p rfl p_move ?_
  refine d_x0 rfl (e_callp (tword_ok (b.drop 8) (by simp; omega)) (h := ⟨inferInstance, ?_⟩))
  refine d_x0 rfl (e_ext (add64_r ((h.set 0 ((h.getD 0 0 + leN (b.take 8) + 0) % 2 ^ 64)).getD 1 0) (leN (b.drop 8)) ((h.getD 0 0 + leN (b.take 8) + 0) / 2 ^ 64) (carry1 (hhu.lt64 _) hw1 (by decide))) (h := ⟨inferInstance, ?_⟩))
  refine d_p rfl p_move ?_
  refine d_p rfl (p_ext rfl rfl) ?_
  refine d_p rfl (p_ext rfl rfl) ?_
  refine d_p rfl p_ix_arr0 ?_
  refine d_s2 rfl (e_store_u rfl rfl (h := ?_))
  refine d_p rfl p_assign ?_
  refine d_nil (f_next ?_)
  refine c_seq (c_region ?_)
  refine s_p p_ix_arr0 ?_
  refine s_p (p_load_u rfl) ?_
  refine s_p p_move ?_
  refine s_p p_move ?_
  refine s_p p_addu ?_
  refine s_p p_addu ?_
  refine s_p p_ix_arr0 ?_
  refine s_x0 (e_store_u rfl rfl (l' := tin h b top) (h := ?_))
  refine g_nil (f_next ?_)
  refine (c_run [.p, .r, .p, .p, .p, .r, .x0, .p, .p, .x2] [0, 1, 2, 3, 4, 5, 6, 7, 8, 9] (by kernel_rfl) fun hn6 => ?_)
  refine d_p rfl p_move ?_
  refine d_r hn6 rfl (p_load_all rfl) ?_
  refine d_p rfl p_move ?_
  refine d_p rfl p_nilcheck ?_
  refine d_p rfl p_field0 ?_
  refine d_r hn6 rfl (p_load_part rfl (polyC_r hr)) ?_
  refine d_x0 rfl (e_callp (ttimes_ok (tin h b top) r (by simp [hh]) hr) (h := ⟨inferInstance, ?_⟩))
  refine d_p rfl p_nilcheck ?_
  refine d_p rfl p_field0 ?_
  refine d_s2 rfl (e_store_part rfl rfl rfl (cs' := polyC r s (ttimes (tin h b top) r) rest used) rfl (by exact us_one) (by rw [hpl]; simp) (polyC_puth hr hs hh (by simp)) (h := ?_))
  refine d_nil ?_
  exact f_r0 (Or.inr rfl) Tryd.results93 ⟨rfl, rfl⟩

def polyR (key : List Nat) : List Nat := [leN (key.take 8) &&& 1152921487695413247, leN ((key.drop 8).take 8) &&& 1152921487695413244]
def polyS (key : List Nat) : List Nat := [leN ((key.drop 16).take 8), leN ((key.drop 24).take 8)]
instance {key : List Nat} [Us .u8 key] : Us .u64 (polyR key) := by unfold polyR; infer_instance
instance {key : List Nat} [Us .u8 key] : Us .u64 (polyS key) := by unfold polyS; infer_instance
@[simp] theorem polyR_length (key : List Nat) : (polyR key).length = 2 := rfl
@[simp] theorem polyS_length (key : List Nat) : (polyS key).length = 2 := rfl
instance : Fits 1152921487695413247 .u64 := ⟨by decide⟩
instance : Fits 1152921487695413244 .u64 := ⟨by decide⟩

theorem tnew_ok (key : List Nat) [hku : Us .u8 key] (hk : key.length = 32) : Fn Tryd.prog 76 [.agg (us .u8 key).toArray] [] [] (fun u B' => ∃ p, u = ptr p 0 ∧ B' = [polyE p (polyR key) (polyS key) [0, 0, 0] (List.replicate 16 0) 0]) := by
  refine fn_enter Tryd.func76 rfl Tryd.ntmps76 rfl fun w => ?_
  haveI : Ok (0 + 8 ≤ key.length ∧ 8 ≤ 32) := ⟨by omega, by omega⟩
  haveI : Ok (8 + 8 ≤ key.length ∧ 8 ≤ 24) := ⟨by omega, by omega⟩
  haveI : Ok (16 + 8 ≤ key.length ∧ 8 ≤ 16) := ⟨by omega, by omega⟩
  haveI : Ok (24 + 8 ≤ key.length ∧ 8 ≤ 8) := ⟨by omega, by omega⟩
  refine c_seq (c_region ?_)
  refine s_x (e_box rfl rfl fun b1 => ?_)
  refine s_p p_assign ?_
  refine g_nil (f_next ?_)
  refine c_seq (c_region ?_)
  refine s_p (p_bstr (cells := polyC [0, 0] [0, 0] [0, 0, 0] (List.replicate 16 0) 0) rfl) ?_
  refine s_x (e_box rfl rfl fun b5 => ?_)
  refine s_p p_assign ?_
  refine g_nil (f_next ?_)
  refine c_seq (c_run [.p, .p, .r, .r, .x0, .p, .p, .p, .p, .x2] [0, 1, 2, 3, 6, 7, 4, 5, 8, 9] (by kernel_rfl) fun hn2 => ?_)
  refine d_p rfl p_move ?_
  refine d_p rfl (p_slice_arr_hi (hi := 8) rfl rfl) ?_
  refine d_r hn2 rfl (p_s2a rfl) ?_
  refine d_r hn2 rfl (p_load_sls rfl (ps := us .u8 (key.take 8)) (by simp [us_take, List.take_take]) (by simp; omega)) ?_
  refine d_p rfl p_nilcheck ?_
  refine d_p rfl p_field0 ?_
  refine d_x0 rfl (e_callp (tword_ok (key.take 8) (by simp; omega)) (h := ⟨inferInstance, ?_⟩))
  refine d_p rfl (p_andu (b := 1152921487695413247)) ?_
  refine d_p rfl p_ix_arr0 ?_
  refine d_s2 rfl (e_store_c rfl rfl (polyC_setr (r := [0, 0]) (i := 0) rfl (by decide) (r' := [leN (key.take 8) &&& 1152921487695413247, 0]) rfl) (by rw [polyC_length rfl rfl rfl rfl]; decide) (h := ?_))
  refine d_nil (f_next ?_)
  refine c_seq (c_run [.p, .p, .r, .r, .x0, .p, .p, .p, .p, .x2] [0, 1, 2, 3, 6, 7, 4, 5, 8, 9] (by kernel_rfl) fun hn3 => ?_)
  refine d_p rfl p_move ?_
  refine d_p rfl (p_eq (p_slice_arr (lo := 8) (hi := 16) rfl rfl rfl) (v' := .slice (some ⟨b1, 8, none⟩) 8 24) (by simp)) ?_
  refine d_r hn3 rfl (p_s2a rfl) ?_
  refine d_r hn3 rfl (p_load_sls rfl (ps := us .u8 ((key.drop 8).take 8)) (by simp [us_take, List.take_take]) (by simp; omega)) ?_
  refine d_p rfl p_nilcheck ?_
  refine d_p rfl p_field0 ?_
  refine d_x0 rfl (e_callp (tword_ok ((key.drop 8).take 8) (by simp; omega)) (h := ⟨inferInstance, ?_⟩))
  refine d_p rfl (p_andu (b := 1152921487695413244)) ?_
  refine d_p rfl p_ix_arr0 ?_
  refine d_s2 rfl (e_store_c rfl rfl (polyC_setr (r := [leN (key.take 8) &&& 1152921487695413247, 0]) (i := 1) rfl (by decide) (r' := polyR key) rfl) (by rw [polyC_length rfl rfl rfl rfl]; decide) (h := ?_))
  refine d_nil (f_next ?_)
  refine c_seq (c_run [.p, .p, .r, .r, .x0, .p, .p, .p, .x2] [0, 1, 2, 3, 5, 6, 4, 7, 8] (by kernel_rfl) fun hn4 => ?_)
  refine d_p rfl p_move ?_
  refine d_p rfl (p_eq (p_slice_arr (lo := 16) (hi := 24) rfl rfl rfl) (v' := .slice (some ⟨b1, 16, none⟩) 8 16) (by simp)) ?_
  refine d_r hn4 rfl (p_s2a rfl) ?_
  refine d_r hn4 rfl (p_load_sls rfl (ps := us .u8 ((key.drop 16).take 8)) (by simp [us_take, List.take_take]) (by simp; omega)) ?_
  refine d_p rfl p_nilcheck ?_
  refine d_p rfl p_field0 ?_
  refine d_x0 rfl (e_callp (tword_ok ((key.drop 16).take 8) (by simp; omega)) (h := ⟨inferInstance, ?_⟩))
  refine d_p rfl (p_ix_arr1 (off := 2) (i := 0)) ?_
  refine d_s2 rfl (e_store_c rfl rfl (polyC_sets (r := polyR key) (s := [0, 0]) (i := 0) rfl rfl (by decide) (s' := [leN ((key.drop 16).take 8), 0]) rfl) (by rw [polyC_length rfl rfl rfl rfl]; decide) (h := ?_))
  refine d_nil (f_next ?_)
  refine c_seq (c_run [.p, .p, .r, .r, .x0, .p, .p, .p, .x2] [0, 1, 2, 3, 5, 6, 4, 7, 8] (by kernel_rfl) fun hn5 => ?_)
  refine d_p rfl p_move ?_
  refine d_p rfl (p_eq (p_slice_arr_lo (lo := 24) rfl rfl) (v' := .slice (some ⟨b1, 24, none⟩) 8 8) (by simp)) ?_
  refine d_r hn5 rfl (p_s2a rfl) ?_
  refine d_r hn5 rfl (p_load_sls rfl (ps := us .u8 ((key.drop 24).take 8)) (by simp [us_take, List.take_take]) (by simp; omega)) ?_
  refine d_p rfl p_nilcheck ?_
  refine d_p rfl p_field0 ?_
  refine d_x0 rfl (e_callp (tword_ok ((key.drop 24).take 8) (by simp; omega)) (h := ⟨inferInstance, ?_⟩))
  refine d_p rfl (p_ix_arr1 (off := 2) (i := 1)) ?_
  refine d_s2 rfl (e_store_c rfl rfl (polyC_sets (r := polyR key) (s := [leN ((key.drop 16).take 8), 0]) (i := 1) rfl rfl (by decide) (s' := polyS key) rfl) (by rw [polyC_length rfl rfl rfl rfl]; decide) (h := ?_))
  refine d_nil (f_next ?_)
  refine c_seq (c_region ?_)
  refine s_p p_move ?_
  refine s_p p_assign ?_
  refine g_nil (f_next ?_)
  refine c_ret ?_
  exact f_r1 (Or.inl rfl) Tryd.results76 ⟨_, rfl, rfl⟩

/-- The sum behind all whole chunks of m. -/
def poS (r m : List Nat) : List Nat := iter (fun i h => ttimes (tin h ((m.drop (16 * i)).take 16) 1) r) [0, 0, 0] (m.length / 16)
@[simp] theorem poS_length (r m : List Nat) : (poS r m).length = 3 := by
  unfold poS
  generalize m.length / 16 = n
  cases n with
  | zero => rfl
  | succ n => exact ttimes_length _ _
instance poS_us {r m : List Nat} [Us .u64 r] : Us .u64 (poS r m) := iter_us (fun n l h => inferInstance) (by infer_instance) _
theorem poS_more (r m t : List Nat) (h : m.length % 16 + t.length < 16) : poS r (m ++ t) = poS r m := by
  unfold poS
  have e : (m ++ t).length / 16 = m.length / 16 := by simp; omega
  rw [e]
  exact iter_congr _ fun i x hi => by
    rw [List.drop_append_of_le_length (by omega), List.take_append_of_le_length (by simp; omega)]
theorem poS_full (r m t : List Nat) (h : m.length % 16 + t.length = 16) : poS r (m ++ t) = ttimes (tin (poS r m) (m.drop (16 * (m.length / 16)) ++ t) 1) r := by
  unfold poS
  have e : (m ++ t).length / 16 = m.length / 16 + 1 := by simp; omega
  have e1 : iter (fun i h => ttimes (tin h (((m ++ t).drop (16 * i)).take 16) 1) r) [0, 0, 0] (m.length / 16) = iter (fun i h => ttimes (tin h ((m.drop (16 * i)).take 16) 1) r) [0, 0, 0] (m.length / 16) := iter_congr _ fun i x hi => by
    rw [List.drop_append_of_le_length (by omega), List.take_append_of_le_length (by simp; omega)]
  have e2 : ((m ++ t).drop (16 * (m.length / 16))).take 16 = m.drop (16 * (m.length / 16)) ++ t := by
    rw [List.drop_append_of_le_length (by omega), List.take_of_length_le (by simp; omega)]
  rw [e, iter, e1, e2]
/-- What stands in the rest. -/
structure PB (m bl : List Nat) : Prop where
  us : Us .u8 bl
  len : bl.length = 16
  eq : bl.take (m.length % 16) = m.drop (16 * (m.length / 16))
theorem PB.nil : PB [] (List.replicate 16 0) := ⟨inferInstance, rfl, rfl⟩
theorem PB.more {M bl t : List Nat} (h : PB M bl) (ht : Us .u8 t) (hr : M.length % 16 + t.length < 16) : PB (M ++ t) (putL bl t (M.length % 16)) := by
  have := h.us
  have e : (M ++ t).length / 16 = M.length / 16 := by simp; omega
  have e2 : (M ++ t).length % 16 = M.length % 16 + t.length := by simp; omega
  have hl := h.len
  refine ⟨by unfold putL; infer_instance, by unfold putL; simp; omega, ?_⟩
  rw [e, e2, putL, List.take_append_of_le_length (by simp; omega), List.take_of_length_le (by simp; omega), h.eq, List.drop_append_of_le_length (by omega)]
theorem PB.full {M bl t : List Nat} (r : List Nat) (h : PB M bl) (ht : Us .u8 t) (hr : M.length % 16 + t.length = 16) : PB (M ++ t) (putL bl t (M.length % 16)) ∧ ttimes (tin (poS r M) (putL bl t (M.length % 16)) 1) r = poS r (M ++ t) := by
  have := h.us
  have hl := h.len
  have e : (M ++ t).length % 16 = 0 := by simp; omega
  refine ⟨⟨by unfold putL; infer_instance, by unfold putL; simp; omega, ?_⟩, ?_⟩
  · rw [e, List.take_zero, List.drop_of_length_le (by omega)]
  · rw [poS_full r M t hr, putL, h.eq, List.drop_of_length_le (l := bl) (by omega), List.append_nil]
abbrev polyM (p : Nat) (r s m bl : List Nat) : Ent := polyE p r s (poS r m) bl (m.length % 16)

theorem twrite_ok (p : Nat) (r s m bl : List Nat) (v : Value) (n : Nat) (l : List Nat) [hru : Us .u64 r] [hlu : Us .u8 l] (hr : r.length = 2) (hs : s.length = 2) (hb : PB m bl) (hlen : m.length + n ≤ 1152921504606846976) : Fn Tryd.prog 77 [ptr p 0, v] [polyM p r s m bl] [rdF v 1 n (us .u8 l)] (fun u B' => ∃ bl', PB (m ++ l) bl' ∧ u = .tuple #[.int .i64 (n : Int), .nilIface] ∧ B' = [polyM p r s (m ++ l) bl']) := by
  refine fn_enter Tryd.func77 rfl Tryd.ntmps77 rfl fun w => ?_
  refine c_fact (p := l.length = n) (fun _ _ s => by simpa using (s.read (f := rdF v 1 n (us .u8 l)) (by simp)).1) fun hl => ?_
  refine c_seq (c_region ?_)
  refine s_p (p_assign (v := .int .i64 ((0 : Nat) : Int))) ?_
  refine s_p p_assign ?_
  refine g_nil (f_next ?_)
  refine c_seq ?_
  refine c_seq (c_region ?_)
  refine s_p p_move ?_
  refine s_p p_eqpn ?_
  refine g_nil (f_next ?_)
  refine c_cond_false rfl ?_
  refine c_skip (f_next ?_)
  refine c_seq (c_region ?_)
  refine s_p p_move ?_
  refine s_p p_assign ?_
  refine g_own (B2 := [polyE p r s (poS r (m ++ l.take 0)) bl ((m.length + 0) % 16)]) (by simp) ?_
  refine g_nil (f_next ?_)
  refine c_seq ?_
  refine c_block ?_
  refine c_lp (X := Value × Nat × List Nat) (fun x => n - x.2.1) (fun c x => x.2.1 ≤ n ∧ PB (m ++ l.take x.2.1) x.2.2 ∧ ∀ B, Rd c B x.1 1 (n - x.2.1) (us .u8 (l.drop x.2.1))) (fun x => [(6, x.1)]) [(0, _), (1, _)] (fun x => [polyE p r s (poS r (m ++ l.take x.2.1)) x.2.2 ((m.length + x.2.1) % 16)]) (v, 0, bl) ⟨Nat.zero_le _, by simpa using hb, fun B => by show Rd _ B v 1 n (us .u8 l); infer_instance⟩ ⟨rfl, rfl, trivial⟩ (hr := fun x hx => ?_)
  obtain ⟨u, j, bl⟩ := x
  obtain ⟨hj, hB, hR⟩ := hx
  simp only at hj hB hR ⊢
  refine c_seq ?_
  refine c_seq (c_region ?_)
  refine s_p p_move ?_
  refine s_p (p_len rfl) ?_
  refine s_p (p_gtr (b := 0)) ?_
  refine g_nil (f_next ?_)
  refine c_cond_dec rfl (fun h14 => ?_) (fun h14 => ?_)
  · skip
    replace h14 : 0 < _ := h14
    have hM : (m ++ l.take j).length = m.length + j := by simp; omega
    obtain ⟨k, hk⟩ : ∃ k, min (n - j) (16 - (m.length + j) % 16) = k := ⟨_, rfl⟩
    have hk0 : 0 < k := by omega
    have hkt : ((l.drop j).take k).length = k := by simp; omega
    have h16' : (putL bl ((l.drop j).take k) ((m.length + j) % 16)).length = 16 := by have := hB.len; simp only [putL, List.length_append, List.length_take, List.length_drop, hkt]; omega
    refine c_skip (f_next ?_)
    refine c_block ?_
    refine c_seq (c_run [.p, .p, .p, .p, .p, .p, .r, .p, .p, .x2, .p] [0, 1, 2, 3, 4, 5, 6, 7, 8, 9, 10] (by kernel_rfl) fun hn5 => ?_)
    refine d_p rfl p_move ?_
    refine d_p rfl p_nilcheck ?_
    refine d_p rfl p_field0 ?_
    refine d_p rfl p_move ?_
    refine d_p rfl p_nilcheck ?_
    refine d_p rfl p_field0 ?_
    refine d_r hn5 rfl (p_load_one rfl (polyC_used hr hs (poS_length _ _) hB.len)) ?_
    refine d_p rfl (p_slice_arr_lo rfl rfl) ?_
    refine d_p rfl p_move ?_
    refine d_x2 rfl (e_copy rfl rfl hk us_one (by rw [polyC_length hr hs (poS_length _ _) hB.len]; omega) (cs' := polyC r s (poS r (m ++ l.take j)) (putL bl ((l.drop j).take k) ((m.length + j) % 16)) ((m.length + j) % 16)) (h := ?_) (hl0 := by rw [us_take]; exact polyC_putrest hr hs (poS_length _ _) hB.len hkt (by omega)))
    refine d_p rfl p_assign ?_
    refine d_nil (f_next ?_)
    refine c_seq (c_region ?_)
    refine s_p p_move ?_
    refine s_p p_nilcheck ?_
    refine s_p p_field0 ?_
    refine s_p (p_load_one rfl (polyC_used hr hs (poS_length _ _) h16')) ?_
    refine s_p p_move ?_
    refine s_p p_addn ?_
    refine s_p p_nilcheck ?_
    refine s_p p_field0 ?_
    refine s_x0 (e_store_c rfl rfl (polyC_setused hr hs (poS_length _ _) h16' (x := (m.length + j) % 16 + k)) (by rw [polyC_length hr hs (poS_length _ _) h16']; omega) (h := ?_))
    refine g_nil (f_next ?_)
    refine c_seq (c_region ?_)
    refine s_p p_move ?_
    refine s_p p_move ?_
    refine s_p (p_slice_sl_lo rfl rfl) ?_
    refine s_p p_assign ?_
    refine g_nil (f_next ?_)
    refine c_seq (c_region ?_)
    refine s_p p_move ?_
    refine s_p p_nilcheck ?_
    refine s_p p_field0 ?_
    refine s_p (p_load_one rfl (polyC_used hr hs (poS_length _ _) h16')) ?_
    refine s_p (p_eql (b := 16)) ?_
    refine g_nil (f_next ?_)
    refine c_cond_dec rfl (fun h40 => ?_) (fun h40 => ?_)
    · skip
      replace h40 : _ = 16 := h40
      have hrr : (m ++ l.take j).length % 16 + ((l.drop j).take k).length = 16 := by rw [hM, hkt]; exact h40
      obtain ⟨hB', hc⟩ := hB.full r (t := (l.drop j).take k) (by infer_instance) hrr
      rw [hM, take_more] at hB'
      rw [hM, take_more] at hc
      have := hB'.us
      refine c_seq (c_region ?_)
      refine s_p p_move ?_
      refine s_p p_move ?_
      refine s_p p_nilcheck ?_
      refine s_p p_field0 ?_
      refine s_p (p_load_part rfl (polyC_rest hr hs (poS_length _ _) h16')) ?_
      refine s_x (e_callx (ttake_ok p r s (poS r (m ++ l.take j)) (putL bl ((l.drop j).take k) ((m.length + j) % 16)) (putL bl ((l.drop j).take k) ((m.length + j) % 16)) ((m.length + j) % 16 + k) 1 hr hs (poS_length _ _) h16' h16') (h := fun v46 B46 h46 => ?_))
      obtain ⟨rfl, rfl⟩ := h46
      simp only [List.cons_append, List.nil_append]
      refine g_nil (f_next ?_)
      refine c_region ?_
      refine s_p p_move ?_
      refine s_p p_nilcheck ?_
      refine s_p p_field0 ?_
      refine s_x0 (e_store_c rfl rfl (polyC_setused hr hs (by simp) h16' (x := 0)) (by rw [polyC_length hr hs (by simp) h16']; omega) (h := ?_))
      refine g_nil (f_block_normal ?_)
      refine f_own (B2 := [polyE p r s (poS r (m ++ l.take (j + k))) (putL bl ((l.drop j).take k) ((m.length + j) % 16)) ((m.length + (j + k)) % 16)]) (by rw [hc, show (m.length + (j + k)) % 16 = 0 from by omega]) ?_
      exact f_rd (subSl u 1 k (n - j), j + k, putL bl ((l.drop j).take k) ((m.length + j) % 16)) ⟨by show j + k ≤ n; omega, hB', fun B => by have h := (hR B).dropu (lo := k) (by omega) (by simp; omega); rw [List.drop_drop, Nat.sub_sub] at h; exact h⟩ (by show n - (j + k) < n - j; omega)
    replace h40 : ¬ (_ = 16) := h40
    have hrr : (m ++ l.take j).length % 16 + ((l.drop j).take k).length < 16 := by rw [hM, hkt]; omega
    have hB' := hB.more (t := (l.drop j).take k) (by infer_instance) hrr
    have hc := poS_more r (m ++ l.take j) ((l.drop j).take k) hrr
    rw [hM, take_more] at hB'
    rw [take_more] at hc
    refine c_skip (f_block_normal ?_)
    refine f_own (B2 := [polyE p r s (poS r (m ++ l.take (j + k))) (putL bl ((l.drop j).take k) ((m.length + j) % 16)) ((m.length + (j + k)) % 16)]) (by rw [hc, show (m.length + (j + k)) % 16 = (m.length + j) % 16 + k from by rw [hM, hkt] at hrr; omega]) ?_
    exact f_rd (subSl u 1 k (n - j), j + k, putL bl ((l.drop j).take k) ((m.length + j) % 16)) ⟨by show j + k ≤ n; omega, hB', fun B => by have h := (hR B).dropu (lo := k) (by omega) (by simp; omega); rw [List.drop_drop, Nat.sub_sub] at h; exact h⟩ (by show n - (j + k) < n - j; omega)
  replace h14 : ¬ (0 < _) := h14
  refine c_exit (f_pass_exit (f_pass_exit (f_block_exit (f_next ?_))))
  obtain rfl : j = n := by omega
  rw [List.take_of_length_le (show l.length ≤ j by omega)] at hB ⊢
  refine c_seq (c_region ?_)
  refine s_p p_move ?_
  refine s_p (p_len rfl) ?_
  refine s_p p_assign ?_
  refine s_p p_assign ?_
  refine g_nil (f_next ?_)
  refine c_ret ?_
  exact f_r2 (Or.inl rfl) Tryd.results77 ⟨bl, hB, rfl, by rw [polyM, List.length_append, hl]⟩

end Go.Tw
end

section
namespace Go.Tw
open Go Go.Proofs

theorem sub64_r (x y c : Nat) (hc : c ≤ 1) (w : World) : (callFunc 94 [.int .u64 (x : Int), .int .u64 (y : Int), .int .u64 (c : Int)].toArray).run Tryd.prog w = .ok (.value (.tuple #[.int .u64 (((x + 2 ^ 64 - y - c) % 2 ^ 64 : Nat) : Int), .int .u64 (((if x < y + c then 1 else 0 : Nat)) : Int)])) w := by
  rw [run_callFunc_extern Tryd.func94 (by kernel_rfl) (by kernel_rfl) (by kernel_rfl) (e := sub64Entry) (by kernel_rfl)]
  show ((sub64Entry #[.int .u64 (x : Int), .int .u64 (y : Int), .int .u64 (c : Int)]).run Tryd.prog w).andThen _ = _
  rw [run_sub64n x y c hc]
  rfl
def bor (x y : Nat) : Nat := if x < y then 1 else 0
theorem bor_le (x y : Nat) : bor x y ≤ 1 := by unfold bor; split <;> omega
instance {x y : Nat} : Fits (bor x y) .u64 := ⟨Nat.lt_of_le_of_lt (bor_le x y) (by decide)⟩
instance {x y : Nat} : Fits (if x < y then 1 else 0) .u64 := ⟨Nat.lt_of_le_of_lt (bor_le x y) (by decide)⟩
theorem ite_le1 (x y : Nat) : (if x < y then 1 else 0 : Nat) ≤ 1 := bor_le x y
def poPad (m : List Nat) : List Nat := m.drop (16 * (m.length / 16)) ++ 1 :: List.replicate (15 - m.length % 16) 0
theorem poPad_length (m : List Nat) : (poPad m).length = 16 := by simp [poPad]; omega
instance {m : List Nat} [Us .u8 m] : Us .u8 (poPad m) := by unfold poPad; infer_instance
def poL (r m : List Nat) : List Nat := if 0 < m.length % 16 then ttimes (tin (poS r m) (poPad m) 0) r else poS r m
@[simp] theorem poL_length (r m : List Nat) : (poL r m).length = 3 := by unfold poL; split <;> simp
instance poL_us {r m : List Nat} [Us .u64 r] : Us .u64 (poL r m) := by unfold poL; split <;> infer_instance
section
variable (h s : List Nat)
def fb0 : Nat := if h.getD 0 0 < 18446744073709551611 + 0 then 1 else 0
def fl0 : Nat := (h.getD 0 0 + 2 ^ 64 - 18446744073709551611 - 0) % 2 ^ 64
def fb1 : Nat := if h.getD 1 0 < 18446744073709551615 + fb0 h then 1 else 0
def fl1 : Nat := (h.getD 1 0 + 2 ^ 64 - 18446744073709551615 - fb0 h) % 2 ^ 64
def fb2 : Nat := if h.getD 2 0 < 3 + fb1 h then 1 else 0
def fkeep : Nat := lneg (fb2 h)
instance : Fits (fb0 h) .u64 := by unfold fb0; infer_instance
instance : Fits (fb1 h) .u64 := by unfold fb1; infer_instance
instance : Fits (fb2 h) .u64 := by unfold fb2; infer_instance
instance : Fits (fl0 h) .u64 := by unfold fl0; infer_instance
instance : Fits (fl1 h) .u64 := by unfold fl1; infer_instance
instance : Fits (fkeep h) .u64 := by unfold fkeep; infer_instance
def fk1 : List Nat := h.set 0 ((h.getD 0 0 &&& fkeep h) ||| (fl0 h &&& (2 ^ IntKind.u64.bits - 1 - fkeep h)))
def fk2 : List Nat := (fk1 h).set 1 (((fk1 h).getD 1 0 &&& fkeep h) ||| (fl1 h &&& (2 ^ IntKind.u64.bits - 1 - fkeep h)))
def fk3 : List Nat := (fk2 h).set 0 (((fk2 h).getD 0 0 + s.getD 0 0 + 0) % 2 ^ 64)
def fk4 : List Nat := (fk3 h s).set 1 (((fk3 h s).getD 1 0 + s.getD 1 0 + ((fk2 h).getD 0 0 + s.getD 0 0 + 0) / 2 ^ 64) % 2 ^ 64)
instance [Us .u64 h] : Us .u64 (fk1 h) := by unfold fk1; infer_instance
instance [Us .u64 h] : Us .u64 (fk2 h) := by unfold fk2; infer_instance
instance [Us .u64 h] : Us .u64 (fk3 h s) := by unfold fk3; infer_instance
instance [Us .u64 h] : Us .u64 (fk4 h s) := by unfold fk4; infer_instance
@[simp] theorem fk1_length : (fk1 h).length = h.length := by simp [fk1]
@[simp] theorem fk2_length : (fk2 h).length = h.length := by simp [fk2]
@[simp] theorem fk3_length : (fk3 h s).length = h.length := by simp [fk3]
@[simp] theorem fk4_length : (fk4 h s).length = h.length := by simp [fk4]
end
def poO (h : List Nat) (i : Nat) : Nat := (h.getD (i / 8) 0 >>> (8 * (i % 8))) % 2 ^ IntKind.u8.bits
/-- The tag of m. -/
def polyT (r s m : List Nat) : List Nat := (List.range 16).map (poO (fk4 (poL r m) s))
@[simp] theorem polyT_length (r s m : List Nat) : (polyT r s m).length = 16 := by simp [polyT]
instance {r s m : List Nat} : Us .u8 (polyT r s m) := ⟨fun x hx => by
  simp only [polyT, List.mem_map] at hx
  obtain ⟨i, _, rfl⟩ := hx
  exact Nat.mod_lt _ (by decide)⟩
theorem polyC_resttake {r s h rest : List Nat} {used n : Nat} (hr : r.length = 2) (hs : s.length = 2) (hh : h.length = 3) (hb : rest.length = 16) (hn : n ≤ 16) : ((polyC r s h rest used).drop 7).take n = us .u8 (rest.take n) := by
  have := congrArg (List.take n) (polyC_rest (used := used) hr hs hh hb)
  rw [List.take_take, Nat.min_eq_left hn, us_take] at this
  exact this
theorem us_cells {k : IntKind} {l : List Nat} : ∀ v ∈ us k l, v.oneCell' = true := us_one
theorem polyC_one {r s h rest : List Nat} {used : Nat} : ∀ v ∈ polyC r s h rest used, v.oneCell' = true := by
  intro v hv
  simp only [polyC, List.mem_append, List.mem_singleton] at hv
  rcases hv with hv | hv | hv | hv | rfl
  · exact us_one v hv
  · exact us_one v hv
  · exact us_one v hv
  · exact us_one v hv
  · rfl
instance : Fits 18446744073709551611 .u64 := ⟨by decide⟩
instance : Fits 18446744073709551615 .u64 := ⟨by decide⟩
theorem poPad_set {m bl : List Nat} (hb : PB m bl) : ((us .u8 (List.replicate 16 0)).take 0 ++ (us .u8 (bl.take (m.length % 16))).take (m.length % 16) ++ (us .u8 (List.replicate 16 0)).drop (0 + m.length % 16)) = us .u8 (m.drop (16 * (m.length / 16)) ++ List.replicate (16 - m.length % 16) 0) := by
  rw [hb.eq, List.take_zero, List.nil_append, Nat.zero_add, us_drop, List.drop_replicate, List.take_of_length_le (by simp; omega), us_append]
theorem poPad_set1 (m : List Nat) : (m.drop (16 * (m.length / 16)) ++ List.replicate (16 - m.length % 16) 0).set (m.length % 16) 1 = poPad m := by
  have e : (m.drop (16 * (m.length / 16))).length = m.length % 16 := by simp; omega
  have e2 : 16 - m.length % 16 = (15 - m.length % 16) + 1 := by omega
  rw [List.set_append_right _ _ (by omega), e, Nat.sub_self, e2, List.replicate_succ, List.set_cons_zero]
  rfl

theorem tsum_ok (p : Nat) (r s m bl : List Nat) [hru : Us .u64 r] [hsu : Us .u64 s] [hmu : Us .u8 m] (hr : r.length = 2) (hs : s.length = 2) (hb : PB m bl) : Fn Tryd.prog 78 [ptr p 0] [polyM p r s m bl] [] (fun u B' => u = .agg (us .u8 (polyT r s m)).toArray ∧ B' = [polyM p r s m bl]) := by
  refine fn_enter Tryd.func78 rfl Tryd.ntmps78 rfl fun w => ?_
  have hC := polyC_length (used := m.length % 16) hr hs (poS_length r m) hb.len
  have hlt : m.length % 16 < 16 := Nat.mod_lt _ (by decide)
  refine c_seq (c_region ?_)
  refine s_x (e_alloc fun b2 => ?_)
  refine g_nil (f_next ?_)
  refine c_seq ?_
  refine c_seq (c_region ?_)
  refine s_p p_move ?_
  refine s_p p_eqpn ?_
  refine g_nil (f_next ?_)
  refine c_cond_false rfl ?_
  refine c_skip (f_next ?_)
  refine c_seq (c_region ?_)
  refine s_p p_move ?_
  refine s_p p_nilcheck ?_
  refine s_p (p_load_all rfl hC) ?_
  refine s_x (e_alloc fun b3 => ?_)
  refine s_x0 (e_store_all rfl rfl rfl hC (by simp) polyC_one (h := ?_))
  refine g_nil (f_next ?_)
  refine c_seq ?_
  refine c_seq (c_region ?_)
  refine s_p p_field0 ?_
  refine s_p (p_load_one rfl (polyC_used hr hs (poS_length r m) hb.len)) ?_
  refine s_p (p_gtr (b := 0)) ?_
  refine g_nil (f_next ?_)
  refine c_join2 (X := Unit) (fun c x => True) (fun _ => [(2, ptr b2 0), (3, ptr b3 0)]) (fun _ => [polyE b3 r s (poL r m) bl (m.length % 16), .blk b2 (.cells (us .u8 (List.replicate 16 0)).toArray 102 (0, 0)), polyM p r s m bl]) ?_ (fun _ _ => ?_)
  · skip
    refine c_cond_dec rfl (fun h21 => ?_) (fun h21 => ?_)
    · skip
      have h21' : 0 < m.length % 16 := h21
      have hpl : poL r m = ttimes (tin (poS r m) (poPad m) 0) r := if_pos h21'
      refine c_seq (c_region ?_)
      refine s_x (e_alloc fun b4 => ?_)
      refine g_nil (f_next ?_)
      haveI : Ok (7 + m.length % 16 ≤ (polyC r s (poS r m) bl (m.length % 16)).length ∧ m.length % 16 ≤ 16) := ⟨by omega, by omega⟩
      refine c_seq (c_run [.p, .p, .p, .r, .p, .x2] [0, 1, 2, 3, 4, 5] (by kernel_rfl) fun hn6 => ?_)
      refine d_p rfl (p_slice_arr_all rfl) ?_
      refine d_p rfl p_field0 ?_
      refine d_p rfl p_field0 ?_
      refine d_r hn6 rfl (p_load_one rfl (polyC_used hr hs (poS_length r m) hb.len)) ?_
      refine d_p rfl (p_slice_arr_hi rfl rfl) ?_
      refine d_x2 rfl (e_copy rfl rfl (m := m.length % 16) (by omega) (by rw [polyC_resttake hr hs (poS_length r m) hb.len (by omega)]; exact us_one) (by simp; omega) (cs' := us .u8 (m.drop (16 * (m.length / 16)) ++ List.replicate (16 - m.length % 16) 0)) (h := ?_) (hl0 := by rw [polyC_resttake hr hs (poS_length r m) hb.len (by omega)]; exact poPad_set hb))
      refine d_nil (f_next ?_)
      refine c_seq (c_region ?_)
      refine s_p p_field0 ?_
      refine s_p (p_load_one rfl (polyC_used hr hs (poS_length r m) hb.len)) ?_
      refine s_p p_ix_arr0 ?_
      refine s_x0 (e_store_u rfl rfl (by simp; omega) (l' := poPad m) (h := ?_) (hl := poPad_set1 m))
      refine g_nil (f_next ?_)
      have hpp := poPad_length m
      refine c_region ?_
      refine s_p (p_load_all rfl) ?_
      refine s_x (e_callx (ttake_ok b3 r s (poS r m) bl (poPad m) (m.length % 16) 0 hr hs (poS_length r m) hb.len (poPad_length m)) (h := fun v32 B32 h32 => ?_))
      obtain ⟨rfl, rfl⟩ := h32
      simp only [List.cons_append, List.nil_append]
      rw [← hpl]
      refine g_nil ?_
      exact f_join () trivial
    have hpl : poL r m = poS r m := if_neg h21
    rw [← hpl]
    refine c_skip ?_
    exact f_join () trivial
  obtain ⟨h, hh⟩ : ∃ h, poL r m = h := ⟨_, rfl⟩
  haveI hhu : Us .u64 h := by rw [← hh]; infer_instance
  have hhl : h.length = 3 := by rw [← hh]; simp
  have hfin : (List.range 16).map (poO (fk4 h s)) = polyT r s m := by rw [polyT, hh]
  refine c_own (B2 := [polyE b3 r s h bl (m.length % 16), .blk b2 (.cells (us .u8 (List.replicate 16 0)).toArray 102 (0, 0)), polyM p r s m bl]) (by rw [hh]) ?_
  refine c_seq (c_region ?_)
  refine s_p p_field0 ?_
  refine s_p (p_load_part rfl (polyC_h hr hs hhl)) ?_
  refine s_x (e_alloc fun b5 => ?_)
  refine s_x0 (e_store_all rfl rfl rfl (h := ?_))
  refine g_nil (f_next ?_)
  refine c_seq (c_region ?_)
  refine s_p p_ix_arr0 ?_
  refine s_p (p_load_u rfl) ?_
  refine s_x (e_ext (sub64_r (h.getD 0 0) 18446744073709551611 0 (by decide)) (h := ?_))
  refine s_p p_move ?_
  refine s_p (p_ext rfl rfl) ?_
  refine s_p (p_ext rfl rfl) ?_
  refine s_p (p_nat p_assign (b := fl0 h) rfl) ?_
  refine s_p (p_nat p_assign (b := fb0 h) rfl) ?_
  refine g_nil (f_next ?_)
  refine c_seq (c_region ?_)
  refine s_p p_ix_arr0 ?_
  refine s_p (p_load_u rfl) ?_
  refine s_p p_move ?_
  refine s_x (e_ext (sub64_r (h.getD 1 0) 18446744073709551615 (fb0 h) (bor_le _ _)) (h := ?_))
  refine s_p p_move ?_
  refine s_p (p_ext rfl rfl) ?_
  refine s_p (p_ext rfl rfl) ?_
  refine s_p (p_nat p_assign (b := fl1 h) rfl) ?_
  refine s_p (p_nat p_assign (b := fb1 h) rfl) ?_
  refine g_nil (f_next ?_)
  refine c_seq (c_region ?_)
  refine s_p p_ix_arr0 ?_
  refine s_p (p_load_u rfl) ?_
  refine s_p p_move ?_
  refine s_x (e_ext (sub64_r (h.getD 2 0) 3 (fb1 h) (bor_le _ _)) (h := ?_))
  refine s_p p_move ?_
  refine s_p (p_ext rfl rfl) ?_
  refine s_p (p_ext rfl rfl) ?_
  refine s_p (p_nat p_assign (b := fb2 h) rfl) ?_
  refine g_nil (f_next ?_)
  refine c_seq (c_region ?_)
  refine s_p p_move ?_
  refine s_p p_negu ?_
  refine s_p (p_nat p_assign (b := fkeep h) rfl) ?_
  refine g_nil (f_next ?_)
  refine c_seq (c_region ?_)
  refine s_p p_ix_arr0 ?_
  refine s_p (p_load_u rfl) ?_
  refine s_p p_move ?_
  refine s_p p_andu ?_
  refine s_p p_move ?_
  refine s_p p_move ?_
  refine s_p p_andnotu ?_
  refine s_p p_oru ?_
  refine s_p p_ix_arr0 ?_
  refine s_x0 (e_store_u rfl rfl (l' := fk1 h) (h := ?_))
  refine g_nil (f_next ?_)
  refine c_seq (c_region ?_)
  refine s_p p_ix_arr0 ?_
  refine s_p (p_load_u rfl) ?_
  refine s_p p_move ?_
  refine s_p p_andu ?_
  refine s_p p_move ?_
  refine s_p p_move ?_
  refine s_p p_andnotu ?_
  refine s_p p_oru ?_
  refine s_p p_ix_arr0 ?_
  refine s_x0 (e_store_u rfl rfl (l' := fk2 h) (h := ?_))
  refine g_nil (f_next ?_)
  refine c_seq (c_region ?_)
  refine s_p (p_assign (v := .int .u64 ((0 : Nat) : Int))) ?_
  refine g_nil (f_next ?_)
  refine c_seq (c_region ?_)
  refine s_p p_ix_arr0 ?_
  refine s_p (p_load_u rfl) ?_
  refine s_p p_field0 ?_
  refine s_p (p_ix_arr1 (off := 2) (i := 0)) ?_
  refine s_p (p_load_one rfl (polyC_s hr hs (i := 0) (by decide))) ?_
  refine s_x (e_ext (add64_r ((fk2 h).getD 0 0) (s.getD 0 0) 0 (by decide)) (h := ?_))
  refine s_p p_move ?_
  refine s_p (p_ext rfl rfl) ?_
  refine s_p (p_ext rfl rfl) ?_
  refine s_p p_ix_arr0 ?_
  refine s_x0 (e_store_u rfl rfl (l' := fk3 h s) (h := ?_))
  refine s_p p_assign ?_
  refine g_nil (f_next ?_)
  refine c_seq (c_region ?_)
  refine s_p p_ix_arr0 ?_
  refine s_p (p_load_u rfl) ?_
  refine s_p p_field0 ?_
  refine s_p (p_ix_arr1 (off := 2) (i := 1)) ?_
  refine s_p (p_load_one rfl (polyC_s hr hs (i := 1) (by decide))) ?_
  refine s_p p_move ?_
  refine s_x (e_ext (add64_r ((fk3 h s).getD 1 0) (s.getD 1 0) (((fk2 h).getD 0 0 + s.getD 0 0 + 0) / 2 ^ 64) (carry1 (Us.lt64 inferInstance _) (hsu.lt64 _) (by decide))) (h := ?_))
  refine s_p p_move ?_
  refine s_p (p_ext rfl rfl) ?_
  refine s_p (p_ext rfl rfl) ?_
  refine s_p p_ix_arr0 ?_
  refine s_x0 (e_store_u rfl rfl (l' := fk4 h s) (h := ?_))
  refine g_nil (f_next ?_)
  refine c_seq (c_region ?_)
  refine s_x (e_alloc fun b11 => ?_)
  refine g_nil (f_next ?_)
  refine c_seq ?_
  refine c_seq (c_region ?_)
  refine s_p (p_move (v := .int .i64 ((0 : Nat) : Int))) ?_
  refine g_nil (f_next ?_)
  refine c_block ?_
  refine c_lp (X := Nat) (fun x => 16 - x) (fun c x => x ≤ 16) (fun x => [(96, .int .i64 (x : Int))]) [(2, _), (5, _), (11, _)] (fun x => [.blk b11 (.cells (us .u8 (fillL (poO (fk4 h s)) 16 x)).toArray 102 (0, 0)), .blk b5 (.cells (us .u64 (fk4 h s)).toArray 152 (0, 0)), .blk b2 (.cells (us .u8 (List.replicate 16 0)).toArray 102 (0, 0)), polyM p r s m bl]) 0 (by first | omega | trivial) ⟨rfl, rfl, rfl, trivial⟩ (hr := fun x hx => ?_)
  refine c_seq (c_region ?_)
  refine s_p (p_lss (b := 16)) ?_
  refine g_nil (f_next ?_)
  refine c_seq ?_
  refine c_cond_dec rfl (fun h97 => ?_) (fun h97 => ?_)
  · skip
    replace h97 : _ < 16 := h97
    have hfl := fillL_length (poO (fk4 h s)) (n := 16) (k := x) (by omega)
    refine c_skip (f_next ?_)
    refine c_seq ?_
    refine c_block ?_
    refine c_seq (c_region ?_)
    refine s_p p_move ?_
    refine s_p p_assign ?_
    refine g_nil (f_next ?_)
    refine c_region ?_
    refine s_p p_move ?_
    refine s_p p_move ?_
    refine s_p (p_quon (b := 8)) ?_
    refine s_p p_ix_arr0 ?_
    refine s_p (p_load_u rfl) ?_
    refine s_p p_move ?_
    refine s_p (p_remn (b := 8)) ?_
    refine s_p (p_muln (a := 8)) ?_
    refine s_p p_shru ?_
    refine s_p p_convu ?_
    refine s_p p_ix_arr0 ?_
    refine s_x0 (e_store_u rfl rfl (by omega) (l' := fillL (poO (fk4 h s)) 16 (x + 1)) (h := ?_) (hl := fillL_set _ (by omega) rfl))
    refine g_nil (f_block_normal (f_next ?_))
    refine c_region ?_
    refine s_p (p_addn (b := 1)) ?_
    refine s_p p_move ?_
    refine g_nil ?_
    exact f_rd (x + 1)
  replace h97 : ¬ (_ < 16) := h97
  refine c_exit (f_pass_exit (f_pass_exit (f_block_exit (f_next ?_))))
  obtain rfl : x = 16 := by omega
  rw [fillL_all, hfin]
  refine c_seq (c_region ?_)
  refine s_p (p_load_all rfl) ?_
  refine s_x0 (e_store_all rfl rfl rfl (h := ?_))
  refine g_nil (f_next ?_)
  refine c_ret ?_
  exact f_rm (Or.inl rfl) Tryd.results78 ⟨rfl, rfl⟩

end Go.Tw
end

/- Walks through functions that the statement reaches: what each computes. -/
import Derived.Test.YtbfebdaghcogfaaDoorTwWe
import Derived.Test.YtbfebdaghcogfaaDoorTwField
import Derived.Test.YtbfebdaghcogfaaDoorTwMore
import Derived.Laws.Externs
section
namespace Go.Tw
open Go Go.Proofs

theorem add64_r (x y c : Nat) (hc : c ≤ 1) (w : World) : (callFunc 64 [.int .u64 (x : Int), .int .u64 (y : Int), .int .u64 (c : Int)].toArray).run Tryd.prog w = .ok (.value (.tuple #[.int .u64 (((x + y + c) % 2 ^ 64 : Nat) : Int), .int .u64 (((x + y + c) / 2 ^ 64 : Nat) : Int)])) w := by
  rw [run_callFunc_extern Tryd.func64 (by kernel_rfl) (by kernel_rfl) (by kernel_rfl) (e := add64Entry) (by kernel_rfl)]
  show ((add64Entry #[.int .u64 (x : Int), .int .u64 (y : Int), .int .u64 (c : Int)]).run Tryd.prog w).andThen _ = _
  rw [run_add64n x y c hc]
  rfl
theorem mul64_hi {x y : Nat} (hx : x < 2 ^ 64) (hy : y < 2 ^ 64) :
    ((((x >>> 32) * (y >>> 32)) % 2 ^ IntKind.u64.bits + ((((x >>> 32) * (y &&& 4294967295)) % 2 ^ IntKind.u64.bits + (((x &&& 4294967295) * (y &&& 4294967295)) % 2 ^ IntKind.u64.bits) >>> 32) % 2 ^ IntKind.u64.bits) >>> 32) % 2 ^ IntKind.u64.bits + (((((((x >>> 32) * (y &&& 4294967295)) % 2 ^ IntKind.u64.bits + (((x &&& 4294967295) * (y &&& 4294967295)) % 2 ^ IntKind.u64.bits) >>> 32) % 2 ^ IntKind.u64.bits) &&& 4294967295) + ((x &&& 4294967295) * (y >>> 32)) % 2 ^ IntKind.u64.bits) % 2 ^ IntKind.u64.bits) >>> 32) % 2 ^ IntKind.u64.bits = x * y / 2 ^ 64 := by
  have h32 : ∀ z : Nat, z &&& 4294967295 = z % 2 ^ 32 := fun z => Nat.and_two_pow_sub_one_eq_mod z 32
  simp only [h32, Nat.shiftRight_eq_div_pow, IntKind.bits]
  have ex : x = x % 2 ^ 32 + 2 ^ 32 * (x / 2 ^ 32) := (Nat.mod_add_div x (2 ^ 32)).symm
  have ey : y = y % 2 ^ 32 + 2 ^ 32 * (y / 2 ^ 32) := (Nat.mod_add_div y (2 ^ 32)).symm
  have a0 : x % 2 ^ 32 ≤ 4294967295 := by omega
  have a1 : x / 2 ^ 32 ≤ 4294967295 := by omega
  have b0 : y % 2 ^ 32 ≤ 4294967295 := by omega
  have b1 : y / 2 ^ 32 ≤ 4294967295 := by omega
  have exy : x * y = (x % 2 ^ 32) * (y % 2 ^ 32) + 2 ^ 32 * ((x / 2 ^ 32) * (y % 2 ^ 32)) + 2 ^ 32 * ((x % 2 ^ 32) * (y / 2 ^ 32)) + 2 ^ 64 * ((x / 2 ^ 32) * (y / 2 ^ 32)) := by
    conv => lhs; rw [ex, ey]
    generalize x % 2 ^ 32 = p; generalize x / 2 ^ 32 = q; generalize y % 2 ^ 32 = r; generalize y / 2 ^ 32 = s
    grind
  have m00 : (x % 2 ^ 32) * (y % 2 ^ 32) ≤ 4294967295 * 4294967295 := Nat.mul_le_mul a0 b0
  have m10 : (x / 2 ^ 32) * (y % 2 ^ 32) ≤ 4294967295 * 4294967295 := Nat.mul_le_mul a1 b0
  have m01 : (x % 2 ^ 32) * (y / 2 ^ 32) ≤ 4294967295 * 4294967295 := Nat.mul_le_mul a0 b1
  have m11 : (x / 2 ^ 32) * (y / 2 ^ 32) ≤ 4294967295 * 4294967295 := Nat.mul_le_mul a1 b1
  rw [exy]
  clear exy ex ey
  generalize (x % 2 ^ 32) * (y % 2 ^ 32) = p00 at *
  generalize (x / 2 ^ 32) * (y % 2 ^ 32) = p10 at *
  generalize (x % 2 ^ 32) * (y / 2 ^ 32) = p01 at *
  generalize (x / 2 ^ 32) * (y / 2 ^ 32) = p11 at *
  omega

theorem mul64_ok (x y : Nat) [hx : Fits x .u64] [hy : Fits y .u64] : Fn Tryd.prog 63 [.int .u64 (x : Int), .int .u64 (y : Int)] [] [] (fun u B' => u = .tuple #[.int .u64 ((x * y / 2 ^ 64 : Nat) : Int), .int .u64 ((x * y % 2 ^ IntKind.u64.bits : Nat) : Int)] ∧ B' = []) := by
  refine fn_enter Tryd.func63 rfl Tryd.ntmps63 rfl fun w => ?_
  refine c_seq (c_region ?_)
  refine s_p (p_assign (v := .int .u64 ((0 : Nat) : Int))) ?_
  refine s_p (p_assign (v := .int .u64 ((0 : Nat) : Int))) ?_
  refine g_nil (f_next ?_)
  refine c_seq (c_region ?_)
  refine s_p p_move ?_
  refine s_p (p_andu (b := 4294967295)) ?_
  refine s_p p_assign ?_
  refine g_nil (f_next ?_)
  refine c_seq (c_region ?_)
  refine s_p p_move ?_
  refine s_p (p_shru (b := 32)) ?_
  refine s_p p_assign ?_
  refine g_nil (f_next ?_)
  refine c_seq (c_region ?_)
  refine s_p p_move ?_
  refine s_p (p_andu (b := 4294967295)) ?_
  refine s_p p_assign ?_
  refine g_nil (f_next ?_)
  refine c_seq (c_region ?_)
  refine s_p p_move ?_
  refine s_p (p_shru (b := 32)) ?_
  refine s_p p_assign ?_
  refine g_nil (f_next ?_)
  refine c_seq (c_region ?_)
  refine s_p p_move ?_
  refine s_p p_move ?_
  refine s_p p_mulu ?_
  refine s_p p_assign ?_
  refine g_nil (f_next ?_)
  refine c_seq (c_region ?_)
  refine s_p p_move ?_
  refine s_p p_move ?_
  refine s_p p_mulu ?_
  refine s_p p_move ?_
  refine s_p (p_shru (b := 32)) ?_
  refine s_p p_addu ?_
  refine s_p p_assign ?_
  refine g_nil (f_next ?_)
  refine c_seq (c_region ?_)
  refine s_p p_move ?_
  refine s_p (p_andu (b := 4294967295)) ?_
  refine s_p p_assign ?_
  refine g_nil (f_next ?_)
  refine c_seq (c_region ?_)
  refine s_p p_move ?_
  refine s_p (p_shru (b := 32)) ?_
  refine s_p p_assign ?_
  refine g_nil (f_next ?_)
  refine c_seq (c_region ?_)
  refine s_p p_move ?_
  refine s_p p_move ?_
  refine s_p p_move ?_
  refine s_p p_mulu ?_
  refine s_p p_addu ?_
  refine s_p p_assign ?_
  refine g_nil (f_next ?_)
  refine c_seq (c_region ?_)
  refine s_p p_move ?_
  refine s_p p_move ?_
  refine s_p p_mulu ?_
  refine s_p p_move ?_
  refine s_p p_addu ?_
  refine s_p p_move ?_
  refine s_p (p_shru (b := 32)) ?_
  refine s_p (p_nat p_addu (mul64_hi hx.lt hy.lt)) ?_
  refine s_p p_assign ?_
  refine g_nil (f_next ?_)
  refine c_seq (c_region ?_)
  refine s_p p_move ?_
  refine s_p p_move ?_
  refine s_p p_mulu ?_
  refine s_p p_assign ?_
  refine g_nil (f_next ?_)
  refine c_ret ?_
  exact f_r2 (Or.inl rfl) Tryd.results63 ⟨rfl, rfl⟩

theorem wadd_ok (p o a b : Nat) (L : List Nat) (T : TypeId) [Us .u64 L] [Fits a .u64] [Fits b .u64] (ho : o + 1 < L.length) : Fn Tryd.prog 62 [ptr p o, .int .u64 (a : Int), .int .u64 (b : Int)] [.blk p (.cells (us .u64 L).toArray T (0, 0))] [] (fun u B' => u = .tuple #[] ∧ B' = [.blk p (.cells (us .u64 (wput L o (a * b))).toArray T (0, 0))]) := by
  refine fn_enter Tryd.func62 rfl Tryd.ntmps62 rfl fun w => ?_
  have hL := (inferInstance : Us .u64 L).getD_lt (o + 1)
  have hm : a * b % 2 ^ 64 < 2 ^ 64 := Nat.mod_lt _ (by decide)
  simp only [IntKind.bits] at hL
  refine c_seq (c_region ?_)
  refine s_p p_move ?_
  refine s_p p_move ?_
  refine s_x (e_callp (mul64_ok _ _) (h := ?_))
  refine s_p p_move ?_
  refine s_p (p_ext rfl rfl) ?_
  refine s_p (p_ext rfl rfl) ?_
  refine s_p p_assign ?_
  refine s_p p_assign ?_
  refine g_nil (f_next ?_)
  refine c_seq (c_region ?_)
  refine s_p (p_assign (v := .int .u64 ((0 : Nat) : Int))) ?_
  refine g_nil (f_next ?_)
  refine c_seq (c_region ?_)
  refine s_p p_move ?_
  refine s_p p_move ?_
  refine s_p p_nilcheck ?_
  refine s_p p_field ?_
  refine s_p (p_load_u rfl) ?_
  refine s_p p_move ?_
  refine s_x (e_ext (add64_r (L.getD (o + 1) 0) (a * b % 2 ^ IntKind.u64.bits) 0 (by decide)) (h := ?_))
  refine s_p p_move ?_
  refine s_p (p_ext rfl rfl) ?_
  refine s_p (p_ext rfl rfl) ?_
  refine s_p p_nilcheck ?_
  refine s_p p_field ?_
  refine s_x0 (e_store_u rfl rfl (h := ?_))
  refine s_p p_assign ?_
  refine g_nil (f_next ?_)
  refine c_region ?_
  refine s_p p_move ?_
  refine s_p p_move ?_
  refine s_p p_nilcheck ?_
  refine s_p p_field ?_
  refine s_p (p_load_u rfl) ?_
  refine s_p p_move ?_
  refine s_p p_move ?_
  refine s_x (e_ext (add64_r _ (a * b / 2 ^ 64) ((L.getD (o + 1) 0 + a * b % 2 ^ IntKind.u64.bits + 0) / 2 ^ 64) (by simp only [IntKind.bits]; omega)) (h := ?_))
  refine s_p p_move ?_
  refine s_p (p_ext rfl rfl) ?_
  refine s_p (p_ext rfl rfl) ?_
  refine s_p p_nilcheck ?_
  refine s_p p_field ?_
  refine s_x0 (e_store_u rfl rfl (l' := wput L o (a * b)) (h := ?_))
  refine g_nil ?_
  exact f_r0 (Or.inr rfl) Tryd.results62 ⟨rfl, rfl⟩

theorem carried_ok (l : List Nat) [hu : Us .u64 l] (h5 : l.length = 5) : Fn Tryd.prog 59 [.agg (us .u64 l).toArray] [] [] (fun u B' => u = .agg (us .u64 (carL l)).toArray ∧ B' = []) := by
  refine fn_enter Tryd.func59 rfl Tryd.ntmps59 rfl fun w => ?_
  refine c_seq (c_region ?_)
  refine s_x (e_box rfl rfl fun b1 => ?_)
  refine s_x (e_alloc fun b2 => ?_)
  refine g_nil (f_next ?_)
  refine c_seq (c_region ?_)
  refine s_p p_ix_arr0 ?_
  refine s_p (p_load_u rfl) ?_
  refine s_p (p_shru (b := 51)) ?_
  refine s_p p_assign ?_
  refine g_nil (f_next ?_)
  refine c_seq ?_
  refine c_seq (c_region ?_)
  refine s_p (p_assign (v := .int .i64 ((4 : Nat) : Int))) ?_
  refine g_nil (f_next ?_)
  refine c_block ?_
  refine c_lp (X := Nat) (fun x => 4 - x) (fun c x => x ≤ 4) (fun x => [(4, .int .i64 ((4 - x : Nat) : Int))]) [(1, _), (2, _), (3, _)] (fun x => [.blk b1 (.cells (us .u64 (iter carS l x)).toArray 75 (0, 0)), .blk b2 (.cells (us .u64 (List.replicate 5 0)).toArray 77 (0, 0))]) 0 (by first | omega | trivial) ⟨rfl, rfl, rfl, trivial⟩ (hr := fun x hx => ?_)
  haveI := iter_carS_us (l := l) (n := x)
  refine c_seq ?_
  refine c_seq (c_region ?_)
  refine s_p p_move ?_
  refine s_p (p_gtr (b := 0)) ?_
  refine g_nil (f_next ?_)
  refine c_cond_dec rfl (fun h9 => ?_) (fun h9 => ?_)
  · skip
    replace h9 : 0 < _ := h9
    refine c_skip (f_next ?_)
    refine c_seq ?_
    refine c_block ?_
    refine c_seq (c_region ?_)
    refine s_p p_move ?_
    refine s_p p_ix_arr0 ?_
    refine s_p (p_load_u rfl) ?_
    refine s_p (p_andu (b := 2251799813685247)) ?_
    refine s_p p_ix_arr0 ?_
    refine s_x0 (e_store_u rfl rfl (h := ?_))
    refine g_nil (f_next ?_)
    refine (c_run [.p, .p, .r, .p, .p, .p, .r, .p, .p, .p, .x2] [0, 1, 2, 3, 4, 5, 6, 7, 8, 9, 10] (by kernel_rfl) fun hn6 => ?_)
    refine d_p rfl p_move ?_
    refine d_p rfl p_ix_arr0 ?_
    refine d_r hn6 rfl (p_load_u rfl) ?_
    refine d_p rfl p_move ?_
    refine d_p rfl (p_subn (b := 1)) ?_
    refine d_p rfl p_ix_arr0 ?_
    refine d_r hn6 rfl (p_load_u rfl) ?_
    refine d_p rfl (p_shru (b := 51)) ?_
    refine d_p rfl p_addu ?_
    refine d_p rfl p_ix_arr0 ?_
    refine d_s2 rfl (e_store_u rfl rfl (l' := iter carS l (x + 1)) (h := ?_))
    refine d_nil (f_block_normal (f_next ?_))
    refine c_region ?_
    refine s_p p_move ?_
    refine s_p (p_subn (b := 1)) ?_
    refine s_p p_assign ?_
    refine g_nil ?_
    exact f_rd (x + 1)
  replace h9 : ¬ (0 < _) := h9
  refine c_exit (f_pass_exit (f_pass_exit (f_block_exit (f_next ?_))))
  obtain rfl : x = 4 := by omega
  haveI := iter_carS_us (l := l) (n := 4)
  refine c_seq (c_region ?_)
  refine s_p p_ix_arr0 ?_
  refine s_p (p_load_u rfl) ?_
  refine s_p (p_andu (b := 2251799813685247)) ?_
  refine s_p p_ix_arr0 ?_
  refine s_x0 (e_store_u rfl rfl (h := ?_))
  refine g_nil (f_next ?_)
  refine c_seq (c_region ?_)
  refine s_p p_ix_arr0 ?_
  refine s_p (p_load_u rfl) ?_
  refine s_p p_move ?_
  refine s_p (p_mulu (a := 19)) ?_
  refine s_p p_addu ?_
  refine s_p p_ix_arr0 ?_
  refine s_x0 (e_store_u rfl rfl (l' := carL l) (h := ?_))
  refine g_nil (f_next ?_)
  have hcl := carL_len h5
  refine c_seq (c_region ?_)
  refine s_p (p_load_all rfl) ?_
  refine s_p (p_bstr (cells := us .u64 (carL l)) (lfill_one (by simp [carL_len h5]) (by simp))) ?_
  refine s_x0 (e_store_all rfl rfl rfl (h := ?_))
  refine g_nil (f_next ?_)
  refine c_ret ?_
  exact f_rm (Or.inl rfl) Tryd.results59 ⟨rfl, rfl⟩

theorem leN_cons_step {l : List Nat} [hu : Us .u8 l] (h8 : l.length = 8) {x : Nat} (hx : x < 8) : (leN (l.drop (8 - x)) <<< 8) % 2 ^ IntKind.u64.bits ||| l.getD (7 - x) 0 = leN (l.drop (8 - (x + 1))) := by
  have e : l.drop (8 - (x + 1)) = l.getD (7 - x) 0 :: l.drop (8 - x) := by
    rw [show 8 - (x + 1) = 7 - x from by omega, List.drop_eq_getElem_cons (by omega), List.getD_eq_getElem?_getD, List.getElem?_eq_getElem (by omega), show 7 - x + 1 = 8 - x from by omega]; rfl
  have hlt : leN (l.drop (8 - x)) < 2 ^ 56 := by
    have := leN_lt (l.drop (8 - x))
    rw [List.length_drop, h8] at this
    exact Nat.lt_of_lt_of_le this (Nat.le_trans (Nat.pow_le_pow_right (by decide) (by omega : 8 - (8 - x) ≤ 7)) (by decide))
  have hb := hu.getD_lt (7 - x)
  rw [e]
  show _ = l.getD (7 - x) 0 + 256 * leN (l.drop (8 - x))
  rw [Nat.mod_eq_of_lt (by rw [Nat.shiftLeft_eq]; simp only [IntKind.bits]; omega), ← Nat.shiftLeft_add_eq_or_of_lt (by simpa [IntKind.bits] using hb), Nat.shiftLeft_eq]
  omega

theorem fword_ok (v : Value) (l : List Nat) [hu : Us .u8 l] (h8 : l.length = 8) : Fn Tryd.prog 60 [v] [] [rdF v 1 8 (us .u8 l)] (fun u B' => u = .int .u64 (leN l : Int) ∧ B' = []) := by
  refine fn_enter Tryd.func60 rfl Tryd.ntmps60 rfl fun w => ?_
  refine c_seq (c_region ?_)
  refine s_p (p_assign (v := .int .u64 ((0 : Nat) : Int))) ?_
  refine g_nil (f_next ?_)
  refine c_seq (c_region ?_)
  refine s_p (p_eq (p_assign) (v' := .int .u64 (leN (l.drop (8 - 0)) : Int)) (by rw [List.drop_of_length_le (by omega)]; rfl)) ?_
  refine g_nil (f_next ?_)
  refine c_seq ?_
  refine c_seq (c_region ?_)
  refine s_p (p_assign (v := .int .i64 ((7 : Nat) : Int))) ?_
  have h0 : (0 : Nat) = leN (l.drop (8 - 0)) := by rw [List.drop_of_length_le (by omega)]; rfl
  refine g_nil (f_next ?_)
  refine c_block ?_
  refine c_lp (X := Nat) (fun x => 8 - x) (fun c x => x ≤ 8) (fun x => [(3, .int .u64 (leN (l.drop (8 - x)) : Int)), (4, .int .i64 ((7 : Int) - (x : Int)))]) [(0, _)] (fun x => []) 0 (by first | omega | trivial) ⟨rfl, trivial⟩ (hr := fun x hx => ?_)
  refine c_seq ?_
  refine c_seq (c_region ?_)
  refine s_p p_move ?_
  refine s_p (p_geqi (b := 0)) ?_
  refine g_nil (f_next ?_)
  refine c_cond_dec rfl (fun h6 => ?_) (fun h6 => ?_)
  · skip
    have hx8 : x < 8 := by have := of_decide_eq_true (show decide ((0 : Int) ≤ 7 - (x : Int)) = true by simpa using h6); omega
    haveI : Fits (leN (l.drop (8 - x))) .u64 := ⟨Nat.lt_of_lt_of_le (leN_lt _) (by rw [List.length_drop, h8]; exact Nat.le_trans (Nat.pow_le_pow_right (by decide) (by omega : 8 - (8 - x) ≤ 8)) (by decide))⟩
    refine c_skip (f_next ?_)
    refine c_seq ?_
    refine c_block ?_
    refine c_seq (c_region ?_)
    refine s_p p_move ?_
    refine s_p (p_shlu (b := 8)) ?_
    refine s_p p_assign ?_
    refine g_nil (f_next ?_)
    refine c_region ?_
    refine s_p p_move ?_
    refine s_p p_move ?_
    refine s_p (p_ie p_move (b := ((7 - x : Nat) : Int)) (by omega)) ?_
    refine s_p (p_ix_sl1 rfl rfl) ?_
    refine s_p (p_load_slu rfl) ?_
    refine s_p p_convw ?_
    refine s_p (p_nat p_oru (leN_cons_step h8 hx8)) ?_
    refine s_p p_assign ?_
    refine g_nil (f_block_normal (f_next ?_))
    refine c_region ?_
    refine s_p p_move ?_
    refine s_p (p_ie (p_subi (b := 1) rfl rfl (by omega) (by omega)) (b := (7 : Int) - ((x + 1 : Nat) : Int)) (by omega)) ?_
    refine s_p p_assign ?_
    refine g_nil ?_
    exact f_rd (x + 1)
  refine c_exit (f_pass_exit (f_pass_exit (f_block_exit (f_next ?_))))
  obtain rfl : x = 8 := by omega
  refine c_seq (c_region ?_)
  refine s_p p_move ?_
  refine s_p p_assign ?_
  refine g_nil (f_next ?_)
  refine c_ret ?_
  exact f_r1 (Or.inl rfl) Tryd.results60 ⟨rfl, rfl⟩

theorem fof_ok (b : List Nat) [hu : Us .u8 b] (h32 : b.length = 32) : Fn Tryd.prog 30 [.agg (us .u8 b).toArray] [] [] (fun u B' => u = .agg (us .u64 (fOf b)).toArray ∧ B' = []) := by
  refine fn_enter Tryd.func30 rfl Tryd.ntmps30 rfl fun w => ?_
  haveI : Ok (0 + 0 * 1 + (8 - 0) ≤ b.length ∧ (8 - 0) ≤ 32 - 0) := ⟨by omega, by omega⟩
  haveI : Ok (0 + 6 * 1 + (14 - 6) ≤ b.length ∧ (14 - 6) ≤ 32 - 6) := ⟨by omega, by omega⟩
  haveI : Ok (0 + 12 * 1 + (20 - 12) ≤ b.length ∧ (20 - 12) ≤ 32 - 12) := ⟨by omega, by omega⟩
  haveI : Ok (0 + 19 * 1 + (27 - 19) ≤ b.length ∧ (27 - 19) ≤ 32 - 19) := ⟨by omega, by omega⟩
  haveI : Ok (0 + 24 * 1 + (32 - 24) ≤ b.length ∧ (32 - 24) ≤ 32 - 24) := ⟨by omega, by omega⟩
  refine c_seq (c_region ?_)
  refine s_x (e_box rfl rfl fun b1 => ?_)
  refine s_x (e_alloc fun b2 => ?_)
  refine g_nil (f_next ?_)
  refine c_seq (c_run [.p, .x0, .p, .p, .x0, .p, .p, .p, .x0, .p, .p, .p, .x0, .p, .p, .p, .x0, .p, .p, .p, .x0, .x2] [0, 3, 7, 11, 15, 1, 2, 4, 5, 6, 8, 9, 10, 12, 13, 14, 16, 17, 18, 19, 20, 21] (by kernel_rfl) fun hn1 => ?_)
  refine d_p rfl (p_slice_arr (lo := 0) (hi := 8) rfl rfl rfl) ?_
  refine d_p rfl (p_slice_arr (lo := 6) (hi := 14) rfl rfl rfl) ?_
  refine d_p rfl (p_slice_arr (lo := 12) (hi := 20) rfl rfl rfl) ?_
  refine d_p rfl (p_slice_arr (lo := 19) (hi := 27) rfl rfl rfl) ?_
  refine d_p rfl (p_slice_arr (lo := 24) (hi := 32) rfl rfl rfl) ?_
  refine d_x0 rfl (e_callp (fword_ok _ ((b.drop 0).take 8) (by simp [*])) (h := ⟨inferInstance, ?_⟩))
  refine d_p rfl (p_andu (b := 2251799813685247)) ?_
  refine d_x0 rfl (e_callp (fword_ok _ ((b.drop 6).take 8) (by simp [*])) (h := ⟨inferInstance, ?_⟩))
  refine d_p rfl (p_shru (b := 3)) ?_
  refine d_p rfl (p_andu (b := 2251799813685247)) ?_
  refine d_x0 rfl (e_callp (fword_ok _ ((b.drop 12).take 8) (by simp [*])) (h := ⟨inferInstance, ?_⟩))
  refine d_p rfl (p_shru (b := 6)) ?_
  refine d_p rfl (p_andu (b := 2251799813685247)) ?_
  refine d_x0 rfl (e_callp (fword_ok _ ((b.drop 19).take 8) (by simp [*])) (h := ⟨inferInstance, ?_⟩))
  refine d_p rfl (p_shru (b := 1)) ?_
  refine d_p rfl (p_andu (b := 2251799813685247)) ?_
  refine d_x0 rfl (e_callp (fword_ok _ ((b.drop 24).take 8) (by simp [*])) (h := ⟨inferInstance, ?_⟩))
  refine d_p rfl (p_shru (b := 12)) ?_
  refine d_p rfl (p_andu (b := 2251799813685247)) ?_
  refine d_p rfl (p_barr (cells := us .u64 [leN ((b.drop 0).take 8) &&& 2251799813685247, (leN ((b.drop 6).take 8) >>> 3) &&& 2251799813685247, (leN ((b.drop 12).take 8) >>> 6) &&& 2251799813685247, (leN ((b.drop 19).take 8) >>> 1) &&& 2251799813685247, (leN ((b.drop 24).take 8) >>> 12) &&& 2251799813685247]) rfl) ?_
  refine d_x0 rfl (e_callp (carried_ok _ rfl) (h := ⟨inferInstance, ?_⟩))
  refine d_s2 rfl (e_store_all rfl rfl rfl (h := ?_))
  refine d_nil (f_next ?_)
  refine c_ret ?_
  exact f_rm (Or.inl rfl) Tryd.results30 ⟨rfl, rfl⟩

theorem fsmall_ok (n : Nat) [hn : Fits n .u64] : Fn Tryd.prog 31 [.int .u64 (n : Int)] [] [] (fun u B' => u = .agg (us .u64 (fSmall n)).toArray ∧ B' = []) := by
  refine fn_enter Tryd.func31 rfl Tryd.ntmps31 rfl fun w => ?_
  refine c_seq (c_region ?_)
  refine s_x (e_alloc fun b2 => ?_)
  refine g_nil (f_next ?_)
  refine c_seq (c_region ?_)
  refine s_p p_move ?_
  refine s_p (p_andu (b := 2251799813685247)) ?_
  refine s_p p_move ?_
  refine s_p (p_shru (b := 51)) ?_
  refine s_p (p_barr (cells := us .u64 (fSmall n)) rfl) ?_
  refine s_p (p_bstr (cells := us .u64 (fSmall n)) rfl) ?_
  refine s_x0 (e_store_all rfl rfl rfl (h := ?_))
  refine g_nil (f_next ?_)
  refine c_ret ?_
  exact f_rm (Or.inl rfl) Tryd.results31 ⟨rfl, rfl⟩

theorem fadd_ok (a b : List Nat) [ha : El a] [hb : El b] : Fn Tryd.prog 33 [.agg (us .u64 a).toArray, .agg (us .u64 b).toArray] [] [] (fun u B' => u = .agg (us .u64 (fAdd a b)).toArray ∧ B' = []) := by
  refine fn_enter Tryd.func33 rfl Tryd.ntmps33 rfl fun w => ?_
  refine c_seq (c_region ?_)
  refine s_x (e_box rfl rfl fun b2 => ?_)
  refine s_x (e_box rfl rfl fun b3 => ?_)
  refine s_x (e_alloc fun b4 => ?_)
  refine g_nil (f_next ?_)
  refine c_seq ?_
  refine c_seq (c_region ?_)
  refine s_p (p_move (v := .int .i64 ((0 : Nat) : Int))) ?_
  refine g_nil (f_next ?_)
  refine c_block ?_
  refine c_lp (X := Nat) (fun x => 5 - x) (fun c x => x ≤ 5) (fun x => [(6, .int .i64 (x : Int))]) [(2, _), (3, _), (4, _)] (fun x => [.blk b3 (.cells (us .u64 b).toArray 77 (0, 0)), .blk b2 (.cells (us .u64 (iter (addS b) a x)).toArray 77 (0, 0)), .blk b4 (.cells (us .u64 (List.replicate 5 0)).toArray 77 (0, 0))]) 0 (by first | omega | trivial) ⟨rfl, rfl, rfl, trivial⟩ (hr := fun x hx => ?_)
  refine c_seq (c_region ?_)
  refine s_p (p_lss (b := 5)) ?_
  refine g_nil (f_next ?_)
  refine c_seq ?_
  refine c_cond_dec rfl (fun h7 => ?_) (fun h7 => ?_)
  · skip
    replace h7 : _ < 5 := h7
    refine c_skip (f_next ?_)
    refine c_seq ?_
    refine c_block ?_
    refine c_seq (c_region ?_)
    refine s_p p_move ?_
    refine s_p p_assign ?_
    refine g_nil (f_next ?_)
    refine (c_run [.p, .p, .p, .r, .p, .p, .p, .r, .p, .p, .p, .x2] [0, 1, 2, 3, 4, 5, 6, 7, 8, 9, 10, 11] (by kernel_rfl) fun hn4 => ?_)
    refine d_p rfl p_move ?_
    refine d_p rfl p_field0 ?_
    refine d_p rfl p_ix_arr0 ?_
    refine d_r hn4 rfl (p_load_u rfl) ?_
    refine d_p rfl p_move ?_
    refine d_p rfl p_field0 ?_
    refine d_p rfl p_ix_arr0 ?_
    refine d_r hn4 rfl (p_load_u rfl) ?_
    refine d_p rfl p_addu ?_
    refine d_p rfl p_field0 ?_
    refine d_p rfl p_ix_arr0 ?_
    refine d_s2 rfl (e_store_u rfl rfl (l' := iter (addS b) a (x + 1)) (h := ?_))
    refine d_nil (f_block_normal (f_next ?_))
    refine c_region ?_
    refine s_p (p_addn (b := 1)) ?_
    refine s_p p_move ?_
    refine g_nil ?_
    exact f_rd (x + 1)
  replace h7 : ¬ (_ < 5) := h7
  refine c_exit (f_pass_exit (f_pass_exit (f_block_exit (f_next ?_))))
  obtain rfl : x = 5 := by omega
  refine c_seq (c_region ?_)
  refine s_p p_field0 ?_
  refine s_p (p_load_all rfl) ?_
  refine s_x (e_callp (carried_ok (iter (addS b) a 5) (by simp)) (h := ?_))
  have hE : El (carL (iter (addS b) a 5)) := fAdd_el
  refine s_x0 (e_store_all rfl rfl rfl (h := ?_))
  refine g_nil (f_next ?_)
  refine c_ret ?_
  exact f_rm (Or.inl rfl) Tryd.results33 ⟨rfl, rfl⟩

theorem subS_step {b : List Nat} {i : Nat} (hi : i ≠ 0) (a : List Nat) :
    (a.set i ((a.getD i 0 + 9007199254740988) % 2 ^ IntKind.u64.bits)).set i (((a.set i ((a.getD i 0 + 9007199254740988) % 2 ^ IntKind.u64.bits)).getD i 0 + (2 ^ IntKind.u64.bits - b.getD i 0)) % 2 ^ IntKind.u64.bits) = subS b i a := by
  simp only [subS, if_neg hi]

theorem fsub_ok (a b : List Nat) [ha : El a] [hb : El b] : Fn Tryd.prog 34 [.agg (us .u64 a).toArray, .agg (us .u64 b).toArray] [] [] (fun u B' => u = .agg (us .u64 (fSub a b)).toArray ∧ B' = []) := by
  refine fn_enter Tryd.func34 rfl Tryd.ntmps34 rfl fun w => ?_
  refine c_seq (c_region ?_)
  refine s_x (e_box rfl rfl fun b2 => ?_)
  refine s_x (e_box rfl rfl fun b3 => ?_)
  refine s_x (e_alloc fun b4 => ?_)
  refine g_nil (f_next ?_)
  refine c_seq (c_region ?_)
  refine s_p p_field0 ?_
  refine s_p p_ix_arr0 ?_
  refine s_p (p_load_u rfl) ?_
  refine s_p (p_addu (b := 9007199254740916)) ?_
  refine s_p p_field0 ?_
  refine s_p p_ix_arr0 ?_
  refine s_x0 (e_store_u rfl rfl (h := ?_))
  refine g_nil (f_next ?_)
  refine c_seq (c_region ?_)
  refine s_p p_field0 ?_
  refine s_p p_ix_arr0 ?_
  refine s_p (p_load_u rfl) ?_
  refine s_p p_field0 ?_
  refine s_p p_ix_arr0 ?_
  refine s_p (p_load_u rfl) ?_
  refine s_p p_subu ?_
  refine s_p p_field0 ?_
  refine s_p p_ix_arr0 ?_
  refine s_x0 (e_store_u rfl rfl (l' := iter (subS b) a 1) (h := ?_))
  refine g_nil (f_next ?_)
  refine c_seq ?_
  refine c_seq (c_region ?_)
  refine s_p (p_assign (v := .int .i64 ((1 : Nat) : Int))) ?_
  refine g_nil (f_next ?_)
  refine c_block ?_
  refine c_lp (X := Nat) (fun x => 5 - x) (fun c x => 1 ≤ x ∧ x ≤ 5) (fun x => [(5, .int .i64 (x : Int))]) [(2, _), (3, _), (4, _)] (fun x => [.blk b3 (.cells (us .u64 b).toArray 77 (0, 0)), .blk b2 (.cells (us .u64 (iter (subS b) a x)).toArray 77 (0, 0)), .blk b4 (.cells (us .u64 (List.replicate 5 0)).toArray 77 (0, 0))]) 1 (by first | omega | trivial) ⟨rfl, rfl, rfl, trivial⟩ (hr := fun x hx => ?_)
  refine c_seq ?_
  refine c_seq (c_region ?_)
  refine s_p p_move ?_
  refine s_p (p_lss (b := 5)) ?_
  refine g_nil (f_next ?_)
  refine c_cond_dec rfl (fun h22 => ?_) (fun h22 => ?_)
  · skip
    replace h22 : _ < 5 := h22
    refine c_skip (f_next ?_)
    refine c_seq ?_
    refine c_block ?_
    refine c_seq (c_region ?_)
    refine s_p p_move ?_
    refine s_p p_field0 ?_
    refine s_p p_ix_arr0 ?_
    refine s_p (p_load_u rfl) ?_
    refine s_p (p_addu (b := 9007199254740988)) ?_
    refine s_p p_field0 ?_
    refine s_p p_ix_arr0 ?_
    refine s_x0 (e_store_u rfl rfl (h := ?_))
    refine g_nil (f_next ?_)
    refine (c_run [.p, .p, .p, .r, .p, .p, .p, .r, .p, .p, .p, .x2] [0, 1, 2, 3, 4, 5, 6, 7, 8, 9, 10, 11] (by kernel_rfl) fun hn7 => ?_)
    refine d_p rfl p_move ?_
    refine d_p rfl p_field0 ?_
    refine d_p rfl p_ix_arr0 ?_
    refine d_r hn7 rfl (p_load_u rfl) ?_
    refine d_p rfl p_move ?_
    refine d_p rfl p_field0 ?_
    refine d_p rfl p_ix_arr0 ?_
    refine d_r hn7 rfl (p_load_u rfl) ?_
    refine d_p rfl p_subu ?_
    refine d_p rfl p_field0 ?_
    refine d_p rfl p_ix_arr0 ?_
    refine d_s2 rfl (e_store_u rfl rfl (l' := iter (subS b) a (x + 1)) (h := ?_) (hl := subS_step (by omega) _))
    refine d_nil (f_block_normal (f_next ?_))
    refine c_region ?_
    refine s_p p_move ?_
    refine s_p (p_addn (b := 1)) ?_
    refine s_p p_assign ?_
    refine g_nil ?_
    exact f_rd (x + 1)
  replace h22 : ¬ (_ < 5) := h22
  refine c_exit (f_pass_exit (f_pass_exit (f_block_exit (f_next ?_))))
  obtain rfl : x = 5 := by omega
  refine c_seq (c_region ?_)
  refine s_p p_field0 ?_
  refine s_p (p_load_all rfl) ?_
  refine s_x (e_callp (carried_ok (iter (subS b) a 5) (by simp)) (h := ?_))
  have hE : El (carL (iter (subS b) a 5)) := fSub_el
  refine s_x0 (e_store_all rfl rfl rfl (h := ?_))
  refine g_nil (f_next ?_)
  refine c_ret ?_
  exact f_rm (Or.inl rfl) Tryd.results34 ⟨rfl, rfl⟩

theorem fneg_ok (b : List Nat) [hb : El b] : Fn Tryd.prog 65 [.agg (us .u64 b).toArray] [] [] (fun u B' => u = .agg (us .u64 (fSub f0 b)).toArray ∧ B' = []) := by
  refine fn_enter Tryd.func65 rfl Tryd.ntmps65 rfl fun w => ?_
  refine c_seq (c_region ?_)
  refine s_x (e_box rfl rfl fun b1 => ?_)
  refine s_x (e_alloc fun b2 => ?_)
  refine g_nil (f_next ?_)
  refine c_seq (c_region ?_)
  refine s_p (p_bstr (cells := us .u64 f0) rfl) ?_
  refine s_p (p_load_all rfl) ?_
  refine s_x (e_callp (fsub_ok _ _) (h := ?_))
  refine s_x0 (e_store_all rfl rfl rfl (h := ?_))
  refine g_nil (f_next ?_)
  refine c_ret ?_
  exact f_rm (Or.inl rfl) Tryd.results65 ⟨rfl, rfl⟩

theorem pick_word {m a b : Nat} (ha : a < 2 ^ 64) (hb : b < 2 ^ 64) : b ^^^ (mbit (m &&& 1) &&& (a ^^^ b)) = if m % 2 = 1 then a else b := by
  rw [mbit_eq, Nat.and_one_is_mod, Nat.mod_mod]
  by_cases h : m % 2 = 1
  · rw [if_pos h, if_pos h, Nat.and_comm, Nat.and_two_pow_sub_one_of_lt_two_pow (Nat.xor_lt_two_pow ha hb)]
    rw [Nat.xor_comm a b, ← Nat.xor_assoc, Nat.xor_self, Nat.zero_xor]
  · rw [if_neg h, if_neg h, Nat.zero_and, Nat.xor_zero]

theorem fpick_ok (m : Nat) (a b : List Nat) [ha : El a] [hb : El b] [Fits m .u64] : Fn Tryd.prog 61 [.int .u64 (m : Int), .agg (us .u64 a).toArray, .agg (us .u64 b).toArray] [] [] (fun u B' => u = .agg (us .u64 (pk m a b)).toArray ∧ B' = []) := by
  refine fn_enter Tryd.func61 rfl Tryd.ntmps61 rfl fun w => ?_
  refine c_seq (c_region ?_)
  refine s_x (e_box rfl rfl fun b4 => ?_)
  refine s_x (e_box rfl rfl fun b5 => ?_)
  refine s_x (e_alloc fun b6 => ?_)
  refine g_nil (f_next ?_)
  refine c_seq (c_region ?_)
  refine s_p p_move ?_
  refine s_p (p_andu (b := 1)) ?_
  refine s_x (e_callp (bit_ok _) (h := ?_))
  refine s_p p_assign ?_
  refine g_own (B2 := [.blk b6 (.cells (us .u64 (List.replicate 5 0)).toArray 77 (0, 0)), .blk b5 (.cells (us .u64 b).toArray 77 (0, 0)), .blk b4 (.cells (us .u64 (pkI m a b 0)).toArray 77 (0, 0))]) (by rw [pkI_zero]) ?_
  refine g_nil (f_next ?_)
  refine c_seq ?_
  refine c_seq (c_region ?_)
  refine s_p (p_move (v := .int .i64 ((0 : Nat) : Int))) ?_
  refine g_nil (f_next ?_)
  refine c_block ?_
  refine c_lp (X := Nat) (fun x => 5 - x) (fun c x => x ≤ 5) (fun x => [(11, .int .i64 (x : Int))]) [(0, _), (4, _), (5, _), (6, _)] (fun x => [.blk b6 (.cells (us .u64 (List.replicate 5 0)).toArray 77 (0, 0)), .blk b5 (.cells (us .u64 b).toArray 77 (0, 0)), .blk b4 (.cells (us .u64 (pkI m a b x)).toArray 77 (0, 0))]) 0 (by first | omega | trivial) ⟨rfl, rfl, rfl, rfl, trivial⟩ (hr := fun x hx => ?_)
  have hkl := pkI_length (m := m) (x := a) (y := b) hx
  refine c_seq (c_region ?_)
  refine s_p (p_lss (b := 5)) ?_
  refine g_nil (f_next ?_)
  refine c_seq ?_
  refine c_cond_dec rfl (fun h12 => ?_) (fun h12 => ?_)
  · skip
    replace h12 : _ < 5 := h12
    refine c_skip (f_next ?_)
    refine c_seq ?_
    refine c_block ?_
    refine c_seq (c_region ?_)
    refine s_p p_move ?_
    refine s_p p_assign ?_
    refine g_nil (f_next ?_)
    refine (c_run [.p, .p, .p, .p, .p, .r, .p, .p, .p, .r, .x0, .p, .p, .x2] [0, 1, 2, 3, 4, 5, 6, 7, 8, 9, 11, 10, 12, 13] (by kernel_rfl) fun hn5 => ?_)
    refine d_p rfl p_move ?_
    refine d_p rfl p_move ?_
    refine d_p rfl p_move ?_
    refine d_p rfl p_field0 ?_
    refine d_p rfl p_ix_arr0 ?_
    refine d_r hn5 rfl (p_load_u rfl) ?_
    refine d_p rfl p_move ?_
    refine d_p rfl p_field0 ?_
    refine d_p rfl p_ix_arr0 ?_
    refine d_r hn5 rfl (p_load_u rfl) ?_
    refine d_p rfl p_field0 ?_
    refine d_x0 rfl (e_callp (pick_ok _ _ _) (h := ⟨inferInstance, ?_⟩))
    refine d_p rfl p_ix_arr0 ?_
    refine d_s2 rfl (e_store_u rfl rfl (l' := pkI m a b (x + 1)) (h := ?_) (hl := pkI_set (by omega) (pick_word ((inferInstance : Us .u64 (pkI m a b x)).getD_lt x) ((inferInstance : Us .u64 b).getD_lt x))))
    refine d_nil (f_block_normal (f_next ?_))
    refine c_region ?_
    refine s_p (p_addn (b := 1)) ?_
    refine s_p p_move ?_
    refine g_nil ?_
    exact f_rd (x + 1)
  replace h12 : ¬ (_ < 5) := h12
  refine c_exit (f_pass_exit (f_pass_exit (f_block_exit (f_next ?_))))
  obtain rfl : x = 5 := by omega
  refine c_own (B2 := [.blk b6 (.cells (us .u64 (List.replicate 5 0)).toArray 77 (0, 0)), .blk b5 (.cells (us .u64 b).toArray 77 (0, 0)), .blk b4 (.cells (us .u64 (pk m a b)).toArray 77 (0, 0))]) (by rw [pkI_five]) ?_
  refine c_seq (c_region ?_)
  refine s_p (p_load_all rfl) ?_
  refine s_x0 (e_store_all rfl rfl rfl (h := ?_))
  refine g_nil (f_next ?_)
  refine c_ret ?_
  exact f_rm (Or.inl rfl) Tryd.results61 ⟨rfl, rfl⟩

theorem fswap_ok (m : Nat) (a b : List Nat) [ha : El a] [hb : El b] [Fits m .u64] : Fn Tryd.prog 32 [.int .u64 (m : Int), .agg (us .u64 a).toArray, .agg (us .u64 b).toArray] [] [] (fun u B' => u = .tuple #[.agg (us .u64 (pk m b a)).toArray, .agg (us .u64 (pk m a b)).toArray] ∧ B' = []) := by
  refine fn_enter Tryd.func32 rfl Tryd.ntmps32 rfl fun w => ?_
  refine c_seq (c_region ?_)
  refine s_x (e_box rfl rfl fun b4 => ?_)
  refine s_x (e_box rfl rfl fun b5 => ?_)
  refine s_x (e_alloc fun b6 => ?_)
  refine s_x (e_alloc fun b7 => ?_)
  refine g_nil (f_next ?_)
  refine c_seq (c_run [.p, .r, .r, .x0, .p, .r, .r, .x0, .x2, .x2] [0, 1, 2, 4, 5, 6, 3, 7, 8, 9] (by kernel_rfl) fun hn1 => ?_)
  refine d_p rfl p_move ?_
  refine d_r hn1 rfl (p_load_all rfl) ?_
  refine d_r hn1 rfl (p_load_all rfl) ?_
  refine d_p rfl p_move ?_
  refine d_r hn1 rfl (p_load_all rfl) ?_
  refine d_r hn1 rfl (p_load_all rfl) ?_
  refine d_x0 rfl (e_callp (fpick_ok _ _ _) (h := ⟨inferInstance, ?_⟩))
  refine d_x0 rfl (e_callp (fpick_ok _ _ _) (h := ⟨inferInstance, ?_⟩))
  refine d_s2 rfl (e_store_all rfl rfl rfl (h := ?_))
  refine d_s2 rfl (e_store_all rfl rfl rfl (h := ?_))
  refine d_nil (f_next ?_)
  refine c_ret ?_
  exact f_rmm (Or.inl rfl) Tryd.results32 ⟨rfl, rfl⟩

end Go.Tw
end

section
namespace Go.Tw
open Go Go.Proofs

theorem wid_lo {s : List Nat} {j : Nat} (h : j < s.length) : (wid s).getD (0 + j * 2 + 1) 0 = s.getD j 0 % 2 ^ IntKind.u64.bits := by
  induction s generalizing j with
  | nil => simp at h
  | cons v s ih =>
    cases j with
    | zero => rfl
    | succ j =>
      have e : 0 + (j + 1) * 2 + 1 = (0 + j * 2 + 1) + 1 + 1 := by omega
      rw [e, wid_cons, List.getD_cons_succ, List.getD_cons_succ, List.getD_cons_succ]
      exact ih (by simpa using h)
theorem wid_hi {s : List Nat} {j : Nat} (h : j < s.length) : (wid s).getD (0 + j * 2 + 0) 0 = s.getD j 0 / 2 ^ 64 % 2 ^ IntKind.u64.bits := by
  induction s generalizing j with
  | nil => simp at h
  | cons v s ih =>
    cases j with
    | zero => rfl
    | succ j =>
      have e : 0 + (j + 1) * 2 + 0 = (0 + j * 2 + 0) + 1 + 1 := by omega
      rw [e, wid_cons, List.getD_cons_succ, List.getD_cons_succ, List.getD_cons_succ]
      exact ih (by simpa using h)
theorem mC_at (s : List Nat) {x : Nat} (h : x < s.length) : (mC s (x + 1)).1.getD x 0 = (mC s x).1.getD x 0 + (mC s x).2.2 * 1 := by
  show ((mC s x).1.set x ((mC s x).1.getD x 0 + (mC s x).2.2 * 1)).getD x 0 = _
  rw [List.getD_eq_getElem?_getD, List.getElem?_set_self (by rw [(mC_len s x).1]; exact h), Option.getD_some]
instance : Fits 19 .u64 := ⟨by decide⟩

theorem fmul_ok (a b : List Nat) [ha : El a] [hb : El b] : Fn Tryd.prog 36 [.agg (us .u64 a).toArray, .agg (us .u64 b).toArray] [] [] (fun u B' => u = .agg (us .u64 (fMul a b)).toArray ∧ B' = []) := by
  refine fn_enter Tryd.func36 rfl Tryd.ntmps36 rfl fun w => ?_
  refine c_seq (c_region ?_)
  refine s_x (e_box rfl rfl fun b2 => ?_)
  refine s_x (e_box rfl rfl fun b3 => ?_)
  refine s_x (e_alloc fun b4 => ?_)
  refine g_nil (f_next ?_)
  refine c_seq (c_region ?_)
  refine s_x (e_alloc fun b5 => ?_)
  refine g_own (B2 := [.blk b5 (.cells (us .u64 (wid (mS a b (5 * 0)))).toArray 113 (0, 0)), .blk b4 (.cells (us .u64 (List.replicate 5 0)).toArray 77 (0, 0)), .blk b3 (.cells (us .u64 b).toArray 77 (0, 0)), .blk b2 (.cells (us .u64 a).toArray 77 (0, 0))]) rfl ?_
  refine g_nil (f_next ?_)
  refine c_seq ?_
  refine c_seq (c_region ?_)
  refine s_p p_field0 ?_
  refine s_p (p_load_all rfl) ?_
  refine s_p (p_move (v := .int .i64 ((0 : Nat) : Int))) ?_
  refine g_nil (f_next ?_)
  refine c_block ?_
  refine c_lp (X := Nat) (fun x => 5 - x) (fun c x => x ≤ 5) (fun x => [(18, .int .i64 (x : Int))]) [(3, _), (4, _), (5, _), (17, _)] (fun x => [.blk b5 (.cells (us .u64 (wid (mS a b (5 * x)))).toArray 113 (0, 0)), .blk b4 (.cells (us .u64 (List.replicate 5 0)).toArray 77 (0, 0)), .blk b3 (.cells (us .u64 b).toArray 77 (0, 0)), .blk b2 (.cells (us .u64 a).toArray 77 (0, 0))]) 0 (by first | omega | trivial) ⟨rfl, rfl, rfl, rfl, trivial⟩ (hr := fun x hx => ?_)
  refine c_seq (c_region ?_)
  refine s_p (p_lss (b := 5)) ?_
  refine g_nil (f_next ?_)
  refine c_seq ?_
  refine c_cond_dec rfl (fun h19 => ?_) (fun h19 => ?_)
  · skip
    replace h19 : _ < 5 := h19
    refine c_skip (f_next ?_)
    refine c_seq ?_
    refine c_block ?_
    refine c_seq (c_region ?_)
    refine s_p p_move ?_
    refine s_p (p_index rfl rfl (by omega) (us_get (by simp; omega))) ?_
    refine s_p p_assign ?_
    refine s_p p_assign ?_
    refine g_nil (f_next ?_)
    refine c_seq (c_region ?_)
    refine s_p p_field0 ?_
    refine s_p (p_load_all rfl) ?_
    refine s_p (p_move (v := .int .i64 ((0 : Nat) : Int))) ?_
    refine g_nil (f_next ?_)
    refine c_block ?_
    refine c_lp (X := Nat) (fun k => 5 - k) (fun c k => k ≤ 5) (fun k => [(24, .int .i64 (k : Int))]) [(3, _), (4, _), (5, _), (6, _), (7, _), (17, _), (18, _), (23, _)] (fun k => [.blk b5 (.cells (us .u64 (wid (mS a b (5 * x + k)))).toArray 113 (0, 0)), .blk b4 (.cells (us .u64 (List.replicate 5 0)).toArray 77 (0, 0)), .blk b3 (.cells (us .u64 b).toArray 77 (0, 0)), .blk b2 (.cells (us .u64 a).toArray 77 (0, 0))]) 0 (by omega) ⟨rfl, rfl, rfl, rfl, rfl, rfl, rfl, rfl, trivial⟩ (hr := fun k hk => ?_)
    refine c_seq (c_region ?_)
    refine s_p (p_lss (b := 5)) ?_
    refine g_nil (f_next ?_)
    refine c_seq ?_
    refine c_cond_dec rfl (fun h25 => ?_) (fun h25 => ?_)
    · skip
      replace h25 : _ < 5 := h25
      refine c_skip (f_next ?_)
      refine c_seq ?_
      refine c_block ?_
      refine c_seq (c_region ?_)
      refine s_p p_move ?_
      refine s_p (p_index rfl rfl (by omega) (us_get (by simp; omega))) ?_
      refine s_p p_assign ?_
      refine s_p p_assign ?_
      refine g_nil (f_next ?_)
      refine c_seq ?_
      refine c_seq (c_region ?_)
      refine s_p p_move ?_
      refine s_p p_move ?_
      refine s_p p_addn ?_
      refine s_p (p_geq (b := 5)) ?_
      refine g_nil (f_next ?_)
      refine c_join2 (X := Unit) (fun c x => True) (fun _ => [(3, ptr b3 0), (4, ptr b4 0), (5, ptr b5 0), (6, .int .i64 (x : Int)), (7, .int .u64 ((a.getD x 0 : Nat) : Int)), (8, .int .i64 (k : Int)), (9, .int .u64 ((mB b x k : Nat) : Int)), (17, .agg (us .u64 a).toArray), (18, .int .i64 (x : Int)), (23, .agg (us .u64 b).toArray), (24, .int .i64 (k : Int))]) (fun _ => [.blk b5 (.cells (us .u64 (wid (mS a b (5 * x + k)))).toArray 113 (0, 0)), .blk b4 (.cells (us .u64 (List.replicate 5 0)).toArray 77 (0, 0)), .blk b3 (.cells (us .u64 b).toArray 77 (0, 0)), .blk b2 (.cells (us .u64 a).toArray 77 (0, 0))]) ?_ (fun _ _ => ?_)
      · skip
        refine c_cond_dec rfl (fun h31 => ?_) (fun h31 => ?_)
        · skip
          replace h31 : 5 ≤ _ := h31
          refine c_region ?_
          refine s_p p_move ?_
          refine s_p (p_mulu (b := 19)) ?_
          refine s_p (p_nat p_assign (b := mB b x k) (by rw [mB, if_pos h31])) ?_
          refine g_nil ?_
          exact f_join () trivial
        replace h31 : ¬ (5 ≤ _) := h31
        refine c_skip ?_
        exact f_join () trivial (by refine ⟨rfl, rfl, rfl, rfl, rfl, rfl, ?_, rfl, rfl, rfl, rfl, trivial⟩; rw [mB, if_neg h31]; rfl)
      refine c_region ?_
      refine s_p p_move ?_
      refine s_p p_move ?_
      refine s_p p_addn ?_
      refine s_p (p_remn (b := 5)) ?_
      refine s_p (p_ix_arr (off := 0) rfl rfl (by omega)) ?_
      refine s_p p_move ?_
      refine s_p p_move ?_
      refine s_x (e_callx (wadd_ok b5 (0 + (x + k) % 5 * 2) (a.getD x 0) (mB b x k) (wid (mS a b (5 * x + k))) 113 (by simp; omega)) (h := fun v41 B41 h41 => ?_))
      obtain ⟨rfl, rfl⟩ := h41
      simp only [List.cons_append, List.nil_append]
      rw [Nat.zero_add, wput_wid (by simp; omega), mS_step a b (by omega)]
      refine g_nil (f_block_normal (f_next ?_))
      refine c_region ?_
      refine s_p (p_addn (b := 1)) ?_
      refine s_p p_move ?_
      refine g_nil ?_
      exact f_rd (k + 1) (by show k + 1 ≤ 5; omega) (by show 5 - (k + 1) < 5 - k; omega)
    replace h25 : ¬ (_ < 5) := h25
    refine c_exit (f_pass_exit (f_pass_exit (f_block_exit (f_block_normal (f_next ?_)))))
    obtain rfl : k = 5 := by omega
    refine c_region ?_
    refine s_p (p_addn (b := 1)) ?_
    refine s_p p_move ?_
    refine g_nil ?_
    exact f_rd (x + 1) (by show x + 1 ≤ 5; omega) (by show 5 - (x + 1) < 5 - x; omega)
  replace h19 : ¬ (_ < 5) := h19
  refine c_exit (f_pass_exit (f_pass_exit (f_block_exit (f_next ?_))))
  obtain rfl : x = 5 := by omega
  obtain ⟨S, hSe⟩ : ∃ S, mS a b (5 * 5) = S := ⟨_, rfl⟩
  have hSl : S.length = 5 := by rw [← hSe]; exact mS_length _ _ _
  have hSm : fMul a b = carL (mE (mC S 5).2.1 (mC S 5).2.2) := by rw [fMul, ← hSe]
  refine c_own (B2 := [.blk b5 (.cells (us .u64 (wid S)).toArray 113 (0, 0)), .blk b4 (.cells (us .u64 (List.replicate 5 0)).toArray 77 (0, 0)), .blk b3 (.cells (us .u64 b).toArray 77 (0, 0)), .blk b2 (.cells (us .u64 a).toArray 77 (0, 0))]) (by rw [hSe]) ?_
  refine c_seq (c_region ?_)
  refine s_x (e_alloc fun b10 => ?_)
  refine g_nil (f_next ?_)
  refine c_seq (c_region ?_)
  refine s_p (p_assign (v := .int .u64 ((0 : Nat) : Int))) ?_
  refine g_nil (f_next ?_)
  refine c_seq ?_
  refine c_seq (c_region ?_)
  refine s_p (p_move (v := .int .i64 ((0 : Nat) : Int))) ?_
  have hz1 : (mC S 0).1 = S := rfl
  have hz2 : (mC S 0).2.1 = List.replicate 5 0 := rfl
  have hz3 : (mC S 0).2.2 = 0 := rfl
  refine g_own (B2 := [.blk b10 (.cells (us .u64 (mC S 0).2.1).toArray 75 (0, 0)), .blk b5 (.cells (us .u64 (wid (mC S 0).1)).toArray 113 (0, 0)), .blk b4 (.cells (us .u64 (List.replicate 5 0)).toArray 77 (0, 0)), .blk b3 (.cells (us .u64 b).toArray 77 (0, 0)), .blk b2 (.cells (us .u64 a).toArray 77 (0, 0))]) (by rw [hz1, hz2]) ?_
  refine g_nil (f_next ?_)
  refine c_block ?_
  refine c_lp (X := Nat) (fun x => 5 - x) (fun c x => x ≤ 5) (fun x => [(44, .int .i64 (x : Int)), (11, .int .u64 (((mC S x).2.2 : Nat) : Int))]) [(4, _), (5, _), (10, _)] (fun x => [.blk b10 (.cells (us .u64 (mC S x).2.1).toArray 75 (0, 0)), .blk b5 (.cells (us .u64 (wid (mC S x).1)).toArray 113 (0, 0)), .blk b4 (.cells (us .u64 (List.replicate 5 0)).toArray 77 (0, 0))]) 0 (by first | omega | trivial) ⟨rfl, rfl, rfl, trivial⟩ (hr := fun x hx => ?_)
  have hlx := mC_len S x
  have hly := mC_len S (x + 1)
  refine c_seq (c_region ?_)
  refine s_p (p_lss (b := 5)) ?_
  refine g_nil (f_next ?_)
  refine c_seq ?_
  refine c_cond_dec rfl (fun h45 => ?_) (fun h45 => ?_)
  · skip
    replace h45 : _ < 5 := h45
    refine c_skip (f_next ?_)
    refine c_seq ?_
    refine c_block ?_
    refine c_seq (c_region ?_)
    refine s_p p_move ?_
    refine s_p p_assign ?_
    refine g_nil (f_next ?_)
    refine c_seq (c_region ?_)
    refine s_p p_move ?_
    refine s_p (p_ix_arr (off := 0) rfl rfl (by omega)) ?_
    refine s_p p_move ?_
    refine s_x (e_callx (wadd_ok b5 (0 + x * 2) (mC S x).2.2 1 (wid (mC S x).1) 113 (by simp [hlx.1]; omega)) (h := fun v50 B50 h50 => ?_))
    obtain ⟨rfl, rfl⟩ := h50
    simp only [List.cons_append, List.nil_append]
    rw [Nat.zero_add, wput_wid (by rw [hlx.1, hSl]; omega), show (mC S x).1.set x ((mC S x).1.getD x 0 + (mC S x).2.2 * 1) = (mC S (x + 1)).1 from rfl]
    refine g_nil (f_next ?_)
    refine c_seq (c_region ?_)
    refine s_p p_move ?_
    refine s_p p_move ?_
    refine s_p (p_ix_arr (off := 0) rfl rfl (by omega)) ?_
    refine s_p p_field ?_
    refine s_p (p_nat (p_load_u rfl (by simp [hly.1]; omega)) (b := wlo ((mC S x).1.getD x 0 + (mC S x).2.2 * 1)) (by rw [wid_lo (by rw [hly.1, hSl]; omega), mC_at _ (by omega)])) ?_
    refine s_p (p_andu (b := 2251799813685247)) ?_
    refine s_p p_ix_arr0 ?_
    refine s_x0 (e_store_u rfl rfl (by rw [hlx.2]; omega) (l' := (mC S (x + 1)).2.1) (h := ?_))
    refine g_nil (f_next ?_)
    refine (c_run [.p, .p, .p, .r, .p, .p, .p, .p, .r, .p, .p, .p] [0, 1, 2, 3, 4, 5, 6, 7, 8, 9, 10, 11] (by kernel_rfl) fun hn20 => ?_)
    refine d_p rfl p_move ?_
    refine d_p rfl (p_ix_arr (off := 0) rfl rfl (by omega)) ?_
    refine d_p rfl p_field ?_
    refine d_r hn20 rfl (p_nat (p_load_u rfl (by simp [hly.1]; omega)) (b := whi ((mC S x).1.getD x 0 + (mC S x).2.2 * 1)) (by rw [wid_hi (by rw [hly.1, hSl]; omega), mC_at _ (by omega)])) ?_
    refine d_p rfl (p_shlu (b := 13)) ?_
    refine d_p rfl p_move ?_
    refine d_p rfl (p_ix_arr (off := 0) rfl rfl (by omega)) ?_
    refine d_p rfl p_field ?_
    refine d_r hn20 rfl (p_nat (p_load_u rfl (by simp [hly.1]; omega)) (b := wlo ((mC S x).1.getD x 0 + (mC S x).2.2 * 1)) (by rw [wid_lo (by rw [hly.1, hSl]; omega), mC_at _ (by omega)])) ?_
    refine d_p rfl (p_shru (b := 51)) ?_
    refine d_p rfl p_oru ?_
    refine d_p rfl p_assign ?_
    refine d_nil (f_block_normal (f_next ?_))
    refine c_region ?_
    refine s_p (p_addn (b := 1)) ?_
    refine s_p p_move ?_
    refine g_nil ?_
    exact f_rd (x + 1)
  replace h45 : ¬ (_ < 5) := h45
  refine c_exit (f_pass_exit (f_pass_exit (f_block_exit (f_next ?_))))
  obtain rfl : x = 5 := by omega
  have hl5 := (mC_len S 5).2
  have hl0 := (inferInstance : Us .u64 (mC S 5).2.1).getD_lt 0
  have hm19 : (mC S 5).2.2 * 19 % 2 ^ IntKind.u64.bits < 2 ^ 64 := Nat.mod_lt _ (by decide)
  simp only [IntKind.bits] at hl0
  refine c_seq (c_region ?_)
  refine s_p p_move ?_
  refine s_x (e_callp (mul64_ok (mC S 5).2.2 19) (h := ?_))
  refine s_p p_move ?_
  refine s_p (p_ext rfl rfl) ?_
  refine s_p (p_ext rfl rfl) ?_
  refine s_p p_assign ?_
  refine s_p p_assign ?_
  refine g_nil (f_next ?_)
  refine c_seq (c_region ?_)
  refine s_p p_move ?_
  refine s_p p_ix_arr0 ?_
  refine s_p (p_load_u rfl) ?_
  refine s_x (e_ext (add64_r ((mC S 5).2.2 * 19 % 2 ^ IntKind.u64.bits) ((mC S 5).2.1.getD 0 0) 0 (by decide)) (h := ?_))
  refine s_p p_move ?_
  refine s_p (p_ext rfl rfl) ?_
  refine s_p (p_ext rfl rfl) ?_
  refine s_p p_assign ?_
  refine s_p p_assign ?_
  refine g_nil (f_next ?_)
  refine c_seq (c_region ?_)
  refine s_p p_move ?_
  refine s_p (p_andu (b := 2251799813685247)) ?_
  refine s_p p_ix_arr0 ?_
  refine s_x0 (e_store_u rfl rfl (h := ?_))
  refine g_nil (f_next ?_)
  refine c_seq (c_region ?_)
  refine s_p p_ix_arr0 ?_
  refine s_p (p_load_u rfl) ?_
  refine s_p p_move ?_
  refine s_p p_move ?_
  refine s_p p_addu ?_
  refine s_p (p_shlu (b := 13)) ?_
  refine s_p p_move ?_
  refine s_p (p_shru (b := 51)) ?_
  refine s_p p_oru ?_
  refine s_p p_addu ?_
  refine s_p p_ix_arr0 ?_
  refine s_x0 (e_store_u rfl rfl (l' := mE (mC S 5).2.1 (mC S 5).2.2) (h := ?_))
  refine g_nil (f_next ?_)
  refine c_seq (c_region ?_)
  refine s_p (p_load_all rfl (by simp [hl5])) ?_
  refine s_x (e_callp (carried_ok (mE (mC S 5).2.1 (mC S 5).2.2) (by simp [hl5])) (h := ?_))
  rw [← hSm]
  refine s_x0 (e_store_all (vs := us .u64 (fMul a b)) rfl rfl rfl (by simp) (by simp) (h := ?_))
  refine g_nil (f_next ?_)
  refine c_ret ?_
  exact f_rm (Or.inl rfl) Tryd.results36 ⟨rfl, rfl⟩

end Go.Tw
end

section
namespace Go.Tw
open Go Go.Proofs

theorem fsq_ok (a : List Nat) [ha : El a] : Fn Tryd.prog 35 [.agg (us .u64 a).toArray] [] [] (fun u B' => u = .agg (us .u64 (fMul a a)).toArray ∧ B' = []) := by
  refine fn_enter Tryd.func35 rfl Tryd.ntmps35 rfl fun w => ?_
  refine c_seq (c_region ?_)
  refine s_x (e_box rfl rfl fun b1 => ?_)
  refine s_x (e_alloc fun b2 => ?_)
  refine g_nil (f_next ?_)
  refine c_seq (c_region ?_)
  refine s_p (p_load_all rfl) ?_
  refine s_p (p_load_all rfl) ?_
  refine s_x (e_callp (fmul_ok _ _) (h := ?_))
  refine s_x0 (e_store_all rfl rfl rfl (h := ?_))
  refine g_nil (f_next ?_)
  refine c_ret ?_
  exact f_rm (Or.inl rfl) Tryd.results35 ⟨rfl, rfl⟩

instance : Fits 121665 .u64 := ⟨by decide⟩

theorem ftimes_ok (a : List Nat) (n : Nat) [ha : El a] [hn : Fits n .u32] : Fn Tryd.prog 37 [.agg (us .u64 a).toArray, .int .u32 (n : Int)] [] [] (fun u B' => u = .agg (us .u64 (fMul a (fSmall n))).toArray ∧ B' = []) := by
  refine fn_enter Tryd.func37 rfl Tryd.ntmps37 rfl fun w => ?_
  refine c_seq (c_region ?_)
  refine s_x (e_box rfl rfl fun b2 => ?_)
  refine s_x (e_alloc fun b4 => ?_)
  refine g_nil (f_next ?_)
  refine c_seq (c_run [.r, .p, .p, .x0, .x0, .x2] [0, 1, 2, 3, 4, 5] (by kernel_rfl) fun hn1 => ?_)
  refine d_r hn1 rfl (p_load_all rfl) ?_
  refine d_p rfl p_move ?_
  refine d_p rfl p_convw ?_
  refine d_x0 rfl (e_callp (fsmall_ok _) (h := ⟨inferInstance, ?_⟩))
  refine d_x0 rfl (e_callp (fmul_ok _ _) (h := ⟨inferInstance, ?_⟩))
  refine d_s2 rfl (e_store_all rfl rfl rfl (h := ?_))
  refine d_nil (f_next ?_)
  refine c_ret ?_
  exact f_rm (Or.inl rfl) Tryd.results37 ⟨rfl, rfl⟩

theorem fleast_ok (a : List Nat) [ha : El a] : Fn Tryd.prog 67 [.agg (us .u64 a).toArray] [] [] (fun u B' => u = .agg (us .u64 (fLeast a)).toArray ∧ B' = []) := by
  refine fn_enter Tryd.func67 rfl Tryd.ntmps67 rfl fun w => ?_
  obtain ⟨z, hz⟩ : ∃ z, carL (carL a) = z := ⟨_, rfl⟩
  haveI hE1 : El (carL a) := carL_cel
  haveI hE : El z := by rw [← hz]; exact carL_cel
  have hzf : fLeast a = leZ z := by rw [fLeast, hz]
  refine c_seq (c_region ?_)
  refine s_x (e_box rfl rfl fun b1 => ?_)
  refine s_x (e_alloc fun b2 => ?_)
  refine g_nil (f_next ?_)
  refine c_seq (c_region ?_)
  refine s_p p_field0 ?_
  refine s_p (p_load_all rfl) ?_
  refine s_x (e_callp (carried_ok a (by simp)) (h := ?_))
  refine s_x0 (e_store_all rfl rfl rfl (by simp) (by simp) (h := ?_))
  refine g_nil (f_next ?_)
  refine c_seq (c_region ?_)
  refine s_p p_field0 ?_
  refine s_p (p_load_all rfl) ?_
  refine s_x (e_callp (carried_ok (carL a) (by simp)) (h := ?_))
  rw [hz]
  refine s_x0 (e_store_all rfl rfl rfl (by simp) (by simp) (h := ?_))
  refine g_nil (f_next ?_)
  refine c_seq (c_region ?_)
  refine s_p (p_assign (v := .int .u64 ((19 : Nat) : Int))) ?_
  refine g_nil (f_next ?_)
  refine c_seq ?_
  refine c_seq (c_region ?_)
  refine s_p (p_move (v := .int .i64 ((0 : Nat) : Int))) ?_
  refine g_nil (f_next ?_)
  refine c_block ?_
  refine c_lp (X := Nat) (fun x => 5 - x) (fun c x => x ≤ 5) (fun x => [(13, .int .i64 (x : Int)), (3, .int .u64 ((ovL z x : Nat) : Int))]) [(1, _), (2, _)] (fun x => [.blk b1 (.cells (us .u64 z).toArray 77 (0, 0)), .blk b2 (.cells (us .u64 (List.replicate 5 0)).toArray 75 (0, 0))]) 0 (by first | omega | trivial) ⟨rfl, rfl, trivial⟩ (hr := fun x hx => ?_)
  refine c_seq (c_region ?_)
  refine s_p (p_lss (b := 5)) ?_
  refine g_nil (f_next ?_)
  refine c_seq ?_
  refine c_cond_dec rfl (fun h14 => ?_) (fun h14 => ?_)
  · skip
    replace h14 : _ < 5 := h14
    refine c_skip (f_next ?_)
    refine c_seq ?_
    refine c_block ?_
    refine c_seq (c_region ?_)
    refine s_p p_move ?_
    refine s_p p_assign ?_
    refine g_nil (f_next ?_)
    refine c_seq (c_region ?_)
    refine s_p p_move ?_
    refine s_p p_move ?_
    refine s_p p_field0 ?_
    refine s_p p_ix_arr0 ?_
    refine s_p (p_load_u rfl) ?_
    refine s_p p_addu ?_
    refine s_p p_assign ?_
    refine g_nil (f_next ?_)
    refine c_region ?_
    refine s_p p_move ?_
    refine s_p (p_shru (b := 51)) ?_
    refine s_p p_assign ?_
    refine g_nil (f_block_normal (f_next ?_))
    refine c_region ?_
    refine s_p (p_addn (b := 1)) ?_
    refine s_p p_move ?_
    refine g_nil ?_
    exact f_rd (x + 1)
  replace h14 : ¬ (_ < 5) := h14
  refine c_exit (f_pass_exit (f_pass_exit (f_block_exit (f_next ?_))))
  obtain rfl : x = 5 := by omega
  refine c_seq (c_region ?_)
  refine s_p p_field0 ?_
  refine s_p (p_load_all rfl) ?_
  refine s_x (e_alloc fun b5 => ?_)
  refine s_x0 (e_store_all rfl rfl rfl (h := ?_))
  refine g_nil (f_next ?_)
  refine c_seq (c_region ?_)
  refine s_p p_ix_arr0 ?_
  refine s_p (p_load_u rfl) ?_
  refine s_p p_move ?_
  refine s_p (p_mulu (a := 19)) ?_
  refine s_p p_addu ?_
  refine s_p p_ix_arr0 ?_
  refine s_x0 (e_store_u rfl rfl (l' := leI z 0) (h := ?_))
  refine g_nil (f_next ?_)
  refine c_seq ?_
  refine c_seq (c_region ?_)
  refine s_p (p_move (v := .int .i64 ((0 : Nat) : Int))) ?_
  refine g_nil (f_next ?_)
  refine c_block ?_
  refine c_lp (X := Nat) (fun x => 4 - x) (fun c x => x ≤ 4) (fun x => [(33, .int .i64 (x : Int))]) [(2, _), (5, _)] (fun x => [.blk b5 (.cells (us .u64 (leI z x)).toArray 75 (0, 0)), .blk b2 (.cells (us .u64 (List.replicate 5 0)).toArray 75 (0, 0))]) 0 (by first | omega | trivial) ⟨rfl, rfl, trivial⟩ (hr := fun x hx => ?_)
  refine c_seq (c_region ?_)
  refine s_p (p_lss (b := 4)) ?_
  refine g_nil (f_next ?_)
  refine c_seq ?_
  refine c_cond_dec rfl (fun h34 => ?_) (fun h34 => ?_)
  · skip
    replace h34 : _ < 4 := h34
    refine c_skip (f_next ?_)
    refine c_seq ?_
    refine c_block ?_
    refine c_seq (c_region ?_)
    refine s_p p_move ?_
    refine s_p p_assign ?_
    refine g_nil (f_next ?_)
    refine c_seq (c_run [.p, .p, .p, .r, .p, .p, .r, .p, .p, .p, .x2] [0, 1, 2, 3, 4, 5, 6, 7, 8, 9, 10] (by kernel_rfl) fun hn15 => ?_)
    refine d_p rfl p_move ?_
    refine d_p rfl (p_addn (b := 1)) ?_
    refine d_p rfl p_ix_arr0 ?_
    refine d_r hn15 rfl (p_load_u rfl) ?_
    refine d_p rfl p_move ?_
    refine d_p rfl p_ix_arr0 ?_
    refine d_r hn15 rfl (p_load_u rfl) ?_
    refine d_p rfl (p_shru (b := 51)) ?_
    refine d_p rfl p_addu ?_
    refine d_p rfl p_ix_arr0 ?_
    refine d_s2 rfl (e_store_u rfl rfl (h := ?_))
    refine d_nil (f_next ?_)
    refine c_region ?_
    refine s_p p_move ?_
    refine s_p p_ix_arr0 ?_
    refine s_p (p_load_u rfl) ?_
    refine s_p (p_andu (b := 2251799813685247)) ?_
    refine s_p p_ix_arr0 ?_
    refine s_x0 (e_store_u rfl rfl (l' := leI z (x + 1)) (h := ?_))
    refine g_nil (f_block_normal (f_next ?_))
    refine c_region ?_
    refine s_p (p_addn (b := 1)) ?_
    refine s_p p_move ?_
    refine g_nil ?_
    exact f_rd (x + 1)
  replace h34 : ¬ (_ < 4) := h34
  refine c_exit (f_pass_exit (f_pass_exit (f_block_exit (f_next ?_))))
  obtain rfl : x = 4 := by omega
  refine c_seq (c_region ?_)
  refine s_p p_ix_arr0 ?_
  refine s_p (p_load_u rfl) ?_
  refine s_p (p_andu (b := 2251799813685247)) ?_
  refine s_p p_ix_arr0 ?_
  refine s_x0 (e_store_u rfl rfl (l' := leZ z) (h := ?_))
  refine g_nil (f_next ?_)
  rw [← hzf]
  have hfl : (fLeast a).length = 5 := fLeast_len
  refine c_seq (c_region ?_)
  refine s_p (p_load_all rfl (by simp [hfl])) ?_
  refine s_x0 (e_store_all rfl rfl rfl (by simp [hfl]) (by simp) (h := ?_))
  refine g_nil (f_next ?_)
  refine c_ret ?_
  exact f_rm (Or.inl rfl) Tryd.results67 ⟨rfl, rfl⟩ (hl := by simp [hfl])

theorem fbytes_ok (a : List Nat) [ha : El a] : Fn Tryd.prog 39 [.agg (us .u64 a).toArray] [] [] (fun u B' => u = .agg (us .u8 (fBytes a)).toArray ∧ B' = []) := by
  refine fn_enter Tryd.func39 rfl Tryd.ntmps39 rfl fun w => ?_
  have hfl : (fLeast a).length = 5 := fLeast_len
  refine c_seq (c_region ?_)
  refine s_x (e_box rfl rfl fun b1 => ?_)
  refine s_x (e_alloc fun b2 => ?_)
  refine g_nil (f_next ?_)
  refine c_seq (c_region ?_)
  refine s_p (p_load_all rfl) ?_
  refine s_x (e_callp (fleast_ok _) (h := ?_))
  refine s_x (e_alloc fun b3 => ?_)
  refine s_x0 (e_store_all rfl rfl rfl (by simp [hfl]) (by simp) (h := ?_))
  refine g_nil (f_next ?_)
  refine c_seq (c_region ?_)
  refine s_x (e_alloc fun b4 => ?_)
  refine g_nil (f_next ?_)
  refine c_seq ?_
  refine c_seq (c_region ?_)
  refine s_p (p_move (v := .int .i64 ((0 : Nat) : Int))) ?_
  refine g_nil (f_next ?_)
  refine c_block ?_
  refine c_lp (X := Nat) (fun x => 255 - x) (fun c x => x ≤ 255) (fun x => [(8, .int .i64 (x : Int))]) [(2, _), (3, _), (4, _)] (fun x => [.blk b4 (.cells (us .u8 (byI (fLeast a) x)).toArray 22 (0, 0)), .blk b3 (.cells (us .u64 (fLeast a)).toArray 75 (0, 0)), .blk b2 (.cells (us .u8 (List.replicate 32 0)).toArray 22 (0, 0))]) 0 (by first | omega | trivial) ⟨rfl, rfl, rfl, trivial⟩ (hr := fun x hx => ?_)
  refine c_seq (c_region ?_)
  refine s_p (p_lss (b := 255)) ?_
  refine g_nil (f_next ?_)
  refine c_seq ?_
  refine c_cond_dec rfl (fun h9 => ?_) (fun h9 => ?_)
  · skip
    replace h9 : _ < 255 := h9
    refine c_skip (f_next ?_)
    refine c_seq ?_
    refine c_block ?_
    refine c_seq (c_region ?_)
    refine s_p p_move ?_
    refine s_p p_assign ?_
    refine g_nil (f_next ?_)
    refine (c_run [.p, .p, .p, .r, .p, .p, .p, .r, .p, .p, .p, .p, .p, .p, .p, .p, .p, .p, .x2] [0, 1, 2, 3, 4, 5, 6, 7, 8, 9, 10, 11, 12, 13, 14, 15, 16, 17, 18] (by kernel_rfl) fun hn6 => ?_)
    refine d_p rfl p_move ?_
    refine d_p rfl (p_quon (b := 8)) ?_
    refine d_p rfl p_ix_arr0 ?_
    refine d_r hn6 rfl (p_load_u rfl) ?_
    refine d_p rfl p_move ?_
    refine d_p rfl (p_quon (b := 51)) ?_
    refine d_p rfl p_ix_arr0 ?_
    refine d_r hn6 rfl (p_load_u rfl) ?_
    refine d_p rfl p_move ?_
    refine d_p rfl (p_remn (b := 51)) ?_
    refine d_p rfl p_shru ?_
    refine d_p rfl (p_andu (b := 1)) ?_
    refine d_p rfl p_convu ?_
    refine d_p rfl p_move ?_
    refine d_p rfl (p_remn (b := 8)) ?_
    refine d_p rfl p_shlu ?_
    refine d_p rfl p_oru ?_
    refine d_p rfl p_ix_arr0 ?_
    refine d_s2 rfl (e_store_u rfl rfl (l' := byI (fLeast a) (x + 1)) (h := ?_))
    refine d_nil (f_block_normal (f_next ?_))
    refine c_region ?_
    refine s_p (p_addn (b := 1)) ?_
    refine s_p p_move ?_
    refine g_nil ?_
    exact f_rd (x + 1)
  replace h9 : ¬ (_ < 255) := h9
  refine c_exit (f_pass_exit (f_pass_exit (f_block_exit (f_next ?_))))
  obtain rfl : x = 255 := by omega
  refine c_seq (c_region ?_)
  refine s_p (p_load_all rfl) ?_
  refine s_x0 (e_store_all (vs := us .u8 (fBytes a)) rfl rfl rfl (by simp) (by simp) (h := ?_))
  refine g_nil (f_next ?_)
  refine c_ret ?_
  exact f_rm (Or.inl rfl) Tryd.results39 ⟨rfl, rfl⟩ (hl := by simp)

theorem fpow1_ok (p q b : Nat) (o a : List Nat) (T1 T2 : TypeId) [ho : El o] [ha : El a] (hb : b ≤ 1) : Fn Tryd.prog 83 [.int .u64 (b : Int), ptr p 0, ptr q 0] [.blk p (.cells (us .u64 o).toArray T1 (0, 0)), .blk q (.cells (us .u64 a).toArray T2 (0, 0))] [] (fun u B' => u = .tuple #[] ∧ B' = [.blk p (.cells (us .u64 (pk b (fMul (fMul o o) a) (fMul o o))).toArray T1 (0, 0)), .blk q (.cells (us .u64 a).toArray T2 (0, 0))]) := by
  refine fn_enter Tryd.func83 rfl Tryd.ntmps83 rfl fun w => ?_
  haveI : Fits b .u64 := ⟨Nat.lt_of_le_of_lt hb (by decide)⟩
  have hpk : pk (mbit b) (fMul (fMul o o) a) (fMul o o) = pk b (fMul (fMul o o) a) (fMul o o) := by
    have : b = 0 ∨ b = 1 := by omega
    rcases this with rfl | rfl <;> rfl
  refine c_seq (c_region ?_)
  refine s_p (p_load_all rfl) ?_
  refine s_x (e_callp (fsq_ok _) (h := ?_))
  refine s_x0 (e_store_all rfl rfl rfl (by simp) (by simp) (h := ?_))
  refine g_nil (f_next ?_)
  refine (c_run [.p, .x0, .r, .r, .x0, .r, .x0, .x2] [0, 2, 3, 5, 1, 4, 6, 7] (by kernel_rfl) fun hn1 => ?_)
  refine d_p rfl p_move ?_
  refine d_r hn1 rfl (p_load_all rfl) ?_
  refine d_r hn1 rfl (p_load_all rfl) ?_
  refine d_r hn1 rfl (p_load_all rfl) ?_
  refine d_x0 rfl (e_callp (bit_ok _) (h := ⟨inferInstance, ?_⟩))
  refine d_x0 rfl (e_callp (fmul_ok _ _) (h := ⟨inferInstance, ?_⟩))
  refine d_x0 rfl (e_callp (fpick_ok _ _ _) (h := ⟨inferInstance, ?_⟩))
  rw [hpk]
  refine d_s2 rfl (e_store_all rfl rfl rfl (by simp) (by simp) (h := ?_))
  refine d_nil ?_
  exact f_r0 (Or.inr rfl) Tryd.results83 ⟨rfl, rfl⟩

instance : Fits 2 .u64 := ⟨by decide⟩

theorem fpower_ok (a e : List Nat) [ha : El a] [hu : Us .u8 e] (he : e.length = 32) : Fn Tryd.prog 66 [.agg (us .u64 a).toArray, .agg (us .u8 e).toArray] [] [] (fun u B' => u = .agg (us .u64 (pwI a e 256)).toArray ∧ B' = []) := by
  refine fn_enter Tryd.func66 rfl Tryd.ntmps66 rfl fun w => ?_
  refine c_seq (c_region ?_)
  refine s_x (e_box rfl rfl fun b2 => ?_)
  refine s_x (e_box rfl rfl fun b3 => ?_)
  refine s_x (e_alloc fun b4 => ?_)
  refine g_nil (f_next ?_)
  refine c_seq (c_region ?_)
  refine s_x (e_callp (fsmall_ok _) (h := ?_))
  refine s_x (e_alloc fun b5 => ?_)
  refine s_x0 (e_store_all rfl rfl rfl (by simp) (by simp) (h := ?_))
  refine g_nil (f_next ?_)
  refine c_seq (c_region ?_)
  refine s_p (p_mkfunc rfl) ?_
  refine s_p p_assign ?_
  refine g_nil (f_next ?_)
  refine c_seq ?_
  refine c_seq (c_region ?_)
  refine s_p (p_ie (p_assign (v := .int .i64 ((255 : Nat) : Int))) (b := (255 : Int) - ((0 : Nat) : Int)) (by decide)) ?_
  refine g_own (B2 := [.blk b5 (.cells (us .u64 (pwI a e 0)).toArray 77 (0, 0)), .blk b4 (.cells (us .u64 (List.replicate 5 0)).toArray 77 (0, 0)), .blk b3 (.cells (us .u8 e).toArray 22 (0, 0)), .blk b2 (.cells (us .u64 a).toArray 77 (0, 0))]) rfl ?_
  refine g_nil (f_next ?_)
  refine c_block ?_
  refine c_lp (X := Nat) (fun x => 256 - x) (fun c x => x ≤ 256) (fun x => [(7, .int .i64 ((255 : Int) - (x : Int)))]) [(3, _), (4, _), (5, _), (6, _)] (fun x => [.blk b5 (.cells (us .u64 (pwI a e x)).toArray 77 (0, 0)), .blk b4 (.cells (us .u64 (List.replicate 5 0)).toArray 77 (0, 0)), .blk b3 (.cells (us .u8 e).toArray 22 (0, 0)), .blk b2 (.cells (us .u64 a).toArray 77 (0, 0))]) 0 (by first | omega | trivial) ⟨rfl, rfl, rfl, rfl, trivial⟩ (hr := fun x hx => ?_)
  refine c_seq ?_
  refine c_seq (c_region ?_)
  refine s_p p_move ?_
  refine s_p (p_geqi (b := 0)) ?_
  refine g_nil (f_next ?_)
  refine c_cond_dec rfl (fun h11 => ?_) (fun h11 => ?_)
  · skip
    have hx8 : x < 256 := by have := of_decide_eq_true (show decide ((0 : Int) ≤ 255 - (x : Int)) = true by simpa using h11); omega
    refine c_skip (f_next ?_)
    refine c_seq ?_
    refine c_block ?_
    refine c_region ?_
    refine s_p p_move ?_
    refine s_p (p_ie p_move (b := ((255 - x : Nat) : Int)) (by omega)) ?_
    refine s_p (p_quon (b := 8)) ?_
    refine s_p p_ix_arr0 ?_
    refine s_p (p_load_u rfl) ?_
    refine s_p (p_ie p_move (b := ((255 - x : Nat) : Int)) (by omega)) ?_
    refine s_p (p_remn (b := 8)) ?_
    refine s_p p_shru ?_
    refine s_p (p_andu (b := 1)) ?_
    refine s_p p_convw ?_
    refine s_x (e_callf (vs := [.int .u64 ((ebit e x : Nat) : Int)]) (cap := [ptr b5 0, ptr b2 0]) (fpow1_ok b5 b2 (ebit e x) (pwI a e x) a 77 77 Nat.and_le_right) (h := fun v24 B24 h24 => ?_))
    obtain ⟨rfl, rfl⟩ := h24
    simp only [List.cons_append, List.nil_append]
    rw [show pk (ebit e x) (fMul (fMul (pwI a e x) (pwI a e x)) a) (fMul (pwI a e x) (pwI a e x)) = pwI a e (x + 1) from rfl]
    refine g_nil (f_block_normal (f_next ?_))
    refine c_region ?_
    refine s_p p_move ?_
    refine s_p (p_ie (p_subi (b := 1) rfl rfl (by omega) (by omega)) (b := (255 : Int) - ((x + 1 : Nat) : Int)) (by omega)) ?_
    refine s_p p_assign ?_
    refine g_nil ?_
    exact f_rd (x + 1)
  refine c_exit (f_pass_exit (f_pass_exit (f_block_exit (f_next ?_))))
  obtain rfl : x = 256 := by omega
  refine c_seq (c_region ?_)
  refine s_p (p_load_all rfl) ?_
  refine s_x0 (e_store_all rfl rfl rfl (by simp) (by simp) (h := ?_))
  refine g_nil (f_next ?_)
  refine c_ret ?_
  exact f_rm (Or.inl rfl) Tryd.results66 ⟨rfl, rfl⟩ (hl := by simp)

theorem finv_ok (a : List Nat) [ha : El a] : Fn Tryd.prog 38 [.agg (us .u64 a).toArray] [] [] (fun u B' => u = .agg (us .u64 (fInv a)).toArray ∧ B' = []) := by
  refine fn_enter Tryd.func38 rfl Tryd.ntmps38 rfl fun w => ?_
  refine c_seq (c_region ?_)
  refine s_x (e_box rfl rfl fun b1 => ?_)
  refine s_x (e_alloc fun b2 => ?_)
  refine g_nil (f_next ?_)
  refine c_seq (c_region ?_)
  refine s_x (e_callp (fsmall_ok 2) (h := ?_))
  refine s_x (e_callp (fneg_ok _) (h := ?_))
  refine s_x (e_callp (fbytes_ok (fSub f0 (fSmall 2))) (h := ?_))
  rw [show fBytes (fSub f0 (fSmall 2)) = eInv from rfl]
  refine s_x (e_alloc fun b3 => ?_)
  refine s_x0 (e_store_all rfl rfl rfl (by simp) (by simp) (h := ?_))
  refine g_nil (f_next ?_)
  refine c_seq (c_region ?_)
  refine s_p (p_load_all rfl) ?_
  refine s_p (p_load_all rfl) ?_
  refine s_x (e_callp (fpower_ok a eInv (by simp)) (h := ?_))
  rw [show pwI a eInv 256 = fInv a from rfl]
  refine s_x0 (e_store_all rfl rfl rfl (by simp) (by simp) (h := ?_))
  refine g_nil (f_next ?_)
  refine c_ret ?_
  exact f_rm (Or.inl rfl) Tryd.results38 ⟨rfl, rfl⟩ (hl := by simp)

end Go.Tw
end

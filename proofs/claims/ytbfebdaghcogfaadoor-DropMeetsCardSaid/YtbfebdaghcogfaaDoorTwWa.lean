/- Walks through functions that the statement reaches: what each computes. -/
import Derived.Test.YtbfebdaghcogfaaDoorTwTys
import Derived.Test.YtbfebdaghcogfaaDoorTwPar
import Derived.Test.YtbfebdaghcogfaaDoorTwMore
section
namespace Go.Tw
open Go Go.Proofs

/-- The mask of a bit. -/
def mbit (x : Nat) : Nat := (0 + (2 ^ IntKind.u64.bits - (x &&& 1))) % 2 ^ IntKind.u64.bits
instance {x : Nat} : Fits (mbit x) .u64 := ⟨Nat.mod_lt _ (Nat.two_pow_pos _)⟩
theorem mbit_eq (x : Nat) : mbit x = if x % 2 = 1 then 2 ^ 64 - 1 else 0 := by
  unfold mbit
  rw [Nat.and_one_is_mod]
  rcases Nat.mod_two_eq_zero_or_one x with h | h <;> rw [h] <;> rfl

theorem bit_ok (x : Nat) [Fits x .u64] : Fn Tryd.prog 81 [.int .u64 (x : Int)] [] [] (fun u B' => u = .int .u64 (mbit x : Int) ∧ B' = []) := by
  refine fn_enter Tryd.func81 rfl Tryd.ntmps81 rfl fun w => ?_
  refine c_seq (c_region ?_)
  refine s_p (p_assign (v := .int .u64 ((0 : Nat) : Int))) ?_
  refine g_nil (f_next ?_)
  refine c_seq (c_region ?_)
  refine s_p p_move ?_
  refine s_p (p_andu (b := 1)) ?_
  refine s_p (p_subu (a := 0)) ?_
  refine s_p p_assign ?_
  refine g_nil (f_next ?_)
  refine c_ret ?_
  exact f_r1 (Or.inl rfl) Tryd.results81 ⟨rfl, rfl⟩

theorem pick_ok (m x y : Nat) [Fits m .u64] [Fits x .u64] [Fits y .u64] : Fn Tryd.prog 82 [.int .u64 (m : Int), .int .u64 (x : Int), .int .u64 (y : Int)] [] [] (fun u B' => u = .int .u64 ((y ^^^ (m &&& (x ^^^ y)) : Nat) : Int) ∧ B' = []) := by
  refine fn_enter Tryd.func82 rfl Tryd.ntmps82 rfl fun w => ?_
  refine c_seq (c_region ?_)
  refine s_p (p_assign (v := .int .u64 ((0 : Nat) : Int))) ?_
  refine g_nil (f_next ?_)
  refine c_seq (c_region ?_)
  refine s_p p_move ?_
  refine s_p p_move ?_
  refine s_p p_move ?_
  refine s_p p_move ?_
  refine s_p p_xoru ?_
  refine s_p p_andu ?_
  refine s_p p_xoru ?_
  refine s_p p_assign ?_
  refine g_nil (f_next ?_)
  refine c_ret ?_
  exact f_r1 (Or.inl rfl) Tryd.results82 ⟨rfl, rfl⟩

/-- The mask of nought. -/
def mzero (x : Nat) : Nat := if x = 0 then 2 ^ 64 - 1 else 0
instance {x : Nat} : Fits (mzero x) .u64 := ⟨by unfold mzero; split <;> decide⟩
theorem mzero_eq (x : Nat) (hx : x < 2 ^ 64) : mbit (((x ||| ((0 + (2 ^ IntKind.u64.bits - x)) % 2 ^ IntKind.u64.bits)) >>> 63) ^^^ 1) = mzero x := by
  simp only [IntKind.bits]
  by_cases h : x = 0
  · subst h; rfl
  · have e : (x ||| ((0 + (2 ^ 64 - x)) % 2 ^ 64)) >>> 63 = 1 := by
      have hlt : (x ||| ((0 + (2 ^ 64 - x)) % 2 ^ 64)) < 2 ^ 64 := Nat.or_lt_two_pow hx (Nat.mod_lt _ (by decide))
      have hge : 2 ^ 63 ≤ (x ||| ((0 + (2 ^ 64 - x)) % 2 ^ 64)) := by
        rcases Nat.lt_or_ge x (2 ^ 63) with h1 | h1
        · exact Nat.le_trans (by rw [Nat.mod_eq_of_lt (by omega)]; omega) Nat.right_le_or
        · exact Nat.le_trans h1 Nat.left_le_or
      rw [Nat.shiftRight_eq_div_pow]
      omega
    rw [e]
    simp only [mzero, if_neg h]; rfl

theorem zero_ok (x : Nat) [hx : Fits x .u64] : Fn Tryd.prog 100 [.int .u64 (x : Int)] [] [] (fun u B' => u = .int .u64 (mzero x : Int) ∧ B' = []) := by
  refine fn_enter Tryd.func100 rfl Tryd.ntmps100 rfl fun w => ?_
  refine c_seq (c_region ?_)
  refine s_p (p_assign (v := .int .u64 ((0 : Nat) : Int))) ?_
  refine g_nil (f_next ?_)
  refine c_seq (c_region ?_)
  refine s_p p_move ?_
  refine s_p p_move ?_
  refine s_p (p_subu (a := 0)) ?_
  refine s_p p_oru ?_
  refine s_p (p_shru (b := 63)) ?_
  refine s_p (p_xoru (b := 1)) ?_
  refine s_x (e_callp (bit_ok _) (h := ?_))
  rw [mzero_eq x hx.lt]
  refine s_p p_assign ?_
  refine g_nil (f_next ?_)
  refine c_ret ?_
  exact f_r1 (Or.inl rfl) Tryd.results100 ⟨rfl, rfl⟩

/-- The difference of two rows of bytes, gathered. -/
def gath (a b : List Nat) : Nat → Nat
  | 0 => 0
  | i + 1 => gath a b i ||| (a.getD i 0 ^^^ b.getD i 0)
theorem gath_lt {a b : List Nat} [ha : Us .u8 a] [hb : Us .u8 b] : ∀ i, gath a b i < 2 ^ IntKind.u8.bits
  | 0 => Nat.two_pow_pos _
  | i + 1 => Nat.or_lt_two_pow (gath_lt i) (Nat.xor_lt_two_pow (ha.getD_lt i) (hb.getD_lt i))
instance {a b : List Nat} [ha : Us .u8 a] [hb : Us .u8 b] {i : Nat} : Fits (gath a b i) .u64 := ⟨Nat.lt_trans (gath_lt i) (by decide)⟩
theorem xor_zero {a b : Nat} : a ^^^ b = 0 ↔ a = b := by
  constructor
  · intro h
    have := congrArg (· ^^^ b) h
    simpa [Nat.xor_assoc] using this
  · rintro rfl; simp
theorem gath_zero {a b : List Nat} : ∀ i, gath a b i = 0 ↔ ∀ j, j < i → a.getD j 0 = b.getD j 0
  | 0 => by simp [gath]
  | i + 1 => by
    rw [gath, Nat.or_eq_zero_iff, gath_zero i, xor_zero]
    constructor
    · rintro ⟨h1, h2⟩ j hj
      rcases Nat.lt_succ_iff_lt_or_eq.1 hj with h | rfl
      · exact h1 j h
      · exact h2
    · exact fun h => ⟨fun j hj => h j (by omega), h i (by omega)⟩
/-- The mask that tells whether two rows of bytes are alike. -/
def msame (a b : List Nat) : Nat := if a = b then 2 ^ 64 - 1 else 0
instance {a b : List Nat} : Fits (msame a b) .u64 := ⟨by unfold msame; split <;> decide⟩
theorem msame_eq {a b : List Nat} {n : Nat} (ha : a.length = n) (hb : b.length = n) : mzero (gath a b n) = msame a b := by
  unfold mzero msame
  by_cases h : a = b
  · rw [if_pos h, if_pos ((gath_zero n).2 fun j _ => by rw [h])]
  · rw [if_neg h, if_neg]
    intro hg
    refine h (List.ext_getElem (by omega) fun j h1 h2 => ?_)
    have := (gath_zero n).1 hg j (by omega)
    simpa [h1, h2] using this

theorem same_ok (v1 v2 : Value) (n m : Nat) (a b : List Nat) [Us .u8 a] [Us .u8 b] (hn : n ≤ 1152921504606846976) : Fn Tryd.prog 89 [v1, v2] [] [rdF v1 1 n (us .u8 a), rdF v2 1 m (us .u8 b)] (fun u B' => u = .int .u64 (msame a b : Int) ∧ B' = []) := by
  refine fn_enter Tryd.func89 rfl Tryd.ntmps89 rfl fun w => ?_
  refine c_fact (p := a.length = n ∧ b.length = m) (fun _ _ s => ⟨by simpa using (s.read (f := rdF v1 1 n (us .u8 a)) (by simp)).1, by simpa using (s.read (f := rdF v2 1 m (us .u8 b)) (by simp)).1⟩) fun hl => ?_
  obtain ⟨ha, hb⟩ := hl
  refine c_seq (c_region ?_)
  refine s_p (p_assign (v := .int .u64 ((0 : Nat) : Int))) ?_
  refine g_nil (f_next ?_)
  refine c_seq ?_
  refine c_seq (c_region ?_)
  refine s_p p_move ?_
  refine s_p (p_len rfl) ?_
  refine s_p p_move ?_
  refine s_p (p_len rfl) ?_
  refine s_p p_neq ?_
  refine g_nil (f_next ?_)
  refine c_cond_dec rfl (fun h11 => ?_) (fun h11 => ?_)
  · skip
    refine c_seq (c_region ?_)
    refine s_p (p_assign (v := .int .u64 ((0 : Nat) : Int))) ?_
    refine g_nil (f_next ?_)
    refine c_ret (f_pass_ret ?_)
    exact f_r1 (Or.inl rfl) Tryd.results89 ⟨by rw [msame, if_neg (by rintro rfl; omega)], rfl⟩
  refine c_skip (f_next ?_)
  refine c_seq (c_region ?_)
  refine s_p (p_assign (v := .int .u64 ((0 : Nat) : Int))) ?_
  refine g_nil (f_next ?_)
  refine c_seq ?_
  refine c_seq (c_region ?_)
  refine s_p p_move ?_
  refine s_p (p_len rfl) ?_
  refine s_p (p_move (v := .int .i64 ((0 : Nat) : Int))) ?_
  refine g_nil (f_next ?_)
  refine c_block ?_
  refine c_lp (X := Nat) (fun x => n - x) (fun c x => x ≤ n) (fun x => [(5, .int .u64 (gath a b x : Int)), (14, .int .i64 (x : Int))]) [(0, _), (1, _), (13, _)] (fun x => []) 0 (by omega) ⟨rfl, rfl, rfl, trivial⟩ (hr := fun x hx => ?_)
  refine c_seq (c_region ?_)
  refine s_p p_lss ?_
  refine g_nil (f_next ?_)
  refine c_seq ?_
  refine c_cond_dec rfl (fun h15 => ?_) (fun h15 => ?_)
  · skip
    refine c_skip (f_next ?_)
    refine c_seq ?_
    refine c_block ?_
    refine c_seq (c_region ?_)
    refine s_p p_move ?_
    refine s_p p_assign ?_
    refine g_nil (f_next ?_)
    refine (c_run [.p, .p, .p, .r, .r, .p, .p, .r, .r, .p, .p, .p, .p] [0, 1, 2, 3, 4, 5, 6, 7, 8, 9, 10, 11, 12] (by kernel_rfl) fun hn7 => ?_)
    refine d_p rfl p_move ?_
    refine d_p rfl p_move ?_
    refine d_p rfl p_move ?_
    refine d_r hn7 rfl (p_ix_sl1 rfl rfl) ?_
    refine d_r hn7 rfl (p_load_slu rfl) ?_
    refine d_p rfl p_move ?_
    refine d_p rfl p_move ?_
    refine d_r hn7 rfl (p_ix_sl1 rfl rfl) ?_
    refine d_r hn7 rfl (p_load_slu rfl) ?_
    refine d_p rfl p_xoru ?_
    refine d_p rfl p_convw ?_
    refine d_p rfl p_oru ?_
    refine d_p rfl p_assign ?_
    refine d_nil (f_block_normal (f_next ?_))
    refine c_region ?_
    refine s_p (p_addn (b := 1)) ?_
    refine s_p p_move ?_
    refine g_nil ?_
    exact f_rd (x + 1)
  refine c_exit (f_pass_exit (f_pass_exit (f_block_exit (f_next ?_))))
  obtain rfl : x = n := by omega
  refine c_seq (c_region ?_)
  refine s_p p_move ?_
  refine s_x (e_callp (zero_ok _) (h := ?_))
  rw [msame_eq ha (by omega)]
  refine s_p p_assign ?_
  refine g_nil (f_next ?_)
  refine c_ret ?_
  exact f_r1 (Or.inl rfl) Tryd.results89 ⟨rfl, rfl⟩

end Go.Tw
end

section
namespace Go.Tw
open Go Go.Proofs

theorem width64_ok : Fn Tryd.prog 58 [] [] [] (fun u B' => u = .int .i64 ((8 : Nat) : Int) ∧ B' = []) := by
  refine fn_enter Tryd.func58 rfl Tryd.ntmps58 rfl fun w => ?_
  refine c_seq (c_region ?_)
  refine s_p (p_assign (v := .int .i64 ((0 : Nat) : Int))) ?_
  refine g_nil (f_next ?_)
  refine c_seq (c_region ?_)
  refine s_p p_convu ?_
  refine s_p p_notu ?_
  refine s_p p_assign ?_
  refine g_nil (f_next ?_)
  refine c_seq (c_region ?_)
  refine s_p (p_assign (v := .int .i64 ((0 : Nat) : Int))) ?_
  refine g_nil (f_next ?_)
  refine c_seq ?_
  refine c_block ?_
  refine c_lp (X := Nat) (fun x => 8 - x) (fun c x => x ≤ 8) (fun x => [(1, .int .u64 ((18446744073709551615 >>> (8 * x) : Nat) : Int)), (2, .int .i64 (x : Int))]) [] (fun x => []) 0 (by first | omega | trivial) trivial (hr := fun x hx => ?_)
  refine c_seq ?_
  refine c_seq (c_region ?_)
  refine s_p p_move ?_
  refine s_p (p_neq (b := 0)) ?_
  refine g_nil (f_next ?_)
  refine c_cond_dec rfl (fun h6 => ?_) (fun h6 => ?_)
  · skip
    replace h6 : _ ≠ 0 := h6
    have hx8 : x < 8 := by
      rcases Nat.lt_or_ge x 8 with h | h
      · exact h
      · obtain rfl : x = 8 := by omega
        exact absurd rfl h6
    refine c_skip (f_next ?_)
    refine c_block ?_
    refine c_seq (c_region ?_)
    refine s_p p_move ?_
    refine s_p (p_shru (ha := Nat.lt_of_le_of_lt (Nat.shiftRight_le _ _) (by decide))) ?_
    refine s_p p_assign ?_
    refine g_nil (f_next ?_)
    refine c_seq (c_region ?_)
    refine s_p p_move ?_
    refine s_p (p_nat (p_shru (ha := Nat.lt_of_le_of_lt (Nat.shiftRight_le _ _) (Nat.lt_of_le_of_lt (Nat.shiftRight_le _ _) (by decide)))) (b := 18446744073709551615 >>> (8 * (x + 1))) (by rw [← Nat.shiftRight_add, ← Nat.shiftRight_add]; congr 1)) ?_
    refine s_p p_assign ?_
    refine g_nil (f_next ?_)
    refine c_region ?_
    refine s_p p_move ?_
    refine s_p (p_addn (b := 1)) ?_
    refine s_p p_assign ?_
    refine g_nil (f_block_normal ?_)
    exact f_rd (x + 1)
  replace h6 : ¬ (_ ≠ 0) := h6
  refine c_exit (f_pass_exit (f_pass_exit (f_block_exit (f_next ?_))))
  obtain rfl : x = 8 := by
    rcases Nat.lt_or_ge x 8 with h | h
    · exfalso; apply h6; intro e
      rw [Nat.shiftRight_eq_div_pow, Nat.div_eq_zero_iff] at e
      rcases e with e | e
      · simp at e
      · have : 2 ^ (8 * x) ≤ 2 ^ 56 := Nat.pow_le_pow_right (by decide) (by omega)
        omega
    · omega
  refine c_seq (c_region ?_)
  refine s_p p_move ?_
  refine s_p p_assign ?_
  refine g_nil (f_next ?_)
  refine c_ret ?_
  exact f_r1 (Or.inl rfl) Tryd.results58 ⟨rfl, rfl⟩

theorem width32_ok : Fn Tryd.prog 80 [] [] [] (fun u B' => u = .int .i64 ((4 : Nat) : Int) ∧ B' = []) := by
  refine fn_enter Tryd.func80 rfl Tryd.ntmps80 rfl fun w => ?_
  refine c_seq (c_region ?_)
  refine s_p (p_assign (v := .int .i64 ((0 : Nat) : Int))) ?_
  refine g_nil (f_next ?_)
  refine c_seq (c_region ?_)
  refine s_p p_convu ?_
  refine s_p p_notu ?_
  refine s_p p_assign ?_
  refine g_nil (f_next ?_)
  refine c_seq (c_region ?_)
  refine s_p (p_assign (v := .int .i64 ((0 : Nat) : Int))) ?_
  refine g_nil (f_next ?_)
  refine c_seq ?_
  refine c_block ?_
  refine c_lp (X := Nat) (fun x => 4 - x) (fun c x => x ≤ 4) (fun x => [(1, .int .u32 ((4294967295 >>> (8 * x) : Nat) : Int)), (2, .int .i64 (x : Int))]) [] (fun x => []) 0 (by first | omega | trivial) trivial (hr := fun x hx => ?_)
  refine c_seq ?_
  refine c_seq (c_region ?_)
  refine s_p p_move ?_
  refine s_p (p_neq (b := 0)) ?_
  refine g_nil (f_next ?_)
  refine c_cond_dec rfl (fun h6 => ?_) (fun h6 => ?_)
  · skip
    replace h6 : _ ≠ 0 := h6
    have hx8 : x < 4 := by
      rcases Nat.lt_or_ge x 4 with h | h
      · exact h
      · obtain rfl : x = 4 := by omega
        exact absurd rfl h6
    refine c_skip (f_next ?_)
    refine c_block ?_
    refine c_seq (c_region ?_)
    refine s_p p_move ?_
    refine s_p (p_shru (ha := Nat.lt_of_le_of_lt (Nat.shiftRight_le _ _) (by decide))) ?_
    refine s_p p_assign ?_
    refine g_nil (f_next ?_)
    refine c_seq (c_region ?_)
    refine s_p p_move ?_
    refine s_p (p_nat (p_shru (ha := Nat.lt_of_le_of_lt (Nat.shiftRight_le _ _) (Nat.lt_of_le_of_lt (Nat.shiftRight_le _ _) (by decide)))) (b := 4294967295 >>> (8 * (x + 1))) (by rw [← Nat.shiftRight_add, ← Nat.shiftRight_add]; congr 1)) ?_
    refine s_p p_assign ?_
    refine g_nil (f_next ?_)
    refine c_region ?_
    refine s_p p_move ?_
    refine s_p (p_addn (b := 1)) ?_
    refine s_p p_assign ?_
    refine g_nil (f_block_normal ?_)
    exact f_rd (x + 1)
  replace h6 : ¬ (_ ≠ 0) := h6
  refine c_exit (f_pass_exit (f_pass_exit (f_block_exit (f_next ?_))))
  obtain rfl : x = 4 := by
    rcases Nat.lt_or_ge x 4 with h | h
    · exfalso; apply h6; intro e
      rw [Nat.shiftRight_eq_div_pow, Nat.div_eq_zero_iff] at e
      rcases e with e | e
      · simp at e
      · have : 2 ^ (8 * x) ≤ 2 ^ 24 := Nat.pow_le_pow_right (by decide) (by omega)
        omega
    · omega
  refine c_seq (c_region ?_)
  refine s_p p_move ?_
  refine s_p p_assign ?_
  refine g_nil (f_next ?_)
  refine c_ret ?_
  exact f_r1 (Or.inl rfl) Tryd.results80 ⟨rfl, rfl⟩

theorem fits64_ok (v : Value) (n : Nat) (l : List Nat) : Fn Tryd.prog 84 [v] [] [rdF v 1 n (us .u8 l)] (fun u B' => u = .int .i64 ((if n < 8 then 20 else if 8 < n then 21 else 0 : Nat) : Int) ∧ B' = []) := by
  refine fn_enter Tryd.func84 rfl Tryd.ntmps84 rfl fun w => ?_
  refine c_seq (c_region ?_)
  refine s_p (p_assign (v := .int .i64 ((0 : Nat) : Int))) ?_
  refine g_nil (f_next ?_)
  refine c_seq (c_region ?_)
  refine s_x (e_callp width64_ok (h := ?_))
  refine s_p p_assign ?_
  refine g_nil (f_next ?_)
  refine c_seq ?_
  refine c_seq (c_region ?_)
  refine s_p p_move ?_
  refine s_p (p_len rfl) ?_
  refine s_p p_move ?_
  refine s_p p_lss ?_
  refine g_nil (f_next ?_)
  refine c_cond_dec rfl (fun h8 => ?_) (fun h8 => ?_)
  · skip
    refine c_seq (c_region ?_)
    refine s_p (p_assign (v := .int .i64 ((20 : Nat) : Int))) ?_
    refine g_nil (f_next ?_)
    refine c_ret (f_pass_ret ?_)
    exact f_r1 (Or.inl rfl) Tryd.results84 ⟨by rw [if_pos h8], rfl⟩
  refine c_skip (f_next ?_)
  refine c_seq ?_
  refine c_seq (c_region ?_)
  refine s_p p_move ?_
  refine s_p (p_len rfl) ?_
  refine s_p p_move ?_
  refine s_p p_gtr ?_
  refine g_nil (f_next ?_)
  refine c_cond_dec rfl (fun h12 => ?_) (fun h12 => ?_)
  · skip
    refine c_seq (c_region ?_)
    refine s_p (p_assign (v := .int .i64 ((21 : Nat) : Int))) ?_
    refine g_nil (f_next ?_)
    refine c_ret (f_pass_ret ?_)
    exact f_r1 (Or.inl rfl) Tryd.results84 ⟨by rw [if_neg h8, if_pos h12], rfl⟩
  refine c_skip (f_next ?_)
  refine c_seq (c_region ?_)
  refine s_p (p_assign (v := .int .i64 ((0 : Nat) : Int))) ?_
  refine g_nil (f_next ?_)
  refine c_ret ?_
  exact f_r1 (Or.inl rfl) Tryd.results84 ⟨by rw [if_neg h8, if_neg h12], rfl⟩

theorem fits32_ok (v : Value) (n : Nat) (l : List Nat) : Fn Tryd.prog 112 [v] [] [rdF v 1 n (us .u8 l)] (fun u B' => u = .int .i64 ((if n < 4 then 20 else if 4 < n then 21 else 0 : Nat) : Int) ∧ B' = []) := by
  refine fn_enter Tryd.func112 rfl Tryd.ntmps112 rfl fun w => ?_
  refine c_seq (c_region ?_)
  refine s_p (p_assign (v := .int .i64 ((0 : Nat) : Int))) ?_
  refine g_nil (f_next ?_)
  refine c_seq (c_region ?_)
  refine s_x (e_callp width32_ok (h := ?_))
  refine s_p p_assign ?_
  refine g_nil (f_next ?_)
  refine c_seq ?_
  refine c_seq (c_region ?_)
  refine s_p p_move ?_
  refine s_p (p_len rfl) ?_
  refine s_p p_move ?_
  refine s_p p_lss ?_
  refine g_nil (f_next ?_)
  refine c_cond_dec rfl (fun h8 => ?_) (fun h8 => ?_)
  · skip
    refine c_seq (c_region ?_)
    refine s_p (p_assign (v := .int .i64 ((20 : Nat) : Int))) ?_
    refine g_nil (f_next ?_)
    refine c_ret (f_pass_ret ?_)
    exact f_r1 (Or.inl rfl) Tryd.results112 ⟨by rw [if_pos h8], rfl⟩
  refine c_skip (f_next ?_)
  refine c_seq ?_
  refine c_seq (c_region ?_)
  refine s_p p_move ?_
  refine s_p (p_len rfl) ?_
  refine s_p p_move ?_
  refine s_p p_gtr ?_
  refine g_nil (f_next ?_)
  refine c_cond_dec rfl (fun h12 => ?_) (fun h12 => ?_)
  · skip
    refine c_seq (c_region ?_)
    refine s_p (p_assign (v := .int .i64 ((21 : Nat) : Int))) ?_
    refine g_nil (f_next ?_)
    refine c_ret (f_pass_ret ?_)
    exact f_r1 (Or.inl rfl) Tryd.results112 ⟨by rw [if_neg h8, if_pos h12], rfl⟩
  refine c_skip (f_next ?_)
  refine c_seq (c_region ?_)
  refine s_p (p_assign (v := .int .i64 ((0 : Nat) : Int))) ?_
  refine g_nil (f_next ?_)
  refine c_ret ?_
  exact f_r1 (Or.inl rfl) Tryd.results112 ⟨by rw [if_neg h8, if_neg h12], rfl⟩

theorem low64_ok (v : Value) (l : List Nat) [hu : Us .u8 l] (hl : l.length = 8) : Fn Tryd.prog 85 [v] [] [rdF v 1 8 (us .u8 l)] (fun u B' => u = .int .u64 (leN l : Int) ∧ B' = []) := by
  refine fn_enter Tryd.func85 rfl Tryd.ntmps85 rfl fun w => ?_
  refine c_seq (c_region ?_)
  refine s_p (p_assign (v := .int .u64 ((0 : Nat) : Int))) ?_
  refine g_nil (f_next ?_)
  refine c_seq (c_region ?_)
  refine s_p (p_assign (v := .int .u64 ((0 : Nat) : Int))) ?_
  refine g_nil (f_next ?_)
  refine c_seq ?_
  refine c_seq (c_region ?_)
  refine s_p p_move ?_
  refine s_p (p_len rfl) ?_
  refine s_p (p_move (v := .int .i64 ((0 : Nat) : Int))) ?_
  refine g_nil (f_next ?_)
  refine c_block ?_
  refine c_lp (X := Nat) (fun x => 8 - x) (fun c x => x ≤ 8) (fun x => [(3, .int .u64 (leN (l.take x) : Int)), (8, .int .i64 (x : Int))]) [(6, _), (7, _)] (fun x => []) 0 (by first | omega | trivial) ⟨rfl, rfl, trivial⟩ (hr := fun x hx => ?_)
  refine c_seq (c_region ?_)
  refine s_p p_lss ?_
  refine g_nil (f_next ?_)
  refine c_seq ?_
  refine c_cond_dec rfl (fun h9 => ?_) (fun h9 => ?_)
  · skip
    refine c_skip (f_next ?_)
    refine c_seq ?_
    refine c_block ?_
    refine c_seq (c_region ?_)
    refine s_p p_move ?_
    refine s_p (p_ix_sl1 rfl rfl) ?_
    refine s_p (p_load_slu rfl) ?_
    refine s_p p_assign ?_
    refine s_p p_assign ?_
    refine g_nil (f_next ?_)
    refine c_region ?_
    refine s_p p_move ?_
    refine s_p p_move ?_
    refine s_p p_convw ?_
    refine s_p p_move ?_
    refine s_p (p_muln (a := 8)) ?_
    refine s_p p_shlu ?_
    have hlt : leN (l.take x) < 2 ^ IntKind.u64.bits := Nat.lt_of_lt_of_le (leN_lt _) (by rw [List.length_take, Nat.min_eq_left (by omega)]; exact Nat.le_trans (Nat.pow_le_pow_right (by decide) (by omega : x ≤ 8)) (by decide))
    refine s_p (p_nat p_oru (leN_step (by omega) (by rw [hl]; decide))) ?_
    refine s_p p_assign ?_
    refine g_nil (f_block_normal (f_next ?_))
    refine c_region ?_
    refine s_p (p_addn (b := 1)) ?_
    refine s_p p_move ?_
    refine g_nil ?_
    exact f_rd (x + 1)
  refine c_exit (f_pass_exit (f_pass_exit (f_block_exit (f_next ?_))))
  obtain rfl : x = 8 := by omega
  rw [List.take_of_length_le (show l.length ≤ 8 by omega)]
  refine c_seq (c_region ?_)
  refine s_p p_move ?_
  refine s_p p_assign ?_
  refine g_nil (f_next ?_)
  refine c_ret ?_
  exact f_r1 (Or.inl rfl) Tryd.results85 ⟨rfl, rfl⟩

theorem low32_ok (v : Value) (l : List Nat) [hu : Us .u8 l] (hl : l.length = 4) : Fn Tryd.prog 113 [v] [] [rdF v 1 4 (us .u8 l)] (fun u B' => u = .int .u32 (leN l : Int) ∧ B' = []) := by
  refine fn_enter Tryd.func113 rfl Tryd.ntmps113 rfl fun w => ?_
  refine c_seq (c_region ?_)
  refine s_p (p_assign (v := .int .u32 ((0 : Nat) : Int))) ?_
  refine g_nil (f_next ?_)
  refine c_seq (c_region ?_)
  refine s_p (p_assign (v := .int .u32 ((0 : Nat) : Int))) ?_
  refine g_nil (f_next ?_)
  refine c_seq ?_
  refine c_seq (c_region ?_)
  refine s_p p_move ?_
  refine s_p (p_len rfl) ?_
  refine s_p (p_move (v := .int .i64 ((0 : Nat) : Int))) ?_
  refine g_nil (f_next ?_)
  refine c_block ?_
  refine c_lp (X := Nat) (fun x => 4 - x) (fun c x => x ≤ 4) (fun x => [(3, .int .u32 (leN (l.take x) : Int)), (8, .int .i64 (x : Int))]) [(6, _), (7, _)] (fun x => []) 0 (by first | omega | trivial) ⟨rfl, rfl, trivial⟩ (hr := fun x hx => ?_)
  refine c_seq (c_region ?_)
  refine s_p p_lss ?_
  refine g_nil (f_next ?_)
  refine c_seq ?_
  refine c_cond_dec rfl (fun h9 => ?_) (fun h9 => ?_)
  · skip
    refine c_skip (f_next ?_)
    refine c_seq ?_
    refine c_block ?_
    refine c_seq (c_region ?_)
    refine s_p p_move ?_
    refine s_p (p_ix_sl1 rfl rfl) ?_
    refine s_p (p_load_slu rfl) ?_
    refine s_p p_assign ?_
    refine s_p p_assign ?_
    refine g_nil (f_next ?_)
    refine c_region ?_
    refine s_p p_move ?_
    refine s_p p_move ?_
    refine s_p p_convw ?_
    refine s_p p_move ?_
    refine s_p (p_muln (a := 8)) ?_
    refine s_p p_shlu ?_
    have hlt : leN (l.take x) < 2 ^ IntKind.u32.bits := Nat.lt_of_lt_of_le (leN_lt _) (by rw [List.length_take, Nat.min_eq_left (by omega)]; exact Nat.le_trans (Nat.pow_le_pow_right (by decide) (by omega : x ≤ 4)) (by decide))
    refine s_p (p_nat p_oru (leN_step (by omega) (by rw [hl]; decide))) ?_
    refine s_p p_assign ?_
    refine g_nil (f_block_normal (f_next ?_))
    refine c_region ?_
    refine s_p (p_addn (b := 1)) ?_
    refine s_p p_move ?_
    refine g_nil ?_
    exact f_rd (x + 1)
  refine c_exit (f_pass_exit (f_pass_exit (f_block_exit (f_next ?_))))
  obtain rfl : x = 4 := by omega
  rw [List.take_of_length_le (show l.length ≤ 4 by omega)]
  refine c_seq (c_region ?_)
  refine s_p p_move ?_
  refine s_p p_assign ?_
  refine g_nil (f_next ?_)
  refine c_ret ?_
  exact f_r1 (Or.inl rfl) Tryd.results113 ⟨rfl, rfl⟩

theorem little64_ok (v : Value) (l : List Nat) [hu : Us .u8 l] (hl : l.length = 8) : Fn Tryd.prog 68 [v] [] [rdF v 1 8 (us .u8 l)] (fun u B' => u = .tuple #[.int .u64 (leN l : Int), .int .i64 0] ∧ B' = []) := by
  refine fn_enter Tryd.func68 rfl Tryd.ntmps68 rfl fun w => ?_
  refine c_seq (c_region ?_)
  refine s_p (p_assign (v := .int .u64 ((0 : Nat) : Int))) ?_
  refine s_p (p_assign (v := .int .i64 ((0 : Nat) : Int))) ?_
  refine g_nil (f_next ?_)
  refine c_seq ?_
  refine c_seq (c_region ?_)
  refine s_p p_move ?_
  refine s_x (e_callp (fits64_ok _ _ _) (h := ?_))
  refine s_p p_assign ?_
  refine g_nil (f_next ?_)
  refine c_seq (c_region ?_)
  refine s_p p_move ?_
  refine s_p (p_neq (b := 0)) ?_
  refine g_nil (f_next ?_)
  refine c_cond_no rfl (by decide) ?_
  refine c_skip (f_next ?_)
  refine c_seq (c_region ?_)
  refine s_p p_move ?_
  refine s_x (e_callp (low64_ok _ _ (by first | assumption | simp; done)) (h := ?_))
  refine s_p p_assign ?_
  refine s_p (p_assign (v := .int .i64 ((0 : Nat) : Int))) ?_
  refine g_nil (f_next ?_)
  refine c_ret ?_
  exact f_r2 (Or.inl rfl) Tryd.results68 ⟨rfl, rfl⟩

theorem little32_ok (v : Value) (l : List Nat) [hu : Us .u8 l] (hl : l.length = 4) : Fn Tryd.prog 106 [v] [] [rdF v 1 4 (us .u8 l)] (fun u B' => u = .tuple #[.int .u32 (leN l : Int), .int .i64 0] ∧ B' = []) := by
  refine fn_enter Tryd.func106 rfl Tryd.ntmps106 rfl fun w => ?_
  refine c_seq (c_region ?_)
  refine s_p (p_assign (v := .int .u32 ((0 : Nat) : Int))) ?_
  refine s_p (p_assign (v := .int .i64 ((0 : Nat) : Int))) ?_
  refine g_nil (f_next ?_)
  refine c_seq ?_
  refine c_seq (c_region ?_)
  refine s_p p_move ?_
  refine s_x (e_callp (fits32_ok _ _ _) (h := ?_))
  refine s_p p_assign ?_
  refine g_nil (f_next ?_)
  refine c_seq (c_region ?_)
  refine s_p p_move ?_
  refine s_p (p_neq (b := 0)) ?_
  refine g_nil (f_next ?_)
  refine c_cond_no rfl (by decide) ?_
  refine c_skip (f_next ?_)
  refine c_seq (c_region ?_)
  refine s_p p_move ?_
  refine s_x (e_callp (low32_ok _ _ (by first | assumption | simp; done)) (h := ?_))
  refine s_p p_assign ?_
  refine s_p (p_assign (v := .int .i64 ((0 : Nat) : Int))) ?_
  refine g_nil (f_next ?_)
  refine c_ret ?_
  exact f_r2 (Or.inl rfl) Tryd.results106 ⟨rfl, rfl⟩

theorem put64_ok (v : Value) (n : Nat) (l : List Nat) (X : Nat) [hx : Fits X .u64] (hn : n ≤ 1073741824) : Fn Tryd.prog 28 [v, .int .u64 (X : Int)] [] [rdF v 1 n (us .u8 l)] (fun u B' => B' = [.sl u 5 1 (n + 8) (us .u8 (l ++ leB 8 X))]) := by
  refine fn_enter Tryd.func28 rfl Tryd.ntmps28 rfl fun w => ?_
  refine c_fact (p := l.length = n) (fun _ _ s => by simpa using (s.read (f := rdF v 1 n (us .u8 l)) (by simp)).1) fun hl => ?_
  refine c_seq (c_region ?_)
  refine s_p p_assign ?_
  refine g_nil (f_next ?_)
  refine c_seq (c_region ?_)
  refine s_x (e_callp width64_ok (h := ?_))
  refine s_p p_assign ?_
  refine g_nil (f_next ?_)
  refine c_seq (c_region ?_)
  refine s_p p_move ?_
  refine s_p (p_len rfl) ?_
  refine s_p p_move ?_
  refine s_p (p_len rfl) ?_
  refine s_p p_move ?_
  refine s_p p_addn ?_
  refine s_x (e_make rfl rfl (by omega) (by omega) (by omega) (xs := us .u8 (List.replicate n 0)) (by rw [made_zero]; simp [us]) fun v15 n15 => ?_)
  refine s_p p_assign ?_
  refine g_nil (f_next ?_)
  refine c_seq (c_region ?_)
  refine s_p p_move ?_
  refine s_p p_move ?_
  refine s_x (e_copyslu rfl rfl (m := n) (by omega) (h := ?_) (hl := (show _ = l ++ leB 0 X by simp [← hl, leB])))
  refine g_nil (f_next ?_)
  refine c_seq ?_
  refine c_seq (c_region ?_)
  refine s_p p_move ?_
  refine s_p (p_move (v := .int .i64 ((0 : Nat) : Int))) ?_
  refine g_nil (f_next ?_)
  refine c_block ?_
  refine c_lp (X := Value × Nat) (fun x => 8 - x.2) (fun c x => x.2 ≤ 8) (fun x => [(6, x.1), (20, .int .i64 (x.2 : Int))]) [(1, _), (19, _)] (fun x => [.sl x.1 5 1 (n + x.2) (us .u8 (l ++ leB x.2 X))]) (v15, 0) (by first | omega | trivial) ⟨rfl, rfl, trivial⟩ (hr := fun x hx => ?_)
  refine c_seq (c_region ?_)
  refine s_p p_lss ?_
  refine g_nil (f_next ?_)
  refine c_seq ?_
  refine c_cond_dec rfl (fun h21 => ?_) (fun h21 => ?_)
  · skip
    refine c_skip (f_next ?_)
    refine c_seq ?_
    refine c_block ?_
    refine c_seq (c_region ?_)
    refine s_p p_move ?_
    refine s_p p_assign ?_
    refine g_nil (f_next ?_)
    refine c_region ?_
    refine s_p p_move ?_
    refine s_p p_move ?_
    refine s_p p_move ?_
    refine s_p (p_muln (a := 8)) ?_
    refine s_p p_shru ?_
    refine s_p (p_nat p_convu (b := (X >>> (8 * x.2)) % 256) rfl) ?_
    refine s_x (e_bsl1 rfl fun v29 n29 => ?_)
    refine s_x (e_app rfl rfl (n' := n + (x.2 + 1)) (l' := l ++ leB (x.2 + 1) X) (h := fun v30 => ?_) (hl := by rw [leB_succ, List.append_assoc]))
    refine s_p p_assign ?_
    refine g_nil (f_block_normal (f_next ?_))
    refine c_region ?_
    refine s_p (p_addn (b := 1)) ?_
    refine s_p p_move ?_
    refine g_nil ?_
    exact f_rd (v30, x.2 + 1)
  refine c_exit (f_pass_exit (f_pass_exit (f_block_exit (f_next ?_))))
  obtain ⟨x1, x2⟩ := x; obtain rfl : x2 = 8 := by simp only at h21 hx; omega
  refine c_seq (c_region ?_)
  refine s_p p_move ?_
  refine s_p p_assign ?_
  refine g_nil (f_next ?_)
  refine c_ret ?_
  exact f_r1 (Or.inl rfl) Tryd.results28 rfl

end Go.Tw
end

section
namespace Go.Tw
open Go Go.Proofs

/-! SHA-256. -/
def rotl (x s : Nat) : Nat := (x <<< s) % 2 ^ 32 ||| x >>> (32 - s)
instance {x s : Nat} [h : Fits x .u32] : Fits (rotl x s) .u32 := ⟨Nat.or_lt_two_pow (Nat.mod_lt _ (by decide)) (Nat.lt_of_le_of_lt (by rw [Nat.shiftRight_eq_div_pow]; exact Nat.div_le_self _ _) h.lt)⟩
theorem wrap64_nn (k : Int) : IntKind.u64.wrap k = (((IntKind.u64.wrap k).toNat : Nat) : Int) := by
  have : 0 ≤ IntKind.u64.wrap k := by simp only [IntKind.wrap, IntKind.bits, IntKind.signed]; simp; omega
  omega

theorem rot_ok (x : Nat) (k : Int) (s : Nat) [Fits x .u32] (hk : ((IntKind.u64.wrap k).toNat &&& 31) = s) : Fn Tryd.prog 107 [.int .u32 (x : Int), .int .i64 k] [] [] (fun u B' => u = .int .u32 (rotl x s : Int) ∧ B' = []) := by
  refine fn_enter Tryd.func107 rfl Tryd.ntmps107 rfl fun w => ?_
  have hs : s ≤ 31 := by rw [← hk]; exact Nat.and_le_right
  have hw : (IntKind.u64.wrap k).toNat < 2 ^ IntKind.u64.bits := by simp only [IntKind.wrap, IntKind.bits, IntKind.signed]; simp; omega
  refine c_seq (c_region ?_)
  refine s_p (p_assign (v := .int .u32 ((0 : Nat) : Int))) ?_
  refine g_nil (f_next ?_)
  refine c_seq (c_region ?_)
  refine s_p p_move ?_
  refine s_p (p_eq p_conv (congrArg _ (wrap64_nn k))) ?_
  refine s_p (p_nat p_andu hk) ?_
  refine s_p p_assign ?_
  refine g_nil (f_next ?_)
  refine c_seq (c_region ?_)
  refine s_p p_move ?_
  refine s_p p_move ?_
  refine s_p p_shlu ?_
  refine s_p p_move ?_
  refine s_p p_move ?_
  refine s_p (p_subuw rfl rfl rfl (Nat.le_trans hs (by decide)) (by decide)) ?_
  refine s_p p_shru ?_
  refine s_p p_oru ?_
  refine s_p p_assign ?_
  refine g_nil (f_next ?_)
  refine c_ret ?_
  exact f_r1 (Or.inl rfl) Tryd.results107 ⟨rfl, rfl⟩

/-- One of the 64 steps. -/
def stepL (v : List Nat) (kw : Nat) : List Nat :=
  let p := (((v.getD 7 0 + ((rotl (v.getD 4 0) 26 ^^^ rotl (v.getD 4 0) 21) ^^^ rotl (v.getD 4 0) 7)) % 2 ^ 32 + ((v.getD 4 0 &&& v.getD 5 0) ^^^ ((2 ^ 32 - 1 - v.getD 4 0) &&& v.getD 6 0))) % 2 ^ 32 + kw) % 2 ^ 32
  let q := (((rotl (v.getD 0 0) 30 ^^^ rotl (v.getD 0 0) 19) ^^^ rotl (v.getD 0 0) 10) + (((v.getD 0 0 &&& v.getD 1 0) ^^^ (v.getD 0 0 &&& v.getD 2 0)) ^^^ (v.getD 1 0 &&& v.getD 2 0))) % 2 ^ 32
  [(p + q) % 2 ^ 32, v.getD 0 0, v.getD 1 0, v.getD 2 0, (v.getD 3 0 + p) % 2 ^ 32, v.getD 4 0, v.getD 5 0, v.getD 6 0]
theorem stepL_length (v : List Nat) (kw : Nat) : (stepL v kw).length = 8 := rfl
theorem stepL_us {v : List Nat} {kw : Nat} (hv : Us .u32 v) : Us .u32 (stepL v kw) := by
  have h1 : ∀ x, Fits (x % 2 ^ 32) .u32 := fun x => ⟨Nat.mod_lt _ (by decide)⟩
  have := h1
  unfold stepL
  dsimp only
  infer_instance

theorem step_ok (v : List Nat) (kw : Nat) [hv : Us .u32 v] [Fits kw .u32] (h8 : v.length = 8) : Fn Tryd.prog 111 [.agg (us .u32 v).toArray, .int .u32 (kw : Int)] [] [] (fun u B' => u = .agg (us .u32 (stepL v kw)).toArray ∧ B' = []) := by
  refine fn_enter Tryd.func111 rfl Tryd.ntmps111 rfl fun w => ?_
  refine c_seq (c_region ?_)
  refine s_x (e_box rfl rfl fun b2 => ?_)
  refine s_x (e_alloc fun b4 => ?_)
  refine g_nil (f_next ?_)
  refine c_seq (c_run [.p, .r, .p, .r, .p, .r, .p, .r, .p, .r, .p, .r, .p, .r, .p, .r, .p, .p, .p, .p, .p, .p, .p, .p] [0, 1, 2, 3, 4, 5, 6, 7, 8, 9, 10, 11, 12, 13, 14, 15, 16, 17, 18, 19, 20, 21, 22, 23] (by kernel_rfl) fun hn1 => ?_)
  refine d_p rfl p_ix_arr0 ?_
  refine d_r hn1 rfl (p_load_u rfl) ?_
  refine d_p rfl p_ix_arr0 ?_
  refine d_r hn1 rfl (p_load_u rfl) ?_
  refine d_p rfl p_ix_arr0 ?_
  refine d_r hn1 rfl (p_load_u rfl) ?_
  refine d_p rfl p_ix_arr0 ?_
  refine d_r hn1 rfl (p_load_u rfl) ?_
  refine d_p rfl p_ix_arr0 ?_
  refine d_r hn1 rfl (p_load_u rfl) ?_
  refine d_p rfl p_ix_arr0 ?_
  refine d_r hn1 rfl (p_load_u rfl) ?_
  refine d_p rfl p_ix_arr0 ?_
  refine d_r hn1 rfl (p_load_u rfl) ?_
  refine d_p rfl p_ix_arr0 ?_
  refine d_r hn1 rfl (p_load_u rfl) ?_
  refine d_p rfl p_assign ?_
  refine d_p rfl p_assign ?_
  refine d_p rfl p_assign ?_
  refine d_p rfl p_assign ?_
  refine d_p rfl p_assign ?_
  refine d_p rfl p_assign ?_
  refine d_p rfl p_assign ?_
  refine d_p rfl p_assign ?_
  refine d_nil (f_next ?_)
  refine c_seq (c_region ?_)
  refine s_p p_move ?_
  refine s_p p_move ?_
  refine s_x (e_callp (rot_ok _ _ 26 rfl) (h := ?_))
  refine s_p p_move ?_
  refine s_x (e_callp (rot_ok _ _ 21 rfl) (h := ?_))
  refine s_p p_xoru ?_
  refine s_p p_move ?_
  refine s_x (e_callp (rot_ok _ _ 7 rfl) (h := ?_))
  refine s_p p_xoru ?_
  refine s_p p_addu ?_
  refine s_p p_move ?_
  refine s_p p_move ?_
  refine s_p p_andu ?_
  refine s_p p_move ?_
  refine s_p p_notu ?_
  refine s_p p_move ?_
  refine s_p p_andu ?_
  refine s_p p_xoru ?_
  refine s_p p_addu ?_
  refine s_p p_move ?_
  refine s_p p_addu ?_
  refine s_p p_assign ?_
  refine g_nil (f_next ?_)
  refine c_seq (c_region ?_)
  refine s_p p_move ?_
  refine s_x (e_callp (rot_ok _ _ 30 rfl) (h := ?_))
  refine s_p p_move ?_
  refine s_x (e_callp (rot_ok _ _ 19 rfl) (h := ?_))
  refine s_p p_xoru ?_
  refine s_p p_move ?_
  refine s_x (e_callp (rot_ok _ _ 10 rfl) (h := ?_))
  refine s_p p_xoru ?_
  refine s_p p_move ?_
  refine s_p p_move ?_
  refine s_p p_andu ?_
  refine s_p p_move ?_
  refine s_p p_move ?_
  refine s_p p_andu ?_
  refine s_p p_xoru ?_
  refine s_p p_move ?_
  refine s_p p_move ?_
  refine s_p p_andu ?_
  refine s_p p_xoru ?_
  refine s_p p_addu ?_
  refine s_p p_assign ?_
  refine g_nil (f_next ?_)
  refine c_seq (c_region ?_)
  refine s_p p_move ?_
  refine s_p p_move ?_
  refine s_p p_addu ?_
  refine s_p p_move ?_
  refine s_p p_move ?_
  refine s_p p_move ?_
  refine s_p p_move ?_
  refine s_p p_move ?_
  refine s_p p_addu ?_
  refine s_p p_move ?_
  refine s_p p_move ?_
  refine s_p p_move ?_
  refine s_p (p_barr (cells := us .u32 (stepL v kw)) rfl) ?_
  refine s_x0 (e_store_all rfl rfl rfl (h := ?_))
  refine g_nil (f_next ?_)
  refine c_ret ?_
  exact f_rm (Or.inl rfl) Tryd.results111 ⟨rfl, rfl⟩

/-- Four bytes, the highest first. -/
def be4 (l : List Nat) (j : Nat) : Nat := (((l.getD j 0 <<< 24) % 2 ^ 32 ||| (l.getD (j + 1) 0 <<< 16) % 2 ^ 32) ||| (l.getD (j + 2) 0 <<< 8) % 2 ^ 32) ||| l.getD (j + 3) 0
instance {l : List Nat} {j : Nat} [Us .u8 l] : Fits (be4 l j) .u32 := ⟨Nat.or_lt_two_pow (Nat.or_lt_two_pow (Nat.or_lt_two_pow (Nat.mod_lt _ (by decide)) (Nat.mod_lt _ (by decide))) (Nat.mod_lt _ (by decide))) (Fits.lt (n := l.getD (j + 3) 0) (k := .u32))⟩
def w1 (bl : List Nat) (t : Nat) (w : List Nat) : List Nat := w.set t (be4 bl (4 * t))
def sg0 (x : Nat) : Nat := (rotl x 25 ^^^ rotl x 14) ^^^ (x >>> 3)
def sg1 (x : Nat) : Nat := (rotl x 15 ^^^ rotl x 13) ^^^ (x >>> 10)
instance {x : Nat} [Fits x .u32] : Fits (sg0 x) .u32 := by unfold sg0; infer_instance
instance {x : Nat} [Fits x .u32] : Fits (sg1 x) .u32 := by unfold sg1; infer_instance
def w2 (n : Nat) (w : List Nat) : List Nat := w.set (n + 16) ((((w.getD (n + 16 - 16) 0 + sg0 (w.getD (n + 16 - 15) 0)) % 2 ^ 32 + w.getD (n + 16 - 7) 0) % 2 ^ 32 + sg1 (w.getD (n + 16 - 2) 0)) % 2 ^ 32)
def wA (bl : List Nat) (n : Nat) : List Nat := iter (w1 bl) (List.replicate 64 0) n
def wB (bl : List Nat) (n : Nat) : List Nat := iter w2 (wA bl 16) n
@[simp] theorem wA_length (bl : List Nat) (n : Nat) : (wA bl n).length = 64 := by rw [wA, iter_len (by intros; simp [w1])]; rfl
@[simp] theorem wB_length (bl : List Nat) (n : Nat) : (wB bl n).length = 64 := by rw [wB, iter_len (by intros; simp [w2])]; exact wA_length bl 16
instance wA_us {bl : List Nat} {n : Nat} [Us .u8 bl] : Us .u32 (wA bl n) := iter_us (fun n l h => by unfold w1; infer_instance) (by infer_instance) n
instance wB_us {bl : List Nat} {n : Nat} [Us .u8 bl] : Us .u32 (wB bl n) := iter_us (fun n l h => ⟨fun y hy => (List.mem_or_eq_of_mem_set hy).elim (h.lt y) (fun e => by rw [e]; exact Nat.mod_lt _ (by decide))⟩) wA_us n
def shaK : List Nat := [0x428a2f98, 0x71374491, 0xb5c0fbcf, 0xe9b5dba5, 0x3956c25b, 0x59f111f1, 0x923f82a4, 0xab1c5ed5, 0xd807aa98, 0x12835b01, 0x243185be, 0x550c7dc3, 0x72be5d74, 0x80deb1fe, 0x9bdc06a7, 0xc19bf174, 0xe49b69c1, 0xefbe4786, 0x0fc19dc6, 0x240ca1cc, 0x2de92c6f, 0x4a7484aa, 0x5cb0a9dc, 0x76f988da, 0x983e5152, 0xa831c66d, 0xb00327c8, 0xbf597fc7, 0xc6e00bf3, 0xd5a79147, 0x06ca6351, 0x14292967, 0x27b70a85, 0x2e1b2138, 0x4d2c6dfc, 0x53380d13, 0x650a7354, 0x766a0abb, 0x81c2c92e, 0x92722c85, 0xa2bfe8a1, 0xa81a664b, 0xc24b8b70, 0xc76c51a3, 0xd192e819, 0xd6990624, 0xf40e3585, 0x106aa070, 0x19a4c116, 0x1e376c08, 0x2748774c, 0x34b0bcb5, 0x391c0cb3, 0x4ed8aa4a, 0x5b9cca4f, 0x682e6ff3, 0x748f82ee, 0x78a5636f, 0x84c87814, 0x8cc70208, 0x90befffa, 0xa4506ceb, 0xbef9a3f7, 0xc67178f2]
def shaH : List Nat := [0x6a09e667, 0xbb67ae85, 0x3c6ef372, 0xa54ff53a, 0x510e527f, 0x9b05688c, 0x1f83d9ab, 0x5be0cd19]
instance : Us .u32 shaK := ⟨by decide⟩
instance : Us .u32 shaH := ⟨by decide⟩
@[simp] theorem shaK_length : shaK.length = 64 := rfl
@[simp] theorem shaH_length : shaH.length = 8 := rfl
def vst (st w : List Nat) (n : Nat) : List Nat := iter (fun t v => stepL v ((shaK.getD t 0 + w.getD t 0) % 2 ^ 32)) st n
theorem vst_length {st w : List Nat} (h : st.length = 8) : ∀ n, (vst st w n).length = 8
  | 0 => h
  | _ + 1 => rfl
instance vst_us {st w : List Nat} {n : Nat} [h : Us .u32 st] : Us .u32 (vst st w n) := by
  unfold vst
  induction n with
  | zero => exact h
  | succ n ih => exact stepL_us ih
def addv (v : List Nat) (i : Nat) (h : List Nat) : List Nat := h.set i ((h.getD i 0 + v.getD i 0) % 2 ^ 32)
def addL (st v : List Nat) (n : Nat) : List Nat := iter (addv v) st n
@[simp] theorem addL_length (st v : List Nat) (n : Nat) : (addL st v n).length = st.length := iter_len (by intros; simp [addv]) st n
instance addL_us {st v : List Nat} {n : Nat} [h : Us .u32 st] : Us .u32 (addL st v n) := iter_us (fun n l h => ⟨fun y hy => (List.mem_or_eq_of_mem_set hy).elim (h.lt y) (fun e => by rw [e]; exact Nat.mod_lt _ (by decide))⟩) h n
/-- The state behind 64 bytes more. -/
def comp (st bl : List Nat) : List Nat := addL st (vst st (wB bl 48) 64) 8
@[simp] theorem comp_length (st bl : List Nat) : (comp st bl).length = st.length := addL_length _ _ _
instance {st bl : List Nat} [Us .u32 st] : Us .u32 (comp st bl) := addL_us

/-- A digest.Hash in memory. -/
def hashC (st bl : List Nat) (used size : Nat) : List Value := us .u32 st ++ (us .u8 bl ++ [.int .i64 (used : Int), .int .u64 (size : Int)])
section
variable {st bl : List Nat} {used size : Nat} (h8 : st.length = 8)
include h8
theorem hashC_st {i : Nat} (hi : i < 8) : (hashC st bl used size)[i]? = some (.int .u32 (st.getD i 0 : Int)) := by
  rw [hashC, List.getElem?_append_left (by simp; omega), us_get (by omega)]
theorem hashC_stall : ((hashC st bl used size).drop 0).take 8 = us .u32 st := by
  rw [List.drop_zero, hashC, List.take_append_of_le_length (by simp [h8]), List.take_of_length_le (by simp [h8])]
theorem hashC_setst {i x : Nat} (hi : i < 8) {st' : List Nat} (e : st.set i x = st') : (hashC st bl used size).set i (.int .u32 (x : Int)) = hashC st' bl used size := by
  rw [hashC, List.set_append_left _ _ (by simp; omega), us_set, e]; rfl
theorem hashC_putst {st' : List Nat} (_h8' : st'.length = 8) : (hashC st bl used size).take 0 ++ us .u32 st' ++ (hashC st bl used size).drop (0 + 8) = hashC st' bl used size := by
  simp only [hashC, List.take_zero, List.nil_append, Nat.zero_add]
  rw [List.drop_append, List.drop_of_length_le (by simp [h8])]
  simp [h8]
variable (h64 : bl.length = 64)
include h64
theorem hashC_length : (hashC st bl used size).length = 74 := by simp [hashC, h8, h64]
theorem hashC_bl {i : Nat} (hi : i < 64) : (hashC st bl used size)[8 + i]? = some (.int .u8 (bl.getD i 0 : Int)) := by
  rw [hashC, List.getElem?_append_right (by simp; omega), List.getElem?_append_left (by simp; omega)]
  rw [show 8 + i - (us .u32 st).length = i from by simp; omega, us_get (by omega)]
theorem hashC_used : (hashC st bl used size)[72]? = some (.int .i64 (used : Int)) := by
  rw [hashC, List.getElem?_append_right (by simp; omega), List.getElem?_append_right (by simp; omega)]
  rw [show 72 - (us .u32 st).length - (us .u8 bl).length = 0 from by simp; omega]; rfl
theorem hashC_size : (hashC st bl used size)[73]? = some (.int .u64 (size : Int)) := by
  rw [hashC, List.getElem?_append_right (by simp; omega), List.getElem?_append_right (by simp; omega)]
  rw [show 73 - (us .u32 st).length - (us .u8 bl).length = 1 from by simp; omega]; rfl
theorem hashC_setused {x : Nat} : (hashC st bl used size).set 72 (.int .i64 (x : Int)) = hashC st bl x size := by
  rw [hashC, List.set_append_right _ _ (by simp; omega), List.set_append_right _ _ (by simp; omega)]
  rw [show 72 - (us .u32 st).length - (us .u8 bl).length = 0 from by simp; omega]; rfl
theorem hashC_setsize {x : Nat} : (hashC st bl used size).set 73 (.int .u64 (x : Int)) = hashC st bl used x := by
  rw [hashC, List.set_append_right _ _ (by simp; omega), List.set_append_right _ _ (by simp; omega)]
  rw [show 73 - (us .u32 st).length - (us .u8 bl).length = 1 from by simp; omega]; rfl
end

theorem round_ok (p : Nat) (st bl : List Nat) (used size : Nat) [Us .u32 st] [Us .u8 bl] (h8 : st.length = 8) (h64 : bl.length = 64) : Fn Tryd.prog 105 [ptr p 0] [.blk p (.cells (hashC st bl used size).toArray 169 (0, 0))] [glF 1 (us .u32 shaK) 181] (fun u B' => u = .tuple #[] ∧ B' = [.blk p (.cells (hashC (comp st bl) bl used size).toArray 169 (0, 0))]) := by
  refine fn_enter Tryd.func105 rfl Tryd.ntmps105 rfl fun w => ?_
  refine c_seq (c_region ?_)
  refine s_x (e_alloc fun b2 => ?_)
  refine g_nil (f_next ?_)
  refine c_seq ?_
  refine c_seq (c_region ?_)
  refine s_p (p_move (v := .int .i64 ((0 : Nat) : Int))) ?_
  refine g_nil (f_next ?_)
  refine c_block ?_
  refine c_lp (X := Nat) (fun x => 16 - x) (fun c x => x ≤ 16) (fun x => [(12, .int .i64 (x : Int))]) [(0, _), (2, _)] (fun x => [.blk b2 (.cells (us .u32 (wA bl x)).toArray 181 (0, 0)), .blk p (.cells (hashC st bl used size).toArray 169 (0, 0))]) 0 (by first | omega | trivial) ⟨rfl, rfl, trivial⟩ (hr := fun x hx => ?_)
  refine c_seq (c_region ?_)
  refine s_p (p_lss (b := 16)) ?_
  refine g_nil (f_next ?_)
  refine c_seq ?_
  refine c_cond_dec rfl (fun h13 => ?_) (fun h13 => ?_)
  · skip
    replace h13 : _ < 16 := h13
    refine c_skip (f_next ?_)
    refine c_seq ?_
    refine c_block ?_
    refine c_seq (c_region ?_)
    refine s_p p_move ?_
    refine s_p p_assign ?_
    refine g_nil (f_next ?_)
    refine (c_run [.p, .p, .p, .p, .p, .p, .p, .r, .p, .p, .p, .p, .p, .p, .p, .p, .p, .r, .p, .p, .p, .p, .p, .p, .p, .p, .p, .p, .r, .p, .p, .p, .p, .p, .p, .p, .p, .p, .p, .r, .p, .p, .p, .x2] [0, 1, 2, 3, 4, 5, 6, 7, 8, 9, 10, 11, 12, 13, 14, 15, 16, 17, 18, 19, 20, 21, 22, 23, 24, 25, 26, 27, 28, 29, 30, 31, 32, 33, 34, 35, 36, 37, 38, 39, 40, 41, 42, 43] (by kernel_rfl) fun hn4 => ?_)
    refine d_p rfl p_move ?_
    refine d_p rfl p_move ?_
    refine d_p rfl p_move ?_
    refine d_p rfl (p_muln (a := 4)) ?_
    refine d_p rfl p_nilcheck ?_
    refine d_p rfl p_field0 ?_
    refine d_p rfl p_ix_arr1 ?_
    refine d_r hn4 rfl (p_load_one rfl (hashC_bl h8 h64 (by omega))) ?_
    refine d_p rfl p_convw ?_
    refine d_p rfl (p_shlu (b := 24)) ?_
    refine d_p rfl p_move ?_
    refine d_p rfl p_move ?_
    refine d_p rfl (p_muln (a := 4)) ?_
    refine d_p rfl (p_addn (b := 1)) ?_
    refine d_p rfl p_nilcheck ?_
    refine d_p rfl p_field0 ?_
    refine d_p rfl p_ix_arr1 ?_
    refine d_r hn4 rfl (p_load_one rfl (hashC_bl h8 h64 (by omega))) ?_
    refine d_p rfl p_convw ?_
    refine d_p rfl (p_shlu (b := 16)) ?_
    refine d_p rfl p_oru ?_
    refine d_p rfl p_move ?_
    refine d_p rfl p_move ?_
    refine d_p rfl (p_muln (a := 4)) ?_
    refine d_p rfl (p_addn (b := 2)) ?_
    refine d_p rfl p_nilcheck ?_
    refine d_p rfl p_field0 ?_
    refine d_p rfl p_ix_arr1 ?_
    refine d_r hn4 rfl (p_load_one rfl (hashC_bl h8 h64 (by omega))) ?_
    refine d_p rfl p_convw ?_
    refine d_p rfl (p_shlu (b := 8)) ?_
    refine d_p rfl p_oru ?_
    refine d_p rfl p_move ?_
    refine d_p rfl p_move ?_
    refine d_p rfl (p_muln (a := 4)) ?_
    refine d_p rfl (p_addn (b := 3)) ?_
    refine d_p rfl p_nilcheck ?_
    refine d_p rfl p_field0 ?_
    refine d_p rfl p_ix_arr1 ?_
    refine d_r hn4 rfl (p_load_one rfl (hashC_bl h8 h64 (by omega))) ?_
    refine d_p rfl p_convw ?_
    refine d_p rfl p_oru ?_
    refine d_p rfl p_ix_arr0 ?_
    refine d_s2 rfl (e_store_u rfl rfl (l' := wA bl (x + 1)) (h := ?_))
    refine d_nil (f_block_normal (f_next ?_))
    refine c_region ?_
    refine s_p (p_addn (b := 1)) ?_
    refine s_p p_move ?_
    refine g_nil ?_
    exact f_rd (x + 1)
  replace h13 : ¬ (_ < 16) := h13
  refine c_exit (f_pass_exit (f_pass_exit (f_block_exit (f_next ?_))))
  obtain rfl : x = 16 := by omega
  refine c_seq ?_
  refine c_seq (c_region ?_)
  refine s_p (p_assign (v := .int .i64 ((16 : Nat) : Int))) ?_
  refine g_nil (f_next ?_)
  refine c_block ?_
  refine c_lp (X := Nat) (fun x => 48 - x) (fun c x => x ≤ 48) (fun x => [(4, .int .i64 ((x + 16 : Nat) : Int))]) [(0, _), (2, _)] (fun x => [.blk b2 (.cells (us .u32 (wB bl x)).toArray 181 (0, 0)), .blk p (.cells (hashC st bl used size).toArray 169 (0, 0))]) 0 (by first | omega | trivial) ⟨rfl, rfl, trivial⟩ (hr := fun x hx => ?_)
  refine c_seq ?_
  refine c_seq (c_region ?_)
  refine s_p p_move ?_
  refine s_p (p_lss (b := 64)) ?_
  refine g_nil (f_next ?_)
  refine c_cond_dec rfl (fun h60 => ?_) (fun h60 => ?_)
  · skip
    replace h60 : _ < 64 := h60
    refine c_skip (f_next ?_)
    refine c_seq ?_
    refine c_block ?_
    refine c_seq (c_run [.p, .p, .p, .r, .p, .p, .p, .r, .p, .p] [0, 1, 2, 3, 4, 5, 6, 7, 8, 9] (by kernel_rfl) fun hn9 => ?_)
    refine d_p rfl p_move ?_
    refine d_p rfl (p_subn (b := 15)) ?_
    refine d_p rfl p_ix_arr0 ?_
    refine d_r hn9 rfl (p_load_u rfl) ?_
    refine d_p rfl p_move ?_
    refine d_p rfl (p_subn (b := 2)) ?_
    refine d_p rfl p_ix_arr0 ?_
    refine d_r hn9 rfl (p_load_u rfl) ?_
    refine d_p rfl p_assign ?_
    refine d_p rfl p_assign ?_
    refine d_nil (f_next ?_)
    refine c_seq (c_region ?_)
    refine s_p p_move ?_
    refine s_x (e_callp (rot_ok _ _ 25 rfl) (h := ?_))
    refine s_p p_move ?_
    refine s_x (e_callp (rot_ok _ _ 14 rfl) (h := ?_))
    refine s_p p_xoru ?_
    refine s_p p_move ?_
    refine s_p (p_shru (b := 3)) ?_
    refine s_p p_xoru ?_
    refine s_p p_assign ?_
    refine g_nil (f_next ?_)
    refine c_seq (c_region ?_)
    refine s_p p_move ?_
    refine s_x (e_callp (rot_ok _ _ 15 rfl) (h := ?_))
    refine s_p p_move ?_
    refine s_x (e_callp (rot_ok _ _ 13 rfl) (h := ?_))
    refine s_p p_xoru ?_
    refine s_p p_move ?_
    refine s_p (p_shru (b := 10)) ?_
    refine s_p p_xoru ?_
    refine s_p p_assign ?_
    refine g_nil (f_next ?_)
    refine (c_run [.p, .p, .p, .p, .r, .p, .p, .p, .p, .p, .r, .p, .p, .p, .p, .x2] [0, 1, 2, 3, 4, 5, 6, 7, 8, 9, 10, 11, 12, 13, 14, 15] (by kernel_rfl) fun hn12 => ?_)
    refine d_p rfl p_move ?_
    refine d_p rfl p_move ?_
    refine d_p rfl (p_subn (b := 16)) ?_
    refine d_p rfl p_ix_arr0 ?_
    refine d_r hn12 rfl (p_load_u rfl) ?_
    refine d_p rfl p_move ?_
    refine d_p rfl p_addu ?_
    refine d_p rfl p_move ?_
    refine d_p rfl (p_subn (b := 7)) ?_
    refine d_p rfl p_ix_arr0 ?_
    refine d_r hn12 rfl (p_load_u rfl) ?_
    refine d_p rfl p_addu ?_
    refine d_p rfl p_move ?_
    refine d_p rfl p_addu ?_
    refine d_p rfl p_ix_arr0 ?_
    refine d_s2 rfl (e_store_u rfl rfl (l' := wB bl (x + 1)) (h := ?_))
    refine d_nil (f_block_normal (f_next ?_))
    refine c_region ?_
    refine s_p p_move ?_
    refine s_p (p_addn (b := 1)) ?_
    refine s_p p_assign ?_
    refine g_nil ?_
    exact f_rd (x + 1)
  replace h60 : ¬ (_ < 64) := h60
  refine c_exit (f_pass_exit (f_pass_exit (f_block_exit (f_next ?_))))
  obtain rfl : x = 48 := by omega
  refine c_seq (c_region ?_)
  refine s_p p_move ?_
  refine s_p p_nilcheck ?_
  refine s_p p_field0 ?_
  refine s_p (p_load_part rfl (hashC_stall h8)) ?_
  refine s_x (e_alloc fun b9 => ?_)
  refine s_x0 (e_store_all rfl rfl rfl (h := ?_))
  refine g_nil (f_next ?_)
  refine c_seq ?_
  refine c_seq (c_region ?_)
  refine s_p (p_move (v := .int .i64 ((0 : Nat) : Int))) ?_
  refine g_nil (f_next ?_)
  refine c_block ?_
  refine c_lp (X := Nat) (fun x => 64 - x) (fun c x => x ≤ 64) (fun x => [(106, .int .i64 (x : Int))]) [(0, _), (2, _), (9, _)] (fun x => [.blk b9 (.cells (us .u32 (vst st (wB bl 48) x)).toArray 167 (0, 0)), .blk b2 (.cells (us .u32 (wB bl 48)).toArray 181 (0, 0)), .blk p (.cells (hashC st bl used size).toArray 169 (0, 0))]) 0 (by first | omega | trivial) ⟨rfl, rfl, rfl, trivial⟩ (hr := fun x hx => ?_)
  refine c_seq (c_region ?_)
  refine s_p (p_lss (b := 64)) ?_
  refine g_nil (f_next ?_)
  refine c_seq ?_
  refine c_cond_dec rfl (fun h107 => ?_) (fun h107 => ?_)
  · skip
    replace h107 : _ < 64 := h107
    refine c_skip (f_next ?_)
    refine c_seq ?_
    refine c_block ?_
    refine c_seq (c_region ?_)
    refine s_p p_move ?_
    refine s_p p_assign ?_
    refine g_nil (f_next ?_)
    refine (c_run [.r, .p, .p, .r, .p, .p, .r, .p, .x0, .x2] [0, 1, 2, 3, 4, 5, 6, 7, 8, 9] (by kernel_rfl) fun hn17 => ?_)
    refine d_r hn17 rfl (p_load_all rfl (by simp [vst_length h8])) ?_
    refine d_p rfl p_move ?_
    refine d_p rfl p_ix_arr0 ?_
    refine d_r hn17 rfl (p_load_gu rfl) ?_
    refine d_p rfl p_move ?_
    refine d_p rfl p_ix_arr0 ?_
    refine d_r hn17 rfl (p_load_u rfl) ?_
    refine d_p rfl p_addu ?_
    refine d_x0 rfl (e_callp (step_ok _ _ (vst_length h8 x)) (h := ⟨inferInstance, ?_⟩))
    refine d_s2 rfl (e_store_all rfl rfl (vs := us .u32 (vst st (wB bl 48) (x + 1))) rfl (by simp [vst_length h8]) (by simp [vst_length h8]) (h := ?_))
    refine d_nil (f_block_normal (f_next ?_))
    refine c_region ?_
    refine s_p (p_addn (b := 1)) ?_
    refine s_p p_move ?_
    refine g_nil ?_
    exact f_rd (x + 1)
  replace h107 : ¬ (_ < 64) := h107
  refine c_exit (f_pass_exit (f_pass_exit (f_block_exit (f_next ?_))))
  obtain rfl : x = 64 := by omega
  refine c_seq (c_region ?_)
  refine s_p (p_move (v := .int .i64 ((0 : Nat) : Int))) ?_
  refine g_nil (f_next ?_)
  refine c_block ?_
  refine c_lp (X := Nat) (fun x => 8 - x) (fun c x => x ≤ 8) (fun x => [(119, .int .i64 (x : Int))]) [(0, _), (9, _)] (fun x => [.blk b9 (.cells (us .u32 (vst st (wB bl 48) 64)).toArray 167 (0, 0)), .blk p (.cells (hashC (addL st (vst st (wB bl 48) 64) x) bl used size).toArray 169 (0, 0))]) 0 (by first | omega | trivial) ⟨rfl, rfl, trivial⟩ (hr := fun x hx => ?_)
  refine c_seq (c_region ?_)
  refine s_p (p_lss (b := 8)) ?_
  refine g_nil (f_next ?_)
  refine c_seq ?_
  refine c_cond_dec rfl (fun h120 => ?_) (fun h120 => ?_)
  · skip
    replace h120 : _ < 8 := h120
    refine c_skip (f_next ?_)
    refine c_seq ?_
    refine c_block ?_
    refine c_seq (c_region ?_)
    refine s_p p_move ?_
    refine s_p p_assign ?_
    refine g_nil (f_next ?_)
    refine (c_run [.p, .p, .p, .p, .p, .r, .p, .p, .r, .p, .p, .p, .p, .x2] [0, 1, 2, 3, 4, 5, 6, 7, 8, 9, 10, 11, 12, 13] (by kernel_rfl) fun hn22 => ?_)
    refine d_p rfl p_move ?_
    refine d_p rfl p_move ?_
    refine d_p rfl p_nilcheck ?_
    refine d_p rfl p_field0 ?_
    refine d_p rfl p_ix_arr0 ?_
    refine d_r hn22 rfl (p_load_one rfl (hashC_st (by simp [h8]) (by omega))) ?_
    refine d_p rfl p_move ?_
    refine d_p rfl p_ix_arr0 ?_
    refine d_r hn22 rfl (p_load_u rfl (by rw [vst_length h8]; omega)) ?_
    refine d_p rfl p_addu ?_
    refine d_p rfl p_nilcheck ?_
    refine d_p rfl p_field0 ?_
    refine d_p rfl p_ix_arr0 ?_
    refine d_s2 rfl (e_store_c rfl rfl (hashC_setst (st := addL st (vst st (wB bl 48) 64) x) (by simp [h8]) (by omega) (st' := addL st (vst st (wB bl 48) 64) (x + 1)) rfl) (by rw [hashC_length (by simp [h8]) h64]; omega) (h := ?_))
    refine d_nil (f_block_normal (f_next ?_))
    refine c_region ?_
    refine s_p (p_addn (b := 1)) ?_
    refine s_p p_move ?_
    refine g_nil ?_
    exact f_rd (x + 1)
  replace h120 : ¬ (_ < 8) := h120
  refine c_exit (f_pass_exit (f_pass_exit (f_block_exit ?_)))
  obtain rfl : x = 8 := by omega
  exact f_r0 (Or.inr rfl) Tryd.results105 ⟨rfl, rfl⟩

end Go.Tw
end

section
namespace Go.Tw
open Go Go.Proofs

/-- The state behind all whole blocks of m. -/
def shaS (m : List Nat) : List Nat := iter (fun i st => comp st ((m.drop (64 * i)).take 64)) shaH (m.length / 64)
theorem shaS_it (m : List Nat) : ∀ n, (iter (fun i st => comp st ((m.drop (64 * i)).take 64)) shaH n).length = 8
  | 0 => rfl
  | n + 1 => by rw [iter, comp_length, shaS_it m n]
@[simp] theorem shaS_length (m : List Nat) : (shaS m).length = 8 := shaS_it m _
instance {m : List Nat} : Us .u32 (shaS m) := by
  unfold shaS
  generalize m.length / 64 = n
  induction n with
  | zero => exact (inferInstance : Us .u32 shaH)
  | succ n ih => exact @addL_us _ _ _ ih
theorem shaS_nil : shaS [] = shaH := rfl
theorem shaS_more (m t : List Nat) (h : m.length % 64 + t.length < 64) : shaS (m ++ t) = shaS m := by
  unfold shaS
  have e : (m ++ t).length / 64 = m.length / 64 := by simp; omega
  rw [e]
  exact iter_congr _ fun i x hi => by
    rw [List.drop_append_of_le_length (by omega), List.take_append_of_le_length (by simp; omega)]
theorem shaS_full (m t : List Nat) (h : m.length % 64 + t.length = 64) : shaS (m ++ t) = comp (shaS m) (m.drop (64 * (m.length / 64)) ++ t) := by
  unfold shaS
  have e : (m ++ t).length / 64 = m.length / 64 + 1 := by simp; omega
  have e1 : iter (fun i st => comp st (((m ++ t).drop (64 * i)).take 64)) shaH (m.length / 64) = iter (fun i st => comp st ((m.drop (64 * i)).take 64)) shaH (m.length / 64) := iter_congr _ fun i x hi => by
    rw [List.drop_append_of_le_length (by omega), List.take_append_of_le_length (by simp; omega)]
  have e2 : ((m ++ t).drop (64 * (m.length / 64))).take 64 = m.drop (64 * (m.length / 64)) ++ t := by
    rw [List.drop_append_of_le_length (by omega), List.take_of_length_le (by simp; omega)]
  rw [e, iter, e1, e2]

theorem reset_ok (p : Nat) (st bl : List Nat) (used size : Nat) (h8 : st.length = 8) (h64 : bl.length = 64) : Fn Tryd.prog 104 [ptr p 0] [.blk p (.cells (hashC st bl used size).toArray 169 (0, 0))] [glF 0 (us .u32 shaH) 167] (fun u B' => u = .tuple #[] ∧ B' = [.blk p (.cells (hashC shaH bl 0 0).toArray 169 (0, 0))]) := by
  refine fn_enter Tryd.func104 rfl Tryd.ntmps104 rfl fun w => ?_
  refine c_seq ?_
  refine c_seq (c_region ?_)
  refine s_p p_move ?_
  refine s_p p_eqpn ?_
  refine g_nil (f_next ?_)
  refine c_cond_false rfl ?_
  refine c_skip (f_next ?_)
  refine c_seq (c_region ?_)
  refine s_p p_move ?_
  refine s_p (p_load_gall rfl) ?_
  refine s_p p_nilcheck ?_
  refine s_p p_field0 ?_
  refine s_x0 (e_store_part rfl rfl rfl (cs' := hashC shaH bl used size) rfl (by exact us_one) (by rw [hashC_length h8 h64]; simp) (hashC_putst h8 (by simp)) (h := ?_))
  refine g_nil (f_next ?_)
  refine c_seq (c_region ?_)
  refine s_p p_move ?_
  refine s_p p_nilcheck ?_
  refine s_p p_field0 ?_
  refine s_x0 (e_store_c rfl rfl (hashC_setused (st := shaH) rfl h64 (x := 0)) (by rw [hashC_length (st := shaH) rfl h64]; omega) (h := ?_))
  refine g_nil (f_next ?_)
  refine c_region ?_
  refine s_p p_move ?_
  refine s_p p_nilcheck ?_
  refine s_p p_field0 ?_
  refine s_x0 (e_store_c rfl rfl (hashC_setsize (st := shaH) rfl h64 (x := 0)) (by rw [hashC_length (st := shaH) rfl h64]; omega) (h := ?_))
  refine g_nil ?_
  exact f_r0 (Or.inr rfl) Tryd.results104 ⟨rfl, rfl⟩

theorem new_ok : Fn Tryd.prog 96 [] [] [glF 0 (us .u32 shaH) 167] (fun u B' => ∃ p, u = ptr p 0 ∧ B' = [.blk p (.cells (hashC (shaS []) (List.replicate 64 0) 0 0).toArray 169 (0, 0))]) := by
  refine fn_enter Tryd.func96 rfl Tryd.ntmps96 rfl fun w => ?_
  refine c_seq (c_region ?_)
  refine s_p p_assign ?_
  refine g_nil (f_next ?_)
  refine c_seq (c_region ?_)
  refine s_p (p_bstr (cells := hashC (List.replicate 8 0) (List.replicate 64 0) 0 0) rfl) ?_
  refine s_x (e_box rfl rfl fun b3 => ?_)
  refine s_p p_assign ?_
  refine g_nil (f_next ?_)
  refine c_seq (c_region ?_)
  refine s_p p_move ?_
  refine s_x (e_callx (reset_ok _ (List.replicate 8 0) (List.replicate 64 0) 0 0 rfl rfl) (h := fun v5 B5 h5 => ?_))
  obtain ⟨rfl, rfl⟩ := h5
  simp only [List.cons_append, List.nil_append]
  refine g_nil (f_next ?_)
  refine c_seq (c_region ?_)
  refine s_p p_move ?_
  refine s_p p_assign ?_
  refine g_nil (f_next ?_)
  refine c_ret ?_
  exact f_r1 (Or.inl rfl) Tryd.results96 ⟨_, rfl, rfl⟩

/-- A digest.Hash that has taken in m. -/
abbrev hashM (p : Nat) (m bl : List Nat) : Ent := .blk p (.cells (hashC (shaS m) bl (m.length % 64) m.length).toArray 169 (0, 0))
/-- What stands in its block. -/
structure HB (m bl : List Nat) : Prop where
  us : Us .u8 bl
  len : bl.length = 64
  eq : bl.take (m.length % 64) = m.drop (64 * (m.length / 64))
def putL (bl t : List Nat) (r : Nat) : List Nat := bl.take r ++ t ++ bl.drop (r + t.length)
theorem HB.more {M bl t : List Nat} (h : HB M bl) (ht : Us .u8 t) (hr : M.length % 64 + t.length < 64) : HB (M ++ t) (putL bl t (M.length % 64)) := by
  have := h.us
  have e : (M ++ t).length / 64 = M.length / 64 := by simp; omega
  have e2 : (M ++ t).length % 64 = M.length % 64 + t.length := by simp; omega
  have hl := h.len
  refine ⟨by unfold putL; infer_instance, by unfold putL; simp; omega, ?_⟩
  rw [e, e2, putL, List.take_append_of_le_length (by simp; omega), List.take_of_length_le (by simp; omega), h.eq, List.drop_append_of_le_length (by omega)]
theorem HB.full {M bl t : List Nat} (h : HB M bl) (ht : Us .u8 t) (hr : M.length % 64 + t.length = 64) : HB (M ++ t) (putL bl t (M.length % 64)) ∧ comp (shaS M) (putL bl t (M.length % 64)) = shaS (M ++ t) := by
  have := h.us
  have hl := h.len
  have e : (M ++ t).length % 64 = 0 := by simp; omega
  refine ⟨⟨by unfold putL; infer_instance, by unfold putL; simp; omega, ?_⟩, ?_⟩
  · rw [e, List.take_zero, List.drop_of_length_le (by omega)]
  · rw [shaS_full M t hr, putL, h.eq, List.drop_of_length_le (l := bl) (by omega), List.append_nil]
theorem hashC_putbl {st bl t : List Nat} {used size r k : Nat} (h8 : st.length = 8) (h64 : bl.length = 64) (hk : t.length = k) (hr : r + k ≤ 64) :
    (hashC st bl used size).take (8 + r * 1) ++ us .u8 t ++ (hashC st bl used size).drop (8 + r * 1 + k) = hashC st (putL bl t r) used size := by
  subst hk
  rw [Nat.mul_one]
  simp only [hashC, putL]
  rw [List.take_append, List.take_append, List.drop_append, List.drop_append, List.take_of_length_le (by simp; omega), List.drop_of_length_le (l := us .u32 st) (by simp; omega)]
  simp only [us_length, h8, h64]
  rw [show 8 + r - 8 = r from by omega, show r - 64 = 0 from by omega, show 8 + r + t.length - 8 = r + t.length from by omega, show r + t.length - 64 = 0 from by omega]
  simp only [us_take, us_drop, List.take_zero, List.append_nil, List.nil_append, List.drop_zero, List.append_assoc]
  simp [us]
theorem take_more (m l : List Nat) (j k : Nat) : m ++ l.take j ++ (l.drop j).take k = m ++ l.take (j + k) := by
  rw [List.append_assoc, List.take_add]

theorem hwrite_ok (p : Nat) (m bl : List Nat) (v : Value) (n : Nat) (l : List Nat) [Us .u8 l] (hb : HB m bl) (hlen : m.length + n ≤ 1152921504606846976) : Fn Tryd.prog 97 [ptr p 0, v] [hashM p m bl] [rdF v 1 n (us .u8 l), glF 1 (us .u32 shaK) 181] (fun u B' => ∃ bl', HB (m ++ l) bl' ∧ u = .tuple #[.int .i64 (n : Int), .nilIface] ∧ B' = [hashM p (m ++ l) bl']) := by
  refine fn_enter Tryd.func97 rfl Tryd.ntmps97 rfl fun w => ?_
  refine c_fact (p := l.length = n) (fun _ _ s => by simpa using (s.read (f := rdF v 1 n (us .u8 l)) (by simp)).1) fun hl => ?_
  refine c_seq (c_region ?_)
  refine s_p (p_assign (v := .int .i64 ((0 : Nat) : Int))) ?_
  refine s_p p_assign ?_
  refine g_nil (f_next ?_)
  refine c_seq ?_
  refine c_seq (c_region ?_)
  refine s_p p_move ?_
  refine s_p p_eqpn ?_
  refine g_nil (f_next ?_)
  refine c_cond_false rfl ?_
  refine c_skip (f_next ?_)
  refine c_seq (c_region ?_)
  refine s_p p_move ?_
  refine s_p p_nilcheck ?_
  refine s_p p_field0 ?_
  refine s_p (p_load_one rfl (hashC_size (shaS_length m) hb.len)) ?_
  refine s_p p_move ?_
  refine s_p (p_len rfl) ?_
  refine s_p p_convw ?_
  refine s_p p_adduw ?_
  refine s_p p_nilcheck ?_
  refine s_p p_field0 ?_
  refine s_x0 (e_store_c rfl rfl (hashC_setsize (shaS_length m) hb.len (x := m.length + n)) (by rw [hashC_length (shaS_length m) hb.len]; omega) (h := ?_))
  refine g_nil (f_next ?_)
  refine c_seq (c_region ?_)
  refine s_p p_move ?_
  refine s_p p_assign ?_
  refine g_own (B2 := [.blk p (.cells (hashC (shaS (m ++ l.take 0)) bl ((m.length + 0) % 64) (m.length + n)).toArray 169 (0, 0))]) (by simp) ?_
  refine g_nil (f_next ?_)
  refine c_seq ?_
  refine c_block ?_
  refine c_lp (X := Value × Nat × List Nat) (fun x => n - x.2.1) (fun c x => x.2.1 ≤ n ∧ HB (m ++ l.take x.2.1) x.2.2 ∧ ∀ B, Rd c B x.1 1 (n - x.2.1) (us .u8 (l.drop x.2.1))) (fun x => [(6, x.1)]) [(0, _), (1, _)] (fun x => [.blk p (.cells (hashC (shaS (m ++ l.take x.2.1)) x.2.2 ((m.length + x.2.1) % 64) (m.length + n)).toArray 169 (0, 0))]) (v, 0, bl) ⟨Nat.zero_le _, by simpa using hb, fun B => by show Rd _ B v 1 n (us .u8 l); infer_instance⟩ ⟨rfl, rfl, trivial⟩ (hr := fun x hx => ?_)
  obtain ⟨u, j, bl⟩ := x
  obtain ⟨hj, hB, hR⟩ := hx
  simp only at hj hB hR ⊢
  refine c_seq ?_
  refine c_seq (c_region ?_)
  refine s_p p_move ?_
  refine s_p (p_len rfl) ?_
  refine s_p (p_gtr (b := 0)) ?_
  refine g_nil (f_next ?_)
  refine c_cond_dec rfl (fun h24 => ?_) (fun h24 => ?_)
  · skip
    replace h24 : 0 < _ := h24
    have hM : (m ++ l.take j).length = m.length + j := by simp; omega
    obtain ⟨k, hk⟩ : ∃ k, min (n - j) (64 - (m.length + j) % 64) = k := ⟨_, rfl⟩
    have hk0 : 0 < k := by omega
    have hkt : ((l.drop j).take k).length = k := by simp; omega
    have h64' : (putL bl ((l.drop j).take k) ((m.length + j) % 64)).length = 64 := by have := hB.len; simp only [putL, List.length_append, List.length_take, List.length_drop, hkt]; omega
    refine c_skip (f_next ?_)
    refine c_block ?_
    refine c_seq (c_run [.p, .p, .p, .p, .p, .p, .r, .p, .p, .x2, .p] [0, 1, 2, 3, 4, 5, 6, 7, 8, 9, 10] (by kernel_rfl) fun hn6 => ?_)
    refine d_p rfl p_move ?_
    refine d_p rfl p_nilcheck ?_
    refine d_p rfl p_field0 ?_
    refine d_p rfl p_move ?_
    refine d_p rfl p_nilcheck ?_
    refine d_p rfl p_field0 ?_
    refine d_r hn6 rfl (p_load_one rfl (hashC_used (shaS_length _) hB.len)) ?_
    refine d_p rfl (p_slice_arr_lo rfl rfl) ?_
    refine d_p rfl p_move ?_
    refine d_x2 rfl (e_copy rfl rfl hk us_one (by rw [hashC_length (shaS_length _) hB.len]; omega) (cs' := hashC (shaS (m ++ l.take j)) (putL bl ((l.drop j).take k) ((m.length + j) % 64)) ((m.length + j) % 64) (m.length + n)) (h := ?_) (hl0 := by rw [us_take]; exact hashC_putbl (shaS_length _) hB.len hkt (by omega)))
    refine d_p rfl p_assign ?_
    refine d_nil (f_next ?_)
    refine c_seq (c_region ?_)
    refine s_p p_move ?_
    refine s_p p_nilcheck ?_
    refine s_p p_field0 ?_
    refine s_p (p_load_one rfl (hashC_used (shaS_length _) h64')) ?_
    refine s_p p_move ?_
    refine s_p p_addn ?_
    refine s_p p_nilcheck ?_
    refine s_p p_field0 ?_
    refine s_x0 (e_store_c rfl rfl (hashC_setused (shaS_length _) h64' (x := (m.length + j) % 64 + k)) (by rw [hashC_length (shaS_length _) h64']; omega) (h := ?_))
    refine g_nil (f_next ?_)
    refine c_seq (c_region ?_)
    refine s_p p_move ?_
    refine s_p p_move ?_
    refine s_p (p_slice_sl_lo rfl rfl) ?_
    refine s_p p_assign ?_
    refine g_nil (f_next ?_)
    refine c_seq (c_region ?_)
    refine s_p p_move ?_
    refine s_p p_nilcheck ?_
    refine s_p p_field0 ?_
    refine s_p (p_load_one rfl (hashC_used (shaS_length _) h64')) ?_
    refine s_p (p_eql (b := 64)) ?_
    refine g_nil (f_next ?_)
    refine c_cond_dec rfl (fun h50 => ?_) (fun h50 => ?_)
    · skip
      replace h50 : _ = 64 := h50
      have hr : (m ++ l.take j).length % 64 + ((l.drop j).take k).length = 64 := by rw [hM, hkt]; exact h50
      obtain ⟨hB', hc⟩ := hB.full (t := (l.drop j).take k) (by infer_instance) hr
      rw [hM, take_more] at hB' 
      rw [hM, take_more] at hc
      have := hB'.us
      refine c_seq (c_region ?_)
      refine s_p p_move ?_
      refine s_x (e_callx (round_ok p (shaS (m ++ l.take j)) (putL bl ((l.drop j).take k) ((m.length + j) % 64)) _ _ (shaS_length _) h64') (h := fun v52 B52 h52 => ?_))
      obtain ⟨rfl, rfl⟩ := h52
      simp only [List.cons_append, List.nil_append]
      refine g_nil (f_next ?_)
      refine c_region ?_
      refine s_p p_move ?_
      refine s_p p_nilcheck ?_
      refine s_p p_field0 ?_
      refine s_x0 (e_store_c rfl rfl (hashC_setused (by simp) h64' (x := 0)) (by rw [hashC_length (by simp) h64']; omega) (h := ?_))
      refine g_nil (f_block_normal ?_)
      refine f_own (B2 := [.blk p (.cells (hashC (shaS (m ++ l.take (j + k))) (putL bl ((l.drop j).take k) ((m.length + j) % 64)) ((m.length + (j + k)) % 64) (m.length + n)).toArray 169 (0, 0))]) (by rw [hc, show (m.length + (j + k)) % 64 = 0 from by omega]) ?_
      exact f_rd (subSl u 1 k (n - j), j + k, putL bl ((l.drop j).take k) ((m.length + j) % 64)) ⟨by show j + k ≤ n; omega, hB', fun B => by have h := (hR B).dropu (lo := k) (by omega) (by simp; omega); rw [List.drop_drop, Nat.sub_sub] at h; exact h⟩ (by show n - (j + k) < n - j; omega)
    replace h50 : ¬ (_ = 64) := h50
    have hr : (m ++ l.take j).length % 64 + ((l.drop j).take k).length < 64 := by rw [hM, hkt]; omega
    have hB' := hB.more (t := (l.drop j).take k) (by infer_instance) hr
    have hc := shaS_more (m ++ l.take j) ((l.drop j).take k) hr
    rw [hM, take_more] at hB'
    rw [take_more] at hc
    refine c_skip (f_block_normal ?_)
    refine f_own (B2 := [.blk p (.cells (hashC (shaS (m ++ l.take (j + k))) (putL bl ((l.drop j).take k) ((m.length + j) % 64)) ((m.length + (j + k)) % 64) (m.length + n)).toArray 169 (0, 0))]) (by rw [hc, show (m.length + (j + k)) % 64 = (m.length + j) % 64 + k from by rw [hM, hkt] at hr; omega]) ?_
    exact f_rd (subSl u 1 k (n - j), j + k, putL bl ((l.drop j).take k) ((m.length + j) % 64)) ⟨by show j + k ≤ n; omega, hB', fun B => by have h := (hR B).dropu (lo := k) (by omega) (by simp; omega); rw [List.drop_drop, Nat.sub_sub] at h; exact h⟩ (by show n - (j + k) < n - j; omega)
  replace h24 : ¬ (0 < _) := h24
  refine c_exit (f_pass_exit (f_pass_exit (f_block_exit (f_next ?_))))
  obtain rfl : j = n := by omega
  rw [List.take_of_length_le (show l.length ≤ j by omega)] at hB ⊢
  refine c_seq (c_region ?_)
  refine s_p p_move ?_
  refine s_p (p_len rfl) ?_
  refine s_p p_assign ?_
  refine s_p p_assign ?_
  refine g_nil (f_next ?_)
  refine c_ret ?_
  exact f_r2 (Or.inl rfl) Tryd.results97 ⟨bl, hB, rfl, by rw [hashM, List.length_append, hl]⟩

end Go.Tw
end

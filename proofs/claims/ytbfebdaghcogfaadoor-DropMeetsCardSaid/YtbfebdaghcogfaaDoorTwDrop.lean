/- For every input the law DropMeets returns true, and its arguments read behind the call as they read before. CONDITIONS: the package variables digest.first and digest.table hold what the program's text lays (the card ties them to it); nothing else. -/
import Derived.Test.YtbfebdaghcogfaaDoorTwWx
import Derived.Test.YtbfebdaghcogfaaDoorTwWs
import Derived.Test.YtbfebdaghcogfaaDoorTwJoin
section
namespace Go.Tw
open Go Go.Proofs

def one32 : List Nat := 1 :: List.replicate 31 0
def m21 : List Nat := List.replicate 16 0 ++ (one32 ++ one32)
instance : Us .u8 one32 := ⟨by decide⟩
instance : Us .u8 m21 := ⟨by decide⟩
instance : Us .u8 [9, 8] := ⟨by decide⟩
@[simp] theorem one32_length : one32.length = 32 := rfl
@[simp] theorem m21_length : m21.length = 80 := rfl
theorem m21_same : (m21.drop 48).take 32 = (m21.drop 16).take 32 := by decide
theorem dunbox21_ok (v : Value) : Fn Tryd.prog 16 [.agg (us .u8 m21).toArray, .int .u64 ((7 : Nat) : Int), v] [] [rdF v 1 32 (us .u8 (boxL ((m21.drop 16).take 32) 7 32 [9, 8]))] (fun u B' => ∃ w, u = .tuple #[w, .int .i64 0] ∧ B' = [.sl w 5 1 2 (us .u8 [9, 8])]) := by
  have := dunbox_ok m21 7 v 32 [9, 8] rfl (by decide) (by decide) (by decide)
  rwa [m21_same] at this

theorem works21_ok : Fn Tryd.prog 13 [] [] [] (fun u B' => u = .bool true ∧ B' = []) := by
  refine fn_enter Tryd.func13 rfl Tryd.ntmps13 rfl fun w => ?_
  refine c_seq (c_region ?_)
  refine s_p p_assign ?_
  refine g_nil (f_next ?_)
  refine c_seq (c_region ?_)
  refine s_p (p_barr (cells := us .u8 one32) rfl) ?_
  refine s_p (p_barr (cells := us .u8 one32) rfl) ?_
  refine s_p (p_bstr (cells := us .u8 m21) rfl) ?_
  refine s_x (e_alloc fun b1 => ?_)
  refine s_x0 (e_store_all rfl rfl rfl (h := ?_))
  refine g_nil (f_next ?_)
  refine c_seq (c_region ?_)
  refine s_p (p_load_all rfl) ?_
  refine s_x (e_bsl (cells := us .u8 [9, 8]) (hp := rfl) (hf := by rfl) (h := fun v11 n11 => ?_))
  refine s_x (e_callx (dbox_ok m21 7 32 v11 2 [9, 8] rfl (by decide) (by decide) (by decide)) (h := fun v12 B12 h12 => ?_))
  obtain ⟨w12, rfl, rfl⟩ := h12
  simp only [List.cons_append, List.nil_append]
  refine s_p p_move ?_
  refine s_p (p_ext rfl rfl) ?_
  refine s_p (p_ext rfl rfl) ?_
  refine s_p p_assign ?_
  refine s_p p_assign ?_
  refine g_nil (f_next ?_)
  refine c_seq (c_region ?_)
  refine s_p (p_load_all rfl) ?_
  refine s_p p_move ?_
  refine s_x (e_callx (dunbox21_ok w12) (h := fun v18 B18 h18 => ?_))
  obtain ⟨w18, rfl, rfl⟩ := h18
  simp only [List.cons_append, List.nil_append]
  refine s_p p_move ?_
  refine s_p (p_ext rfl rfl) ?_
  refine s_p (p_ext rfl rfl) ?_
  refine s_p p_assign ?_
  refine s_p p_assign ?_
  refine g_nil (f_next ?_)
  refine c_seq (c_region ?_)
  refine s_p p_move ?_
  refine s_p (p_eq (p_eql (a := 0) (b := 0)) (v' := .bool true) rfl) ?_
  refine s_p p_move ?_
  refine s_v (v_yg p_move) ?_
  refine s_v (v_yg (p_eq (p_eql (a := 0) (b := 0)) (v' := .bool true) rfl)) ?_
  refine s_p (p_pick_t rfl rfl) ?_
  refine s_p p_move ?_
  refine s_v (v_yg p_move) ?_
  refine s_v (v_yg (p_len rfl)) ?_
  refine s_v (v_yg (p_eq (p_eql (a := 32) (b := 32)) (v' := .bool true) rfl)) ?_
  refine s_p (p_pick_t rfl rfl) ?_
  refine s_p p_move ?_
  refine s_v (v_yg p_move) ?_
  refine s_xyg (e_bsl (cells := us .u8 [9, 8]) (hp := rfl) (hf := by rfl) (h := fun v34 n34 => ?_))
  refine s_xyg (e_callp (eqb_ok w18 v34 2 [9, 8] (by decide)) (h := ?_))
  refine s_p (p_pick_t rfl rfl) ?_
  refine s_p p_move ?_
  refine s_xyg (e_callp (room_ok 32 (by decide) (by decide)) (h := ?_))
  refine s_v (v_yg (p_eq (p_eql (a := 14) (b := 14)) (v' := .bool true) rfl)) ?_
  refine s_p (p_pick_t rfl rfl) ?_
  refine s_p p_assign ?_
  refine g_nil (f_next ?_)
  refine c_ret ?_
  exact f_r1 (Or.inl rfl) Tryd.results13 ⟨rfl, rfl⟩

/-- A Talk: a meeting, the round, the size, the text. -/
def talkC (m : List Nat) (round : Nat) (size : Int) (v : Value) : List Value := us .u8 m ++ [.int .u64 (round : Int), .int .i64 size, v]
section
variable {m : List Nat} {round : Nat} {size : Int} {v : Value} (hm : m.length = 80)
include hm
theorem talkC_length : (talkC m round size v).length = 83 := by simp [talkC, hm]
theorem talkC_round : (talkC m round size v)[80]? = some (.int .u64 (round : Int)) := by rw [talkC, List.getElem?_append_right (by simp [hm])]; simp [hm]
theorem talkC_size : (talkC m round size v)[81]? = some (.int .i64 size) := by rw [talkC, List.getElem?_append_right (by simp [hm])]; simp [hm]
theorem talkC_b : (talkC m round size v)[82]? = some v := by rw [talkC, List.getElem?_append_right (by simp [hm])]; simp [hm]
end
section
variable {z : List Nat} {round : Nat} {m t : List Nat}
theorem meetL_drop : ((us .u8 (meetL z round m t)).drop 0).take 16 = us .u8 (meetD z round) := by
  rw [us_drop, us_take, List.drop_zero, meetL, List.take_append_of_le_length (by simp), List.take_of_length_le (by simp)]
theorem meetL_mine : ((meetL z round m t).drop 16).take 32 = meetK z round m := by
  rw [meetL, List.drop_append, List.drop_of_length_le (by simp), List.nil_append, meetD_length, Nat.sub_self, List.drop_zero, List.take_append_of_le_length (by simp), List.take_of_length_le (by simp)]
theorem meetL_theirs : ((meetL z round m t).drop 48).take 32 = meetK z round t := by
  rw [meetL, List.drop_append, List.drop_of_length_le (by simp), List.nil_append, meetD_length, List.drop_append, List.drop_of_length_le (by simp), List.nil_append, meetK_length]
  exact List.take_of_length_le (by simp)
theorem meetL_mine_u : ((us .u8 (meetL z round m t)).drop 16).take 32 = us .u8 (meetK z round m) := by rw [us_drop, us_take, meetL_mine]
theorem meetL_theirs_u : ((us .u8 (meetL z round m t)).drop 48).take 32 = us .u8 (meetK z round t) := by rw [us_drop, us_take, meetL_theirs]
theorem dbox2_ok (size : Nat) (v : Value) (n : Nat) (text : List Nat) [hru : Fits round .u64] [htu : Us .u8 text] (h32 : 32 ≤ size) (h512 : size ≤ 512) (hn : n + 18 ≤ size) : Fn Tryd.prog 14 [.agg (us .u8 (meetL z round m t)).toArray, .int .u64 (round : Int), .int .i64 (size : Int), v] [] [rdF v 1 n (us .u8 text)] (fun u B' => ∃ w, u = .tuple #[w, .int .i64 0] ∧ B' = [.sl w 5 1 size (us .u8 (boxL (meetK z round m) round size text))]) := by
  have := dbox_ok (meetL z round m t) round size v n text (by simp) h32 h512 hn
  rwa [meetL_mine] at this
theorem dunbox2_ok (v : Value) (n : Nat) (text : List Nat) [hru : Fits round .u64] [htu : Us .u8 text] (h32 : 32 ≤ n) (h512 : n ≤ 512) (ht : text.length + 18 ≤ n) : Fn Tryd.prog 16 [.agg (us .u8 (meetL z round m t)).toArray, .int .u64 (round : Int), v] [] [rdF v 1 n (us .u8 (boxL (meetK z round t) round n text))] (fun u B' => ∃ w, u = .tuple #[w, .int .i64 0] ∧ B' = [.sl w 5 1 text.length (us .u8 text)]) := by
  have := dunbox_ok (meetL z round m t) round v n text (by simp) h32 h512 ht
  rwa [meetL_theirs] at this
end
instance : NoGuard Tryd.prog 38 := ⟨by kernel_rfl⟩

theorem dropMeets_low (a b m : List Nat) (round : Nat) (size : Int) (v : Value) (n : Nat) (text : List Nat) [hau : Us .u8 a] [hbu : Us .u8 b] [hru : Fits round .u64] [htu : Us .u8 text] (ha : a.length = 32) (hb : b.length = 32) (hm : m.length = 80) (hs : size < 32) : Fn Tryd.prog 4 [.agg (us .u8 a).toArray, .agg (us .u8 b).toArray, .agg (talkC m round size v).toArray] [] [rdF v 1 n (us .u8 text), glH, glK] (fun u B' => u = .bool true ∧ B' = []) := by
  refine fn_enter Tryd.func4 rfl Tryd.ntmps4 rfl fun w => ?_
  refine c_fact (p := text.length = n) (fun _ _ s => by simpa using (s.read (f := rdF v 1 n (us .u8 text)) (by simp)).1) fun hl => ?_
  subst hl
  have hz := x255_ne ha hb
  have hz2 := x255_ne hb ha
  have hzz : x255 b (baseL a) = x255 a (baseL b) := x255_dh hb ha
  refine c_seq (c_region ?_)
  refine s_x (e_box rfl rfl fun b3 => ?_)
  refine s_x (e_box rfl rfl fun b4 => ?_)
  refine s_x (e_box rfl rfl fun b5 => ?_)
  refine s_p p_assign ?_
  refine g_nil (f_next ?_)
  refine c_seq (c_run [.r, .r, .x0, .p, .r, .x0, .p, .p, .p, .alc 40 (us .u8 (List.replicate 80 0)), .x2, .p] [0, 1, 3, 4, 2, 5, 6, 7, 8, 9, 10, 11] (by kernel_rfl) fun hn1 => ?_)
  refine d_r hn1 rfl (p_load_all rfl) ?_
  refine d_r hn1 rfl (p_load_all rfl) ?_
  refine d_p rfl p_field0 ?_
  refine d_r hn1 rfl (p_load_one rfl (talkC_round hm)) ?_
  refine d_x0 rfl (e_callp (base_ok b hb) (h := ⟨inferInstance, ?_⟩))
  refine d_x0 rfl (e_callp (meet_ok a (baseL b) round ha (by simp) hz) (h := ⟨inferInstance, ?_⟩))
  refine d_p rfl p_move ?_
  refine d_p rfl (p_ext rfl rfl) ?_
  refine d_p rfl (p_ext rfl rfl) ?_
  refine d_a rfl fun b7 hb7 => ?_
  refine d_s2 rfl (e_store_all rfl rfl rfl (h := ?_))
  refine d_p rfl p_assign ?_
  refine d_nil (f_next ?_)
  refine c_seq (c_run [.r, .r, .x0, .p, .r, .x0, .p, .p, .p, .alc 40 (us .u8 (List.replicate 80 0)), .x2, .p] [0, 1, 3, 4, 2, 5, 6, 7, 8, 9, 10, 11] (by kernel_rfl) fun hn2 => ?_)
  refine d_r hn2 rfl (p_load_all rfl) ?_
  refine d_r hn2 rfl (p_load_all rfl) ?_
  refine d_p rfl p_field0 ?_
  refine d_r hn2 rfl (p_load_one rfl (talkC_round hm)) ?_
  refine d_x0 rfl (e_callp (base_ok a ha) (h := ⟨inferInstance, ?_⟩))
  refine d_x0 rfl (e_callp (meet_ok b (baseL a) round hb (by simp) hz2) (h := ⟨inferInstance, ?_⟩))
  rw [hzz]
  refine d_p rfl p_move ?_
  refine d_p rfl (p_ext rfl rfl) ?_
  refine d_p rfl (p_ext rfl rfl) ?_
  refine d_a rfl fun b9 hb9 => ?_
  refine d_s2 rfl (e_store_all rfl rfl rfl (h := ?_))
  refine d_p rfl p_assign ?_
  refine d_nil (f_next ?_)
  refine c_seq ?_
  generalize x255 a (baseL b) = z
  refine c_seq (c_region ?_)
  refine s_p p_move ?_
  refine s_p (p_eq (p_neq (a := 0) (b := 0)) (v' := .bool false) rfl) ?_
  refine s_p p_move ?_
  refine s_v (v_yg p_move) ?_
  refine s_v (v_yg (p_eq (p_neq (a := 0) (b := 0)) (v' := .bool false) rfl)) ?_
  refine s_p (p_pick_f rfl rfl) ?_
  refine s_p p_move ?_
  refine s_v (v_yg p_field0) ?_
  refine s_v (v_yg (p_load_part rfl meetL_drop)) ?_
  refine s_v (v_yg p_field0) ?_
  refine s_v (v_yg (p_load_part rfl meetL_drop)) ?_
  refine s_v (v_yg (p_eq (p_neqarr (l := meetD z round) (m := meetD z round)) (v' := .bool false) (by simp))) ?_
  refine s_p (p_pick_f rfl rfl) ?_
  refine s_p p_move ?_
  refine s_v (v_yg p_field0) ?_
  refine s_v (v_yg (p_load_part rfl meetL_mine_u)) ?_
  refine s_v (v_yg p_field0) ?_
  refine s_v (v_yg (p_load_part rfl meetL_theirs_u)) ?_
  refine s_v (v_yg (p_eq (p_neqarr (l := meetK z round (baseL a)) (m := meetK z round (baseL a))) (v' := .bool false) (by simp))) ?_
  refine s_p (p_pick_f rfl rfl) ?_
  refine s_p p_move ?_
  refine s_v (v_yg p_field0) ?_
  refine s_v (v_yg (p_load_part rfl meetL_theirs_u)) ?_
  refine s_v (v_yg p_field0) ?_
  refine s_v (v_yg (p_load_part rfl meetL_mine_u)) ?_
  refine s_v (v_yg (p_eq (p_neqarr (l := meetK z round (baseL b)) (m := meetK z round (baseL b))) (v' := .bool false) (by simp))) ?_
  refine s_p (p_pick_f rfl rfl) ?_
  refine s_p p_move ?_
  refine s_xyg (e_callp works21_ok (h := ?_))
  refine s_v (v_yg (p_eq p_not (v' := .bool false) rfl)) ?_
  refine s_p (p_pick_f rfl rfl) ?_
  refine g_nil (f_next ?_)
  refine c_cond_false rfl ?_
  refine c_skip (f_next ?_)
  refine c_seq ?_
  refine c_seq (c_region ?_)
  refine s_p p_field0 ?_
  refine s_p (p_load_one rfl (talkC_size hm)) ?_
  refine s_p (p_eq (p_lssi (b := 32)) (v' := .bool true) (by simp; omega)) ?_
  refine s_p p_move ?_
  refine s_v (v_no) ?_
  refine s_v (v_no) ?_
  refine s_v (v_no) ?_
  refine s_p (p_pick_t rfl rfl) ?_
  refine s_p p_move ?_
  refine s_v (v_no) ?_
  refine s_v (v_no) ?_
  refine s_v (v_no) ?_
  refine s_v (v_no) ?_
  refine s_v (v_no) ?_
  refine s_v (v_no) ?_
  refine s_v (v_no) ?_
  refine s_p (p_pick_t rfl rfl) ?_
  refine g_nil (f_next ?_)
  refine c_cond_true rfl ?_
  refine c_seq (c_region ?_)
  refine s_p p_assign ?_
  refine g_nil (f_next ?_)
  refine c_ret (f_pass_ret ?_)
  exact f_r1 (Or.inl rfl) Tryd.results4 ⟨rfl, rfl⟩

theorem dropMeets_high (a b m : List Nat) (round : Nat) (size : Nat) (v : Value) (n : Nat) (text : List Nat) [hau : Us .u8 a] [hbu : Us .u8 b] [hru : Fits round .u64] [htu : Us .u8 text] (ha : a.length = 32) (hb : b.length = 32) (hm : m.length = 80) (hs : 512 < size) : Fn Tryd.prog 4 [.agg (us .u8 a).toArray, .agg (us .u8 b).toArray, .agg (talkC m round size v).toArray] [] [rdF v 1 n (us .u8 text), glH, glK] (fun u B' => u = .bool true ∧ B' = []) := by
  refine fn_enter Tryd.func4 rfl Tryd.ntmps4 rfl fun w => ?_
  refine c_fact (p := text.length = n) (fun _ _ s => by simpa using (s.read (f := rdF v 1 n (us .u8 text)) (by simp)).1) fun hl => ?_
  subst hl
  have hz := x255_ne ha hb
  have hz2 := x255_ne hb ha
  have hzz : x255 b (baseL a) = x255 a (baseL b) := x255_dh hb ha
  refine c_seq (c_region ?_)
  refine s_x (e_box rfl rfl fun b3 => ?_)
  refine s_x (e_box rfl rfl fun b4 => ?_)
  refine s_x (e_box rfl rfl fun b5 => ?_)
  refine s_p p_assign ?_
  refine g_nil (f_next ?_)
  refine c_seq (c_run [.r, .r, .x0, .p, .r, .x0, .p, .p, .p, .alc 40 (us .u8 (List.replicate 80 0)), .x2, .p] [0, 1, 3, 4, 2, 5, 6, 7, 8, 9, 10, 11] (by kernel_rfl) fun hn1 => ?_)
  refine d_r hn1 rfl (p_load_all rfl) ?_
  refine d_r hn1 rfl (p_load_all rfl) ?_
  refine d_p rfl p_field0 ?_
  refine d_r hn1 rfl (p_load_one rfl (talkC_round hm)) ?_
  refine d_x0 rfl (e_callp (base_ok b hb) (h := ⟨inferInstance, ?_⟩))
  refine d_x0 rfl (e_callp (meet_ok a (baseL b) round ha (by simp) hz) (h := ⟨inferInstance, ?_⟩))
  refine d_p rfl p_move ?_
  refine d_p rfl (p_ext rfl rfl) ?_
  refine d_p rfl (p_ext rfl rfl) ?_
  refine d_a rfl fun b7 hb7 => ?_
  refine d_s2 rfl (e_store_all rfl rfl rfl (h := ?_))
  refine d_p rfl p_assign ?_
  refine d_nil (f_next ?_)
  refine c_seq (c_run [.r, .r, .x0, .p, .r, .x0, .p, .p, .p, .alc 40 (us .u8 (List.replicate 80 0)), .x2, .p] [0, 1, 3, 4, 2, 5, 6, 7, 8, 9, 10, 11] (by kernel_rfl) fun hn2 => ?_)
  refine d_r hn2 rfl (p_load_all rfl) ?_
  refine d_r hn2 rfl (p_load_all rfl) ?_
  refine d_p rfl p_field0 ?_
  refine d_r hn2 rfl (p_load_one rfl (talkC_round hm)) ?_
  refine d_x0 rfl (e_callp (base_ok a ha) (h := ⟨inferInstance, ?_⟩))
  refine d_x0 rfl (e_callp (meet_ok b (baseL a) round hb (by simp) hz2) (h := ⟨inferInstance, ?_⟩))
  rw [hzz]
  refine d_p rfl p_move ?_
  refine d_p rfl (p_ext rfl rfl) ?_
  refine d_p rfl (p_ext rfl rfl) ?_
  refine d_a rfl fun b9 hb9 => ?_
  refine d_s2 rfl (e_store_all rfl rfl rfl (h := ?_))
  refine d_p rfl p_assign ?_
  refine d_nil (f_next ?_)
  refine c_seq ?_
  generalize x255 a (baseL b) = z
  refine c_seq (c_region ?_)
  refine s_p p_move ?_
  refine s_p (p_eq (p_neq (a := 0) (b := 0)) (v' := .bool false) rfl) ?_
  refine s_p p_move ?_
  refine s_v (v_yg p_move) ?_
  refine s_v (v_yg (p_eq (p_neq (a := 0) (b := 0)) (v' := .bool false) rfl)) ?_
  refine s_p (p_pick_f rfl rfl) ?_
  refine s_p p_move ?_
  refine s_v (v_yg p_field0) ?_
  refine s_v (v_yg (p_load_part rfl meetL_drop)) ?_
  refine s_v (v_yg p_field0) ?_
  refine s_v (v_yg (p_load_part rfl meetL_drop)) ?_
  refine s_v (v_yg (p_eq (p_neqarr (l := meetD z round) (m := meetD z round)) (v' := .bool false) (by simp))) ?_
  refine s_p (p_pick_f rfl rfl) ?_
  refine s_p p_move ?_
  refine s_v (v_yg p_field0) ?_
  refine s_v (v_yg (p_load_part rfl meetL_mine_u)) ?_
  refine s_v (v_yg p_field0) ?_
  refine s_v (v_yg (p_load_part rfl meetL_theirs_u)) ?_
  refine s_v (v_yg (p_eq (p_neqarr (l := meetK z round (baseL a)) (m := meetK z round (baseL a))) (v' := .bool false) (by simp))) ?_
  refine s_p (p_pick_f rfl rfl) ?_
  refine s_p p_move ?_
  refine s_v (v_yg p_field0) ?_
  refine s_v (v_yg (p_load_part rfl meetL_theirs_u)) ?_
  refine s_v (v_yg p_field0) ?_
  refine s_v (v_yg (p_load_part rfl meetL_mine_u)) ?_
  refine s_v (v_yg (p_eq (p_neqarr (l := meetK z round (baseL b)) (m := meetK z round (baseL b))) (v' := .bool false) (by simp))) ?_
  refine s_p (p_pick_f rfl rfl) ?_
  refine s_p p_move ?_
  refine s_xyg (e_callp works21_ok (h := ?_))
  refine s_v (v_yg (p_eq p_not (v' := .bool false) rfl)) ?_
  refine s_p (p_pick_f rfl rfl) ?_
  refine g_nil (f_next ?_)
  refine c_cond_false rfl ?_
  refine c_skip (f_next ?_)
  refine c_seq ?_
  refine c_seq (c_region ?_)
  refine s_p p_field0 ?_
  refine s_p (p_load_one rfl (talkC_size hm)) ?_
  refine s_p (p_eq (p_lss (b := 32)) (v' := .bool false) (by simp; omega)) ?_
  refine s_p p_move ?_
  refine s_v (v_yg p_field0) ?_
  refine s_v (v_yg (p_load_one rfl (talkC_size hm))) ?_
  refine s_v (v_yg (p_eq (p_gtr (b := 512)) (v' := .bool true) (by simp; omega))) ?_
  refine s_p (p_pick_f rfl rfl) ?_
  refine s_p p_move ?_
  refine s_v (v_no) ?_
  refine s_v (v_no) ?_
  refine s_v (v_no) ?_
  refine s_v (v_no) ?_
  refine s_v (v_no) ?_
  refine s_v (v_no) ?_
  refine s_v (v_no) ?_
  refine s_p (p_pick_t rfl rfl) ?_
  refine g_nil (f_next ?_)
  refine c_cond_true rfl ?_
  refine c_seq (c_region ?_)
  refine s_p p_assign ?_
  refine g_nil (f_next ?_)
  refine c_ret (f_pass_ret ?_)
  exact f_r1 (Or.inl rfl) Tryd.results4 ⟨rfl, rfl⟩

theorem dropMeets_long (a b m : List Nat) (round : Nat) (size : Nat) (v : Value) (n : Nat) (text : List Nat) [hau : Us .u8 a] [hbu : Us .u8 b] [hru : Fits round .u64] [htu : Us .u8 text] (ha : a.length = 32) (hb : b.length = 32) (hm : m.length = 80) (h32 : 32 ≤ size) (h512 : size ≤ 512) (hs : size < n + 18) : Fn Tryd.prog 4 [.agg (us .u8 a).toArray, .agg (us .u8 b).toArray, .agg (talkC m round size v).toArray] [] [rdF v 1 n (us .u8 text), glH, glK] (fun u B' => u = .bool true ∧ B' = []) := by
  refine fn_enter Tryd.func4 rfl Tryd.ntmps4 rfl fun w => ?_
  refine c_fact (p := text.length = n) (fun _ _ s => by simpa using (s.read (f := rdF v 1 n (us .u8 text)) (by simp)).1) fun hl => ?_
  subst hl
  have hz := x255_ne ha hb
  have hz2 := x255_ne hb ha
  have hzz : x255 b (baseL a) = x255 a (baseL b) := x255_dh hb ha
  refine c_seq (c_region ?_)
  refine s_x (e_box rfl rfl fun b3 => ?_)
  refine s_x (e_box rfl rfl fun b4 => ?_)
  refine s_x (e_box rfl rfl fun b5 => ?_)
  refine s_p p_assign ?_
  refine g_nil (f_next ?_)
  refine c_seq (c_run [.r, .r, .x0, .p, .r, .x0, .p, .p, .p, .alc 40 (us .u8 (List.replicate 80 0)), .x2, .p] [0, 1, 3, 4, 2, 5, 6, 7, 8, 9, 10, 11] (by kernel_rfl) fun hn1 => ?_)
  refine d_r hn1 rfl (p_load_all rfl) ?_
  refine d_r hn1 rfl (p_load_all rfl) ?_
  refine d_p rfl p_field0 ?_
  refine d_r hn1 rfl (p_load_one rfl (talkC_round hm)) ?_
  refine d_x0 rfl (e_callp (base_ok b hb) (h := ⟨inferInstance, ?_⟩))
  refine d_x0 rfl (e_callp (meet_ok a (baseL b) round ha (by simp) hz) (h := ⟨inferInstance, ?_⟩))
  refine d_p rfl p_move ?_
  refine d_p rfl (p_ext rfl rfl) ?_
  refine d_p rfl (p_ext rfl rfl) ?_
  refine d_a rfl fun b7 hb7 => ?_
  refine d_s2 rfl (e_store_all rfl rfl rfl (h := ?_))
  refine d_p rfl p_assign ?_
  refine d_nil (f_next ?_)
  refine c_seq (c_run [.r, .r, .x0, .p, .r, .x0, .p, .p, .p, .alc 40 (us .u8 (List.replicate 80 0)), .x2, .p] [0, 1, 3, 4, 2, 5, 6, 7, 8, 9, 10, 11] (by kernel_rfl) fun hn2 => ?_)
  refine d_r hn2 rfl (p_load_all rfl) ?_
  refine d_r hn2 rfl (p_load_all rfl) ?_
  refine d_p rfl p_field0 ?_
  refine d_r hn2 rfl (p_load_one rfl (talkC_round hm)) ?_
  refine d_x0 rfl (e_callp (base_ok a ha) (h := ⟨inferInstance, ?_⟩))
  refine d_x0 rfl (e_callp (meet_ok b (baseL a) round hb (by simp) hz2) (h := ⟨inferInstance, ?_⟩))
  rw [hzz]
  refine d_p rfl p_move ?_
  refine d_p rfl (p_ext rfl rfl) ?_
  refine d_p rfl (p_ext rfl rfl) ?_
  refine d_a rfl fun b9 hb9 => ?_
  refine d_s2 rfl (e_store_all rfl rfl rfl (h := ?_))
  refine d_p rfl p_assign ?_
  refine d_nil (f_next ?_)
  refine c_seq ?_
  generalize x255 a (baseL b) = z
  refine c_seq (c_region ?_)
  refine s_p p_move ?_
  refine s_p (p_eq (p_neq (a := 0) (b := 0)) (v' := .bool false) rfl) ?_
  refine s_p p_move ?_
  refine s_v (v_yg p_move) ?_
  refine s_v (v_yg (p_eq (p_neq (a := 0) (b := 0)) (v' := .bool false) rfl)) ?_
  refine s_p (p_pick_f rfl rfl) ?_
  refine s_p p_move ?_
  refine s_v (v_yg p_field0) ?_
  refine s_v (v_yg (p_load_part rfl meetL_drop)) ?_
  refine s_v (v_yg p_field0) ?_
  refine s_v (v_yg (p_load_part rfl meetL_drop)) ?_
  refine s_v (v_yg (p_eq (p_neqarr (l := meetD z round) (m := meetD z round)) (v' := .bool false) (by simp))) ?_
  refine s_p (p_pick_f rfl rfl) ?_
  refine s_p p_move ?_
  refine s_v (v_yg p_field0) ?_
  refine s_v (v_yg (p_load_part rfl meetL_mine_u)) ?_
  refine s_v (v_yg p_field0) ?_
  refine s_v (v_yg (p_load_part rfl meetL_theirs_u)) ?_
  refine s_v (v_yg (p_eq (p_neqarr (l := meetK z round (baseL a)) (m := meetK z round (baseL a))) (v' := .bool false) (by simp))) ?_
  refine s_p (p_pick_f rfl rfl) ?_
  refine s_p p_move ?_
  refine s_v (v_yg p_field0) ?_
  refine s_v (v_yg (p_load_part rfl meetL_theirs_u)) ?_
  refine s_v (v_yg p_field0) ?_
  refine s_v (v_yg (p_load_part rfl meetL_mine_u)) ?_
  refine s_v (v_yg (p_eq (p_neqarr (l := meetK z round (baseL b)) (m := meetK z round (baseL b))) (v' := .bool false) (by simp))) ?_
  refine s_p (p_pick_f rfl rfl) ?_
  refine s_p p_move ?_
  refine s_xyg (e_callp works21_ok (h := ?_))
  refine s_v (v_yg (p_eq p_not (v' := .bool false) rfl)) ?_
  refine s_p (p_pick_f rfl rfl) ?_
  refine g_nil (f_next ?_)
  refine c_cond_false rfl ?_
  refine c_skip (f_next ?_)
  refine c_seq ?_
  refine c_seq (c_region ?_)
  refine s_p p_field0 ?_
  refine s_p (p_load_one rfl (talkC_size hm)) ?_
  refine s_p (p_eq (p_lss (b := 32)) (v' := .bool false) (by simp; omega)) ?_
  refine s_p p_move ?_
  refine s_v (v_yg p_field0) ?_
  refine s_v (v_yg (p_load_one rfl (talkC_size hm))) ?_
  refine s_v (v_yg (p_eq (p_gtr (b := 512)) (v' := .bool false) (by simp; omega))) ?_
  refine s_p (p_pick_f rfl rfl) ?_
  refine s_p p_move ?_
  refine s_v (v_yg p_field0) ?_
  refine s_v (v_yg (p_load_one rfl (talkC_b hm))) ?_
  refine s_v (v_yg (p_len rfl)) ?_
  refine s_v (v_yg p_field0) ?_
  refine s_v (v_yg (p_load_one rfl (talkC_size hm))) ?_
  refine s_v (v_yg (p_subn (a := size) (b := 18))) ?_
  refine s_v (v_yg (p_eq p_gtr (v' := .bool true) (by simp; omega))) ?_
  refine s_p (p_pick_f rfl rfl) ?_
  refine g_nil (f_next ?_)
  refine c_cond_true rfl ?_
  refine c_seq (c_region ?_)
  refine s_p p_assign ?_
  refine g_nil (f_next ?_)
  refine c_ret (f_pass_ret ?_)
  exact f_r1 (Or.inl rfl) Tryd.results4 ⟨rfl, rfl⟩

theorem dropMeets_good (a b m : List Nat) (round : Nat) (size : Nat) (v : Value) (n : Nat) (text : List Nat) [hau : Us .u8 a] [hbu : Us .u8 b] [hru : Fits round .u64] [htu : Us .u8 text] (ha : a.length = 32) (hb : b.length = 32) (hm : m.length = 80) (h32 : 32 ≤ size) (h512 : size ≤ 512) (hs : n + 18 ≤ size) : Fn Tryd.prog 4 [.agg (us .u8 a).toArray, .agg (us .u8 b).toArray, .agg (talkC m round size v).toArray] [] [rdF v 1 n (us .u8 text), glH, glK] (fun u B' => u = .bool true ∧ B' = []) := by
  refine fn_enter Tryd.func4 rfl Tryd.ntmps4 rfl fun w => ?_
  refine c_fact (p := text.length = n) (fun _ _ s => by simpa using (s.read (f := rdF v 1 n (us .u8 text)) (by simp)).1) fun hl => ?_
  subst hl
  have hz := x255_ne ha hb
  have hz2 := x255_ne hb ha
  have hzz : x255 b (baseL a) = x255 a (baseL b) := x255_dh hb ha
  refine c_seq (c_region ?_)
  refine s_x (e_box rfl rfl fun b3 => ?_)
  refine s_x (e_box rfl rfl fun b4 => ?_)
  refine s_x (e_box rfl rfl fun b5 => ?_)
  refine s_p p_assign ?_
  refine g_nil (f_next ?_)
  refine c_seq (c_run [.r, .r, .x0, .p, .r, .x0, .p, .p, .p, .alc 40 (us .u8 (List.replicate 80 0)), .x2, .p] [0, 1, 3, 4, 2, 5, 6, 7, 8, 9, 10, 11] (by kernel_rfl) fun hn1 => ?_)
  refine d_r hn1 rfl (p_load_all rfl) ?_
  refine d_r hn1 rfl (p_load_all rfl) ?_
  refine d_p rfl p_field0 ?_
  refine d_r hn1 rfl (p_load_one rfl (talkC_round hm)) ?_
  refine d_x0 rfl (e_callp (base_ok b hb) (h := ⟨inferInstance, ?_⟩))
  refine d_x0 rfl (e_callp (meet_ok a (baseL b) round ha (by simp) hz) (h := ⟨inferInstance, ?_⟩))
  refine d_p rfl p_move ?_
  refine d_p rfl (p_ext rfl rfl) ?_
  refine d_p rfl (p_ext rfl rfl) ?_
  refine d_a rfl fun b7 hb7 => ?_
  refine d_s2 rfl (e_store_all rfl rfl rfl (h := ?_))
  refine d_p rfl p_assign ?_
  refine d_nil (f_next ?_)
  refine c_seq (c_run [.r, .r, .x0, .p, .r, .x0, .p, .p, .p, .alc 40 (us .u8 (List.replicate 80 0)), .x2, .p] [0, 1, 3, 4, 2, 5, 6, 7, 8, 9, 10, 11] (by kernel_rfl) fun hn2 => ?_)
  refine d_r hn2 rfl (p_load_all rfl) ?_
  refine d_r hn2 rfl (p_load_all rfl) ?_
  refine d_p rfl p_field0 ?_
  refine d_r hn2 rfl (p_load_one rfl (talkC_round hm)) ?_
  refine d_x0 rfl (e_callp (base_ok a ha) (h := ⟨inferInstance, ?_⟩))
  refine d_x0 rfl (e_callp (meet_ok b (baseL a) round hb (by simp) hz2) (h := ⟨inferInstance, ?_⟩))
  rw [hzz]
  refine d_p rfl p_move ?_
  refine d_p rfl (p_ext rfl rfl) ?_
  refine d_p rfl (p_ext rfl rfl) ?_
  refine d_a rfl fun b9 hb9 => ?_
  refine d_s2 rfl (e_store_all rfl rfl rfl (h := ?_))
  refine d_p rfl p_assign ?_
  refine d_nil (f_next ?_)
  refine c_seq ?_
  generalize x255 a (baseL b) = z
  refine c_seq (c_region ?_)
  refine s_p p_move ?_
  refine s_p (p_eq (p_neq (a := 0) (b := 0)) (v' := .bool false) rfl) ?_
  refine s_p p_move ?_
  refine s_v (v_yg p_move) ?_
  refine s_v (v_yg (p_eq (p_neq (a := 0) (b := 0)) (v' := .bool false) rfl)) ?_
  refine s_p (p_pick_f rfl rfl) ?_
  refine s_p p_move ?_
  refine s_v (v_yg p_field0) ?_
  refine s_v (v_yg (p_load_part rfl meetL_drop)) ?_
  refine s_v (v_yg p_field0) ?_
  refine s_v (v_yg (p_load_part rfl meetL_drop)) ?_
  refine s_v (v_yg (p_eq (p_neqarr (l := meetD z round) (m := meetD z round)) (v' := .bool false) (by simp))) ?_
  refine s_p (p_pick_f rfl rfl) ?_
  refine s_p p_move ?_
  refine s_v (v_yg p_field0) ?_
  refine s_v (v_yg (p_load_part rfl meetL_mine_u)) ?_
  refine s_v (v_yg p_field0) ?_
  refine s_v (v_yg (p_load_part rfl meetL_theirs_u)) ?_
  refine s_v (v_yg (p_eq (p_neqarr (l := meetK z round (baseL a)) (m := meetK z round (baseL a))) (v' := .bool false) (by simp))) ?_
  refine s_p (p_pick_f rfl rfl) ?_
  refine s_p p_move ?_
  refine s_v (v_yg p_field0) ?_
  refine s_v (v_yg (p_load_part rfl meetL_theirs_u)) ?_
  refine s_v (v_yg p_field0) ?_
  refine s_v (v_yg (p_load_part rfl meetL_mine_u)) ?_
  refine s_v (v_yg (p_eq (p_neqarr (l := meetK z round (baseL b)) (m := meetK z round (baseL b))) (v' := .bool false) (by simp))) ?_
  refine s_p (p_pick_f rfl rfl) ?_
  refine s_p p_move ?_
  refine s_xyg (e_callp works21_ok (h := ?_))
  refine s_v (v_yg (p_eq p_not (v' := .bool false) rfl)) ?_
  refine s_p (p_pick_f rfl rfl) ?_
  refine g_nil (f_next ?_)
  refine c_cond_false rfl ?_
  refine c_skip (f_next ?_)
  refine c_seq ?_
  refine c_seq (c_region ?_)
  refine s_p p_field0 ?_
  refine s_p (p_load_one rfl (talkC_size hm)) ?_
  refine s_p (p_eq (p_lss (b := 32)) (v' := .bool false) (by simp; omega)) ?_
  refine s_p p_move ?_
  refine s_v (v_yg p_field0) ?_
  refine s_v (v_yg (p_load_one rfl (talkC_size hm))) ?_
  refine s_v (v_yg (p_eq (p_gtr (b := 512)) (v' := .bool false) (by simp; omega))) ?_
  refine s_p (p_pick_f rfl rfl) ?_
  refine s_p p_move ?_
  refine s_v (v_yg p_field0) ?_
  refine s_v (v_yg (p_load_one rfl (talkC_b hm))) ?_
  refine s_v (v_yg (p_len rfl)) ?_
  refine s_v (v_yg p_field0) ?_
  refine s_v (v_yg (p_load_one rfl (talkC_size hm))) ?_
  refine s_v (v_yg (p_subn (a := size) (b := 18))) ?_
  refine s_v (v_yg (p_eq p_gtr (v' := .bool false) (by simp; omega))) ?_
  refine s_p (p_pick_f rfl rfl) ?_
  refine g_nil (f_next ?_)
  refine c_cond_false rfl ?_
  refine c_skip (f_next ?_)
  refine c_seq (c_run [.r, .p, .r, .p, .r, .p, .r, .x0, .x0, .p, .p, .p, .p, .p] [0, 1, 2, 3, 4, 5, 6, 7, 8, 9, 10, 11, 12, 13] (by kernel_rfl) fun hn7 => ?_)
  refine d_r hn7 rfl (p_load_all rfl) ?_
  refine d_p rfl p_field0 ?_
  refine d_r hn7 rfl (p_load_one rfl (talkC_round hm)) ?_
  refine d_p rfl p_field0 ?_
  refine d_r hn7 rfl (p_load_one rfl (talkC_size hm)) ?_
  refine d_p rfl p_field0 ?_
  refine d_r hn7 rfl (p_load_one rfl (talkC_b hm)) ?_
  refine d_x0 rfl (e_callx (copyb_ok v text.length text (by omega)) (h := fun v93 B93 h93 => ⟨by rw [h93]; infer_instance, ?_⟩))
  obtain rfl := h93
  simp only [List.cons_append, List.nil_append]
  refine d_x0 rfl (e_callx (dbox2_ok size v93 text.length text h32 h512 hs) (h := fun v94 B94 h94 => ⟨by obtain ⟨_, _, h⟩ := h94; rw [h]; infer_instance, ?_⟩))
  obtain ⟨w94, rfl, rfl⟩ := h94
  simp only [List.cons_append, List.nil_append]
  refine d_p rfl p_move ?_
  refine d_p rfl (p_ext rfl rfl) ?_
  refine d_p rfl (p_ext rfl rfl) ?_
  refine d_p rfl p_assign ?_
  refine d_p rfl p_assign ?_
  refine d_nil (f_next ?_)
  refine c_seq (c_run [.r, .p, .r, .p, .r, .p, .r, .x0, .x0, .p, .p, .p, .p, .p] [0, 1, 2, 3, 4, 5, 6, 7, 8, 9, 10, 11, 12, 13] (by kernel_rfl) fun hn8 => ?_)
  refine d_r hn8 rfl (p_load_all rfl) ?_
  refine d_p rfl p_field0 ?_
  refine d_r hn8 rfl (p_load_one rfl (talkC_round hm)) ?_
  refine d_p rfl p_field0 ?_
  refine d_r hn8 rfl (p_load_one rfl (talkC_size hm)) ?_
  refine d_p rfl p_field0 ?_
  refine d_r hn8 rfl (p_load_one rfl (talkC_b hm)) ?_
  refine d_x0 rfl (e_callx (copyb_ok v text.length text (by omega)) (h := fun v105 B105 h105 => ⟨by rw [h105]; infer_instance, ?_⟩))
  obtain rfl := h105
  simp only [List.cons_append, List.nil_append]
  refine d_x0 rfl (e_callx (dbox2_ok size v105 text.length text h32 h512 hs) (h := fun v106 B106 h106 => ⟨by obtain ⟨_, _, h⟩ := h106; rw [h]; infer_instance, ?_⟩))
  obtain ⟨w106, rfl, rfl⟩ := h106
  simp only [List.cons_append, List.nil_append]
  refine d_p rfl p_move ?_
  refine d_p rfl (p_ext rfl rfl) ?_
  refine d_p rfl (p_ext rfl rfl) ?_
  refine d_p rfl p_assign ?_
  refine d_p rfl p_assign ?_
  refine d_nil (f_next ?_)
  refine c_seq ?_
  refine c_seq (c_region ?_)
  refine s_p p_move ?_
  refine s_p (p_eq (p_neq (a := 0) (b := 0)) (v' := .bool false) rfl) ?_
  refine s_p p_move ?_
  refine s_v (v_yg p_move) ?_
  refine s_v (v_yg (p_eq (p_neq (a := 0) (b := 0)) (v' := .bool false) rfl)) ?_
  refine s_p (p_pick_f rfl rfl) ?_
  refine s_p p_move ?_
  refine s_v (v_yg p_move) ?_
  refine s_v (v_yg (p_len rfl)) ?_
  refine s_v (v_yg p_field0) ?_
  refine s_v (v_yg (p_load_one rfl (talkC_size hm))) ?_
  refine s_v (v_yg (p_eq (p_neq (a := size) (b := size)) (v' := .bool false) (by simp))) ?_
  refine s_p (p_pick_f rfl rfl) ?_
  refine s_p p_move ?_
  refine s_v (v_yg p_move) ?_
  refine s_v (v_yg (p_len rfl)) ?_
  refine s_v (v_yg p_field0) ?_
  refine s_v (v_yg (p_load_one rfl (talkC_size hm))) ?_
  refine s_v (v_yg (p_eq (p_neq (a := size) (b := size)) (v' := .bool false) (by simp))) ?_
  refine s_p (p_pick_f rfl rfl) ?_
  refine g_nil (f_next ?_)
  refine c_cond_false rfl ?_
  refine c_skip (f_next ?_)
  refine c_seq (c_region ?_)
  refine s_p (p_load_all rfl) ?_
  refine s_p p_field0 ?_
  refine s_p (p_load_one rfl (talkC_round hm)) ?_
  refine s_p p_move ?_
  refine s_x (e_callx (dunbox2_ok w94 size text h32 h512 hs) (h := fun v134 B134 h134 => ?_))
  obtain ⟨w134, rfl, rfl⟩ := h134
  simp only [List.cons_append, List.nil_append]
  refine s_p p_move ?_
  refine s_p (p_ext rfl rfl) ?_
  refine s_p (p_ext rfl rfl) ?_
  refine s_p p_assign ?_
  refine s_p p_assign ?_
  refine g_nil (f_next ?_)
  refine c_seq (c_region ?_)
  refine s_p (p_load_all rfl) ?_
  refine s_p p_field0 ?_
  refine s_p (p_load_one rfl (talkC_round hm)) ?_
  refine s_p p_move ?_
  refine s_x (e_callx (dunbox2_ok w106 size text h32 h512 hs) (h := fun v142 B142 h142 => ?_))
  obtain ⟨w142, rfl, rfl⟩ := h142
  simp only [List.cons_append, List.nil_append]
  refine s_p p_move ?_
  refine s_p (p_ext rfl rfl) ?_
  refine s_p (p_ext rfl rfl) ?_
  refine s_p p_assign ?_
  refine s_p p_assign ?_
  refine g_nil (f_next ?_)
  refine c_seq (c_region ?_)
  refine s_p p_move ?_
  refine s_p (p_eq (p_eql (a := 0) (b := 0)) (v' := .bool true) rfl) ?_
  refine s_p p_move ?_
  refine s_v (v_yg p_move) ?_
  refine s_v (v_yg (p_eq (p_eql (a := 0) (b := 0)) (v' := .bool true) rfl)) ?_
  refine s_p (p_pick_t rfl rfl) ?_
  refine s_p p_move ?_
  refine s_v (v_yg p_move) ?_
  refine s_v (v_yg p_field0) ?_
  refine s_v (v_yg (p_load_one rfl (talkC_b hm))) ?_
  refine s_xyg (e_callp (eqb_ok w134 v text.length text (by omega)) (h := ?_))
  refine s_p (p_pick_t rfl rfl) ?_
  refine s_p p_move ?_
  refine s_v (v_yg p_move) ?_
  refine s_v (v_yg p_field0) ?_
  refine s_v (v_yg (p_load_one rfl (talkC_b hm))) ?_
  refine s_xyg (e_callp (eqb_ok w142 v text.length text (by omega)) (h := ?_))
  refine s_p (p_pick_t rfl rfl) ?_
  refine s_p p_assign ?_
  refine g_nil (f_next ?_)
  refine c_ret ?_
  exact f_r1 (Or.inl rfl) Tryd.results4 ⟨rfl, rfl⟩

end Go.Tw
end

section
namespace Go.Tw
set_option maxRecDepth 100000
open Go Go.Proofs Go.Proofs.YtbfebdaghcogfaaDoor Go.ChangeShapes Go.WideShapes Go.ChangeAt Go.RowKit

theorem cut2 {α : Type} {cs : List α} {a b : Nat} {x y : List α} (hx : (cs.drop 0).take a = x) (hy : (cs.drop a).take b = y) (hl : cs.length = a + b) : cs = x ++ y := by
  rw [List.drop_zero] at hx
  rw [List.take_of_length_le (by simp; omega)] at hy
  rw [← hx, ← hy, List.take_append_drop]
theorem cells40 : Tryd.prog.cellsOf 40 = 80 := by kernel_rfl
theorem cells38 : Tryd.prog.cellsOf 38 = 16 := by kernel_rfl
theorem cells23 : Tryd.prog.cellsOf 23 = 32 := by kernel_rfl
theorem cells24 : Tryd.prog.cellsOf 24 = 1 := by kernel_rfl
theorem cells3 : Tryd.prog.cellsOf 3 = 1 := by kernel_rfl
theorem cells28 : Tryd.prog.cellsOf 28 = 1 := by kernel_rfl
theorem cells42 : Tryd.prog.cellsOf 42 = 83 := by kernel_rfl

/-- A meeting's cells. -/
theorem trod_meeting {H : Type} {enc : TypeId × Value → H} {w : World} {base : Nat} {sp : Nat → Bool} {held : Bool} {fuel : Nat} {cs : List Value} {x : DataW H × List MemPlace} (h : DataW.trod enc Tryd.prog w base sp held fuel 40 cs = some x) :
    ∃ m : List Nat, cs = us .u8 m ∧ m.length = 80 ∧ Us .u8 m := by
  obtain ⟨fuel, hl, hf⟩ := trod_fields Tryd.underlying40 h
  simp only [List.mem_cons, List.not_mem_nil, or_false, forall_eq_or_imp, forall_eq, cells38, cells23] at hf
  obtain ⟨⟨y1, f1⟩, ⟨y2, f2⟩, ⟨y3, f3⟩⟩ := hf
  obtain ⟨p, e1, l1, u1⟩ := trod_row Tryd.underlying38 Tryd.underlying5 rfl (by kernel_rfl) (by kernel_rfl) f1
  obtain ⟨q, e2, l2, u2⟩ := trod_row Tryd.underlying23 Tryd.underlying5 rfl (by kernel_rfl) (by kernel_rfl) f2
  obtain ⟨r, e3, l3, u3⟩ := trod_row Tryd.underlying23 Tryd.underlying5 rfl (by kernel_rfl) (by kernel_rfl) f3
  rw [cells40] at hl
  refine ⟨p ++ (q ++ r), ?_, by simp [l1, l2, l3], inferInstance⟩
  rw [← us_append, ← us_append]
  have h2 : (cs.drop 16).length = 32 + 32 := by simp [hl]
  have e4 : cs.drop 16 = us .u8 q ++ us .u8 r := cut2 (a := 32) (b := 32) (by rw [List.drop_zero]; exact e2) (by rw [List.drop_drop]; exact e3) h2
  rw [← e4, ← e1, List.drop_zero, List.take_append_drop]

theorem arg_talk {H : Type} {enc : TypeId × Value → H} {w : World} {base b0 : Nat} {sp : Nat → Bool} {held : Bool} {r : Reach} {v : Value} {d : DataW H} {ps : List MemPlace}
    (hv : Value.okWide Tryd.prog w r b0 42 v) (h : DataW.Trod enc Tryd.prog w base sp held 42 v d ps) : ∃ (m : List Nat) (round : Nat) (size : Int) (u : Value) (n : Nat) (text : List Nat), v = .agg (talkC m round size u).toArray ∧ m.length = 80 ∧ Fits round .u64 ∧ (Lit.int .i64 size).wf = true ∧ Us .u8 text ∧
      SlR w u 1 n (us .u8 text) ∧ ∀ b, n ≠ 0 → u.ownBlock = some b → b < w.heap.size := by
  obtain ⟨cs, rfl⟩ := okWide_str Tryd.underlying42 hv
  obtain ⟨fuel, h⟩ := h
  obtain ⟨fuel, hl, hf⟩ := trod_fields Tryd.underlying42 h
  simp only [List.mem_cons, List.not_mem_nil, or_false, forall_eq_or_imp, forall_eq, cells40, cells24, cells3, cells28] at hf
  obtain ⟨⟨y1, f1⟩, ⟨y2, f2⟩, ⟨y3, f3⟩, ⟨y4, f4⟩⟩ := hf
  obtain ⟨m, e1, l1, _⟩ := trod_meeting f1
  obtain ⟨z, e2, _, wz⟩ := DataW.trod_int Tryd.underlying24 f2
  obtain ⟨round, rfl, hr⟩ := wf_un rfl wz
  obtain ⟨size, e3, _, ws⟩ := DataW.trod_int Tryd.underlying3 f3
  obtain ⟨u, n, text, e4, hs, hu, _, hb⟩ := trod_bytes Tryd.underlying28 Tryd.underlying5 rfl (by kernel_rfl) f4
  refine ⟨m, round, size, u, n, text, ?_, l1, ⟨hr⟩, ws, hu, hs, hb⟩
  have := cut3 (a := 80) (b := 1) (c := 1) e1 e2 e3 e4 (by rw [hl, cells42])
  show Value.agg cs = _
  rw [talkC, show ([.int .u64 (round : Int), .int .i64 size, u] : List Value) = [.int .u64 (round : Int)] ++ ([.int .i64 size] ++ [u]) from rfl, ← this]
  rfl

theorem dropMeets_ok (a b m : List Nat) (round : Nat) (size : Int) (v : Value) (n : Nat) (text : List Nat) [hau : Us .u8 a] [hbu : Us .u8 b] [hru : Fits round .u64] [htu : Us .u8 text] (ha : a.length = 32) (hb : b.length = 32) (hm : m.length = 80) (hs : (Lit.int .i64 size).wf = true) :
    Fn Tryd.prog 4 [.agg (us .u8 a).toArray, .agg (us .u8 b).toArray, .agg (talkC m round size v).toArray] [] [rdF v 1 n (us .u8 text), glH, glK] (fun u B' => u = .bool true ∧ B' = []) := by
  by_cases h1 : size < 32
  · exact dropMeets_low a b m round size v n text ha hb hm h1
  · obtain ⟨k, rfl⟩ : ∃ k : Nat, size = (k : Int) := ⟨size.toNat, by omega⟩
    by_cases h2 : k ≤ 512
    · by_cases h3 : n + 18 ≤ k
      · exact dropMeets_good a b m round k v n text ha hb hm (by omega) h2 h3
      · exact dropMeets_long a b m round k v n text ha hb hm (by omega) h2 (by omega)
    · exact dropMeets_high a b m round k v n text ha hb hm (by omega)

/-- A Talk: nothing but noughts. -/
def zTalk : Value := .agg (talkC (List.replicate 80 0) 0 0 (.slice none 0 0)).toArray
def zTalkD {H : Type} : DataW H := .agg [.agg [.agg (List.replicate 16 (.lit (.int .u8 0))), zKeyD, zKeyD], .lit (.int .u64 0), .lit (.int .i64 0), .nil]

theorem dropMeets_contract (H : Type) (enc : TypeId × Value → H) (W : World) (base : Nat) (args : Array Value) (ds gs : List (DataW H)) (before : List MemPlace)
    (hval : ∀ (j : Nat) t v, Tryd.f4.params[j]? = some t → args[j]? = some v → Value.okWide Tryd.prog W .any base t v)
    (hW : DataW.Whole enc Tryd.prog Tryd.f4.params.toList Rows.dropMeetsSpec.vars false W args.toList ds gs before) (hL : laidMetH Tryd.prog laidL W) (hS : W.ShapedOpen Tryd.prog) :
    Calls Tryd.prog 4 args W fun e W' => ∃ v, e = .returned v ∧ Rows.dropMeetsSpec.post enc Tryd.prog Tryd.f4 false true false false W args v W' := by
  have hW' := hW
  obtain ⟨p, q, hA, hV, rfl, _, _⟩ := hW
  rw [Tryd.params4] at hA hval
  obtain ⟨v0, vs0, d0, ds0, p0, q0, hargs, rfl, rfl, h0, r0⟩ := trodAll_cons hA
  obtain ⟨v1, vs1, d1, ds1, p1, q1, rfl, rfl, rfl, h1, r1⟩ := trodAll_cons r0
  obtain ⟨v2, vs2, d2, ds2, p2, q2, rfl, rfl, rfl, h2, r2⟩ := trodAll_cons r1
  obtain ⟨rfl, rfl, rfl⟩ := trodAll_nil r2
  obtain rfl : args = #[v0, v1, v2] := by cases args; simp_all
  obtain ⟨rfl, rfl⟩ := trodVars_none hV
  obtain ⟨a, rfl, ha, hau⟩ := arg_key (hval 0 23 v0 rfl rfl) h0
  obtain ⟨b, rfl, hb, hbu⟩ := arg_key (hval 1 23 v1 rfl rfl) h1
  obtain ⟨m, round, size, u, n, text, rfl, hm, hru, hws, htu, hsl, hbk⟩ := arg_talk (hval 2 42 v2 rfl rfl) h2
  refine (dropMeets_ok a b m round size u n text ha hb hm hws W (has_nil W) (reads3 hsl hbk (reads_laid hL hS))).mono fun e W' ⟨v, B', he, ⟨hv, hB⟩, _, st⟩ => ?_
  subst hv
  exact ⟨_, he, post_true kids full rfl (by kernel_rfl) (fun t ht => by rw [Tryd.params4] at ht; revert t; decide +kernel) rfl hW' rfl st⟩

theorem dropMeets_plain (f : FuncId) (fn : Func) (hf : Tryd.pinned.checked.prog.funcNamed "tryst/trystlaw21.DropMeets" = some f) (hfn : Tryd.pinned.checked.prog.funcs[f]? = some fn) :
    false = Tryd.pinned.checked.prog.looks [] ∧ ∀ (j : Nat) t, fn.params[j]? = some t → Tryd.pinned.checked.prog.wantsStandIn t = false := by
  obtain rfl : f = 4 := Option.some.inj ((show Tryd.prog.funcNamed "tryst/trystlaw21.DropMeets" = some 4 by kernel_rfl).symm.trans hf) |>.symm
  obtain rfl : fn = Tryd.f4 := (Option.some.inj (Tryd.func4.symm.trans hfn)).symm
  refine ⟨by kernel_rfl, fun j t ht => ?_⟩
  have hm : t ∈ Tryd.f4.params.toList := by simpa using Array.mem_of_getElem? ht
  have : (Tryd.f4.params.toList.all fun t => Tryd.prog.wantsStandIn t == false) = true := by kernel_rfl
  exact eq_of_beq (List.all_eq_true.1 this t hm)

theorem dropMeets_met (os : Os) : laidMet Tryd.prog Rows.dropMeetsRow.laid ((laidWorld os).forCall (fun _ _ => 0) ⟨#[], #[zKey, zKey, zTalk], []⟩).memory :=
  laidMet_of_run' 8 (by kernel_rfl) (by kernel_rfl)
theorem dropMeets_reads (os : Os) {H : Type} (enc : TypeId × Value → H) : ∃ places, DataW.whole enc Tryd.prog ((laidWorld os).forCall (fun _ _ => 0) ⟨#[], #[zKey, zKey, zTalk], []⟩).memory Tryd.f4.params.toList Rows.dropMeetsSpec.vars false #[zKey, zKey, zTalk].toList 8 = some ([zKeyD, zKeyD, zTalkD], [], places) :=
  ⟨[], by kernel_rfl⟩
theorem dropMeets_lifted (os : Os) (started : os.Started) (H : Type) (enc : TypeId × Value → H) (F : Stop.Interp) :
    ReturnsInHanded {} Tryd.checked os 4 .any ((OpenSpec.ofChange Rows.dropMeetsSpec).preRow enc Tryd.prog Tryd.f4 Rows.dropMeetsRow.domain false Rows.dropMeetsRow.laid) (((OpenSpec.ofChange Rows.dropMeetsSpec).at F).post enc Tryd.prog Tryd.f4 false true false false) := by
  obtain ⟨places, hx⟩ := dropMeets_reads os enc
  refine returnsInHanded_of_row (C := Tryd.checked) (s := OpenSpec.ofChange Rows.dropMeetsSpec) own started (by kernel_rfl) Tryd.func4
    (witness_row_at (enc := enc) (C := Tryd.checked) false (laidWorld os) #[zKey, zKey, zTalk] rfl (by kernel_rfl) (by kernel_rfl) (by kernel_rfl)
      (OpenSpec.preRow_of_cond 8 hx (by kernel_rfl) (fun k hk => by cases hk) (by kernel_rfl) (dropMeets_met os))) ?_
  intro W base args ds gs before hval hW _ _ _ hL hS _
  exact dropMeets_contract H enc W base args ds gs before hval hW hL hS
theorem dropMeets_said : Rows.DropMeetsSaid :=
  OpenClaim.holds_of_cond 4 Tryd.f4 rfl rfl rfl rfl rfl rfl rfl ⟨rfl, rfl, rfl, rfl, rfl⟩ rfl rfl rfl rfl rfl (by kernel_rfl) Tryd.func4 (by kernel_rfl)
    (of_decide_eq_true (by kernel_rfl)) (by unfold Func.isWrapper; first | (rw [if_pos (by decide +kernel)]; kernel_rfl) | (rw [if_neg (by decide +kernel)]; exact ⟨rfl, rfl⟩))
    (fun os started H enc _ F => by rw [OpenClaim.pre_eq_preRow]; exact dropMeets_lifted os started H enc F)
theorem dropMeets_card : Rows.DropMeetsCardSaid :=
  Claim7.holds_tied_plain_at .later [] _ _ _ _ dropMeets_said (fun _ h => by cases h) (by kernel_rfl) (fun _ h => by cases h) dropMeets_row_tie rfl ⟨rfl, rfl⟩ (by kernel_rfl) rfl dropMeets_plain (by kernel_rfl)
end Go.Tw
namespace Go.Proofs.YtbfebdaghcogfaaDoor
theorem dropMeets_holds : Rows.DropMeetsCardSaid := Go.Tw.dropMeets_card
end Go.Proofs.YtbfebdaghcogfaaDoor
end

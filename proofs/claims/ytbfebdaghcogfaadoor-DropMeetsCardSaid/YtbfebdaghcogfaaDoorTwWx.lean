/- Walks through functions that the statement reaches: what each computes. -/
import Derived.Test.YtbfebdaghcogfaaDoorTwWs
import Derived.Test.YtbfebdaghcogfaaDoorTwMore
section
namespace Go.Tw
open Go Go.Proofs

theorem cat_us {ps : Parts} (h : ∀ q, q ∈ ps → Us .u8 q.2.2) : Us .u8 (cat ps) := ⟨fun x hx => by
  obtain ⟨q, hq, hxq⟩ := List.mem_flatMap.1 hx
  exact (h q hq).lt x hxq⟩

theorem djoin_ok (v : Value) (n : Nat) (ps : Parts) (hus : ∀ q, q ∈ ps → Us .u8 q.2.2) (hlen : (cat ps).length ≤ 1073741824) (hn : n ≤ 1048576) : Fn Tryd.prog 47 [v] [] (rdF v 1 n (ps.map (·.1)) :: partF ps) (fun u B' => B' = [.sl u 5 1 (cat ps).length (us .u8 (cat ps))]) := by
  refine fn_enter Tryd.func47 rfl Tryd.ntmps47 rfl fun w => ?_
  refine c_fact (p := ps.length = n ∧ ∀ q, q ∈ ps → q.2.2.length = q.2.1) (fun _ _ s => ⟨by simpa using (s.read (f := rdF v 1 n (ps.map (·.1))) (by simp)).1, fun q hq => by simpa using (s.read (f := rdF q.1 1 q.2.1 (us .u8 q.2.2)) (by simp only [List.mem_cons]; exact Or.inr (List.mem_map.2 ⟨q, hq, rfl⟩))).1⟩) fun hl => ?_
  obtain ⟨hl, hq⟩ := hl
  refine c_seq (c_region ?_)
  refine s_p p_assign ?_
  refine g_nil (f_next ?_)
  refine c_seq (c_region ?_)
  refine s_p p_assign ?_
  refine g_nil (f_next ?_)
  refine c_seq ?_
  refine c_seq (c_region ?_)
  refine s_p p_move ?_
  refine s_p (p_len rfl) ?_
  refine s_p (p_move (v := .int .i64 ((0 : Nat) : Int))) ?_
  refine g_cv (Cv.nil (T := 5) (s := 1)) ?_
  refine g_own (B2 := [.sl (.slice none 0 0) 5 1 (cat (ps.take 0)).length (us .u8 (cat (ps.take 0)))]) (by simp [cat, us]) ?_
  refine g_nil (f_next ?_)
  refine c_block ?_
  refine c_lp (X := Value × Nat) (fun x => n - x.2) (fun c x => x.2 ≤ n) (fun x => [(3, x.1), (8, .int .i64 (x.2 : Int))]) [(6, _), (7, _)] (fun x => [.sl x.1 5 1 (cat (ps.take x.2)).length (us .u8 (cat (ps.take x.2)))]) (.slice none 0 0, 0) (Nat.zero_le _) ⟨rfl, rfl, trivial⟩ (hr := fun x hx => ?_)
  refine c_seq (c_region ?_)
  refine s_p p_lss ?_
  refine g_nil (f_next ?_)
  refine c_seq ?_
  refine c_cond_dec rfl (fun h9 => ?_) (fun h9 => ?_)
  · skip
    obtain ⟨q, hxq⟩ : ∃ q, ps[x.2]? = some q := ⟨_, List.getElem?_eq_getElem (by omega)⟩
    haveI := part_inR hxq (R := (rdF v 1 n (ps.map (·.1)) :: partF ps)) (fun f hf => by simp only [List.mem_cons]; exact Or.inr hf)
    haveI := hus q (List.mem_of_getElem? hxq)
    have hql := hq q (List.mem_of_getElem? hxq)
    have hcs := cat_succ hxq
    have hcl := cat_le ps (x.2 + 1)
    rw [hcs, List.length_append] at hcl
    refine c_skip (f_next ?_)
    refine c_seq ?_
    refine c_block ?_
    refine c_seq (c_region ?_)
    refine s_p (p_ix_sl1 rfl rfl) ?_
    refine s_p (p_load_sl rfl (by rw [List.getElem?_map, hxq]; rfl)) ?_
    refine s_p p_assign ?_
    refine g_nil (f_next ?_)
    refine c_region ?_
    refine s_p p_move ?_
    refine s_p p_move ?_
    refine s_x (e_app rfl rfl (n' := (cat (ps.take (x.2 + 1))).length) (l' := cat (ps.take (x.2 + 1))) (by omega) (by omega) (h := fun v14 => ?_) (by rw [hcs, List.length_append, hql]) (hcs.symm))
    refine s_p p_assign ?_
    refine g_nil (f_block_normal (f_next ?_))
    refine c_region ?_
    refine s_p (p_addn (b := 1)) ?_
    refine s_p p_move ?_
    refine g_nil ?_
    exact f_rd (v14, x.2 + 1) (by show x.2 + 1 ≤ n; omega) (by show n - (x.2 + 1) < n - x.2; omega)
  refine c_exit (f_pass_exit (f_pass_exit (f_block_exit (f_next ?_))))
  have e0 : ps.take x.2 = ps := List.take_of_length_le (by omega)
  rw [e0]
  refine c_seq (c_region ?_)
  refine s_p p_move ?_
  refine s_p p_assign ?_
  refine g_nil (f_next ?_)
  refine c_ret ?_
  exact f_r1 (Or.inl rfl) Tryd.results47 rfl

theorem le8_ok (X : Nat) [hx : Fits X .u64] : Fn Tryd.prog 42 [.int .u64 (X : Int)] [] [] (fun u B' => B' = [.sl u 5 1 8 (us .u8 (leB 8 X))]) := by
  refine fn_enter Tryd.func42 rfl Tryd.ntmps42 rfl fun w => ?_
  refine c_seq (c_region ?_)
  refine s_p p_assign ?_
  refine g_nil (f_next ?_)
  refine c_seq (c_region ?_)
  refine s_p p_move ?_
  refine s_x (e_callx (put64_ok (.slice none 0 0) 0 [] X (by omega)) (h := fun v4 B4 h4 => ?_))
  obtain rfl := h4
  simp only [List.cons_append, List.nil_append, Nat.zero_add]
  refine s_p p_assign ?_
  refine g_nil (f_next ?_)
  refine c_ret ?_
  exact f_r1 (Or.inl rfl) Tryd.results42 rfl

theorem sized_ok (n : Nat) (h32 : 32 ≤ n) (h512 : n ≤ 512) : Fn Tryd.prog 45 [.int .i64 (n : Int)] [] [] (fun u B' => u = .bool true ∧ B' = []) := by
  refine fn_enter Tryd.func45 rfl Tryd.ntmps45 rfl fun w => ?_
  refine c_seq (c_region ?_)
  refine s_p p_assign ?_
  refine g_nil (f_next ?_)
  refine c_seq (c_region ?_)
  refine s_p p_move ?_
  refine s_p (p_eq (p_geq (b := 32)) (v' := .bool true) (by simp; omega)) ?_
  refine s_p p_move ?_
  refine s_v (v_yg p_move) ?_
  refine s_v (v_yg (p_eq (p_leq (b := 512)) (v' := .bool true) (by simp; omega))) ?_
  refine s_p (p_pick_t rfl rfl) ?_
  refine s_p p_assign ?_
  refine g_nil (f_next ?_)
  refine c_ret ?_
  exact f_r1 (Or.inl rfl) Tryd.results45 ⟨rfl, rfl⟩

theorem room_ok (n : Nat) (h32 : 32 ≤ n) (h512 : n ≤ 512) : Fn Tryd.prog 44 [.int .i64 (n : Int)] [] [] (fun u B' => u = .int .i64 ((n - 18 : Nat) : Int) ∧ B' = []) := by
  refine fn_enter Tryd.func44 rfl Tryd.ntmps44 rfl fun w => ?_
  refine c_seq (c_region ?_)
  refine s_p (p_assign (v := .int .i64 ((0 : Nat) : Int))) ?_
  refine g_nil (f_next ?_)
  refine c_seq ?_
  refine c_seq (c_region ?_)
  refine s_p p_move ?_
  refine s_x (e_callp (sized_ok n h32 h512) (h := ?_))
  refine s_p (p_eq p_not (v' := .bool false) rfl) ?_
  refine g_nil (f_next ?_)
  refine c_cond_false rfl ?_
  refine c_skip (f_next ?_)
  refine c_seq (c_region ?_)
  refine s_p p_move ?_
  refine s_p (p_subn (a := n) (b := 16)) ?_
  refine s_p (p_eq (p_subn (a := n - 16) (b := 2)) (v' := .int .i64 ((n - 18 : Nat) : Int)) (by rw [Nat.sub_sub])) ?_
  refine s_p p_assign ?_
  refine g_nil (f_next ?_)
  refine c_ret ?_
  exact f_r1 (Or.inl rfl) Tryd.results44 ⟨rfl, rfl⟩

theorem dexpand_ok (prk : List Nat) (m : Nat) (v : Value) (n : Nat) (ps : Parts) [hpu : Us .u8 prk] (hus : ∀ q, q ∈ ps → Us .u8 q.2.2) (hp : prk.length = 32) (hlen : (cat ps).length ≤ 1073741) (hn : n ≤ 1048576) (hm : m ≤ 8160) : Fn Tryd.prog 43 [.agg (us .u8 prk).toArray, .int .i64 (m : Int), v] [] (rdF v 1 n (ps.map (·.1)) :: glH :: glK :: partF ps) (fun u B' => B' = [.sl u 5 1 m (us .u8 (hkdf prk (cat ps) m))]) := by
  refine fn_enter Tryd.func43 rfl Tryd.ntmps43 rfl fun w => ?_
  haveI hcu : Us .u8 (cat ps) := cat_us hus
  refine c_seq (c_region ?_)
  refine s_x (e_box rfl rfl fun b3 => ?_)
  refine s_p p_assign ?_
  refine g_nil (f_next ?_)
  refine c_seq (c_run [.r, .p, .x0, .p, .x0, .p, .p, .p, .p, .p] [0, 1, 3, 2, 4, 5, 6, 7, 8, 9] (by kernel_rfl) fun hn1 => ?_)
  refine d_r hn1 rfl (p_load_all rfl) ?_
  refine d_p rfl p_move ?_
  refine d_p rfl p_move ?_
  refine d_x0 rfl (e_callx (djoin_ok v n ps hus (by omega) hn) (hR := RdAll.ofR (fun f hf => by simp only [List.mem_cons] at hf ⊢; rcases hf with hf | hf; exact Or.inl hf; exact Or.inr (Or.inr (Or.inr hf)))) (h := fun v12 B12 h12 => ⟨by rw [h12]; infer_instance, ?_⟩))
  obtain rfl := h12
  simp only [List.cons_append, List.nil_append]
  refine d_x0 rfl (e_callx (expand_ok prk v12 (cat ps).length (cat ps) m hp (by omega) hm) (h := fun v14 B14 h14 => ⟨by obtain ⟨_, _, h⟩ := h14; rw [h]; infer_instance, ?_⟩))
  obtain ⟨w14, rfl, rfl⟩ := h14
  simp only [List.cons_append, List.nil_append]
  refine d_p rfl p_move ?_
  refine d_p rfl (p_ext rfl rfl) ?_
  refine d_p rfl (p_ext rfl rfl) ?_
  refine d_p rfl p_assign ?_
  refine d_p rfl p_assign ?_
  refine d_nil (f_next ?_)
  refine c_seq (c_region ?_)
  refine s_p p_move ?_
  refine s_p p_assign ?_
  refine g_nil (f_next ?_)
  refine c_ret ?_
  exact f_r1 (Or.inl rfl) Tryd.results43 rfl

end Go.Tw
end

section
namespace Go.Tw
open Go Go.Proofs

def dropTag : List Nat := [116, 114, 121, 115, 116, 32, 100, 114, 111, 112]
def talkTag : List Nat := [116, 97, 108, 107]
def dropW : List Nat := [100, 114, 111, 112]
instance : Us .u8 dropTag := ⟨by decide⟩
instance : Us .u8 talkTag := ⟨by decide⟩
instance : Us .u8 dropW := ⟨by decide⟩
@[simp] theorem dropTag_length : dropTag.length = 10 := rfl
@[simp] theorem talkTag_length : talkTag.length = 4 := rfl
@[simp] theorem dropW_length : dropW.length = 4 := rfl
/-- A meeting's three parts. -/
def meetD (z : List Nat) (round : Nat) : List Nat := hkdf (hmac dropTag z) (dropW ++ leB 8 round) 16
def meetK (z : List Nat) (round : Nat) (pub : List Nat) : List Nat := hkdf (hmac dropTag z) (talkTag ++ (leB 8 round ++ pub)) 32
def meetL (z : List Nat) (round : Nat) (mine theirs : List Nat) : List Nat := meetD z round ++ (meetK z round mine ++ meetK z round theirs)
@[simp] theorem meetD_length (z : List Nat) (round : Nat) : (meetD z round).length = 16 := hkdf_length _ _ _
@[simp] theorem meetK_length (z : List Nat) (round : Nat) (p : List Nat) : (meetK z round p).length = 32 := hkdf_length _ _ _
@[simp] theorem meetL_length (z : List Nat) (round : Nat) (m t : List Nat) : (meetL z round m t).length = 80 := by simp [meetL]
instance {z : List Nat} {round : Nat} : Us .u8 (meetD z round) := by unfold meetD; infer_instance
instance {z p : List Nat} {round : Nat} : Us .u8 (meetK z round p) := by unfold meetK; infer_instance
instance {z m t : List Nat} {round : Nat} : Us .u8 (meetL z round m t) := by unfold meetL; infer_instance

theorem meet_ok (own other : List Nat) (round : Nat) [hou : Us .u8 own] [hpu : Us .u8 other] [hru : Fits round .u64] (ho : own.length = 32) (hp : other.length = 32) (hz : x255 own other ≠ List.replicate 32 0) : Fn Tryd.prog 12 [.agg (us .u8 own).toArray, .agg (us .u8 other).toArray, .int .u64 (round : Int)] [] [glH, glK] (fun u B' => u = .tuple #[.agg (us .u8 (meetL (x255 own other) round (baseL own) other)).toArray, .int .i64 0] ∧ B' = []) := by
  refine fn_enterB Tryd.func12 rfl Tryd.ntmps12 rfl fun w => ?_
  obtain ⟨z, hzz⟩ : ∃ z, x255 own other = z := ⟨_, rfl⟩
  haveI hzu : Us .u8 z := by rw [← hzz]; infer_instance
  have hzl : z.length = 32 := by rw [← hzz]; simp
  haveI : Ok (z.length = 32 ∧ 32 ≤ 32) := ⟨hzl, by omega⟩
  haveI : Ok (other.length = 32 ∧ 32 ≤ 32) := ⟨hp, by omega⟩
  rw [hzz] at hz ⊢
  refine c_seq (c_region ?_)
  refine s_x (e_box rfl rfl fun b3 => ?_)
  refine s_x (e_box rfl rfl fun b4 => ?_)
  refine s_x (e_alloc fun b6 => ?_)
  refine s_p (p_assign (v := .int .i64 ((0 : Nat) : Int))) ?_
  refine g_nil (f_next ?_)
  refine c_seq (c_region ?_)
  refine s_p (p_load_all rfl) ?_
  refine s_p (p_load_all rfl) ?_
  refine s_x (e_callp (agree_ok own other ho hp) (h := ?_))
  rw [hzz]
  refine s_p p_move ?_
  refine s_p (p_ext rfl rfl) ?_
  refine s_p (p_ext rfl rfl) ?_
  refine s_x (e_alloc fun b8 => ?_)
  refine s_x0 (e_store_all rfl rfl rfl (h := ?_))
  refine s_p p_assign ?_
  refine g_nil (f_next ?_)
  refine c_seq (c_region ?_)
  refine s_p (p_slice_arr_all rfl) ?_
  refine s_dfr (h := ?_)
  refine g_nil (f_next ?_)
  refine c_seq ?_
  refine c_seq (c_region ?_)
  refine s_p p_move ?_
  refine s_p (p_eql (b := 0)) ?_
  refine g_nil (f_next ?_)
  refine c_cond_no rfl (fun h => hz (strong_zero.1 h)) ?_
  refine c_skip (f_next ?_)
  refine c_seq (c_region ?_)
  refine s_x (e_bsl (cells := us .u8 dropTag) (hp := rfl) (hf := by rfl) (h := fun v24 n24 => ?_))
  refine g_open (v := v24) n24 (fun g24 cap24 rest24 hv24 hc24 hcap24 hx24 hr24 => ?_)
  subst hv24
  refine s_x (e_convb (h := ?_))
  refine s_p (p_slice_arr_all rfl) ?_
  haveI : Ok (dropTag.length = 10 ∧ 10 ≤ cap24) := ⟨rfl, hc24⟩
  refine s_x (e_callp (extract_ok (.slice (some ⟨g24, 0, none⟩) 10 cap24) 10 dropTag (.slice (some ⟨b8, 0, none⟩) 32 32) 32 z (by omega) (by omega)) (h := ?_))
  refine s_x (e_alloc fun b10 => ?_)
  refine s_x0 (e_store_all rfl rfl rfl (h := ?_))
  refine g_nil (f_next ?_)
  refine c_seq (c_region ?_)
  refine s_p (p_slice_arr_all rfl) ?_
  refine s_dfr (h := ?_)
  refine g_nil (f_next ?_)
  refine c_seq (c_region ?_)
  refine s_p (p_load_all rfl) ?_
  refine s_x (e_callp (base_ok own ho) (h := ?_))
  refine s_x (e_alloc fun b11 => ?_)
  refine s_x0 (e_store_all rfl rfl rfl (h := ?_))
  refine g_nil (f_next ?_)
  refine c_seq (c_region ?_)
  refine s_p p_move ?_
  refine s_x (e_callx ((le8_ok round).opened (by decide)) (h := fun v32 B32 h32 => ?_))
  obtain ⟨g32, cap32, rest32, rfl, hc32, hl32, hr32, rfl⟩ := h32
  simp only [List.cons_append, List.nil_append]
  refine s_p p_assign ?_
  refine g_nil (f_next ?_)
  refine c_seq (c_region ?_)
  refine s_x (e_bsl (cells := us .u8 talkTag) (hp := rfl) (hf := by rfl) (h := fun v33 n33 => ?_))
  refine g_open (v := v33) n33 (fun g33 cap33 rest33 hv33 hc33 hcap33 hx33 hr33 => ?_)
  subst hv33
  refine s_x (e_convb (h := ?_))
  refine s_p p_assign ?_
  refine g_nil (f_next ?_)
  haveI : Ok (talkTag.length = 4 ∧ 4 ≤ cap33) := ⟨rfl, hc33⟩
  haveI : Ok ((leB 8 round).length = 8 ∧ 8 ≤ cap32) := ⟨by simp, hc32⟩
  haveI : Ok ((baseL own).length = 32 ∧ 32 ≤ 32) := ⟨by simp, by omega⟩
  refine c_seq (c_runm [.r, .mks [] [] 5 4 (us .u8 dropW), .eff 3, .p, .eff 4, .eff 4, .fln, .fln, .r, .p, .p, .p, .mks [(44, .slice (some ⟨g33, 0, none⟩) 4 cap33), (45, .slice (some ⟨g32, 0, none⟩) 8 cap32), (46, .slice (some ⟨b11, 0, none⟩) 32 32)] [] 28 3 [.slice (some ⟨g33, 0, none⟩) 4 cap33, .slice (some ⟨g32, 0, none⟩) 8 cap32, .slice (some ⟨b11, 0, none⟩) 32 32], .eff 4, .fln, .fln, .r, .p, .p, .p, .mks [(52, .slice (some ⟨g33, 0, none⟩) 4 cap33), (53, .slice (some ⟨g32, 0, none⟩) 8 cap32), (54, .slice (some ⟨b4, 0, none⟩) 32 32)] [] 28 3 [.slice (some ⟨g33, 0, none⟩) 4 cap33, .slice (some ⟨g32, 0, none⟩) 8 cap32, .slice (some ⟨b4, 0, none⟩) 32 32], .eff 4, .fln, .fln, .eff 5, .p, .eff 5, .p, .eff 5, .p, .eff 5, .p] [0, 3, 8, 9, 10, 11, 16, 17, 18, 19, 1, 2, 4, 5, 6, 7, 12, 13, 14, 15, 20, 21, 22, 23, 24, 25, 26, 27, 28, 29, 30, 31] (by kernel_rfl) (MkSaid.ofL ⟨mk_of (e_bsl (cells := us .u8 dropW) (hp := rfl) (hf := by rfl) (h := fun v h => rfl)), mk_of (e_bsl (hp := rfl) (hf := by rfl) (h := fun v h => rfl)), mk_of (e_bsl (hp := rfl) (hf := by rfl) (h := fun v h => rfl)), trivial⟩) fun hm10 hn10 => ?_)
  refine d_r hn10 rfl (p_load_all rfl) ?_
  refine d_p rfl p_move ?_
  refine d_r hn10 rfl (p_load_all rfl) ?_
  refine d_p rfl p_move ?_
  refine d_p rfl p_move ?_
  refine d_p rfl (p_slice_arr_all rfl) ?_
  refine d_r hn10 rfl (p_load_all rfl) ?_
  refine d_p rfl p_move ?_
  refine d_p rfl p_move ?_
  refine d_p rfl (p_slice_arr_all rfl) ?_
  refine d_m hm10 hn10 rfl fun g36 cap36 rest36 hg36 hc36 hr36 => ?_
  refine d_c hg36 rfl ?_
  refine d_m4 rfl (mk_of (n := 2) (cells := [.slice (some ⟨g36, 0, none⟩) 4 cap36, .slice (some ⟨g32, 0, none⟩) 8 cap32]) (e_bsl (hp := rfl) (hf := by rfl) (h := fun v h => rfl))) fun g39 cap39 rest39 hg39 hc39 hr39 => ?_
  haveI : Ok (dropW.length = 4 ∧ 4 ≤ cap36) := ⟨rfl, hc36⟩
  haveI : Ok ([Value.slice (some ⟨g36, 0, none⟩) 4 cap36, .slice (some ⟨g32, 0, none⟩) 8 cap32].length = 2 ∧ 2 ≤ cap39) := ⟨rfl, hc39⟩
  refine d_x4o rfl (dexpand_ok (hmac dropTag z) 16 (.slice (some ⟨g39, 0, none⟩) 2 cap39) 2 [(.slice (some ⟨g36, 0, none⟩) 4 cap36, 4, dropW), (.slice (some ⟨g32, 0, none⟩) 8 cap32, 8, leB 8 round)] (by simp; exact ⟨inferInstance, inferInstance⟩) (by simp) (by simp [cat]) (by omega) (by omega)) (by decide) (by simp [hkdf_length]) (hn := fun g40 cap40 rest40 hg40 hc40 hr40 => ?_)
  rw [show hkdf (hmac dropTag z) (cat [(Value.slice (some ⟨g36, 0, none⟩) 4 cap36, 4, dropW), (Value.slice (some ⟨g32, 0, none⟩) 8 cap32, 8, leB 8 round)]) 16 = meetD z round by simp [cat, meetD]]
  haveI : Ok ((meetD z round).length = 16 ∧ 16 ≤ cap40) := ⟨by simp, hc40⟩
  refine d_n hg40 rfl (p_s2a rfl) ?_
  refine d_n hg40 rfl (p_load_part (b := g40) (off := 0) (by show some (slPtr _ _) = _; simp [slPtr, Addr.add_lit]) (ps := us .u8 (meetD z round)) (by simp)) ?_
  refine d_m hm10 hn10 rfl fun g47 cap47 rest47 hg47 hc47 hr47 => ?_
  haveI : Ok ([Value.slice (some ⟨g33, 0, none⟩) 4 cap33, .slice (some ⟨g32, 0, none⟩) 8 cap32, .slice (some ⟨b11, 0, none⟩) 32 32].length = 3 ∧ 3 ≤ cap47) := ⟨rfl, hc47⟩
  refine d_x4o rfl (dexpand_ok (hmac dropTag z) 32 (.slice (some ⟨g47, 0, none⟩) 3 cap47) 3 [(.slice (some ⟨g33, 0, none⟩) 4 cap33, 4, talkTag), (.slice (some ⟨g32, 0, none⟩) 8 cap32, 8, leB 8 round), (.slice (some ⟨b11, 0, none⟩) 32 32, 32, baseL own)] (by simp; exact ⟨inferInstance, inferInstance, inferInstance⟩) (by simp) (by simp [cat]) (by omega) (by omega)) (by decide) (by simp [hkdf_length]) (hn := fun g48 cap48 rest48 hg48 hc48 hr48 => ?_)
  rw [show hkdf (hmac dropTag z) (cat [(Value.slice (some ⟨g33, 0, none⟩) 4 cap33, 4, talkTag), (Value.slice (some ⟨g32, 0, none⟩) 8 cap32, 8, leB 8 round), (Value.slice (some ⟨b11, 0, none⟩) 32 32, 32, baseL own)]) 32 = meetK z round (baseL own) by simp [cat, meetK]]
  haveI : Ok ((meetK z round (baseL own)).length = 32 ∧ 32 ≤ cap48) := ⟨by simp, hc48⟩
  refine d_n hg48 rfl (p_s2a rfl) ?_
  refine d_n hg48 rfl (p_load_part (b := g48) (off := 0) (by show some (slPtr _ _) = _; simp [slPtr, Addr.add_lit]) (ps := us .u8 (meetK z round (baseL own))) (by simp)) ?_
  refine d_m hm10 hn10 rfl fun g55 cap55 rest55 hg55 hc55 hr55 => ?_
  haveI : Ok ([Value.slice (some ⟨g33, 0, none⟩) 4 cap33, .slice (some ⟨g32, 0, none⟩) 8 cap32, .slice (some ⟨b4, 0, none⟩) 32 32].length = 3 ∧ 3 ≤ cap55) := ⟨rfl, hc55⟩
  refine d_x4o rfl (dexpand_ok (hmac dropTag z) 32 (.slice (some ⟨g55, 0, none⟩) 3 cap55) 3 [(.slice (some ⟨g33, 0, none⟩) 4 cap33, 4, talkTag), (.slice (some ⟨g32, 0, none⟩) 8 cap32, 8, leB 8 round), (.slice (some ⟨b4, 0, none⟩) 32 32, 32, other)] (by simp; exact ⟨inferInstance, inferInstance, hpu⟩) (by simp) (by simp [cat, hp]) (by omega) (by omega)) (by decide) (by simp [hkdf_length]) (hn := fun g56 cap56 rest56 hg56 hc56 hr56 => ?_)
  rw [show hkdf (hmac dropTag z) (cat [(Value.slice (some ⟨g33, 0, none⟩) 4 cap33, 4, talkTag), (Value.slice (some ⟨g32, 0, none⟩) 8 cap32, 8, leB 8 round), (Value.slice (some ⟨b4, 0, none⟩) 32 32, 32, other)]) 32 = meetK z round other by simp [cat, meetK]]
  haveI : Ok ((meetK z round other).length = 32 ∧ 32 ≤ cap56) := ⟨by simp, hc56⟩
  refine d_n hg56 rfl (p_s2a rfl) ?_
  refine d_n hg56 rfl (p_load_part (b := g56) (off := 0) (by show some (slPtr _ _) = _; simp [slPtr, Addr.add_lit]) (ps := us .u8 (meetK z round other)) (by simp)) ?_
  refine d_s5 (b := b6) (by simp [keys, Ent.keys]) rfl (e_store_all rfl rfl rfl (vs := us .u8 (List.replicate 80 0)) (h := ⟨inferInstance, ?_⟩))
  refine d_p rfl p_field0 ?_
  refine d_s5 (b := b6) (by simp [keys, Ent.keys]) rfl (e_store_part rfl rfl rfl (cs' := us .u8 (meetD z round ++ List.replicate 64 0)) (hcs := by simp [us_drop, us_append]) (h := ⟨inferInstance, ?_⟩))
  refine d_p rfl p_field0 ?_
  refine d_s5 (b := b6) (by simp [keys, Ent.keys]) rfl (e_store_part rfl rfl rfl (cs' := us .u8 (meetD z round ++ (meetK z round (baseL own) ++ List.replicate 32 0))) (hcs := by simp [us_take, us_drop, us_append, List.drop_append, List.take_append, List.drop_of_length_le (l := meetD z round) (i := 48) (by simp)]) (h := ⟨inferInstance, ?_⟩))
  refine d_p rfl p_field0 ?_
  refine d_s5 (b := b6) (by simp [keys, Ent.keys]) rfl (e_store_part rfl rfl rfl (cs' := us .u8 (meetL z round (baseL own) other)) (hcs := by simp [meetL, us_take, us_drop, us_append, List.drop_append, List.take_append, List.take_of_length_le (l := meetD z round) (i := 48) (by simp), List.drop_of_length_le (l := meetD z round) (i := 80) (by simp), List.drop_of_length_le (l := meetK z round (baseL own)) (i := 64) (by simp)]) (h := ⟨inferInstance, ?_⟩))
  refine d_p rfl (p_assign (v := .int .i64 ((0 : Nat) : Int))) ?_
  refine d_nil (f_next ?_)
  refine c_ret ?_
  refine f_retB (Or.inl rfl) (b_clear rfl (by decide) (by simp) (b_clear rfl (by decide) (by simp [hzl]) (b_retmt rfl rfl rfl (by simp) rfl (List.nil_sublist _) ⟨rfl, rfl⟩)))

end Go.Tw
end

section
namespace Go.Tw
open Go Go.Proofs

/-- What is sealed: the text's length, the text, noughts. -/
def plainL (N : Nat) (text : List Nat) : List Nat := text.length % 256 :: text.length / 256 % 256 :: (text ++ List.replicate (N - 2 - text.length) 0)
theorem plainL_length {N : Nat} {text : List Nat} (h : text.length + 2 ≤ N) : (plainL N text).length = N := by simp [plainL]; omega
instance {N : Nat} {text : List Nat} [Us .u8 text] : Us .u8 (plainL N text) := by
  haveI : Fits (text.length % 256) .u8 := ⟨Nat.mod_lt _ (by decide)⟩
  haveI : Fits (text.length / 256 % 256) .u8 := ⟨Nat.mod_lt _ (by decide)⟩
  unfold plainL; infer_instance
def boxL (mine : List Nat) (round size : Nat) (text : List Nat) : List Nat := sealL mine (nonceL 3 round) [] (plainL (size - 16) text)
theorem boxL_length {mine text : List Nat} {round size : Nat} (h : text.length + 18 ≤ size) : (boxL mine round size text).length = size := by
  rw [boxL, sealL_length, plainL_length (by omega)]; omega
instance {mine text : List Nat} {round size : Nat} [Us .u8 text] : Us .u8 (boxL mine round size text) := by unfold boxL; infer_instance
theorem zero_set0 {N a : Nat} (h : 0 < N) : (List.replicate N 0).set 0 a = a :: List.replicate (N - 1) 0 := by
  obtain ⟨m, rfl⟩ : ∃ m, N = m + 1 := ⟨N - 1, by omega⟩
  rfl
theorem zero_set1 {N a b : Nat} (h : 0 < N) : (a :: List.replicate N 0).set 1 b = a :: b :: List.replicate (N - 1) 0 := by
  obtain ⟨m, rfl⟩ : ∃ m, N = m + 1 := ⟨N - 1, by omega⟩
  rfl
theorem plain_put {N n : Nat} {text : List Nat} {rest : List Value} (hn : text.length = n) (h : n + 2 ≤ N) :
    (us .u8 (n % 256 :: n / 256 % 256 :: List.replicate (N - 2) 0) ++ rest).take 2 ++ (us .u8 text).take n ++ (us .u8 (n % 256 :: n / 256 % 256 :: List.replicate (N - 2) 0) ++ rest).drop (2 + n) = us .u8 (plainL N text) ++ rest := by
  subst hn
  have e1 : us .u8 (text.length % 256 :: text.length / 256 % 256 :: List.replicate (N - 2) 0) = us .u8 [text.length % 256, text.length / 256 % 256] ++ us .u8 (List.replicate (N - 2) 0) := by rw [us_append]; rfl
  rw [e1]
  have hA : (us .u8 [text.length % 256, text.length / 256 % 256]).length = 2 := by simp
  have e2 : us .u8 (plainL N text) = us .u8 [text.length % 256, text.length / 256 % 256] ++ (us .u8 text ++ us .u8 (List.replicate (N - 2 - text.length) 0)) := by rw [us_append, us_append]; rfl
  rw [e2]
  generalize us .u8 [text.length % 256, text.length / 256 % 256] = A at hA
  rw [List.append_assoc A]
  have t1 : (A ++ (us .u8 (List.replicate (N - 2) 0) ++ rest)).take 2 = A := by rw [List.take_append_of_le_length (by omega)]; exact List.take_of_length_le (by omega)
  have t2 : (us .u8 text).take text.length = us .u8 text := List.take_of_length_le (by simp)
  have t3 : (A ++ (us .u8 (List.replicate (N - 2) 0) ++ rest)).drop (2 + text.length) = us .u8 (List.replicate (N - 2 - text.length) 0) ++ rest := by
    rw [List.drop_append, List.drop_of_length_le (by omega), List.nil_append, hA, Nat.add_sub_cancel_left, List.drop_append_of_le_length (by simp; omega), us_drop, List.drop_replicate]
  rw [t1, t2, t3]
  simp only [List.append_assoc]
instance : Fits 3 .u32 := ⟨by decide⟩

theorem dbox_ok (m : List Nat) (round size : Nat) (v : Value) (n : Nat) (text : List Nat) [hmu : Us .u8 m] [hru : Fits round .u64] [htu : Us .u8 text] (hm : m.length = 80) (h32 : 32 ≤ size) (h512 : size ≤ 512) (hn : n + 18 ≤ size) : Fn Tryd.prog 14 [.agg (us .u8 m).toArray, .int .u64 (round : Int), .int .i64 (size : Int), v] [] [rdF v 1 n (us .u8 text)] (fun u B' => ∃ w, u = .tuple #[w, .int .i64 0] ∧ B' = [.sl w 5 1 size (us .u8 (boxL ((m.drop 16).take 32) round size text))]) := by
  refine fn_enterB Tryd.func14 rfl Tryd.ntmps14 rfl fun w => ?_
  refine c_fact (p := text.length = n) (fun _ _ s => by simpa using (s.read (f := rdF v 1 n (us .u8 text)) (by simp)).1) fun hl => ?_
  have hml : ((m.drop 16).take 32).length = 32 := by simp [hm]
  refine c_seq (c_region ?_)
  refine s_x (e_box rfl rfl fun b4 => ?_)
  refine s_p p_assign ?_
  refine s_p (p_assign (v := .int .i64 ((0 : Nat) : Int))) ?_
  refine g_nil (f_next ?_)
  refine c_seq ?_
  refine c_seq (c_region ?_)
  refine s_p p_move ?_
  refine s_x (e_callp (sized_ok size h32 h512) (h := ?_))
  refine s_p (p_eq p_not (v' := .bool false) rfl) ?_
  refine g_nil (f_next ?_)
  refine c_cond_false rfl ?_
  refine c_skip (f_next ?_)
  refine c_seq ?_
  refine c_seq (c_region ?_)
  refine s_p p_move ?_
  refine s_p (p_len rfl) ?_
  refine s_p p_move ?_
  refine s_x (e_callp (room_ok size h32 h512) (h := ?_))
  refine s_p p_gtr ?_
  refine g_nil (f_next ?_)
  refine c_cond_no rfl (by omega) ?_
  refine c_skip (f_next ?_)
  refine c_seq (c_region ?_)
  refine s_p p_move ?_
  refine s_p (p_subn (a := size) (b := 16)) ?_
  refine s_x (e_make (n := size - 16) rfl rfl (Nat.le_refl _) (by omega) (by omega) (xs := us .u8 (List.replicate (size - 16) 0)) (by rw [made_zero, Nat.mul_one, List.take_of_length_le (by simp)]; simp [us]) fun v21 n21 => ?_)
  refine s_p p_assign ?_
  refine g_nil (f_next ?_)
  refine c_seq (c_region ?_)
  refine s_p p_move ?_
  refine s_dfr (h := ?_)
  refine g_nil (f_next ?_)
  refine c_seq (c_region ?_)
  refine s_p p_move ?_
  refine s_p p_move ?_
  refine s_p p_move ?_
  refine s_p (p_len rfl) ?_
  refine s_p (p_nat p_convu (b := n % 256) rfl) ?_
  refine s_p p_move ?_
  refine s_p (p_len rfl) ?_
  refine s_p (p_eq (p_shri (a := (n : Int)) (b := 8)) (v' := .int .i64 ((n / 256 : Nat) : Int)) (by simp)) ?_
  refine s_p (p_nat p_convu (b := n / 256 % 256) rfl) ?_
  refine s_p (p_ix_sl1 rfl rfl (i := 0) (by omega)) ?_
  refine s_x0 (e_store_slu rfl rfl (by simp; omega) (l' := n % 256 :: List.replicate (size - 16 - 1) 0) (h := ?_) (hl := zero_set0 (by omega)))
  refine s_p (p_ix_sl1 rfl rfl (i := 1) (by omega)) ?_
  refine s_x0 (e_store_slu rfl rfl (by simp; omega) (l' := n % 256 :: n / 256 % 256 :: List.replicate (size - 16 - 1 - 1) 0) (h := ?_) (hl := zero_set1 (by omega)))
  refine g_nil (f_next ?_)
  refine c_open (v := v21) n21 (fun g21 cap21 rest21 hv21 hc21 hcap21 hx21 hr21 => ?_)
  subst hv21
  haveI : Ok ((n % 256 :: n / 256 % 256 :: List.replicate (size - 16 - 1 - 1) 0).length = size - 16 ∧ size - 16 ≤ cap21) := ⟨by simp; omega, hc21⟩
  refine c_seq (c_region ?_)
  refine s_p p_move ?_
  refine s_p (p_slice_sl_lo rfl rfl (lo := 2) (by omega)) ?_
  refine s_p p_move ?_
  refine s_x (e_copy (b := g21) (o := 2) (dl := size - 16 - 2) (dc := cap21 - 2) (by show some (subSl _ _ _ _) = _; simp [subSl, Addr.add_lit, show cap21 ≠ 2 by omega]) rfl (m := n) (by omega) us_one (by simp; omega) (cs' := us .u8 (plainL (size - 16) text) ++ rest21) (h := ?_) (hl0 := plain_put hl (by omega)))
  refine g_nil (f_next ?_)
  haveI : Ok ((plainL (size - 16) text).length = size - 16 ∧ size - 16 ≤ cap21) := ⟨plainL_length (by omega), hc21⟩
  refine c_seq (c_run [.p, .r, .p, .x0, .p, .x0, .p, .p, .p, .p] [0, 1, 2, 4, 3, 5, 6, 7, 8, 9] (by kernel_rfl) fun hn9 => ?_)
  refine d_p rfl p_field0 ?_
  refine d_r hn9 rfl (p_load_part rfl (ps := us .u8 ((m.drop 16).take 32)) (by rw [us_drop, us_take]) (by simp [hm])) ?_
  refine d_p rfl p_move ?_
  refine d_p rfl p_move ?_
  refine d_x0 rfl (e_callp (nonce_ok 3 round) (h := ⟨inferInstance, ?_⟩))
  refine d_x0 rfl (e_callx (seal_ok ((m.drop 16).take 32) (nonceL 3 round) (.slice none 0 0) 0 [] (.slice (some ⟨g21, 0, none⟩) (size - 16) cap21) (size - 16) (plainL (size - 16) text) hml (by simp) (by omega)) (h := fun v43 B43 h43 => ⟨by rcases h43 with ⟨_, _, _, h⟩ | ⟨_, _, h⟩ <;> rw [h] <;> infer_instance, ?_⟩))
  obtain ⟨_, w43, rfl, rfl⟩ := h43.resolve_right (by omega)
  simp only [List.cons_append, List.nil_append]
  rw [show size - 16 + 16 = size by omega]
  refine d_p rfl (p_ext rfl rfl) ?_
  refine d_p rfl (p_ext rfl rfl) ?_
  refine d_p rfl p_assign ?_
  refine d_p rfl p_assign ?_
  refine d_nil (f_next ?_)
  refine c_ret ?_
  refine f_retB (Or.inl rfl) (b_clear rfl (by omega) (by simp [plainL_length (N := size - 16) (text := text) (by omega)]) (b_ret2 rfl rfl rfl rfl (by first | exact List.Sublist.cons_cons _ (List.nil_sublist _) | exact List.singleton_sublist.2 (by simp)) ⟨_, rfl, rfl⟩))

end Go.Tw
end

section
namespace Go.Tw
open Go Go.Proofs

theorem plain_lo {N : Nat} {text : List Nat} : (plainL N text).getD 0 0 = text.length % 256 := rfl
theorem plain_hi {N : Nat} {text : List Nat} : (plainL N text).getD 1 0 = text.length / 256 % 256 := rfl
theorem len_parts {n : Nat} (h : n < 65536) : (n % 256) ||| (n / 256 % 256 * 2 ^ 8) = n := by
  rw [Nat.or_comm, Nat.mul_comm, ← Nat.two_pow_add_eq_or_of_lt (i := 8) (by omega)]
  omega
theorem plain_rest {N x : Nat} {text : List Nat} (h : text.length + 2 ≤ N) (hx : x < N - (2 + text.length)) : (((plainL N text).drop (2 + text.length)).take (N - (2 + text.length))).getD x 0 = 0 := by
  have e : (plainL N text).drop (2 + text.length) = List.replicate (N - 2 - text.length) 0 := by
    rw [plainL, Nat.add_comm 2, List.drop_succ_cons, List.drop_succ_cons, List.drop_append, List.drop_of_length_le (Nat.le_refl _), List.nil_append, Nat.sub_self, List.drop_zero]
  rw [e, List.take_replicate, List.getD_eq_getElem?_getD, List.getElem?_replicate]
  split <;> rfl
theorem plain_text {N : Nat} {text : List Nat} {rest : List Value} (h : text.length + 2 ≤ N) : ((us .u8 (plainL N text) ++ rest).drop 2).take text.length = us .u8 text := by
  have e : us .u8 (plainL N text) = us .u8 [text.length % 256, text.length / 256 % 256] ++ (us .u8 text ++ us .u8 (List.replicate (N - 2 - text.length) 0)) := by rw [us_append, us_append]; rfl
  rw [e, List.append_assoc, List.drop_append, List.drop_of_length_le (by simp), List.nil_append, us_length]
  simp only [List.length_cons, List.length_nil, Nat.sub_self, List.drop_zero]
  rw [List.append_assoc, List.take_append_of_le_length (by simp), List.take_of_length_le (by simp)]

theorem dunbox_ok (m : List Nat) (round : Nat) (v : Value) (n : Nat) (text : List Nat) [hmu : Us .u8 m] [hru : Fits round .u64] [htu : Us .u8 text] (hm : m.length = 80) (h32 : 32 ≤ n) (h512 : n ≤ 512) (ht : text.length + 18 ≤ n) : Fn Tryd.prog 16 [.agg (us .u8 m).toArray, .int .u64 (round : Int), v] [] [rdF v 1 n (us .u8 (boxL ((m.drop 48).take 32) round n text))] (fun u B' => ∃ w, u = .tuple #[w, .int .i64 0] ∧ B' = [.sl w 5 1 text.length (us .u8 text)]) := by
  refine fn_enterB Tryd.func16 rfl Tryd.ntmps16 rfl fun w => ?_
  have hml : ((m.drop 48).take 32).length = 32 := by simp [hm]
  have hpl : (plainL (n - 16) text).length = n - 16 := plainL_length (by omega)
  have hop := open_seal ((m.drop 48).take 32) (nonceL 3 round) [] (plainL (n - 16) text)
  refine c_seq (c_region ?_)
  refine s_x (e_box rfl rfl fun b3 => ?_)
  refine s_p p_assign ?_
  refine s_p (p_assign (v := .int .i64 ((0 : Nat) : Int))) ?_
  refine g_nil (f_next ?_)
  refine c_seq ?_
  refine c_seq (c_region ?_)
  refine s_p p_move ?_
  refine s_p (p_len rfl) ?_
  refine s_x (e_callp (sized_ok n h32 h512) (h := ?_))
  refine s_p (p_eq p_not (v' := .bool false) rfl) ?_
  refine g_nil (f_next ?_)
  refine c_cond_false rfl ?_
  refine c_skip (f_next ?_)
  refine c_seq (c_run [.p, .r, .p, .x0, .p, .x0, .p, .p, .p, .p, .p] [0, 1, 2, 4, 3, 5, 6, 7, 8, 9, 10] (by kernel_rfl) fun hn3 => ?_)
  refine d_p rfl p_field0 ?_
  refine d_r hn3 rfl (p_load_part rfl (ps := us .u8 ((m.drop 48).take 32)) (by rw [us_drop, us_take]) (by simp [hm])) ?_
  refine d_p rfl p_move ?_
  refine d_p rfl p_move ?_
  refine d_x0 rfl (e_callp (nonce_ok 3 round) (h := ⟨inferInstance, ?_⟩))
  refine d_x0 rfl (e_callx (sopen_ok ((m.drop 48).take 32) (nonceL 3 round) (.slice none 0 0) 0 [] v n (boxL ((m.drop 48).take 32) round n text) hml (by simp) (by omega) (by omega) (by omega)) (h := fun v24 B24 h24 => ⟨by rcases h24 with ⟨_, _, _, h⟩ | ⟨_, _, h⟩ <;> rw [h] <;> infer_instance, ?_⟩))
  obtain ⟨_, w24, rfl, rfl⟩ := h24.resolve_right (fun h => by have h1 := h.1; unfold boxL at h1; rw [hop.1] at h1; exact absurd h1 (by decide))
  simp only [List.cons_append, List.nil_append]
  rw [show textL ((m.drop 48).take 32) (nonceL 3 round) [] (boxL ((m.drop 48).take 32) round n text) = plainL (n - 16) text from hop.2]
  refine d_p rfl p_move ?_
  refine d_p rfl (p_ext rfl rfl) ?_
  refine d_p rfl (p_ext rfl rfl) ?_
  refine d_p rfl p_assign ?_
  refine d_p rfl p_assign ?_
  refine d_nil (f_next ?_)
  refine c_open0 (v := w24) (by omega) (fun g24 cap24 rest24 hv24 hc24 hcap24 hx24 hr24 => ?_)
  subst hv24
  haveI : Ok ((plainL (n - 16) text).length = n - 16 ∧ n - 16 ≤ cap24) := ⟨hpl, hc24⟩
  haveI hrd : ∀ {c : Cx} {B : Own} [InB g24 (.cells (us .u8 (plainL (n - 16) text) ++ rest24).toArray 5 (0, 0)) B], Rd c B (.slice (some ⟨g24, 2, none⟩) text.length (cap24 - 2)) 1 text.length (us .u8 text) := fun {c B} h => by
   haveI : Ok (2 + text.length ≤ (us .u8 (plainL (n - 16) text) ++ rest24).length ∧ text.length ≤ cap24 - 2) := ⟨by simp [hpl]; omega, by omega⟩
   have := Rd.ofBlk (c := c) (B := B) (b := g24) (off := 2) (n := text.length) (cap := cap24 - 2) (cs := us .u8 (plainL (n - 16) text) ++ rest24)
   rwa [plain_text (by omega)] at this
  haveI : Ok (2 + text.length ≤ n - 16 ∧ n - 16 ≤ n - 16) := ⟨by omega, by omega⟩
  refine c_seq (c_region ?_)
  refine s_p p_move ?_
  refine s_dfr (h := ?_)
  refine g_nil (f_next ?_)
  refine c_seq ?_
  refine c_seq (c_region ?_)
  refine s_p p_move ?_
  refine s_p (p_neq (b := 0)) ?_
  refine g_nil (f_next ?_)
  refine c_cond_no rfl (by decide) ?_
  refine c_skip (f_next ?_)
  refine c_seq (c_run [.p, .r, .r, .p, .p, .r, .r, .p, .p, .p, .p] [0, 1, 2, 3, 4, 5, 6, 7, 8, 9, 10] (by kernel_rfl) fun hn7 => ?_)
  refine d_p rfl p_move ?_
  refine d_r hn7 rfl (p_ix_sl1 rfl rfl (i := 0) (by omega)) ?_
  refine d_r hn7 rfl (p_nat (p_load_slu rfl (l := plainL (n - 16) text) (by omega)) (b := text.length % 256) rfl) ?_
  refine d_p rfl p_convn ?_
  refine d_p rfl p_move ?_
  refine d_r hn7 rfl (p_ix_sl1 rfl rfl (i := 1) (by omega)) ?_
  refine d_r hn7 rfl (p_nat (p_load_slu rfl (l := plainL (n - 16) text) (by omega)) (b := text.length / 256 % 256) rfl) ?_
  refine d_p rfl p_convn ?_
  refine d_p rfl (p_shln (a := text.length / 256 % 256) (b := 8) rfl rfl (by decide) (by omega)) ?_
  refine d_p rfl (p_nat (p_orn (a := text.length % 256) (b := text.length / 256 % 256 * 2 ^ 8) rfl rfl (by omega) (by omega)) (b := text.length) (len_parts (by omega))) ?_
  refine d_p rfl p_assign ?_
  refine d_nil (f_next ?_)
  refine c_seq ?_
  refine c_seq (c_region ?_)
  refine s_p p_move ?_
  refine s_p p_move ?_
  refine s_p (p_len rfl) ?_
  refine s_x (e_callp (room_ok n h32 h512) (h := ?_))
  refine s_p p_gtr ?_
  refine g_nil (f_next ?_)
  refine c_cond_no rfl (by omega) ?_
  refine c_skip (f_next ?_)
  refine c_seq (c_region ?_)
  refine s_p (p_assign (v := .int .u8 ((0 : Nat) : Int))) ?_
  refine g_nil (f_next ?_)
  refine c_seq ?_
  refine c_seq (c_region ?_)
  refine s_p p_move ?_
  refine s_p p_move ?_
  refine s_p (p_addn (a := 2) (b := text.length)) ?_
  refine s_p (p_slice_sl_lo rfl rfl (lo := 2 + text.length) (by omega)) ?_
  refine s_p (p_len rfl) ?_
  refine s_p (p_move (v := .int .i64 ((0 : Nat) : Int))) ?_
  refine g_nil (f_next ?_)
  refine c_block ?_
  refine c_lp (X := Nat) (fun x => n - 16 - (2 + text.length) - x) (fun c x => x ≤ n - 16 - (2 + text.length)) (fun x => [(11, .int .u8 ((0 : Nat) : Int)), (51, .int .i64 (x : Int))]) [(8, _), (10, _), (49, _), (50, _)] (fun x => [.blk g24 (.cells (us .u8 (plainL (n - 16) text) ++ rest24).toArray 5 (0, 0)), .blk b3 (.cells (us .u8 m).toArray 40 (0, 0))]) 0 (by first | omega | trivial) ⟨rfl, rfl, rfl, rfl, trivial⟩ (hr := fun x hx => ?_)
  refine c_seq (c_region ?_)
  refine s_p p_lss ?_
  refine g_nil (f_next ?_)
  refine c_seq ?_
  refine c_cond_dec rfl (fun h52 => ?_) (fun h52 => ?_)
  · skip
    refine c_skip (f_next ?_)
    refine c_seq ?_
    refine c_block ?_
    refine c_seq (c_region ?_)
    refine s_p (p_ix_sl1 rfl rfl) ?_
    refine s_p (p_nat (p_load_slu rfl (l := ((plainL (n - 16) text).drop (2 + text.length)).take (n - 16 - (2 + text.length))) (by simp [hpl]; omega)) (b := 0) (plain_rest (by omega) (by omega))) ?_
    refine s_p p_assign ?_
    refine g_nil (f_next ?_)
    refine c_region ?_
    refine s_p p_move ?_
    refine s_p p_move ?_
    refine s_p p_oru ?_
    refine s_p p_assign ?_
    refine g_nil (f_block_normal (f_next ?_))
    refine c_region ?_
    refine s_p (p_addn (b := 1)) ?_
    refine s_p p_move ?_
    refine g_nil ?_
    exact f_rd (x + 1)
  refine c_exit (f_pass_exit (f_pass_exit (f_block_exit (f_next ?_))))
  refine c_seq ?_
  refine c_seq (c_region ?_)
  refine s_p p_move ?_
  refine s_p (p_neq (b := 0)) ?_
  refine g_nil (f_next ?_)
  refine c_cond_no rfl (by decide) ?_
  refine c_skip (f_next ?_)
  refine c_seq (c_region ?_)
  refine s_p p_move ?_
  refine s_p p_move ?_
  refine s_p (p_addn (a := 2) (b := text.length)) ?_
  refine s_p (p_eq (p_slice_sl rfl rfl rfl (lo := 2) (hi := 2 + text.length) (by omega) (by omega)) (v' := .slice (some ⟨g24, 2, none⟩) text.length (cap24 - 2)) (by simp [subSl, Addr.add_lit, show cap24 ≠ 2 by omega])) ?_
  refine s_x (e_bsl (cells := [.slice (some ⟨g24, 2, none⟩) text.length (cap24 - 2)]) (hp := rfl) (hf := by rfl) (h := fun v65 n65 => ?_))
  refine s_x (e_callx (djoin_ok v65 1 [(.slice (some ⟨g24, 2, none⟩) text.length (cap24 - 2), text.length, text)] (by simpa using htu) (by simp [cat]; omega) (by decide)) (h := fun v66 B66 h66 => ?_))
  obtain rfl := h66
  simp only [List.cons_append, List.nil_append]
  rw [show cat [(Value.slice (some ⟨g24, 2, none⟩) text.length (cap24 - 2), text.length, text)] = text by simp [cat]]
  refine s_p p_assign ?_
  refine s_p (p_assign (v := .int .i64 ((0 : Nat) : Int))) ?_
  refine g_nil (f_next ?_)
  refine c_ret ?_
  refine f_retB (Or.inl rfl) (b_clear rfl (by omega) (by simp [hpl]) (b_ret2 rfl rfl rfl rfl (List.singleton_sublist.2 (by simp)) ⟨_, rfl, rfl⟩))

end Go.Tw
end

section
namespace Go.Tw
open Go Go.Proofs

theorem eqb_ok (v1 v2 : Value) (n : Nat) (l : List Nat) (hn : n ≤ 1099511627776) : Fn Tryd.prog 17 [v1, v2] [] [rdF v1 1 n (us .u8 l), rdF v2 1 n (us .u8 l)] (fun u B' => u = .bool true ∧ B' = []) := by
  refine fn_enter Tryd.func17 rfl Tryd.ntmps17 rfl fun w => ?_
  refine c_fact (p := l.length = n) (fun _ _ s => by simpa using (s.read (f := rdF v1 1 n (us .u8 l)) (by simp)).1) fun hl => ?_
  refine c_seq (c_region ?_)
  refine s_p p_assign ?_
  refine g_nil (f_next ?_)
  refine c_seq ?_
  refine c_seq (c_region ?_)
  refine s_p p_move ?_
  refine s_p (p_len rfl) ?_
  refine s_p p_move ?_
  refine s_p (p_len rfl) ?_
  refine s_p p_neq ?_
  refine g_nil (f_next ?_)
  refine c_cond_no rfl (fun h => h rfl) ?_
  refine c_skip (f_next ?_)
  refine c_seq ?_
  refine c_seq (c_region ?_)
  refine s_p (p_assign (v := .int .i64 ((0 : Nat) : Int))) ?_
  refine g_nil (f_next ?_)
  refine c_block ?_
  refine c_lp (X := Nat) (fun x => n - x) (fun c x => x ≤ n) (fun x => [(5, .int .i64 (x : Int))]) [(0, _), (1, _)] (fun x => []) 0 (by first | omega | trivial) ⟨rfl, rfl, trivial⟩ (hr := fun x hx => ?_)
  refine c_seq ?_
  refine c_seq (c_region ?_)
  refine s_p p_move ?_
  refine s_p p_move ?_
  refine s_p (p_len rfl) ?_
  refine s_p p_lss ?_
  refine g_nil (f_next ?_)
  refine c_cond_dec rfl (fun h14 => ?_) (fun h14 => ?_)
  · skip
    refine c_skip (f_next ?_)
    refine c_seq ?_
    refine c_block ?_
    refine c_seq (c_run [.p, .p, .r, .r, .p, .p, .r, .r, .p] [0, 1, 2, 3, 4, 5, 6, 7, 8] (by kernel_rfl) fun hn6 => ?_)
    refine d_p rfl p_move ?_
    refine d_p rfl p_move ?_
    refine d_r hn6 rfl (p_ix_sl1 rfl rfl) ?_
    refine d_r hn6 rfl (p_load_slu rfl) ?_
    refine d_p rfl p_move ?_
    refine d_p rfl p_move ?_
    refine d_r hn6 rfl (p_ix_sl1 rfl rfl) ?_
    refine d_r hn6 rfl (p_load_slu rfl) ?_
    refine d_p rfl p_neq ?_
    refine d_nil (f_next ?_)
    refine c_cond_no rfl (fun h => h rfl) ?_
    refine c_skip (f_block_normal (f_next ?_))
    refine c_region ?_
    refine s_p p_move ?_
    refine s_p (p_addn (b := 1)) ?_
    refine s_p p_assign ?_
    refine g_nil ?_
    exact f_rd (x + 1)
  refine c_exit (f_pass_exit (f_pass_exit (f_block_exit (f_next ?_))))
  refine c_seq (c_region ?_)
  refine s_p p_assign ?_
  refine g_nil (f_next ?_)
  refine c_ret ?_
  exact f_r1 (Or.inl rfl) Tryd.results17 ⟨rfl, rfl⟩

theorem copyb_ok (v : Value) (n : Nat) (l : List Nat) (hn : n ≤ 1099511627776) : Fn Tryd.prog 15 [v] [] [rdF v 1 n (us .u8 l)] (fun u B' => B' = [.sl u 5 1 n (us .u8 l)]) := by
  refine fn_enter Tryd.func15 rfl Tryd.ntmps15 rfl fun w => ?_
  refine c_fact (p := l.length = n) (fun _ _ s => by simpa using (s.read (f := rdF v 1 n (us .u8 l)) (by simp)).1) fun hl => ?_
  refine c_seq (c_region ?_)
  refine s_p p_assign ?_
  refine g_nil (f_next ?_)
  refine c_seq (c_region ?_)
  refine s_p p_move ?_
  refine s_p (p_len rfl) ?_
  refine s_x (e_make (n := 0) (cap := n) rfl rfl (by omega) (by omega) (by omega) (xs := us .u8 (l.take 0)) (by simp [us]) fun v7 n7 => ?_)
  refine s_p p_assign ?_
  refine g_nil (f_next ?_)
  refine c_seq ?_
  refine c_seq (c_region ?_)
  refine s_p (p_assign (v := .int .i64 ((0 : Nat) : Int))) ?_
  refine g_nil (f_next ?_)
  refine c_block ?_
  refine c_lp (X := Value × Nat) (fun x => n - x.2) (fun c x => x.2 ≤ n) (fun x => [(3, x.1), (4, .int .i64 (x.2 : Int))]) [(0, _)] (fun x => [.sl x.1 5 1 x.2 (us .u8 (l.take x.2))]) (v7, 0) (by first | omega | trivial) ⟨rfl, trivial⟩ (hr := fun x hx => ?_)
  refine c_seq ?_
  refine c_seq (c_region ?_)
  refine s_p p_move ?_
  refine s_p p_move ?_
  refine s_p (p_len rfl) ?_
  refine s_p p_lss ?_
  refine g_nil (f_next ?_)
  refine c_cond_dec rfl (fun h11 => ?_) (fun h11 => ?_)
  · skip
    refine c_skip (f_next ?_)
    refine c_seq ?_
    refine c_block ?_
    refine c_region ?_
    refine s_p p_move ?_
    refine s_p p_move ?_
    refine s_p p_move ?_
    refine s_p (p_ix_sl1 rfl rfl) ?_
    refine s_p (p_load_slu rfl) ?_
    refine s_x (e_bsl1 rfl fun v19 n19 => ?_)
    refine s_x (e_app rfl rfl (n' := x.2 + 1) (l' := l.take (x.2 + 1)) (h := fun v20 => ?_) (hl := by rw [List.take_add_one, List.getD_eq_getElem?_getD, List.getElem?_eq_getElem (by omega)]; rfl))
    refine s_p p_assign ?_
    refine g_nil (f_block_normal (f_next ?_))
    refine c_region ?_
    refine s_p p_move ?_
    refine s_p (p_addn (b := 1)) ?_
    refine s_p p_assign ?_
    refine g_nil ?_
    exact f_rd (v20, x.2 + 1)
  refine c_exit (f_pass_exit (f_pass_exit (f_block_exit (f_next ?_))))
  obtain ⟨x1, x2⟩ := x; obtain rfl : x2 = n := by simp only at h11 hx; omega
  rw [List.take_of_length_le (by omega)]
  refine c_seq (c_region ?_)
  refine s_p p_move ?_
  refine s_p p_assign ?_
  refine g_nil (f_next ?_)
  refine c_ret ?_
  exact f_r1 (Or.inl rfl) Tryd.results15 rfl

end Go.Tw
end

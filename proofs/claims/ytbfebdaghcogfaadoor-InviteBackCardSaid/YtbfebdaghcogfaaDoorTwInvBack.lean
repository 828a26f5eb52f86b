/- For every input the law InviteBack returns true, and its arguments read behind the call as they read before. CONDITIONS: the package variables digest.first and digest.table hold what the program's text lays (the card ties them to it); nothing else. -/
import Derived.Test.YtbfebdaghcogfaaDoorTwWs
import Derived.Test.YtbfebdaghcogfaaDoorTwMore
import Derived.Test.YtbfebdaghcogfaaDoorTwJoin
section
namespace Go.Tw
open Go Go.Proofs

/-- What is made for somebody is opened by them, and tells from whom it comes. -/
theorem inv_back {own priv fr : List Nat} {round : Nat} [hou : Us .u8 own] [hpu : Us .u8 priv] [hfu : Us .u8 fr] (ho : own.length = 32) (hp : priv.length = 32) (hf : fr.length = 32) (hr : round < 2 ^ 64) : openI own (baseL own) round (invL priv fr (baseL own) round) = (0, fr) := by
  have hl : (invL priv fr (baseL own) round).length = 88 := invL_length _ _ _ _ hf
  have h1 : (invL priv fr (baseL own) round).take 32 = baseL priv := by
    rw [invL, List.take_append_of_le_length (by simp), List.take_of_length_le (by simp)]
  have h2 : (invL priv fr (baseL own) round).drop 32 = sealL (ikeyL (x255 priv (baseL own)) (baseL priv) (baseL own)) (nonceL 2 round) [] (fr ++ leB 8 round) := by
    rw [invL, List.drop_append, List.drop_of_length_le (by simp), List.nil_append, baseL_length, Nat.sub_self, List.drop_zero]
  have hdh : x255 own (baseL priv) = x255 priv (baseL own) := x255_dh ho hp
  obtain ⟨hright, htext⟩ := open_seal (ikeyL (x255 priv (baseL own)) (baseL priv) (baseL own)) (nonceL 2 round) [] (fr ++ leB 8 round)
  have h3 : (fr ++ leB 8 round).drop 32 = leB 8 round := by rw [List.drop_append, List.drop_of_length_le (by omega), List.nil_append, hf, Nat.sub_self, List.drop_zero]
  have h4 : (fr ++ leB 8 round).take 32 = fr := by rw [List.take_append_of_le_length (by omega), List.take_of_length_le (by omega)]
  have h5 : leN (leB 8 round) = round := by rw [leN_leB]; exact Nat.mod_eq_of_lt hr
  rw [openI, if_neg (by omega), h1, h2, hdh, if_neg (x255_ne hp ho), hright, if_neg (by decide), htext, h3, h4, h5, if_neg (by simp)]
instance : Fits 7 .u64 := ⟨by decide⟩
instance : NoGuard Tryd.prog 23 := ⟨by kernel_rfl⟩
def lk3 : List Nat := 3 :: List.replicate 31 0
def lk45 : List Nat := 4 :: 5 :: List.replicate 30 0
def lk12 : List Nat := 1 :: 2 :: List.replicate 30 0
instance : Us .u8 lk3 := ⟨by decide⟩
instance : Us .u8 lk45 := ⟨by decide⟩
instance : Us .u8 lk12 := ⟨by decide⟩
@[simp] theorem lk3_length : lk3.length = 32 := rfl
@[simp] theorem lk45_length : lk45.length = 32 := rfl
@[simp] theorem lk12_length : lk12.length = 32 := rfl

theorem works22_ok : Fn Tryd.prog 10 [] [] [glH, glK] (fun u B' => u = .bool true ∧ B' = []) := by
  refine fn_enter Tryd.func10 rfl Tryd.ntmps10 rfl fun w => ?_
  refine c_seq (c_region ?_)
  refine s_p p_assign ?_
  refine g_nil (f_next ?_)
  refine c_seq (c_region ?_)
  refine s_p (p_barr (cells := us .u8 lk12) rfl) ?_
  refine s_x (e_alloc fun b1 => ?_)
  refine s_x0 (e_store_all rfl rfl rfl (h := ?_))
  refine g_nil (f_next ?_)
  refine c_seq (c_region ?_)
  refine s_p (p_barr (cells := us .u8 lk3) rfl) ?_
  refine s_p (p_barr (cells := us .u8 lk45) rfl) ?_
  refine s_p (p_load_all rfl) ?_
  refine s_x (e_callp (base_ok lk12 rfl) (h := ?_))
  refine s_x (e_callx (imake_ok lk3 lk45 (baseL lk12) 7 rfl rfl (by simp)) (h := fun v12 B12 h12 => ?_))
  obtain ⟨_, w12, rfl, rfl⟩ := h12.resolve_left (fun h => x255_ne rfl rfl h.1)
  simp only [List.cons_append, List.nil_append]
  refine s_p p_move ?_
  refine s_p (p_ext rfl rfl) ?_
  refine s_p (p_ext rfl rfl) ?_
  refine s_p p_assign ?_
  refine s_p p_assign ?_
  refine g_nil (f_next ?_)
  refine c_seq (c_region ?_)
  refine s_p (p_load_all rfl) ?_
  refine s_p p_move ?_
  refine s_x (e_callp (iOpen_ok lk12 7 w12 88 (invL lk3 lk45 (baseL lk12) 7) rfl) (h := ?_))
  rw [inv_back (own := lk12) rfl rfl rfl (by decide)]
  refine s_p p_move ?_
  refine s_p (p_ext rfl rfl) ?_
  refine s_p (p_ext rfl rfl) ?_
  refine s_x (e_alloc fun b4 => ?_)
  refine s_x0 (e_store_all rfl rfl rfl (h := ?_))
  refine s_p p_assign ?_
  refine g_nil (f_next ?_)
  refine c_seq (c_region ?_)
  refine s_p p_move ?_
  refine s_p (p_eq (p_eql (a := 0) (b := 0)) (v' := .bool true) rfl) ?_
  refine s_p p_move ?_
  refine s_v (v_yg p_move) ?_
  refine s_v (v_yg (p_eq (p_eql (a := 0) (b := 0)) (v' := .bool true) rfl)) ?_
  refine s_p (p_pick_t rfl rfl) ?_
  refine s_p p_move ?_
  refine s_v (v_yg p_move) ?_
  refine s_v (v_yg (p_len rfl)) ?_
  refine s_v (v_yg (p_eq (p_eql (a := 88) (b := 88)) (v' := .bool true) rfl)) ?_
  refine s_p (p_pick_t rfl rfl) ?_
  refine s_p p_move ?_
  refine s_v (v_yg (p_load_all rfl)) ?_
  refine s_v (v_yg (p_barr (cells := us .u8 lk45) rfl)) ?_
  refine s_v (v_yg (p_eq (p_eqarr (l := lk45) (m := lk45)) (v' := .bool true) (by simp))) ?_
  refine s_p (p_pick_t rfl rfl) ?_
  refine s_p p_assign ?_
  refine g_nil (f_next ?_)
  refine c_ret ?_
  exact f_r1 (Or.inl rfl) Tryd.results10 ⟨rfl, rfl⟩

/-- A Sent: a private key, from whom, to whom, the round. -/
def sentC (priv fr to : List Nat) (round : Nat) : List Value := us .u8 priv ++ (us .u8 fr ++ (us .u8 to ++ [.int .u64 (round : Int)]))
section
variable {priv fr to : List Nat} {round : Nat} (hp : priv.length = 32) (hf : fr.length = 32) (ht : to.length = 32)
include hp
theorem sentC_priv : ((sentC priv fr to round).drop 0).take 32 = us .u8 priv := by
  rw [List.drop_zero, sentC, List.take_append_of_le_length (by simp [hp]), List.take_of_length_le (by simp [hp])]
include hf
theorem sentC_from : ((sentC priv fr to round).drop 32).take 32 = us .u8 fr := by
  rw [sentC, List.drop_append, List.drop_of_length_le (by simp [hp]), List.nil_append, us_length, hp, Nat.sub_self, List.drop_zero, List.take_append_of_le_length (by simp [hf]), List.take_of_length_le (by simp [hf])]
include ht
theorem sentC_round : (sentC priv fr to round)[96]? = some (.int .u64 (round : Int)) := by
  rw [sentC, List.getElem?_append_right (by simp [hp]), List.getElem?_append_right (by simp [hp, hf]), List.getElem?_append_right (by simp [hp, hf, ht])]
  simp [hp, hf, ht]
end

theorem inviteBack_ok (own priv fr to : List Nat) (round : Nat) [hou : Us .u8 own] [hpu : Us .u8 priv] [hfu : Us .u8 fr] [hru : Fits round .u64] (ho : own.length = 32) (hp : priv.length = 32) (hf : fr.length = 32) (ht : to.length = 32) : Fn Tryd.prog 3 [.agg (us .u8 own).toArray, .agg (sentC priv fr to round).toArray] [] [glH, glK] (fun u B' => u = .bool true ∧ B' = []) := by
  refine fn_enter Tryd.func3 rfl Tryd.ntmps3 rfl fun w => ?_
  refine c_seq (c_region ?_)
  refine s_x (e_box rfl rfl fun b2 => ?_)
  refine s_x (e_box rfl rfl fun b3 => ?_)
  refine s_p p_assign ?_
  refine g_nil (f_next ?_)
  refine c_seq (c_region ?_)
  refine s_p (p_load_all rfl) ?_
  refine s_x (e_callp (base_ok own ho) (h := ?_))
  refine s_x (e_alloc fun b5 => ?_)
  refine s_x0 (e_store_all rfl rfl rfl (h := ?_))
  refine g_nil (f_next ?_)
  refine c_seq (c_region ?_)
  refine s_p p_field0 ?_
  refine s_p (p_load_part rfl (sentC_priv hp)) ?_
  refine s_p p_field0 ?_
  refine s_p (p_load_part rfl (sentC_from hp hf)) ?_
  refine s_p (p_load_all rfl) ?_
  refine s_p p_field0 ?_
  refine s_p (p_load_one rfl (sentC_round hp hf ht)) ?_
  refine s_x (e_callx (imake_ok priv fr (baseL own) round hp hf (by simp)) (h := fun v20 B20 h20 => ?_))
  obtain ⟨_, w20, rfl, rfl⟩ := h20.resolve_left (fun h => x255_ne hp ho h.1)
  simp only [List.cons_append, List.nil_append]
  refine s_p p_move ?_
  refine s_p (p_ext rfl rfl) ?_
  refine s_p (p_ext rfl rfl) ?_
  refine s_p p_assign ?_
  refine s_p p_assign ?_
  refine g_nil (f_next ?_)
  refine c_seq ?_
  refine c_seq (c_region ?_)
  refine s_p p_move ?_
  refine s_p (p_eql (a := 0) (b := 90)) ?_
  refine g_nil (f_next ?_)
  refine c_cond_no rfl (by decide) ?_
  refine c_skip (f_next ?_)
  refine c_seq (c_region ?_)
  refine s_p (p_load_all rfl) ?_
  refine s_p p_field0 ?_
  refine s_p (p_load_one rfl (sentC_round hp hf ht)) ?_
  refine s_p p_move ?_
  refine s_x (e_callp (iOpen_ok own round w20 88 (invL priv fr (baseL own) round) ho) (h := ?_))
  rw [inv_back ho hp hf hru.lt]
  refine s_p p_move ?_
  refine s_p (p_ext rfl rfl) ?_
  refine s_p (p_ext rfl rfl) ?_
  refine s_x (e_alloc fun b8 => ?_)
  refine s_x0 (e_store_all rfl rfl rfl (by simp [hf]) (by simp) (h := ?_))
  refine s_p p_assign ?_
  refine g_nil (f_next ?_)
  refine c_seq (c_region ?_)
  refine s_p p_move ?_
  refine s_p (p_eq (p_eql (a := 0) (b := 0)) (v' := .bool true) rfl) ?_
  refine s_p p_move ?_
  refine s_v (v_yg p_move) ?_
  refine s_v (v_yg (p_eq (p_eql (a := 0) (b := 0)) (v' := .bool true) rfl)) ?_
  refine s_p (p_pick_t rfl rfl) ?_
  refine s_p p_move ?_
  refine s_v (v_yg p_move) ?_
  refine s_v (v_yg (p_len rfl)) ?_
  refine s_v (v_yg (p_eq (p_eql (a := 88) (b := 88)) (v' := .bool true) rfl)) ?_
  refine s_p (p_pick_t rfl rfl) ?_
  refine s_p p_move ?_
  refine s_v (v_yg (p_load_all rfl)) ?_
  refine s_v (v_yg p_field0) ?_
  refine s_v (v_yg (p_load_part rfl (sentC_from hp hf))) ?_
  refine s_v (v_yg (p_eq (p_eqarr (l := fr) (m := fr)) (v' := .bool true) (by simp))) ?_
  refine s_p (p_pick_t rfl rfl) ?_
  refine s_p p_move ?_
  refine s_xyg (e_callp works22_ok (h := ?_))
  refine s_p (p_pick_t rfl rfl) ?_
  refine s_p p_assign ?_
  refine g_nil (f_next ?_)
  refine c_ret ?_
  exact f_r1 (Or.inl rfl) Tryd.results3 ⟨rfl, rfl⟩

end Go.Tw
end

section
namespace Go.Tw
set_option maxRecDepth 100000
open Go Go.Proofs Go.Proofs.YtbfebdaghcogfaaDoor Go.ChangeShapes Go.WideShapes Go.ChangeAt Go.RowKit

theorem cut3 {α : Type} {cs : List α} {a b c : Nat} {x y z r : List α} (hx : (cs.drop 0).take a = x) (hy : (cs.drop a).take b = y) (hz : (cs.drop (a + b)).take c = z) (hr : (cs.drop (a + b + c)).take 1 = r) (hl : cs.length = a + b + c + 1) : cs = x ++ (y ++ (z ++ r)) := by
  rw [List.drop_zero] at hx
  rw [List.take_of_length_le (by simp; omega)] at hr
  rw [← hx, ← hy, ← hz, ← hr]
  have e1 : cs.drop (a + b + c) = (cs.drop (a + b)).drop c := by rw [List.drop_drop]
  have e2 : cs.drop (a + b) = (cs.drop a).drop b := by rw [List.drop_drop]
  rw [e1, List.take_append_drop, e2, List.take_append_drop, List.take_append_drop]

theorem arg_sent {H : Type} {enc : TypeId × Value → H} {w : World} {base b0 : Nat} {sp : Nat → Bool} {held : Bool} {r : Reach} {v : Value} {d : DataW H} {ps : List MemPlace}
    (hv : Value.okWide Tryd.prog w r b0 26 v) (h : DataW.Trod enc Tryd.prog w base sp held 26 v d ps) : ∃ (priv fr to : List Nat) (round : Nat), v = .agg (sentC priv fr to round).toArray ∧ priv.length = 32 ∧ fr.length = 32 ∧ to.length = 32 ∧ Us .u8 priv ∧ Us .u8 fr ∧ Us .u8 to ∧ Fits round .u64 := by
  obtain ⟨cs, rfl⟩ := okWide_str Tryd.underlying26 hv
  obtain ⟨fuel, h⟩ := h
  obtain ⟨fuel, hl, hf⟩ := trod_fields Tryd.underlying26 h
  have hc : Tryd.prog.cellsOf 26 = 97 := by kernel_rfl
  have hk : Tryd.prog.cellsOf 23 = 32 := by kernel_rfl
  have h8 : Tryd.prog.cellsOf 24 = 1 := by kernel_rfl
  simp only [List.mem_cons, List.not_mem_nil, or_false, forall_eq_or_imp, forall_eq, hk, h8] at hf
  obtain ⟨⟨y1, f1⟩, ⟨y2, f2⟩, ⟨y3, f3⟩, ⟨y4, f4⟩⟩ := hf
  obtain ⟨priv, e1, l1, u1⟩ := trod_row Tryd.underlying23 Tryd.underlying5 rfl (by kernel_rfl) (by kernel_rfl) f1
  obtain ⟨fr, e2, l2, u2⟩ := trod_row Tryd.underlying23 Tryd.underlying5 rfl (by kernel_rfl) (by kernel_rfl) f2
  obtain ⟨to, e3, l3, u3⟩ := trod_row Tryd.underlying23 Tryd.underlying5 rfl (by kernel_rfl) (by kernel_rfl) f3
  obtain ⟨z, e4, _, wz⟩ := DataW.trod_int Tryd.underlying24 f4
  obtain ⟨round, rfl, hr⟩ := wf_un rfl wz
  refine ⟨priv, fr, to, round, ?_, l1, l2, l3, u1, u2, u3, ⟨hr⟩⟩
  have := cut3 (a := 32) (b := 32) (c := 32) e1 e2 e3 e4 (by rw [hl, hc])
  show Value.agg cs = _
  rw [sentC, ← this]
  rfl
/-- A Sent: nothing but noughts. -/
def zSent : Value := .agg (sentC (List.replicate 32 0) (List.replicate 32 0) (List.replicate 32 0) 0).toArray
def zSentD {H : Type} : DataW H := .agg [zKeyD, zKeyD, zKeyD, .lit (.int .u64 0)]

theorem inviteBack_contract (H : Type) (enc : TypeId × Value → H) (W : World) (base : Nat) (args : Array Value) (ds gs : List (DataW H)) (before : List MemPlace)
    (hval : ∀ (j : Nat) t v, Tryd.f3.params[j]? = some t → args[j]? = some v → Value.okWide Tryd.prog W .any base t v)
    (hW : DataW.Whole enc Tryd.prog Tryd.f3.params.toList Rows.inviteBackSpec.vars false W args.toList ds gs before) (hL : laidMetH Tryd.prog laidL W) (hS : W.ShapedOpen Tryd.prog) :
    Calls Tryd.prog 3 args W fun e W' => ∃ v, e = .returned v ∧ Rows.inviteBackSpec.post enc Tryd.prog Tryd.f3 false true false false W args v W' := by
  have hW' := hW
  obtain ⟨p, q, hA, hV, rfl, _, _⟩ := hW
  rw [Tryd.params3] at hA hval
  obtain ⟨v0, vs0, d0, ds0, p0, q0, hargs, rfl, rfl, h0, r0⟩ := trodAll_cons hA
  obtain ⟨v1, vs1, d1, ds1, p1, q1, rfl, rfl, rfl, h1, r1⟩ := trodAll_cons r0
  obtain ⟨rfl, rfl, rfl⟩ := trodAll_nil r1
  obtain rfl : args = #[v0, v1] := by cases args; simp_all
  obtain ⟨rfl, rfl⟩ := trodVars_none hV
  obtain ⟨own, rfl, ho, hou⟩ := arg_key (hval 0 23 v0 rfl rfl) h0
  obtain ⟨priv, fr, to, round, rfl, hp, hf, ht, hpu, hfu, htu, hru⟩ := arg_sent (hval 1 26 v1 rfl rfl) h1
  refine (inviteBack_ok own priv fr to round ho hp hf ht W (has_nil W) (reads_laid hL hS)).mono fun e W' ⟨v, B', he, ⟨hv, hb⟩, _, st⟩ => ?_
  subst hv
  exact ⟨_, he, post_true kids full rfl (by kernel_rfl) (fun t ht => by rw [Tryd.params3] at ht; revert t; decide +kernel) rfl hW' rfl st⟩

theorem inviteBack_plain (f : FuncId) (fn : Func) (hf : Tryd.pinned.checked.prog.funcNamed "tryst/trystlaw22.InviteBack" = some f) (hfn : Tryd.pinned.checked.prog.funcs[f]? = some fn) :
    false = Tryd.pinned.checked.prog.looks [] ∧ ∀ (j : Nat) t, fn.params[j]? = some t → Tryd.pinned.checked.prog.wantsStandIn t = false := by
  obtain rfl : f = 3 := Option.some.inj ((show Tryd.prog.funcNamed "tryst/trystlaw22.InviteBack" = some 3 by kernel_rfl).symm.trans hf) |>.symm
  obtain rfl : fn = Tryd.f3 := (Option.some.inj (Tryd.func3.symm.trans hfn)).symm
  refine ⟨by kernel_rfl, fun j t ht => ?_⟩
  have hm : t ∈ Tryd.f3.params.toList := by simpa using Array.mem_of_getElem? ht
  have : (Tryd.f3.params.toList.all fun t => Tryd.prog.wantsStandIn t == false) = true := by kernel_rfl
  exact eq_of_beq (List.all_eq_true.1 this t hm)

theorem inviteBack_met (os : Os) : laidMet Tryd.prog Rows.inviteBackRow.laid ((laidWorld os).forCall (fun _ _ => 0) ⟨#[], #[zKey, zSent], []⟩).memory :=
  laidMet_of_run' 8 (by kernel_rfl) (by kernel_rfl)
theorem inviteBack_reads (os : Os) {H : Type} (enc : TypeId × Value → H) : ∃ places, DataW.whole enc Tryd.prog ((laidWorld os).forCall (fun _ _ => 0) ⟨#[], #[zKey, zSent], []⟩).memory Tryd.f3.params.toList Rows.inviteBackSpec.vars false #[zKey, zSent].toList 8 = some ([zKeyD, zSentD], [], places) :=
  ⟨[], by kernel_rfl⟩
theorem inviteBack_lifted (os : Os) (started : os.Started) (H : Type) (enc : TypeId × Value → H) (F : Stop.Interp) :
    ReturnsInHanded {} Tryd.checked os 3 .any ((OpenSpec.ofChange Rows.inviteBackSpec).preRow enc Tryd.prog Tryd.f3 Rows.inviteBackRow.domain false Rows.inviteBackRow.laid) (((OpenSpec.ofChange Rows.inviteBackSpec).at F).post enc Tryd.prog Tryd.f3 false true false false) := by
  obtain ⟨places, hx⟩ := inviteBack_reads os enc
  refine returnsInHanded_of_row (C := Tryd.checked) (s := OpenSpec.ofChange Rows.inviteBackSpec) own started (by kernel_rfl) Tryd.func3
    (witness_row_at (enc := enc) (C := Tryd.checked) false (laidWorld os) #[zKey, zSent] rfl (by kernel_rfl) (by kernel_rfl) (by kernel_rfl)
      (OpenSpec.preRow_of_cond 8 hx (by kernel_rfl) (fun k hk => by cases hk) (by kernel_rfl) (inviteBack_met os))) ?_
  intro W base args ds gs before hval hW _ _ _ hL hS _
  exact inviteBack_contract H enc W base args ds gs before hval hW hL hS
theorem inviteBack_said : Rows.InviteBackSaid :=
  OpenClaim.holds_of_cond 3 Tryd.f3 rfl rfl rfl rfl rfl rfl rfl ⟨rfl, rfl, rfl, rfl, rfl⟩ rfl rfl rfl rfl rfl (by kernel_rfl) Tryd.func3 (by kernel_rfl)
    (of_decide_eq_true (by kernel_rfl)) (by unfold Func.isWrapper; first | (rw [if_pos (by decide +kernel)]; kernel_rfl) | (rw [if_neg (by decide +kernel)]; exact ⟨rfl, rfl⟩))
    (fun os started H enc _ F => by rw [OpenClaim.pre_eq_preRow]; exact inviteBack_lifted os started H enc F)
theorem inviteBack_card : Rows.InviteBackCardSaid :=
  Claim7.holds_tied_plain_at .later [] _ _ _ _ inviteBack_said (fun _ h => by cases h) (by kernel_rfl) (fun _ h => by cases h) inviteBack_row_tie rfl ⟨rfl, rfl⟩ (by kernel_rfl) rfl inviteBack_plain (by kernel_rfl)
end Go.Tw
namespace Go.Proofs.YtbfebdaghcogfaaDoor
theorem inviteBack_holds : Rows.InviteBackCardSaid := Go.Tw.inviteBack_card
end Go.Proofs.YtbfebdaghcogfaaDoor
end

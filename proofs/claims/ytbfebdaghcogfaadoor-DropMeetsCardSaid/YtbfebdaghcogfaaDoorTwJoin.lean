/- What the rows of this seat share: the listed tables, a world that holds them, a key as an argument. -/
import Derived.Test.YtbfebdaghcogfaaDoorTwWe
import Derived.Test.YtbfebdaghcogfaaDoorTwMore
import Derived.Test.YtbfebdaghcogfaaDoorCards
import Derived.Test.YtbfebdaghcogfaaDoorTie
import Derived.WalkKit
import Derived.ProofKit
import Derived.Lib.LaidTab
import Derived.Stop.LaidErr
section
namespace Go.Tw
set_option maxRecDepth 100000
open Go Go.Proofs Go.Proofs.YtbfebdaghcogfaaDoor Go.ChangeShapes Go.WideShapes Go.ChangeAt Go.RowKit

theorem own : ownKnob Tryd.prog.godebug = none := by kernel_rfl
theorem kids : Kids Tryd.prog (· < Tryd.prog.types.size) := kids_rows (by kernel_rfl) (by kernel_rfl)
theorem full : ∀ t e, t < Tryd.prog.types.size → Tryd.prog.underlying t = some (.slice e) → 0 < Tryd.prog.cellsOf e := slices_full_of Tryd.prog (by kernel_rfl)
theorem gH : Tryd.prog.globalNamed "tryst/digest.first" = some 0 := by kernel_rfl
theorem gK : Tryd.prog.globalNamed "tryst/digest.table" = some 1 := by kernel_rfl
theorem gHt : (Tryd.prog.globals[0]?).map (·.type) = some 167 := by kernel_rfl
theorem gKt : (Tryd.prog.globals[1]?).map (·.type) = some 181 := by kernel_rfl

/-- What the rows list. -/
def laidL : List (String × DataW Unit) := [("tryst/digest.first", Rows.laid_tryst_digest_first), ("tryst/digest.table", Rows.laid_tryst_digest_table)]
theorem dataH : (Rows.laid_tryst_digest_first : DataW Unit) = Go.Lib.tabData .u32 (shaH.map fun n : Nat => (n : Int)) := by kernel_rfl
theorem dataK : (Rows.laid_tryst_digest_table : DataW Unit) = Go.Lib.tabData .u32 (shaK.map fun n : Nat => (n : Int)) := by kernel_rfl

theorem reads_laid {W : World} (h : laidMetH Tryd.prog laidL W) (hs : W.ShapedOpen Tryd.prog) : Reads W (keys []) [glH, glK] := by
  have h' : laidMet Tryd.prog [("tryst/digest.first", Rows.laid_tryst_digest_first), ("tryst/digest.table", Rows.laid_tryst_digest_table)] W := h
  rw [dataH, dataK] at h'
  have t1 := Go.Lib.tabIs_of_head (n := 8) (t := 167) (e := 73) gH gHt (by kernel_rfl) (by kernel_rfl) (by kernel_rfl) (by kernel_rfl) h'
  have t2 := Go.Lib.tabIs_of_head (n := 64) (t := 181) (e := 73) gK gKt (by kernel_rfl) (by kernel_rfl) (by kernel_rfl) (by kernel_rfl) h'.tail
  exact reads2 (table_block (z0 := Array.replicate 8 (.int .u32 0)) gH (of_decide_eq_true (by kernel_rfl)) (by kernel_rfl) hs t1) (table_block (z0 := Array.replicate 64 (.int .u32 0)) gK (of_decide_eq_true (by kernel_rfl)) (by kernel_rfl) hs t2)

def layObj (cs : Array Value) : Obj → Obj
  | .cells _ t frozen => .cells cs t frozen
  | o => o
/-- A world for the witness: the settled one, both tables laid. -/
noncomputable def laidWorld (os : Os) : World :=
  { World.holding Tryd.prog os ⟨#[], #[], []⟩ with heap := ((World.holding Tryd.prog os ⟨#[], #[], []⟩).heap.modify 0 (layObj (us .u32 shaH).toArray)).modify 1 (layObj (us .u32 shaK).toArray) }

theorem arg_key {H : Type} {enc : TypeId × Value → H} {w : World} {base b0 : Nat} {sp : Nat → Bool} {held : Bool} {r : Reach} {v : Value} {d : DataW H} {ps : List MemPlace}
    (hv : Value.okWide Tryd.prog w r b0 23 v) (h : DataW.Trod enc Tryd.prog w base sp held 23 v d ps) : ∃ l : List Nat, v = .agg (us .u8 l).toArray ∧ l.length = 32 ∧ Us .u8 l :=
  arg_row Tryd.underlying23 Tryd.underlying5 rfl (by kernel_rfl) (by kernel_rfl) hv h

/-- A key: nothing but noughts. -/
def zKey : Value := .agg (us .u8 (List.replicate 32 0)).toArray
def zKeyD {H : Type} : DataW H := .agg (List.replicate 32 (.lit (.int .u8 0)))
theorem cut3 {α : Type} {cs : List α} {a b c : Nat} {x y z r : List α} (hx : (cs.drop 0).take a = x) (hy : (cs.drop a).take b = y) (hz : (cs.drop (a + b)).take c = z) (hr : (cs.drop (a + b + c)).take 1 = r) (hl : cs.length = a + b + c + 1) : cs = x ++ (y ++ (z ++ r)) := by
  rw [List.drop_zero] at hx
  rw [List.take_of_length_le (by simp; omega)] at hr
  rw [← hx, ← hy, ← hz, ← hr]
  have e1 : cs.drop (a + b + c) = (cs.drop (a + b)).drop c := by rw [List.drop_drop]
  have e2 : cs.drop (a + b) = (cs.drop a).drop b := by rw [List.drop_drop]
  rw [e1, List.take_append_drop, e2, List.take_append_drop, List.take_append_drop]
end Go.Tw
end

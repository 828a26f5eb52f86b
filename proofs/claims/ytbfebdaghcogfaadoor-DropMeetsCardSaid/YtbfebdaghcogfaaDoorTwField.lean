/- Numbers modulo 2^255 - 19 in five limbs: what the program reckons, as lists of numbers; what they are. Plain. -/
import Derived.Test.YtbfebdaghcogfaaDoorTwMore
import Derived.Test.YtbfebdaghcogfaaDoorTwPlain
import Derived.KernelRfl
section
namespace Go.Tw
open EdC (Fp P)

def low51 : Nat := 2251799813685247
theorem and51 (x : Nat) : x &&& 2251799813685247 = x % 2 ^ 51 := Nat.and_two_pow_sub_one_eq_mod x 51

/-- The number of limbs. -/
def val : List Nat → Nat
  | [] => 0
  | a :: r => a + 2251799813685248 * val r
/-- A number's limbs. -/
class El (l : List Nat) : Prop where
  len : l.length = 5
  lt : ∀ x, x ∈ l → x < 2 ^ 52
instance El.us {l : List Nat} [h : El l] : Us .u64 l := ⟨fun x hx => Nat.lt_trans (h.lt x hx) (by decide)⟩
@[simp] theorem El.length {l : List Nat} [h : El l] : l.length = 5 := h.len
def fv (l : List Nat) : Fp := Fin.ofNat P (val l)
theorem fv_eq {l m : List Nat} (h : val l % P = val m % P) : fv l = fv m := by
  apply Fin.ext; simp only [fv, Fin.ofNat]; exact h
theorem five {l : List Nat} (h : l.length = 5) : ∃ a b c d e, l = [a, b, c, d, e] := by
  match l, h with
  | [a, b, c, d, e], _ => exact ⟨a, b, c, d, e, rfl⟩

/-! carried -/
def carS (n : Nat) (a : List Nat) : List Nat :=
  (a.set (4 - n) (a.getD (4 - n) 0 &&& 2251799813685247)).set (4 - n) (((a.set (4 - n) (a.getD (4 - n) 0 &&& 2251799813685247)).getD (4 - n) 0 + (a.set (4 - n) (a.getD (4 - n) 0 &&& 2251799813685247)).getD (4 - n - 1) 0 >>> 51) % 2 ^ IntKind.u64.bits)
def carR (l : List Nat) : List Nat := iter carS l 4
def carL (l : List Nat) : List Nat :=
  ((carR l).set 0 ((carR l).getD 0 0 &&& 2251799813685247)).set 0 ((((carR l).set 0 ((carR l).getD 0 0 &&& 2251799813685247)).getD 0 0 + (19 * (l.getD 4 0 >>> 51)) % 2 ^ IntKind.u64.bits) % 2 ^ IntKind.u64.bits)
theorem carS_us {n : Nat} {a : List Nat} (h : Us .u64 a) : Us .u64 (carS n a) := by
  unfold carS
  have : ∀ x, Fits (x % 2 ^ IntKind.u64.bits) .u64 := fun x => inferInstance
  infer_instance
theorem iter_carS_us {l : List Nat} [h : Us .u64 l] {n : Nat} : Us .u64 (iter carS l n) := iter_us (fun _ _ => carS_us) h n
@[simp] theorem iter_carS_length (l : List Nat) (n : Nat) : (iter carS l n).length = l.length := iter_len (by intros; simp [carS]) l n
theorem carL_eq {a b c d e : Nat} (ha : a < 2 ^ 64) (hb : b < 2 ^ 64) (hc : c < 2 ^ 64) (hd : d < 2 ^ 64) (he : e < 2 ^ 64) :
    carL [a, b, c, d, e] = [a % 2 ^ 51 + 19 * (e / 2 ^ 51), b % 2 ^ 51 + a / 2 ^ 51, c % 2 ^ 51 + b / 2 ^ 51, d % 2 ^ 51 + c / 2 ^ 51, e % 2 ^ 51 + d / 2 ^ 51] := by
  show [((a &&& 2251799813685247) + (19 * (e >>> 51)) % 2 ^ 64) % 2 ^ 64, ((b &&& 2251799813685247) + a >>> 51) % 2 ^ 64, ((c &&& 2251799813685247) + b >>> 51) % 2 ^ 64, ((d &&& 2251799813685247) + c >>> 51) % 2 ^ 64, ((e &&& 2251799813685247) + d >>> 51) % 2 ^ 64] = _
  simp only [and51, Nat.shiftRight_eq_div_pow]
  congr 1
  · omega
  congr 1
  · omega
  congr 1
  · omega
  congr 1
  · omega
  congr 1
  omega
theorem carL_len {l : List Nat} (h : l.length = 5) : (carL l).length = 5 := by simp [carL, carR, h]
theorem us5 {a b c d e : Nat} (h : Us .u64 [a, b, c, d, e]) : a < 2 ^ 64 ∧ b < 2 ^ 64 ∧ c < 2 ^ 64 ∧ d < 2 ^ 64 ∧ e < 2 ^ 64 :=
  ⟨h.lt a (by simp), h.lt b (by simp), h.lt c (by simp), h.lt d (by simp), h.lt e (by simp)⟩
theorem carL_el {l : List Nat} (hu : Us .u64 l) (h : l.length = 5) : El (carL l) := by
  obtain ⟨a, b, c, d, e, rfl⟩ := five h
  obtain ⟨ha, hb, hc, hd, he⟩ := us5 hu
  rw [carL_eq ha hb hc hd he]
  refine ⟨rfl, fun x hx => ?_⟩
  simp only [List.mem_cons, List.not_mem_nil, or_false] at hx
  rcases hx with rfl | rfl | rfl | rfl | rfl <;> omega
theorem carL_val {l : List Nat} (hu : Us .u64 l) (h : l.length = 5) : val (carL l) + P * (l.getD 4 0 / 2 ^ 51) = val l := by
  obtain ⟨a, b, c, d, e, rfl⟩ := five h
  obtain ⟨ha, hb, hc, hd, he⟩ := us5 hu
  rw [carL_eq ha hb hc hd he]
  simp only [val, P, List.getD_cons_succ, List.getD_cons_zero]
  omega
theorem carL_fv {l : List Nat} (hu : Us .u64 l) (h : l.length = 5) : fv (carL l) = fv l := by
  apply fv_eq
  rw [← carL_val hu h, Nat.add_mul_mod_self_left]

/-! small numbers, sums, differences -/
def fSmall (n : Nat) : List Nat := [n &&& 2251799813685247, n >>> 51, 0, 0, 0]
theorem fSmall_el {n : Nat} (h : n < 2 ^ 64) : El (fSmall n) := ⟨rfl, fun x hx => by
  simp only [fSmall, List.mem_cons, List.not_mem_nil, or_false, and51, Nat.shiftRight_eq_div_pow] at hx
  rcases hx with rfl | rfl | rfl | rfl | rfl <;> omega⟩
theorem fSmall_fv (n : Nat) : fv (fSmall n) = Fin.ofNat P n := by
  apply Fin.ext
  simp only [fv, Fin.ofNat, fSmall, val, and51, Nat.shiftRight_eq_div_pow]
  congr 1
  omega
def addS (y : List Nat) (i : Nat) (x : List Nat) : List Nat := x.set i ((x.getD i 0 + y.getD i 0) % 2 ^ IntKind.u64.bits)
def fAdd (x y : List Nat) : List Nat := carL (iter (addS y) x 5)
@[simp] theorem addS_length (x y : List Nat) (n : Nat) : (iter (addS y) x n).length = x.length := iter_len (by intros; simp [addS]) x n
instance addS_us {x y : List Nat} {n : Nat} [h : Us .u64 x] : Us .u64 (iter (addS y) x n) := iter_us (fun n l h => ⟨fun y hy => (List.mem_or_eq_of_mem_set hy).elim (h.lt y) (fun e => by rw [e]; exact Nat.mod_lt _ (by decide))⟩) h n
theorem fAdd_el {x y : List Nat} [hx : El x] : El (fAdd x y) := carL_el inferInstance (by simp)
theorem el5 {a b c d e : Nat} (h : El [a, b, c, d, e]) : a < 2 ^ 52 ∧ b < 2 ^ 52 ∧ c < 2 ^ 52 ∧ d < 2 ^ 52 ∧ e < 2 ^ 52 :=
  ⟨h.lt a (by simp), h.lt b (by simp), h.lt c (by simp), h.lt d (by simp), h.lt e (by simp)⟩
theorem ofNat_add (a b : Nat) : (Fin.ofNat P a + Fin.ofNat P b : Fp) = Fin.ofNat P (a + b) := by
  apply Fin.ext; rw [Fin.val_add]; simp only [Fin.ofNat]; rw [← Nat.add_mod]
theorem ofNat_mul (a b : Nat) : (Fin.ofNat P a * Fin.ofNat P b : Fp) = Fin.ofNat P (a * b) := by
  apply Fin.ext; rw [Fin.val_mul]; simp only [Fin.ofNat]; rw [← Nat.mul_mod]
theorem ofNat_P (a k : Nat) : (Fin.ofNat P (a + P * k) : Fp) = Fin.ofNat P a := by
  apply Fin.ext; simp only [Fin.ofNat]; rw [Nat.add_mul_mod_self_left]
theorem fAdd_fv {x y : List Nat} [hx : El x] [hy : El y] : fv (fAdd x y) = fv x + fv y := by
  have hl : (iter (addS y) x 5).length = 5 := by simp
  rw [fAdd, carL_fv inferInstance hl]
  obtain ⟨a, b, c, d, e, rfl⟩ := five hx.len
  obtain ⟨a', b', c', d', e', rfl⟩ := five hy.len
  obtain ⟨h1, h2, h3, h4, h5⟩ := el5 hx
  obtain ⟨k1, k2, k3, k4, k5⟩ := el5 hy
  show fv [(a + a') % 2 ^ 64, (b + b') % 2 ^ 64, (c + c') % 2 ^ 64, (d + d') % 2 ^ 64, (e + e') % 2 ^ 64] = _
  simp only [fv]
  rw [ofNat_add]
  simp only [val]
  congr 1
  omega
def subS (y : List Nat) (i : Nat) (x : List Nat) : List Nat :=
  (x.set i ((x.getD i 0 + (if i = 0 then 9007199254740916 else 9007199254740988)) % 2 ^ IntKind.u64.bits)).set i (((x.set i ((x.getD i 0 + (if i = 0 then 9007199254740916 else 9007199254740988)) % 2 ^ IntKind.u64.bits)).getD i 0 + (2 ^ IntKind.u64.bits - y.getD i 0)) % 2 ^ IntKind.u64.bits)
def fSub (x y : List Nat) : List Nat := carL (iter (subS y) x 5)
@[simp] theorem subS_length (x y : List Nat) (n : Nat) : (iter (subS y) x n).length = x.length := iter_len (by intros; simp [subS]) x n
instance subS_us {x y : List Nat} {n : Nat} [h : Us .u64 x] : Us .u64 (iter (subS y) x n) := iter_us (fun n l h => by
  unfold subS
  have : ∀ x, Fits (x % 2 ^ IntKind.u64.bits) .u64 := fun x => inferInstance
  infer_instance) h n
theorem fSub_el {x y : List Nat} [hx : El x] : El (fSub x y) := carL_el inferInstance (by simp)
theorem subS_five {a b c d e a' b' c' d' e' : Nat} : iter (subS [a', b', c', d', e']) [a, b, c, d, e] 5 = [((a + 9007199254740916) % 2 ^ IntKind.u64.bits + (2 ^ IntKind.u64.bits - a')) % 2 ^ IntKind.u64.bits, ((b + 9007199254740988) % 2 ^ IntKind.u64.bits + (2 ^ IntKind.u64.bits - b')) % 2 ^ IntKind.u64.bits, ((c + 9007199254740988) % 2 ^ IntKind.u64.bits + (2 ^ IntKind.u64.bits - c')) % 2 ^ IntKind.u64.bits, ((d + 9007199254740988) % 2 ^ IntKind.u64.bits + (2 ^ IntKind.u64.bits - d')) % 2 ^ IntKind.u64.bits, ((e + 9007199254740988) % 2 ^ IntKind.u64.bits + (2 ^ IntKind.u64.bits - e')) % 2 ^ IntKind.u64.bits] := by
  simp only [iter, subS, List.set_cons_zero, List.set_cons_succ, List.getD_cons_zero, List.getD_cons_succ, if_true, reduceIte, Nat.succ_ne_zero]
theorem sub_red {a c b M : Nat} (h1 : a + c < M) (h2 : b ≤ a + c) (h3 : b < M) : ((a + c) % M + (M - b)) % M = a + c - b := by
  rw [Nat.mod_eq_of_lt h1, show a + c + (M - b) = (a + c - b) + M from by omega, Nat.add_mod_right, Nat.mod_eq_of_lt (by omega)]
theorem fSub_fv {x y : List Nat} [hx : El x] [hy : El y] : fv (fSub x y) = fv x - fv y := by
  have hl : (iter (subS y) x 5).length = 5 := by simp
  rw [fSub, carL_fv inferInstance hl]
  obtain ⟨a, b, c, d, e, rfl⟩ := five hx.len
  obtain ⟨a', b', c', d', e', rfl⟩ := five hy.len
  obtain ⟨h1, h2, h3, h4, h5⟩ := el5 hx
  obtain ⟨k1, k2, k3, k4, k5⟩ := el5 hy
  have hM : 2 ^ IntKind.u64.bits = 18446744073709551616 := rfl
  rw [subS_five, hM]
  rw [sub_red (a := a) (by omega) (by omega) (by omega), sub_red (a := b) (by omega) (by omega) (by omega), sub_red (a := c) (by omega) (by omega) (by omega), sub_red (a := d) (by omega) (by omega) (by omega), sub_red (a := e) (by omega) (by omega) (by omega)]
  have key : fv [a + 9007199254740916 - a', b + 9007199254740988 - b', c + 9007199254740988 - c', d + 9007199254740988 - d', e + 9007199254740988 - e'] + fv [a', b', c', d', e'] = fv [a, b, c, d, e] := by
    simp only [fv]
    rw [ofNat_add, ← ofNat_P (val [a, b, c, d, e]) 4]
    simp only [val, P]
    congr 1
    omega
  rw [← key]
  generalize fv [a + 9007199254740916 - a', b + 9007199254740988 - b', c + 9007199254740988 - c', d + 9007199254740988 - d', e + 9007199254740988 - e'] = u
  generalize fv [a', b', c', d', e'] = v
  grind

/-- Behind a sum of products: what is above 51 bits. -/
theorem hilo {t : Nat} (h : t < 2 ^ 115) : (((t / 2 ^ 64 % 2 ^ 64) <<< 13) % 2 ^ 64) ||| ((t % 2 ^ 64) >>> 51) = t / 2 ^ 51 := by
  have h1 : (t / 2 ^ 64 % 2 ^ 64) <<< 13 = t / 2 ^ 64 * 2 ^ 13 := by rw [Nat.shiftLeft_eq, Nat.mod_eq_of_lt (by omega)]
  have h2 : (t / 2 ^ 64 % 2 ^ 64) <<< 13 % 2 ^ 64 = (t / 2 ^ 64) <<< 13 := by rw [h1, Nat.shiftLeft_eq]; omega
  rw [h2, ← Nat.shiftLeft_add_eq_or_of_lt (by rw [Nat.shiftRight_eq_div_pow]; omega), Nat.shiftLeft_eq, Nat.shiftRight_eq_div_pow]
  omega

/-! products -/
/-- Sums of products as the program keeps them: the high word, the low one. -/
def wid (s : List Nat) : List Nat := s.flatMap fun v => [v / 2 ^ 64 % 2 ^ IntKind.u64.bits, v % 2 ^ IntKind.u64.bits]
instance wid_us {s : List Nat} : Us .u64 (wid s) := ⟨fun x hx => by
  simp only [wid, List.mem_flatMap, List.mem_cons, List.not_mem_nil, or_false] at hx
  obtain ⟨v, _, rfl | rfl⟩ := hx <;> exact Nat.mod_lt _ (by decide)⟩
@[simp] theorem wid_length (s : List Nat) : (wid s).length = s.length * 2 := by
  induction s with
  | nil => rfl
  | cons a r ih => simp only [wid, List.flatMap_cons, List.length_append, List.length_cons, List.length_nil] at *; omega
def wput (L : List Nat) (o m : Nat) : List Nat :=
  (L.set (o + 1) ((L.getD (o + 1) 0 + m % 2 ^ 64 + 0) % 2 ^ 64)).set (o + 0) (((L.set (o + 1) ((L.getD (o + 1) 0 + m % 2 ^ 64 + 0) % 2 ^ 64)).getD (o + 0) 0 + m / 2 ^ 64 + (L.getD (o + 1) 0 + m % 2 ^ 64 + 0) / 2 ^ 64) % 2 ^ 64)
@[simp] theorem wput_length (L : List Nat) (o m : Nat) : (wput L o m).length = L.length := by simp [wput]
theorem wid_cons (v : Nat) (s : List Nat) : wid (v :: s) = v / 2 ^ 64 % 2 ^ 64 :: v % 2 ^ 64 :: wid s := rfl
theorem wput_wid : ∀ {s : List Nat} {j m : Nat}, j < s.length → wput (wid s) (j * 2) m = wid (s.set j (s.getD j 0 + m))
  | [], _, _, h => by simp at h
  | v :: s, 0, m, _ => by
    rw [List.set_cons_zero, wid_cons, wid_cons]
    simp only [wput, Nat.zero_mul, Nat.zero_add, Nat.add_zero, List.getD_cons_succ, List.getD_cons_zero, List.set_cons_succ, List.set_cons_zero]
    congr 1
    · omega
    · congr 1; omega
  | v :: s, j + 1, m, h => by
    have ih := wput_wid (s := s) (j := j) (m := m) (by simpa using h)
    rw [List.set_cons_succ, wid_cons, wid_cons, List.getD_cons_succ, ← ih]
    have e : (j + 1) * 2 = j * 2 + 1 + 1 := by omega
    simp only [wput, e, Nat.add_zero, List.getD_cons_succ, List.set_cons_succ]
def mB (y : List Nat) (i k : Nat) : Nat := if 5 ≤ i + k then (y.getD k 0 * 19) % 2 ^ IntKind.u64.bits else y.getD k 0
instance {y : List Nat} {i k : Nat} [El y] : Fits (mB y i k) .u64 := by unfold mB; split <;> infer_instance
def mS (x y : List Nat) (n : Nat) : List Nat := iter (fun n s => s.set ((n / 5 + n % 5) % 5) (s.getD ((n / 5 + n % 5) % 5) 0 + x.getD (n / 5) 0 * mB y (n / 5) (n % 5))) (List.replicate 5 0) n
@[simp] theorem mS_length (x y : List Nat) (n : Nat) : (mS x y n).length = 5 := by rw [mS, iter_len (by intros; simp)]; rfl
theorem mS_step (x y : List Nat) {i k : Nat} (hk : k < 5) : (mS x y (5 * i + k)).set ((i + k) % 5) ((mS x y (5 * i + k)).getD ((i + k) % 5) 0 + x.getD i 0 * mB y i k) = mS x y (5 * i + (k + 1)) := by
  have e1 : (5 * i + k) / 5 = i := by omega
  have e2 : (5 * i + k) % 5 = k := by omega
  show _ = (mS x y (5 * i + k)).set (((5 * i + k) / 5 + (5 * i + k) % 5) % 5) ((mS x y (5 * i + k)).getD (((5 * i + k) / 5 + (5 * i + k) % 5) % 5) 0 + x.getD ((5 * i + k) / 5) 0 * mB y ((5 * i + k) / 5) ((5 * i + k) % 5))
  rw [e1, e2]
theorem El.getD_lt {l : List Nat} (h : El l) (i : Nat) : l.getD i 0 < 2 ^ 52 := by
  rw [List.getD_eq_getElem?_getD]
  cases e : l[i]? with
  | none => exact Nat.two_pow_pos _
  | some x => exact h.lt x (List.mem_of_getElem? e)
theorem mB_lt {y : List Nat} [hy : El y] (i k : Nat) : mB y i k < 2 ^ 57 := by
  have := hy.getD_lt k
  unfold mB; split
  · exact Nat.lt_of_le_of_lt (Nat.mod_le _ _) (by omega)
  · omega
/-- Each sum is small. -/
theorem mS_le {x y : List Nat} [hx : El x] [hy : El y] : ∀ n j, (mS x y n).getD j 0 ≤ n * 2 ^ 109
  | 0, j => by
    show (List.replicate 5 0).getD j 0 ≤ _
    rw [List.getD_eq_getElem?_getD, List.getElem?_replicate]
    split <;> simp
  | n + 1, j => by
    show ((mS x y n).set ((n / 5 + n % 5) % 5) ((mS x y n).getD ((n / 5 + n % 5) % 5) 0 + x.getD (n / 5) 0 * mB y (n / 5) (n % 5))).getD j 0 ≤ _
    have h1 := mS_le (x := x) (y := y) n j
    have h2 := mS_le (x := x) (y := y) n ((n / 5 + n % 5) % 5)
    have h3 : x.getD (n / 5) 0 * mB y (n / 5) (n % 5) < 2 ^ 52 * 2 ^ 57 := Nat.mul_lt_mul'' (hx.getD_lt _) (mB_lt _ _)
    generalize x.getD (n / 5) 0 * mB y (n / 5) (n % 5) = m at *
    rw [List.getD_eq_getElem?_getD, List.getElem?_set]
    split
    · split
      · simp only [Option.getD_some]; omega
      · simp
    · rw [← List.getD_eq_getElem?_getD]; exact Nat.le_trans h1 (Nat.mul_le_mul_right _ (Nat.le_succ n))
/-- What goes on behind the products. -/
abbrev whi (t : Nat) : Nat := t / 2 ^ 64 % 2 ^ IntKind.u64.bits
abbrev wlo (t : Nat) : Nat := t % 2 ^ IntKind.u64.bits
abbrev wov (t : Nat) : Nat := (whi t <<< 13) % 2 ^ IntKind.u64.bits ||| wlo t >>> 51
def mCs (i : Nat) (q : List Nat × List Nat × Nat) : List Nat × List Nat × Nat :=
  (q.1.set i (q.1.getD i 0 + q.2.2 * 1), q.2.1.set i (wlo (q.1.getD i 0 + q.2.2 * 1) &&& 2251799813685247), wov (q.1.getD i 0 + q.2.2 * 1))
def mC (s : List Nat) (i : Nat) : List Nat × List Nat × Nat := iter mCs (s, List.replicate 5 0, 0) i
theorem mC_fits {s : List Nat} {i : Nat} : Fits (mC s i).2.2 .u64 := by
  cases i with
  | zero => exact (inferInstance : Fits 0 .u64)
  | succ i => exact (inferInstance : Fits (wov ((mC s i).1.getD i 0 + (mC s i).2.2 * 1)) .u64)
instance {s : List Nat} {i : Nat} : Fits (mC s i).2.2 .u64 := mC_fits
theorem mC_len (s : List Nat) : ∀ i, (mC s i).1.length = s.length ∧ (mC s i).2.1.length = 5
  | 0 => ⟨rfl, rfl⟩
  | i + 1 => by
    have := mC_len s i
    exact ⟨by show ((mC s i).1.set _ _).length = _; simp [this.1], by show ((mC s i).2.1.set _ _).length = _; simp [this.2]⟩
theorem mC_us (s : List Nat) : ∀ i, Us .u64 (mC s i).2.1
  | 0 => (inferInstance : Us .u64 (List.replicate 5 0))
  | i + 1 => by
    have := mC_us s i
    show Us .u64 ((mC s i).2.1.set _ _)
    infer_instance
instance {s : List Nat} {i : Nat} : Us .u64 (mC s i).2.1 := mC_us s i
/-- The last carry: 19 times it, onto the lowest limbs. -/
def mE (l : List Nat) (o : Nat) : List Nat :=
  (l.set 0 ((o * 19 % 2 ^ IntKind.u64.bits + l.getD 0 0 + 0) % 2 ^ 64 &&& 2251799813685247)).set 1 (((l.set 0 ((o * 19 % 2 ^ IntKind.u64.bits + l.getD 0 0 + 0) % 2 ^ 64 &&& 2251799813685247)).getD 1 0 + (((((o * 19 / 2 ^ 64 + (o * 19 % 2 ^ IntKind.u64.bits + l.getD 0 0 + 0) / 2 ^ 64) % 2 ^ IntKind.u64.bits) <<< 13) % 2 ^ IntKind.u64.bits) ||| ((o * 19 % 2 ^ IntKind.u64.bits + l.getD 0 0 + 0) % 2 ^ 64) >>> 51)) % 2 ^ IntKind.u64.bits)
@[simp] theorem mE_length (l : List Nat) (o : Nat) : (mE l o).length = l.length := by simp [mE]
instance {l : List Nat} {o : Nat} [Us .u64 l] : Us .u64 (mE l o) := by
  unfold mE
  have : ∀ x, Fits (x % 2 ^ IntKind.u64.bits) .u64 := fun x => inferInstance
  have h2 : ∀ x, Fits (x % 2 ^ 64 &&& 2251799813685247) .u64 := fun x => ⟨Nat.lt_of_le_of_lt Nat.and_le_left (Nat.mod_lt _ (by decide))⟩
  infer_instance
def fMul (x y : List Nat) : List Nat := carL (mE (mC (mS x y 25) 5).2.1 (mC (mS x y 25) 5).2.2)
theorem fMul_el {x y : List Nat} : El (fMul x y) := carL_el inferInstance (by simp [(mC_len _ _).2])
theorem mS_five' (x0 x1 x2 x3 x4 y0 y1 y2 y3 y4 : Nat) : mS [x0, x1, x2, x3, x4] [y0, y1, y2, y3, y4] 25 =
    [0 + x0 * y0 + x1 * (y4 * 19 % 2 ^ IntKind.u64.bits) + x2 * (y3 * 19 % 2 ^ IntKind.u64.bits) + x3 * (y2 * 19 % 2 ^ IntKind.u64.bits) + x4 * (y1 * 19 % 2 ^ IntKind.u64.bits),
     0 + x0 * y1 + x1 * y0 + x2 * (y4 * 19 % 2 ^ IntKind.u64.bits) + x3 * (y3 * 19 % 2 ^ IntKind.u64.bits) + x4 * (y2 * 19 % 2 ^ IntKind.u64.bits),
     0 + x0 * y2 + x1 * y1 + x2 * y0 + x3 * (y4 * 19 % 2 ^ IntKind.u64.bits) + x4 * (y3 * 19 % 2 ^ IntKind.u64.bits),
     0 + x0 * y3 + x1 * y2 + x2 * y1 + x3 * y0 + x4 * (y4 * 19 % 2 ^ IntKind.u64.bits),
     0 + x0 * y4 + x1 * y3 + x2 * y2 + x3 * y1 + x4 * y0] := by
  kernel_rfl
theorem mS_five (x0 x1 x2 x3 x4 y0 y1 y2 y3 y4 : Nat) (h0 : y0 < 2 ^ 52) (h1 : y1 < 2 ^ 52) (h2 : y2 < 2 ^ 52) (h3 : y3 < 2 ^ 52) (h4 : y4 < 2 ^ 52) : mS [x0, x1, x2, x3, x4] [y0, y1, y2, y3, y4] 25 =
    [0 + x0 * y0 + x1 * (y4 * 19) + x2 * (y3 * 19) + x3 * (y2 * 19) + x4 * (y1 * 19),
     0 + x0 * y1 + x1 * y0 + x2 * (y4 * 19) + x3 * (y3 * 19) + x4 * (y2 * 19),
     0 + x0 * y2 + x1 * y1 + x2 * y0 + x3 * (y4 * 19) + x4 * (y3 * 19),
     0 + x0 * y3 + x1 * y2 + x2 * y1 + x3 * y0 + x4 * (y4 * 19),
     0 + x0 * y4 + x1 * y3 + x2 * y2 + x3 * y1 + x4 * y0] := by
  have e1 : y1 * 19 % 2 ^ IntKind.u64.bits = y1 * 19 := Nat.mod_eq_of_lt (by simp only [IntKind.bits]; omega)
  have e2 : y2 * 19 % 2 ^ IntKind.u64.bits = y2 * 19 := Nat.mod_eq_of_lt (by simp only [IntKind.bits]; omega)
  have e3 : y3 * 19 % 2 ^ IntKind.u64.bits = y3 * 19 := Nat.mod_eq_of_lt (by simp only [IntKind.bits]; omega)
  have e4 : y4 * 19 % 2 ^ IntKind.u64.bits = y4 * 19 := Nat.mod_eq_of_lt (by simp only [IntKind.bits]; omega)
  rw [mS_five', e1, e2, e3, e4]
theorem mul_poly (B p x0 x1 x2 x3 x4 y0 y1 y2 y3 y4 : Nat) (hB : B * B * B * B * B = p + 19) :
    (x0 + B * (x1 + B * (x2 + B * (x3 + B * (x4 + B * 0))))) * (y0 + B * (y1 + B * (y2 + B * (y3 + B * (y4 + B * 0))))) =
    (0 + x0 * y0 + x1 * (y4 * 19) + x2 * (y3 * 19) + x3 * (y2 * 19) + x4 * (y1 * 19)) + B * ((0 + x0 * y1 + x1 * y0 + x2 * (y4 * 19) + x3 * (y3 * 19) + x4 * (y2 * 19)) + B * ((0 + x0 * y2 + x1 * y1 + x2 * y0 + x3 * (y4 * 19) + x4 * (y3 * 19)) + B * ((0 + x0 * y3 + x1 * y2 + x2 * y1 + x3 * y0 + x4 * (y4 * 19)) + B * ((0 + x0 * y4 + x1 * y3 + x2 * y2 + x3 * y1 + x4 * y0) + B * 0))))
    + p * ((x1 * y4 + x2 * y3 + x3 * y2 + x4 * y1) + B * ((x2 * y4 + x3 * y3 + x4 * y2) + B * ((x3 * y4 + x4 * y3) + B * (x4 * y4)))) := by
  grind
theorem mC_five (s0 s1 s2 s3 s4 : Nat) : mC [s0, s1, s2, s3, s4] 5 =
    (let o1 := wov (s0 + 0 * 1); let o2 := wov (s1 + o1 * 1); let o3 := wov (s2 + o2 * 1); let o4 := wov (s3 + o3 * 1)
     ([s0 + 0 * 1, s1 + o1 * 1, s2 + o2 * 1, s3 + o3 * 1, s4 + o4 * 1], [wlo (s0 + 0 * 1) &&& 2251799813685247, wlo (s1 + o1 * 1) &&& 2251799813685247, wlo (s2 + o2 * 1) &&& 2251799813685247, wlo (s3 + o3 * 1) &&& 2251799813685247, wlo (s4 + o4 * 1) &&& 2251799813685247], wov (s4 + o4 * 1))) := by
  kernel_rfl
theorem wov_eq {t : Nat} (h : t < 2 ^ 115) : wov t = t / 2 ^ 51 := hilo h
theorem wlo_eq (t : Nat) : wlo t &&& 2251799813685247 = t % 2 ^ 51 := by
  rw [and51]; show t % 2 ^ 64 % 2 ^ 51 = _; omega
/-- What is left of the sums. -/
theorem mC_val {s : List Nat} (hl : s.length = 5) (hs : ∀ j, s.getD j 0 ≤ 2 ^ 114) :
    val (mC s 5).2.1 + 2 ^ 255 * (mC s 5).2.2 = val s ∧ (∀ x, x ∈ (mC s 5).2.1 → x < 2 ^ 51) ∧ (mC s 5).2.2 < 2 ^ 64 := by
  obtain ⟨s0, s1, s2, s3, s4, rfl⟩ := five hl
  have h0 := hs 0; have h1 := hs 1; have h2 := hs 2; have h3 := hs 3; have h4 := hs 4
  simp only [List.getD_cons_zero, List.getD_cons_succ] at h0 h1 h2 h3 h4
  rw [mC_five]
  simp only [wlo_eq]
  simp only [Nat.mul_one, Nat.add_zero]
  have e1 := wov_eq (t := s0) (by omega)
  rw [e1]
  have e2 := wov_eq (t := s1 + s0 / 2 ^ 51) (by omega)
  rw [e2]
  have e3 := wov_eq (t := s2 + (s1 + s0 / 2 ^ 51) / 2 ^ 51) (by omega)
  rw [e3]
  have e4 := wov_eq (t := s3 + (s2 + (s1 + s0 / 2 ^ 51) / 2 ^ 51) / 2 ^ 51) (by omega)
  rw [e4]
  have e5 := wov_eq (t := s4 + (s3 + (s2 + (s1 + s0 / 2 ^ 51) / 2 ^ 51) / 2 ^ 51) / 2 ^ 51) (by omega)
  rw [e5]
  clear e1 e2 e3 e4 e5
  refine ⟨?_, ?_, by omega⟩
  · simp only [val]
    omega
  · intro x hx
    simp only [List.mem_cons, List.not_mem_nil, or_false] at hx
    rcases hx with rfl | rfl | rfl | rfl | rfl <;> exact Nat.mod_lt _ (by decide)
theorem mE_eq {a b c d e o : Nat} (ha : a < 2 ^ 51) (hb : b < 2 ^ 51) (ho : o < 2 ^ 64) : mE [a, b, c, d, e] o = [(o * 19 + a) % 2 ^ 51, b + (o * 19 + a) / 2 ^ 51, c, d, e] := by
  have h1 : (o * 19 % 2 ^ 64 + a + 0) % 2 ^ 64 = (o * 19 + a) % 2 ^ 64 := by omega
  have h2 : (o * 19 / 2 ^ 64 + (o * 19 % 2 ^ 64 + a + 0) / 2 ^ 64) % 2 ^ 64 = (o * 19 + a) / 2 ^ 64 % 2 ^ 64 := by omega
  show [(o * 19 % 2 ^ 64 + a + 0) % 2 ^ 64 &&& 2251799813685247, (b + (((((o * 19 / 2 ^ 64 + (o * 19 % 2 ^ 64 + a + 0) / 2 ^ 64) % 2 ^ 64) <<< 13) % 2 ^ 64) ||| ((o * 19 % 2 ^ 64 + a + 0) % 2 ^ 64) >>> 51)) % 2 ^ 64, c, d, e] = _
  rw [h1, h2, hilo (t := o * 19 + a) (by omega), and51]
  congr 1
  · omega
  · congr 1; omega
theorem fMul_fv {x y : List Nat} [hx : El x] [hy : El y] : fv (fMul x y) = fv x * fv y := by
  have hb : ∀ j, (mS x y 25).getD j 0 ≤ 2 ^ 114 := fun j => Nat.le_trans (mS_le 25 j) (by decide)
  obtain ⟨hv, hl, ho⟩ := mC_val (mS_length x y 25) hb
  have hlen := (mC_len (mS x y 25) 5).2
  rw [fMul, carL_fv inferInstance (by simp [hlen])]
  generalize (mC (mS x y 25) 5).2.2 = o at *
  generalize (mC (mS x y 25) 5).2.1 = l at *
  obtain ⟨a, b, c, d, e, rfl⟩ := five hlen
  rw [mE_eq (hl a (by simp)) (hl b (by simp)) ho]
  have e1 : val [(o * 19 + a) % 2 ^ 51, b + (o * 19 + a) / 2 ^ 51, c, d, e] + P * o = val (mS x y 25) := by
    rw [← hv]; simp only [val, P]; omega
  have e2 : fv [(o * 19 + a) % 2 ^ 51, b + (o * 19 + a) / 2 ^ 51, c, d, e] = Fin.ofNat P (val (mS x y 25)) := by
    rw [← e1, ofNat_P]; rfl
  rw [e2]
  clear e1 e2 hv hb hl
  obtain ⟨x0, x1, x2, x3, x4, rfl⟩ := five hx.len
  obtain ⟨y0, y1, y2, y3, y4, rfl⟩ := five hy.len
  obtain ⟨k1, k2, k3, k4, k5⟩ := el5 hy
  rw [mS_five _ _ _ _ _ _ _ _ _ _ k1 k2 k3 k4 k5]
  simp only [fv]
  rw [ofNat_mul]
  have key := mul_poly 2251799813685248 P x0 x1 x2 x3 x4 y0 y1 y2 y3 y4 (by decide)
  rw [← ofNat_P (val [_, _, _, _, _]) ((x1 * y4 + x2 * y3 + x3 * y2 + x4 * y1) + 2251799813685248 * ((x2 * y4 + x3 * y3 + x4 * y2) + 2251799813685248 * ((x3 * y4 + x4 * y3) + 2251799813685248 * (x4 * y4))))]
  exact (congrArg (Fin.ofNat P) key).symm
end Go.Tw
end

section
namespace Go.Tw
open EdC (Fp P)

/-! the least limbs -/
def ovL (z : List Nat) : Nat → Nat
  | 0 => 19
  | i + 1 => ((ovL z i + z.getD i 0) % 2 ^ IntKind.u64.bits) >>> 51
instance {z : List Nat} {i : Nat} : Fits (ovL z i) .u64 := by
  cases i with
  | zero => exact ⟨show 19 < 2 ^ IntKind.u64.bits by decide⟩
  | succ i => exact (inferInstance : Fits (((ovL z i + z.getD i 0) % 2 ^ IntKind.u64.bits) >>> 51) .u64)
def leS (i : Nat) (l : List Nat) : List Nat :=
  (l.set (i + 1) ((l.getD (i + 1) 0 + l.getD i 0 >>> 51) % 2 ^ IntKind.u64.bits)).set i ((l.set (i + 1) ((l.getD (i + 1) 0 + l.getD i 0 >>> 51) % 2 ^ IntKind.u64.bits)).getD i 0 &&& 2251799813685247)
theorem leS_us {i : Nat} {l : List Nat} (h : Us .u64 l) : Us .u64 (leS i l) := by
  unfold leS
  have : ∀ x, Fits (x % 2 ^ IntKind.u64.bits) .u64 := fun x => inferInstance
  infer_instance
def le0 (z : List Nat) : List Nat := z.set 0 ((z.getD 0 0 + (19 * ovL z 5) % 2 ^ IntKind.u64.bits) % 2 ^ IntKind.u64.bits)
def leI (z : List Nat) (i : Nat) : List Nat := iter leS (le0 z) i
@[simp] theorem leI_length (z : List Nat) (n : Nat) : (leI z n).length = z.length := by rw [leI, iter_len (by intros; simp [leS])]; simp [le0]
instance leI_us {z : List Nat} {n : Nat} [h : Us .u64 z] : Us .u64 (leI z n) := iter_us (fun _ _ => leS_us) (by
  unfold le0
  have : ∀ x, Fits (x % 2 ^ IntKind.u64.bits) .u64 := fun x => inferInstance
  infer_instance) n
def leZ (z : List Nat) : List Nat := (leI z 4).set 4 ((leI z 4).getD 4 0 &&& 2251799813685247)
def fLeast (x : List Nat) : List Nat := leZ (carL (carL x))
instance carL_cel {x : List Nat} [El x] : El (carL x) := carL_el inferInstance (by simp)
theorem leZ_five (a b c d e : Nat) : leZ [a, b, c, d, e] =
    (let q := ovL [a, b, c, d, e] 5
     let a' := (a + (19 * q) % 2 ^ 64) % 2 ^ 64
     let b' := (b + a' >>> 51) % 2 ^ 64
     let c' := (c + b' >>> 51) % 2 ^ 64
     let d' := (d + c' >>> 51) % 2 ^ 64
     let e' := (e + d' >>> 51) % 2 ^ 64
     [a' &&& 2251799813685247, b' &&& 2251799813685247, c' &&& 2251799813685247, d' &&& 2251799813685247, e' &&& 2251799813685247]) := by
  kernel_rfl
theorem ovL_five (a b c d e : Nat) : ovL [a, b, c, d, e] 5 = ((((((((((19 + a) % 2 ^ 64) >>> 51 + b) % 2 ^ 64) >>> 51 + c) % 2 ^ 64) >>> 51 + d) % 2 ^ 64) >>> 51 + e) % 2 ^ 64) >>> 51 := by
  kernel_rfl
theorem leZ_val {a b c d e : Nat} (ha : a ≤ 2 ^ 51 + 18) (hb : b ≤ 2 ^ 51) (hc : c ≤ 2 ^ 51) (hd : d ≤ 2 ^ 51) (he : e ≤ 2 ^ 51) :
    val (leZ [a, b, c, d, e]) = val [a, b, c, d, e] % P ∧ ∀ x, x ∈ leZ [a, b, c, d, e] → x < 2 ^ 51 := by
  have hq : ovL [a, b, c, d, e] 5 = (val [a, b, c, d, e] + 19) / 2 ^ 255 := by
    rw [ovL_five]
    simp only [Nat.shiftRight_eq_div_pow, val]
    have e1 : (19 + a) % 2 ^ 64 = 19 + a := Nat.mod_eq_of_lt (by omega)
    rw [e1]
    have e2 : ((19 + a) / 2 ^ 51 + b) % 2 ^ 64 = (19 + a) / 2 ^ 51 + b := Nat.mod_eq_of_lt (by omega)
    rw [e2]
    have e3 : (((19 + a) / 2 ^ 51 + b) / 2 ^ 51 + c) % 2 ^ 64 = ((19 + a) / 2 ^ 51 + b) / 2 ^ 51 + c := Nat.mod_eq_of_lt (by omega)
    rw [e3]
    have e4 : ((((19 + a) / 2 ^ 51 + b) / 2 ^ 51 + c) / 2 ^ 51 + d) % 2 ^ 64 = (((19 + a) / 2 ^ 51 + b) / 2 ^ 51 + c) / 2 ^ 51 + d := Nat.mod_eq_of_lt (by omega)
    rw [e4]
    have e5 : (((((19 + a) / 2 ^ 51 + b) / 2 ^ 51 + c) / 2 ^ 51 + d) / 2 ^ 51 + e) % 2 ^ 64 = ((((19 + a) / 2 ^ 51 + b) / 2 ^ 51 + c) / 2 ^ 51 + d) / 2 ^ 51 + e := Nat.mod_eq_of_lt (by omega)
    rw [e5]
    omega
  rw [leZ_five]
  simp only [hq, and51, Nat.shiftRight_eq_div_pow]
  have hq2 : (val [a, b, c, d, e] + 19) / 2 ^ 255 ≤ 1 := by simp only [val]; omega
  have hq3 : val [a, b, c, d, e] % P = val [a, b, c, d, e] + 19 * ((val [a, b, c, d, e] + 19) / 2 ^ 255) - 2 ^ 255 * ((val [a, b, c, d, e] + 19) / 2 ^ 255) := by simp only [val, P]; omega
  have hq4 : val [a, b, c, d, e] + 19 * ((val [a, b, c, d, e] + 19) / 2 ^ 255) < 2 ^ 255 * ((val [a, b, c, d, e] + 19) / 2 ^ 255) + 2 ^ 255 ∧ 2 ^ 255 * ((val [a, b, c, d, e] + 19) / 2 ^ 255) ≤ val [a, b, c, d, e] + 19 * ((val [a, b, c, d, e] + 19) / 2 ^ 255) := by simp only [val]; omega
  rw [hq3]
  clear hq hq3
  generalize (val [a, b, c, d, e] + 19) / 2 ^ 255 = q at *
  refine ⟨?_, ?_⟩
  · simp only [val] at *
    have e0 : (a + 19 * q % 2 ^ 64) % 2 ^ 64 = a + 19 * q := by omega
    rw [e0]
    have e1 : (b + (a + 19 * q) / 2 ^ 51) % 2 ^ 64 = b + (a + 19 * q) / 2 ^ 51 := Nat.mod_eq_of_lt (by omega)
    rw [e1]
    have e2 : (c + (b + (a + 19 * q) / 2 ^ 51) / 2 ^ 51) % 2 ^ 64 = c + (b + (a + 19 * q) / 2 ^ 51) / 2 ^ 51 := Nat.mod_eq_of_lt (by omega)
    rw [e2]
    have e3 : (d + (c + (b + (a + 19 * q) / 2 ^ 51) / 2 ^ 51) / 2 ^ 51) % 2 ^ 64 = d + (c + (b + (a + 19 * q) / 2 ^ 51) / 2 ^ 51) / 2 ^ 51 := Nat.mod_eq_of_lt (by omega)
    rw [e3]
    have e4 : (e + (d + (c + (b + (a + 19 * q) / 2 ^ 51) / 2 ^ 51) / 2 ^ 51) / 2 ^ 51) % 2 ^ 64 = e + (d + (c + (b + (a + 19 * q) / 2 ^ 51) / 2 ^ 51) / 2 ^ 51) / 2 ^ 51 := Nat.mod_eq_of_lt (by omega)
    rw [e4]
    omega
  · intro x hx
    simp only [List.mem_cons, List.not_mem_nil, or_false] at hx
    rcases hx with rfl | rfl | rfl | rfl | rfl <;> exact Nat.mod_lt _ (by decide)
/-- The least limbs are the number's digits. -/
theorem fLeast_val {x : List Nat} [hx : El x] : val (fLeast x) = (fv x).val ∧ (∀ y, y ∈ fLeast x → y < 2 ^ 51) := by
  have hf : fv (carL (carL x)) = fv x := by rw [carL_fv inferInstance (by simp), carL_fv inferInstance (by simp)]
  rw [← hf]
  show val (leZ (carL (carL x))) = val (carL (carL x)) % P ∧ ∀ y, y ∈ leZ (carL (carL x)) → y < 2 ^ 51
  obtain ⟨a, b, c, d, e, rfl⟩ := five hx.len
  obtain ⟨h1, h2, h3, h4, h5⟩ := el5 hx
  rw [carL_eq (by omega) (by omega) (by omega) (by omega) (by omega)]
  rw [carL_eq (by omega) (by omega) (by omega) (by omega) (by omega)]
  exact leZ_val (by omega) (by omega) (by omega) (by omega) (by omega)
theorem fLeast_len {x : List Nat} [hx : El x] : (fLeast x).length = 5 := by
  unfold fLeast leZ; simp
instance fLeast_us {x : List Nat} [El x] : Us .u64 (fLeast x) := ⟨fun y hy => Nat.lt_trans (fLeast_val.2 y hy) (by decide)⟩

/-! bytes -/
def byS (l : List Nat) (i : Nat) (out : List Nat) : List Nat := out.set (i / 8) (out.getD (i / 8) 0 ||| ((((l.getD (i / 51) 0 >>> (i % 51)) &&& 1) % 2 ^ IntKind.u8.bits) <<< (i % 8)) % 2 ^ IntKind.u8.bits)
def byI (l : List Nat) (n : Nat) : List Nat := iter (byS l) (List.replicate 32 0) n
@[simp] theorem byI_length (l : List Nat) (n : Nat) : (byI l n).length = 32 := by rw [byI, iter_len (by intros; simp [byS])]; rfl
instance byI_us {l : List Nat} {n : Nat} : Us .u8 (byI l n) := iter_us (fun n a h => by
  unfold byS
  have : ∀ x, Fits (x % 2 ^ IntKind.u8.bits) .u8 := fun x => inferInstance
  infer_instance) inferInstance n
def fBytes (x : List Nat) : List Nat := byI (fLeast x) 255
theorem leB_get {n v j : Nat} (h : j < n) : (leB n v)[j]? = some ((v >>> (8 * j)) % 256) := by
  simp [leB, h]
theorem digit {l : List Nat} (hl : l.length = 5) (hd : ∀ y, y ∈ l → y < 2 ^ 51) {n : Nat} (hn : n < 255) : (l.getD (n / 51) 0 >>> (n % 51)) &&& 1 = (val l >>> n) &&& 1 := by
  obtain ⟨a, b, c, d, e, rfl⟩ := five hl
  have h1 := hd a (by simp); have h2 := hd b (by simp); have h3 := hd c (by simp); have h4 := hd d (by simp); have h5 := hd e (by simp)
  have hj : n / 51 = 0 ∨ n / 51 = 1 ∨ n / 51 = 2 ∨ n / 51 = 3 ∨ n / 51 = 4 := by omega
  have key : ∀ j w, n / 51 = j → w < 2 ^ 51 → val [a, b, c, d, e] / 2 ^ (51 * j) % 2 ^ 51 = w → (w >>> (n % 51)) &&& 1 = (val [a, b, c, d, e] >>> n) &&& 1 := by
    intro j w hj hw hv
    have en : n = 51 * j + n % 51 := by omega
    have hr : n % 51 < 51 := Nat.mod_lt _ (by decide)
    rw [en]
    generalize n % 51 = r at *
    have er : (51 * j + r) % 51 = r := by omega
    rw [er, Nat.shiftRight_add, Nat.shiftRight_eq_div_pow (val _), ← hv]
    apply Nat.eq_of_testBit_eq
    intro k
    simp only [Nat.testBit_and, Nat.testBit_shiftRight, Nat.testBit_mod_two_pow]
    by_cases hk : k = 0
    · subst hk; simp [hr]
    · have : Nat.testBit 1 k = false := by
        cases hb : Nat.testBit 1 k with
        | false => rfl
        | true => exact absurd (Nat.testBit_one_eq_true_iff_self_eq_zero.1 hb) hk
      simp [this]
  rcases hj with h | h | h | h | h <;> rw [h]
  · exact key 0 a h h1 (by simp only [val]; omega)
  · exact key 1 b h h2 (by simp only [val]; omega)
  · exact key 2 c h h3 (by simp only [val]; omega)
  · exact key 3 d h h4 (by simp only [val]; omega)
  · exact key 4 e h h5 (by simp only [val]; omega)
theorem byI_eq {l : List Nat} (hl : l.length = 5) (hd : ∀ y, y ∈ l → y < 2 ^ 51) : ∀ n, n ≤ 255 → byI l n = leB 32 (val l % 2 ^ n)
  | 0, _ => by
    show List.replicate 32 0 = _
    rw [Nat.pow_zero, Nat.mod_one]; rfl
  | n + 1, hn => by
    show byS l n (byI l n) = _
    rw [byI_eq hl hd n (by omega), byS, digit hl hd (by omega)]
    apply List.ext_getElem?
    intro j
    have hn8 : n / 8 < 32 := by omega
    rcases Nat.lt_or_ge j 32 with hj | hj
    · rw [leB_get hj, List.getElem?_set]
      by_cases h : n / 8 = j
      · subst h
        rw [if_pos rfl, if_pos (by simp; omega), List.getD_eq_getElem?_getD, leB_get hj]
        simp only [Option.getD_some, Option.some.injEq, IntKind.bits]
        apply Nat.eq_of_testBit_eq
        intro k
        rw [show (256 : Nat) = 2 ^ 8 from rfl]
        simp only [Nat.testBit_or, Nat.testBit_mod_two_pow, Nat.testBit_shiftRight, Nat.testBit_shiftLeft, Nat.testBit_and]
        by_cases hk : k < 8
        · simp only [hk, decide_true, Bool.true_and]
          have e : 8 * (n / 8) + n % 8 = n := by omega
          rcases Nat.lt_trichotomy k (n % 8) with h1 | h1 | h1
          · have a1 : 8 * (n / 8) + k < n := by omega
            have a2 : 8 * (n / 8) + k < n + 1 := by omega
            have a3 : ¬ (k ≥ n % 8) := by omega
            simp [a1, a2, a3]
          · subst h1
            simp [e]
          · have a1 : ¬ (8 * (n / 8) + k < n) := by omega
            have a2 : ¬ (8 * (n / 8) + k < n + 1) := by omega
            have a4 : Nat.testBit 1 (k - n % 8) = false := by
              cases hb : Nat.testBit 1 (k - n % 8) with
              | false => rfl
              | true => exact absurd (Nat.testBit_one_eq_true_iff_self_eq_zero.1 hb) (by omega)
            simp [a1, a2, a4]
        · simp [hk]
      · rw [if_neg h, leB_get hj]
        simp only [Option.some.injEq]
        apply Nat.eq_of_testBit_eq
        intro k
        rw [show (256 : Nat) = 2 ^ 8 from rfl]
        simp only [Nat.testBit_mod_two_pow, Nat.testBit_shiftRight]
        by_cases hk : k < 8
        · have : (8 * j + k < n) ↔ (8 * j + k < n + 1) := by omega
          simp [this]
        · simp [hk]
    · rw [List.getElem?_eq_none (by simp; omega), List.getElem?_eq_none (by simp; omega)]
/-- The bytes of a number. -/
theorem fBytes_eq {x : List Nat} [El x] : fBytes x = leB 32 (fv x).val := by
  rw [fBytes, byI_eq fLeast_len fLeast_val.2 255 (Nat.le_refl _), fLeast_val.1, Nat.mod_eq_of_lt]
  exact Nat.lt_trans (fv x).isLt (by decide)

/-! bytes as a number -/
theorem leN_take_mod : ∀ (l : List Nat) [_h : Us .u8 l] (i : Nat), leN (l.take i) = leN l % 256 ^ i
  | l, hl, i => by
    rcases Nat.lt_or_ge i l.length with h | h
    · have e : leN l = leN (l.take i) + 256 ^ i * leN (l.drop i) := by
        have := leN_app (l.take i) (l.drop i)
        rw [List.take_append_drop] at this
        rw [this, List.length_take, Nat.min_eq_left (by omega)]
      have h2 := leN_lt (l.take i)
      rw [List.length_take, Nat.min_eq_left (by omega)] at h2
      rw [e, Nat.add_mul_mod_self_left, Nat.mod_eq_of_lt h2]
    · rw [List.take_of_length_le h]
      exact (Nat.mod_eq_of_lt (Nat.lt_of_lt_of_le (leN_lt l) (Nat.pow_le_pow_right (by decide) h))).symm
theorem leN_drop_div (l : List Nat) [Us .u8 l] {i : Nat} (h : i ≤ l.length) : leN (l.drop i) = leN l / 256 ^ i := by
  have e : leN l = leN (l.take i) + 256 ^ i * leN (l.drop i) := by
    have := leN_app (l.take i) (l.drop i)
    rw [List.take_append_drop] at this
    rw [this, List.length_take, Nat.min_eq_left h]
  have h2 := leN_lt (l.take i)
  rw [List.length_take, Nat.min_eq_left h] at h2
  rw [e, Nat.add_mul_div_left _ _ (Nat.pow_pos (by decide)), Nat.div_eq_of_lt h2, Nat.zero_add]
theorem leN_byte (l : List Nat) [hl : Us .u8 l] {j : Nat} (h : j < l.length) : l.getD j 0 = leN l / 256 ^ j % 256 := by
  have h1 := leN_drop_div l (i := j) (by omega)
  rw [← h1]
  have e : l.drop j = l.getD j 0 :: l.drop (j + 1) := by
    rw [List.drop_eq_getElem_cons h, List.getD_eq_getElem?_getD, List.getElem?_eq_getElem h]; rfl
  rw [e]
  show _ = (l.getD j 0 + 256 * leN (l.drop (j + 1))) % 256
  rw [Nat.add_mul_mod_self_left]
  have := hl.getD_lt j
  exact (Nat.mod_eq_of_lt this).symm
theorem leN_leB : ∀ (n v : Nat), leN (leB n v) = v % 256 ^ n
  | 0, v => by simp [leB, leN, Nat.mod_one]
  | n + 1, v => by
    rw [leB_succ, leN_app, leN_leB n v, leB_length, Nat.shiftRight_eq_div_pow]
    show v % 256 ^ n + 256 ^ n * (v / 2 ^ (8 * n) % 256 + 256 * 0) = _
    rw [Nat.mul_zero, Nat.add_zero, Nat.pow_mul, show (2 : Nat) ^ 8 = 256 from rfl, Nat.pow_succ, Nat.mod_mul]

/-! a number of bytes -/
def fOf (b : List Nat) : List Nat := carL [leN ((b.drop 0).take 8) &&& 2251799813685247, (leN ((b.drop 6).take 8) >>> 3) &&& 2251799813685247, (leN ((b.drop 12).take 8) >>> 6) &&& 2251799813685247, (leN ((b.drop 19).take 8) >>> 1) &&& 2251799813685247, (leN ((b.drop 24).take 8) >>> 12) &&& 2251799813685247]
theorem leN_lt8 (l : List Nat) [Us .u8 l] : leN (l.take 8) < 2 ^ 64 := by
  have := leN_lt (l.take 8)
  refine Nat.lt_of_lt_of_le this ?_
  exact Nat.le_trans (Nat.pow_le_pow_right (by decide) (by rw [List.length_take]; exact Nat.min_le_left _ _ : (l.take 8).length ≤ 8)) (by decide)
instance {l : List Nat} [Us .u8 l] : Fits (leN (l.take 8)) .u64 := ⟨leN_lt8 l⟩
instance fOf_el {b : List Nat} [Us .u8 b] : El (fOf b) := carL_el inferInstance rfl
theorem fOf_fv {b : List Nat} [Us .u8 b] (h : b.length = 32) : fv (fOf b) = Fin.ofNat P (leN b % 2 ^ 255) := by
  rw [fOf, carL_fv inferInstance rfl]
  simp only [leN_take_mod, and51, Nat.shiftRight_eq_div_pow]
  rw [leN_drop_div b (by omega), leN_drop_div b (by omega), leN_drop_div b (by omega), leN_drop_div b (by omega), leN_drop_div b (by omega)]
  generalize leN b = N
  simp only [fv, val]
  congr 1
  omega

/-! choosing -/
def pk (m : Nat) (x y : List Nat) : List Nat := if m % 2 = 1 then x else y
instance {m : Nat} {x y : List Nat} [El x] [El y] : El (pk m x y) := by unfold pk; split <;> infer_instance
theorem pk_fv (m : Nat) (x y : List Nat) : fv (pk m x y) = if m % 2 = 1 then fv x else fv y := by unfold pk; split <;> rfl
def pkI (m : Nat) (x y : List Nat) (i : Nat) : List Nat := if m % 2 = 1 then x else y.take i ++ x.drop i
theorem pkI_length {m : Nat} {x y : List Nat} [El x] [El y] {i : Nat} (hi : i ≤ 5) : (pkI m x y i).length = 5 := by
  unfold pkI; split
  · simp
  · simp; omega
instance pkI_us {m : Nat} {x y : List Nat} [El x] [El y] {i : Nat} : Us .u64 (pkI m x y i) := by unfold pkI; split <;> infer_instance
theorem pkI_zero (m : Nat) (x y : List Nat) : pkI m x y 0 = x := by unfold pkI; split <;> simp
theorem pkI_five {m : Nat} {x y : List Nat} [El x] [El y] : pkI m x y 5 = pk m x y := by
  unfold pkI pk; split
  · rfl
  · rw [List.take_of_length_le (by simp), List.drop_of_length_le (by simp), List.append_nil]
theorem pkI_set {m : Nat} {x y : List Nat} [hx : El x] [hy : El y] {i v : Nat} (hi : i < 5) (hv : v = if m % 2 = 1 then (pkI m x y i).getD i 0 else y.getD i 0) : (pkI m x y i).set i v = pkI m x y (i + 1) := by
  subst hv
  unfold pkI
  by_cases h : m % 2 = 1
  · simp only [if_pos h]
    rw [List.getD_eq_getElem?_getD, List.getElem?_eq_getElem (by simp; omega)]
    simp
  · simp only [if_neg h]
    have h1 : i < x.length := by simp; omega
    have h2 : i < y.length := by simp; omega
    rw [List.set_append_right _ _ (by simp; omega), List.length_take, Nat.min_eq_left (by omega), Nat.sub_self, List.drop_eq_getElem_cons h1, List.set_cons_zero, List.take_add_one, List.getElem?_eq_getElem h2, List.append_assoc, List.getD_eq_getElem?_getD, List.getElem?_eq_getElem h2]
    rfl

/-! powers -/
def pw (a : Fp) (n : Nat) : Fp := Fin.ofNat P (a.val ^ n)
theorem pw_zero (a : Fp) : pw a 0 = 1 := by apply Fin.ext; simp only [pw, Nat.pow_zero]; rfl
theorem pw_dbl (a : Fp) (n : Nat) : pw a (2 * n) = pw a n * pw a n := by
  rw [pw, pw, ofNat_mul, ← Nat.pow_add, Nat.two_mul]
theorem pw_succ (a : Fp) (n : Nat) : pw a (n + 1) = pw a n * a := by
  have : Fin.ofNat P a.val = a := by apply Fin.ext; exact Nat.mod_eq_of_lt a.isLt
  rw [pw, pw, Nat.pow_succ, ← ofNat_mul, this]
instance fMul_cel {x y : List Nat} : El (fMul x y) := fMul_el
instance fAdd_cel {x y : List Nat} [El x] : El (fAdd x y) := fAdd_el
instance fSub_cel {x y : List Nat} [El x] : El (fSub x y) := fSub_el
instance fSmall_cel {n : Nat} [h : Fits n .u64] : El (fSmall n) := fSmall_el h.lt
def ebit (e : List Nat) (n : Nat) : Nat := (e.getD ((255 - n) / 8) 0 >>> ((255 - n) % 8)) &&& 1
def pwS (x e : List Nat) (n : Nat) (out : List Nat) : List Nat := pk (ebit e n) (fMul (fMul out out) x) (fMul out out)
def pwI (x e : List Nat) (n : Nat) : List Nat := iter (pwS x e) (fSmall 1) n
instance pwI_el {x e : List Nat} {n : Nat} : El (pwI x e n) := by
  cases n with
  | zero => exact (inferInstance : El (fSmall 1))
  | succ n => exact (inferInstance : El (pk (ebit e n) (fMul (fMul (pwI x e n) (pwI x e n)) x) (fMul (pwI x e n) (pwI x e n))))
theorem ebit_eq {e : List Nat} [Us .u8 e] (he : e.length = 32) {n : Nat} (hn : n < 256) : ebit e n = leN e / 2 ^ (255 - n) % 2 := by
  have hj : (255 - n) / 8 < e.length := by omega
  rw [ebit, leN_byte e hj, Nat.and_one_is_mod, Nat.shiftRight_eq_div_pow]
  have e1 : 255 - n = 8 * ((255 - n) / 8) + (255 - n) % 8 := by omega
  have hr : (255 - n) % 8 < 8 := Nat.mod_lt _ (by decide)
  conv => rhs; rw [e1]
  generalize (255 - n) / 8 = j at *
  generalize (255 - n) % 8 = r at *
  rw [Nat.pow_add, ← Nat.div_div_eq_div_mul, Nat.pow_mul, show (2 : Nat) ^ 8 = 256 from rfl]
  generalize leN e / 256 ^ j = M
  have hr8 : r = 0 ∨ r = 1 ∨ r = 2 ∨ r = 3 ∨ r = 4 ∨ r = 5 ∨ r = 6 ∨ r = 7 := by omega
  rcases hr8 with rfl | rfl | rfl | rfl | rfl | rfl | rfl | rfl <;> omega
theorem pwI_fv {x e : List Nat} [El x] [Us .u8 e] (he : e.length = 32) : ∀ n, n ≤ 256 → fv (pwI x e n) = pw (fv x) (leN e / 2 ^ (256 - n))
  | 0, _ => by
    have : leN e / 2 ^ (256 - 0) = 0 := Nat.div_eq_of_lt (by have := leN_lt e; rw [he] at this; exact this)
    rw [this, pw_zero]
    exact fSmall_fv 1
  | n + 1, hn => by
    show fv (pk (ebit e n) (fMul (fMul (pwI x e n) (pwI x e n)) x) (fMul (pwI x e n) (pwI x e n))) = _
    rw [pk_fv, fMul_fv, fMul_fv, pwI_fv he n (by omega), ebit_eq he (by omega)]
    have e1 : 256 - n = (255 - n) + 1 := by omega
    have e2 : 256 - (n + 1) = 255 - n := by omega
    rw [e2, e1, Nat.pow_succ, ← Nat.div_div_eq_div_mul]
    generalize leN e / 2 ^ (255 - n) = M
    by_cases hb : M % 2 = 1
    · rw [if_pos (by omega)]
      have : M = 2 * (M / 2) + 1 := by omega
      conv => rhs; rw [this]
      rw [pw_succ, pw_dbl]
    · rw [if_neg (by omega)]
      have : M = 2 * (M / 2) := by omega
      conv => rhs; rw [this]
      rw [pw_dbl]
def f0 : List Nat := [0, 0, 0, 0, 0]
instance : El f0 := ⟨rfl, by decide⟩
def eInv : List Nat := fBytes (fSub f0 (fSmall 2))
@[simp] theorem fBytes_length (x : List Nat) : (fBytes x).length = 32 := byI_length _ _
instance {x : List Nat} : Us .u8 (fBytes x) := byI_us
instance : Us .u8 eInv := by unfold eInv; infer_instance
@[simp] theorem eInv_length : eInv.length = 32 := fBytes_length _
def fInv (x : List Nat) : List Nat := pwI x eInv 256
theorem eInv_eq : leN eInv = P - 2 := by
  have h2 : Fits 2 .u64 := ⟨by decide⟩
  rw [eInv, fBytes_eq, leN_leB, fSub_fv, fSmall_fv]
  decide +kernel
theorem fInv_fv {x : List Nat} [El x] : fv (fInv x) = EdC.EdF.inv (fv x) := by
  rw [fInv, pwI_fv eInv_length 256 (Nat.le_refl _), eInv_eq]
  apply Fin.ext
  show ((fv x).val ^ ((P - 2) / 2 ^ (256 - 256))) % P = Prim.pm P 256 (fv x).val (P - 2)
  rw [Prim.pm_eq _ _ _ _ (by decide), Nat.sub_self, Nat.pow_zero, Nat.div_one]
end Go.Tw
end

section
namespace Go.Tw
open EdC (Fp P)

def lneg (b : Nat) : Nat := (2 ^ IntKind.u64.bits - b) % 2 ^ IntKind.u64.bits
instance {b : Nat} : Fits (lneg b) .u64 := ⟨Nat.mod_lt _ (Nat.two_pow_pos _)⟩
theorem lneg_odd {b : Nat} (h : b ≤ 1) : lneg b % 2 = b := by
  have : b = 0 ∨ b = 1 := by omega
  rcases this with rfl | rfl <;> decide
structure LSt where
  x2 : List Nat
  z2 : List Nat
  x3 : List Nat
  z3 : List Nat
  last : Nat
def lbit (n : List Nat) (j : Nat) : Nat := (n.getD ((254 - j) / 8) 0 >>> ((254 - j) % 8)) &&& 1
theorem lbit_le (n : List Nat) (j : Nat) : lbit n j ≤ 1 := Nat.and_le_right
instance {n : List Nat} {j : Nat} : Fits (lbit n j) .u64 := ⟨Nat.lt_of_le_of_lt (lbit_le n j) (by decide)⟩
def lmask (n : List Nat) (j : Nat) (s : LSt) : Nat := lneg (s.last ^^^ lbit n j)
def ladA (n : List Nat) (j : Nat) (s : LSt) : List Nat := fAdd (pk (lmask n j s) s.x3 s.x2) (pk (lmask n j s) s.z3 s.z2)
def ladB (n : List Nat) (j : Nat) (s : LSt) : List Nat := fSub (pk (lmask n j s) s.x3 s.x2) (pk (lmask n j s) s.z3 s.z2)
def ladDA (n : List Nat) (j : Nat) (s : LSt) : List Nat := fMul (fSub (pk (lmask n j s) s.x2 s.x3) (pk (lmask n j s) s.z2 s.z3)) (ladA n j s)
def ladCB (n : List Nat) (j : Nat) (s : LSt) : List Nat := fMul (fAdd (pk (lmask n j s) s.x2 s.x3) (pk (lmask n j s) s.z2 s.z3)) (ladB n j s)
def ladAA (n : List Nat) (j : Nat) (s : LSt) : List Nat := fMul (ladA n j s) (ladA n j s)
def ladBB (n : List Nat) (j : Nat) (s : LSt) : List Nat := fMul (ladB n j s) (ladB n j s)
def ladE (n : List Nat) (j : Nat) (s : LSt) : List Nat := fSub (ladAA n j s) (ladBB n j s)
def ladS (x1 n : List Nat) (j : Nat) (s : LSt) : LSt where
  x2 := fMul (ladAA n j s) (ladBB n j s)
  z2 := fMul (ladE n j s) (fAdd (ladAA n j s) (fMul (ladE n j s) (fSmall 121665)))
  x3 := fMul (fAdd (ladDA n j s) (ladCB n j s)) (fAdd (ladDA n j s) (ladCB n j s))
  z3 := fMul x1 (fMul (fSub (ladDA n j s) (ladCB n j s)) (fSub (ladDA n j s) (ladCB n j s)))
  last := lbit n j
def lad0 (x1 : List Nat) : LSt := ⟨fSmall 1, fSmall 0, x1, fSmall 1, 0⟩
def ladI (x1 n : List Nat) (j : Nat) : LSt := iter (ladS x1 n) (lad0 x1) j
structure LOk (s : LSt) : Prop where
  x2 : El s.x2
  z2 : El s.z2
  x3 : El s.x3
  z3 : El s.z3
  last : s.last ≤ 1
theorem lad0_ok {x1 : List Nat} [h : El x1] : LOk (lad0 x1) := by
  refine ⟨?_, ?_, ?_, ?_, Nat.zero_le _⟩
  · show El (fSmall 1); infer_instance
  · show El (fSmall 0); infer_instance
  · exact h
  · show El (fSmall 1); infer_instance
theorem ladS_x2 {x1 n : List Nat} {j : Nat} {s : LSt} : (ladS x1 n j s).x2 = fMul (ladAA n j s) (ladBB n j s) := by simp only [ladS]
theorem ladS_z2 {x1 n : List Nat} {j : Nat} {s : LSt} : (ladS x1 n j s).z2 = fMul (ladE n j s) (fAdd (ladAA n j s) (fMul (ladE n j s) (fSmall 121665))) := by simp only [ladS]
theorem ladS_x3 {x1 n : List Nat} {j : Nat} {s : LSt} : (ladS x1 n j s).x3 = fMul (fAdd (ladDA n j s) (ladCB n j s)) (fAdd (ladDA n j s) (ladCB n j s)) := by simp only [ladS]
theorem ladS_z3 {x1 n : List Nat} {j : Nat} {s : LSt} : (ladS x1 n j s).z3 = fMul x1 (fMul (fSub (ladDA n j s) (ladCB n j s)) (fSub (ladDA n j s) (ladCB n j s))) := by simp only [ladS]
theorem ladS_last {x1 n : List Nat} {j : Nat} {s : LSt} : (ladS x1 n j s).last = lbit n j := by simp only [ladS]
theorem ladS_ok {x1 n : List Nat} {j : Nat} {s : LSt} : LOk (ladS x1 n j s) := by
  refine ⟨?_, ?_, ?_, ?_, by rw [ladS_last]; exact lbit_le n j⟩
  · rw [ladS_x2]; exact fMul_el
  · rw [ladS_z2]; exact fMul_el
  · rw [ladS_x3]; exact fMul_el
  · rw [ladS_z3]; exact fMul_el
theorem ladI_ok {x1 n : List Nat} [h : El x1] (j : Nat) : LOk (ladI x1 n j) := by
  cases j with
  | zero => exact lad0_ok
  | succ j => exact ladS_ok
section
variable {n : List Nat} {j : Nat} {s : LSt}
instance {x1 : List Nat} [El x1] : El (ladI x1 n j).x2 := (ladI_ok j).x2
instance {x1 : List Nat} [El x1] : El (ladI x1 n j).z2 := (ladI_ok j).z2
instance {x1 : List Nat} [El x1] : El (ladI x1 n j).x3 := (ladI_ok j).x3
instance {x1 : List Nat} [El x1] : El (ladI x1 n j).z3 := (ladI_ok j).z3
instance {x1 : List Nat} [El x1] : Fits (ladI x1 n j).last .u64 := ⟨Nat.lt_of_le_of_lt (ladI_ok j).last (by decide)⟩
instance : El (ladAA n j s) := fMul_el
instance : El (ladBB n j s) := fMul_el
instance : El (ladDA n j s) := fMul_el
instance : El (ladCB n j s) := fMul_el
instance : El (ladE n j s) := fSub_cel
end
def sv (s : LSt) : EdC.St Fp := ⟨fv s.x2, fv s.z2, fv s.x3, fv s.z3⟩
theorem lbit_eq {n : List Nat} [Us .u8 n] (hn : n.length = 32) {j : Nat} (hj : j < 255) : lbit n j = ((leN n).testBit (254 - j)).toNat := by
  have h := ebit_eq (e := n) hn (n := j + 1) (by omega)
  have e : ebit n (j + 1) = lbit n j := by unfold ebit lbit; rw [show 255 - (j + 1) = 254 - j from by omega]
  rw [← e, h, show 255 - (j + 1) = 254 - j from by omega, Nat.testBit_eq_decide_div_mod_eq]
  by_cases hb : leN n / 2 ^ (254 - j) % 2 = 1
  · simp [hb]
  · simp [hb]; omega
theorem flip_flip (s : EdC.St Fp) : s.flip.flip = s := rfl
theorem mulc (u v w : Fp) : u * (v + u * w) = u * (v + w * u) := by rw [Fin.mul_comm w u]
theorem core_eq {x1 n : List Nat} [El x1] {j : Nat} {s : LSt} (ok : LOk s) : sv (ladS x1 n j s) = EdC.core (fv x1) ⟨fv (pk (lmask n j s) s.x3 s.x2), fv (pk (lmask n j s) s.z3 s.z2), fv (pk (lmask n j s) s.x2 s.x3), fv (pk (lmask n j s) s.z2 s.z3)⟩ := by
  have := ok.x2; have := ok.z2; have := ok.x3; have := ok.z3
  have hA : fv (ladA n j s) = fv (pk (lmask n j s) s.x3 s.x2) + fv (pk (lmask n j s) s.z3 s.z2) := fAdd_fv
  have hB : fv (ladB n j s) = fv (pk (lmask n j s) s.x3 s.x2) - fv (pk (lmask n j s) s.z3 s.z2) := fSub_fv
  have iA : El (ladA n j s) := fAdd_el
  have iB : El (ladB n j s) := fSub_el
  have hAA : fv (ladAA n j s) = fv (ladA n j s) * fv (ladA n j s) := fMul_fv
  have hBB : fv (ladBB n j s) = fv (ladB n j s) * fv (ladB n j s) := fMul_fv
  have hDA : fv (ladDA n j s) = (fv (pk (lmask n j s) s.x2 s.x3) - fv (pk (lmask n j s) s.z2 s.z3)) * fv (ladA n j s) := by rw [ladDA, fMul_fv, fSub_fv]
  have hCB : fv (ladCB n j s) = (fv (pk (lmask n j s) s.x2 s.x3) + fv (pk (lmask n j s) s.z2 s.z3)) * fv (ladB n j s) := by rw [ladCB, fMul_fv, fAdd_fv]
  have hE : fv (ladE n j s) = fv (ladAA n j s) - fv (ladBB n j s) := fSub_fv
  have hc : (EdC.EdF.c : Fp) = Fin.ofNat P 121665 := rfl
  have h12 : Fits 121665 .u64 := ⟨by decide⟩
  unfold sv
  rw [ladS_x2, ladS_z2, ladS_x3, ladS_z3]
  rw [fMul_fv (x := ladAA n j s), fMul_fv (x := ladE n j s) (y := fAdd (ladAA n j s) (fMul (ladE n j s) (fSmall 121665))), fAdd_fv (x := ladAA n j s), fMul_fv (x := ladE n j s), fSmall_fv, mulc, fMul_fv (x := fAdd (ladDA n j s) (ladCB n j s)), fAdd_fv (x := ladDA n j s), fMul_fv (x := x1), fMul_fv (x := fSub (ladDA n j s) (ladCB n j s)), fSub_fv (x := ladDA n j s)]
  rw [hE, hDA, hCB, hAA, hBB, hA, hB, ← hc]
  rfl
theorem ladI_runs {x1 n : List Nat} [El x1] [Us .u8 n] (hn : n.length = 32) : ∀ j, j ≤ 255 → sv (ladI x1 n j) = if (ladI x1 n j).last = 1 then (EdC.lad (fv x1) (leN n) j).flip else EdC.lad (fv x1) (leN n) j
  | 0, _ => by
    have h0 : (ladI x1 n 0).last = 0 := rfl
    rw [if_neg (by rw [h0]; decide)]
    show sv (lad0 x1) = EdC.start (fv x1)
    simp only [sv, lad0, EdC.start, fSmall_fv]
    rfl
  | j + 1, hj => by
    have ih := ladI_runs (x1 := x1) hn j (by omega)
    have ok := ladI_ok (x1 := x1) (n := n) j
    have hb := lbit_eq hn (j := j) (by omega)
    have hle := lbit_le n j
    have := ok.x2; have := ok.z2; have := ok.x3; have := ok.z3
    have hl := ok.last
    -- behind the exchange
    have hsw : (⟨fv (pk (lmask n j (ladI x1 n j)) (ladI x1 n j).x3 (ladI x1 n j).x2), fv (pk (lmask n j (ladI x1 n j)) (ladI x1 n j).z3 (ladI x1 n j).z2), fv (pk (lmask n j (ladI x1 n j)) (ladI x1 n j).x2 (ladI x1 n j).x3), fv (pk (lmask n j (ladI x1 n j)) (ladI x1 n j).z2 (ladI x1 n j).z3)⟩ : EdC.St Fp) = if lbit n j = 1 then (EdC.lad (fv x1) (leN n) j).flip else EdC.lad (fv x1) (leN n) j := by
      simp only [pk_fv]
      have hx : (ladI x1 n j).last ^^^ lbit n j ≤ 1 := by
        have a1 : (ladI x1 n j).last = 0 ∨ (ladI x1 n j).last = 1 := by omega
        have a2 : lbit n j = 0 ∨ lbit n j = 1 := by omega
        rcases a1 with a1 | a1 <;> rcases a2 with a2 | a2 <;> rw [a1, a2] <;> decide
      have hm : lmask n j (ladI x1 n j) % 2 = (ladI x1 n j).last ^^^ lbit n j := lneg_odd hx
      rw [hm]
      clear hx hm
      generalize ladI x1 n j = s at *
      have e2 : fv s.x2 = (sv s).x2 := rfl
      have e3 : fv s.x3 = (sv s).x3 := rfl
      have e4 : fv s.z2 = (sv s).z2 := rfl
      have e5 : fv s.z3 = (sv s).z3 := rfl
      rw [e2, e3, e4, e5, ih]
      generalize EdC.lad (fv x1) (leN n) j = t
      have a1 : s.last = 0 ∨ s.last = 1 := by omega
      have a2 : lbit n j = 0 ∨ lbit n j = 1 := by omega
      rcases a1 with a1 | a1 <;> rcases a2 with a2 | a2 <;> rw [a1, a2] <;> rfl
    have hcore := core_eq (x1 := x1) (n := n) (j := j) ok
    have e1 : ladI x1 n (j + 1) = ladS x1 n j (ladI x1 n j) := rfl
    have e2 : (ladS x1 n j (ladI x1 n j)).last = lbit n j := ladS_last
    have e3 : EdC.lad (fv x1) (leN n) (j + 1) = EdC.step (fv x1) (EdC.lad (fv x1) (leN n) j) ((leN n).testBit (254 - j)) := rfl
    rw [e1, e2, hcore, hsw, e3, hb]
    cases (leN n).testBit (254 - j) <;> simp [EdC.step, flip_flip]

/-! the whole -/
def clampL (k : List Nat) : List Nat := (k.set 0 (k.getD 0 0 &&& 248)).set 31 (((k.set 0 (k.getD 0 0 &&& 248)).getD 31 0 &&& 127) ||| 64)
@[simp] theorem clampL_length (k : List Nat) : (clampL k).length = k.length := by simp [clampL]
instance {k : List Nat} [Us .u8 k] : Us .u8 (clampL k) := by
  unfold clampL
  have : Fits 64 .u8 := ⟨by decide⟩
  infer_instance
theorem clampL_facts {k : List Nat} [hk : Us .u8 k] (h : k.length = 32) : 8 ∣ leN (clampL k) ∧ 0 < leN (clampL k) ∧ leN (clampL k) < 2 ^ 255 := by
  have hl : (clampL k).length = 32 := by simp [h]
  have h0 := leN_byte (clampL k) (j := 0) (by omega)
  have h31 := leN_byte (clampL k) (j := 31) (by omega)
  have e31 : (clampL k).getD 31 0 = ((k.getD 31 0 &&& 127) ||| 64) := by
    unfold clampL
    rw [List.getD_eq_getElem?_getD, List.getElem?_set_self (by simp; omega), Option.getD_some, List.getD_eq_getElem?_getD (l := k.set 0 _), List.getElem?_set_ne (by decide), ← List.getD_eq_getElem?_getD]
  have e0 : (clampL k).getD 0 0 = (k.getD 0 0 &&& 248) := by
    unfold clampL
    rw [List.getD_eq_getElem?_getD, List.getElem?_set_ne (by decide), List.getElem?_set_self (by omega), Option.getD_some]
  rw [e0] at h0
  rw [e31] at h31
  have b0 : (k.getD 0 0 &&& 248) % 8 = 0 := by
    have : (k.getD 0 0 &&& 248) % 2 ^ 3 = (k.getD 0 0 % 2 ^ 3) &&& (248 % 2 ^ 3) := Nat.and_mod_two_pow
    rw [show (8 : Nat) = 2 ^ 3 from rfl, this]; simp
  have b1 : ((k.getD 31 0 &&& 127) ||| 64) < 2 ^ 7 := Nat.or_lt_two_pow (Nat.lt_of_le_of_lt Nat.and_le_right (by decide)) (by decide)
  have b2 : 64 ≤ ((k.getD 31 0 &&& 127) ||| 64) := Nat.right_le_or
  have hN := leN_lt (clampL k)
  rw [hl] at hN
  generalize leN (clampL k) = N at *
  generalize ((k.getD 31 0 &&& 127) ||| 64) = w at *
  generalize (k.getD 0 0 &&& 248) = w0 at *
  refine ⟨?_, ?_, ?_⟩ <;> omega
/-- X25519. -/
def x255 (k u : List Nat) : List Nat := leB 32 (EdC.mulx (leN (clampL k)) (Fin.ofNat P (leN u % 2 ^ 255) : Fp)).val
@[simp] theorem x255_length (k u : List Nat) : (x255 k u).length = 32 := leB_length _ _
instance {k u : List Nat} : Us .u8 (x255 k u) := by unfold x255; infer_instance
instance {x : List Nat} : El (fInv x) := pwI_el
def ladX (s : LSt) : List Nat := fMul (pk (lneg s.last) s.x3 s.x2) (fInv (pk (lneg s.last) s.z3 s.z2))
theorem x255_eq {k u : List Nat} [Us .u8 k] [Us .u8 u] (hk : k.length = 32) (hu : u.length = 32) : fBytes (ladX (ladI (fOf u) (clampL k) 255)) = x255 k u := by
  have hr := ladI_runs (x1 := fOf u) (n := clampL k) (by simp [hk]) 255 (Nat.le_refl _)
  have ok := ladI_ok (x1 := fOf u) (n := clampL k) 255
  rw [fOf_fv hu] at hr
  unfold x255 EdC.mulx
  generalize EdC.lad (Fin.ofNat P (leN u % 2 ^ 255)) (leN (clampL k)) 255 = t at *
  generalize ladI (fOf u) (clampL k) 255 = s at *
  have := ok.x2; have := ok.z2; have := ok.x3; have := ok.z3
  have hE : El (ladX s) := fMul_el
  rw [fBytes_eq, ladX, fMul_fv, fInv_fv, pk_fv, pk_fv, lneg_odd ok.last]
  have e2 : fv s.x2 = (sv s).x2 := rfl
  have e3 : fv s.x3 = (sv s).x3 := rfl
  have e4 : fv s.z2 = (sv s).z2 := rfl
  have e5 : fv s.z3 = (sv s).z3 := rfl
  rw [e2, e3, e4, e5, hr]
  by_cases h : s.last = 1
  · simp only [if_pos h]; rfl
  · simp only [if_neg h]
def nineL : List Nat := 9 :: List.replicate 31 0
instance : Us .u8 nineL := ⟨by decide⟩
@[simp] theorem nineL_length : nineL.length = 32 := rfl
def baseL (k : List Nat) : List Nat := x255 k nineL
@[simp] theorem baseL_length (k : List Nat) : (baseL k).length = 32 := x255_length _ _
instance {k : List Nat} : Us .u8 (baseL k) := by unfold baseL; infer_instance
theorem x255_enc (k : List Nat) (v : Fp) : x255 k (leB 32 v.val) = leB 32 (EdC.mulx (leN (clampL k)) v).val := by
  unfold x255
  rw [leN_leB]
  congr 3
  apply Fin.ext
  have := v.isLt
  show (v.val % 256 ^ 32 % 2 ^ 255) % P = v.val
  rw [Nat.mod_eq_of_lt (a := v.val) (b := 256 ^ 32) (Nat.lt_trans this (by decide)), Nat.mod_eq_of_lt (a := v.val) (b := 2 ^ 255) (Nat.lt_trans this (by decide)), Nat.mod_eq_of_lt this]
theorem nine_fp : (Fin.ofNat P (leN nineL % 2 ^ 255) : Fp) = 9 := by decide +kernel
theorem baseL_eq (k : List Nat) : baseL k = leB 32 (EdC.mulx (leN (clampL k)) (9 : Fp)).val := by
  unfold baseL x255; rw [nine_fp]
/-- Two secrets agree. -/
theorem x255_dh {a b : List Nat} [Us .u8 a] [Us .u8 b] (ha : a.length = 32) (hb : b.length = 32) : x255 a (baseL b) = x255 b (baseL a) := by
  rw [baseL_eq, baseL_eq, x255_enc, x255_enc]
  obtain ⟨⟨m, hm⟩, _, hm2⟩ := clampL_facts ha
  obtain ⟨⟨n, hn⟩, _, hn2⟩ := clampL_facts hb
  rw [hm, hn]
  rw [hm] at hm2
  rw [hn] at hn2
  have e1 : 8 * m = 2 * (4 * m) := by omega
  have e2 : 8 * n = 2 * (4 * n) := by omega
  rw [e1, e2, ← EdC.U_base, EdC.agree EdC.basePt (by decide +kernel) (by decide +kernel) (by omega) (by omega)]
/-- And are not nought. -/
theorem x255_ne {a b : List Nat} [Us .u8 a] [Us .u8 b] (ha : a.length = 32) (hb : b.length = 32) : x255 a (baseL b) ≠ List.replicate 32 0 := by
  rw [baseL_eq, x255_enc]
  intro h
  have h2 := congrArg leN h
  rw [leN_leB] at h2
  have h3 : leN (List.replicate 32 0) = 0 := by decide
  rw [h3, Nat.mod_eq_of_lt (Nat.lt_trans (Fin.isLt _) (by decide))] at h2
  obtain ⟨⟨m, hm⟩, hm1, hm2⟩ := clampL_facts ha
  obtain ⟨⟨n, hn⟩, hn1, hn2⟩ := clampL_facts hb
  have c1 := EdC.clamped ⟨m, hm⟩ hm1 hm2
  have c2 := EdC.clamped ⟨n, hn⟩ hn1 hn2
  rw [hm] at hm2 c1 h2
  rw [hn] at hn2 c2 h2
  have e1 : 8 * m = 2 * (4 * m) := by omega
  have e2 : 8 * n = 2 * (4 * n) := by omega
  rw [e1] at c1 h2
  rw [e2] at c2 h2
  exact EdC.dh_ne (by omega) (by omega) c1 c2 (Fin.ext h2)
def orI (l : List Nat) : Nat → Nat
  | 0 => 0
  | i + 1 => orI l i ||| l.getD i 0
theorem orI_lt {l : List Nat} [h : Us .u8 l] : ∀ i, orI l i < 2 ^ 8
  | 0 => (by decide : 0 < 2 ^ 8)
  | i + 1 => Nat.or_lt_two_pow (orI_lt i) (h.getD_lt i)
instance {l : List Nat} {i : Nat} [Us .u8 l] : Fits (orI l i) .u8 := ⟨orI_lt i⟩
theorem orI_zero {l : List Nat} : ∀ i, orI l i = 0 ↔ ∀ j, j < i → l.getD j 0 = 0
  | 0 => by simp [orI]
  | i + 1 => by
    rw [orI, Nat.or_eq_zero_iff, orI_zero i]
    constructor
    · rintro ⟨h1, h2⟩ j hj
      rcases Nat.lt_succ_iff_lt_or_eq.1 hj with h | rfl
      · exact h1 j h
      · exact h2
    · exact fun h => ⟨fun j hj => h j (by omega), h i (by omega)⟩
/-- A mask: is it other than nought? -/
def strong (z : List Nat) : Nat := if z = List.replicate 32 0 then 0 else 2 ^ 64 - 1
instance {z : List Nat} : Fits (strong z) .u64 := ⟨by unfold strong; split <;> decide⟩
theorem strong_eq {z : List Nat} [hz : Us .u8 z] (h : z.length = 32) : lneg (((orI z 32 + 255) % 2 ^ IntKind.u64.bits) >>> 8) = strong z := by
  have hlt := orI_lt (l := z) 32
  unfold strong
  by_cases h0 : z = List.replicate 32 0
  · rw [if_pos h0, (orI_zero (l := z) 32).2 fun j hj => by rw [h0, List.getD_eq_getElem?_getD, List.getElem?_replicate]; split <;> rfl]
    decide
  · rw [if_neg h0]
    have hne : orI z 32 ≠ 0 := by
      intro hz0
      apply h0
      refine List.ext_getElem (by simp [h]) fun j h1 h2 => ?_
      have := (orI_zero (l := z) 32).1 hz0 j (by omega)
      rw [List.getElem_replicate, ← this, List.getD_eq_getElem?_getD, List.getElem?_eq_getElem h1]; rfl
    have : ((orI z 32 + 255) % 2 ^ IntKind.u64.bits) >>> 8 = 1 := by
      rw [Nat.shiftRight_eq_div_pow]; simp only [IntKind.bits]; omega
    rw [this]; decide
end Go.Tw
end

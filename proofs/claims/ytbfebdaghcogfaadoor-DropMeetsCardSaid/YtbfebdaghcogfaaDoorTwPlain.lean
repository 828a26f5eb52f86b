/- 2^255 - 19 is a prime: Fermat's little theorem, Pocklington's test, the certificate. Plain mathematics. -/
section
namespace Prim

def Prime (n : Nat) : Prop := 2 ≤ n ∧ ∀ m, m ∣ n → m = 1 ∨ m = n

theorem Prime.cop {p : Nat} (hp : Prime p) {a : Nat} (h : ¬ p ∣ a) : Nat.gcd p a = 1 := by
  rcases hp.2 (Nat.gcd p a) (Nat.gcd_dvd_left p a) with h1 | h1
  · exact h1
  · exfalso; apply h; rw [← h1]; exact Nat.gcd_dvd_right p a

theorem Prime.dvd_mul {p a b : Nat} (hp : Prime p) (h : p ∣ a * b) : p ∣ a ∨ p ∣ b := by
  by_cases ha : p ∣ a
  · exact Or.inl ha
  · right
    have hc : Nat.Coprime p a := hp.cop ha
    exact hc.dvd_of_dvd_mul_left h

/-! ## Binomials, Fermat -/

def ch : Nat → Nat → Nat
  | _, 0 => 1
  | 0, _ + 1 => 0
  | n + 1, k + 1 => ch n k + ch n (k + 1)

theorem ch_zero (n : Nat) : ch n 0 = 1 := by cases n <;> rfl

theorem ch_gt : ∀ (n k : Nat), n < k → ch n k = 0
  | 0, k + 1, _ => rfl
  | n + 1, k + 1, h => by
    simp only [ch]
    rw [ch_gt n k (by omega), ch_gt n (k + 1) (by omega)]

theorem ch_self (n : Nat) : ch n n = 1 := by
  induction n with
  | zero => rfl
  | succ n ih => simp only [ch]; rw [ih, ch_gt n (n + 1) (by omega)]

theorem ch_mul : ∀ (n k : Nat), (k + 1) * ch (n + 1) (k + 1) = (n + 1) * ch n k
  | n, 0 => by
    simp only [ch, ch_zero]
    induction n with
    | zero => rfl
    | succ n ih => simp only [ch, ch_zero] at *; omega
  | 0, k + 1 => by simp [ch]
  | n + 1, k + 1 => by
    have h1 := ch_mul n k
    have h2 := ch_mul n (k + 1)
    have e : ch (n + 1 + 1) (k + 1 + 1) = ch (n + 1) (k + 1) + ch (n + 1) (k + 1 + 1) := rfl
    have e2 : ch (n + 1) (k + 1) = ch n k + ch n (k + 1) := rfl
    rw [e, Nat.mul_add, h2]
    have : (k + 1 + 1) * ch (n + 1) (k + 1) = (k + 1) * ch (n + 1) (k + 1) + ch (n + 1) (k + 1) := by rw [Nat.succ_mul]
    rw [this, h1]
    have : (n + 1 + 1) * ch (n + 1) (k + 1) = (n + 1) * ch (n + 1) (k + 1) + ch (n + 1) (k + 1) := by rw [Nat.succ_mul]
    rw [this]
    have : (n + 1) * ch (n + 1) (k + 1) = (n + 1) * ch n k + (n + 1) * ch n (k + 1) := by rw [e2, Nat.mul_add]
    omega

def sm (f : Nat → Nat) : Nat → Nat
  | 0 => 0
  | n + 1 => sm f n + f n

theorem sm_add (f g : Nat → Nat) (n : Nat) : sm (fun k => f k + g k) n = sm f n + sm g n := by
  induction n with
  | zero => rfl
  | succ n ih => simp only [sm]; rw [ih]; omega

theorem sm_mul (f : Nat → Nat) (a n : Nat) : sm (fun k => a * f k) n = a * sm f n := by
  induction n with
  | zero => rfl
  | succ n ih => simp only [sm]; rw [ih, Nat.mul_add]

theorem sm_congr {f g : Nat → Nat} (n : Nat) (h : ∀ k, k < n → f k = g k) : sm f n = sm g n := by
  induction n with
  | zero => rfl
  | succ n ih => simp only [sm]; rw [ih (fun k hk => h k (by omega)), h n (by omega)]

theorem sm_shift (f : Nat → Nat) (n : Nat) : sm f (n + 1) = f 0 + sm (fun k => f (k + 1)) n := by
  induction n with
  | zero => simp [sm]
  | succ n ih => rw [sm, ih]; simp only [sm]; omega

theorem binom (a n : Nat) : (a + 1) ^ n = sm (fun k => ch n k * a ^ k) (n + 1) := by
  induction n with
  | zero => rfl
  | succ n ih =>
    rw [Nat.pow_succ, ih, Nat.mul_add, Nat.mul_one]
    have e1 : sm (fun k => ch n k * a ^ k) (n + 1) * a = sm (fun k => ch n k * a ^ (k + 1)) (n + 1) := by
      rw [Nat.mul_comm, ← sm_mul]
      apply sm_congr
      intro k _
      rw [Nat.pow_succ, Nat.mul_left_comm, Nat.mul_comm a]
    rw [e1]
    rw [sm_shift (fun k => ch (n + 1) k * a ^ k) (n + 1)]
    have e2 : sm (fun k => ch (n + 1) (k + 1) * a ^ (k + 1)) (n + 1) = sm (fun k => ch n k * a ^ (k + 1)) (n + 1) + sm (fun k => ch n (k + 1) * a ^ (k + 1)) (n + 1) := by
      rw [← sm_add]
      apply sm_congr
      intro k _
      show (ch n k + ch n (k + 1)) * a ^ (k + 1) = _
      rw [Nat.add_mul]
    rw [e2]
    rw [sm_shift (fun k => ch n k * a ^ k) n]
    have e3 : sm (fun k => ch n (k + 1) * a ^ (k + 1)) (n + 1) = sm (fun k => ch n (k + 1) * a ^ (k + 1)) n + ch n (n + 1) * a ^ (n + 1) := rfl
    rw [e3, ch_gt n (n + 1) (by omega)]
    simp only [ch_zero, Nat.zero_mul, Nat.add_zero]
    omega

theorem ch_dvd {p k : Nat} (hp : Prime p) (h1 : 0 < k) (h2 : k < p) : p ∣ ch p k := by
  obtain ⟨n, rfl⟩ : ∃ n, p = n + 1 := ⟨p - 1, by omega⟩
  obtain ⟨j, rfl⟩ : ∃ j, k = j + 1 := ⟨k - 1, by omega⟩
  have h := ch_mul n j
  have hd : (n + 1) ∣ (j + 1) * ch (n + 1) (j + 1) := ⟨ch n j, h⟩
  rcases hp.dvd_mul hd with h3 | h3
  · have := Nat.le_of_dvd (by omega) h3; omega
  · exact h3

theorem sm_mod_zero {f : Nat → Nat} {p : Nat} (n : Nat) (h : ∀ k, k < n → p ∣ f k) : p ∣ sm f n := by
  induction n with
  | zero => exact ⟨0, rfl⟩
  | succ n ih => exact Nat.dvd_add (ih fun k hk => h k (by omega)) (h n (by omega))

theorem frob {p : Nat} (hp : Prime p) (a : Nat) : (a + 1) ^ p % p = (a ^ p + 1) % p := by
  rw [binom]
  obtain ⟨n, rfl⟩ : ∃ n, p = n + 1 := ⟨p - 1, by have := hp.1; omega⟩
  rw [sm, sm_shift, ch_self]
  have hd : (n + 1) ∣ sm (fun k => ch (n + 1) (k + 1) * a ^ (k + 1)) n := sm_mod_zero n fun k hk => by
    exact Nat.dvd_trans (ch_dvd hp (by omega) (by omega)) ⟨_, rfl⟩
  obtain ⟨c, hc⟩ := hd
  rw [hc]
  simp only [ch_zero]
  have : 1 * a ^ 0 + (n + 1) * c + 1 * a ^ (n + 1) = (a ^ (n + 1) + 1) + (n + 1) * c := by simp; omega
  rw [this, Nat.add_mul_mod_self_left]

theorem fermat {p : Nat} (hp : Prime p) (a : Nat) : a ^ p % p = a % p := by
  induction a with
  | zero =>
    have := hp.1
    rw [Nat.zero_pow (by omega)]
  | succ a ih =>
    rw [frob hp, Nat.add_mod, ih, ← Nat.add_mod]

theorem cancel_mod {p a b c : Nat} (hp : Prime p) (hc : ¬ p ∣ c) (h : a * c % p = b * c % p) : a % p = b % p := by
  rcases Nat.le_total a b with hab | hab
  · have : p ∣ (b - a) * c := by
      rw [Nat.sub_mul]
      exact (Nat.dvd_of_mod_eq_zero (Nat.sub_mod_eq_zero_of_mod_eq h.symm))
    have := (hp.dvd_mul this).resolve_right hc
    obtain ⟨k, hk⟩ := this
    have : b = a + p * k := by omega
    rw [this, Nat.add_mul_mod_self_left]
  · have : p ∣ (a - b) * c := by
      rw [Nat.sub_mul]
      exact (Nat.dvd_of_mod_eq_zero (Nat.sub_mod_eq_zero_of_mod_eq h))
    have := (hp.dvd_mul this).resolve_right hc
    obtain ⟨k, hk⟩ := this
    have : a = b + p * k := by omega
    rw [this, Nat.add_mul_mod_self_left]

theorem fermat1 {p : Nat} (hp : Prime p) {a : Nat} (ha : ¬ p ∣ a) : a ^ (p - 1) % p = 1 % p := by
  apply cancel_mod hp ha
  rw [← Nat.pow_succ, Nat.one_mul]
  have : (p - 1).succ = p := by have := hp.1; omega
  rw [this]
  exact fermat hp a

/-! ## Orders -/

theorem pow_mod_one {n b e : Nat} (h : b ^ e % n = 1 % n) (k : Nat) : b ^ (e * k) % n = 1 % n := by
  induction k with
  | zero => rfl
  | succ k ih => rw [Nat.mul_succ, Nat.pow_add, Nat.mul_mod, ih, h, ← Nat.mul_mod]

theorem pow_gcd {n b : Nat} : ∀ (e f : Nat), b ^ e % n = 1 % n → b ^ f % n = 1 % n → b ^ (Nat.gcd e f) % n = 1 % n := by
  intro e f
  induction e, f using Nat.gcd.induction with
  | H0 f => intro _ h; rw [Nat.gcd_zero_left]; exact h
  | H1 e f _ ih =>
    intro he hf
    rw [Nat.gcd_rec]
    apply ih _ he
    have h1 : f = f % e + e * (f / e) := by rw [Nat.mod_add_div]
    rw [h1, Nat.pow_add, Nat.mul_mod, pow_mod_one he, ← Nat.mul_mod, Nat.mul_one] at hf
    exact hf

/-- Pocklington's step: whatever prime divides n leaves 1 modulo q. -/
theorem pock {n q h a : Nat} (hq : Prime q) (hn : n = q * h + 1) (h1 : a ^ (q * h) % n = 1) (h2 : Nat.gcd (a ^ h % n + (n - 1)) n = 1) {r : Nat} (hr : Prime r) (hrn : r ∣ n) : q ∣ r - 1 := by
  have hn2 : 2 ≤ n := Nat.le_trans hr.1 (Nat.le_of_dvd (by omega) hrn)
  have hr1 : 1 % r = 1 := Nat.mod_eq_of_lt hr.1
  have down : ∀ x, x % n % r = x % r := fun x => Nat.mod_mod_of_dvd x hrn
  have e1 : (a ^ h) ^ q % r = 1 % r := by
    rw [← Nat.pow_mul, Nat.mul_comm, ← down, h1]
  have ne : a ^ h % r ≠ 1 := by
    intro he
    have hd : r ∣ a ^ h % n + (n - 1) := by
      apply Nat.dvd_of_mod_eq_zero
      rw [Nat.add_mod, down, he]
      obtain ⟨k, hk⟩ := hrn
      have : (1 + (n - 1) % r) % r = (1 + (n - 1)) % r := by rw [Nat.add_mod 1 (n - 1), hr1]
      rw [this]
      have : 1 + (n - 1) = r * k := by omega
      rw [this, Nat.mul_mod_right]
    have : r ∣ 1 := by rw [← h2]; exact Nat.dvd_gcd hd hrn
    have := Nat.le_of_dvd (by omega) this
    have := hr.1
    omega
  have nz : ¬ r ∣ a ^ h := by
    intro hd
    have hz : (a ^ h) % r = 0 := Nat.mod_eq_zero_of_dvd hd
    have hq0 : q ≠ 0 := by have := hq.1; omega
    have : (a ^ h) ^ q % r = 0 := by
      rw [Nat.pow_mod, hz, Nat.zero_pow (by omega)]; simp
    rw [this, hr1] at e1
    omega
  have e2 : (a ^ h) ^ (r - 1) % r = 1 % r := fermat1 hr nz
  by_cases hd : q ∣ r - 1
  · exact hd
  · have := pow_gcd q (r - 1) e1 e2
    rw [hq.cop hd, Nat.pow_one, hr1] at this
    exact absurd this ne

theorem prime_factor : ∀ n, 2 ≤ n → ∃ r, Prime r ∧ r ∣ n := by
  intro n
  induction n using Nat.strongRecOn with
  | ind n ih =>
    intro hn
    by_cases hp : Prime n
    · exact ⟨n, hp, Nat.dvd_refl n⟩
    · have : ∃ m, m ∣ n ∧ m ≠ 1 ∧ m ≠ n := by
        apply Classical.byContradiction
        intro hno
        apply hp
        refine ⟨hn, fun m hm => ?_⟩
        apply Classical.byContradiction
        intro hc
        exact hno ⟨m, hm, fun h => hc (Or.inl h), fun h => hc (Or.inr h)⟩
      obtain ⟨m, hm, h1, h2⟩ := this
      have hle := Nat.le_of_dvd (by omega) hm
      have h0 : m ≠ 0 := by intro h; rw [h] at hm; have := Nat.eq_zero_of_zero_dvd hm; omega
      obtain ⟨r, hr, hrm⟩ := ih m (by omega) (by omega)
      exact ⟨r, hr, Nat.dvd_trans hrm hm⟩

/-- All prime factors are above the root. -/
theorem prime_of {n : Nat} (hn : 2 ≤ n) (h : ∀ r, Prime r → r ∣ n → n < r * r) : Prime n := by
  refine ⟨hn, fun m hm => ?_⟩
  obtain ⟨k, hk⟩ := hm
  by_cases h1 : m = 1
  · exact Or.inl h1
  · by_cases h2 : k = 1
    · right; rw [hk, h2, Nat.mul_one]
    · exfalso
      have hm0 : m ≠ 0 := by intro e; rw [e] at hk; omega
      have hk0 : k ≠ 0 := by intro e; rw [e] at hk; omega
      obtain ⟨r, hr, hrm⟩ := prime_factor m (by omega)
      obtain ⟨s, hs, hsk⟩ := prime_factor k (by omega)
      have b1 := h r hr (Nat.dvd_trans hrm ⟨k, hk⟩)
      have b2 := h s hs (Nat.dvd_trans hsk ⟨m, by rw [Nat.mul_comm]; exact hk⟩)
      have l1 := Nat.le_of_dvd (by omega) hrm
      have l2 := Nat.le_of_dvd (by omega) hsk
      rcases Nat.le_total m k with hmk | hmk
      · have : r * r ≤ m * k := Nat.mul_le_mul l1 (Nat.le_trans l1 hmk)
        omega
      · have : s * s ≤ m * k := Nat.mul_le_mul (Nat.le_trans l2 hmk) l2
        omega

theorem of_one {n q : Nat} (hn : 2 ≤ n) (hs : n < q * q) (h : ∀ r, Prime r → r ∣ n → q ∣ r - 1) : Prime n := by
  apply prime_of hn
  intro r hr hd
  have := h r hr hd
  have h2 := hr.1
  have := Nat.le_of_dvd (by omega) this
  have : q * q ≤ r * r := Nat.mul_le_mul (by omega) (by omega)
  omega

theorem of_two {n q s : Nat} (hn : 2 ≤ n) (hq : Prime q) (hne : ¬ q ∣ s) (hs : n < (q * s) * (q * s)) (h : ∀ r, Prime r → r ∣ n → q ∣ r - 1) (h' : ∀ r, Prime r → r ∣ n → s ∣ r - 1) : Prime n := by
  apply of_one hn hs
  intro r hr hd
  have hc : Nat.Coprime q s := hq.cop hne
  exact hc.mul_dvd_of_dvd_of_dvd (h r hr hd) (h' r hr hd)

/-! ## Reckoning -/

/-- a^e modulo n, bit by bit; 'f' bounds the bits. -/
def pm (n : Nat) : Nat → Nat → Nat → Nat
  | 0, _, _ => 1 % n
  | f + 1, a, e => if e % 2 = 1 then (pm n f (a * a % n) (e / 2)) * a % n else pm n f (a * a % n) (e / 2)

theorem pm_eq (n : Nat) : ∀ (f a e : Nat), e < 2 ^ f → pm n f a e = a ^ e % n
  | 0, a, e, h => by
    have : e = 0 := by omega
    subst this; rfl
  | f + 1, a, e, h => by
    have hlt : e / 2 < 2 ^ f := by rw [Nat.pow_succ] at h; omega
    have ih := pm_eq n f (a * a % n) (e / 2) hlt
    have sq : (a * a % n) ^ (e / 2) % n = a ^ (2 * (e / 2)) % n := by
      rw [← Nat.pow_mod, Nat.pow_mul, Nat.pow_two]
    simp only [pm]
    split
    · next hb =>
      rw [ih, sq]
      have he : e = 2 * (e / 2) + 1 := by omega
      rw [Nat.mod_mul_mod]
      rw [← Nat.pow_succ]
      congr 2
      omega
    · next hb =>
      rw [ih, sq]
      congr 2
      omega

/-- No number from 2 on, up to the root, divides n. -/
def trial (n : Nat) : Nat → Nat → Bool
  | 0, _ => false
  | f + 1, k => if n < k * k then true else if n % k = 0 then false else trial n f (k + 1)

theorem trial_prime {n : Nat} : ∀ (f k : Nat), trial n f k = true → 2 ≤ n → (∀ r, Prime r → r ∣ n → k ≤ r) → Prime n
  | 0, _, h, _, _ => by simp [trial] at h
  | f + 1, k, h, hn, hk => by
    simp only [trial] at h
    split at h
    · next hlt =>
      apply prime_of hn
      intro r hr hd
      have := hk r hr hd
      have := Nat.mul_le_mul this this
      omega
    · split at h
      · exact absurd h (by simp)
      · next hnd =>
        apply trial_prime f (k + 1) h hn
        intro r hr hd
        have := hk r hr hd
        rcases Nat.eq_or_lt_of_le this with e | e
        · exfalso; apply hnd; rw [e]; exact Nat.mod_eq_zero_of_dvd hd
        · exact e

theorem by_trial {n : Nat} (f : Nat) (h : trial n f 2 = true) (hn : 2 ≤ n) : Prime n := trial_prime f 2 h hn fun _ hr _ => hr.1

theorem pock' {n q h a f : Nat} (hq : Prime q) (hn : n = q * h + 1) (hf : q * h < 2 ^ f) (hf' : h < 2 ^ f) (h1 : pm n f a (q * h) = 1) (h2 : Nat.gcd (pm n f a h + (n - 1)) n = 1) {r : Nat} (hr : Prime r) (hrn : r ∣ n) : q ∣ r - 1 := by
  rw [pm_eq _ _ _ _ hf] at h1
  rw [pm_eq _ _ _ _ hf'] at h2
  exact pock hq hn h1 h2 hr hrn

theorem p1 : Prime 991 := by_trial 1000 (by decide +kernel) (by decide)
theorem p2 : Prime 4153 := by_trial 1000 (by decide +kernel) (by decide)
theorem p3 : Prime 430751 := by_trial 1000 (by decide +kernel) (by decide)
theorem p4 : Prime 569003 := by_trial 1000 (by decide +kernel) (by decide)
theorem p5 : Prime 8574133 := by_trial 4000 (by decide +kernel) (by decide)
theorem p5b : Prime 127 := by_trial 1000 (by decide +kernel) (by decide)
theorem p6 : Prime 2773320623 := of_one (q := 569003) (by decide) (by decide) fun _ hr hd =>
  pock' (h := 4874) (a := 2) (f := 256) p4 (by decide) (by decide) (by decide) (by decide +kernel) (by decide +kernel) hr hd
theorem p7 : Prime 72106336199 := of_one (q := 2773320623) (by decide) (by decide) fun _ hr hd =>
  pock' (h := 26) (a := 2) (f := 256) p6 (by decide) (by decide) (by decide) (by decide +kernel) (by decide +kernel) hr hd
theorem p8 : Prime 1919519569386763 := of_two (q := 8574133) (s := 127) (by decide) p5 (by decide) (by decide)
  (fun _ hr hd => pock' (h := 223873314) (a := 2) (f := 256) p5 (by decide) (by decide) (by decide) (by decide +kernel) (by decide +kernel) hr hd)
  (fun _ hr hd => pock' (h := 15114327318006) (a := 2) (f := 256) p5b (by decide) (by decide) (by decide) (by decide +kernel) (by decide +kernel) hr hd)
theorem p9 : Prime 31757755568855353 := of_two (q := 430751) (s := 4153) (by decide) p3 (by decide) (by decide)
  (fun _ hr hd => pock' (h := 73726481352) (a := 2) (f := 256) p3 (by decide) (by decide) (by decide) (by decide +kernel) (by decide +kernel) hr hd)
  (fun _ hr hd => pock' (h := 7646943310584) (a := 2) (f := 256) p2 (by decide) (by decide) (by decide) (by decide +kernel) (by decide +kernel) hr hd)

theorem p10 : Prime 75445702479781427272750846543864801 := of_two (q := 1919519569386763) (s := 72106336199) (by decide) p8 (by decide) (by decide)
  (fun _ hr hd => pock' (h := 39304471641247389600) (a := 2) (f := 256) p8 (by decide) (by decide) (by decide) (by decide +kernel) (by decide +kernel) hr hd)
  (fun _ hr hd => pock' (h := 1046311689884858398375200) (a := 2) (f := 256) p7 (by decide) (by decide) (by decide) (by decide +kernel) (by decide +kernel) hr hd)
theorem p11 : Prime 74058212732561358302231226437062788676166966415465897661863160754340907 := of_two (q := 75445702479781427272750846543864801) (s := 31757755568855353) (by decide) p10 (by decide) (by decide)
  (fun _ hr hd => pock' (h := 981609426360740691344999861639072106) (a := 2) (f := 256) p10 (by decide) (by decide) (by decide) (by decide +kernel) (by decide +kernel) hr hd)
  (fun _ hr hd => pock' (h := 2331972502653487852620185443007392165117953542933313402) (a := 2) (f := 256) p9 (by decide) (by decide) (by decide) (by decide +kernel) (by decide +kernel) hr hd)
theorem p25519 : Prime 57896044618658097711785492504343953926634992332820282019728792003956564819949 := of_one (q := 74058212732561358302231226437062788676166966415465897661863160754340907) (by decide) (by decide)
  (fun _ hr hd => pock' (h := 781764) (a := 2) (f := 256) p11 (by decide) (by decide) (by decide) (by decide +kernel) (by decide +kernel) hr hd)

end Prim
end

section
namespace EdC

/-- What the curve needs of its field. -/
class EdF (nn : Nat) [NeZero nn] where
  inv : Fin nn → Fin nn
  d : Fin nn
  c : Fin nn
  i : Fin nn
  mul_inv : ∀ a : Fin nn, a ≠ 0 → a * inv a = 1
  inv_zero : inv 0 = 0
  ii : i * i = -1
  nonsq : ∀ s : Fin nn, s * s ≠ -d
  hc : (c + 1) * d = -c
  c1 : c + 1 ≠ 0
  two : (2 : Fin nn) ≠ 0
  one : (1 : Fin nn) ≠ 0

variable {nn : Nat} [NeZero nn] [EdF nn]
open EdF (inv d c)

theorem mul_ne {a b : Fin nn} (ha : a ≠ 0) (hb : b ≠ 0) : a * b ≠ 0 := by
  intro h
  have h1 := EdF.mul_inv a ha
  have h2 := EdF.mul_inv b hb
  have : (1 : Fin nn) = 0 := by
    have e : (a * inv a) * (b * inv b) = (a * b) * (inv a * inv b) := by grind
    rw [h1, h2, h] at e
    grind
  exact EdF.one this

theorem zero_or {a b : Fin nn} (h : a * b = 0) : a = 0 ∨ b = 0 := by
  by_cases ha : a = 0
  · exact Or.inl ha
  · by_cases hb : b = 0
    · exact Or.inr hb
    · exact absurd h (mul_ne ha hb)

theorem cancel {a b c : Fin nn} (hc : c ≠ 0) (h : a * c = b * c) : a = b := by
  have : (a - b) * c = 0 := by grind
  rcases zero_or this with h | h
  · grind
  · exact absurd h hc

theorem sq_zero {a : Fin nn} (h : a ^ 2 = 0) : a = 0 := by
  have : a * a = 0 := by grind
  rcases zero_or this with h | h <;> exact h

/-- A point. -/
structure Pt (nn : Nat) [NeZero nn] [EdF nn] where
  x : Fin nn
  y : Fin nn
  on : y^2 - x^2 = 1 + d * x^2 * y^2

theorem Pt.ext' {P Q : Pt nn} (hx : P.x = Q.x) (hy : P.y = Q.y) : P = Q := by
  cases P; cases Q; simp_all

theorem sq_quot {s t : Fin nn} (ht : t ≠ 0) (h : s^2 = -d * t^2) : False := by
  refine EdF.nonsq (s * inv t) ?_
  have e := EdF.mul_inv t ht
  have : s * inv t * (s * inv t) = s^2 * (inv t * inv t) := by grind
  rw [this, h]
  have : -d * t^2 * (inv t * inv t) = -d * ((t * inv t) * (t * inv t)) := by grind
  rw [this, e]
  grind

/-- The denominators never vanish. -/
theorem den_sq {x1 y1 x2 y2 : Fin nn} (h1 : y1^2 - x1^2 = 1 + d*x1^2*y1^2) (h2 : y2^2 - x2^2 = 1 + d*x2^2*y2^2) (e : Fin nn) (he : e = d*x1*x2*y1*y2) (hee : e*e = 1) : False := by
  have hi := EdF.ii (nn := nn)
  have ki : (EdF.i : Fin nn) ≠ 0 := by
    intro h; rw [h] at hi
    have : (1 : Fin nn) = 0 := by grind
    exact EdF.one this
  have e0 : e ≠ 0 := by
    intro h; rw [h] at hee
    have : (1 : Fin nn) = 0 := by grind
    exact EdF.one this
  have a1 : x1 ≠ 0 := by intro h; apply e0; rw [he, h]; grind
  have b1 : y1 ≠ 0 := by intro h; apply e0; rw [he, h]; grind
  have b2 : y2 ≠ 0 := by intro h; apply e0; rw [he, h]; grind
  have k1 : (EdF.i*x1 + e*y1)^2 = -d * (EdF.i*x1*y1*(EdF.i*x2+y2))^2 := by grind
  have k2 : (EdF.i*x1 - e*y1)^2 = -d * (EdF.i*x1*y1*(EdF.i*x2-y2))^2 := by grind
  have n0 : (EdF.i*x1*y1 : Fin nn) ≠ 0 := mul_ne (mul_ne ki a1) b1
  by_cases hp : (EdF.i*x2+y2 : Fin nn) = 0
  · by_cases hm : (EdF.i*x2-y2 : Fin nn) = 0
    · have : (2:Fin nn) * y2 = 0 := by grind
      rcases zero_or this with h | h
      · exact EdF.two h
      · exact b2 h
    · exact sq_quot (mul_ne n0 hm) k2
  · exact sq_quot (mul_ne n0 hp) k1

theorem den_p (P Q : Pt nn) : 1 + d * P.x * Q.x * P.y * Q.y ≠ 0 := by
  intro h
  refine den_sq P.on Q.on (d * P.x * Q.x * P.y * Q.y) rfl ?_
  have : d * P.x * Q.x * P.y * Q.y = -1 := by grind
  rw [this]; grind

theorem den_m (P Q : Pt nn) : 1 - d * P.x * Q.x * P.y * Q.y ≠ 0 := by
  intro h
  refine den_sq P.on Q.on (d * P.x * Q.x * P.y * Q.y) rfl ?_
  have : d * P.x * Q.x * P.y * Q.y = 1 := by grind
  rw [this]; grind

theorem add_on {x1 y1 x2 y2 p m : Fin nn} (h1 : y1^2 - x1^2 = 1 + d*x1^2*y1^2) (h2 : y2^2 - x2^2 = 1 + d*x2^2*y2^2)
    (hp : (1 + d*x1*x2*y1*y2) * p = 1) (hm : (1 - d*x1*x2*y1*y2) * m = 1) :
    ((y1*y2+x1*x2)*m)^2 - ((x1*y2+y1*x2)*p)^2 = 1 + d * ((x1*y2+y1*x2)*p)^2 * ((y1*y2+x1*x2)*m)^2 := by
  have k : ((y1*y2+x1*x2)*(1+d*x1*x2*y1*y2))^2 - ((x1*y2+y1*x2)*(1-d*x1*x2*y1*y2))^2 = ((1+d*x1*x2*y1*y2)*(1-d*x1*x2*y1*y2))^2 + d*((x1*y2+y1*x2)*(y1*y2+x1*x2))^2 := by
    clear hp hm; grind
  clear h1 h2
  generalize 1 + d*x1*x2*y1*y2 = D at *
  generalize 1 - d*x1*x2*y1*y2 = E at *
  generalize y1*y2+x1*x2 = N at *
  generalize x1*y2+y1*x2 = M at *
  have : ((N*D)^2 - (M*E)^2) * (p*m)^2 = ((D*E)^2 + d*(M*N)^2) * (p*m)^2 := by rw [k]
  have e1 : ((N*D)^2 - (M*E)^2) * (p*m)^2 = (N*m)^2 * (D*p)^2 - (M*p)^2 * (E*m)^2 := by clear k this hp hm; grind
  have e2 : ((D*E)^2 + d*(M*N)^2) * (p*m)^2 = (D*p)^2*(E*m)^2 + d*(M*p)^2*(N*m)^2 := by clear k this hp hm; grind
  rw [e1, e2, hp, hm] at this
  grind

/-- The sum. -/
def add (P Q : Pt nn) : Pt nn where
  x := (P.x*Q.y + P.y*Q.x) * inv (1 + d * P.x * Q.x * P.y * Q.y)
  y := (P.y*Q.y + P.x*Q.x) * inv (1 - d * P.x * Q.x * P.y * Q.y)
  on := add_on P.on Q.on (EdF.mul_inv _ (den_p P Q)) (EdF.mul_inv _ (den_m P Q))

theorem add_x (P Q : Pt nn) : (add P Q).x * (1 + d * P.x * Q.x * P.y * Q.y) = P.x*Q.y + P.y*Q.x := by
  have := EdF.mul_inv _ (den_p P Q)
  show (P.x*Q.y + P.y*Q.x) * inv (1 + d * P.x * Q.x * P.y * Q.y) * (1 + d * P.x * Q.x * P.y * Q.y) = _
  generalize 1 + d * P.x * Q.x * P.y * Q.y = D at *
  grind

theorem add_y (P Q : Pt nn) : (add P Q).y * (1 - d * P.x * Q.x * P.y * Q.y) = P.y*Q.y + P.x*Q.x := by
  have := EdF.mul_inv _ (den_m P Q)
  show (P.y*Q.y + P.x*Q.x) * inv (1 - d * P.x * Q.x * P.y * Q.y) * (1 - d * P.x * Q.x * P.y * Q.y) = _
  generalize 1 - d * P.x * Q.x * P.y * Q.y = D at *
  grind

def zero : Pt nn where
  x := 0
  y := 1
  on := by grind

def neg (P : Pt nn) : Pt nn where
  x := -P.x
  y := P.y
  on := by have := P.on; grind

theorem add_comm (P Q : Pt nn) : add P Q = add Q P := by
  apply Pt.ext'
  · apply cancel (den_p P Q)
    rw [add_x]
    have := add_x Q P
    grind
  · apply cancel (den_m P Q)
    rw [add_y]
    have := add_y Q P
    grind

theorem add_zero (P : Pt nn) : add P zero = P := by
  apply Pt.ext'
  · apply cancel (den_p P zero)
    rw [add_x]
    simp only [zero]
    grind
  · apply cancel (den_m P zero)
    rw [add_y]
    simp only [zero]
    grind

theorem assoc_xp {mm : Nat} [NeZero mm] (x1 y1 x2 y2 x3 y3 d : Fin mm) (h1 : y1^2 - x1^2 = 1 + d*x1^2*y1^2) (h2 : y2^2 - x2^2 = 1 + d*x2^2*y2^2) (h3 : y3^2 - x3^2 = 1 + d*x3^2*y3^2) :
   ((x1*y2+y1*x2)*(1-d*x1*x2*y1*y2)*y3 + (y1*y2+x1*x2)*(1+d*x1*x2*y1*y2)*x3) * ((1+d*x2*x3*y2*y3)*(1-d*x2*x3*y2*y3) + d*x1*y1*(x2*y3+y2*x3)*(y2*y3+x2*x3))
   = (x1*(y2*y3+x2*x3)*(1+d*x2*x3*y2*y3) + y1*(x2*y3+y2*x3)*(1-d*x2*x3*y2*y3)) * ((1+d*x1*x2*y1*y2)*(1-d*x1*x2*y1*y2) + d*x3*y3*(x1*y2+y1*x2)*(y1*y2+x1*x2)) := by grind

theorem assoc_yp {mm : Nat} [NeZero mm] (x1 y1 x2 y2 x3 y3 d : Fin mm) (h1 : y1^2 - x1^2 = 1 + d*x1^2*y1^2) (h2 : y2^2 - x2^2 = 1 + d*x2^2*y2^2) (h3 : y3^2 - x3^2 = 1 + d*x3^2*y3^2) :
   ((y1*y2+x1*x2)*(1+d*x1*x2*y1*y2)*y3 + (x1*y2+y1*x2)*(1-d*x1*x2*y1*y2)*x3) * ((1+d*x2*x3*y2*y3)*(1-d*x2*x3*y2*y3) - d*x1*y1*(x2*y3+y2*x3)*(y2*y3+x2*x3))
   = (y1*(y2*y3+x2*x3)*(1+d*x2*x3*y2*y3) + x1*(x2*y3+y2*x3)*(1-d*x2*x3*y2*y3)) * ((1+d*x1*x2*y1*y2)*(1-d*x1*x2*y1*y2) - d*x3*y3*(x1*y2+y1*x2)*(y1*y2+x1*x2)) := by grind

theorem assoc_x {x1 y1 x2 y2 x3 y3 a b e f X Y : Fin nn} (h1 : y1^2 - x1^2 = 1 + d*x1^2*y1^2) (h2 : y2^2 - x2^2 = 1 + d*x2^2*y2^2) (h3 : y3^2 - x3^2 = 1 + d*x3^2*y3^2)
    (n1 : 1 + d*x1*x2*y1*y2 ≠ 0) (n2 : 1 - d*x1*x2*y1*y2 ≠ 0) (n3 : 1 + d*x2*x3*y2*y3 ≠ 0) (n4 : 1 - d*x2*x3*y2*y3 ≠ 0) (n5 : 1 + d*a*x3*b*y3 ≠ 0) (n6 : 1 + d*x1*e*y1*f ≠ 0)
    (ha : a * (1 + d*x1*x2*y1*y2) = x1*y2+y1*x2) (hb : b * (1 - d*x1*x2*y1*y2) = y1*y2+x1*x2)
    (he : e * (1 + d*x2*x3*y2*y3) = x2*y3+y2*x3) (hf : f * (1 - d*x2*x3*y2*y3) = y2*y3+x2*x3)
    (hX : X * (1 + d*a*x3*b*y3) = a*y3+b*x3) (hY : Y * (1 + d*x1*e*y1*f) = x1*f+y1*e) : X = Y := by
  have key := assoc_xp x1 y1 x2 y2 x3 y3 d h1 h2 h3
  clear h1 h2 h3
  apply cancel n5
  apply cancel n6
  rw [hX]
  have : Y * (1 + d*a*x3*b*y3) * (1 + d*x1*e*y1*f) = (Y * (1 + d*x1*e*y1*f)) * (1 + d*a*x3*b*y3) := by grind
  rw [this, hY]
  clear this hX hY n5 n6
  rw [← ha, ← hb, ← he, ← hf] at key
  clear ha hb he hf
  generalize 1 + d*x1*x2*y1*y2 = D1 at *
  generalize 1 - d*x1*x2*y1*y2 = D2 at *
  generalize 1 + d*x2*x3*y2*y3 = D3 at *
  generalize 1 - d*x2*x3*y2*y3 = D4 at *
  apply cancel (mul_ne (mul_ne n1 n2) (mul_ne n3 n4))
  clear n1 n2 n3 n4
  grind

theorem assoc_y {x1 y1 x2 y2 x3 y3 a b e f X Y : Fin nn} (h1 : y1^2 - x1^2 = 1 + d*x1^2*y1^2) (h2 : y2^2 - x2^2 = 1 + d*x2^2*y2^2) (h3 : y3^2 - x3^2 = 1 + d*x3^2*y3^2)
    (n1 : 1 + d*x1*x2*y1*y2 ≠ 0) (n2 : 1 - d*x1*x2*y1*y2 ≠ 0) (n3 : 1 + d*x2*x3*y2*y3 ≠ 0) (n4 : 1 - d*x2*x3*y2*y3 ≠ 0) (n5 : 1 - d*a*x3*b*y3 ≠ 0) (n6 : 1 - d*x1*e*y1*f ≠ 0)
    (ha : a * (1 + d*x1*x2*y1*y2) = x1*y2+y1*x2) (hb : b * (1 - d*x1*x2*y1*y2) = y1*y2+x1*x2)
    (he : e * (1 + d*x2*x3*y2*y3) = x2*y3+y2*x3) (hf : f * (1 - d*x2*x3*y2*y3) = y2*y3+x2*x3)
    (hX : X * (1 - d*a*x3*b*y3) = b*y3+a*x3) (hY : Y * (1 - d*x1*e*y1*f) = y1*f+x1*e) : X = Y := by
  have key := assoc_yp x1 y1 x2 y2 x3 y3 d h1 h2 h3
  clear h1 h2 h3
  apply cancel n5
  apply cancel n6
  rw [hX]
  have : Y * (1 - d*a*x3*b*y3) * (1 - d*x1*e*y1*f) = (Y * (1 - d*x1*e*y1*f)) * (1 - d*a*x3*b*y3) := by grind
  rw [this, hY]
  clear this hX hY n5 n6
  rw [← ha, ← hb, ← he, ← hf] at key
  clear ha hb he hf
  generalize 1 + d*x1*x2*y1*y2 = D1 at *
  generalize 1 - d*x1*x2*y1*y2 = D2 at *
  generalize 1 + d*x2*x3*y2*y3 = D3 at *
  generalize 1 - d*x2*x3*y2*y3 = D4 at *
  apply cancel (mul_ne (mul_ne n1 n2) (mul_ne n3 n4))
  clear n1 n2 n3 n4
  grind

theorem add_assoc (P Q R : Pt nn) : add (add P Q) R = add P (add Q R) := by
  apply Pt.ext'
  · exact assoc_x P.on Q.on R.on (den_p P Q) (den_m P Q) (den_p Q R) (den_m Q R) (den_p (add P Q) R) (den_p P (add Q R))
      (add_x P Q) (add_y P Q) (add_x Q R) (add_y Q R) (add_x (add P Q) R) (add_x P (add Q R))
  · exact assoc_y P.on Q.on R.on (den_p P Q) (den_m P Q) (den_p Q R) (den_m Q R) (den_m (add P Q) R) (den_m P (add Q R))
      (add_x P Q) (add_y P Q) (add_x Q R) (add_y Q R) (add_y (add P Q) R) (add_y P (add Q R))

theorem add_neg (P : Pt nn) : add P (neg P) = zero := by
  have on := P.on
  apply Pt.ext'
  · apply cancel (den_p P (neg P))
    rw [add_x]
    simp only [neg, zero]
    grind
  · apply cancel (den_m P (neg P))
    rw [add_y]
    simp only [neg, zero]
    grind

theorem zero_add (P : Pt nn) : add zero P = P := by rw [add_comm, add_zero]

/-- The multiples. -/
def smul : Nat → Pt nn → Pt nn
  | 0, _ => zero
  | n + 1, P => add (smul n P) P

theorem smul_add (m n : Nat) (P : Pt nn) : smul (m + n) P = add (smul m P) (smul n P) := by
  induction n with
  | zero => rw [Nat.add_zero]; simp only [smul]; rw [add_zero]
  | succ n ih => rw [← Nat.add_assoc]; simp only [smul]; rw [ih, add_assoc]

theorem smul_mul (m n : Nat) (P : Pt nn) : smul m (smul n P) = smul (m * n) P := by
  induction m with
  | zero => rw [Nat.zero_mul]; simp only [smul]
  | succ m ih => show add (smul m (smul n P)) (smul n P) = _; rw [Nat.succ_mul, smul_add, ih]

/-! The ladder. A pair (X, Z) stands for a point P, if it is l (1 + y) and l (1 - y), l not 0. -/

def Of (X Z : Fin nn) (P : Pt nn) : Prop := ∃ l : Fin nn, l ≠ 0 ∧ X = l * (1 + P.y) ∧ Z = l * (1 - P.y)

theorem two_split {a b : Fin nn} (h : a + b = 0) (h' : a - b = 0) : a = 0 ∧ b = 0 := by
  have e1 : (2 : Fin nn) * a = 0 := by grind
  have e2 : (2 : Fin nn) * b = 0 := by grind
  exact ⟨(zero_or e1).resolve_left EdF.two, (zero_or e2).resolve_left EdF.two⟩

theorem four_ne : (4 : Fin nn) ≠ 0 := by
  have := mul_ne (EdF.two (nn := nn)) EdF.two
  have e : (4 : Fin nn) = 2 * 2 := by clear this; grind
  rw [e]; exact this

theorem dbl {X Z : Fin nn} {P : Pt nn} (h : Of X Z P) :
    Of (((X + Z) * (X + Z)) * ((X - Z) * (X - Z))) (((X + Z) * (X + Z) - (X - Z) * (X - Z)) * ((X + Z) * (X + Z) + c * ((X + Z) * (X + Z) - (X - Z) * (X - Z)))) (add P P) := by
  obtain ⟨l, hl, rfl, rfl⟩ := h
  have on := P.on
  have hy := add_y P P
  have hn := den_m P P
  have hc := EdF.hc (nn := nn)
  have k4 : (1+P.x^2) * (1 + c*(1-P.y^2)) = P.y^2 := by grind
  have hd : (1 : Fin nn) + d * P.y^2 ≠ 0 := by
    intro h
    have e : (1 + d) = (0 : Fin nn) := by grind
    have := EdF.nonsq (1 : Fin nn)
    apply this; grind
  have hc1 : (1 : Fin nn) + c*(1-P.y^2) = (c + 1) * (1 + d * P.y^2) := by grind
  have hc2 : (1 : Fin nn) + c*(1-P.y^2) ≠ 0 := by rw [hc1]; exact mul_ne EdF.c1 hd
  have hm : (1 : Fin nn) - d * P.x * P.x * P.y * P.y = 2 - P.y^2 + P.x^2 := by grind
  have h8 : (8 : Fin nn) ≠ 0 := by
    have := mul_ne (EdF.two (nn := nn)) (four_ne (nn := nn))
    have e : (8 : Fin nn) = 2 * 4 := by clear this; grind
    rw [e]; exact this
  refine ⟨8 * (l * l * (l * l)) * (1 + c*(1-P.y^2)) * (1 - d * P.x * P.x * P.y * P.y), mul_ne (mul_ne (mul_ne h8 (mul_ne (mul_ne hl hl) (mul_ne hl hl))) hc2) hn, ?_, ?_⟩
  · have e : (8 * (l * l * (l * l)) * (1 + c*(1-P.y^2)) * (1 - d * P.x * P.x * P.y * P.y)) * (1 + (add P P).y) = 8 * (l * l * (l * l)) * (1 + c*(1-P.y^2)) * ((1 - d * P.x * P.x * P.y * P.y) + (add P P).y * (1 - d * P.x * P.x * P.y * P.y)) := by grind
    rw [e, hy, hm]
    have e2 : (8 * (l * l * (l * l)) * (1 + c*(1-P.y^2)) * ((2 - P.y^2 + P.x^2) + (P.y * P.y + P.x * P.x)) : Fin nn) = 16 * (l * l * (l * l)) * ((1+P.x^2) * (1 + c*(1-P.y^2))) := by grind
    rw [e2, k4]
    grind
  · have e : (8 * (l * l * (l * l)) * (1 + c*(1-P.y^2)) * (1 - d * P.x * P.x * P.y * P.y)) * (1 - (add P P).y) = 8 * (l * l * (l * l)) * (1 + c*(1-P.y^2)) * ((1 - d * P.x * P.x * P.y * P.y) - (add P P).y * (1 - d * P.x * P.x * P.y * P.y)) := by grind
    rw [e, hy, hm]
    grind


theorem neg_den (a b u v q : Fin nn) (h : q * (1 - d * -a * b * u * v) = u*v + -a*b) : q * (1 + d*a*b*u*v) = u*v - a*b ∧ (1 + d*a*b*u*v = 1 - d * -a * b * u * v) := by
  constructor <;> grind

theorem dkey {x1 y1 x2 y2 yq ys : Fin nn} (h1 : y1^2 - x1^2 = 1 + d*x1^2*y1^2) (h2 : y2^2 - x2^2 = 1 + d*x2^2*y2^2)
    (n1 : 1 + d*x1*x2*y1*y2 ≠ 0) (n2 : 1 - d*x1*x2*y1*y2 ≠ 0) (hq : yq * (1 + d*x1*x2*y1*y2) = y1*y2 - x1*x2) (hs : ys * (1 - d*x1*x2*y1*y2) = y1*y2 + x1*x2) :
    (1 - yq) * (1 - ys) * (y1+y2)^2 = (1 + yq) * (1 + ys) * (y1-y2)^2 := by
  have k3 : ((1+d*x1*x2*y1*y2) - (y1*y2-x1*x2)) * ((1-d*x1*x2*y1*y2) - (y1*y2+x1*x2)) * (y1+y2)^2 = ((1+d*x1*x2*y1*y2) + (y1*y2-x1*x2)) * ((1-d*x1*x2*y1*y2) + (y1*y2+x1*x2)) * (y1-y2)^2 := by
    clear hq hs n1 n2; grind
  rw [← hq, ← hs] at k3
  clear hq hs h1 h2
  generalize 1 + d*x1*x2*y1*y2 = D at *
  generalize 1 - d*x1*x2*y1*y2 = E at *
  apply cancel n1
  apply cancel n2
  clear n1 n2
  grind

theorem dboth {x1 y1 x2 y2 yq : Fin nn} (h1 : y1^2 - x1^2 = 1 + d*x1^2*y1^2) (h2 : y2^2 - x2^2 = 1 + d*x2^2*y2^2) (hq : yq * (1 + d*x1*x2*y1*y2) = y1*y2 - x1*x2)
    (q1 : 1 - yq ≠ 0) (q2 : 1 + yq ≠ 0) : ¬ (y1 + y2 = 0 ∧ y1 - y2 = 0) := by
  rintro ⟨h3, h4⟩
  obtain ⟨z1, z2⟩ := two_split h3 h4
  rw [z1] at h1 hq
  rw [z2] at h2 hq
  have e : yq = - (x1 * x2) := by clear h1 h2 h3 h4; grind
  have e2 : (1 - yq) * (1 + yq) = 0 := by
    rw [e]
    have a1 : x1^2 = -1 := by clear h2 hq; grind
    have a2 : x2^2 = -1 := by clear h1 hq; grind
    clear h1 h2 h3 h4 hq e
    grind
  exact mul_ne q1 q2 e2

theorem dadd_core {l m x1 yp yr yq ys : Fin nn} (hl : l ≠ 0) (hm : m ≠ 0) (q1 : 1 - yq ≠ 0) (q2 : 1 + yq ≠ 0) (hx : x1 * (1 - yq) = 1 + yq)
    (key : (1 - yq) * (1 - ys) * (yp+yr)^2 = (1 + yq) * (1 + ys) * (yp-yr)^2) (both : ¬ (yp + yr = 0 ∧ yp - yr = 0)) :
    ∃ k : Fin nn, k ≠ 0 ∧ 16 * (l * l * (m * m)) * (yp+yr)^2 = k * (1 + ys) ∧ x1 * (16 * (l * l * (m * m)) * (yp-yr)^2) = k * (1 - ys) := by
  have h16 : (16 : Fin nn) * (l * l * (m * m)) ≠ 0 := by
    have := mul_ne (mul_ne (four_ne (nn := nn)) (four_ne (nn := nn))) (mul_ne (mul_ne hl hl) (mul_ne hm hm))
    have e : (16 : Fin nn) = 4 * 4 := by clear this key; grind
    rw [e]; exact this
  generalize 16 * (l * l * (m * m)) = w at *
  by_cases hs : 1 + ys = 0
  · have hs' : 1 - ys ≠ 0 := by
      intro h
      have : (2 : Fin nn) = 0 := by clear key; grind
      exact EdF.two this
    have hp : yp + yr = 0 := by
      rw [hs] at key
      have : (1 - yq) * (1 - ys) * (yp + yr)^2 = 0 := by rw [key]; clear key; grind
      exact sq_zero ((zero_or this).resolve_left (mul_ne q1 hs'))
    have hmn : yp - yr ≠ 0 := fun h => both ⟨hp, h⟩
    have hi := EdF.mul_inv _ hs'
    have hx0 : x1 ≠ 0 := by intro h; apply q2; rw [← hx, h]; clear key; grind
    have hi0 : inv (1 - ys) ≠ 0 := by
      intro h; rw [h] at hi; apply EdF.one (nn := nn); clear key; grind
    refine ⟨x1 * (w * (yp - yr)^2) * inv (1 - ys), mul_ne (mul_ne hx0 (mul_ne h16 ?_)) hi0, ?_, ?_⟩
    · intro h; exact hmn (sq_zero h)
    · rw [hs, hp]; clear key; grind
    · have : x1 * (w * (yp - yr)^2) * inv (1 - ys) * (1 - ys) = x1 * (w * (yp - yr)^2) * ((1 - ys) * inv (1 - ys)) := by clear key hi; grind
      rw [this, hi]; clear key; grind
  · have hi := EdF.mul_inv _ hs
    have hi0 : inv (1 + ys) ≠ 0 := by
      intro h; rw [h] at hi; apply EdF.one (nn := nn); clear key; grind
    have hp : yp + yr ≠ 0 := by
      intro hp
      rw [hp] at key
      have : (1 + yq) * (1 + ys) * (yp - yr)^2 = 0 := by rw [← key]; clear key; grind
      exact both ⟨hp, sq_zero ((zero_or this).resolve_left (mul_ne q2 hs))⟩
    refine ⟨w * (yp + yr)^2 * inv (1 + ys), mul_ne (mul_ne h16 ?_) hi0, ?_, ?_⟩
    · intro h; exact hp (sq_zero h)
    · have : w * (yp + yr)^2 * inv (1 + ys) * (1 + ys) = w * (yp + yr)^2 * ((1 + ys) * inv (1 + ys)) := by clear key hi; grind
      rw [this, hi]; clear key; grind
    · apply cancel q1
      have e1 : w * (yp + yr)^2 * inv (1 + ys) * (1 - ys) * (1 - yq) = w * inv (1 + ys) * ((1 - yq) * (1 - ys) * (yp + yr)^2) := by clear key hi; grind
      rw [e1, key]
      have e2 : w * inv (1 + ys) * ((1 + yq) * (1 + ys) * (yp - yr)^2) = w * (1 + yq) * (yp - yr)^2 * ((1 + ys) * inv (1 + ys)) := by clear key hi; grind
      rw [e2, hi]
      rw [← hx]
      clear key hi
      grind

/-- P and R, whose difference is Q. -/
theorem dadd {X2 Z2 X3 Z3 x1 : Fin nn} {P Q R : Pt nn} (hP : Of X2 Z2 P) (hR : Of X3 Z3 R) (hQ : R = add P Q) (q1 : 1 - Q.y ≠ 0) (q2 : 1 + Q.y ≠ 0) (hx : x1 * (1 - Q.y) = 1 + Q.y) :
    Of (((X3 - Z3) * (X2 + Z2) + (X3 + Z3) * (X2 - Z2)) * ((X3 - Z3) * (X2 + Z2) + (X3 + Z3) * (X2 - Z2)))
       (x1 * (((X3 - Z3) * (X2 + Z2) - (X3 + Z3) * (X2 - Z2)) * ((X3 - Z3) * (X2 + Z2) - (X3 + Z3) * (X2 - Z2)))) (add P R) := by
  obtain ⟨l, hl, rfl, rfl⟩ := hP
  obtain ⟨m, hm, rfl, rfl⟩ := hR
  -- Q = R - P
  have eQ : Q = add (neg P) R := by
    rw [hQ, ← add_assoc, add_comm (neg P) P, add_neg, zero_add]
  have hyQ := add_y (neg P) R
  rw [← eQ] at hyQ
  have hnQ := den_m (neg P) R
  simp only [neg] at hyQ hnQ
  obtain ⟨hyQ', hdn⟩ := neg_den P.x R.x P.y R.y Q.y hyQ
  rw [← hdn] at hnQ
  have key := dkey P.on R.on hnQ (den_m P R) hyQ' (add_y P R)
  obtain ⟨k, hk, e1, e2⟩ := dadd_core hl hm q1 q2 hx key (dboth P.on R.on hyQ' q1 q2)
  clear key hyQ hyQ' hdn hnQ eQ hQ
  refine ⟨k, hk, ?_, ?_⟩
  · rw [← e1]; clear e1 e2 hx; grind
  · rw [← e2]; clear e1 e2 hx; grind

end EdC
end

section
namespace EdC

abbrev P : Nat := 57896044618658097711785492504343953926634992332820282019728792003956564819949
instance : NeZero P := ⟨by decide⟩
abbrev Fp := Fin P

def fpInv (a : Fp) : Fp := ⟨Prim.pm P 256 a.val (P - 2), by
  have : ∀ f a e, Prim.pm P f a e < P := by
    intro f
    induction f with
    | zero => intro a e; exact Nat.mod_lt _ (by decide)
    | succ f ih =>
      intro a e
      simp only [Prim.pm]
      split
      · exact Nat.mod_lt _ (by decide)
      · exact ih _ _
  exact this _ _ _⟩

theorem inv_gen {p : Nat} (hp : Prim.Prime p) {a : Nat} (ha : ¬ p ∣ a) : a * (a ^ (p - 2) % p) % p = 1 % p := by
  have e : a * (a ^ (p - 2) % p) % p = a * a ^ (p - 2) % p := by rw [Nat.mul_mod, Nat.mod_mod, ← Nat.mul_mod]
  rw [e, Nat.mul_comm, ← Nat.pow_succ]
  have e2 : (p - 2).succ = p - 1 := by have := hp.1; omega
  rw [e2]; exact Prim.fermat1 hp ha

theorem sq_gen {p : Nat} (hp : Prim.Prime p) {s D k : Nat} (h : s * s % p = D) (hs : ¬ p ∣ s) (hk : p - 1 = 2 * k) : D ^ k % p = 1 % p := by
  have := Prim.fermat1 hp hs
  rw [hk, Nat.pow_mul, Nat.pow_two, Nat.pow_mod, h] at this
  exact this

theorem inv_pm {p f : Nat} (hp : Prim.Prime p) (hf : p - 2 < 2 ^ f) {a : Nat} (ha : ¬ p ∣ a) : a * Prim.pm p f a (p - 2) % p = 1 % p := by
  rw [Prim.pm_eq _ _ _ _ hf]; exact inv_gen hp ha

theorem sq_pm {p f : Nat} (hp : Prim.Prime p) {s D k : Nat} (hf : k < 2 ^ f) (h : s * s % p = D) (hs : ¬ p ∣ s) (hk : p - 1 = 2 * k) : Prim.pm p f D k = 1 % p := by
  rw [Prim.pm_eq _ _ _ _ hf]; exact sq_gen hp h hs hk

theorem fp_mul_inv (a : Fp) (ha : a ≠ 0) : a * fpInv a = 1 := by
  apply Fin.ext
  have hnd : ¬ P ∣ a.val := by
    intro h
    have h0 : a.val = 0 := Nat.eq_zero_of_dvd_of_lt h a.isLt
    exact ha (Fin.ext h0)
  exact inv_pm (f := 256) Prim.p25519 (by decide) hnd

theorem fp_nonsq (s : Fp) : s * s ≠ -(⟨37095705934669439343138083508754565189542113879843219016388785533085940283555, by decide⟩ : Fp) := by
  intro h
  have hv : s.val * s.val % P = 20800338683988658368647408995589388737092878452977063003340006470870624536394 := by
    have := congrArg Fin.val h
    rw [Fin.val_mul] at this
    rw [this]; decide
  have hnd : ¬ P ∣ s.val := by
    intro hd
    have : P ∣ s.val * s.val := Nat.dvd_trans hd ⟨_, rfl⟩
    rw [Nat.mod_eq_zero_of_dvd this] at hv
    exact absurd hv (by decide)
  have hf := sq_pm (f := 256) Prim.p25519 (by decide) hv hnd (k := 28948022309329048855892746252171976963317496166410141009864396001978282409974) (by decide)
  exact absurd hf (by decide +kernel)

instance : EdF P where
  inv := fpInv
  d := ⟨37095705934669439343138083508754565189542113879843219016388785533085940283555, by decide⟩
  c := ⟨121665, by decide⟩
  i := ⟨19681161376707505956807079304988542015446066515923890162744021073123829784752, by decide⟩
  mul_inv := fp_mul_inv
  inv_zero := by apply Fin.ext; decide +kernel
  ii := by apply Fin.ext; decide +kernel
  nonsq := fp_nonsq
  hc := by apply Fin.ext; decide +kernel
  c1 := by decide +kernel
  two := by decide +kernel
  one := by decide +kernel

/-- The base point. -/
def basePt : Pt P where
  x := ⟨42783823269122696939284341094755422415180979639778424813682678720006717057747, by decide⟩
  y := ⟨46316835694926478169428394003475163141307993866256225615783033603165251855960, by decide⟩
  on := by decide +kernel

end EdC
end

section
namespace EdC
variable {nn : Nat} [NeZero nn] [EdF nn]
open EdF (inv d c)

/-- The ladder's state. -/
structure St (K : Type) where
  x2 : K
  z2 : K
  x3 : K
  z3 : K

def St.flip (s : St (Fin nn)) : St (Fin nn) := ⟨s.x3, s.z3, s.x2, s.z2⟩

/-- A step without its exchanges. -/
def core (x1 : Fin nn) (s : St (Fin nn)) : St (Fin nn) :=
  let a := s.x2 + s.z2
  let b := s.x2 - s.z2
  let aa := a * a
  let bb := b * b
  let da := (s.x3 - s.z3) * a
  let cb := (s.x3 + s.z3) * b
  let e := aa - bb
  ⟨aa * bb, e * (aa + c * e), (da + cb) * (da + cb), x1 * ((da - cb) * (da - cb))⟩

def step (x1 : Fin nn) (s : St (Fin nn)) (bit : Bool) : St (Fin nn) := if bit then (core x1 s.flip).flip else core x1 s

def start (x1 : Fin nn) : St (Fin nn) := ⟨1, 0, x1, 1⟩

/-- The state behind the first j bits of n (255 bits, the highest first). -/
def lad (x1 : Fin nn) (n : Nat) : Nat → St (Fin nn)
  | 0 => start x1
  | j + 1 => step x1 (lad x1 n j) (n.testBit (254 - j))

def mulx (n : Nat) (x1 : Fin nn) : Fin nn := (lad x1 n 255).x2 * inv (lad x1 n 255).z2

/-- The coordinate. -/
def U (P : Pt nn) : Fin nn := (1 + P.y) * inv (1 - P.y)

theorem inv_mul {a : Fin nn} {l : Fin nn} (hl : l ≠ 0) : inv (l * a) * l = inv a := by
  by_cases ha : a = 0
  · subst ha
    have : l * (0 : Fin nn) = 0 := by grind
    rw [this, EdF.inv_zero]; grind
  · have h1 := EdF.mul_inv (l * a) (mul_ne hl ha)
    have h2 := EdF.mul_inv a ha
    apply cancel ha
    have e : inv (l * a) * l * a = (l * a) * inv (l * a) := by grind
    rw [e, h1]
    have e : inv a * a = a * inv a := by grind
    rw [e, h2]

theorem U_of {X Z : Fin nn} {P : Pt nn} (h : Of X Z P) : X * inv Z = U P := by
  obtain ⟨l, hl, rfl, rfl⟩ := h
  unfold U
  have := inv_mul (a := 1 - P.y) hl
  rw [← this]
  grind

theorem Of.swap_core {x1 : Fin nn} {s : St (Fin nn)} {P R Q : Pt nn} (hP : Of s.x2 s.z2 P) (hR : Of s.x3 s.z3 R) (hQ : R = add P Q) (q1 : 1 - Q.y ≠ 0) (q2 : 1 + Q.y ≠ 0) (hx : x1 * (1 - Q.y) = 1 + Q.y) :
    Of (core x1 s).x2 (core x1 s).z2 (add P P) ∧ Of (core x1 s).x3 (core x1 s).z3 (add P R) :=
  ⟨dbl hP, dadd hP hR hQ q1 q2 hx⟩

theorem neg_of_y {X Z : Fin nn} {P : Pt nn} (h : Of X Z P) : Of X Z (neg P) := h

theorem add_neg_right (P Q : Pt nn) : add (add P Q) (neg Q) = P := by rw [add_assoc, add_neg, add_zero]

theorem U_neg (P : Pt nn) : (neg P).y = P.y := rfl

/-- With Q's coordinate at hand the ladder runs along Q's multiples. -/
theorem lad_runs {Q : Pt nn} (q1 : 1 - Q.y ≠ 0) (q2 : 1 + Q.y ≠ 0) {x1 : Fin nn} (hx : x1 * (1 - Q.y) = 1 + Q.y) {n : Nat} (hn : n < 2 ^ 255) :
    ∀ j, j ≤ 255 → Of (lad x1 n j).x2 (lad x1 n j).z2 (smul (n / 2 ^ (255 - j)) Q) ∧ Of (lad x1 n j).x3 (lad x1 n j).z3 (smul (n / 2 ^ (255 - j) + 1) Q)
  | 0, _ => by
    have h0 : n / 2 ^ (255 - 0) = 0 := Nat.div_eq_of_lt hn
    rw [h0]
    refine ⟨⟨inv 2, ?_, ?_, ?_⟩, ⟨inv (1 - Q.y), ?_, ?_, ?_⟩⟩
    · intro h; have := EdF.mul_inv (2 : Fin nn) EdF.two; rw [h] at this; apply EdF.one (nn := nn); grind
    · have := EdF.mul_inv (2 : Fin nn) EdF.two
      show (1 : Fin nn) = inv 2 * (1 + 1); grind
    · show (0 : Fin nn) = inv 2 * (1 - 1); grind
    · intro h; have := EdF.mul_inv _ q1; rw [h] at this; apply EdF.one (nn := nn); grind
    · have hi := EdF.mul_inv _ q1
      show x1 = inv (1 - Q.y) * (1 + (add zero Q).y)
      rw [zero_add, ← hx]
      have e : inv (1 - Q.y) * (x1 * (1 - Q.y)) = x1 * ((1 - Q.y) * inv (1 - Q.y)) := by grind
      rw [e, hi]; grind
    · have hi := EdF.mul_inv _ q1
      show 1 = inv (1 - Q.y) * (1 - (add zero Q).y)
      rw [zero_add]; grind
  | j + 1, hj => by
    obtain ⟨h2, h3⟩ := lad_runs q1 q2 hx hn j (by omega)
    have hb : n / 2 ^ (255 - (j + 1)) = 2 * (n / 2 ^ (255 - j)) + (n.testBit (254 - j)).toNat := by
      have e : 255 - j = (254 - j) + 1 := by omega
      have e' : 255 - (j + 1) = 254 - j := by omega
      rw [e, e', Nat.testBit_eq_decide_div_mod_eq, Nat.pow_succ, ← Nat.div_div_eq_div_mul]
      by_cases hb : n / 2 ^ (254 - j) % 2 = 1
      · simp [hb]; omega
      · simp [hb]; omega
    generalize n / 2 ^ (255 - j) = m at *
    rw [hb]
    show Of (step x1 (lad x1 n j) (n.testBit (254 - j))).x2 (step x1 (lad x1 n j) (n.testBit (254 - j))).z2 _ ∧ Of (step x1 (lad x1 n j) (n.testBit (254 - j))).x3 (step x1 (lad x1 n j) (n.testBit (254 - j))).z3 _
    have hd : smul (m + 1) Q = add (smul m Q) Q := rfl
    cases n.testBit (254 - j) with
    | false =>
      simp only [step, Bool.false_eq_true, if_false, Bool.toNat_false, Nat.add_zero]
      obtain ⟨r1, r2⟩ := Of.swap_core h2 h3 hd q1 q2 hx
      rw [← smul_add] at r1 r2
      have e1 : m + m = 2 * m := by omega
      have e2 : m + (m + 1) = 2 * m + 1 := by omega
      rw [e1] at r1; rw [e2] at r2
      exact ⟨r1, r2⟩
    | true =>
      simp only [step, if_true, Bool.toNat_true]
      have hd' : smul m Q = add (smul (m + 1) Q) (neg Q) := by rw [hd, add_neg_right]
      have h2' : Of ((lad x1 n j).flip).x2 ((lad x1 n j).flip).z2 (smul (m + 1) Q) := h3
      have h3' : Of ((lad x1 n j).flip).x3 ((lad x1 n j).flip).z3 (smul m Q) := h2
      obtain ⟨r1, r2⟩ := Of.swap_core (Q := neg Q) h2' h3' hd' q1 q2 hx
      rw [← smul_add] at r1 r2
      have e1 : (m + 1) + (m + 1) = 2 * m + 1 + 1 := by omega
      have e2 : (m + 1) + m = 2 * m + 1 := by omega
      rw [e1] at r1; rw [e2] at r2
      exact ⟨r2, r1⟩

theorem mulx_runs {Q : Pt nn} (q1 : 1 - Q.y ≠ 0) (q2 : 1 + Q.y ≠ 0) {n : Nat} (hn : n < 2 ^ 255) : mulx n (U Q) = U (smul n Q) := by
  have hx : U Q * (1 - Q.y) = 1 + Q.y := by
    have := EdF.mul_inv _ q1
    unfold U
    have e : (1 + Q.y) * inv (1 - Q.y) * (1 - Q.y) = (1 + Q.y) * ((1 - Q.y) * inv (1 - Q.y)) := by grind
    rw [e, this]; grind
  obtain ⟨h, _⟩ := lad_runs q1 q2 hx hn 255 (Nat.le_refl _)
  rw [Nat.sub_self, Nat.pow_zero, Nat.div_one] at h
  exact U_of h

/-- From 0 the ladder gives 0. -/
theorem lad_zero (n : Nat) : ∀ j, 1 ≤ j → (lad (0 : Fin nn) n j).z2 = 0 ∧ (lad (0 : Fin nn) n j).z3 = 0
  | 0, h => by omega
  | 1, _ => by
    show (step 0 (start 0) _).z2 = 0 ∧ (step 0 (start 0) _).z3 = 0
    cases n.testBit (254 - 0) <;> simp only [step, start, core, St.flip, if_true, Bool.false_eq_true, if_false] <;> constructor <;> grind
  | j + 2, _ => by
    obtain ⟨h2, h3⟩ := lad_zero n (j + 1) (by omega)
    show (step 0 (lad 0 n (j + 1)) _).z2 = 0 ∧ (step 0 (lad 0 n (j + 1)) _).z3 = 0
    generalize lad (0 : Fin nn) n (j + 1) = s at *
    cases n.testBit (254 - (j + 1)) <;> simp only [step, core, St.flip, if_true, Bool.false_eq_true, if_false, h2, h3] <;> constructor <;> grind

theorem mulx_zero (n : Nat) : mulx n (0 : Fin nn) = 0 := by
  unfold mulx
  rw [(lad_zero n 255 (by omega)).1, EdF.inv_zero]; grind

theorem U_low {Q : Pt nn} (h : 1 - Q.y = 0 ∨ 1 + Q.y = 0) : U Q = 0 := by
  unfold U
  rcases h with h | h
  · rw [h, EdF.inv_zero]; grind
  · rw [h]; grind

theorem low_dbl {Q : Pt nn} (h : 1 - Q.y = 0 ∨ 1 + Q.y = 0) : add Q Q = zero := by
  have on := Q.on
  have hy : Q.y^2 = 1 := by rcases h with h | h <;> grind
  have hx : Q.x = 0 := by
    have e : Q.x^2 * (1 + d) = 0 := by grind
    rcases zero_or e with h | h
    · exact sq_zero h
    · exfalso; apply EdF.nonsq (1 : Fin nn); grind
  apply Pt.ext'
  · apply cancel (den_p Q Q); rw [add_x]; rw [hx]; simp only [zero]; grind
  · apply cancel (den_m Q Q); rw [add_y]; rw [hx]; simp only [zero]; grind

theorem smul_zero (n : Nat) : smul n (zero : Pt nn) = zero := by
  induction n with
  | zero => rfl
  | succ n ih => simp only [smul]; rw [ih, add_zero]

theorem U_zero : U (zero : Pt nn) = 0 := by
  unfold U zero
  have : (1 : Fin nn) - 1 = 0 := by grind
  show (1 + 1) * inv (1 - 1 : Fin nn) = 0
  rw [this, EdF.inv_zero]; grind

/-- Two secrets agree: for even numbers below 2^255 and a point's coordinate. -/
theorem agree (B : Pt nn) (b1 : 1 - B.y ≠ 0) (b2 : 1 + B.y ≠ 0) {m n : Nat} (hm : 2 * m < 2 ^ 255) (hn : 2 * n < 2 ^ 255) :
    mulx (2 * m) (mulx (2 * n) (U B)) = mulx (2 * n) (mulx (2 * m) (U B)) := by
  rw [mulx_runs b1 b2 hn, mulx_runs b1 b2 hm]
  have gen : ∀ (k l : Nat), 2 * k < 2 ^ 255 → mulx (2 * k) (U (smul (2 * l) B)) = U (smul (2 * k * (2 * l)) B) := by
    intro k l hk
    by_cases h1 : 1 - (smul (2 * l) B).y = 0 ∨ 1 + (smul (2 * l) B).y = 0
    · rw [U_low h1, mulx_zero]
      have : smul (2 * k * (2 * l)) B = zero := by
        rw [← smul_mul, Nat.mul_comm 2 k, ← smul_mul]
        have e : smul 2 (smul (2 * l) B) = add (smul (2 * l) B) (smul (2 * l) B) := by
          show add (add zero _) _ = _
          rw [zero_add]
        rw [e, low_dbl h1, smul_zero]
      rw [this, U_zero]
    · have q1 : 1 - (smul (2 * l) B).y ≠ 0 := fun h => h1 (Or.inl h)
      have q2 : 1 + (smul (2 * l) B).y ≠ 0 := fun h => h1 (Or.inr h)
      rw [mulx_runs q1 q2 hk, smul_mul]
  rw [gen m n hm, gen n m hn, Nat.mul_comm]

end EdC
end

section
namespace Prim
theorem l1 : Prime 2551 := by_trial 1000 (by decide +kernel) (by decide)
theorem l2 : Prime 1224481 := by_trial 4000 (by decide +kernel) (by decide)
theorem l3 : Prime 531581 := by_trial 4000 (by decide +kernel) (by decide)
theorem l4 : Prime 1257559732178653 := of_two (q := 1224481) (s := 531581) (by decide) l2 (by decide) (by decide)
  (fun _ hr hd => pock' (h := 1027014492) (a := 2) (f := 256) l2 (by decide) (by decide) (by decide) (by decide +kernel) (by decide +kernel) hr hd)
  (fun _ hr hd => pock' (h := 2365697292) (a := 2) (f := 256) l3 (by decide) (by decide) (by decide) (by decide +kernel) (by decide +kernel) hr hd)
theorem l5 : Prime 4434155615661930479 := of_one (q := 1257559732178653) (by decide) (by decide) fun _ hr hd =>
  pock' (h := 3526) (a := 2) (f := 256) l4 (by decide) (by decide) (by decide) (by decide +kernel) (by decide +kernel) hr hd
theorem l6 : Prime 172054593956031949258510691 := of_one (q := 4434155615661930479) (by decide) (by decide) fun _ hr hd =>
  pock' (h := 38802110) (a := 2) (f := 256) l5 (by decide) (by decide) (by decide) (by decide +kernel) (by decide +kernel) hr hd
theorem l7 : Prime 19757330305831588566944191468367130476339 := of_one (q := 172054593956031949258510691) (by decide) (by decide) fun _ hr hd =>
  pock' (h := 114831751082918) (a := 2) (f := 256) l6 (by decide) (by decide) (by decide) (by decide +kernel) (by decide +kernel) hr hd
theorem l8 : Prime 276602624281642239937218680557139826668747 := of_one (q := 19757330305831588566944191468367130476339) (by decide) (by decide) fun _ hr hd =>
  pock' (h := 14) (a := 2) (f := 256) l7 (by decide) (by decide) (by decide) (by decide +kernel) (by decide +kernel) hr hd
theorem ell : Prime 7237005577332262213973186563042994240857116359379907606001950938285454250989 := of_one (q := 276602624281642239937218680557139826668747) (by decide) (by decide) fun _ hr hd =>
  pock' (h := 26163907866482859529727157400808004) (a := 2) (f := 256) l8 (by decide) (by decide) (by decide) (by decide +kernel) (by decide +kernel) hr hd
end Prim
namespace EdC
abbrev Ell : Nat := 7237005577332262213973186563042994240857116359379907606001950938285454250989
theorem U_base : U basePt = 9 := by decide +kernel
section
variable {nn : Nat} [NeZero nn] [EdF nn]
open EdF (inv d c)
theorem y_one {Q : Pt nn} (h : 1 - Q.y = 0) : Q = zero := by
  have on := Q.on
  have hy : Q.y = 1 := by grind
  have hx : Q.x = 0 := by
    have e : Q.x^2 * (1 + d) = 0 := by grind
    rcases zero_or e with h | h
    · exact sq_zero h
    · exfalso; apply EdF.nonsq (1 : Fin nn); grind
  exact Pt.ext' hx hy
/-- A point whose coordinate is nought is of order two. -/
theorem U_nought {Q : Pt nn} (h : U Q = 0) : add Q Q = zero := by
  apply low_dbl
  unfold U at h
  rcases zero_or h with h | h
  · exact Or.inr h
  · refine Or.inl ?_
    have := fun hn => EdF.mul_inv (1 - Q.y) hn
    by_cases h0 : 1 - Q.y = 0
    · exact h0
    · have := this h0
      rw [h] at this
      exfalso; apply EdF.one (nn := nn); grind
theorem smul_two (Q : Pt nn) : smul 2 Q = add Q Q := by
  show add (add zero Q) Q = _
  rw [zero_add]
end
theorem base_order : smul Ell basePt = zero := by
  obtain ⟨⟨l, hl, _, hz⟩, _⟩ := lad_runs (nn := P) (Q := basePt) (x1 := 9) (n := Ell) (by decide +kernel) (by decide +kernel) (by decide +kernel) (by decide) 255 (Nat.le_refl _)
  rw [Nat.sub_self, Nat.pow_zero, Nat.div_one] at hz
  have h0 : (lad (9 : Fp) Ell 255).z2 = 0 := by decide +kernel
  rw [h0] at hz
  rcases zero_or hz.symm with h | h
  · exact absurd h hl
  · exact y_one h
theorem base_ne : basePt ≠ zero := by
  intro h
  have := congrArg Pt.x h
  revert this
  decide +kernel
theorem dvd_of_zero {n : Nat} (h : smul n basePt = zero) : Ell ∣ n := by
  apply Decidable.byContradiction
  intro hn
  have hg : Nat.gcd Ell n = 1 := Prim.ell.cop hn
  apply base_ne
  -- the least multiple
  have key : ∀ a b : Nat, smul a basePt = zero → smul b basePt = zero → smul (Nat.gcd a b) basePt = zero := by
    intro a
    induction a using Nat.strongRecOn with
    | _ a ih =>
      intro b ha hb
      rcases Nat.eq_zero_or_pos a with h0 | h0
      · subst h0; rw [Nat.gcd_zero_left]; exact hb
      · rw [Nat.gcd_rec]
        refine ih (b % a) (Nat.mod_lt _ h0) a ?_ ha
        have e : b = b % a + a * (b / a) := (Nat.mod_add_div b a).symm
        rw [e, smul_add, Nat.mul_comm a, ← smul_mul, ha, smul_zero, add_zero] at hb
        exact hb
  have h1 := key Ell n base_order h
  rw [hg] at h1
  have : smul 1 basePt = basePt := by show add zero basePt = _; rw [zero_add]
  rw [← this]; exact h1
/-- Neither is a multiple of the order: the secret of the two is not nought. -/
theorem dh_ne {m n : Nat} (hm : 2 * m < 2 ^ 255) (hn : 2 * n < 2 ^ 255) (h1 : ¬ Ell ∣ 2 * m) (h2 : ¬ Ell ∣ 2 * n) : mulx (2 * m) (mulx (2 * n) (9 : Fp)) ≠ 0 := by
  rw [← U_base, mulx_runs (by decide +kernel) (by decide +kernel) hn]
  intro h
  have gen : ∀ k : Nat, smul k basePt = zero → Ell ∣ k := fun k => dvd_of_zero
  have hodd : ¬ Ell ∣ 2 := by decide
  by_cases hq : 1 - (smul (2 * n) basePt).y = 0 ∨ 1 + (smul (2 * n) basePt).y = 0
  · have := low_dbl hq
    rw [← smul_two, smul_mul] at this
    rcases Prim.ell.dvd_mul (gen _ this) with h | h
    · exact hodd h
    · exact h2 h
  · have q1 : 1 - (smul (2 * n) basePt).y ≠ 0 := fun h => hq (Or.inl h)
    have q2 : 1 + (smul (2 * n) basePt).y ≠ 0 := fun h => hq (Or.inr h)
    rw [mulx_runs q1 q2 hm, smul_mul] at h
    have := U_nought h
    rw [← smul_two, smul_mul] at this
    rcases Prim.ell.dvd_mul (gen _ this) with h | h
    · exact hodd h
    · rcases Prim.ell.dvd_mul h with h | h
      · exact h1 h
      · exact h2 h
/-- A clamped number is no multiple of the order. -/
theorem clamped {k : Nat} (h8 : 8 ∣ k) (h0 : 0 < k) (h : k < 2 ^ 255) : ¬ Ell ∣ k := by
  rintro ⟨c, rfl⟩
  have h8' : 8 ∣ c := by
    have : Nat.Coprime 8 Ell := by decide
    exact this.dvd_of_dvd_mul_left h8
  obtain ⟨d, rfl⟩ := h8'
  rcases Nat.eq_zero_or_pos d with h1 | h1
  · subst h1; simp at h0
  · have e1 : Ell * 8 ≤ Ell * (8 * d) := Nat.mul_le_mul_left _ (by omega)
    have e2 : 2 ^ 255 < Ell * 8 := by decide
    exact absurd h (Nat.not_lt.2 (Nat.le_trans (Nat.le_of_lt e2) e1))
end EdC
end

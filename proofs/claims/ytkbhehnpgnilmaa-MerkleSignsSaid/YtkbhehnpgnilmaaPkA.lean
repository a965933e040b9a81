/-
  The rounds of a block, many lanes at once, as operations on great numbers that Lean's kernel can reckon; each lane goes on as one block alone. Plain mathematics. Conditions: numbers below 2^32.
-/
import Derived.Test.YtkbhehnpgnilmaaShaM
namespace Go.Proofs.Ytkbhehnpgnilmaa
open Go Go.RowKit

/-- lanes of 64 bits: the i-th holds f i -/
def pkF : Nat → (Nat → Nat) → Nat
  | 0, _ => 0
  | n + 1, f => pkF n f + f n * 2 ^ (64 * n)

abbrev L32 (f : Nat → Nat) : Prop := ∀ i, f i < 4294967296
abbrev L64 (f : Nat → Nat) : Prop := ∀ i, f i < 2 ^ 64

theorem L32.l {f : Nat → Nat} (h : L32 f) : L64 f := fun i => Nat.lt_of_lt_of_le (h i) (by decide)

theorem pk_lt {f : Nat → Nat} (h : L64 f) : ∀ n, pkF n f < 2 ^ (64 * n)
  | 0 => by simp [pkF]
  | n + 1 => by
    have h1 := pk_lt h n
    have h2 := h n
    have e : 2 ^ (64 * (n + 1)) = 2 ^ 64 * 2 ^ (64 * n) := by rw [← Nat.pow_add]; congr 1; omega
    have h3 : (f n + 1) * 2 ^ (64 * n) ≤ 2 ^ 64 * 2 ^ (64 * n) := Nat.mul_le_mul_right _ h2
    rw [Nat.add_mul, Nat.one_mul] at h3
    show pkF n f + f n * 2 ^ (64 * n) < _
    rw [e]; omega

theorem pk_bit {f : Nat → Nat} (h : L64 f) : ∀ n j, (pkF n f).testBit j = (decide (j < 64 * n) && (f (j / 64)).testBit (j % 64))
  | 0, j => by simp [pkF]
  | n + 1, j => by
    show (pkF n f + f n * 2 ^ (64 * n)).testBit j = _
    rw [Nat.add_comm, Nat.mul_comm, Nat.testBit_two_pow_mul_add _ (pk_lt h n)]
    by_cases hj : j < 64 * n
    · have h2 : j < 64 * (n + 1) := by omega
      rw [if_pos hj, pk_bit h n j, decide_eq_true hj, decide_eq_true h2]
    · rw [if_neg hj]
      by_cases h2 : j < 64 * (n + 1)
      · have e1 : j / 64 = n := by omega
        have e2 : j - 64 * n = j % 64 := by omega
        rw [decide_eq_true h2, e1, e2, Bool.true_and]
      · rw [decide_eq_false h2, Bool.false_and]
        exact Nat.testBit_lt_two_pow (Nat.lt_of_lt_of_le (h n) (Nat.pow_le_pow_right (by omega) (by omega)))

theorem pk_congr {f g : Nat → Nat} (n : Nat) (h : ∀ i, i < n → f i = g i) : pkF n f = pkF n g := by
  induction n with
  | zero => rfl
  | succ n ih => show pkF n f + f n * _ = pkF n g + g n * _; rw [ih (fun i hi => h i (by omega)), h n (by omega)]

theorem pk_xor {f g : Nat → Nat} (n : Nat) (hf : L64 f) (hg : L64 g) : Nat.xor (pkF n f) (pkF n g) = pkF n (fun i => f i ^^^ g i) := by
  apply Nat.eq_of_testBit_eq
  intro j
  show (pkF n f ^^^ pkF n g).testBit j = _
  rw [Nat.testBit_xor, pk_bit hf, pk_bit hg, pk_bit (fun i => Nat.xor_lt_two_pow (hf i) (hg i)), Nat.testBit_xor]
  cases decide (j < 64 * n) <;> simp
theorem pk_and {f g : Nat → Nat} (n : Nat) (hf : L64 f) (hg : L64 g) : Nat.land (pkF n f) (pkF n g) = pkF n (fun i => f i &&& g i) := by
  apply Nat.eq_of_testBit_eq
  intro j
  show (pkF n f &&& pkF n g).testBit j = _
  rw [Nat.testBit_and, pk_bit hf, pk_bit hg, pk_bit (fun i => Nat.and_lt_two_pow _ (hg i)), Nat.testBit_and]
  cases decide (j < 64 * n) <;> simp
theorem pk_or {f g : Nat → Nat} (n : Nat) (hf : L64 f) (hg : L64 g) : Nat.lor (pkF n f) (pkF n g) = pkF n (fun i => f i ||| g i) := by
  apply Nat.eq_of_testBit_eq
  intro j
  show (pkF n f ||| pkF n g).testBit j = _
  rw [Nat.testBit_or, pk_bit hf, pk_bit hg, pk_bit (fun i => Nat.or_lt_two_pow (hf i) (hg i)), Nat.testBit_or]
  cases decide (j < 64 * n) <;> simp
theorem pk_add (f g : Nat → Nat) (n : Nat) : Nat.add (pkF n f) (pkF n g) = pkF n (fun i => f i + g i) := by
  induction n with
  | zero => rfl
  | succ n ih =>
    show (pkF n f + f n * 2 ^ (64 * n)) + (pkF n g + g n * 2 ^ (64 * n)) = pkF n _ + (f n + g n) * 2 ^ (64 * n)
    rw [← ih, Nat.add_mul]
    show _ = (pkF n f + pkF n g) + _
    omega
theorem pk_mul (f : Nat → Nat) (c n : Nat) : Nat.mul (pkF n f) c = pkF n (fun i => f i * c) := by
  induction n with
  | zero => exact Nat.zero_mul c
  | succ n ih =>
    show (pkF n f + f n * 2 ^ (64 * n)) * c = pkF n _ + (f n * c) * 2 ^ (64 * n)
    rw [← ih]
    show _ = pkF n f * c + _
    rw [Nat.add_mul, Nat.mul_right_comm]
theorem pk_con (c n : Nat) : Nat.mul c (pkF n (fun _ => 1)) = pkF n (fun _ => c) := by
  show c * pkF n (fun _ => 1) = _
  rw [Nat.mul_comm]
  have := pk_mul (fun _ => 1) c n
  rw [show pkF n (fun _ => 1) * c = Nat.mul (pkF n (fun _ => 1)) c from rfl, this]
  exact pk_congr n (fun i _ => Nat.one_mul c)

/-- the low halves, turned by k -/
theorem pk_shr {f : Nat → Nat} (n k : Nat) (hf : L64 f) (hk : k ≤ 32) : Nat.land (Nat.shiftRight (pkF n f) k) (pkF n (fun _ => 4294967295)) = pkF n (fun i => (f i / 2 ^ k) % 4294967296) := by
  apply Nat.eq_of_testBit_eq
  intro j
  show ((pkF n f >>> k) &&& pkF n _).testBit j = _
  have hm : L64 (fun _ => 4294967295) := fun _ => by show 4294967295 < 2 ^ 64; decide
  have hr : L64 (fun i => (f i / 2 ^ k) % 4294967296) := fun i => Nat.lt_of_lt_of_le (Nat.mod_lt _ (by decide)) (by decide)
  rw [Nat.testBit_and, Nat.testBit_shiftRight, pk_bit hf, pk_bit hm, pk_bit hr]
  have e32 : (4294967296 : Nat) = 2 ^ 32 := rfl
  have e1 : (4294967295 : Nat) = 2 ^ 32 - 1 := rfl
  rw [e32, e1, Nat.testBit_mod_two_pow, Nat.testBit_two_pow_sub_one, ← Nat.shiftRight_eq_div_pow, Nat.testBit_shiftRight]
  by_cases h : j % 64 < 32
  · rw [decide_eq_true h]
    by_cases hj : j < 64 * n
    · have a1 : k + j < 64 * n := by omega
      have a2 : (k + j) / 64 = j / 64 := by omega
      have a3 : (k + j) % 64 = k + j % 64 := by omega
      rw [decide_eq_true hj, decide_eq_true a1, a2, a3]; simp
    · rw [decide_eq_false hj]; simp
  · rw [decide_eq_false h]; simp

theorem pk_mask {f : Nat → Nat} (n : Nat) (hf : L64 f) : Nat.land (pkF n f) (pkF n (fun _ => 4294967295)) = pkF n (fun i => f i % 4294967296) := by
  have := pk_shr n 0 hf (by omega)
  rw [show Nat.shiftRight (pkF n f) 0 = pkF n f from rfl] at this
  rw [this]
  exact pk_congr n (fun i _ => by rw [Nat.pow_zero, Nat.div_one])

theorem pk_get {f : Nat → Nat} (hf : L64 f) (n i : Nat) (hi : i < n) : pkF n f / 2 ^ (64 * i) % 2 ^ 64 = f i := by
  apply Nat.eq_of_testBit_eq
  intro j
  rw [Nat.testBit_mod_two_pow, ← Nat.shiftRight_eq_div_pow, Nat.testBit_shiftRight, pk_bit hf]
  by_cases hj : j < 64
  · have a1 : 64 * i + j < 64 * n := by omega
    have a2 : (64 * i + j) / 64 = i := by omega
    have a3 : (64 * i + j) % 64 = j := by omega
    rw [decide_eq_true hj, decide_eq_true a1, a2, a3]; simp
  · rw [decide_eq_false hj, Bool.false_and]
    exact (Nat.testBit_lt_two_pow (Nat.lt_of_lt_of_le (hf i) (Nat.pow_le_pow_right (by omega) (by omega)))).symm

/-- a turn, by a number laid twice -/
theorem rot_dbl (x k : Nat) (h : x < 4294967296) (h1 : k ≤ 32) : (x * 4294967297 / 2 ^ k) % 4294967296 = rotN x k := by
  apply Nat.eq_of_testBit_eq
  intro j
  unfold rotN
  have e32 : (4294967296 : Nat) = 2 ^ 32 := rfl
  have e33 : x * 4294967297 = 2 ^ 32 * x + x := by omega
  have h' : x < 2 ^ 32 := h
  rw [e33, e32, Nat.testBit_mod_two_pow, Nat.testBit_or, ← Nat.shiftRight_eq_div_pow, Nat.testBit_shiftRight, Nat.testBit_two_pow_mul_add _ h', Nat.testBit_mod_two_pow, ← Nat.shiftRight_eq_div_pow, Nat.testBit_shiftRight, Nat.mul_comm x, Nat.testBit_two_pow_mul]
  by_cases hj : j < 32
  · rw [decide_eq_true hj]
    by_cases hk : k + j < 32
    · have h2 : ¬ (32 - k ≤ j) := by omega
      rw [if_pos hk]; simp [h2]
    · have h2 : 32 - k ≤ j := by omega
      have e : j - (32 - k) = k + j - 32 := by omega
      rw [if_neg hk, e]
      have hz : x.testBit (k + j) = false := Nat.testBit_lt_two_pow (Nat.lt_of_lt_of_le h' (Nat.pow_le_pow_right (by omega) (by omega)))
      rw [hz]; simp [h2]
  · have hz : x.testBit (k + j) = false := Nat.testBit_lt_two_pow (Nat.lt_of_lt_of_le h' (Nat.pow_le_pow_right (by omega) (by omega)))
    rw [decide_eq_false hj, hz]; simp

/-- a number on, as soon as it is reckoned -/
@[reducible] def onF {α : Type} (n : Nat) (k : Nat → α) : α := Nat.rec (k 0) (fun m _ => k (Nat.succ m)) n
theorem onF_eq {α : Type} (n : Nat) (k : Nat → α) : onF n k = k n := by cases n <;> rfl

def dbl (x : Nat) : Nat := Nat.mul x 4294967297
def mixP (M X one two three : Nat) : Nat := Nat.xor (Nat.xor (Nat.land (Nat.shiftRight X one) M) (Nat.land (Nat.shiftRight X two) M)) (Nat.land (Nat.shiftRight X three) M)
def mixQ (M X x one two three : Nat) : Nat := Nat.xor (Nat.xor (Nat.land (Nat.shiftRight X one) M) (Nat.land (Nat.shiftRight X two) M)) (Nat.land (Nat.shiftRight x three) M)

abbrev MK (n : Nat) : Nat := pkF n (fun _ => 4294967295)
abbrev ON (n : Nat) : Nat := pkF n (fun _ => 1)

theorem dbl_pk {f : Nat → Nat} (n : Nat) : dbl (pkF n f) = pkF n (fun i => f i * 4294967297) := pk_mul f 4294967297 n
theorem dbl_l {f : Nat → Nat} (h : L32 f) : L64 (fun i => f i * 4294967297) := fun i => by have := h i; show f i * 4294967297 < 2 ^ 64; omega
theorem rot_pk {f : Nat → Nat} (n k : Nat) (h : L32 f) (hk : k ≤ 32) : Nat.land (Nat.shiftRight (dbl (pkF n f)) k) (MK n) = pkF n (fun i => rotN (f i) k) := by
  rw [dbl_pk, pk_shr n k (dbl_l h) hk]
  exact pk_congr n (fun i _ => rot_dbl (f i) k (h i) hk)
theorem shr_pk {f : Nat → Nat} (n k : Nat) (h : L32 f) (hk : k ≤ 32) : Nat.land (Nat.shiftRight (pkF n f) k) (MK n) = pkF n (fun i => shrN (f i) k) := by
  rw [pk_shr n k h.l hk]
  exact pk_congr n (fun i _ => Nat.mod_eq_of_lt (Nat.lt_of_le_of_lt (Nat.div_le_self _ _) (h i)))
theorem rotL {f : Nat → Nat} (k : Nat) (h : L32 f) : L32 (fun i => rotN (f i) k) := fun i => rotN_lt k (h i)
theorem mixP_pk {f : Nat → Nat} (n p q r : Nat) (h : L32 f) (hp : p ≤ 32) (hq : q ≤ 32) (hr : r ≤ 32) : mixP (MK n) (dbl (pkF n f)) p q r = pkF n (fun i => mixN p q r false (f i)) := by
  unfold mixP
  rw [rot_pk n p h hp, rot_pk n q h hq, rot_pk n r h hr, pk_xor n (rotL p h).l (rotL q h).l, pk_xor n (fun i => Nat.xor_lt_two_pow ((rotL p h).l i) ((rotL q h).l i)) (rotL r h).l]
  exact pk_congr n (fun i _ => by simp [mixN])
theorem mixQ_pk {f : Nat → Nat} (n p q r : Nat) (h : L32 f) (hp : p ≤ 32) (hq : q ≤ 32) (hr : r ≤ 32) : mixQ (MK n) (dbl (pkF n f)) (pkF n f) p q r = pkF n (fun i => mixN p q r true (f i)) := by
  unfold mixQ
  rw [rot_pk n p h hp, rot_pk n q h hq, shr_pk n r h hr, pk_xor n (rotL p h).l (rotL q h).l, pk_xor n (fun i => Nat.xor_lt_two_pow ((rotL p h).l i) ((rotL q h).l i)) (L32.l (fun i => shrN_lt r (h i)))]
  exact pk_congr n (fun i _ => by simp [mixN])

/-- a block's rounds, one lane -/
def goS : List Nat → Nat → Nat → Nat → Nat → Nat → Nat → Nat → Nat → Nat → Nat → Nat → Nat → Nat → Nat → Nat → Nat → Nat → Nat → Nat → Nat → Nat → Nat → Nat → Nat → List Nat
  | [], a, b, c, d, e, f, g, h, _, _, _, _, _, _, _, _, _, _, _, _, _, _, _, _ => [a, b, c, d, e, f, g, h]
  | k :: ks, a, b, c, d, e, f, g, h, w0, w1, w2, w3, w4, w5, w6, w7, w8, w9, w10, w11, w12, w13, w14, w15 =>
    goS ks (add32 (add32 (add32 (add32 (add32 (add32 h (mixN 6 11 25 false e)) (g ^^^ (e &&& (f ^^^ g)))) k) w0) (mixN 2 13 22 false a)) ((a &&& c) ||| (b &&& (a ||| c)))) a b c
      (add32 d (add32 (add32 (add32 (add32 h (mixN 6 11 25 false e)) (g ^^^ (e &&& (f ^^^ g)))) k) w0)) e f g w1 w2 w3 w4 w5 w6 w7 w8 w9 w10 w11 w12 w13 w14 w15 (add32 w0 (add32 (add32 (mixN 17 19 10 true w14) w9) (mixN 7 18 3 true w1)))

/-- the rounds, all lanes -/
noncomputable def goP (M O : Nat) (ks : List Nat) : Nat → Nat → Nat → Nat → Nat → Nat → Nat → Nat → Nat → Nat → Nat → Nat → Nat → Nat → Nat → Nat → Nat → Nat → Nat → Nat → Nat → Nat → Nat → Nat → List Nat :=
  @List.rec Nat (fun _ => Nat → Nat → Nat → Nat → Nat → Nat → Nat → Nat → Nat → Nat → Nat → Nat → Nat → Nat → Nat → Nat → Nat → Nat → Nat → Nat → Nat → Nat → Nat → Nat → List Nat) (fun a b c d e f g h _ _ _ _ _ _ _ _ _ _ _ _ _ _ _ _ => [a, b, c, d, e, f, g, h])
    (fun kt _ ih a b c d e f g h w0 w1 w2 w3 w4 w5 w6 w7 w8 w9 w10 w11 w12 w13 w14 w15 =>
      onF (dbl e) fun E => onF (dbl a) fun A => onF (dbl w14) fun P => onF (dbl w1) fun Q =>
      onF (Nat.add (Nat.add (Nat.add (Nat.add h (mixP M E 6 11 25)) (Nat.xor g (Nat.land e (Nat.xor f g)))) (Nat.mul kt O)) w0) fun s =>
      onF (Nat.land (Nat.add (Nat.add s (mixP M A 2 13 22)) (Nat.lor (Nat.land a c) (Nat.land b (Nat.lor a c)))) M) fun top =>
      onF (Nat.land (Nat.add d s) M) fun mid =>
      onF (Nat.land (Nat.add (Nat.add (Nat.add (mixQ M P w14 17 19 10) w9) (mixQ M Q w1 7 18 3)) w0) M) fun nw =>
      ih top a b c mid e f g w1 w2 w3 w4 w5 w6 w7 w8 w9 w10 w11 w12 w13 w14 w15 nw) ks

theorem goP_cons (M O kt : Nat) (ks : List Nat) (a b c d e f g h w0 w1 w2 w3 w4 w5 w6 w7 w8 w9 w10 w11 w12 w13 w14 w15 : Nat) : goP M O (kt :: ks) a b c d e f g h w0 w1 w2 w3 w4 w5 w6 w7 w8 w9 w10 w11 w12 w13 w14 w15 =
      onF (dbl e) fun E => onF (dbl a) fun A => onF (dbl w14) fun P => onF (dbl w1) fun Q =>
      onF (Nat.add (Nat.add (Nat.add (Nat.add h (mixP M E 6 11 25)) (Nat.xor g (Nat.land e (Nat.xor f g)))) (Nat.mul kt O)) w0) fun s =>
      onF (Nat.land (Nat.add (Nat.add s (mixP M A 2 13 22)) (Nat.lor (Nat.land a c) (Nat.land b (Nat.lor a c)))) M) fun top =>
      onF (Nat.land (Nat.add d s) M) fun mid =>
      onF (Nat.land (Nat.add (Nat.add (Nat.add (mixQ M P w14 17 19 10) w9) (mixQ M Q w1 7 18 3)) w0) M) fun nw =>
      goP M O ks top a b c mid e f g w1 w2 w3 w4 w5 w6 w7 w8 w9 w10 w11 w12 w13 w14 w15 nw := rfl

section
variable {n : Nat} {a b c d e f g h w0 w1 w2 w3 w4 w5 w6 w7 w8 w9 w10 w11 w12 w13 w14 w15 : Nat → Nat}
theorem ch_pk (he : L32 e) (hf : L32 f) (hg : L32 g) : Nat.xor (pkF n g) (Nat.land (pkF n e) (Nat.xor (pkF n f) (pkF n g))) = pkF n (fun i => g i ^^^ (e i &&& (f i ^^^ g i))) := by
  rw [pk_xor n hf.l hg.l, pk_and n he.l (fun i => Nat.xor_lt_two_pow (hf.l i) (hg.l i)), pk_xor n hg.l (fun i => Nat.and_lt_two_pow _ (Nat.xor_lt_two_pow (hf.l i) (hg.l i)))]
theorem maj_pk (ha : L32 a) (hb : L32 b) (hc : L32 c) : Nat.lor (Nat.land (pkF n a) (pkF n c)) (Nat.land (pkF n b) (Nat.lor (pkF n a) (pkF n c))) = pkF n (fun i => (a i &&& c i) ||| (b i &&& (a i ||| c i))) := by
  rw [pk_and n ha.l hc.l, pk_or n ha.l hc.l, pk_and n hb.l (fun i => Nat.or_lt_two_pow (ha.l i) (hc.l i)), pk_or n (fun i => Nat.and_lt_two_pow _ (hc.l i)) (fun i => Nat.and_lt_two_pow _ (Nat.or_lt_two_pow (ha.l i) (hc.l i)))]
theorem chL (he : L32 e) (hg : L32 g) : L32 (fun i => g i ^^^ (e i &&& (f i ^^^ g i))) := fun i => xor_lt32 (hg i) (and_lt32 (he i))
theorem majL (ha : L32 a) (hb : L32 b) : L32 (fun i => (a i &&& c i) ||| (b i &&& (a i ||| c i))) := fun i => or_lt32 (and_lt32 (ha i)) (and_lt32 (hb i))
theorem mixL (p q r : Nat) (s : Bool) (he : L32 e) : L32 (fun i => mixN p q r s (e i)) := fun i => mixN_lt p q r s (he i)

theorem s_pk (k : Nat) (he : L32 e) (hf : L32 f) (hg : L32 g) : Nat.add (Nat.add (Nat.add (Nat.add (pkF n h) (mixP (MK n) (dbl (pkF n e)) 6 11 25)) (Nat.xor (pkF n g) (Nat.land (pkF n e) (Nat.xor (pkF n f) (pkF n g))))) (Nat.mul k (ON n))) (pkF n w0) =
    pkF n (fun i => h i + mixN 6 11 25 false (e i) + (g i ^^^ (e i &&& (f i ^^^ g i))) + k + w0 i) := by
  rw [mixP_pk n 6 11 25 he (by omega) (by omega) (by omega), ch_pk he hf hg, pk_con, pk_add, pk_add, pk_add, pk_add]
theorem top_pk (k : Nat) (hk : k < 4294967296) (ha : L32 a) (hb : L32 b) (hc : L32 c) (he : L32 e) (hg : L32 g) (hh : L32 h) (h0 : L32 w0) :
    Nat.land (Nat.add (Nat.add (pkF n (fun i => h i + mixN 6 11 25 false (e i) + (g i ^^^ (e i &&& (f i ^^^ g i))) + k + w0 i)) (mixP (MK n) (dbl (pkF n a)) 2 13 22)) (Nat.lor (Nat.land (pkF n a) (pkF n c)) (Nat.land (pkF n b) (Nat.lor (pkF n a) (pkF n c))))) (MK n) =
    pkF n (fun i => add32 (add32 (add32 (add32 (add32 (add32 (h i) (mixN 6 11 25 false (e i))) (g i ^^^ (e i &&& (f i ^^^ g i)))) k) (w0 i)) (mixN 2 13 22 false (a i))) ((a i &&& c i) ||| (b i &&& (a i ||| c i)))) := by
  rw [mixP_pk n 2 13 22 ha (by omega) (by omega) (by omega), maj_pk ha hb hc, pk_add, pk_add, pk_mask]
  · refine pk_congr n (fun i _ => ?_)
    simp only [add32]
    generalize mixN 6 11 25 false (e i) = x1
    generalize g i ^^^ (e i &&& (f i ^^^ g i)) = x2
    generalize mixN 2 13 22 false (a i) = x3
    generalize (a i &&& c i) ||| (b i &&& (a i ||| c i)) = x4
    omega
  · intro i
    have h1 := mixL 6 11 25 false he i
    have h2 := chL (f := f) he hg i
    have h3 := mixL 2 13 22 false ha i
    have h4 := majL (c := c) ha hb i
    have h5 := hh i
    have h6 := h0 i
    show (_ : Nat) < 18446744073709551616
    dsimp only at *
    omega
theorem mid_pk (k : Nat) (hk : k < 4294967296) (hd : L32 d) (he : L32 e) (hg : L32 g) (hh : L32 h) (h0 : L32 w0) :
    Nat.land (Nat.add (pkF n d) (pkF n (fun i => h i + mixN 6 11 25 false (e i) + (g i ^^^ (e i &&& (f i ^^^ g i))) + k + w0 i))) (MK n) =
    pkF n (fun i => add32 (d i) (add32 (add32 (add32 (add32 (h i) (mixN 6 11 25 false (e i))) (g i ^^^ (e i &&& (f i ^^^ g i)))) k) (w0 i))) := by
  rw [pk_add, pk_mask]
  · refine pk_congr n (fun i _ => ?_)
    simp only [add32]
    generalize mixN 6 11 25 false (e i) = x1
    generalize g i ^^^ (e i &&& (f i ^^^ g i)) = x2
    omega
  · intro i
    have h1 := mixL 6 11 25 false he i
    have h2 := chL (f := f) he hg i
    have h4 := hd i
    have h5 := hh i
    have h6 := h0 i
    show (_ : Nat) < 18446744073709551616
    dsimp only at *
    omega
theorem nw_pk (h0 : L32 w0) (h1 : L32 w1) (h9 : L32 w9) (h14 : L32 w14) :
    Nat.land (Nat.add (Nat.add (Nat.add (mixQ (MK n) (dbl (pkF n w14)) (pkF n w14) 17 19 10) (pkF n w9)) (mixQ (MK n) (dbl (pkF n w1)) (pkF n w1) 7 18 3)) (pkF n w0)) (MK n) =
    pkF n (fun i => add32 (w0 i) (add32 (add32 (mixN 17 19 10 true (w14 i)) (w9 i)) (mixN 7 18 3 true (w1 i)))) := by
  rw [mixQ_pk n 17 19 10 h14 (by omega) (by omega) (by omega), mixQ_pk n 7 18 3 h1 (by omega) (by omega) (by omega), pk_add, pk_add, pk_add, pk_mask]
  · refine pk_congr n (fun i _ => ?_)
    simp only [add32]
    generalize mixN 17 19 10 true (w14 i) = x1
    generalize mixN 7 18 3 true (w1 i) = x2
    omega
  · intro i
    have a1 := mixL 17 19 10 true h14 i
    have a2 := mixL 7 18 3 true h1 i
    have a3 := h9 i
    have a4 := h0 i
    show (_ : Nat) < 18446744073709551616
    dsimp only at *
    omega
end

theorem addL (f g : Nat → Nat) : L32 (fun i => add32 (f i) (g i)) := fun _ => add32_lt _ _

theorem goP_eq (n : Nat) : ∀ (ks : List Nat) (_ : ∀ k ∈ ks, k < 4294967296) (a b c d e f g h w0 w1 w2 w3 w4 w5 w6 w7 w8 w9 w10 w11 w12 w13 w14 w15 : Nat → Nat), L32 a → L32 b → L32 c → L32 d → L32 e → L32 f → L32 g → L32 h → L32 w0 → L32 w1 → L32 w2 → L32 w3 → L32 w4 → L32 w5 → L32 w6 → L32 w7 → L32 w8 → L32 w9 → L32 w10 → L32 w11 → L32 w12 → L32 w13 → L32 w14 → L32 w15 →
    goP (MK n) (ON n) ks (pkF n a) (pkF n b) (pkF n c) (pkF n d) (pkF n e) (pkF n f) (pkF n g) (pkF n h) (pkF n w0) (pkF n w1) (pkF n w2) (pkF n w3) (pkF n w4) (pkF n w5) (pkF n w6) (pkF n w7) (pkF n w8) (pkF n w9) (pkF n w10) (pkF n w11) (pkF n w12) (pkF n w13) (pkF n w14) (pkF n w15) = (List.range 8).map (fun q => pkF n (fun i => (goS ks (a i) (b i) (c i) (d i) (e i) (f i) (g i) (h i) (w0 i) (w1 i) (w2 i) (w3 i) (w4 i) (w5 i) (w6 i) (w7 i) (w8 i) (w9 i) (w10 i) (w11 i) (w12 i) (w13 i) (w14 i) (w15 i)).getD q 0))
  | [], _, a, b, c, d, e, f, g, h, w0, w1, w2, w3, w4, w5, w6, w7, w8, w9, w10, w11, w12, w13, w14, w15, _, _, _, _, _, _, _, _, _, _, _, _, _, _, _, _, _, _, _, _, _, _, _, _ => rfl
  | k :: ks, hk, a, b, c, d, e, f, g, h, w0, w1, w2, w3, w4, w5, w6, w7, w8, w9, w10, w11, w12, w13, w14, w15, ha, hb, hc, hd, he, hf, hg, hh, hw0, hw1, hw2, hw3, hw4, hw5, hw6, hw7, hw8, hw9, hw10, hw11, hw12, hw13, hw14, hw15 => by
    have hk0 : k < 4294967296 := hk k (by simp)
    have ih := goP_eq n ks (fun k' h => hk k' (by simp [h]))
    rw [goP_cons, onF_eq, onF_eq, onF_eq, onF_eq, onF_eq, s_pk k he hf hg, onF_eq, top_pk k hk0 ha hb hc he hg hh hw0, onF_eq, mid_pk k hk0 hd he hg hh hw0, onF_eq, nw_pk hw0 hw1 hw9 hw14]
    exact ih _ _ _ _ _ _ _ _ _ _ _ _ _ _ _ _ _ _ _ _ _ _ _ _ (addL _ _) ha hb hc (addL _ _) he hf hg hw1 hw2 hw3 hw4 hw5 hw6 hw7 hw8 hw9 hw10 hw11 hw12 hw13 hw14 hw15 (addL _ _)

end Go.Proofs.Ytkbhehnpgnilmaa

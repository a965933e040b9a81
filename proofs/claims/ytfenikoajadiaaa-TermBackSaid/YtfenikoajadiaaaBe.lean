/-
  What was laid is taken off again: a Reader's numbers in front of a rest. Conditions: the numbers fit their width.
-/
import Derived.Test.YtfenikoajadiaaaCmp
namespace Go.Proofs.Ytfenikoajadiaaa
open Go Go.RowKit

theorem foldl_numStep (bs : List Int) (a : Int) (ha : 0 ≤ a ∧ a < 18446744073709551616) (hb : AllB bs) : bs.foldl numStep a = (a * 256 ^ bs.length + valL bs) % 18446744073709551616 := by
  induction bs generalizing a with
  | nil => simp [valL]; omega
  | cons x xs ih =>
    have hx := hb x (by simp)
    rw [List.foldl_cons]
    have e : numStep a x = (256 * a + x) % 18446744073709551616 := by
      unfold numStep; rw [IntKind.wrap_u64, IntKind.wrap_u64]; omega
    rw [e, ih _ (by omega) (fun c hc => hb c (by simp [hc]))]
    simp only [valL, List.length_cons, Int.pow_succ]
    rw [Int.add_emod, Int.mul_emod, Int.emod_emod_of_dvd _ (Int.dvd_refl _), ← Int.mul_emod, ← Int.add_emod]
    congr 1
    generalize (256 : Int) ^ xs.length = P
    rw [Int.add_mul, ← Int.add_assoc]
    congr 2
    rw [Int.mul_comm 256 a, Int.mul_assoc, Int.mul_comm 256 P]
theorem numF_val (bs : List Int) (hb : AllB bs) : numF bs = valL bs % 18446744073709551616 := by
  unfold numF
  rw [foldl_numStep bs 0 (by omega) hb]
  simp

theorem takeF_app (xs ys : List Int) (n : Nat) (h : xs.length = n) : takeF (xs ++ ys) 0 (n : Int) = (ys, 0, xs) := by
  subst h
  rw [takeF_ok (by simp)]
  simp

theorem u16_be (b r : Nat) (y : Int) (rest : List Int) (w : World) (hr : Rd w b r (beF y 2 ++ rest) 0) (hrl : r < w.heap.size) (hb : AllB rest) (hy : 0 ≤ y ∧ y ≤ 65535) :
    Calls Try.prog 62 #[.pointer (some ⟨b, 0, none⟩)] w (fun e w' => e = .returned (.int .u16 y) ∧ Rd w' b r rest 0 ∧ Ch (· = b) w w') := by
  have ht := takeF_app (beF y 2) rest 2 (beF_length _ _)
  have hn : numF (beF y 2) = y := by rw [numF_val _ (beF_allB _ _), beF_2 y hy]; omega
  refine u16_of b r (beF y 2 ++ rest) 0 w y rest 0 hr hrl (fun c hc => ?_) ?_ ?_ ?_
  · rcases List.mem_append.1 hc with h | h
    · exact beF_allB _ _ c h
    · exact hb c h
  · have : (takeF (beF y 2 ++ rest) 0 2).2.2 = beF y 2 := by exact congrArg (fun t => t.2.2) ht
    rw [this, hn]; simp [IntKind.wrap, IntKind.bits, IntKind.signed]; omega
  · exact congrArg (fun t => t.1) ht
  · exact congrArg (fun t => t.2.1) ht

theorem left_of (b r : Nat) (bs : List Int) (why : Int) (w : World) (n : Nat) (hr : Rd w b r bs why) (hn : n = bs.length) : Calls Try.prog 44 #[.pointer (some ⟨b, 0, none⟩)] w (fun e w' => e = .returned (.int .i64 n) ∧ w = w') := by
  subst hn; exact left_any b r bs why w hr

theorem raw_of (b r : Nat) (bs : List Int) (why n : Int) (w : World) (bs' : List Int) (why' : Int) (out : List Int) (m : Nat) (hr : Rd w b r bs why) (hrl : r < w.heap.size) (hl : bs.length ≤ 140737488351232) (ht : takeF bs why n = (bs', why', out)) (hm : m = out.length) :
    Calls Try.prog 60 #[.pointer (some ⟨b, 0, none⟩), .int .i64 n] w (fun e w' => ∃ ao c, e = .returned (.slice ao m c) ∧ w'.ownsRow w.heap.size 5 1 (.slice ao m c) m (ofK .u8 out) ∧ Rd w' b r bs' why' ∧ Ch (· = b) w w') := by
  subst hm
  refine (raw_any b r bs why n w hr hrl hl).mono ?_
  rintro e w' ⟨v, he, hown, hrd, hch⟩
  rw [ht] at hown hrd
  obtain ⟨ao, c, rfl⟩ := own_shape hown
  exact ⟨ao, c, he, hown, hrd, hch⟩

end Go.Proofs.Ytfenikoajadiaaa

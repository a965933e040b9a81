/-
  What was laid is taken off again: a Reader's numbers in front of a rest. Conditions: the numbers fit their width.
-/
import Derived.Test.YtkbhehnpgnilmaaCmp
namespace Go.Proofs.Ytkbhehnpgnilmaa
open Go Go.RowKit

theorem foldl_numStep (bs : List Int) (a : Int) (ha : 0 ≤ a ∧ a < 18446744073709551616) (hb : AllB bs) : bs.foldl numStep a = (a * 256 ^ bs.length + valL bs) % 18446744073709551616 := by
  induction bs generalizing a with
  | nil => simp [valL]; omega
  | cons x xs ih =>
    have hx := hb x (by simp)
    rw [List.foldl_cons]
    have e : numStep a x = (256 * a + x) % 18446744073709551616 := by
      unfold numStep; rw [IntKind.wrap_u64, IntKind.wrap_u64]; omega
    rw [e, ih _ (by omega) (fun c hc => hb c (by simp [hc]))]
    simp only [valL, List.length_cons, Int.pow_succ]
    rw [Int.add_emod, Int.mul_emod, Int.emod_emod_of_dvd _ (Int.dvd_refl _), ← Int.mul_emod, ← Int.add_emod]
    congr 1
    generalize (256 : Int) ^ xs.length = P
    rw [Int.add_mul, ← Int.add_assoc]
    congr 2
    rw [Int.mul_comm 256 a, Int.mul_assoc, Int.mul_comm 256 P]
theorem numF_val (bs : List Int) (hb : AllB bs) : numF bs = valL bs % 18446744073709551616 := by
  unfold numF
  rw [foldl_numStep bs 0 (by omega) hb]
  simp

theorem takeF_app (xs ys : List Int) (n : Nat) (h : xs.length = n) : takeF (xs ++ ys) 0 (n : Int) = (ys, 0, xs) := by
  subst h
  rw [takeF_ok (by simp)]
  simp

theorem u32_be (b r : Nat) (y : Int) (rest : List Int) (w : World) (hr : Rd w b r (beF y 4 ++ rest) 0) (hrl : r < w.heap.size) (hb : AllB rest) (hy : 0 ≤ y ∧ y ≤ 4294967295) :
    Calls Try.prog 96 #[.pointer (some ⟨b, 0, none⟩)] w (fun e w' => e = .returned (.int .u32 y) ∧ Rd w' b r rest 0 ∧ Ch (· = b) w w') := by
  have ht := takeF_app (beF y 4) rest 4 (beF_length _ _)
  have hn : numF (beF y 4) = y := by rw [numF_val _ (beF_allB _ _), beF_4 y hy]; omega
  refine u32_of b r (beF y 4 ++ rest) 0 w y rest 0 hr hrl (fun c hc => ?_) ?_ ?_ ?_
  · rcases List.mem_append.1 hc with h | h
    · exact beF_allB _ _ c h
    · exact hb c h
  · have : (takeF (beF y 4 ++ rest) 0 4).2.2 = beF y 4 := by exact congrArg (fun t => t.2.2) ht
    rw [this, hn]; simp [IntKind.wrap, IntKind.bits, IntKind.signed]; omega
  · exact congrArg (fun t => t.1) ht
  · exact congrArg (fun t => t.2.1) ht

theorem bytesEqual_of (v1 v2 : Value) (xs ys : List Int) (w : World) (x : Bool) (h1 : Sl w v1 (ofK .u8 xs)) (h2 : Sl w v2 (ofK .u8 ys)) (a1 : AllB xs) (a2 : AllB ys) (hx : decide (xs = ys) = x) :
    Calls Try.prog 35 #[v1, v2] w (fun e w' => e = .returned (.bool x) ∧ w = w') := by
  have r1 := run_convert_sl (P := Try.prog) w 33 9 5 Try.underlying33 Try.underlying5 Try.underlying9 v1 xs h1 a1
  have r2 := run_convert_sl (P := Try.prog) w 33 9 5 Try.underlying33 Try.underlying5 Try.underlying9 v2 ys h2 a2
  have HD := Lib.hid ((eq_toB a1 a2).trans hx)
  clear h1 h2 a1 a2 hx
  go_enter Try.func35, Try.ntmps35
  go_wp2
  go_ret
  exact ⟨by rw [← HD.out]; rfl, rfl⟩

end Go.Proofs.Ytkbhehnpgnilmaa

/-
  The reference's Number, walked. Conditions: rows of at most seven bytes.
-/
import Derived.Test.YtkbhehnpgnilmaaRefN
import Derived.Test.YtkbhehnpgnilmaaKit
namespace Go.Proofs.Ytkbhehnpgnilmaa
open Go Go.RowKit

theorem valL_snoc (xs : List Int) (b : Int) : valL (xs ++ [b]) = 256 * valL xs + b := by
  induction xs with
  | nil => simp [valL]
  | cons x xs ih =>
    rw [List.cons_append]
    unfold valL
    rw [ih, List.length_append, List.length_singleton, Int.pow_succ]
    have : x * (256 ^ xs.length * 256) = 256 * (x * 256 ^ xs.length) := by rw [← Int.mul_assoc, Int.mul_comm]
    omega

set_option maxRecDepth 100000 in
set_option maxHeartbeats 1000000 in
theorem number_any : ∀ (n : Nat) (v : Value) (bs : List Int) (w : World), n = bs.length → n ≤ 7 → Sl w v (ofK .u8 bs) → AllB bs →
    Calls Try.prog 115 #[v] w (fun e w' => e = .returned (.int .u64 (valL bs)) ∧ Below w.heap.size w w')
  | 0, v, bs, w, hn, _, hs, _ => by
    obtain ⟨ao, c, rfl, b2, b3, b4⟩ := hs.nums
    obtain rfl : bs = [] := List.eq_nil_of_length_eq_zero hn.symm
    rw [← hn]
    have e : valL [] = 0 := rfl
    rw [e]
    clear hs b4 hn b2 e
    go_enter Try.func115, Try.ntmps115
    go_wp2_with fail
    go_ret
    exact ⟨rfl, Below.refl _ _⟩
  | n + 1, v, bs, w, hn, h7, hs, ha => by
    obtain ⟨ao, c, rfl, b2, b3, b4⟩ := hs.nums
    obtain ⟨xs, b, rfl⟩ : ∃ xs b, bs = xs ++ [b] := ⟨bs.dropLast, bs.getLast (by rintro rfl; simp at hn), (List.dropLast_concat_getLast _).symm⟩
    have hxn : n = xs.length := by simpa using hn
    have hx : AllB xs := fun c hc => ha c (by simp [hc])
    have hb : 0 ≤ b ∧ b ≤ 255 := ha b (by simp)
    have ht := hs.take n (by rw [length_ofK, ← hn]; omega)
    rw [take_ofK, hxn, List.take_left, ← hxn] at ht
    obtain ⟨g, o, rfl, hg, hc⟩ := b4 (by omega)
    have hcell := hc n (by omega)
    rw [show (xs ++ [b])[n]'(by omega) = b by simp [hxn]] at hcell
    rw [← hn, valL_snoc]
    rw [← hn] at b2
    have hbd := valL_bd xs hx
    rw [← hxn] at hbd
    have hp : (256 : Int) ^ n ≤ 256 ^ 6 := by
      have : ∀ n : Nat, n ≤ 6 → (256 : Int) ^ n ≤ 256 ^ 6 := by decide
      exact this _ (by omega)
    obtain ⟨V, hV⟩ : ∃ V, V = valL xs := ⟨_, rfl⟩
    rw [← hV] at hbd
    have hv6 : V < 281474976710656 := by omega
    have hv0 := hbd.1
    have IH : ∀ w', Sl w' (.slice (some ⟨g, o, none⟩) n c) (ofK .u8 xs) → Calls Try.prog 115 #[.slice (some ⟨g, o, none⟩) n c] w' (fun e w'' => e = .returned (.int .u64 V) ∧ Below w'.heap.size w' w'') := fun w' h => by
      rw [hV]; exact number_any n _ xs w' hxn (by omega) h hx
    have HI := Lib.hid IH
    have HT := Lib.hid ht
    have hcg := fun p => cell_grew hcell p
    have hn0 : (0 : Int) < (n : Int) + 1 := by omega
    have hn1 : (n : Int) < (n : Int) + 1 := by omega
    have hn2 : (0 : Int) ≤ (n : Int) := by omega
    have hn3 : (n : Int) ≤ (c : Int) := by omega
    have h1 : IntKind.u64.wrap (256 * V) = 256 * V := by rw [IntKind.wrap_u64]; omega
    have h2 : IntKind.u64.wrap b = b := by rw [IntKind.wrap_u64]; omega
    have h3 : IntKind.u64.wrap (256 * V + b) = 256 * V + b := by rw [IntKind.wrap_u64]; omega
    rw [← hV]
    clear hs ht hc b4 hbd hp IH hV hx ha hn hb hxn
    go_enter Try.func115, Try.ntmps115
    go_wp2_with fail
    refine wp_region_grew (by kernel_rfl) (by kernel_rfl) ?_
    repeat (first | go_big_quiet_skip | (go_big_quiet_want; go_big_quiet_op; (first | go_big_quiet_on | (apply Exists.intro; refine ⟨fun _ => ?_, ?_⟩; (focus (go_at_call 115; exact calls_grew (HI.out _ (HT.out.below (below_grew w _) (Nat.le_refl _))))); go_big_quiet_on))))
    refine wpQuiet_nil ?_
    intro w5 hw5
    obtain ⟨p, rfl⟩ := hw5
    go_wp2_with fail
    go_ret
    exact ⟨rfl, below_grew w p⟩

end Go.Proofs.Ytkbhehnpgnilmaa

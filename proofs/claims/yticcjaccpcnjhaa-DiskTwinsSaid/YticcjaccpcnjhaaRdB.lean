/-
  The reference's disk: New and Loose walked. Conditions: at most 2^30 lines.
-/
import Derived.Test.YticcjaccpcnjhaaRdA
namespace Go.Proofs.Yticcjaccpcnjhaa
open Go Go.RowKit

theorem rbuild_new (n : Int) (w : World) : (Instr.build 30 #[(0, .int .i64 n), (4, .int .i64 (-1)), (5, .int .i64 (-1))]).run Try.prog w = .ok (.agg (rC (newD n) 0 (.slice none 0 0)).toArray) w := by kernel_rfl

set_option maxRecDepth 100000 in
set_option maxHeartbeats 1000000 in
theorem rnew_any (n : Int) (ok : Bool) (w : World) (hok : (decide (1 ≤ n) && decide (n ≤ 2048)) = ok) :
    Calls Try.prog 12 #[.int .i64 n] w (fun e w' => e = .returned (.tuple #[.agg (rC (newD n) 0 (.slice none 0 0)).toArray, .bool ok]) ∧ Below w.heap.size w w') := by
  have HBL := Lib.hid (rbuild_new n)
  have HI := Lib.hid (infoR (newD n) 0 (.slice none 0 0))
  have HL := Lib.hid (lenR (newD n) 0 (.slice none 0 0))
  have HO := Lib.hid (oneR (newD n) 0 none 0 0)
  by_cases h1 : 1 ≤ n
  · obtain rfl : ok = decide (n ≤ 2048) := by rw [← hok]; simp [h1]
    go_enter Try.func12, Try.ntmps12
    go_wp2_with (first
      | ((with_reducible refine wpList_alloc_blk w rfl 30 rfl rZ Try.zeroRd ?_); intro w2 hb hbel hsz; have H2 := Lib.hid (And.intro hb hbel); clear hb hbel hsz)
      | (with_reducible refine wpList_build_want rfl 30 #[(0, .tmp 4), (4, .const (.int .i64 (-1))), (5, .const (.int .i64 (-1)))] rfl #[(0, .int .i64 n), (4, .int .i64 (-1)), (5, .int .i64 (-1))] rfl (.agg (rC (newD n) 0 (.slice none 0 0)).toArray) HBL.out ?_)
      | ((with_reducible refine wpList_store_blk w2 rfl 30 (.tmp 2) (.tmp 5) rfl w.heap.size 30 rZ (rC (newD n) 0 (.slice none 0 0)) H2.out.1 rfl rfl HL.out HI.out HO.out ?_); intro w3 hb hc hs; have H3 := Lib.hid (And.intro hb hc); clear hb hc hs))
    refine bodyPost_ret (results_cellTmp Try.results12 _ _ w.heap.size _ _ rfl H3.out.1 _ Try.underlying30 rfl HI.out _ rfl) rfl ⟨rfl, ?_⟩
    exact below_ch H2.out.2 H3.out.2 (Nat.le_refl _) (fun k hk => by have : k = w.heap.size := hk; omega)
  · obtain rfl : ok = false := by rw [← hok]; simp [h1]
    go_enter Try.func12, Try.ntmps12
    go_wp2_with (first
      | ((with_reducible refine wpList_alloc_blk w rfl 30 rfl rZ Try.zeroRd ?_); intro w2 hb hbel hsz; have H2 := Lib.hid (And.intro hb hbel); clear hb hbel hsz)
      | (with_reducible refine wpList_build_want rfl 30 #[(0, .tmp 4), (4, .const (.int .i64 (-1))), (5, .const (.int .i64 (-1)))] rfl #[(0, .int .i64 n), (4, .int .i64 (-1)), (5, .int .i64 (-1))] rfl (.agg (rC (newD n) 0 (.slice none 0 0)).toArray) HBL.out ?_)
      | ((with_reducible refine wpList_store_blk w2 rfl 30 (.tmp 2) (.tmp 5) rfl w.heap.size 30 rZ (rC (newD n) 0 (.slice none 0 0)) H2.out.1 rfl rfl HL.out HI.out HO.out ?_); intro w3 hb hc hs; have H3 := Lib.hid (And.intro hb hc); clear hb hc hs))
    refine bodyPost_ret (results_cellTmp Try.results12 _ _ w.heap.size _ _ rfl H3.out.1 _ Try.underlying30 rfl HI.out _ rfl) rfl ⟨rfl, ?_⟩
    exact below_ch H2.out.2 H3.out.2 (Nat.le_refl _) (fun k hk => by have : k = w.heap.size := hk; omega)

end Go.Proofs.Yticcjaccpcnjhaa

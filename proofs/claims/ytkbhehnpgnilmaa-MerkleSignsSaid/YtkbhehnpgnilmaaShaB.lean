/-
  Package sha: the constants and the start, walked. Conditions: none.
-/
import Derived.Test.YtkbhehnpgnilmaaShaM
import Derived.Test.YtkbhehnpgnilmaaArr
namespace Go.Proofs.Ytkbhehnpgnilmaa
open Go Go.RowKit

set_option maxRecDepth 100000 in
set_option maxHeartbeats 1000000 in
theorem start_any (w : World) : Calls Try.prog 38 #[] w (fun e w' => e = .returned (.agg (ofN H8).toArray) ∧ Below w.heap.size w w') := by
  go_enter Try.func38, Try.ntmps38
  go_wp2
  refine bodyPost_ret (v := .agg (ofN H8).toArray) ?_ rfl ⟨rfl, (Below.refl _ _).alloc (Nat.le_refl _) _⟩
  simp [results, Try.results38, go_sem]
  rfl

set_option maxRecDepth 100000 in
set_option maxHeartbeats 200000 in
theorem constants_any (w : World) : Calls Try.prog 41 #[] w (fun e w' => e = .returned (.agg (ofN K64).toArray) ∧ Below w.heap.size w w') := by
  go_enter Try.func41, Try.ntmps41
  go_upto_region 1 with fail
  iterate 1 go_step
  refine wpList_of_run _ rfl (.agg (ofN K64).toArray) (fun _ => by kernel_rfl) ?_
  refine wpList_store_blk _ rfl 46 (.tmp 0) (.tmp 1) rfl w.heap.size 46 _ (ofN K64) (heap_alloc_new _ _) rfl rfl (by rfl) (by kernel_rfl) (one_ofN _) ?_
  intro w1 hb hch hsz
  go_wp2
  refine bodyPost_ret (v := .agg (ofN K64).toArray) ?_ rfl ⟨rfl, below_ch ((Below.refl _ _).alloc (Nat.le_refl _) _) hch (Nat.le_refl _) (fun i hi => by have hi2 : i = w.heap.size := hi; omega)⟩
  exact results_blk Try.results41 _ _ w.heap.size _ _ rfl hb _ Try.underlying46 rfl (by kernel_rfl)

end Go.Proofs.Ytkbhehnpgnilmaa

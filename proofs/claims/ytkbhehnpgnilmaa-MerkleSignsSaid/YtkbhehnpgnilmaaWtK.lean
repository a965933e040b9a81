/-
  Package wots: the iterator over the starts, walked. Conditions: a seed of 32 bytes.
-/
import Derived.Test.YtkbhehnpgnilmaaWtJ
import Derived.Test.YtkbhehnpgnilmaaRgIn
namespace Go.Proofs.Ytkbhehnpgnilmaa
open Go Go.RowKit Go.Shelf
set_option linter.unusedSimpArgs false
attribute [local go_sem] Oper.semAt_some

/-- below n only block b has turned -/
def Kq (n b : Nat) (W W' : World) : Prop := ∀ k, k < n → k ≠ b → W'.heap[k]? = W.heap[k]?
theorem Kq.trans {n b : Nat} {A B C : World} (h : Kq n b A B) (k : Kq n b B C) : Kq n b A C := fun i hi hb => (k i hi hb).trans (h i hi hb)
theorem Kq.putObj {n b : Nat} {w : World} (hn : n ≤ w.heap.size) (W : World) (l : Nat) (o o' : Obj) (hl : w.heap.size ≤ l) (_ : W.heap[l]? = some o) (_ : o.isCells = false) (_ : o.isWalk = false) : Kq n b W (W.putObj l o') := fun k hk _ => World.putObj_heap_other (fun e => by omega)
theorem Kq.blk {n b : Nat} {W W' : World} {g : Nat} {e : TypeId} {xs : List Value} (h : Kq n b W W') (hb : Blk W g e xs) (hg : g < n) (hne : g ≠ b) : Blk W' g e xs := by
  unfold Blk at *
  rw [h g hg hne]; exact hb
theorem below_grown {w w' : World} (h : Below w.heap.size w w') : w.grownBy w' none := ⟨h.os, h.tape, h.output, h.size, fun k hk _ => h.block k hk⟩

set_option maxRecDepth 100000 in
set_option maxHeartbeats 4000000 in
theorem starts_stops (seed : List Int) (hs : IsD seed) (n₁ bb Bs : Nat) (w : World) (hb : Blk w Bs 23 (ofK .u8 seed)) (hB1 : Bs < n₁) (hB2 : Bs ≠ bb) :
    SeqStopsK Fence.wide 8 Try.prog 117 #[.pointer (some ⟨Bs, 0, none⟩)] (fun i : Fin 67 => #[.int .i64 i.1, .agg (ofK .u8 (startB seed i.1)).toArray]) (Kq n₁ bb) (fun ys => ys = List.finRange 67) (fun _ => True) 67 w := fun l J Jx W hW hJ _ hY h0 => by
  have HX := Lib.hid hs
  have HI := Lib.hid (infoD hs)
  have HB := Lib.hid (hb.below hW hb.lt)
  have HJ := Lib.hid hJ
  have HY := Lib.hid hY
  clear hs hb hJ hY
  refine callsIn_of_wp Try.func117 rfl trivial ?_ rfl
  simp only [Try.ntmps117, List.size_toArray, List.length_cons, List.length_nil, Nat.reduceAdd, Nat.reduceSub, Array.replicate_succ, Array.replicate_zero, List.push_toArray, List.append_toArray, List.nil_append, List.cons_append]
  gi_wp2
  gi_loopw [3, 5, 6] (fun _ _ i wr => ∃ k : Nat, k ≤ 67 ∧ i = .int .i64 k ∧ J ((List.finRange 67).take k) wr ∧ Hid (Blk wr Bs 23 (ofK .u8 seed))) (fun _ _ i _ => 67 - (intOf i).toNat)
  case atStart => exact ⟨0, by omega, rfl, by simpa using h0, HB⟩
  case round =>
    obtain ⟨k, hk, rfl, hJs, HR⟩ := hrel
    have HJs := Lib.hid hJs
    clear hJs
    by_cases hlt : k < 67
    · have hk32 : (k : Int) < 67 := by omega
      have hk0 : (0 : Int) ≤ (k : Int) := by omega
      have HRX := Lib.hid (rangeW_blk HR.out)
      have hyD := isD_start HX.out k
      have HYD := Lib.hid hyD
      have HIY := Lib.hid (infoD hyD)
      have HLY := Lib.hid (lenD hyD isD_zer)
      obtain ⟨y, hy⟩ : ∃ y, startB seed k = y := ⟨_, rfl⟩
      have HYE := Lib.hid hy
      rw [hy] at HYD HIY HLY
      clear hyD
      gi_wp2_with (with_reducible refine inL_load WideF.wide _ rfl 23 (.tmp 1) rfl Bs 0 rfl (ofK .u8 seed) _ HRX.out Try.underlying23 rfl HI.out ?_)
      refine ⟨trivial, ?_⟩
      refine (callsIn_wide.2 (start_ok seed k wr HX.out hk0 hk32)).mono ?_
      rintro e w5 ⟨rfl, hb5⟩
      have H5 := Lib.hid hb5
      clear hb5
      rw [hy]
      gi_wp2_with (first
        | ((with_reducible refine inL_alloc WideF.wide w5 rfl 23 rfl (ofK .u8 zer32) Try.zeroId ?_); intro w6 hb hbel hsz6; have H6 := Lib.hid (And.intro hb (below_thn H5.out hbel (Nat.le_refl _))); clear hb hbel hsz6)
        | ((with_reducible refine inL_store WideF.wide w6 rfl 23 (.tmp 4) (.tmp 13) rfl w5.heap.size 23 (ofK .u8 zer32) (ofK .u8 y) H6.out.1 rfl rfl HLY.out HIY.out (one_ofK _ _) ?_); intro w7 hb hc hs; have H7 := Lib.hid (And.intro (rangeW_blk hb) (below_ch H6.out.2 hc (Nat.le_refl _) (fun k hk => by have : k = w5.heap.size := hk; have := H5.out.size; omega))); clear hb hc hs)
        | (with_reducible refine inL_load WideF.wide w7 rfl 23 (.tmp 4) rfl w5.heap.size 0 rfl (ofK .u8 y) _ H7.out.1 Try.underlying23 rfl HIY.out ?_))
      have hlen : ((List.finRange 67).take k).length < 67 := by simp; omega
      obtain ⟨fn, tmps, assign, body, hyl, hR⟩ := HY.out ((List.finRange 67).take k) ⟨k, hlt⟩ w7 (HJ.out _ _ _ none HJs.out (below_grown H7.out.2) (fun r e => by cases e)) hlen
      simp only [hy] at hyl
      have hpre : (List.finRange 67).take (k + 1) = (List.finRange 67).take k ++ [⟨k, hlt⟩] := by
        rw [List.take_succ_eq_append_getElem (by simpa using hlt)]; simp
      have HP := Lib.hid hpre
      clear hpre hlen
      rw [hyl, Oper.uponIn_round]
      refine ⟨(fun h => nomatch h), ?_⟩
      refine hR.mono ?_
      rintro e w8 (⟨rfl, hJ8, hk8⟩ | ⟨rfl, hJx8⟩)
      · have H8 := Lib.hid (show J ((List.finRange 67).take (k + 1)) w8 ∧ Blk w8 Bs 23 (ofK .u8 seed) from ⟨by rw [HP.out]; exact hJ8, hk8.blk (HR.out.below H7.out.2 HR.out.lt) hB1 hB2⟩)
        clear hJ8 hk8 hyl
        gi_wp2
        go_roundw
        case rel => exact ⟨k + 1, by omega, by go_num, H8.out.1, Lib.hid H8.out.2⟩
        case measure => simp [intOf]; omega
      · gi_wp2
        refine bodyPost_ret (results_none rfl _ _ _) rfl ?_
        exact ⟨⟨_, rfl⟩, .inr ⟨_, trivial, hJx8⟩⟩
    · obtain rfl : k = 67 := by omega
      gi_wp2
      go_end0
      refine ⟨⟨_, rfl⟩, .inl ⟨_, rfl, ?_⟩⟩
      have := HJs.out
      rwa [List.take_of_length_le (by simp)] at this

end Go.Proofs.Ytkbhehnpgnilmaa

/-
  Package sha: Sum, walked. Conditions: bytes, no more than a slice can hold.
-/
import Derived.Test.YtkbhehnpgnilmaaShaP
namespace Go.Proofs.Ytkbhehnpgnilmaa
open Go Go.RowKit

theorem quiet_load_mid {P : Program} {o : Oper} {a : Act} {C : World → Prop} {K : Act → Prop} (ty : TypeId) (x : Operand) (ho : o.op = .load ty x) (b off : Nat) (hx : a.eval x = .pointer (some ⟨b, off, none⟩)) (cs : List Value) (d : TypeDesc)
    (hc : ∀ w, C w → w.rangeAt b off cs) (hu : P.underlying ty = some d) (hd : d.isRow = true) (hi : (P.info? ty).map (·.size) = some cs.length) (h : K (a.put o.dst (.agg cs.toArray))) : o.quiet P a C K :=
  ⟨.agg cs.toArray, fun w hw => by
    have hrun : (execOp a.eval o).run P w = .ok (.value (.agg cs.toArray)) w := by
      unfold execOp
      simp only [ho, hx, Instr.loadAt, Instr.sureAddr, Sem.run_bind, Sem.run_pure, Result.andThen_ok, run_loadVar_mid w b off ty cs d (hc w hw) hu hd hi]
    unfold Oper.quietAt
    rw [hrun]
    exact ⟨rfl, rfl⟩, h⟩

theorem rangeAt_blk {w : World} {g : Nat} {e : TypeId} {xs : List Value} (h : Blk w g e xs) : w.rangeAt g 0 xs := fun j v hv => by rw [Nat.zero_add, h.cell]; exact hv

theorem rangeAt_grew {w : World} {g off : Nat} {xs : List Value} (h : w.rangeAt g off xs) (w' : World) (hw : ∃ p : Regrown, w' = grew w p) : w'.rangeAt g off xs := by
  obtain ⟨p, rfl⟩ := hw
  exact fun j v hv => cell_grew (h j v hv) p

theorem rangeAt_sl {w : World} {b o len c : Nat} {xs : List Value} (h : Sl w (.slice (some ⟨b, o, none⟩) len c) xs) (n : Nat) : w.rangeAt b o (xs.take n) := by
  rcases h with ⟨h1, _⟩ | ⟨ad, c', h1, h2, h3, h4⟩
  · cases h1
  · cases h1
    intro j v hv
    rw [List.getElem?_take] at hv
    split at hv
    · have := h4 j v hv
      rwa [Addr.add_mid] at this
    · cases hv

set_option maxRecDepth 100000 in
set_option maxHeartbeats 2000000 in
theorem sum_any (v : Value) (bv : List Int) (w : World) (hs : Sl w v (ofK .u8 bv)) (hl : bv.length ≤ 140737488351000) (hb : AllB bv) :
    Calls Try.prog 32 #[v] w (fun e w' => e = .returned (.agg (ofK .u8 (sumL bv)).toArray) ∧ Below w.heap.size w w') := by
  have H := Lib.hid (And.intro hs (And.intro hl hb))
  obtain ⟨ao0, c0, hv, -⟩ := hs.nums
  subst hv
  clear hs hl hb
  go_enter Try.func32, Try.ntmps32
  obtain ⟨S0, hS0⟩ : ∃ S0, S0 = H8 := ⟨_, rfl⟩
  obtain ⟨Z, hZ⟩ : ∃ Z, Z = List.replicate 32 (0 : Int) := ⟨_, rfl⟩
  obtain ⟨Y, hY⟩ : ∃ Y, Y = [0, 0, 0, 0, 0, 0, 0, 0] := ⟨_, rfl⟩
  have hS8 : S0.length = 8 := by rw [hS0]; rfl
  have HS := Lib.hid (And.intro hS0 (And.intro hS8 (And.intro hZ hY)))
  clear hS0 hS8 hZ hY
  go_wp2_with fail
  have HB0 := Lib.hid (show Blk (w.alloc (.cells (ofK .u8 Z).toArray 23)) w.heap.size 23 (ofK .u8 Z) from Blk.new _ _ _)
  have HW0 := Lib.hid (show Below w.heap.size w (w.alloc (.cells (ofK .u8 Z).toArray 23)) from (Below.refl _ w).alloc (Nat.le_refl _) _)
  rw [HS.out.2.2.1] at HB0 HW0
  refine (start_any _).mono ?_
  rintro e w1 ⟨he, hbel⟩
  rw [← HS.out.1] at he
  subst he
  have HB1 := Lib.hid (Blk.below HB0.out hbel HB0.out.lt)
  have HW1 := Lib.hid (below_thn HW0.out hbel (Nat.le_refl _))
  rw [← HS.out.2.2.1] at HB1
  have hlt1 := HB1.out.lt
  clear hbel HB0 HW0
  have HY := Lib.hid (Blk.new w1 [.int .u32 0, .int .u32 0, .int .u32 0, .int .u32 0, .int .u32 0, .int .u32 0, .int .u32 0, .int .u32 0] 42)
  have HL := Lib.hid (show (ofN S0).length = ([.int .u32 0, .int .u32 0, .int .u32 0, .int .u32 0, .int .u32 0, .int .u32 0, .int .u32 0, .int .u32 0] : List Value).length by rw [ofN_length, HS.out.2.1]; rfl)
  have HI := Lib.hid (show (Try.prog.info? 42).map (·.size) = some (ofN S0).length by rw [ofN_length, HS.out.2.1]; kernel_rfl)
  go_wp2_with (with_reducible refine wpList_store_blk _ rfl 42 (.tmp 3) (.tmp 7) rfl w1.heap.size 42 [.int .u32 0, .int .u32 0, .int .u32 0, .int .u32 0, .int .u32 0, .int .u32 0, .int .u32 0, .int .u32 0] (ofN S0) HY.out rfl rfl HL.out HI.out (one_ofN _) ?_; intro w2 hb2 hch2 hsz2)
  have hch := Ch.trans' (Ch.alloc (Ch.refl (fun _ => False) w1) (.cells #[.int .u32 0, .int .u32 0, .int .u32 0, .int .u32 0, .int .u32 0, .int .u32 0, .int .u32 0, .int .u32 0] 42)) hch2 (fun i hi h => by have h2 : i = w1.heap.size := h; omega)
  have HB2 := Lib.hid (HB1.out.keep hch (fun h => h))
  have HW2 := Lib.hid (below_ch HW1.out hch (Nat.le_refl _) (fun k h => h.elim))
  have HG2 := Lib.hid hb2
  have hlt2 := hb2.lt
  clear hch hch2 hsz2 hb2 HB1 HW1 HY HL HI
  generalize w1.heap.size = g at *
  refine (pad_any _ bv w2 (by exact H.out.1.below HW2.out (Nat.le_refl _)) H.out.2.1).mono ?_
  rintro e w3 ⟨ao, c, n, rfl, hn, hown, hbel⟩
  have HB3 := Lib.hid (HB2.out.below hbel (by omega))
  have HW3 := Lib.hid (below_thn HW2.out hbel (Nat.le_refl _))
  have HG3 := Lib.hid (HG2.out.below hbel hlt2)
  have HO3 := Lib.hid (show Sl w3 (.slice ao n c) (ofK .u8 (padL bv)) ∧ ∀ k, (Value.slice ao n c).ownBlock = some k → g < k from ⟨Sl.of_owns hown, fun k hk => Nat.lt_of_lt_of_le hlt2 (hown.lt k hk).1⟩)
  have HN := Lib.hid hn
  obtain ⟨m, hm⟩ : ∃ m, m = (padL bv).length / 64 := ⟨_, rfl⟩
  have HM := Lib.hid (And.intro hm (show n = 64 * m by rw [hn, hm]; have := padL_mod bv; omega))
  have hlt3 := HG3.out.lt
  clear hown hbel HB2 HW2 HG2 hn hlt2 hm
  go_wp2_with fail
  go_loopg [4] m (fun q v wr => ∃ (xs : List Int) (hs : List Nat) (ao : Option Addr) (n c : Nat), v = .slice ao n c ∧ Hid (n = 64 * q ∧ xs.length = 64 * q ∧ AllB xs ∧ hs.length = 8 ∧ All32 hs ∧ chainN hs q xs = chainN H8 m (padL bv)) ∧
    Hid (Sl wr (.slice ao n c) (ofK .u8 xs) ∧ ∀ k, (Value.slice ao n c).ownBlock = some k → g < k) ∧ Hid (Blk wr g 42 (ofN hs)) ∧ Hid (Blk wr w.heap.size 23 (ofK .u8 Z)) ∧ Hid (Below w.heap.size w wr))
  case atStart => exact ⟨padL bv, S0, ao, n, c, rfl, Lib.hid ⟨HM.out.2, by rw [← HN.out, HM.out.2], padL_allB H.out.2.2, HS.out.2.1, by rw [HS.out.1]; exact H8_good.2, by rw [HS.out.1]⟩, HO3, HG3, HB3, HW3⟩
  case round =>
    clear HO3 HG3 HB3 HW3 hlt3 HN
    obtain ⟨xs, hs, ao, n, c, rfl, HC, HO, HG, HB, HW⟩ := hrel
    have hltg := HG.out.lt
    rcases gk with _ | q
    · obtain rfl : n = 0 := HC.out.1
      have HF := Lib.hid (show chainN H8 m (padL bv) = hs from HC.out.2.2.2.2.2.symm)
      have HL := Lib.hid HC.out.2.2.2.1
      have H3 := Lib.hid HC.out.2.2.2.2.1
      clear HC HO
      go_wp2_with fail
      go_loopw [5, 20] (fun v i wt => ∃ (k : Nat) (ao : Option Addr) (c : Nat), k ≤ 8 ∧ v = .slice ao (4 * k) c ∧ i = .int .i64 k ∧ Hid (Sl wt (.slice ao (4 * k) c) (ofK .u8 (bytesN (hs.take k)))) ∧ Hid (Blk wt g 42 (ofN hs)) ∧ Hid (Blk wt w.heap.size 23 (ofK .u8 Z)) ∧ Hid (Below w.heap.size w wt)) (fun _ i _ => 8 - (intOf i).toNat)
      case atStart => exact ⟨0, none, 0, by omega, rfl, rfl, Lib.hid (Sl.nil _), HG, HB, HW⟩
      case round =>
        clear HG HB HW hltg
        obtain ⟨k, ao, c, hk, rfl, rfl, HO, HG, HB, HW⟩ := hrel
        by_cases hlt : k < 8
        · obtain ⟨x, hx⟩ : ∃ x, hs.getD k 0 = x := ⟨_, rfl⟩
          have hcx : wr.cell? ⟨g, k, none⟩ = some (.int .u32 (x : Nat)) := by rw [← hx]; exact cell_ofN HG.out k (by rw [HL.out]; exact hlt)
          have hx1 : x < 4294967296 := by rw [← hx]; exact H3.out.getD _
          have hout : bytesN (hs.take k) ++ beF (x : Int) 4 = bytesN (hs.take (k + 1)) := by
            rw [List.take_succ_eq_append_getElem (by rw [HL.out]; exact hlt)]
            unfold bytesN
            rw [List.flatMap_append]
            simp only [List.flatMap_cons, List.flatMap_nil, List.append_nil]
            rw [← hx, List.getD_eq_getElem?_getD, List.getElem?_eq_getElem (by rw [HL.out]; exact hlt)]; rfl
          have hlen : (bytesN (hs.take k)).length = 4 * k := by rw [bytesN_length, List.length_take, HL.out]; omega
          have HX := Lib.hid (And.intro hout hlen)
          clear hx hout hlen
          go_wp2_with fail
          refine (put32_of _ (bytesN (hs.take k)) (x : Int) (bytesN (hs.take (k + 1))) (4 * k + 4) wr HO.out (by rw [HX.out.2]; omega) (by omega) (by rw [HX.out.2]) HX.out.1).mono ?_
          rintro e w4 ⟨ao4, c4, rfl, hown, hbel⟩
          have HO4 := Lib.hid (Sl.of_owns hown)
          have HG4 := Lib.hid (HG.out.below hbel HG.out.lt)
          have HB4 := Lib.hid (HB.out.below hbel HB.out.lt)
          have HW4 := Lib.hid (below_thn HW.out hbel (Nat.le_refl _))
          clear hown hbel HO HG HB HW
          go_wp2_with fail
          go_roundw
          case rel => exact ⟨k + 1, ao4, c4, by omega, rfl, by go_num, HO4, HG4, HB4, HW4⟩
          case measure => simp [intOf]; omega
        · obtain rfl : k = 8 := by omega
          obtain ⟨out, hout⟩ : ∃ out, out = sumL bv := ⟨_, rfl⟩
          have hhs : hs.take 8 = hs := List.take_of_length_le (by rw [HL.out]; omega)
          have hso : bytesN hs = out := by rw [hout]; unfold sumL; rw [← HM.out.1, HF.out]
          have hol : out.length = 32 := by rw [← hso, bytesN_length, HL.out]
          rw [hhs, hso] at HO
          obtain ⟨b, o, rfl⟩ : ∃ b o, ao = some ⟨b, o, none⟩ := by
            obtain ⟨ao', c', e, h1, h2, h3⟩ := HO.out.nums
            injection e with e1 e2 e3
            obtain ⟨b, o, e4, _⟩ := h3 (by omega)
            exact ⟨b, o, e1.trans e4⟩
          have hat : ∀ w, (Instr.arrayAt 23 (.slice (some ⟨b, o, none⟩) (4 * 8) c)).run Try.prog w = .ok (.pointer (some ⟨b, o, none⟩)) w := fun w => run_arrayAt w 23 _ 32 _ (4 * 8) c Try.underlying23 (by omega)
          have hrg := rangeAt_sl HO.out 32
          rw [List.take_of_length_le (by rw [length_ofK, hol]; omega)] at hrg
          have HR := Lib.hid hrg
          have HI := Lib.hid (show (Try.prog.info? 23).map (·.size) = some (ofK .u8 out).length by rw [length_ofK, hol]; kernel_rfl)
          have HZ := Lib.hid (show (ofK .u8 out).length = (ofK .u8 Z).length by rw [length_ofK, length_ofK, hol, HS.out.2.2.1]; rfl)
          have HE := Lib.hid hout
          clear hout hhs hso hol hrg
          go_wp2_with (first
            | (with_reducible refine wpList_load_mid rfl 23 (.tmp 30) rfl b o rfl (ofK .u8 out) _ HR.out Try.underlying23 rfl HI.out ?_)
            | (with_reducible refine wpList_store_blk _ rfl 23 (.tmp 2) (.tmp 31) rfl w.heap.size 23 (ofK .u8 Z) (ofK .u8 out) HB.out rfl rfl HZ.out HI.out (one_ofK _ _) ?_; intro w7 hb7 hch7 hsz7))
          have HW7 := below_ch HW.out hch7 (Nat.le_refl _) (fun k h => by have h2 : k = w.heap.size := h; omega)
          refine bodyPost_ret (v := .agg (ofK .u8 out).toArray) ?_ rfl ⟨by rw [HE.out], HW7⟩
          exact results_blk Try.results32 _ _ w.heap.size _ _ rfl hb7 _ Try.underlying23 rfl HI.out
    · obtain ⟨b, o, rfl, hxl, hnc, hcm⟩ : ∃ b o, ao = some ⟨b, o, none⟩ ∧ xs.length = n ∧ n ≤ c ∧ c ≤ 9223372036854775807 := by
        obtain ⟨ao', c', e, h1, h2, h3⟩ := HO.out.1.nums
        cases e
        obtain ⟨b, o, e2, _⟩ := h3 (by rw [HC.out.2.1]; omega)
        exact ⟨b, o, e2, rfl, h1, h2⟩
      have hn0 : 64 ≤ n := by rw [HC.out.1]; omega
      have hn1 : (0 : Int) < (n : Int) := by omega
      have hat : ∀ w, (Instr.arrayAt 45 (.slice (some ⟨b, o, none⟩) n c)).run Try.prog w = .ok (.pointer (some ⟨b, o, none⟩)) w := fun w => run_arrayAt w 45 _ 64 _ n c Try.underlying45 hn0
      obtain ⟨cs, hcs⟩ : ∃ cs, cs = ofK .u8 (xs.take 64) := ⟨_, rfl⟩
      have hr8 := fun w' hw' => rangeAt_grew (rangeAt_blk HG.out) w' hw'
      have hr64 := fun w' hw' => rangeAt_grew (by have := rangeAt_sl HO.out.1 64; rwa [take_ofK, ← hcs] at this) w' hw'
      have HR := Lib.hid (And.intro hr8 hr64)
      have HI := Lib.hid (And.intro (show (Try.prog.info? 42).map (·.size) = some (ofN hs).length by rw [ofN_length, HC.out.2.2.2.1]; kernel_rfl) (show (Try.prog.info? 45).map (·.size) = some cs.length by rw [hcs, length_ofK, List.length_take, HC.out.2.1, show min 64 (64 * (q + 1)) = 64 by omega]; kernel_rfl))
      have HX := Lib.hid hcs
      clear hr8 hr64 hcs hxl
      go_wp2_with fail
      refine wp_region_grew_tail 5 (by kernel_rfl) (by kernel_rfl) ?_
      simp only [List.take_succ_cons, List.take_zero, List.drop_succ_cons, List.drop_zero]
      go_big_quiet_want
      refine quiet_load_mid 42 (.tmp 3) rfl g 0 rfl (ofN hs) _ HR.out.1 Try.underlying42 rfl HI.out.1 ?_
      go_simp
      go_big_quiet_on
      repeat (first | go_big_quiet_skip | (go_big_quiet_want; go_big_quiet_op; go_big_quiet_on))
      go_big_quiet_want
      refine quiet_load_mid 45 (.tmp 17) rfl b o rfl cs _ HR.out.2 Try.underlying45 rfl HI.out.2 ?_
      go_simp
      go_big_quiet_on
      go_big_quiet_want
      go_big_quiet_op
      apply Exists.intro
      refine ⟨fun _ => ?_, ?_⟩
      focus (go_at_call 39; rw [HX.out]; exact calls_grew (block_any hs (xs.take 64) _ HC.out.2.2.2.1 HC.out.2.2.2.2.1 (by rw [List.length_take, HC.out.2.1]; omega) (allB_take HC.out.2.2.1 64)))
      go_big_quiet_on
      refine wpQuiet_nil ?_
      intro w5 hw5
      obtain ⟨p, rfl⟩ := hw5
      have hbel := below_grew wr p
      have HG5 := Lib.hid (HG.out.below hbel hltg)
      have HB5 := Lib.hid (HB.out.below hbel HB.out.lt)
      have HW5 := Lib.hid (below_thn HW.out hbel (Nat.le_refl _))
      have HO5 := Lib.hid (And.intro (HO.out.1.below hbel (Nat.le_refl _)) HO.out.2)
      have hgood := blockN_length HC.out.2.2.2.1 HC.out.2.2.2.2.1 (allB_take HC.out.2.2.1 64)
      have h32 := blockN_32 hs (xs.take 64)
      have hch := HC.out.2.2.2.2.2
      rw [show chainN hs (q + 1) xs = chainN (blockN hs (xs.take 64)) q (xs.drop 64) from rfl] at hch
      clear hbel HG HB HW HR HX HO hat
      generalize grew wr p = w5 at HG5 HB5 HW5 HO5 ⊢
      generalize blockN hs (xs.take 64) = hs' at hgood h32 hch ⊢
      have HL := Lib.hid (show (ofN hs').length = (ofN hs).length by rw [ofN_length, ofN_length, hgood, HC.out.2.2.2.1])
      have HI2 := Lib.hid (show (Try.prog.info? 42).map (·.size) = some (ofN hs').length by rw [HL.out]; exact HI.out.1)
      have HK := Lib.hid (And.intro hgood (And.intro h32 hch))
      clear hgood h32 hch HI
      refine wpList_store_blk _ rfl 42 (.tmp 3) (.tmp 19) rfl g 42 (ofN hs) (ofN hs') HG5.out rfl rfl HL.out HI2.out (one_ofN _) ?_
      intro w6 hb6 hch6 hsz6
      have HG6 := Lib.hid hb6
      have HB6 := Lib.hid (HB5.out.keep hch6 (fun h => by have h2 : w.heap.size = g := h; omega))
      have HW6 := Lib.hid (below_ch HW5.out hch6 (Nat.le_refl _) (fun k h => by have h2 : k = g := h; omega))
      have HO6 := Lib.hid (And.intro (HO5.out.1.keep hch6 (fun k hk h => by have h2 : k = g := h; have := HO5.out.2 k hk; omega)) HO5.out.2)
      clear hb6 hch6 hsz6 HG5 HB5 HW5 HO5 HL HI2
      have hl64 : 64 ≤ (ofK .u8 xs).length := by rw [length_ofK, HC.out.2.1]; omega
      have HD := Lib.hid (show (xs.drop 64).length = 64 * q by rw [List.length_drop, HC.out.2.1]; omega)
      by_cases hc : c = 64
      · subst hc
        have HS6 := Lib.hid (HO6.out.1.drop_all 64 hl64 rfl)
        rw [drop_ofK] at HS6
        have hq : q = 0 := by have := HC.out.1; omega
        clear hl64
        go_wp2_with fail
        go_roundg q
        case measure => omega
        case rel => exact ⟨xs.drop 64, hs', _, 0, 0, rfl, Lib.hid ⟨by omega, HD.out, allB_drop HC.out.2.2.1 64, HK.out.1, HK.out.2.1, HK.out.2.2⟩, Lib.hid ⟨HS6.out, fun k hk => HO6.out.2 k hk⟩, HG6, HB6, HW6⟩
      · have HS6 := Lib.hid (HO6.out.1.drop 64 hl64)
        rw [drop_ofK] at HS6
        have e1 : (Option.map (fun x : Addr => x.add 64) (some ⟨b, o, none⟩)) = some ⟨b, o + 64, none⟩ := by simp [Addr.add_mid]
        rw [e1, length_ofK, HC.out.2.1, ← HC.out.1] at HS6
        clear hl64 e1
        go_wp2_with fail
        go_roundg q
        case measure => omega
        case rel => exact ⟨xs.drop 64, hs', _, n - 64, c - 64, rfl, Lib.hid ⟨by have := HC.out.1; omega, HD.out, allB_drop HC.out.2.2.1 64, HK.out.1, HK.out.2.1, HK.out.2.2⟩, Lib.hid ⟨HS6.out, fun k hk => HO6.out.2 k hk⟩, HG6, HB6, HW6⟩

end Go.Proofs.Ytkbhehnpgnilmaa

/-
  The law's small functions, walked. Conditions: numbers of their kinds.
-/
import Derived.Test.YticcjaccpcnjhaaDkL
namespace Go.Proofs.Yticcjaccpcnjhaa
open Go Go.RowKit

/-- a block of one byte -/
def fil (c : Int) : List Int := List.replicate 64 c
theorem isB_fil {c : Int} (h0 : 0 ≤ c) (h1 : c ≤ 255) : IsB (fil c) := ⟨by simp [fil], fun x hx => by obtain ⟨_, rfl⟩ := List.mem_replicate.1 hx; omega⟩
def fillTo (c : Int) (k : Nat) : List Int := List.replicate k c ++ List.replicate (64 - k) 0
theorem fillTo_len (c : Int) {k : Nat} (h : k ≤ 64) : (fillTo c k).length = 64 := by simp [fillTo]; omega
theorem fillTo_set (c : Int) {k : Nat} (h : k < 64) : (ofK .u8 (fillTo c k)).set k (.int .u8 c) = ofK .u8 (fillTo c (k + 1)) := by
  unfold fillTo ofK
  rw [List.map_append, List.map_append, List.map_replicate, List.map_replicate, List.map_replicate, List.map_replicate, List.set_append_right _ _ (by simp), show 64 - k = (64 - (k + 1)) + 1 by omega, List.replicate_succ, List.length_replicate, Nat.sub_self, List.set_cons_zero, List.replicate_succ', List.append_assoc]
  rfl
theorem fillTo_all (c : Int) : fillTo c 64 = fil c := by simp [fillTo, fil]

theorem blk_in {w : World} {g : Nat} {e : TypeId} {xs : List Value} (h : Blk w g e xs) {i : Nat} (hi : i < xs.length) : ∃ v, w.cell? ⟨g, i, none⟩ = some v := ⟨xs[i], by rw [h.cell]; exact List.getElem?_eq_getElem hi⟩

set_option maxRecDepth 100000 in
set_option maxHeartbeats 1000000 in
theorem filled_any (c : Int) (w : World) (h0 : 0 ≤ c) (h1 : c ≤ 255) : Calls Try.prog 22 #[.int .u8 c] w (HoldP w (fil c)) := by
  have HI := Lib.hid (infoB isB_zer)
  have HIf := Lib.hid (infoB (isB_fil h0 h1))
  have HLf := Lib.hid (len_B (isB_fil h0 h1) isB_zer)
  go_enter Try.func22, Try.ntmps22
  go_wp2_with (first
    | (have tk : True := trivial; (with_reducible refine wpList_alloc_blk w rfl 39 rfl (ofK .u8 zer) Try.zeroBl ?_); intro w1 hb1 hbel1 hsz1; have HB1 := Lib.hid (And.intro hb1 (And.intro hbel1 hsz1)); clear hb1 hbel1 hsz1 tk)
    | ((with_reducible refine wpList_alloc_blk w1 rfl 39 rfl (ofK .u8 zer) Try.zeroBl ?_); intro w2 hb2 hbel2 hsz2; have HB2 := Lib.hid (And.intro hb2 (And.intro hbel2 hsz2)); clear hb2 hbel2 hsz2))
  have hz1 : w.heap.size < w1.heap.size := by have := HB1.out.2.2; omega
  have H2 := Lib.hid (show Blk w2 w1.heap.size 39 (ofK .u8 zer) ∧ Blk w2 w.heap.size 39 (ofK .u8 zer) ∧ Below w.heap.size w w2 from ⟨HB2.out.1, HB1.out.1.below HB2.out.2.1 HB1.out.1.lt, below_thn HB1.out.2.1 HB2.out.2.1 (Nat.le_refl _)⟩)
  clear HB1 HB2
  go_loopw [4, 5] (fun _ i wr => ∃ k : Nat, k ≤ 64 ∧ i = .int .i64 k ∧ Hid (Blk wr w1.heap.size 39 (ofK .u8 (fillTo c k)) ∧ Blk wr w.heap.size 39 (ofK .u8 zer) ∧ Below w.heap.size w wr)) (fun _ i _ => 64 - (intOf i).toNat)
  case atStart => exact ⟨0, by omega, rfl, Lib.hid ⟨H2.out.1, H2.out.2⟩⟩
  case round =>
    obtain ⟨k, hk, rfl, HR⟩ := hrel
    by_cases hlt : k < 64
    · obtain ⟨v, hv⟩ := blk_in HR.out.1 (i := k) (by rw [length_ofK, fillTo_len c hk]; exact hlt)
      have hf := HR.out.1.free k
      have hs := HR.out.1.set k (.int .u8 c)
      rw [fillTo_set c hlt] at hs
      have hc : Ch (· = w1.heap.size) wr (wr.setCell ⟨w1.heap.size, k, none⟩ (.int .u8 c)) := Ch.set wr ⟨w1.heap.size, k, none⟩ _
      have HS := Lib.hid (And.intro hs (And.intro (HR.out.2.1.keep hc (fun (e : w.heap.size = w1.heap.size) => by omega)) (below_ch HR.out.2.2 hc (Nat.le_refl _) (fun k hk => by have : k = w1.heap.size := hk; omega))))
      have hk0 : (0 : Int) ≤ (k : Int) := by omega
      have hk1 : (k : Int) < 64 := by omega
      clear hs hc
      go_wp2_with fail
      go_roundw
      case rel => exact ⟨k + 1, by omega, by go_num, HS⟩
      case measure => simp [intOf]; omega
    · obtain rfl : k = 64 := by omega
      have HR2 := Lib.hid (show Blk wr w1.heap.size 39 (ofK .u8 (fil c)) from by rw [← fillTo_all]; exact HR.out.1)
      have HRr := Lib.hid (rangeW_blk HR2.out)
      have HRz := Lib.hid HR.out.2.1
      go_wp2_with (first
        | (with_reducible refine wpList_load_any rfl 39 (.tmp 3) rfl w1.heap.size 0 rfl (ofK .u8 (fil c)) _ HRr.out Try.underlying39 rfl HIf.out ?_)
        | ((with_reducible refine wpList_store_blk _ rfl 39 (.tmp 2) (.tmp 12) rfl w.heap.size 39 (ofK .u8 zer) (ofK .u8 (fil c)) HRz.out rfl rfl HLf.out HIf.out (one_ofK _ _) ?_); intro w5 hb5 hc5 hs5; have HB5 := Lib.hid (And.intro hb5 hc5); clear hb5 hc5 hs5))
      refine bodyPost_ret (results_blk Try.results22 _ _ w.heap.size _ _ rfl HB5.out.1 _ Try.underlying39 rfl HIf.out) rfl ⟨rfl, ?_⟩
      exact below_ch HR.out.2.2 HB5.out.2 (Nat.le_refl _) (fun k hk => by have : k = w.heap.size := hk; omega)

/-- what is done with a disk -/
structure ActD where
  kind : Int
  at_ : Int
  n : Int
  fill : Int
  keep : List Bool

def kindF (k : Int) : Int := (k % 18446744073709551616) % 7
theorem kindF_bd (k : Int) : 0 ≤ kindF k ∧ kindF k ≤ 6 := by unfold kindF; omega

theorem kind_rem (k : Int) : (IntKind.u64.wrap k) % 7 = kindF k := by rw [IntKind.wrap_u64]; rfl

/-- an act as a value -/
def actV (a : ActD) (kv : Value) : Value := .agg #[.int .i64 a.kind, .int .i64 a.at_, .int .i64 a.n, .int .u8 a.fill, kv]

set_option maxHeartbeats 1000000 in
theorem kind_go (k at_ n fill q : Int) (kv : Value) (w : World) (hq : kindF k = q) : Calls Try.prog 34 #[.agg #[.int .i64 k, .int .i64 at_, .int .i64 n, .int .u8 fill, kv]] w (fun e w' => e = .returned (.int .i64 q) ∧ Below w.heap.size w w') := by
  have hb := kindF_bd k
  obtain ⟨u, hu⟩ : ∃ u, u = IntKind.u64.wrap k := ⟨_, rfl⟩
  have hr : u % 7 = q := by rw [hu, kind_rem]; exact hq
  have hu0 : 0 ≤ u := by rw [hu, IntKind.wrap_u64]; omega
  have hw := hu.symm
  rw [hq] at hb
  clear hq hu
  go_enter Try.func34, Try.ntmps34
  go_wp2
  go_ret
  exact ⟨rfl, (Below.refl _ _).alloc (Nat.le_refl _) _⟩

end Go.Proofs.Yticcjaccpcnjhaa

/-
  The law's act, walked. Conditions: numbers of their kinds; at most 2^30 writes and acts.
-/
import Derived.Test.YticcjaccpcnjhaaDkM
namespace Go.Proofs.Yticcjaccpcnjhaa
open Go Go.RowKit

theorem Try.infoBool : (Try.prog.info? 4).map (fun i => (i.zero, i.size, i.bytes)) = some (some (.bool false), 1, 1) := by kernel_rfl
theorem one_bool (bs : List Bool) : ∀ u ∈ bs.map Value.bool, u.oneCell' = true := by
  intro u hu; obtain ⟨b, _, rfl⟩ := List.mem_map.1 hu; rfl

/-- an act that came in -/
structure ActOk (w : World) (a : ActD) (kv : Value) : Prop where
  k1 : -9223372036854775808 ≤ a.kind
  k2 : a.kind ≤ 9223372036854775807
  a1 : -9223372036854775808 ≤ a.at_
  a2 : a.at_ ≤ 9223372036854775807
  n1 : -9223372036854775808 ≤ a.n
  n2 : a.n ≤ 9223372036854775807
  f1 : 0 ≤ a.fill
  f2 : a.fill ≤ 255
  sl : Sl w kv (a.keep.map Value.bool)
  len : a.keep.length ≤ 140737488351232

/-- the disk behind an act, the block and the error that are told -/
def actF (x : Dk) (a : ActD) : Dk :=
  if kindF a.kind = 0 then readD x a.at_ else if kindF a.kind = 1 then writeD x a.at_ (fil a.fill) else if kindF a.kind = 2 then syncD x else
  if kindF a.kind = 3 then armF x a.n else if kindF a.kind = 4 then failF x a.n else if kindF a.kind = 5 then crashD a.keep x else x
def actB (x : Dk) (a : ActD) : List Int := if kindF a.kind = 0 then readB x a.at_ else zer
def actE (x : Dk) (a : ActD) : Int :=
  if kindF a.kind = 0 then askE x a.at_ false else if kindF a.kind = 1 then askE x a.at_ true else if kindF a.kind = 2 then askE x 0 true else
  if kindF a.kind = 3 then powE x else if kindF a.kind = 4 then powE x else 0

theorem results_tct {P : Program} {fn : Func} {p u v : Tmp} {ty : TypeId} (h : fn.results = #[.tmp u, .cell p ty, .tmp v]) (tmps : Array Value) (w : World) (g : Nat) (e : TypeId) (xs : List Value) (hp : tmps.getD p undef = .pointer (some ⟨g, 0, none⟩)) (hb : Blk w g e xs) (d : TypeDesc)
    (hu : P.underlying ty = some d) (hd : d.isRow = true) (hi : (P.info? ty).map (·.size) = some xs.length) (x y : Value) (hx : tmps.getD u undef = x) (hy : tmps.getD v undef = y) : (results fn tmps).run P w = .ok (.tuple #[x, .agg xs.toArray, y]) w := by
  have hl := run_loadVar_mid (P := P) w g 0 ty xs d (fun j v hv => by rw [Nat.zero_add, hb.cell]; exact hv) hu hd hi
  simp only [Array.getD_eq_getD_getElem?] at hp hx hy
  simp [results, h, hp, hx, hy, asAddr, hl, Result.andThen]

/-- what becomes of a disk by an act -/
def ActR (w : World) (p : Nat) (S : Nat → Prop) (x' : Dk) (b : List Int) (n k : Int) (e : Ending) (w' : World) : Prop :=
  ∃ q, e = .returned (.tuple #[.pointer (some ⟨q, 0, none⟩), .agg (ofK .u8 b).toArray, .int .i64 n]) ∧ DkAt w' q (Gr S w w') x' ∧ Ch S w w' ∧ (k ≠ 6 → q = p) ∧ (k = 6 → w.heap.size ≤ q)

theorem actR_end {w w3 w4 w5 w6 : World} {p : Nat} {S : Nat → Prop} {x' : Dk} {bb rb : Nat} (hb : Below w.heap.size w w3) (hd : DkAt w4 p (Gr S w3 w4) x') (hc : Ch S w3 w4) (h5 : Ch (· = bb) w4 w5) (h6 : Ch (· = rb) w5 w6)
    (hbb : w.heap.size ≤ bb ∧ bb < w3.heap.size ∧ ¬ S bb) (hrb : w.heap.size ≤ rb ∧ rb < w3.heap.size ∧ ¬ S rb) : DkAt w6 p (Gr S w w6) x' ∧ Ch S w w6 := by
  have n : ∀ k, ¬ S k → k < w3.heap.size → ¬ Gr S w3 w4 k := fun k h1 h2 h => by rcases h with h | h; exact h1 h; omega
  have hd6 := (hd.keep h5 (fun k hk e => n bb hbb.2.2 hbb.2.1 ((show k = bb from e) ▸ hk))).keep h6 (fun k hk e => n rb hrb.2.2 hrb.2.1 ((show k = rb from e) ▸ hk))
  refine ⟨hd6.mono (fun k hk => ?_) (fun k hk => ?_), ?_⟩
  · rcases hk with hk | hk
    · exact .inl hk
    · have := hb.size; have := h5.size; have := h6.size; exact .inr ⟨by omega, by omega⟩
  · rcases hk with hk | hk
    · exact hd6.bd k (.inl hk)
    · exact hk.2
  · have h1 : Ch S w w4 := (Ch.of_below hb (Nat.le_refl _)).trans hc
    exact ch_less (ch_less ((h1.mono (T := fun k => (S k ∨ k = bb) ∨ k = rb) (fun k hk => .inl (.inl hk))).trans ((h5.mono (fun k hk => .inl (.inr hk))).trans (h6.mono (fun k hk => .inr hk)))) hrb.1) hbb.1


set_option maxRecDepth 100000 in
set_option maxHeartbeats 2000000 in
theorem act_0 (p : Nat) (S : Nat → Prop) (x : Dk) (a : ActD) (ao : Option Addr) (len cp : Nat) (n : Nat) (w : World) (h : DkAt w p S x) (hx : x.Ok n) (hn : n ≤ 1073741824) (ha : ActOk w a (.slice ao len cp)) (hk : kindF a.kind = 0) :
    Calls Try.prog 33 #[.pointer (some ⟨p, 0, none⟩), actV a (.slice ao len cp)] w (ActR w p S (readD x a.at_) (readB x a.at_) (askE x a.at_ false) 0) := by
  unfold actV
  have HZ := Lib.hid (infoB isB_zer)
  have H := Lib.hid (And.intro h (And.intro hx (And.intro hn (And.intro ha hk))))
  have HA := Lib.hid (And.intro (Blk.new w [.int .i64 a.kind, .int .i64 a.at_, .int .i64 a.n, .int .u8 a.fill, .slice ao len cp] 49) ((Below.refl w.heap.size w).alloc (Nat.le_refl _) (.cells #[.int .i64 a.kind, .int .i64 a.at_, .int .i64 a.n, .int .u8 a.fill, .slice ao len cp] 49)))
  have hnS : ∀ k, w.heap.size ≤ k → ¬ S k := fun k hk hs => by have := h.bd k hs; omega
  have HnS := Lib.hid hnS
  clear h hx hn ha hk hnS
  go_enter Try.func33, Try.ntmps33
  go_wp2_with (first
    | ((with_reducible refine wpList_alloc_blk (w.alloc (.cells #[.int .i64 a.kind, .int .i64 a.at_, .int .i64 a.n, .int .u8 a.fill, .slice ao len cp] 49)) rfl 39 rfl (ofK .u8 zer) Try.zeroBl ?_); intro w1 hb1 hbel1 hsz1; have HB1 := Lib.hid (And.intro (show Blk w1 (w.heap.size + 1) 39 (ofK .u8 zer) from by have := hb1; rwa [World.size_alloc] at this) (And.intro (below_thn HA.out.2 hbel1 (Nat.le_refl _)) (And.intro (HA.out.1.below hbel1 HA.out.1.lt) (show w1.heap.size = w.heap.size + 2 from by rw [hsz1, World.size_alloc])))); clear hb1 hbel1 hsz1)
    | ((with_reducible refine wpList_alloc_blk w1 rfl 39 rfl (ofK .u8 zer) Try.zeroBl ?_); intro w2 hb2 hbel2 hsz2; have HB2 := Lib.hid (And.intro hb2 (And.intro (HB1.out.1.below hbel2 HB1.out.1.lt) (And.intro (HB1.out.2.2.1.below hbel2 HB1.out.2.2.1.lt) (And.intro (below_thn HB1.out.2.1 hbel2 (Nat.le_refl _)) (And.intro hsz2 HB1.out.2.2.2))))); clear hb2 hbel2 hsz2; have a0 := HB2.out.2.2.1.cell 0; have a1 := HB2.out.2.2.1.cell (0 + 1); have a2 := HB2.out.2.2.1.cell (0 + 2); have a3 := HB2.out.2.2.1.cell (0 + 3); have a4 := HB2.out.2.2.1.cell (0 + 4); simp only [List.getElem?_cons_zero, List.getElem?_cons_succ, Nat.zero_add] at a0 a1 a2 a3 a4))
  refine (kind_go _ _ _ _ 0 _ _ H.out.2.2.2.2).mono ?_
  rintro e w3 ⟨rfl, hbel3⟩
  have hz : w.heap.size + 2 ≤ w1.heap.size ∧ w1.heap.size < w3.heap.size := by have := HB2.out.2.2.2.2; have := hbel3.size; omega
  have H3 := Lib.hid (show Blk w3 w1.heap.size 39 (ofK .u8 zer) ∧ Blk w3 (w.heap.size + 1) 39 (ofK .u8 zer) ∧ Blk w3 w.heap.size 49 [.int .i64 a.kind, .int .i64 a.at_, .int .i64 a.n, .int .u8 a.fill, .slice ao len cp] ∧ Below w.heap.size w w3 ∧ DkAt w3 p S x from
    ⟨HB2.out.1.below hbel3 HB2.out.1.lt, HB2.out.2.1.below hbel3 HB2.out.2.1.lt, HB2.out.2.2.1.below hbel3 HB2.out.2.2.1.lt, below_thn HB2.out.2.2.2.1 hbel3 (Nat.le_refl _), H.out.1.keep (Ch.of_below (S := fun _ => False) (below_thn HB2.out.2.2.2.1 hbel3 (Nat.le_refl _)) (Nat.le_refl _)) (fun _ _ h => h)⟩)
  have HN := Lib.hid (show (w.heap.size ≤ w1.heap.size ∧ w1.heap.size < w3.heap.size ∧ ¬ S w1.heap.size) ∧ (w.heap.size ≤ w.heap.size + 1 ∧ w.heap.size + 1 < w3.heap.size ∧ ¬ S (w.heap.size + 1)) from ⟨⟨by omega, by omega, HnS.out _ (by omega)⟩, ⟨by omega, by omega, HnS.out _ (by omega)⟩⟩)
  clear hbel3 HB1 HB2 a0 a1 a2 a3 a4 HA
  have a1 := H3.out.2.2.1.cell (0 + 1)
  have a2 := H3.out.2.2.1.cell (0 + 2)
  have a3 := H3.out.2.2.1.cell (0 + 3)
  have a4 := H3.out.2.2.1.cell (0 + 4)
  simp only [List.getElem?_cons_succ, List.getElem?_cons_zero, Nat.zero_add] at a1 a2 a3 a4
  go_wp2_with fail
  refine (read_any p S x a.at_ n _ H3.out.2.2.2.2 H.out.2.1 H.out.2.2.1).mono ?_
  rintro e w4 ⟨rfl, hd4, hc4⟩
  have HB4 := isB_read H.out.2.1 a.at_
  have HI4 := Lib.hid (infoB HB4)
  have HL4 := Lib.hid (len_B HB4 isB_zer)
  clear HB4
  have H4 := Lib.hid (And.intro hd4 hc4)
  have hB4 := H3.out.1.keep hc4 HN.out.1.2.2
  have hR4 := H3.out.2.1.keep hc4 HN.out.2.2.2
  have HBB := Lib.hid (And.intro hB4 hR4)
  clear hd4 hc4 hB4 hR4
  go_wp2_with ((with_reducible refine wpList_store_blk _ rfl 39 (.tmp 7) (.tmp 26) rfl w1.heap.size 39 (ofK .u8 zer) (ofK .u8 (readB x a.at_)) HBB.out.1 rfl rfl HL4.out HI4.out (one_ofK _ _) ?_); intro w5 hb5 hc5 hs5; have H5 := Lib.hid (And.intro hb5 hc5); clear hb5 hc5 hs5)
  have hrB := rangeW_blk H5.out.1
  refine wp_region_takes (fun w' => w'.rangeAt w1.heap.size 0 (ofK .u8 (readB x a.at_))) [0, 1, 2, 3] 2 (by kernel_rfl) rfl (by kernel_rfl) (by kernel_rfl) hrB ?_
  (refine' HeldL.run ?_ ?_ ?_ ?_; rotate_left 2; (simp only [List.getElem?_toArray, List.getElem?_cons_zero]; rfl); rfl; (rintro w' k0; go_simp; with_reducible rfl); simp only [Act.put, List.setIfInBounds_toArray, List.set_cons_zero, List.set_cons_succ])
  refine' HeldL.run ?_ ?_ ?_ ?_
  rotate_left 2
  (simp only [List.getElem?_toArray, List.getElem?_cons_zero, List.getElem?_cons_succ]; rfl)
  rfl
  · intro w' k0
    exact exec_load_mid rfl rfl k0 Try.underlying39 rfl HI4.out
  simp only [Act.put, List.setIfInBounds_toArray, List.set_cons_zero, List.set_cons_succ]
  iterate 2 (refine' HeldL.run ?_ ?_ ?_ ?_; rotate_left 2; (simp only [List.getElem?_toArray, List.getElem?_cons_zero, List.getElem?_cons_succ]; rfl); rfl; (rintro w' k0; go_simp; with_reducible rfl); simp only [Act.put, List.setIfInBounds_toArray, List.set_cons_zero, List.set_cons_succ])
  refine' wpAnyH_one 4 (by kernel_rfl) ?_ ?_; rotate_left; (simp only [List.getElem?_toArray, List.getElem?_cons_zero, List.getElem?_cons_succ]; rfl)
  refine wpList_store_blk _ rfl 39 _ _ rfl (w.heap.size + 1) 39 (ofK .u8 zer) (ofK .u8 (readB x a.at_)) (((Sm.refl w5).drew).blk (HBB.out.2.keep H5.out.2 (fun (e : w.heap.size + 1 = w1.heap.size) => by omega))) rfl rfl HL4.out HI4.out (one_ofK _ _) ?_
  intro w6 hb6 hc6 hs6
  have hc6' : Ch (· = w.heap.size + 1) w5 w6 := ((Sm.refl w5).drew.ch _).trans hc6
  have H6 := Lib.hid (And.intro hb6 hc6')
  have hr6 := rangeW_ch hrB hc6' (fun (e : w1.heap.size = w.heap.size + 1) => by omega)
  refine QK.normal ⟨hr6, ?_⟩
  refine' wpAnyH_one 5 (by kernel_rfl) ?_ ?_; rotate_left; (simp only [List.getElem?_toArray, List.getElem?_cons_zero, List.getElem?_cons_succ]; rfl)
  simp only [Act.put]
  go_wp2_with fail
  refine QK.normal ⟨hr6, ?_⟩
  refine wpAnyH_done (by kernel_rfl) ?_ _
  refine NoPanic.normal ?_
  clear hb6 hc6 hs6 hc6' hr6 hrB
  go_wp2_with fail
  refine bodyPost_ret (results_tct Try.results33 _ _ (w.heap.size + 1) _ _ rfl H6.out.1 _ Try.underlying39 rfl HI4.out _ _ rfl rfl) rfl ⟨p, rfl, ?_⟩
  have E := actR_end (w := w) (w3 := w3) (w4 := w4) (S := S) H3.out.2.2.2.1 H4.out.1 H4.out.2 H5.out.2 H6.out.2 HN.out.1 HN.out.2
  exact ⟨E.1, E.2, fun _ => rfl, fun h => absurd h (by omega)⟩

set_option maxRecDepth 100000 in
set_option maxHeartbeats 2000000 in
theorem act_1 (p : Nat) (S : Nat → Prop) (x : Dk) (a : ActD) (ao : Option Addr) (len cp : Nat) (n : Nat) (w : World) (h : DkAt w p S x) (hx : x.Ok n) (hn : n ≤ 1073741824) (ha : ActOk w a (.slice ao len cp)) (hk : kindF a.kind = 1) :
    Calls Try.prog 33 #[.pointer (some ⟨p, 0, none⟩), actV a (.slice ao len cp)] w (ActR w p S (writeD x a.at_ (fil a.fill)) zer (askE x a.at_ true) 1) := by
  unfold actV
  have HZ := Lib.hid (infoB isB_zer)
  have H := Lib.hid (And.intro h (And.intro hx (And.intro hn (And.intro ha hk))))
  have HA := Lib.hid (And.intro (Blk.new w [.int .i64 a.kind, .int .i64 a.at_, .int .i64 a.n, .int .u8 a.fill, .slice ao len cp] 49) ((Below.refl w.heap.size w).alloc (Nat.le_refl _) (.cells #[.int .i64 a.kind, .int .i64 a.at_, .int .i64 a.n, .int .u8 a.fill, .slice ao len cp] 49)))
  have hnS : ∀ k, w.heap.size ≤ k → ¬ S k := fun k hk hs => by have := h.bd k hs; omega
  have HnS := Lib.hid hnS
  clear h hx hn ha hk hnS
  go_enter Try.func33, Try.ntmps33
  go_wp2_with (first
    | ((with_reducible refine wpList_alloc_blk (w.alloc (.cells #[.int .i64 a.kind, .int .i64 a.at_, .int .i64 a.n, .int .u8 a.fill, .slice ao len cp] 49)) rfl 39 rfl (ofK .u8 zer) Try.zeroBl ?_); intro w1 hb1 hbel1 hsz1; have HB1 := Lib.hid (And.intro (show Blk w1 (w.heap.size + 1) 39 (ofK .u8 zer) from by have := hb1; rwa [World.size_alloc] at this) (And.intro (below_thn HA.out.2 hbel1 (Nat.le_refl _)) (And.intro (HA.out.1.below hbel1 HA.out.1.lt) (show w1.heap.size = w.heap.size + 2 from by rw [hsz1, World.size_alloc])))); clear hb1 hbel1 hsz1)
    | ((with_reducible refine wpList_alloc_blk w1 rfl 39 rfl (ofK .u8 zer) Try.zeroBl ?_); intro w2 hb2 hbel2 hsz2; have HB2 := Lib.hid (And.intro hb2 (And.intro (HB1.out.1.below hbel2 HB1.out.1.lt) (And.intro (HB1.out.2.2.1.below hbel2 HB1.out.2.2.1.lt) (And.intro (below_thn HB1.out.2.1 hbel2 (Nat.le_refl _)) (And.intro hsz2 HB1.out.2.2.2))))); clear hb2 hbel2 hsz2; have a0 := HB2.out.2.2.1.cell 0; have a1 := HB2.out.2.2.1.cell (0 + 1); have a2 := HB2.out.2.2.1.cell (0 + 2); have a3 := HB2.out.2.2.1.cell (0 + 3); have a4 := HB2.out.2.2.1.cell (0 + 4); simp only [List.getElem?_cons_zero, List.getElem?_cons_succ, Nat.zero_add] at a0 a1 a2 a3 a4))
  refine (kind_go _ _ _ _ 1 _ _ H.out.2.2.2.2).mono ?_
  rintro e w3 ⟨rfl, hbel3⟩
  have hz : w.heap.size + 2 ≤ w1.heap.size ∧ w1.heap.size < w3.heap.size := by have := HB2.out.2.2.2.2; have := hbel3.size; omega
  have H3 := Lib.hid (show Blk w3 w1.heap.size 39 (ofK .u8 zer) ∧ Blk w3 (w.heap.size + 1) 39 (ofK .u8 zer) ∧ Blk w3 w.heap.size 49 [.int .i64 a.kind, .int .i64 a.at_, .int .i64 a.n, .int .u8 a.fill, .slice ao len cp] ∧ Below w.heap.size w w3 ∧ DkAt w3 p S x from
    ⟨HB2.out.1.below hbel3 HB2.out.1.lt, HB2.out.2.1.below hbel3 HB2.out.2.1.lt, HB2.out.2.2.1.below hbel3 HB2.out.2.2.1.lt, below_thn HB2.out.2.2.2.1 hbel3 (Nat.le_refl _), H.out.1.keep (Ch.of_below (S := fun _ => False) (below_thn HB2.out.2.2.2.1 hbel3 (Nat.le_refl _)) (Nat.le_refl _)) (fun _ _ h => h)⟩)
  have HN := Lib.hid (show (w.heap.size ≤ w1.heap.size ∧ w1.heap.size < w3.heap.size ∧ ¬ S w1.heap.size) ∧ (w.heap.size ≤ w.heap.size + 1 ∧ w.heap.size + 1 < w3.heap.size ∧ ¬ S (w.heap.size + 1)) from ⟨⟨by omega, by omega, HnS.out _ (by omega)⟩, ⟨by omega, by omega, HnS.out _ (by omega)⟩⟩)
  clear hbel3 HB1 HB2 a0 a1 a2 a3 a4 HA
  have a1 := H3.out.2.2.1.cell (0 + 1)
  have a2 := H3.out.2.2.1.cell (0 + 2)
  have a3 := H3.out.2.2.1.cell (0 + 3)
  have a4 := H3.out.2.2.1.cell (0 + 4)
  simp only [List.getElem?_cons_succ, List.getElem?_cons_zero, Nat.zero_add] at a1 a2 a3 a4
  have hf := isB_fil H.out.2.2.2.1.f1 H.out.2.2.2.1.f2
  have HFB := Lib.hid hf
  clear hf
  go_wp2_with fail
  refine wp_region_takes (fun w' => w'.cell? ⟨w.heap.size, 1, none⟩ = some (.int .i64 a.at_) ∧ w'.cell? ⟨w.heap.size, 3, none⟩ = some (.int .u8 a.fill)) [0, 1, 2, 3, 4] 3 (by kernel_rfl) rfl (by kernel_rfl) (by kernel_rfl) ⟨a1, a3⟩ ?_
  iterate 5 (refine' HeldL.run ?_ ?_ ?_ ?_; rotate_left 2; (simp only [List.getElem?_toArray, List.getElem?_cons_zero, List.getElem?_cons_succ]; rfl); rfl; (rintro w' ⟨k0, k1⟩; go_simp; with_reducible rfl); simp only [Act.put, List.setIfInBounds_toArray, List.set_cons_zero, List.set_cons_succ])
  refine' wpAnyH_one 5 (by kernel_rfl) ?_ ?_; rotate_left; (simp only [List.getElem?_toArray, List.getElem?_cons_zero, List.getElem?_cons_succ]; rfl)
  go_wp2_with (go_at_call 22; refine (filled_any _ _ H.out.2.2.2.1.f1 H.out.2.2.2.1.f2).mono ?_; rintro e w7 ⟨rfl, hbel7⟩)
  have hb37 : Below w3.heap.size w3 w7 := below_thn ((Sm.refl w3).drew.below _) hbel7 (Nat.le_refl _)
  have hc37 := Ch.of_below (S := fun _ => False) hb37 (Nat.le_refl _)
  have a17 := (hb37.cell (p := ⟨w.heap.size, 1, none⟩) (block_of_cell a1)).trans a1
  have a37 := (hb37.cell (p := ⟨w.heap.size, 3, none⟩) (block_of_cell a3)).trans a3
  have hd7 := H3.out.2.2.2.2.keep hc37 (fun _ _ h => h)
  have H7 := Lib.hid (And.intro hb37 hd7)
  refine QK.normal ⟨⟨a17, a37⟩, ?_⟩
  refine' wpAnyH_one 6 (by kernel_rfl) ?_ ?_; rotate_left; (simp only [List.getElem?_toArray, List.getElem?_cons_zero, List.getElem?_cons_succ]; rfl)
  clear hbel7 hb37 hc37 hd7
  go_wp2_with (go_at_call 21; refine (write_any p S x a.at_ (fil a.fill) n _ H7.out.2 H.out.2.1 H.out.2.2.1 HFB.out).mono ?_; rintro e w4 ⟨rfl, hd7, hc7⟩)
  have hc4 : Ch S w3 w4 := (Ch.of_below H7.out.1 (Nat.le_refl _)).trans hc7
  have hd4 : DkAt w4 p (Gr S w3 w4) (writeD x a.at_ (fil a.fill)) := hd7.mono (gr_mono H7.out.1.size) (Gr.lt (H3.out.2.2.2.2.bd) hc4.size)
  have a14 := (hc4.cell (p := ⟨w.heap.size, 1, none⟩) (block_of_cell a1) (HnS.out _ (Nat.le_refl _))).trans a1
  have a34 := (hc4.cell (p := ⟨w.heap.size, 3, none⟩) (block_of_cell a3) (HnS.out _ (Nat.le_refl _))).trans a3
  refine QK.normal ⟨⟨a14, a34⟩, ?_⟩
  refine' wpAnyH_one 7 (by kernel_rfl) ?_ ?_; rotate_left; (simp only [List.getElem?_toArray, List.getElem?_cons_zero, List.getElem?_cons_succ]; rfl)
  go_wp2_with fail
  refine QK.normal ⟨⟨a14, a34⟩, ?_⟩
  refine wpAnyH_done (by kernel_rfl) ?_ _
  refine NoPanic.normal ?_
  clear a17 a37 a14 a34 hd7 hc7
  have H4 := Lib.hid (And.intro hd4 hc4)
  have hB4 := H3.out.1.keep hc4 HN.out.1.2.2
  have hR4 := H3.out.2.1.keep hc4 HN.out.2.2.2
  have HBB := Lib.hid (And.intro hB4 hR4)
  clear hd4 hc4 hB4 hR4
  go_wp2_with fail
  have hrB := rangeW_blk HBB.out.1
  refine wp_region_takes (fun w' => w'.rangeAt w1.heap.size 0 (ofK .u8 zer)) [0, 1, 2, 3] 2 (by kernel_rfl) rfl (by kernel_rfl) (by kernel_rfl) hrB ?_
  (refine' HeldL.run ?_ ?_ ?_ ?_; rotate_left 2; (simp only [List.getElem?_toArray, List.getElem?_cons_zero]; rfl); rfl; (rintro w' k0; go_simp; with_reducible rfl); simp only [Act.put, List.setIfInBounds_toArray, List.set_cons_zero, List.set_cons_succ])
  refine' HeldL.run ?_ ?_ ?_ ?_
  rotate_left 2
  (simp only [List.getElem?_toArray, List.getElem?_cons_zero, List.getElem?_cons_succ]; rfl)
  rfl
  · intro w' k0
    exact exec_load_mid rfl rfl k0 Try.underlying39 rfl HZ.out
  simp only [Act.put, List.setIfInBounds_toArray, List.set_cons_zero, List.set_cons_succ]
  iterate 2 (refine' HeldL.run ?_ ?_ ?_ ?_; rotate_left 2; (simp only [List.getElem?_toArray, List.getElem?_cons_zero, List.getElem?_cons_succ]; rfl); rfl; (rintro w' k0; go_simp; with_reducible rfl); simp only [Act.put, List.setIfInBounds_toArray, List.set_cons_zero, List.set_cons_succ])
  refine' wpAnyH_one 4 (by kernel_rfl) ?_ ?_; rotate_left; (simp only [List.getElem?_toArray, List.getElem?_cons_zero, List.getElem?_cons_succ]; rfl)
  refine wpList_store_blk _ rfl 39 _ _ rfl (w.heap.size + 1) 39 (ofK .u8 zer) (ofK .u8 zer) (((Sm.refl w4).drew).blk HBB.out.2) rfl rfl rfl HZ.out (one_ofK _ _) ?_
  intro w6 hb6 hc6 hs6
  have hc6' : Ch (· = w.heap.size + 1) w4 w6 := ((Sm.refl w4).drew.ch _).trans hc6
  have H6 := Lib.hid (And.intro hb6 hc6')
  have hr6 := rangeW_ch hrB hc6' (fun (e : w1.heap.size = w.heap.size + 1) => by omega)
  refine QK.normal ⟨hr6, ?_⟩
  refine' wpAnyH_one 5 (by kernel_rfl) ?_ ?_; rotate_left; (simp only [List.getElem?_toArray, List.getElem?_cons_zero, List.getElem?_cons_succ]; rfl)
  simp only [Act.put]
  go_wp2_with fail
  refine QK.normal ⟨hr6, ?_⟩
  refine wpAnyH_done (by kernel_rfl) ?_ _
  refine NoPanic.normal ?_
  clear hb6 hc6 hs6 hc6' hr6 hrB
  go_wp2_with fail
  refine bodyPost_ret (results_tct Try.results33 _ _ (w.heap.size + 1) _ _ rfl H6.out.1 _ Try.underlying39 rfl HZ.out _ _ rfl rfl) rfl ⟨p, rfl, ?_⟩
  have E := actR_end (w := w) (w3 := w3) (w4 := w4) (S := S) H3.out.2.2.2.1 H4.out.1 H4.out.2 (Ch.refl (· = w1.heap.size) w4) H6.out.2 HN.out.1 HN.out.2
  exact ⟨E.1, E.2, fun _ => rfl, fun h => absurd h (by omega)⟩

set_option maxRecDepth 100000 in
set_option maxHeartbeats 2000000 in
theorem act_2 (p : Nat) (S : Nat → Prop) (x : Dk) (a : ActD) (ao : Option Addr) (len cp : Nat) (n : Nat) (w : World) (h : DkAt w p S x) (hx : x.Ok n) (hn : n ≤ 1073741824) (ha : ActOk w a (.slice ao len cp)) (hk : kindF a.kind = 2) :
    Calls Try.prog 33 #[.pointer (some ⟨p, 0, none⟩), actV a (.slice ao len cp)] w (ActR w p S (syncD x) zer (askE x 0 true) 2) := by
  unfold actV
  have HZ := Lib.hid (infoB isB_zer)
  have H := Lib.hid (And.intro h (And.intro hx (And.intro hn (And.intro ha hk))))
  have HA := Lib.hid (And.intro (Blk.new w [.int .i64 a.kind, .int .i64 a.at_, .int .i64 a.n, .int .u8 a.fill, .slice ao len cp] 49) ((Below.refl w.heap.size w).alloc (Nat.le_refl _) (.cells #[.int .i64 a.kind, .int .i64 a.at_, .int .i64 a.n, .int .u8 a.fill, .slice ao len cp] 49)))
  have hnS : ∀ k, w.heap.size ≤ k → ¬ S k := fun k hk hs => by have := h.bd k hs; omega
  have HnS := Lib.hid hnS
  clear h hx hn ha hk hnS
  go_enter Try.func33, Try.ntmps33
  go_wp2_with (first
    | ((with_reducible refine wpList_alloc_blk (w.alloc (.cells #[.int .i64 a.kind, .int .i64 a.at_, .int .i64 a.n, .int .u8 a.fill, .slice ao len cp] 49)) rfl 39 rfl (ofK .u8 zer) Try.zeroBl ?_); intro w1 hb1 hbel1 hsz1; have HB1 := Lib.hid (And.intro (show Blk w1 (w.heap.size + 1) 39 (ofK .u8 zer) from by have := hb1; rwa [World.size_alloc] at this) (And.intro (below_thn HA.out.2 hbel1 (Nat.le_refl _)) (And.intro (HA.out.1.below hbel1 HA.out.1.lt) (show w1.heap.size = w.heap.size + 2 from by rw [hsz1, World.size_alloc])))); clear hb1 hbel1 hsz1)
    | ((with_reducible refine wpList_alloc_blk w1 rfl 39 rfl (ofK .u8 zer) Try.zeroBl ?_); intro w2 hb2 hbel2 hsz2; have HB2 := Lib.hid (And.intro hb2 (And.intro (HB1.out.1.below hbel2 HB1.out.1.lt) (And.intro (HB1.out.2.2.1.below hbel2 HB1.out.2.2.1.lt) (And.intro (below_thn HB1.out.2.1 hbel2 (Nat.le_refl _)) (And.intro hsz2 HB1.out.2.2.2))))); clear hb2 hbel2 hsz2; have a0 := HB2.out.2.2.1.cell 0; have a1 := HB2.out.2.2.1.cell (0 + 1); have a2 := HB2.out.2.2.1.cell (0 + 2); have a3 := HB2.out.2.2.1.cell (0 + 3); have a4 := HB2.out.2.2.1.cell (0 + 4); simp only [List.getElem?_cons_zero, List.getElem?_cons_succ, Nat.zero_add] at a0 a1 a2 a3 a4))
  refine (kind_go _ _ _ _ 2 _ _ H.out.2.2.2.2).mono ?_
  rintro e w3 ⟨rfl, hbel3⟩
  have hz : w.heap.size + 2 ≤ w1.heap.size ∧ w1.heap.size < w3.heap.size := by have := HB2.out.2.2.2.2; have := hbel3.size; omega
  have H3 := Lib.hid (show Blk w3 w1.heap.size 39 (ofK .u8 zer) ∧ Blk w3 (w.heap.size + 1) 39 (ofK .u8 zer) ∧ Blk w3 w.heap.size 49 [.int .i64 a.kind, .int .i64 a.at_, .int .i64 a.n, .int .u8 a.fill, .slice ao len cp] ∧ Below w.heap.size w w3 ∧ DkAt w3 p S x from
    ⟨HB2.out.1.below hbel3 HB2.out.1.lt, HB2.out.2.1.below hbel3 HB2.out.2.1.lt, HB2.out.2.2.1.below hbel3 HB2.out.2.2.1.lt, below_thn HB2.out.2.2.2.1 hbel3 (Nat.le_refl _), H.out.1.keep (Ch.of_below (S := fun _ => False) (below_thn HB2.out.2.2.2.1 hbel3 (Nat.le_refl _)) (Nat.le_refl _)) (fun _ _ h => h)⟩)
  have HN := Lib.hid (show (w.heap.size ≤ w1.heap.size ∧ w1.heap.size < w3.heap.size ∧ ¬ S w1.heap.size) ∧ (w.heap.size ≤ w.heap.size + 1 ∧ w.heap.size + 1 < w3.heap.size ∧ ¬ S (w.heap.size + 1)) from ⟨⟨by omega, by omega, HnS.out _ (by omega)⟩, ⟨by omega, by omega, HnS.out _ (by omega)⟩⟩)
  clear hbel3 HB1 HB2 a0 a1 a2 a3 a4 HA
  have a1 := H3.out.2.2.1.cell (0 + 1)
  have a2 := H3.out.2.2.1.cell (0 + 2)
  have a3 := H3.out.2.2.1.cell (0 + 3)
  have a4 := H3.out.2.2.1.cell (0 + 4)
  simp only [List.getElem?_cons_succ, List.getElem?_cons_zero, Nat.zero_add] at a1 a2 a3 a4
  go_wp2_with fail
  refine (sync_any p S x n _ H3.out.2.2.2.2 H.out.2.1 H.out.2.2.1).mono ?_
  rintro e w4 ⟨rfl, hd4, hc4⟩
  have H4 := Lib.hid (And.intro hd4 hc4)
  have hB4 := H3.out.1.keep hc4 HN.out.1.2.2
  have hR4 := H3.out.2.1.keep hc4 HN.out.2.2.2
  have HBB := Lib.hid (And.intro hB4 hR4)
  clear hd4 hc4 hB4 hR4
  go_wp2_with fail
  have hrB := rangeW_blk HBB.out.1
  refine wp_region_takes (fun w' => w'.rangeAt w1.heap.size 0 (ofK .u8 zer)) [0, 1, 2, 3] 2 (by kernel_rfl) rfl (by kernel_rfl) (by kernel_rfl) hrB ?_
  (refine' HeldL.run ?_ ?_ ?_ ?_; rotate_left 2; (simp only [List.getElem?_toArray, List.getElem?_cons_zero]; rfl); rfl; (rintro w' k0; go_simp; with_reducible rfl); simp only [Act.put, List.setIfInBounds_toArray, List.set_cons_zero, List.set_cons_succ])
  refine' HeldL.run ?_ ?_ ?_ ?_
  rotate_left 2
  (simp only [List.getElem?_toArray, List.getElem?_cons_zero, List.getElem?_cons_succ]; rfl)
  rfl
  · intro w' k0
    exact exec_load_mid rfl rfl k0 Try.underlying39 rfl HZ.out
  simp only [Act.put, List.setIfInBounds_toArray, List.set_cons_zero, List.set_cons_succ]
  iterate 2 (refine' HeldL.run ?_ ?_ ?_ ?_; rotate_left 2; (simp only [List.getElem?_toArray, List.getElem?_cons_zero, List.getElem?_cons_succ]; rfl); rfl; (rintro w' k0; go_simp; with_reducible rfl); simp only [Act.put, List.setIfInBounds_toArray, List.set_cons_zero, List.set_cons_succ])
  refine' wpAnyH_one 4 (by kernel_rfl) ?_ ?_; rotate_left; (simp only [List.getElem?_toArray, List.getElem?_cons_zero, List.getElem?_cons_succ]; rfl)
  refine wpList_store_blk _ rfl 39 _ _ rfl (w.heap.size + 1) 39 (ofK .u8 zer) (ofK .u8 zer) (((Sm.refl w4).drew).blk HBB.out.2) rfl rfl rfl HZ.out (one_ofK _ _) ?_
  intro w6 hb6 hc6 hs6
  have hc6' : Ch (· = w.heap.size + 1) w4 w6 := ((Sm.refl w4).drew.ch _).trans hc6
  have H6 := Lib.hid (And.intro hb6 hc6')
  have hr6 := rangeW_ch hrB hc6' (fun (e : w1.heap.size = w.heap.size + 1) => by omega)
  refine QK.normal ⟨hr6, ?_⟩
  refine' wpAnyH_one 5 (by kernel_rfl) ?_ ?_; rotate_left; (simp only [List.getElem?_toArray, List.getElem?_cons_zero, List.getElem?_cons_succ]; rfl)
  simp only [Act.put]
  go_wp2_with fail
  refine QK.normal ⟨hr6, ?_⟩
  refine wpAnyH_done (by kernel_rfl) ?_ _
  refine NoPanic.normal ?_
  clear hb6 hc6 hs6 hc6' hr6 hrB
  go_wp2_with fail
  refine bodyPost_ret (results_tct Try.results33 _ _ (w.heap.size + 1) _ _ rfl H6.out.1 _ Try.underlying39 rfl HZ.out _ _ rfl rfl) rfl ⟨p, rfl, ?_⟩
  have E := actR_end (w := w) (w3 := w3) (w4 := w4) (S := S) H3.out.2.2.2.1 H4.out.1 H4.out.2 (Ch.refl (· = w1.heap.size) w4) H6.out.2 HN.out.1 HN.out.2
  exact ⟨E.1, E.2, fun _ => rfl, fun h => absurd h (by omega)⟩

set_option maxRecDepth 100000 in
set_option maxHeartbeats 2000000 in
theorem act_3 (p : Nat) (S : Nat → Prop) (x : Dk) (a : ActD) (ao : Option Addr) (len cp : Nat) (n : Nat) (w : World) (h : DkAt w p S x) (hx : x.Ok n) (hn : n ≤ 1073741824) (ha : ActOk w a (.slice ao len cp)) (hk : kindF a.kind = 3) :
    Calls Try.prog 33 #[.pointer (some ⟨p, 0, none⟩), actV a (.slice ao len cp)] w (ActR w p S (armF x a.n) zer (powE x) 3) := by
  unfold actV
  have HZ := Lib.hid (infoB isB_zer)
  have H := Lib.hid (And.intro h (And.intro hx (And.intro hn (And.intro ha hk))))
  have HA := Lib.hid (And.intro (Blk.new w [.int .i64 a.kind, .int .i64 a.at_, .int .i64 a.n, .int .u8 a.fill, .slice ao len cp] 49) ((Below.refl w.heap.size w).alloc (Nat.le_refl _) (.cells #[.int .i64 a.kind, .int .i64 a.at_, .int .i64 a.n, .int .u8 a.fill, .slice ao len cp] 49)))
  have hnS : ∀ k, w.heap.size ≤ k → ¬ S k := fun k hk hs => by have := h.bd k hs; omega
  have HnS := Lib.hid hnS
  clear h hx hn ha hk hnS
  go_enter Try.func33, Try.ntmps33
  go_wp2_with (first
    | ((with_reducible refine wpList_alloc_blk (w.alloc (.cells #[.int .i64 a.kind, .int .i64 a.at_, .int .i64 a.n, .int .u8 a.fill, .slice ao len cp] 49)) rfl 39 rfl (ofK .u8 zer) Try.zeroBl ?_); intro w1 hb1 hbel1 hsz1; have HB1 := Lib.hid (And.intro (show Blk w1 (w.heap.size + 1) 39 (ofK .u8 zer) from by have := hb1; rwa [World.size_alloc] at this) (And.intro (below_thn HA.out.2 hbel1 (Nat.le_refl _)) (And.intro (HA.out.1.below hbel1 HA.out.1.lt) (show w1.heap.size = w.heap.size + 2 from by rw [hsz1, World.size_alloc])))); clear hb1 hbel1 hsz1)
    | ((with_reducible refine wpList_alloc_blk w1 rfl 39 rfl (ofK .u8 zer) Try.zeroBl ?_); intro w2 hb2 hbel2 hsz2; have HB2 := Lib.hid (And.intro hb2 (And.intro (HB1.out.1.below hbel2 HB1.out.1.lt) (And.intro (HB1.out.2.2.1.below hbel2 HB1.out.2.2.1.lt) (And.intro (below_thn HB1.out.2.1 hbel2 (Nat.le_refl _)) (And.intro hsz2 HB1.out.2.2.2))))); clear hb2 hbel2 hsz2; have a0 := HB2.out.2.2.1.cell 0; have a1 := HB2.out.2.2.1.cell (0 + 1); have a2 := HB2.out.2.2.1.cell (0 + 2); have a3 := HB2.out.2.2.1.cell (0 + 3); have a4 := HB2.out.2.2.1.cell (0 + 4); simp only [List.getElem?_cons_zero, List.getElem?_cons_succ, Nat.zero_add] at a0 a1 a2 a3 a4))
  refine (kind_go _ _ _ _ 3 _ _ H.out.2.2.2.2).mono ?_
  rintro e w3 ⟨rfl, hbel3⟩
  have hz : w.heap.size + 2 ≤ w1.heap.size ∧ w1.heap.size < w3.heap.size := by have := HB2.out.2.2.2.2; have := hbel3.size; omega
  have H3 := Lib.hid (show Blk w3 w1.heap.size 39 (ofK .u8 zer) ∧ Blk w3 (w.heap.size + 1) 39 (ofK .u8 zer) ∧ Blk w3 w.heap.size 49 [.int .i64 a.kind, .int .i64 a.at_, .int .i64 a.n, .int .u8 a.fill, .slice ao len cp] ∧ Below w.heap.size w w3 ∧ DkAt w3 p S x from
    ⟨HB2.out.1.below hbel3 HB2.out.1.lt, HB2.out.2.1.below hbel3 HB2.out.2.1.lt, HB2.out.2.2.1.below hbel3 HB2.out.2.2.1.lt, below_thn HB2.out.2.2.2.1 hbel3 (Nat.le_refl _), H.out.1.keep (Ch.of_below (S := fun _ => False) (below_thn HB2.out.2.2.2.1 hbel3 (Nat.le_refl _)) (Nat.le_refl _)) (fun _ _ h => h)⟩)
  have HN := Lib.hid (show (w.heap.size ≤ w1.heap.size ∧ w1.heap.size < w3.heap.size ∧ ¬ S w1.heap.size) ∧ (w.heap.size ≤ w.heap.size + 1 ∧ w.heap.size + 1 < w3.heap.size ∧ ¬ S (w.heap.size + 1)) from ⟨⟨by omega, by omega, HnS.out _ (by omega)⟩, ⟨by omega, by omega, HnS.out _ (by omega)⟩⟩)
  clear hbel3 HB1 HB2 a0 a1 a2 a3 a4 HA
  have a1 := H3.out.2.2.1.cell (0 + 1)
  have a2 := H3.out.2.2.1.cell (0 + 2)
  have a3 := H3.out.2.2.1.cell (0 + 3)
  have a4 := H3.out.2.2.1.cell (0 + 4)
  simp only [List.getElem?_cons_succ, List.getElem?_cons_zero, Nat.zero_add] at a1 a2 a3 a4
  go_wp2_with fail
  refine (arm_any p S x a.n _ H3.out.2.2.2.2).mono ?_
  rintro e w4 ⟨rfl, hd4', hc4'⟩
  have hd4 : DkAt w4 p (Gr S w3 w4) _ := hd4'.gr
  have hc4 : Ch S w3 w4 := hc4'.mono (fun k hk => hk ▸ H.out.1.sp)
  clear hd4' hc4'
  have H4 := Lib.hid (And.intro hd4 hc4)
  have hB4 := H3.out.1.keep hc4 HN.out.1.2.2
  have hR4 := H3.out.2.1.keep hc4 HN.out.2.2.2
  have HBB := Lib.hid (And.intro hB4 hR4)
  clear hd4 hc4 hB4 hR4
  go_wp2_with fail
  have hrB := rangeW_blk HBB.out.1
  refine wp_region_takes (fun w' => w'.rangeAt w1.heap.size 0 (ofK .u8 zer)) [0, 1, 2, 3] 2 (by kernel_rfl) rfl (by kernel_rfl) (by kernel_rfl) hrB ?_
  (refine' HeldL.run ?_ ?_ ?_ ?_; rotate_left 2; (simp only [List.getElem?_toArray, List.getElem?_cons_zero]; rfl); rfl; (rintro w' k0; go_simp; with_reducible rfl); simp only [Act.put, List.setIfInBounds_toArray, List.set_cons_zero, List.set_cons_succ])
  refine' HeldL.run ?_ ?_ ?_ ?_
  rotate_left 2
  (simp only [List.getElem?_toArray, List.getElem?_cons_zero, List.getElem?_cons_succ]; rfl)
  rfl
  · intro w' k0
    exact exec_load_mid rfl rfl k0 Try.underlying39 rfl HZ.out
  simp only [Act.put, List.setIfInBounds_toArray, List.set_cons_zero, List.set_cons_succ]
  iterate 2 (refine' HeldL.run ?_ ?_ ?_ ?_; rotate_left 2; (simp only [List.getElem?_toArray, List.getElem?_cons_zero, List.getElem?_cons_succ]; rfl); rfl; (rintro w' k0; go_simp; with_reducible rfl); simp only [Act.put, List.setIfInBounds_toArray, List.set_cons_zero, List.set_cons_succ])
  refine' wpAnyH_one 4 (by kernel_rfl) ?_ ?_; rotate_left; (simp only [List.getElem?_toArray, List.getElem?_cons_zero, List.getElem?_cons_succ]; rfl)
  refine wpList_store_blk _ rfl 39 _ _ rfl (w.heap.size + 1) 39 (ofK .u8 zer) (ofK .u8 zer) (((Sm.refl w4).drew).blk HBB.out.2) rfl rfl rfl HZ.out (one_ofK _ _) ?_
  intro w6 hb6 hc6 hs6
  have hc6' : Ch (· = w.heap.size + 1) w4 w6 := ((Sm.refl w4).drew.ch _).trans hc6
  have H6 := Lib.hid (And.intro hb6 hc6')
  have hr6 := rangeW_ch hrB hc6' (fun (e : w1.heap.size = w.heap.size + 1) => by omega)
  refine QK.normal ⟨hr6, ?_⟩
  refine' wpAnyH_one 5 (by kernel_rfl) ?_ ?_; rotate_left; (simp only [List.getElem?_toArray, List.getElem?_cons_zero, List.getElem?_cons_succ]; rfl)
  simp only [Act.put]
  go_wp2_with fail
  refine QK.normal ⟨hr6, ?_⟩
  refine wpAnyH_done (by kernel_rfl) ?_ _
  refine NoPanic.normal ?_
  clear hb6 hc6 hs6 hc6' hr6 hrB
  go_wp2_with fail
  refine bodyPost_ret (results_tct Try.results33 _ _ (w.heap.size + 1) _ _ rfl H6.out.1 _ Try.underlying39 rfl HZ.out _ _ rfl rfl) rfl ⟨p, rfl, ?_⟩
  have E := actR_end (w := w) (w3 := w3) (w4 := w4) (S := S) H3.out.2.2.2.1 H4.out.1 H4.out.2 (Ch.refl (· = w1.heap.size) w4) H6.out.2 HN.out.1 HN.out.2
  exact ⟨E.1, E.2, fun _ => rfl, fun h => absurd h (by omega)⟩

set_option maxRecDepth 100000 in
set_option maxHeartbeats 2000000 in
theorem act_4 (p : Nat) (S : Nat → Prop) (x : Dk) (a : ActD) (ao : Option Addr) (len cp : Nat) (n : Nat) (w : World) (h : DkAt w p S x) (hx : x.Ok n) (hn : n ≤ 1073741824) (ha : ActOk w a (.slice ao len cp)) (hk : kindF a.kind = 4) :
    Calls Try.prog 33 #[.pointer (some ⟨p, 0, none⟩), actV a (.slice ao len cp)] w (ActR w p S (failF x a.n) zer (powE x) 4) := by
  unfold actV
  have HZ := Lib.hid (infoB isB_zer)
  have H := Lib.hid (And.intro h (And.intro hx (And.intro hn (And.intro ha hk))))
  have HA := Lib.hid (And.intro (Blk.new w [.int .i64 a.kind, .int .i64 a.at_, .int .i64 a.n, .int .u8 a.fill, .slice ao len cp] 49) ((Below.refl w.heap.size w).alloc (Nat.le_refl _) (.cells #[.int .i64 a.kind, .int .i64 a.at_, .int .i64 a.n, .int .u8 a.fill, .slice ao len cp] 49)))
  have hnS : ∀ k, w.heap.size ≤ k → ¬ S k := fun k hk hs => by have := h.bd k hs; omega
  have HnS := Lib.hid hnS
  clear h hx hn ha hk hnS
  go_enter Try.func33, Try.ntmps33
  go_wp2_with (first
    | ((with_reducible refine wpList_alloc_blk (w.alloc (.cells #[.int .i64 a.kind, .int .i64 a.at_, .int .i64 a.n, .int .u8 a.fill, .slice ao len cp] 49)) rfl 39 rfl (ofK .u8 zer) Try.zeroBl ?_); intro w1 hb1 hbel1 hsz1; have HB1 := Lib.hid (And.intro (show Blk w1 (w.heap.size + 1) 39 (ofK .u8 zer) from by have := hb1; rwa [World.size_alloc] at this) (And.intro (below_thn HA.out.2 hbel1 (Nat.le_refl _)) (And.intro (HA.out.1.below hbel1 HA.out.1.lt) (show w1.heap.size = w.heap.size + 2 from by rw [hsz1, World.size_alloc])))); clear hb1 hbel1 hsz1)
    | ((with_reducible refine wpList_alloc_blk w1 rfl 39 rfl (ofK .u8 zer) Try.zeroBl ?_); intro w2 hb2 hbel2 hsz2; have HB2 := Lib.hid (And.intro hb2 (And.intro (HB1.out.1.below hbel2 HB1.out.1.lt) (And.intro (HB1.out.2.2.1.below hbel2 HB1.out.2.2.1.lt) (And.intro (below_thn HB1.out.2.1 hbel2 (Nat.le_refl _)) (And.intro hsz2 HB1.out.2.2.2))))); clear hb2 hbel2 hsz2; have a0 := HB2.out.2.2.1.cell 0; have a1 := HB2.out.2.2.1.cell (0 + 1); have a2 := HB2.out.2.2.1.cell (0 + 2); have a3 := HB2.out.2.2.1.cell (0 + 3); have a4 := HB2.out.2.2.1.cell (0 + 4); simp only [List.getElem?_cons_zero, List.getElem?_cons_succ, Nat.zero_add] at a0 a1 a2 a3 a4))
  refine (kind_go _ _ _ _ 4 _ _ H.out.2.2.2.2).mono ?_
  rintro e w3 ⟨rfl, hbel3⟩
  have hz : w.heap.size + 2 ≤ w1.heap.size ∧ w1.heap.size < w3.heap.size := by have := HB2.out.2.2.2.2; have := hbel3.size; omega
  have H3 := Lib.hid (show Blk w3 w1.heap.size 39 (ofK .u8 zer) ∧ Blk w3 (w.heap.size + 1) 39 (ofK .u8 zer) ∧ Blk w3 w.heap.size 49 [.int .i64 a.kind, .int .i64 a.at_, .int .i64 a.n, .int .u8 a.fill, .slice ao len cp] ∧ Below w.heap.size w w3 ∧ DkAt w3 p S x from
    ⟨HB2.out.1.below hbel3 HB2.out.1.lt, HB2.out.2.1.below hbel3 HB2.out.2.1.lt, HB2.out.2.2.1.below hbel3 HB2.out.2.2.1.lt, below_thn HB2.out.2.2.2.1 hbel3 (Nat.le_refl _), H.out.1.keep (Ch.of_below (S := fun _ => False) (below_thn HB2.out.2.2.2.1 hbel3 (Nat.le_refl _)) (Nat.le_refl _)) (fun _ _ h => h)⟩)
  have HN := Lib.hid (show (w.heap.size ≤ w1.heap.size ∧ w1.heap.size < w3.heap.size ∧ ¬ S w1.heap.size) ∧ (w.heap.size ≤ w.heap.size + 1 ∧ w.heap.size + 1 < w3.heap.size ∧ ¬ S (w.heap.size + 1)) from ⟨⟨by omega, by omega, HnS.out _ (by omega)⟩, ⟨by omega, by omega, HnS.out _ (by omega)⟩⟩)
  clear hbel3 HB1 HB2 a0 a1 a2 a3 a4 HA
  have a1 := H3.out.2.2.1.cell (0 + 1)
  have a2 := H3.out.2.2.1.cell (0 + 2)
  have a3 := H3.out.2.2.1.cell (0 + 3)
  have a4 := H3.out.2.2.1.cell (0 + 4)
  simp only [List.getElem?_cons_succ, List.getElem?_cons_zero, Nat.zero_add] at a1 a2 a3 a4
  go_wp2_with fail
  refine (fail_any p S x a.n _ H3.out.2.2.2.2).mono ?_
  rintro e w4 ⟨rfl, hd4', hc4'⟩
  have hd4 : DkAt w4 p (Gr S w3 w4) _ := hd4'.gr
  have hc4 : Ch S w3 w4 := hc4'.mono (fun k hk => hk ▸ H.out.1.sp)
  clear hd4' hc4'
  have H4 := Lib.hid (And.intro hd4 hc4)
  have hB4 := H3.out.1.keep hc4 HN.out.1.2.2
  have hR4 := H3.out.2.1.keep hc4 HN.out.2.2.2
  have HBB := Lib.hid (And.intro hB4 hR4)
  clear hd4 hc4 hB4 hR4
  go_wp2_with fail
  have hrB := rangeW_blk HBB.out.1
  refine wp_region_takes (fun w' => w'.rangeAt w1.heap.size 0 (ofK .u8 zer)) [0, 1, 2, 3] 2 (by kernel_rfl) rfl (by kernel_rfl) (by kernel_rfl) hrB ?_
  (refine' HeldL.run ?_ ?_ ?_ ?_; rotate_left 2; (simp only [List.getElem?_toArray, List.getElem?_cons_zero]; rfl); rfl; (rintro w' k0; go_simp; with_reducible rfl); simp only [Act.put, List.setIfInBounds_toArray, List.set_cons_zero, List.set_cons_succ])
  refine' HeldL.run ?_ ?_ ?_ ?_
  rotate_left 2
  (simp only [List.getElem?_toArray, List.getElem?_cons_zero, List.getElem?_cons_succ]; rfl)
  rfl
  · intro w' k0
    exact exec_load_mid rfl rfl k0 Try.underlying39 rfl HZ.out
  simp only [Act.put, List.setIfInBounds_toArray, List.set_cons_zero, List.set_cons_succ]
  iterate 2 (refine' HeldL.run ?_ ?_ ?_ ?_; rotate_left 2; (simp only [List.getElem?_toArray, List.getElem?_cons_zero, List.getElem?_cons_succ]; rfl); rfl; (rintro w' k0; go_simp; with_reducible rfl); simp only [Act.put, List.setIfInBounds_toArray, List.set_cons_zero, List.set_cons_succ])
  refine' wpAnyH_one 4 (by kernel_rfl) ?_ ?_; rotate_left; (simp only [List.getElem?_toArray, List.getElem?_cons_zero, List.getElem?_cons_succ]; rfl)
  refine wpList_store_blk _ rfl 39 _ _ rfl (w.heap.size + 1) 39 (ofK .u8 zer) (ofK .u8 zer) (((Sm.refl w4).drew).blk HBB.out.2) rfl rfl rfl HZ.out (one_ofK _ _) ?_
  intro w6 hb6 hc6 hs6
  have hc6' : Ch (· = w.heap.size + 1) w4 w6 := ((Sm.refl w4).drew.ch _).trans hc6
  have H6 := Lib.hid (And.intro hb6 hc6')
  have hr6 := rangeW_ch hrB hc6' (fun (e : w1.heap.size = w.heap.size + 1) => by omega)
  refine QK.normal ⟨hr6, ?_⟩
  refine' wpAnyH_one 5 (by kernel_rfl) ?_ ?_; rotate_left; (simp only [List.getElem?_toArray, List.getElem?_cons_zero, List.getElem?_cons_succ]; rfl)
  simp only [Act.put]
  go_wp2_with fail
  refine QK.normal ⟨hr6, ?_⟩
  refine wpAnyH_done (by kernel_rfl) ?_ _
  refine NoPanic.normal ?_
  clear hb6 hc6 hs6 hc6' hr6 hrB
  go_wp2_with fail
  refine bodyPost_ret (results_tct Try.results33 _ _ (w.heap.size + 1) _ _ rfl H6.out.1 _ Try.underlying39 rfl HZ.out _ _ rfl rfl) rfl ⟨p, rfl, ?_⟩
  have E := actR_end (w := w) (w3 := w3) (w4 := w4) (S := S) H3.out.2.2.2.1 H4.out.1 H4.out.2 (Ch.refl (· = w1.heap.size) w4) H6.out.2 HN.out.1 HN.out.2
  exact ⟨E.1, E.2, fun _ => rfl, fun h => absurd h (by omega)⟩

set_option maxRecDepth 100000 in
set_option maxHeartbeats 2000000 in
theorem act_5 (p : Nat) (S : Nat → Prop) (x : Dk) (a : ActD) (ao : Option Addr) (len cp : Nat) (n : Nat) (w : World) (h : DkAt w p S x) (hx : x.Ok n) (hn : n ≤ 1073741824) (ha : ActOk w a (.slice ao len cp)) (hk : kindF a.kind = 5) :
    Calls Try.prog 33 #[.pointer (some ⟨p, 0, none⟩), actV a (.slice ao len cp)] w (ActR w p S (crashD a.keep x) zer 0 5) := by
  unfold actV
  have HZ := Lib.hid (infoB isB_zer)
  have H := Lib.hid (And.intro h (And.intro hx (And.intro hn (And.intro ha hk))))
  have HA := Lib.hid (And.intro (Blk.new w [.int .i64 a.kind, .int .i64 a.at_, .int .i64 a.n, .int .u8 a.fill, .slice ao len cp] 49) ((Below.refl w.heap.size w).alloc (Nat.le_refl _) (.cells #[.int .i64 a.kind, .int .i64 a.at_, .int .i64 a.n, .int .u8 a.fill, .slice ao len cp] 49)))
  have hnS : ∀ k, w.heap.size ≤ k → ¬ S k := fun k hk hs => by have := h.bd k hs; omega
  have HnS := Lib.hid hnS
  clear h hx hn ha hk hnS
  go_enter Try.func33, Try.ntmps33
  go_wp2_with (first
    | ((with_reducible refine wpList_alloc_blk (w.alloc (.cells #[.int .i64 a.kind, .int .i64 a.at_, .int .i64 a.n, .int .u8 a.fill, .slice ao len cp] 49)) rfl 39 rfl (ofK .u8 zer) Try.zeroBl ?_); intro w1 hb1 hbel1 hsz1; have HB1 := Lib.hid (And.intro (show Blk w1 (w.heap.size + 1) 39 (ofK .u8 zer) from by have := hb1; rwa [World.size_alloc] at this) (And.intro (below_thn HA.out.2 hbel1 (Nat.le_refl _)) (And.intro (HA.out.1.below hbel1 HA.out.1.lt) (show w1.heap.size = w.heap.size + 2 from by rw [hsz1, World.size_alloc])))); clear hb1 hbel1 hsz1)
    | ((with_reducible refine wpList_alloc_blk w1 rfl 39 rfl (ofK .u8 zer) Try.zeroBl ?_); intro w2 hb2 hbel2 hsz2; have HB2 := Lib.hid (And.intro hb2 (And.intro (HB1.out.1.below hbel2 HB1.out.1.lt) (And.intro (HB1.out.2.2.1.below hbel2 HB1.out.2.2.1.lt) (And.intro (below_thn HB1.out.2.1 hbel2 (Nat.le_refl _)) (And.intro hsz2 HB1.out.2.2.2))))); clear hb2 hbel2 hsz2; have a0 := HB2.out.2.2.1.cell 0; have a1 := HB2.out.2.2.1.cell (0 + 1); have a2 := HB2.out.2.2.1.cell (0 + 2); have a3 := HB2.out.2.2.1.cell (0 + 3); have a4 := HB2.out.2.2.1.cell (0 + 4); simp only [List.getElem?_cons_zero, List.getElem?_cons_succ, Nat.zero_add] at a0 a1 a2 a3 a4))
  refine (kind_go _ _ _ _ 5 _ _ H.out.2.2.2.2).mono ?_
  rintro e w3 ⟨rfl, hbel3⟩
  have hz : w.heap.size + 2 ≤ w1.heap.size ∧ w1.heap.size < w3.heap.size := by have := HB2.out.2.2.2.2; have := hbel3.size; omega
  have H3 := Lib.hid (show Blk w3 w1.heap.size 39 (ofK .u8 zer) ∧ Blk w3 (w.heap.size + 1) 39 (ofK .u8 zer) ∧ Blk w3 w.heap.size 49 [.int .i64 a.kind, .int .i64 a.at_, .int .i64 a.n, .int .u8 a.fill, .slice ao len cp] ∧ Below w.heap.size w w3 ∧ DkAt w3 p S x from
    ⟨HB2.out.1.below hbel3 HB2.out.1.lt, HB2.out.2.1.below hbel3 HB2.out.2.1.lt, HB2.out.2.2.1.below hbel3 HB2.out.2.2.1.lt, below_thn HB2.out.2.2.2.1 hbel3 (Nat.le_refl _), H.out.1.keep (Ch.of_below (S := fun _ => False) (below_thn HB2.out.2.2.2.1 hbel3 (Nat.le_refl _)) (Nat.le_refl _)) (fun _ _ h => h)⟩)
  have HN := Lib.hid (show (w.heap.size ≤ w1.heap.size ∧ w1.heap.size < w3.heap.size ∧ ¬ S w1.heap.size) ∧ (w.heap.size ≤ w.heap.size + 1 ∧ w.heap.size + 1 < w3.heap.size ∧ ¬ S (w.heap.size + 1)) from ⟨⟨by omega, by omega, HnS.out _ (by omega)⟩, ⟨by omega, by omega, HnS.out _ (by omega)⟩⟩)
  clear hbel3 HB1 HB2 a0 a1 a2 a3 a4 HA
  have a1 := H3.out.2.2.1.cell (0 + 1)
  have a2 := H3.out.2.2.1.cell (0 + 2)
  have a3 := H3.out.2.2.1.cell (0 + 3)
  have a4 := H3.out.2.2.1.cell (0 + 4)
  simp only [List.getElem?_cons_succ, List.getElem?_cons_zero, Nat.zero_add] at a1 a2 a3 a4
  obtain ⟨i0, hi0, hz0, hz1, hz2⟩ := info_parts Try.infoBool
  have HO0 := Lib.hid ((Blk.new w3 [] 4).owns (base := w3.heap.size) (Nat.le_refl _) (by simp))
  have HS0 := Lib.hid ((H.out.2.2.2.1.sl.below H3.out.2.2.2.1 (Nat.le_refl _)).below ((Below.refl w3.heap.size w3).alloc (Nat.le_refl _) (.cells #[] 4)) (Nat.le_refl _))
  have HLk := Lib.hid H.out.2.2.2.1.len
  have a4' : ∀ o, (w3.alloc o).cell? ⟨w.heap.size, 4, none⟩ = some (.slice ao len cp) := fun o => (((Below.refl w3.heap.size w3).alloc (Nat.le_refl _) o).cell (p := ⟨w.heap.size, 4, none⟩) (block_of_cell a4)).trans a4
  go_wp2_with (at_builtin; refine wpList_append_sl _ rfl (.tmp 56) (.tmp 58) 47 rfl w3.heap.size 4 i0 (.bool false) 1 Try.underlying47 hi0 hz0 hz1 hz2 rfl (.slice (some ⟨w3.heap.size, 0, none⟩) 0 0) 0 [] rfl HO0.out _ _ rfl HS0.out (one_bool _) a.keep.length ?_ ?_ ?_ ?_ ?_)
  · simp
  · have := HLk.out; unfold maxLen; omega
  · have := HLk.out; omega
  · simp
  intro ao1 c1 w7 hown7 hgr7 _
  have hb37 : Below w3.heap.size w3 w7 := ((Below.refl w3.heap.size w3).alloc (Nat.le_refl _) (.cells #[] 4)).grown hgr7 (by simp) (fun k hk => by cases hk; exact Nat.le_refl _)
  have hd7 := H3.out.2.2.2.2.keep (Ch.of_below (S := fun _ => False) hb37 (Nat.le_refl _)) (fun _ _ h => h)
  have hsl7 := Sl.of_owns hown7
  have hv7 : ∀ k, (Value.slice ao1 a.keep.length c1).ownBlock = some k → ¬ S k := fun k hk => HnS.out k (by have := (hown7.lt k hk).1; have := H3.out.2.2.2.1.size; omega)
  have H7 := Lib.hid (And.intro hb37 (And.intro hd7 (And.intro hsl7 hv7)))
  clear hown7 hgr7 hb37 hd7 hsl7 hv7
  go_wp2_with fail
  refine (crash_any p S x ao1 a.keep.length c1 a.keep n _ H7.out.2.1 H.out.2.1 H.out.2.2.1 H7.out.2.2.1 H7.out.2.2.2).mono ?_
  rintro e w4 ⟨rfl, hd7, hc7⟩
  have hc4 : Ch S w3 w4 := (Ch.of_below H7.out.1 (Nat.le_refl _)).trans hc7
  have hd4 : DkAt w4 p (Gr S w3 w4) (crashD a.keep x) := hd7.mono (gr_mono H7.out.1.size) (Gr.lt (H3.out.2.2.2.2.bd) hc4.size)
  clear hd7 hc7
  have H4 := Lib.hid (And.intro hd4 hc4)
  have hB4 := H3.out.1.keep hc4 HN.out.1.2.2
  have hR4 := H3.out.2.1.keep hc4 HN.out.2.2.2
  have HBB := Lib.hid (And.intro hB4 hR4)
  clear hd4 hc4 hB4 hR4
  go_wp2_with fail
  have hrB := rangeW_blk HBB.out.1
  refine wp_region_takes (fun w' => w'.rangeAt w1.heap.size 0 (ofK .u8 zer)) [0, 1, 2, 3] 2 (by kernel_rfl) rfl (by kernel_rfl) (by kernel_rfl) hrB ?_
  (refine' HeldL.run ?_ ?_ ?_ ?_; rotate_left 2; (simp only [List.getElem?_toArray, List.getElem?_cons_zero]; rfl); rfl; (rintro w' k0; go_simp; with_reducible rfl); simp only [Act.put, List.setIfInBounds_toArray, List.set_cons_zero, List.set_cons_succ])
  refine' HeldL.run ?_ ?_ ?_ ?_
  rotate_left 2
  (simp only [List.getElem?_toArray, List.getElem?_cons_zero, List.getElem?_cons_succ]; rfl)
  rfl
  · intro w' k0
    exact exec_load_mid rfl rfl k0 Try.underlying39 rfl HZ.out
  simp only [Act.put, List.setIfInBounds_toArray, List.set_cons_zero, List.set_cons_succ]
  iterate 2 (refine' HeldL.run ?_ ?_ ?_ ?_; rotate_left 2; (simp only [List.getElem?_toArray, List.getElem?_cons_zero, List.getElem?_cons_succ]; rfl); rfl; (rintro w' k0; go_simp; with_reducible rfl); simp only [Act.put, List.setIfInBounds_toArray, List.set_cons_zero, List.set_cons_succ])
  refine' wpAnyH_one 4 (by kernel_rfl) ?_ ?_; rotate_left; (simp only [List.getElem?_toArray, List.getElem?_cons_zero, List.getElem?_cons_succ]; rfl)
  refine wpList_store_blk _ rfl 39 _ _ rfl (w.heap.size + 1) 39 (ofK .u8 zer) (ofK .u8 zer) (((Sm.refl w4).drew).blk HBB.out.2) rfl rfl rfl HZ.out (one_ofK _ _) ?_
  intro w6 hb6 hc6 hs6
  have hc6' : Ch (· = w.heap.size + 1) w4 w6 := ((Sm.refl w4).drew.ch _).trans hc6
  have H6 := Lib.hid (And.intro hb6 hc6')
  have hr6 := rangeW_ch hrB hc6' (fun (e : w1.heap.size = w.heap.size + 1) => by omega)
  refine QK.normal ⟨hr6, ?_⟩
  refine' wpAnyH_one 5 (by kernel_rfl) ?_ ?_; rotate_left; (simp only [List.getElem?_toArray, List.getElem?_cons_zero, List.getElem?_cons_succ]; rfl)
  simp only [Act.put]
  go_wp2_with fail
  refine QK.normal ⟨hr6, ?_⟩
  refine wpAnyH_done (by kernel_rfl) ?_ _
  refine NoPanic.normal ?_
  clear hb6 hc6 hs6 hc6' hr6 hrB
  go_wp2_with fail
  refine bodyPost_ret (results_tct Try.results33 _ _ (w.heap.size + 1) _ _ rfl H6.out.1 _ Try.underlying39 rfl HZ.out _ _ rfl rfl) rfl ⟨p, rfl, ?_⟩
  have E := actR_end (w := w) (w3 := w3) (w4 := w4) (S := S) H3.out.2.2.2.1 H4.out.1 H4.out.2 (Ch.refl (· = w1.heap.size) w4) H6.out.2 HN.out.1 HN.out.2
  exact ⟨E.1, E.2, fun _ => rfl, fun h => absurd h (by omega)⟩

set_option maxRecDepth 100000 in
set_option maxHeartbeats 2000000 in
theorem act_6 (p : Nat) (S : Nat → Prop) (x : Dk) (a : ActD) (ao : Option Addr) (len cp : Nat) (n : Nat) (w : World) (h : DkAt w p S x) (hx : x.Ok n) (hn : n ≤ 1073741824) (ha : ActOk w a (.slice ao len cp)) (hk : kindF a.kind = 6) :
    Calls Try.prog 33 #[.pointer (some ⟨p, 0, none⟩), actV a (.slice ao len cp)] w (ActR w p S x zer 0 6) := by
  unfold actV
  have HZ := Lib.hid (infoB isB_zer)
  have H := Lib.hid (And.intro h (And.intro hx (And.intro hn (And.intro ha hk))))
  have HA := Lib.hid (And.intro (Blk.new w [.int .i64 a.kind, .int .i64 a.at_, .int .i64 a.n, .int .u8 a.fill, .slice ao len cp] 49) ((Below.refl w.heap.size w).alloc (Nat.le_refl _) (.cells #[.int .i64 a.kind, .int .i64 a.at_, .int .i64 a.n, .int .u8 a.fill, .slice ao len cp] 49)))
  have hnS : ∀ k, w.heap.size ≤ k → ¬ S k := fun k hk hs => by have := h.bd k hs; omega
  have HnS := Lib.hid hnS
  clear h hx hn ha hk hnS
  go_enter Try.func33, Try.ntmps33
  go_wp2_with (first
    | ((with_reducible refine wpList_alloc_blk (w.alloc (.cells #[.int .i64 a.kind, .int .i64 a.at_, .int .i64 a.n, .int .u8 a.fill, .slice ao len cp] 49)) rfl 39 rfl (ofK .u8 zer) Try.zeroBl ?_); intro w1 hb1 hbel1 hsz1; have HB1 := Lib.hid (And.intro (show Blk w1 (w.heap.size + 1) 39 (ofK .u8 zer) from by have := hb1; rwa [World.size_alloc] at this) (And.intro (below_thn HA.out.2 hbel1 (Nat.le_refl _)) (And.intro (HA.out.1.below hbel1 HA.out.1.lt) (show w1.heap.size = w.heap.size + 2 from by rw [hsz1, World.size_alloc])))); clear hb1 hbel1 hsz1)
    | ((with_reducible refine wpList_alloc_blk w1 rfl 39 rfl (ofK .u8 zer) Try.zeroBl ?_); intro w2 hb2 hbel2 hsz2; have HB2 := Lib.hid (And.intro hb2 (And.intro (HB1.out.1.below hbel2 HB1.out.1.lt) (And.intro (HB1.out.2.2.1.below hbel2 HB1.out.2.2.1.lt) (And.intro (below_thn HB1.out.2.1 hbel2 (Nat.le_refl _)) (And.intro hsz2 HB1.out.2.2.2))))); clear hb2 hbel2 hsz2; have a0 := HB2.out.2.2.1.cell 0; have a1 := HB2.out.2.2.1.cell (0 + 1); have a2 := HB2.out.2.2.1.cell (0 + 2); have a3 := HB2.out.2.2.1.cell (0 + 3); have a4 := HB2.out.2.2.1.cell (0 + 4); simp only [List.getElem?_cons_zero, List.getElem?_cons_succ, Nat.zero_add] at a0 a1 a2 a3 a4))
  refine (kind_go _ _ _ _ 6 _ _ H.out.2.2.2.2).mono ?_
  rintro e w3 ⟨rfl, hbel3⟩
  have hz : w.heap.size + 2 ≤ w1.heap.size ∧ w1.heap.size < w3.heap.size := by have := HB2.out.2.2.2.2; have := hbel3.size; omega
  have H3 := Lib.hid (show Blk w3 w1.heap.size 39 (ofK .u8 zer) ∧ Blk w3 (w.heap.size + 1) 39 (ofK .u8 zer) ∧ Blk w3 w.heap.size 49 [.int .i64 a.kind, .int .i64 a.at_, .int .i64 a.n, .int .u8 a.fill, .slice ao len cp] ∧ Below w.heap.size w w3 ∧ DkAt w3 p S x from
    ⟨HB2.out.1.below hbel3 HB2.out.1.lt, HB2.out.2.1.below hbel3 HB2.out.2.1.lt, HB2.out.2.2.1.below hbel3 HB2.out.2.2.1.lt, below_thn HB2.out.2.2.2.1 hbel3 (Nat.le_refl _), H.out.1.keep (Ch.of_below (S := fun _ => False) (below_thn HB2.out.2.2.2.1 hbel3 (Nat.le_refl _)) (Nat.le_refl _)) (fun _ _ h => h)⟩)
  have HN := Lib.hid (show (w.heap.size ≤ w1.heap.size ∧ w1.heap.size < w3.heap.size ∧ ¬ S w1.heap.size) ∧ (w.heap.size ≤ w.heap.size + 1 ∧ w.heap.size + 1 < w3.heap.size ∧ ¬ S (w.heap.size + 1)) from ⟨⟨by omega, by omega, HnS.out _ (by omega)⟩, ⟨by omega, by omega, HnS.out _ (by omega)⟩⟩)
  clear hbel3 HB1 HB2 a0 a1 a2 a3 a4 HA
  have a1 := H3.out.2.2.1.cell (0 + 1)
  have a2 := H3.out.2.2.1.cell (0 + 2)
  have a3 := H3.out.2.2.1.cell (0 + 3)
  have a4 := H3.out.2.2.1.cell (0 + 4)
  simp only [List.getElem?_cons_succ, List.getElem?_cons_zero, Nat.zero_add] at a1 a2 a3 a4
  go_wp2_with fail
  refine (copy_any p S x n _ H3.out.2.2.2.2 H.out.2.1 H.out.2.2.1).mono ?_
  rintro e w4 ⟨q, rfl, hdq, hb4⟩
  have hc4 : Ch S w3 w4 := Ch.of_below hb4 (Nat.le_refl _)
  have hd4 : DkAt w4 p (Gr S w3 w4) x := (H3.out.2.2.2.2.keep (Ch.of_below (S := fun _ => False) hb4 (Nat.le_refl _)) (fun _ _ h => h)).gr
  have HQ := Lib.hid hdq
  clear hdq hb4
  have H4 := Lib.hid (And.intro hd4 hc4)
  have hB4 := H3.out.1.keep hc4 HN.out.1.2.2
  have hR4 := H3.out.2.1.keep hc4 HN.out.2.2.2
  have HBB := Lib.hid (And.intro hB4 hR4)
  clear hd4 hc4 hB4 hR4
  go_wp2_with fail
  have hrB := rangeW_blk HBB.out.1
  refine wp_region_takes (fun w' => w'.rangeAt w1.heap.size 0 (ofK .u8 zer)) [0, 1, 2, 3] 2 (by kernel_rfl) rfl (by kernel_rfl) (by kernel_rfl) hrB ?_
  (refine' HeldL.run ?_ ?_ ?_ ?_; rotate_left 2; (simp only [List.getElem?_toArray, List.getElem?_cons_zero]; rfl); rfl; (rintro w' k0; go_simp; with_reducible rfl); simp only [Act.put, List.setIfInBounds_toArray, List.set_cons_zero, List.set_cons_succ])
  refine' HeldL.run ?_ ?_ ?_ ?_
  rotate_left 2
  (simp only [List.getElem?_toArray, List.getElem?_cons_zero, List.getElem?_cons_succ]; rfl)
  rfl
  · intro w' k0
    exact exec_load_mid rfl rfl k0 Try.underlying39 rfl HZ.out
  simp only [Act.put, List.setIfInBounds_toArray, List.set_cons_zero, List.set_cons_succ]
  iterate 2 (refine' HeldL.run ?_ ?_ ?_ ?_; rotate_left 2; (simp only [List.getElem?_toArray, List.getElem?_cons_zero, List.getElem?_cons_succ]; rfl); rfl; (rintro w' k0; go_simp; with_reducible rfl); simp only [Act.put, List.setIfInBounds_toArray, List.set_cons_zero, List.set_cons_succ])
  refine' wpAnyH_one 4 (by kernel_rfl) ?_ ?_; rotate_left; (simp only [List.getElem?_toArray, List.getElem?_cons_zero, List.getElem?_cons_succ]; rfl)
  refine wpList_store_blk _ rfl 39 _ _ rfl (w.heap.size + 1) 39 (ofK .u8 zer) (ofK .u8 zer) (((Sm.refl w4).drew).blk HBB.out.2) rfl rfl rfl HZ.out (one_ofK _ _) ?_
  intro w6 hb6 hc6 hs6
  have hc6' : Ch (· = w.heap.size + 1) w4 w6 := ((Sm.refl w4).drew.ch _).trans hc6
  have H6 := Lib.hid (And.intro hb6 hc6')
  have hr6 := rangeW_ch hrB hc6' (fun (e : w1.heap.size = w.heap.size + 1) => by omega)
  refine QK.normal ⟨hr6, ?_⟩
  refine' wpAnyH_one 5 (by kernel_rfl) ?_ ?_; rotate_left; (simp only [List.getElem?_toArray, List.getElem?_cons_zero, List.getElem?_cons_succ]; rfl)
  simp only [Act.put]
  go_wp2_with fail
  refine QK.normal ⟨hr6, ?_⟩
  refine wpAnyH_done (by kernel_rfl) ?_ _
  refine NoPanic.normal ?_
  clear hb6 hc6 hs6 hc6' hr6 hrB
  go_wp2_with fail
  refine bodyPost_ret (results_tct Try.results33 _ _ (w.heap.size + 1) _ _ rfl H6.out.1 _ Try.underlying39 rfl HZ.out _ _ rfl rfl) rfl ⟨q, rfl, ?_⟩
  have E := actR_end (w := w) (w3 := w3) (w4 := w4) (S := S) H3.out.2.2.2.1 H4.out.1 H4.out.2 (Ch.refl (· = w1.heap.size) w4) H6.out.2 HN.out.1 HN.out.2
  have hn := HN.out
  have hs := H3.out.2.2.2.1.size
  refine ⟨(HQ.out.keep H6.out.2 (fun k hk (e : k = w.heap.size + 1) => by have := hk.1; omega)).mono (fun k hk => .inr ⟨by have := hk.1; omega, by have := hk.2; have := H6.out.2.size; omega⟩) E.1.bd, E.2, fun h => absurd rfl h, fun _ => ?_⟩
  have := HQ.out.sp.1
  omega

end Go.Proofs.Yticcjaccpcnjhaa

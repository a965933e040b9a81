/-
  act whole; slices.Equal over numbers; few, asks, there, blank; walked. Conditions: numbers of their kinds.
-/
import Derived.Test.YticcjaccpcnjhaaDkN
namespace Go.Proofs.Yticcjaccpcnjhaa
open Go Go.RowKit

theorem act_any (p : Nat) (S : Nat → Prop) (x : Dk) (a : ActD) (ao : Option Addr) (len cp : Nat) (n : Nat) (w : World) (h : DkAt w p S x) (hx : x.Ok n) (hn : n ≤ 1073741824) (ha : ActOk w a (.slice ao len cp)) :
    Calls Try.prog 33 #[.pointer (some ⟨p, 0, none⟩), actV a (.slice ao len cp)] w (ActR w p S (actF x a) (actB x a) (actE x a) (kindF a.kind)) := by
  have hb := kindF_bd a.kind
  rcases (show kindF a.kind = 0 ∨ kindF a.kind = 1 ∨ kindF a.kind = 2 ∨ kindF a.kind = 3 ∨ kindF a.kind = 4 ∨ kindF a.kind = 5 ∨ kindF a.kind = 6 from by omega) with hk | hk | hk | hk | hk | hk | hk
  · have e1 : actF x a = readD x a.at_ := by simp [actF, hk]
    have e2 : actB x a = readB x a.at_ := by simp [actB, hk]
    have e3 : actE x a = askE x a.at_ false := by simp [actE, hk]
    rw [e1, e2, e3, hk]; exact act_0 p S x a ao len cp n w h hx hn ha hk
  · have e1 : actF x a = writeD x a.at_ (fil a.fill) := by simp [actF, hk]
    have e2 : actB x a = zer := by simp [actB, hk]
    have e3 : actE x a = askE x a.at_ true := by simp [actE, hk]
    rw [e1, e2, e3, hk]; exact act_1 p S x a ao len cp n w h hx hn ha hk
  · have e1 : actF x a = syncD x := by simp [actF, hk]
    have e2 : actB x a = zer := by simp [actB, hk]
    have e3 : actE x a = askE x 0 true := by simp [actE, hk]
    rw [e1, e2, e3, hk]; exact act_2 p S x a ao len cp n w h hx hn ha hk
  · have e1 : actF x a = armF x a.n := by simp [actF, hk]
    have e2 : actB x a = zer := by simp [actB, hk]
    have e3 : actE x a = powE x := by simp [actE, hk]
    rw [e1, e2, e3, hk]; exact act_3 p S x a ao len cp n w h hx hn ha hk
  · have e1 : actF x a = failF x a.n := by simp [actF, hk]
    have e2 : actB x a = zer := by simp [actB, hk]
    have e3 : actE x a = powE x := by simp [actE, hk]
    rw [e1, e2, e3, hk]; exact act_4 p S x a ao len cp n w h hx hn ha hk
  · have e1 : actF x a = crashD a.keep x := by simp [actF, hk]
    have e2 : actB x a = zer := by simp [actB, hk]
    have e3 : actE x a = 0 := by simp [actE, hk]
    rw [e1, e2, e3, hk]; exact act_5 p S x a ao len cp n w h hx hn ha hk
  · have e1 : actF x a = x := by simp [actF, hk]
    have e2 : actB x a = zer := by simp [actB, hk]
    have e3 : actE x a = 0 := by simp [actE, hk]
    rw [e1, e2, e3, hk]; exact act_6 p S x a ao len cp n w h hx hn ha hk

theorem isB_act {x : Dk} {n : Nat} (hx : x.Ok n) (a : ActD) : IsB (actB x a) := by unfold actB; split; exact isB_read hx _; exact isB_zer

theorem finD_ok {x x3 : Dk} {n : Nat} {i : Int} {l : Bool} (hx : x.Ok n) (h3 : x3.Ok (n + 1)) (ho : x3.ops ≤ n) : (finD x i l x3).Ok (n + 1) := by
  unfold finD
  split
  · exact { h3 with ops1 := by have := h3.ops1; show 0 ≤ x3.ops + 1; omega, ops2 := by show x3.ops + 1 ≤ _; omega }
  · exact (askD_ok hx i l).mono (by omega)

theorem readD_ok {x : Dk} {n : Nat} (hx : x.Ok n) (i : Int) : (readD x i).Ok (n + 1) := finD_ok hx ((askD_ok hx i false).mono (by omega)) (askD_ok hx i false).ops2
theorem writeD_ok {x : Dk} {n : Nat} (hx : x.Ok n) (i : Int) {b : List Int} (hb : IsB b) : (writeD x i b).Ok (n + 1) := by
  have h := askD_ok hx i true
  refine finD_ok hx { h with ops2 := by have := h.ops2; show (askD x i true).ops ≤ _; omega, len := ?_, looseB := ?_ } h.ops2
  · show (x.loose ++ [(i, b)]).length ≤ _
    rw [List.length_append]; have := hx.len; simp; omega
  · intro e he
    rcases List.mem_append.1 he with he | he
    · exact hx.looseB e he
    · obtain rfl : e = (i, b) := by simpa using he
      exact hb
theorem syncD_ok {x : Dk} {n : Nat} (hx : x.Ok n) : (syncD x).Ok (n + 1) := finD_ok hx ((settleD_ok (askD_ok hx 0 true) _).mono (by omega)) (settleD_ok (askD_ok hx 0 true) (fun _ => true)).ops2
theorem armF_ok {x : Dk} {n : Nat} (hx : x.Ok n) {k : Int} (hk : k ≤ 9223372036854775807) : (armF x k).Ok n := by
  unfold armF; split
  · exact hx
  · exact { hx with arms1 := by unfold upF; split <;> simp <;> omega, arms2 := by unfold upF; split <;> simp <;> omega }
theorem failF_ok {x : Dk} {n : Nat} (hx : x.Ok n) {k : Int} (hk : k ≤ 9223372036854775807) : (failF x k).Ok n := by
  unfold failF; split
  · exact hx
  · exact { hx with fails1 := by unfold upF; split <;> simp <;> omega, fails2 := by unfold upF; split <;> simp <;> omega }
theorem crashD_ok {x : Dk} {n : Nat} (hx : x.Ok n) (bs : List Bool) : (crashD bs x).Ok n :=
  { settleD_ok hx (fun k => bs.getD k false) with arms1 := by simp [crashD], arms2 := by simp [crashD], fails1 := by simp [crashD], fails2 := by simp [crashD] }

theorem actF_ok {x : Dk} {n : Nat} (hx : x.Ok n) {w : World} {a : ActD} {kv : Value} (ha : ActOk w a kv) : (actF x a).Ok (n + 1) := by
  unfold actF
  split
  · exact readD_ok hx _
  · split
    · exact writeD_ok hx _ (isB_fil ha.f1 ha.f2)
    · split
      · exact syncD_ok hx
      · split
        · exact (armF_ok hx ha.n2).mono (by omega)
        · split
          · exact (failF_ok hx ha.n2).mono (by omega)
          · split
            · exact (crashD_ok hx _).mono (by omega)
            · exact hx.mono (by omega)

theorem ActOk.below {w w' : World} {a : ActD} {kv : Value} (h : ActOk w a kv) (hb : Below w.heap.size w w') : ActOk w' a kv := { h with sl := h.sl.below hb (Nat.le_refl _) }

/-- the rows are alike up to k -/
theorem take_eq_succ {xs ys : List Int} {k : Nat} (h1 : k < xs.length) (h2 : k < ys.length) (h : xs.take k = ys.take k) : xs.take (k + 1) = ys.take (k + 1) ↔ xs[k] = ys[k] := by
  rw [List.take_succ_eq_append_getElem h1, List.take_succ_eq_append_getElem h2, h]
  exact ⟨fun e => by simpa using List.append_cancel_left e, fun e => by rw [e]⟩

set_option maxHeartbeats 1000000 in
theorem equalInts (v1 v2 : Value) (xs ys : List Int) (b : Bool) (w : World) (h1 : Sl w v1 (ofK .i64 xs)) (h2 : Sl w v2 (ofK .i64 ys)) (hb : decide (xs = ys) = b) :
    Calls Try.prog 36 #[v1, v2] w (fun e w' => e = .returned (.bool b) ∧ Sm w w') := by
  obtain ⟨ao, c, rfl, a2, a3, a4⟩ := h1.nums
  obtain ⟨bo, d, rfl, b2, b3, b4⟩ := h2.nums
  clear h1 h2
  by_cases hl : xs.length = ys.length
  · obtain ⟨L, hL⟩ : ∃ L, L = ys.length := ⟨_, rfl⟩
    have HL := Lib.hid (And.intro (hl.trans hL.symm) (And.intro hL hb))
    rw [hl, ← hL]
    rw [hl, ← hL] at a2
    rw [← hL] at b2
    clear hl hL hb
    go_enter Try.func36, Try.ntmps36
    go_wp2
    go_loopw [5, 13] (fun _ i wr => ∃ k : Nat, k ≤ L ∧ i = .int .i64 k ∧ Hid (xs.take k = ys.take k) ∧ Hid (Sm w wr)) (fun _ i _ => L - (intOf i).toNat)
    case atStart => exact ⟨0, Nat.zero_le _, rfl, Lib.hid (by simp), Lib.hid (Sm.refl _)⟩
    case round =>
      obtain ⟨k, hk, rfl, HT, HS⟩ := hrel
      by_cases hlt : k < L
      · obtain ⟨g, o, rfl, hbw, hcell⟩ := a4 (by rw [HL.out.1]; omega)
        obtain ⟨g', o', rfl, hbw', hcell'⟩ := b4 (by rw [← HL.out.2.1]; omega)
        have l1 : k < xs.length := by rw [HL.out.1]; exact hlt
        have l2 : k < ys.length := by rw [← HL.out.2.1]; exact hlt
        have c1 : wr.cell? ⟨g, o + k, none⟩ = some (.int .i64 xs[k]) := (HS.out.cell _).trans (hcell k l1)
        have c2 : wr.cell? ⟨g', o' + k, none⟩ = some (.int .i64 ys[k]) := (HS.out.cell _).trans (hcell' k l2)
        have hsx := take_eq_succ l1 l2 HT.out
        have i1 : (0 : Int) ≤ (k : Int) := by omega
        have i2 : (k : Int) < (L : Int) := by omega
        clear hcell hcell' a4 b4
        by_cases e : xs[k] = ys[k]
        · have HN := Lib.hid (hsx.2 e)
          have e' : (xs[k] == ys[k]) = true := by simpa using e
          have e'' : (xs[k] != ys[k]) = false := by simpa using e
          clear e hsx
          go_wp2
          go_quiet (fail)
          go_wp2
          go_roundw
          case rel => exact ⟨k + 1, by omega, by go_num, HN, Lib.hid (HS.out.drewN _)⟩
          case measure => simp [intOf]; omega
        · have hne : decide (xs = ys) = false := decide_eq_false (fun h => e (by subst h; rfl))
          have HB := Lib.hid (hne.symm.trans HL.out.2.2)
          have e' : (xs[k] == ys[k]) = false := by simpa using e
          have e'' : (xs[k] != ys[k]) = true := by simpa using e
          clear e hsx hne
          go_wp2
          go_quiet (fail)
          go_wp2
          go_ret
          exact ⟨by rw [← HB.out]; rfl, HS.out.drewN _⟩
      · obtain rfl : k = L := by omega
        have hne : decide (xs = ys) = true := decide_eq_true (by have := HT.out; rwa [List.take_of_length_le (by rw [HL.out.1]; exact Nat.le_refl _), List.take_of_length_le (by rw [← HL.out.2.1]; exact Nat.le_refl _)] at this)
        have HB := Lib.hid (hne.symm.trans HL.out.2.2)
        clear hne a4 b4
        go_wp2
        go_ret
        exact ⟨by rw [← HB.out]; rfl, HS.out⟩
  · have hne : decide (xs = ys) = false := decide_eq_false (fun h => hl (by rw [h]))
    obtain rfl : b = false := by rw [← hb]; exact hne
    have e1 : ((xs.length : Int) != (ys.length : Int)) = true := by simp; omega
    clear hb hne hl a4 b4
    go_enter Try.func36, Try.ntmps36
    go_wp2
    go_ret
    exact ⟨rfl, Sm.refl _⟩

theorem asks_go (k at_ n fill q : Int) (kv : Value) (b : Bool) (w : World) (hq : kindF k = q) (hb : decide (q < 3) = b) :
    Calls Try.prog 31 #[.agg #[.int .i64 k, .int .i64 at_, .int .i64 n, .int .u8 fill, kv]] w (fun e w' => e = .returned (.bool b) ∧ Below w.heap.size w w') := by
  have HQ := Lib.hid hq
  have HA := Lib.hid ((Below.refl w.heap.size w).alloc (Nat.le_refl _) (.cells #[.int .i64 k, .int .i64 at_, .int .i64 n, .int .u8 fill, kv] 49))
  clear hq
  go_enter Try.func31, Try.ntmps31
  go_wp2_with fail
  refine (kind_go _ _ _ _ q _ _ HQ.out).mono ?_
  rintro e w1 ⟨rfl, hb1⟩
  have HB := Lib.hid (below_thn HA.out hb1 (Nat.le_refl _))
  clear hb1
  go_wp2_with fail
  go_ret
  exact ⟨rfl, HB.out⟩

/-- does an act name a sector of five, or need none? -/
def thereB (a : ActD) : Bool := decide (kindF a.kind = 2) || (decide (0 ≤ a.at_) && decide (a.at_ < 5))

set_option maxHeartbeats 1000000 in
theorem there_go (k at_ n fill : Int) (kv : Value) (b : Bool) (w : World) (hb : (decide (kindF k = 2) || (decide (0 ≤ at_) && decide (at_ < 5))) = b) :
    Calls Try.prog 32 #[.agg #[.int .i64 k, .int .i64 at_, .int .i64 n, .int .u8 fill, kv]] w (fun e w' => e = .returned (.bool b) ∧ Below w.heap.size w w') := by
  have HA := Lib.hid (And.intro (Blk.new w [.int .i64 k, .int .i64 at_, .int .i64 n, .int .u8 fill, kv] 49) ((Below.refl w.heap.size w).alloc (Nat.le_refl _) (.cells #[.int .i64 k, .int .i64 at_, .int .i64 n, .int .u8 fill, kv] 49)))
  obtain ⟨q, hq⟩ : ∃ q, kindF k = q := ⟨_, rfl⟩
  rw [hq] at hb
  have HQ := Lib.hid hq
  clear hq
  by_cases h2 : q = 2
  · obtain rfl : b = true := by rw [← hb]; simp [h2]
    have e2 : (q == 2) = true := by simpa using h2
    clear hb h2
    go_enter Try.func32, Try.ntmps32
    go_wp2_with fail
    refine (kind_go _ _ _ _ q _ _ HQ.out).mono ?_
    rintro e w1 ⟨rfl, hb1⟩
    have HB := Lib.hid (below_thn HA.out.2 hb1 (Nat.le_refl _))
    clear hb1
    go_wp2_with fail
    go_ret
    exact ⟨rfl, HB.out⟩
  · have e2 : (q == 2) = false := by simpa using h2
    by_cases h0 : 0 ≤ at_
    · have e0 : decide (at_ ≥ 0) = true := by simpa using h0
      by_cases h5 : at_ < 5
      · obtain rfl : b = true := by rw [← hb]; simp [h0, h5]
        clear hb h2
        go_enter Try.func32, Try.ntmps32
        go_wp2_with fail
        refine (kind_go _ _ _ _ q _ _ HQ.out).mono ?_
        rintro e w1 ⟨rfl, hb1⟩
        have a1 := (HA.out.1.below hb1 HA.out.1.lt).cell (0 + 1)
        simp only [List.getElem?_cons_succ, List.getElem?_cons_zero] at a1
        have HB := Lib.hid (below_thn HA.out.2 hb1 (Nat.le_refl _))
        clear hb1
        go_wp2_with fail
        go_ret
        exact ⟨rfl, HB.out⟩
      · have e5 : decide (at_ < 5) = false := by simpa using h5
        obtain rfl : b = false := by rw [← hb]; simp [h2, e5]
        clear hb h2
        go_enter Try.func32, Try.ntmps32
        go_wp2_with fail
        refine (kind_go _ _ _ _ q _ _ HQ.out).mono ?_
        rintro e w1 ⟨rfl, hb1⟩
        have a1 := (HA.out.1.below hb1 HA.out.1.lt).cell (0 + 1)
        simp only [List.getElem?_cons_succ, List.getElem?_cons_zero] at a1
        have HB := Lib.hid (below_thn HA.out.2 hb1 (Nat.le_refl _))
        clear hb1
        go_wp2_with fail
        go_ret
        exact ⟨rfl, HB.out⟩
    · have e0 : decide (0 ≤ at_) = false := by simpa using h0
      have e0' : at_ < 0 := by omega
      obtain rfl : b = false := by rw [← hb]; simp [h2, e0]
      clear hb h2
      go_enter Try.func32, Try.ntmps32
      go_wp2_with fail
      refine (kind_go _ _ _ _ q _ _ HQ.out).mono ?_
      rintro e w1 ⟨rfl, hb1⟩
      have a1 := (HA.out.1.below hb1 HA.out.1.lt).cell (0 + 1)
      simp only [List.getElem?_cons_succ, List.getElem?_cons_zero] at a1
      have HB := Lib.hid (below_thn HA.out.2 hb1 (Nat.le_refl _))
      clear hb1
      go_wp2_with fail
      go_ret
      exact ⟨rfl, HB.out⟩

/-- a disk of five sectors -/
def BlankP (w : World) (e : Ending) (w' : World) : Prop := ∃ p, e = .returned (.pointer (some ⟨p, 0, none⟩)) ∧ DkAt w' p (fun k => w.heap.size ≤ k ∧ k < w'.heap.size) (newD 5) ∧ Below w.heap.size w w'

theorem blank_any (w : World) : Calls Try.prog 30 #[] w (BlankP w) := by
  go_enter Try.func30, Try.ntmps30
  go_wp2_with fail
  refine (new_ok 5 w (by omega) (by omega)).mono ?_
  rintro e w1 ⟨p, rfl, hd, hb⟩
  have H := Lib.hid (And.intro hd hb)
  clear hd hb
  go_wp2_with fail
  go_ret
  exact ⟨p, rfl, H.out⟩

theorem few_any (ao : Option Addr) (len cp : Nat) (w : World) (h : len ≤ cp) (hc : cp ≤ 9223372036854775807) :
    Calls Try.prog 20 #[.slice ao len cp] w (fun e w' => e = .returned (.slice ao (min len 60) cp) ∧ w = w') := by
  by_cases h6 : len ≤ 60
  · have e : min len 60 = len := by omega
    rw [e]
    clear e
    go_enter Try.func20, Try.ntmps20
    go_wp2
    go_ret
    exact ⟨rfl, rfl⟩
  · have e : min len 60 = 60 := by omega
    rw [e]
    clear e
    go_enter Try.func20, Try.ntmps20
    go_wp2
    go_ret
    exact ⟨rfl, rfl⟩

end Go.Proofs.Yticcjaccpcnjhaa

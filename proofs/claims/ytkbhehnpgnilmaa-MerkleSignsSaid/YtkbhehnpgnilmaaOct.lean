/-
  The functions of package octet, walked: a Reader's state, and what each method takes off it. Conditions: the bytes read fit their kind.
-/
import Derived.Test.YtkbhehnpgnilmaaLib
import Derived.Test.YtkbhehnpgnilmaaProg
namespace Go.Proofs.Ytkbhehnpgnilmaa
open Go Go.RowKit

theorem Try.info5 : (Try.prog.info? 5).map (fun i => (i.zero, i.size, i.bytes)) = some (some (.int .u8 0), 1, 1) := by kernel_rfl

/-- block b is a Reader whose rest, in block r, reads as bs, with the error why -/
def Rd (w : World) (b r : Nat) (bs : List Int) (why : Int) : Prop :=
  ∃ v, w.heap[b]? = some (.cells #[v, .int .i64 why] 155 (0, 0)) ∧ Sl w v (ofK .u8 bs) ∧ ∀ k, v.ownBlock = some k → k = r ∧ r ≠ b

def ReadP (w : World) (bs : List Int) (e : Ending) (w' : World) : Prop :=
  ∃ b r, e = .returned (.pointer (some ⟨b, 0, none⟩)) ∧ w.heap.size ≤ b ∧ b < w'.heap.size ∧ w.heap.size ≤ r ∧ r < w'.heap.size ∧ Rd w' b r bs 0 ∧ Below w.heap.size w w'

set_option maxHeartbeats 400000 in
theorem read_any (v : Value) (bs : List Int) (w : World) (hs : Sl w v (ofK .u8 bs)) (hl : bs.length ≤ 140737488351232) :
    Calls Try.prog 95 #[v] w (ReadP w bs) := by
  obtain ⟨i0, hi, hz0, hz1, hz2⟩ := info_parts Try.info5
  go_enter Try.func95, Try.ntmps95
  go_wp2_with (at_builtin; refine wpList_append_sl _ rfl _ _ 33 rfl w.heap.size 5 i0 (.int .u8 0) 1 Try.underlying33 hi hz0 hz1 hz2 rfl _ 0 [] rfl (World.ownsRow_nil _ _ _ _) _ _ rfl hs (one_ofK _ _) bs.length (by simp [ofK]) ?_ ?_ (Nat.le_refl _) ?_)
  · unfold maxLen; omega
  · omega
  · intro ao c w1 hown hgr hblk
    go_wp2
    go_ret
    have hb : Below w.heap.size w w1 := (Below.refl _ _).grown hgr (Nat.le_refl _) (fun k h => by cases h)
    have hsz := hb.size
    refine ⟨_, w.heap.size, rfl, hsz, by simp, Nat.le_refl _, by simp; omega, ⟨_, heap_alloc_new _ _, ?_, ?_⟩, hb.alloc hsz _⟩
    · exact (Sl.of_owns hown).below ((Below.refl _ _).alloc (Nat.le_refl _) _) (Nat.le_refl _)
    · intro k hk
      have h1 := (hown.lt k hk).2
      rcases hblk with h2 | h2
      · rw [h2] at hk; cases hk
      · rw [h2] at hk; cases hk; exact ⟨rfl, by omega⟩
/-- one step of a number's reading -/
def numStep (a c : Int) : Int := IntKind.u64.wrap (IntKind.u64.wrap (256 * a) + c)

def numF (bs : List Int) : Int := bs.foldl numStep 0

theorem numF_snoc (bs : List Int) (k : Nat) (h : k < bs.length) : numF (bs.take (k + 1)) = numStep (numF (bs.take k)) bs[k] := by
  rw [List.take_succ_eq_append_getElem h, numF, List.foldl_append]; rfl

def OneU64 (w : World) (b : Nat) (x : Int) : Prop := w.heap[b]? = some (.cells #[.int .u64 x] 49 (0, 0))

def WeighP (w : World) (bx : Nat) (bs : List Int) (e : Ending) (w' : World) : Prop :=
  e = .returned (.tuple #[]) ∧ OneU64 w' bx (numF bs) ∧ Ch (· = bx) w w'

set_option maxHeartbeats 400000 in
theorem weighClo_any (v : Value) (bs : List Int) (bx : Nat) (w : World) (hs : Sl w v (ofK .u8 bs)) (hx : OneU64 w bx 0) (hv : ∀ k, v.ownBlock = some k → k ≠ bx) (hb : ∀ c ∈ bs, 0 ≤ c ∧ c ≤ 255) :
    Calls Try.prog 120 #[v, .pointer (some ⟨bx, 0, none⟩)] w (WeighP w bx bs) := by
  obtain ⟨ao, c, rfl, h2, h3, h4⟩ := hs.shape
  rw [length_ofK] at h2 h4 hv ⊢
  unfold maxLen at h3
  go_enter Try.func120, Try.ntmps120
  go_wp2
  go_loopw [7] (fun i wr => ∃ k : Nat, k ≤ bs.length ∧ i = .int .i64 k ∧ OneU64 wr bx (numF (bs.take k)) ∧ Ch (· = bx) w wr) (fun i _ => bs.length - (intOf i).toNat)
  case atStart => exact ⟨0, Nat.zero_le _, rfl, hx, Ch.refl _ _⟩
  case round =>
    obtain ⟨k, hk, rfl, hox, hch⟩ := hrel
    have hcx := cell_of_one hox
    have hfx := free_of_one hox
    by_cases hlt : k < bs.length
    · obtain ⟨b, o, rfl, hbw, hcell⟩ := h4 (by omega)
      have hbx : b ≠ bx := hv b rfl
      have hc1 : wr.cell? ⟨b, o + k, none⟩ = some (.int .u8 bs[k]) := (hch.cell hbw hbx).trans (hcell k _ (get_ofK _ _ _ hlt))
      have hbk := hb bs[k] (List.getElem_mem hlt)
      have hs2 := numF_snoc bs k hlt
      have HS := Lib.hid hs2; clear hs2
      go_wp2
      go_roundw
      case rel => exact ⟨k + 1, by omega, by go_num, by unfold OneU64; rw [HS.out]; exact one_setCell hox, hch.setCell (.inl rfl) _⟩
      case measure => simp [intOf]; omega
    · obtain rfl : k = bs.length := by omega
      go_wp2
      go_end0
      exact ⟨rfl, by simpa using hox, hch⟩
/-- what is taken off a rest: the rest behind it, its error, what was taken -/
def takeF (bs : List Int) (why n : Int) : List Int × Int × List Int :=
  if why ≠ 0 then (bs, why, []) else if n < 0 then (bs, 2, []) else if (bs.length : Int) < n then (bs, 7, []) else (bs.drop n.toNat, 0, bs.take n.toNat)

def TakeNumP (w : World) (b r : Nat) (bs : List Int) (why n : Int) (e : Ending) (w' : World) : Prop :=
  e = .returned (.int .u64 (numF (takeF bs why n).2.2)) ∧ Rd w' b r (takeF bs why n).1 (takeF bs why n).2.1 ∧ Ch (· = b) w w'

theorem Rd.lt {w : World} {b r : Nat} {bs : List Int} {why : Int} (h : Rd w b r bs why) : b < w.heap.size := by
  obtain ⟨v, h1, _⟩ := h; exact lt_of_block h1
/-- the Reader stays where its two blocks stay -/
theorem Rd.keep {S : Nat → Prop} {w w' : World} {b r : Nat} {bs : List Int} {why : Int} (h : Rd w b r bs why) (hc : Ch S w w') (hb : ¬ S b) (hr : ¬ S r) : Rd w' b r bs why := by
  obtain ⟨v, h1, h2, h3⟩ := h
  refine ⟨v, by rw [hc.block b (lt_of_block h1) hb]; exact h1, ?_, h3⟩
  rcases h2 with h2 | ⟨ad, c, k1, k2, k3, k4⟩
  · exact .inl h2
  · refine .inr ⟨ad, c, k1, k2, k3, fun i u hu => ?_⟩
    have hcc := k4 i u hu
    have hlt := block_of_cell hcc
    rw [add_block] at hlt
    have := (h3 ad.block (by rw [k1]; rfl)).1
    rw [hc.cell (by rw [add_block]; exact hlt) (by rw [add_block, this]; exact hr)]; exact hcc

def OffP (w : World) (b r : Nat) (bs : List Int) (why : Int) (e : Ending) (w' : World) : Prop :=
  e = .returned (.tuple #[]) ∧ Rd w' b r bs why ∧ Ch (· = b) w w'

theorem Rd.set {w : World} {b r : Nat} {bs : List Int} {why why' : Int} (h : Rd w b r bs why) : Rd (w.setCell ⟨b, 1, none⟩ (.int .i64 why')) b r bs why' := by
  obtain ⟨v, h1, h2, h3⟩ := h
  exact ⟨v, two_set1 h1, h2.keep ((Ch.refl (· = b) _).setCell (.inl rfl) _) (fun k hk => by have := h3 k hk; omega), h3⟩

theorem Rd.cells {w : World} {b r : Nat} {bs : List Int} {why : Int} (h : Rd w b r bs why) :
    ∃ ao c, w.cell? ⟨b, 0, none⟩ = some (.slice ao bs.length c) ∧ w.cell? ⟨b, 0 + 1, none⟩ = some (.int .i64 why) ∧ w.frozen? ⟨b, 0, none⟩ = false ∧ w.frozen? ⟨b, 0 + 1, none⟩ = false ∧ bs.length ≤ c ∧ c ≤ maxLen ∧
      w.heap[b]? = some (.cells #[.slice ao bs.length c, .int .i64 why] 155 (0, 0)) ∧ Sl w (.slice ao bs.length c) (ofK .u8 bs) ∧ ∀ k, (Value.slice ao bs.length c).ownBlock = some k → k = r ∧ r ≠ b := by
  obtain ⟨v, h1, h2, h3⟩ := h
  obtain ⟨ao, c, rfl, k2, k3, k4⟩ := h2.shape
  rw [length_ofK] at *
  exact ⟨ao, c, by simp [World.cell?, h1], by simp [World.cell?, h1], by simp [World.frozen?, h1], by simp [World.frozen?, h1], k2, k3, h1, h2, h3⟩

set_option maxHeartbeats 400000 in
theorem off_had (b r : Nat) (bs : List Int) (why n : Int) (w : World) (f : Value) (hr : Rd w b r bs why) (hw : why ≠ 0) :
    Calls Try.prog 119 #[.pointer (some ⟨b, 0, none⟩), .int .i64 n, f] w (OffP w b r bs why) := by
  obtain ⟨ao, c, c0, c1, f0, f1, -⟩ := hr.cells
  have hw' : (why != 0) = true := by simpa using hw
  go_enter Try.func119, Try.ntmps119
  go_wp2
  go_end0
  exact ⟨rfl, hr, Ch.refl _ _⟩

set_option maxHeartbeats 400000 in
theorem off_neg (b r : Nat) (bs : List Int) (n : Int) (w : World) (f : Value) (hr : Rd w b r bs 0) (hn : n < 0) :
    Calls Try.prog 119 #[.pointer (some ⟨b, 0, none⟩), .int .i64 n, f] w (OffP w b r bs 2) := by
  obtain ⟨ao, c, c0, c1, f0, f1, -⟩ := hr.cells
  go_enter Try.func119, Try.ntmps119
  go_wp2
  go_end0
  exact ⟨rfl, hr.set, (Ch.refl (· = b) _).setCell (.inl rfl) _⟩

set_option maxHeartbeats 400000 in
theorem off_short (b r : Nat) (bs : List Int) (n : Int) (w : World) (f : Value) (hr : Rd w b r bs 0) (hn : 0 ≤ n) (hl : (bs.length : Int) < n) :
    Calls Try.prog 119 #[.pointer (some ⟨b, 0, none⟩), .int .i64 n, f] w (OffP w b r bs 7) := by
  obtain ⟨ao, c, c0, c1, f0, f1, -⟩ := hr.cells
  go_enter Try.func119, Try.ntmps119
  go_wp2
  go_end0
  exact ⟨rfl, hr.set, (Ch.refl (· = b) _).setCell (.inl rfl) _⟩

/-- what the closure is told when it is called -/
def OffTold (w w1 : World) (b r : Nat) (bs : List Int) (n : Nat) (v1 : Value) : Prop :=
  Ch (· = b) w w1 ∧ Sl w1 v1 (ofK .u8 (bs.take n)) ∧ Rd w1 b r (bs.drop n) 0 ∧ ∀ k, v1.ownBlock = some k → k = r ∧ r ≠ b

def RetUnit (R : World → Prop) (e : Ending) (w' : World) : Prop := e = .returned (.tuple #[]) ∧ R w'

set_option maxHeartbeats 400000 in
theorem off_take (b r : Nat) (bs : List Int) (n : Nat) (w : World) (fc : Nat) (cap : Value) (R : World → Prop) (hr : Rd w b r bs 0) (hl : n ≤ bs.length)
    (hcf : ∀ args w1, Sem.run Try.prog (callFunc fc args) w1 = .ok (.enter fc args) w1) (hclo : ∀ w1 v1, OffTold w w1 b r bs n v1 → Calls Try.prog fc #[v1, cap] w1 (RetUnit R)) :
    Calls Try.prog 119 #[.pointer (some ⟨b, 0, none⟩), .int .i64 n, .func (Fn.func fc) #[] #[cap]] w (RetUnit R) := by
  obtain ⟨ao, c, c0, c1, f0, f1, hlc, hcm, hb, hsl, hown⟩ := hr.cells
  unfold maxLen at hcm
  have hn : n ≤ (ofK .u8 bs).length := by rw [length_ofK]; exact hl
  have key : ∀ vd, Sl w vd (ofK .u8 (bs.drop n)) → (∀ k, vd.ownBlock = some k → k = r ∧ r ≠ b) → OffTold w (w.setCell ⟨b, 0, none⟩ vd) b r bs n (.slice ao n c) := by
    intro vd h1 h2
    have hch := (Ch.refl (· = b) w).setCell (p := ⟨b, 0, none⟩) (.inl rfl) vd
    have hta : ∀ k, (Value.slice ao n c).ownBlock = some k → k = r ∧ r ≠ b := fun k hk => hown k ((ownBlock_len _ _ _ _ _).trans hk)
    refine ⟨hch, ?_, ⟨vd, two_set0 hb, h1.keep hch (fun k hk => by have := h2 k hk; omega), h2⟩, hta⟩
    have := hsl.take n hn
    rw [take_ofK] at this
    exact this.keep hch (fun k hk => by have := hta k hk; omega)
  have key1 := hsl.drop n hn
  have key2 := hsl.drop_all n hn
  rw [drop_ofK, length_ofK] at key1
  rw [drop_ofK] at key2
  have k1 := key _ key1 (fun k hk => hown k ((ownBlock_drop _ _ _ _ _ _).symm.trans hk))
  have k2 : c = n → _ := fun e => key _ (key2 e) (fun k hk => hown k ((ownBlock_len _ _ _ _ _).trans hk))
  have K1 := Lib.hid k1
  have HC := Lib.hid hclo
  clear hclo k1 key key1 key2 hn hown hb hsl hr
  go_enter Try.func119, Try.ntmps119
  by_cases hcn : c = n
  · have K2 := Lib.hid (k2 hcn)
    clear k2
    subst hcn
    go_wp2_with (refine (HC.out _ _ K2.out).mono ?_; rintro e w' ⟨rfl, hR⟩)
    go_end0
    exact ⟨rfl, hR⟩
  · clear k2
    go_wp2_with (refine (HC.out _ _ K1.out).mono ?_; rintro e w' ⟨rfl, hR⟩)
    go_end0
    exact ⟨rfl, hR⟩

theorem Rd.alloc {w : World} {b r : Nat} {bs : List Int} {why : Int} (h : Rd w b r bs why) (o : Obj) : Rd (w.alloc o) b r bs why :=
  h.keep (S := fun _ => False) ((Ch.refl _ _).alloc o) (fun h => h) (fun h => h)

theorem takeF_had {bs : List Int} {why n : Int} (h : why ≠ 0) : takeF bs why n = (bs, why, []) := by unfold takeF; rw [if_pos h]

theorem takeF_neg {bs : List Int} {n : Int} (h : n < 0) : takeF bs 0 n = (bs, 2, []) := by unfold takeF; rw [if_neg (by simp), if_pos h]

theorem takeF_short {bs : List Int} {n : Int} (h0 : 0 ≤ n) (h : (bs.length : Int) < n) : takeF bs 0 n = (bs, 7, []) := by unfold takeF; rw [if_neg (by simp), if_neg (by omega), if_pos h]

theorem takeF_ok {bs : List Int} {n : Nat} (h : n ≤ bs.length) : takeF bs 0 n = (bs.drop n, 0, bs.take n) := by unfold takeF; rw [if_neg (by simp), if_neg (by omega), if_neg (by omega)]; simp

theorem OneU64.keep {S : Nat → Prop} {w w' : World} {b : Nat} {x : Int} (h : OneU64 w b x) (hc : Ch S w w') (hb : ¬ S b) : OneU64 w' b x := by
  unfold OneU64 at *; rw [hc.block b (lt_of_block h) hb]; exact h

def WeighOffP (w : World) (b r bx : Nat) (bs : List Int) (why n : Int) (e : Ending) (w' : World) : Prop :=
  e = .returned (.tuple #[]) ∧ OneU64 w' bx (numF (takeF bs why n).2.2) ∧ Rd w' b r (takeF bs why n).1 (takeF bs why n).2.1 ∧ Ch (fun k => k = b ∨ k = bx) w w'

theorem run_callFunc120 (args : Array Value) (w : World) : Sem.run Try.prog (callFunc 120 args) w = .ok (.enter 120 args) w :=
  run_callFunc_body Try.func120 (by kernel_rfl) (by kernel_rfl) args w

theorem weighOff_any (b r bx : Nat) (bs : List Int) (why n : Int) (w : World) (hr : Rd w b r bs why) (hx : OneU64 w bx 0) (h1 : bx ≠ b) (h2 : bx ≠ r) (hb : ∀ c ∈ bs, 0 ≤ c ∧ c ≤ 255) :
    Calls Try.prog 119 #[.pointer (some ⟨b, 0, none⟩), .int .i64 n, .func (Fn.func 120) #[] #[.pointer (some ⟨bx, 0, none⟩)]] w (WeighOffP w b r bx bs why n) := by
  have fin : ∀ why' e w', OffP w b r bs why' e w' → takeF bs why n = (bs, why', []) → WeighOffP w b r bx bs why n e w' := by
    intro why' e w' ⟨a1, a2, a3⟩ h
    unfold WeighOffP
    rw [h]
    exact ⟨a1, hx.keep a3 (fun h => h1 h), a2, a3.mono (fun i hi => .inl hi)⟩
  by_cases hw : why = 0
  · subst hw
    by_cases hn : n < 0
    · exact (off_neg b r bs n w _ hr hn).mono fun e w' h => fin _ _ _ h (takeF_neg hn)
    · by_cases hl : (bs.length : Int) < n
      · exact (off_short b r bs n w _ hr (by omega) hl).mono fun e w' h => fin _ _ _ h (takeF_short (by omega) hl)
      · obtain ⟨m, rfl⟩ := Int.eq_ofNat_of_zero_le (show 0 ≤ n by omega)
        have hm : m ≤ bs.length := by omega
        refine (off_take b r bs m w _ (.pointer (some ⟨bx, 0, none⟩)) (fun w' => OneU64 w' bx (numF (bs.take m)) ∧ Rd w' b r (bs.drop m) 0 ∧ Ch (fun k => k = b ∨ k = bx) w w') hr hm run_callFunc120 ?_).mono ?_
        · intro w1 v1 ⟨a1, a2, a3, a4⟩
          refine (weighClo_any v1 (bs.take m) bx w1 a2 (hx.keep a1 (fun h => h1 h)) (fun k hk => by have := a4 k hk; omega) (fun c hc => hb c (List.mem_of_mem_take hc))).mono ?_
          intro e w' ⟨b1, b2, b3⟩
          exact ⟨b1, b2, a3.keep b3 (fun h => h1 h.symm) (fun h => h2 h.symm), (a1.mono (fun i hi => .inl hi)).trans (b3.mono (fun i hi => .inr hi))⟩
        · intro e w' ⟨b1, b2, b3, b4⟩
          unfold WeighOffP
          rw [takeF_ok hm]
          exact ⟨b1, b2, b3, b4⟩
  · exact (off_had b r bs why n w _ hr hw).mono fun e w' h => fin _ _ _ h (takeF_had hw)

set_option maxHeartbeats 400000 in
theorem weigh_nil (n : Int) (w : World) :
    Calls Try.prog 114 #[.pointer none, .int .i64 n] w (fun e w' => e = .returned (.int .u64 0) ∧ Below w.heap.size w w') := by
  go_enter Try.func114, Try.ntmps114
  go_wp2
  exact bodyPost_ret (v := .int .u64 0) (by simp [results, Try.results114, go_sem]) rfl ⟨rfl, ((Below.refl _ _).alloc (Nat.le_refl _) _)⟩

set_option maxHeartbeats 400000 in
theorem weigh_any (b r : Nat) (bs : List Int) (why n : Int) (w : World) (hr : Rd w b r bs why) (hrl : r < w.heap.size) (hb : ∀ c ∈ bs, 0 ≤ c ∧ c ≤ 255) :
    Calls Try.prog 114 #[.pointer (some ⟨b, 0, none⟩), .int .i64 n] w (TakeNumP w b r bs why n) := by
  have hr1 := hr.alloc (.cells #[.int .u64 0] 49)
  have hlt := hr.lt
  have hc := (weighOff_any b r w.heap.size bs why n _ hr1 (heap_alloc_new _ _) (by omega) (by omega) hb)
  have HC := Lib.hid hc
  clear hc hr1 hb
  go_enter Try.func114, Try.ntmps114
  go_wp2_with (go_at_call 119; refine HC.out.mono ?_; rintro e w' ⟨rfl, hx, hrd, hch⟩; have hcx := cell_of_one hx; have hfx := free_of_one hx)
  refine bodyPost_ret (v := .int .u64 (numF (takeF bs why n).2.2)) (by simp [results, Try.results114, go_sem, hcx]) rfl ⟨rfl, ?_⟩
  have h1 : Ch (fun k => k = b ∨ k = w.heap.size) (w.alloc (.cells #[.int .u64 0] 49)) (w'.setCell ⟨w.heap.size, 0, none⟩ (.int .u64 (numF (takeF bs why n).2.2))) := hch.setCell (.inl (.inr rfl)) _
  refine ⟨hrd.keep (Ch.set _ _ _) (Nat.ne_of_lt hlt) (Nat.ne_of_lt hrl), ?_⟩
  exact ((Ch.refl _ w).alloc _).trans' h1 (fun i hi h => by omega)

def U8P (w : World) (b r : Nat) (bs : List Int) (why : Int) (e : Ending) (w' : World) : Prop :=
  e = .returned (.int .u8 (IntKind.u8.wrap (numF (takeF bs why 1).2.2))) ∧ Rd w' b r (takeF bs why 1).1 (takeF bs why 1).2.1 ∧ Ch (· = b) w w'

def U16P (w : World) (b r : Nat) (bs : List Int) (why : Int) (e : Ending) (w' : World) : Prop :=
  e = .returned (.int .u16 (IntKind.u16.wrap (numF (takeF bs why 2).2.2))) ∧ Rd w' b r (takeF bs why 2).1 (takeF bs why 2).2.1 ∧ Ch (· = b) w w'

def U32P (w : World) (b r : Nat) (bs : List Int) (why : Int) (e : Ending) (w' : World) : Prop :=
  e = .returned (.int .u32 (IntKind.u32.wrap (numF (takeF bs why 4).2.2))) ∧ Rd w' b r (takeF bs why 4).1 (takeF bs why 4).2.1 ∧ Ch (· = b) w w'

theorem u32_any (b r : Nat) (bs : List Int) (why : Int) (w : World) (hr : Rd w b r bs why) (hrl : r < w.heap.size) (hb : ∀ c ∈ bs, 0 ≤ c ∧ c ≤ 255) :
    Calls Try.prog 96 #[.pointer (some ⟨b, 0, none⟩)] w (U32P w b r bs why) := by
  have HC := Lib.hid (weigh_any b r bs why 4 w hr hrl hb)
  clear hr hb
  go_enter Try.func96, Try.ntmps96
  go_wp2_with (go_at_call 114; refine HC.out.mono ?_; rintro e w' ⟨rfl, hx, hrd⟩)
  go_ret
  exact ⟨rfl, hx, hrd⟩

theorem u32_nil (w : World) :
    Calls Try.prog 96 #[.pointer none] w (fun e w' => e = .returned (.int .u32 0) ∧ Below w.heap.size w w') := by
  go_enter Try.func96, Try.ntmps96
  go_wp2_with (go_at_call 114; refine (weigh_nil _ w).mono ?_; rintro e w' ⟨rfl, hx⟩)
  go_ret
  exact ⟨rfl, hx⟩

def U64P (w : World) (b r : Nat) (bs : List Int) (why : Int) (e : Ending) (w' : World) : Prop :=
  e = .returned (.int .u64 ((numF (takeF bs why 8).2.2))) ∧ Rd w' b r (takeF bs why 8).1 (takeF bs why 8).2.1 ∧ Ch (· = b) w w'

/-- a variable that holds one slice of bytes -/
def OneSl (w : World) (b : Nat) (v : Value) : Prop := w.heap[b]? = some (.cells #[v] 33 (0, 0))

def RawCloP (w : World) (bx : Nat) (bs : List Int) (e : Ending) (w' : World) : Prop :=
  e = .returned (.tuple #[]) ∧ ∃ v, OneSl w' bx v ∧ w'.ownsRow w.heap.size 5 1 v bs.length (ofK .u8 bs) ∧ Ch (· = bx) w w'

theorem OneSl.keep {S : Nat → Prop} {w w' : World} {b : Nat} {x : Value} (h : OneSl w b x) (hc : Ch S w w') (hb : ¬ S b) : OneSl w' b x := by
  unfold OneSl at *; rw [hc.block b (lt_of_block h) hb]; exact h

def RawOffP (w : World) (b r bx : Nat) (bs : List Int) (why n : Int) (e : Ending) (w' : World) : Prop :=
  e = .returned (.tuple #[]) ∧ (∃ v, OneSl w' bx v ∧ w'.ownsRow w.heap.size 5 1 v (takeF bs why n).2.2.length (ofK .u8 (takeF bs why n).2.2)) ∧ Rd w' b r (takeF bs why n).1 (takeF bs why n).2.1 ∧ Ch (fun k => k = b ∨ k = bx) w w'

theorem ownsRow_base {w : World} {base base' : Nat} {e : TypeId} {size : Nat} {v : Value} {n : Nat} {xs : List Value} (h : w.ownsRow base e size v n xs) (hb : base' ≤ base) : w.ownsRow base' e size v n xs := by
  obtain ⟨h1, h2 | ⟨g, cap, cur, hv, hg, r⟩⟩ := h
  · exact ⟨h1, .inl h2⟩
  · exact ⟨h1, .inr ⟨g, cap, cur, hv, by omega, r⟩⟩

def RawP (w : World) (b r : Nat) (bs : List Int) (why n : Int) (e : Ending) (w' : World) : Prop :=
  ∃ v, e = .returned v ∧ w'.ownsRow w.heap.size 5 1 v (takeF bs why n).2.2.length (ofK .u8 (takeF bs why n).2.2) ∧ Rd w' b r (takeF bs why n).1 (takeF bs why n).2.1 ∧ Ch (· = b) w w'

end Go.Proofs.Ytkbhehnpgnilmaa

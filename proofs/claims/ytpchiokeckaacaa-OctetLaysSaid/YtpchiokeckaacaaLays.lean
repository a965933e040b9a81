/-
  OctetLays, walked. Conditions: the number fits its kind.
-/
import Derived.Test.YtpchiokeckaacaaWakes
import Derived.Test.YtpchiokeckaacaaRefo
import Derived.Test.YtpchiokeckaacaaHigh
import Derived.Test.YtpchiokeckaacaaMaps
import Derived.Test.YtpchiokeckaacaaCmp
namespace Go.Proofs.Ytpchiokeckaacaa
open Go Go.RowKit

theorem beF_mod2 (x : Int) : beF (x % 65536) 2 = beF x 2 := by
  have e : ∀ y : Int, beF y 2 = [y / 2 ^ 8 % 256, y / 2 ^ 0 % 256] := fun _ => rfl
  rw [e, e]; congr 1; omega
  congr 1; omega

theorem beF_mod4 (x : Int) : beF (x % 4294967296) 4 = beF x 4 := by
  have e : ∀ y : Int, beF y 4 = [y / 2 ^ 24 % 256, y / 2 ^ 16 % 256, y / 2 ^ 8 % 256, y / 2 ^ 0 % 256] := fun _ => rfl
  rw [e, e]; congr 1; omega
  congr 1; omega
  congr 1; omega
  congr 1; omega

/-- an entry of the map whose row has not been changed yet -/
def UnE (wr : World) (base : Nat) (hd : List Int) (x : Int) (e : MapEntry) : Prop :=
  ∃ wd g n c : Nat, e.key = .int .i64 wd ∧ e.val = .slice (some ⟨g, 0, none⟩) n c ∧ 0 < wd ∧ wd ≤ 8 ∧ n = hd.length + wd ∧ wr.ownsRow base 5 1 (.slice (some ⟨g, 0, none⟩) n c) n (ofK .u8 (hd ++ beF x wd))

theorem UnE.keep {S : Nat → Prop} {w w' : World} {base : Nat} {hd : List Int} {x : Int} {e : MapEntry} (h : UnE w base hd x e) (hc : Ch S w w') (hS : ∀ k, e.val.ownBlock = some k → ¬ S k) : UnE w' base hd x e := by
  obtain ⟨wd, g, n, c, h1, h2, h3, h4, h5, h6⟩ := h
  refine ⟨wd, g, n, c, h1, h2, h3, h4, h5, ?_⟩
  have hg : ¬ S g := hS g (by rw [h2]; rfl)
  have hlt := (h6.lt g rfl).2
  obtain ⟨a1, a2 | ⟨g', cap, cur, hv, b1, b2, b3⟩⟩ := h6
  · exact ⟨a1, .inl a2⟩
  · cases hv
    exact ⟨a1, .inr ⟨_, _, cur, rfl, b1, by rw [hc.block _ hlt hg]; exact b2, b3⟩⟩

theorem own_ch {S : Nat → Prop} {w w' : World} {base : Nat} {e : TypeId} {size : Nat} {v : Value} {n : Nat} {xs : List Value} (h : w.ownsRow base e size v n xs) (hc : Ch S w w') (hv : ∀ k, v.ownBlock = some k → ¬ S k) : w'.ownsRow base e size v n xs := by
  obtain ⟨h1, h2 | ⟨g, cap, cur, h3, h4, h5, h6⟩⟩ := h
  · exact ⟨h1, .inl h2⟩
  · refine ⟨h1, .inr ⟨g, cap, cur, h3, h4, ?_, h6⟩⟩
    rw [hc.block g (lt_of_block h5) (hv g (by rw [h3]; rfl))]; exact h5

/-- how many entries an iterator has not handed out -/
def leftN (w : World) (r m : Nat) : Nat :=
  match w.heap[r]?, w.heap[m]? with
  | some (.mapIter _ _ seen _), some (.map es _) => (es.toList.filter (fun e => !seen.contains e.born)).length
  | _, _ => 0

theorem leftN_eq {w : World} {r m c : Nat} {seen : Array Nat} {es : Array MapEntry} (h1 : IterAt w r m c seen) (h2 : MapAt w m es c) : leftN w r m = (es.toList.filter (fun e => !seen.contains e.born)).length := by
  unfold IterAt at h1; unfold MapAt at h2; simp [leftN, h1, h2]

theorem left_less {seen : Array Nat} {l : List MapEntry} {e : MapEntry} (he : e ∈ l) (hn : e.born ∉ seen) :
    (l.filter (fun e' => !(seen.push e.born).contains e'.born)).length < (l.filter (fun e => !seen.contains e.born)).length := by
  induction l with
  | nil => cases he
  | cons y l ih =>
    have mono : ∀ l : List MapEntry, (l.filter (fun e' => !(seen.push e.born).contains e'.born)).length ≤ (l.filter (fun e => !seen.contains e.born)).length := by
      intro l
      induction l with
      | nil => simp
      | cons z l ih2 =>
        simp only [List.filter_cons]
        by_cases h1 : z.born ∈ seen
        · simp [h1]; simpa using ih2
        · by_cases h2 : z.born = e.born
          · simp [h2, hn]; have := ih2; simp at this; omega
          · simp [h1, h2]; simpa using ih2
    simp only [List.filter_cons]
    rcases List.mem_cons.1 he with rfl | h
    · have := mono l
      simp [hn]; simp at this; omega
    · have ih' := ih h
      by_cases h1 : y.born ∈ seen
      · simp [h1]; simpa using ih'
      · by_cases h2 : y.born = e.born
        · simp [h2, hn]; simp at ih'; omega
        · simp [h1, h2]; simpa using ih'

theorem nb {g m n c : Nat} (h : g ≠ m) : ∀ k, (Value.slice (some ⟨g, 0, none⟩) n c).ownBlock = some k → ¬ (fun x => x = m) k := by
  intro k hk e
  have h1 : some g = some k := hk
  injection h1 with h1
  exact h (h1.trans e)

theorem own_some {w : World} {base : Nat} {e : TypeId} {ao : Option Addr} {n c : Nat} {xs : List Value} (h : w.ownsRow base e 1 (.slice ao n c) n xs) (hn : 0 < n) : ∃ g, ao = some ⟨g, 0, none⟩ ∧ base ≤ g ∧ g < w.heap.size := by
  obtain ⟨h1, ⟨h2, h3⟩ | ⟨g, cap, cur, hv, hg, hh, _⟩⟩ := h
  · omega
  · cases hv; exact ⟨g, rfl, hg, lt_of_block hh⟩

set_option maxRecDepth 100000 in
set_option maxHeartbeats 2000000 in
theorem octetLays_walk (v : Value) (bs : List Int) (at_ x : Int) (w : World) (h1 : Sl w v (ofK .u8 bs)) (_a1 : AllB bs) (_l1 : bs.length ≤ 140737488351232) (_hat : -9223372036854775808 ≤ at_ ∧ at_ ≤ 9223372036854775807) (hx : 0 ≤ x ∧ x ≤ 18446744073709551615) :
    Calls Try.prog 4 #[v, .int .i64 at_, .int .u64 x] w (TrueP w) := by
  have HX := Lib.hid hx
  have x0 : 0 ≤ x := hx.1
  clear _hat _l1 hx
  obtain ⟨n, hn⟩ : ∃ n, n = (bs.take 400).length := ⟨_, rfl⟩
  have hn4 : n ≤ 400 := by rw [hn, List.length_take]; exact Nat.min_le_left _ _
  have HN := Lib.hid hn
  clear hn
  obtain ⟨a, ha⟩ : ∃ a : Nat, IntKind.u64.wrap at_ = a := ⟨(IntKind.u64.wrap at_).toNat, by rw [IntKind.wrap_u64]; omega⟩
  obtain ⟨h, hh⟩ : ∃ h : Nat, (a : Int) % ((n : Int) + 1) = h := ⟨a % (n + 1), by rw [show ((n : Int) + 1) = ((n + 1 : Nat) : Int) from by omega]; omega⟩
  have hhn : h ≤ n := by
    have : (a : Int) % ((n : Int) + 1) < (n : Int) + 1 := Int.emod_lt_of_pos _ (by omega)
    omega
  go_enter Try.func4, Try.ntmps4
  go_wp2_with fail
  refine (wakes_any w).mono ?_
  rintro e w1 ⟨rfl, B1⟩
  have HB1 := Lib.hid B1
  have HV := Lib.hid h1
  have HV1 := Lib.hid (h1.below B1 (Nat.le_refl _))
  clear B1 h1
  go_wp2_with fail
  refine (row_any v bs n w1 HV1.out HN.out).mono ?_
  rintro e w2 ⟨ao, c, rfl, hown, hbel⟩
  have HB2 := Lib.hid (below_thn HB1.out hbel (Nat.le_refl _))
  have HA := Lib.hid (Sl.of_owns hown)
  obtain ⟨hd, hhd⟩ : ∃ hd, hd = (bs.take 400).take h := ⟨_, rfl⟩
  have hsl := (Sl.of_owns hown).take h (by rw [length_ofK, ← HN.out]; exact hhn)
  rw [take_ofK, ← hhd] at hsl
  have HH := Lib.hid hsl
  have hhl : Hid (hd.length = h) := Lib.hid (by rw [hhd, List.length_take, ← HN.out]; omega)
  have hc0 : n ≤ c ∧ c ≤ 9223372036854775807 := by
    obtain ⟨ao', c', e, h2, h3, _⟩ := (Sl.of_owns hown).nums
    cases e
    rw [← HN.out] at h2
    exact ⟨h2, h3⟩
  have hc1 := hc0.1
  have hc2 := hc0.2
  clear hown hbel HB1 HV1 hhd hsl hc0
  have hmm := @run_makeMap Try.prog
  have hw16 : IntKind.u16.wrap x = x % 65536 := by simp [IntKind.wrap, IntKind.bits, IntKind.signed]
  have H16 := Lib.hid hw16
  clear hw16
  go_wp2_with fail
  refine (put16_of _ hd (IntKind.u16.wrap x) (hd ++ beF x 2) (h + 2) _ (by exact HH.out.below ((Below.refl _ _).alloc (Nat.le_refl _) _) (Nat.le_refl _)) (by rw [hhl.out]; omega) (by rw [H16.out]; omega) (by rw [hhl.out]) (by rw [H16.out, beF_mod2])).mono ?_
  rintro e w3 ⟨a1, c1, rfl, hown1, hbel⟩
  obtain ⟨g1, rfl, hg1a, hg1b⟩ := own_some hown1 (by omega)
  simp only [World.size_alloc] at hg1a
  have HO1 := Lib.hid (ownsRow_base hown1 (Nat.le_of_lt (by simp : w2.heap.size < (w2.alloc (.map #[] 0)).heap.size)))
  have hB3 := Lib.hid (below_thn ((Below.refl w2.heap.size w2).alloc (Nat.le_refl _) _) hbel (Nat.le_refl _))
  have hM3 : MapAt w3 w2.heap.size #[] 0 := by
    unfold MapAt; rw [hbel.block _ (by simp)]; exact heap_alloc_new _ _
  have HM3 := Lib.hid hM3
  clear hown1 hbel hM3
  go_wp2_with (with_reducible refine wpList_insert_new _ rfl (.tmp 26) _ (.tmp 30) 34 rfl Try.underlying34 Try.underlying3 w2.heap.size #[] 0 HM3.out rfl 2 rfl _ rfl (fun e he => by simp at he) ?_)
  intro w4 hM4 hch4
  have hs4 := hch4.size
  have hB4 := Lib.hid (below_ch hB3.out hch4 (Nat.le_refl _) (fun i hi => by have := hi; omega))
  have HO1' := Lib.hid (own_ch HO1.out hch4 (nb (by omega)))
  have HM4 := Lib.hid hM4
  clear HM3 hB3 HO1 hch4 hM4
  have HH4 := Lib.hid (HH.out.below hB4.out (Nat.le_refl _))
  go_wp2_with fail
  refine (put32_of _ hd (x % 4294967296) (hd ++ beF x 4) (h + 4) _ HH4.out (by rw [hhl.out]; omega) (by omega) (by rw [hhl.out]) (by rw [beF_mod4])).mono ?_
  rintro e w5 ⟨a2, c2, rfl, hown2, hbel⟩
  obtain ⟨g2, rfl, hg2a, hg2b⟩ := own_some hown2 (by omega)
  have hs5 := hbel.size
  have HO2 := Lib.hid (ownsRow_base hown2 (Nat.le_trans hB4.out.size (Nat.le_refl _)))
  have hB5 := Lib.hid (below_thn hB4.out hbel (Nat.le_refl _))
  have HM5 := Lib.hid (HM4.out.keep (Ch.of_below (S := fun _ => False) hbel (Nat.le_refl _)) id)
  have HO15 := Lib.hid (own_ch HO1'.out (Ch.of_below (S := fun _ => False) hbel (Nat.le_refl _)) (fun _ _ => id))
  clear hown2 hbel HM4 HO1' hB4 HH4
  go_wp2_with (with_reducible refine wpList_insert_new _ rfl (.tmp 26) _ (.tmp 34) 34 rfl Try.underlying34 Try.underlying3 w2.heap.size _ 1 HM5.out rfl 4 rfl _ rfl (fun e he => by simp at he; subst he; exact ⟨2, rfl, by omega⟩) ?_)
  intro w6 hM6 hch6
  have hs6 := hch6.size
  have hB6 := Lib.hid (below_ch hB5.out hch6 (Nat.le_refl _) (fun i hi => by have := hi; omega))
  have HO16 := Lib.hid (own_ch HO15.out hch6 (nb (by omega)))
  have HO26 := Lib.hid (own_ch HO2.out hch6 (nb (by omega)))
  have HM6 := Lib.hid hM6
  clear HM5 hB5 HO15 HO2 hch6 hM6
  have HH6 := Lib.hid (HH.out.below hB6.out (Nat.le_refl _))
  go_wp2_with fail
  refine (put64_of _ hd x (hd ++ beF x 8) (h + 8) _ HH6.out (by rw [hhl.out]; omega) x0 (by rw [hhl.out]) rfl).mono ?_
  rintro e w7 ⟨a3, c3, rfl, hown3, hbel⟩
  obtain ⟨g3, rfl, hg3a, hg3b⟩ := own_some hown3 (by omega)
  have hs7 := hbel.size
  have HO3 := Lib.hid (ownsRow_base hown3 (Nat.le_trans hB6.out.size (Nat.le_refl _)))
  have hB7 := Lib.hid (below_thn hB6.out hbel (Nat.le_refl _))
  have HM7 := Lib.hid (HM6.out.keep (Ch.of_below (S := fun _ => False) hbel (Nat.le_refl _)) id)
  have HO17 := Lib.hid (own_ch HO16.out (Ch.of_below (S := fun _ => False) hbel (Nat.le_refl _)) (fun _ _ => id))
  have HO27 := Lib.hid (own_ch HO26.out (Ch.of_below (S := fun _ => False) hbel (Nat.le_refl _)) (fun _ _ => id))
  clear hown3 hbel HM6 HO16 HO26 hB6 HH6
  go_wp2_with (with_reducible refine wpList_insert_new _ rfl (.tmp 26) _ (.tmp 37) 34 rfl Try.underlying34 Try.underlying3 w2.heap.size _ 2 HM7.out rfl 8 rfl _ rfl (fun e he => by simp at he; rcases he with rfl | rfl; exact ⟨2, rfl, by omega⟩; exact ⟨4, rfl, by omega⟩) ?_)
  intro w8 hM8 hch8
  have hs8 := hch8.size
  have hB8 := Lib.hid (below_ch hB7.out hch8 (Nat.le_refl _) (fun i hi => by have := hi; omega))
  have HO18 := Lib.hid (own_ch HO17.out hch8 (nb (by omega)))
  have HO28 := Lib.hid (own_ch HO27.out hch8 (nb (by omega)))
  have HO38 := Lib.hid (own_ch HO3.out hch8 (nb (by omega)))
  have HM8 := Lib.hid hM8
  clear HM7 hB7 HO17 HO27 HO3 hch8 hM8
  go_wp2_with (with_reducible refine wpList_range_map _ rfl (.tmp 38) 34 rfl Try.underlying34 w2.heap.size _ 3 HM8.out rfl ?_)
  intro w9 hI9 hbel9 hs9
  obtain ⟨es, hes⟩ : ∃ es : Array MapEntry, es = #[⟨.int .i64 2, .slice (some ⟨g1, 0, none⟩) (h + 2) c1, 0⟩, ⟨.int .i64 4, .slice (some ⟨g2, 0, none⟩) (h + 4) c2, 1⟩, ⟨.int .i64 8, .slice (some ⟨g3, 0, none⟩) (h + 8) c3, 2⟩] := ⟨_, rfl⟩
  have hM9 : MapAt w9 w2.heap.size es 3 := by rw [hes]; exact HM8.out.keep (Ch.of_below (S := fun _ => False) hbel9 (Nat.le_refl _)) id
  have hold : ∀ e ∈ es.toList, e.born < 3 := by rw [hes]; intro e he; simp at he; rcases he with rfl | rfl | rfl <;> simp
  have hnd : (es.toList.map (·.born)).Nodup := by rw [hes]; simp
  have hch9 := Ch.of_below (S := fun _ => False) hbel9 (Nat.le_refl _)
  have hun : ∀ e ∈ es.toList, UnE w9 w2.heap.size hd x e := by
    rw [hes]; intro e he; simp at he
    rcases he with rfl | rfl | rfl
    · exact ⟨2, g1, h + 2, c1, rfl, rfl, by omega, by omega, by rw [hhl.out], own_ch HO18.out hch9 (fun _ _ => id)⟩
    · exact ⟨4, g2, h + 4, c2, rfl, rfl, by omega, by omega, by rw [hhl.out], own_ch HO28.out hch9 (fun _ _ => id)⟩
    · exact ⟨8, g3, h + 8, c3, rfl, rfl, by omega, by omega, by rw [hhl.out], own_ch HO38.out hch9 (fun _ _ => id)⟩
  have hsep : ∀ e ∈ es.toList, ∀ e' ∈ es.toList, e.born ≠ e'.born → ∀ g, e.val.ownBlock = some g → ∀ g', e'.val.ownBlock = some g' → g ≠ g' := by
    rw [hes]; intro e he e' he' hne g hg g' hg'
    simp at he he'
    rcases he with rfl | rfl | rfl <;> rcases he' with rfl | rfl | rfl <;> simp [Value.ownBlock] at hg hg' hne <;> omega
  have hfar : ∀ e ∈ es.toList, ∀ g, e.val.ownBlock = some g → w2.heap.size < g ∧ g < w8.heap.size := by
    rw [hes]; intro e he g hg
    simp at he
    rcases he with rfl | rfl | rfl <;> simp [Value.ownBlock] at hg <;> omega
  have hB9 : Below w2.heap.size w2 w9 := below_thn hB8.out hbel9 (Nat.le_refl _)
  have HE := Lib.hid (And.intro hold (And.intro hnd (And.intro hsep hfar)))
  have HU9 := Lib.hid hun
  have HM9 := Lib.hid hM9
  have HB9 := Lib.hid hB9
  have HI9 := Lib.hid hI9
  have hit : w2.heap.size < w8.heap.size := by have := hB8.out.size; omega
  clear HO18 HO28 HO38 HM8 hes hM9 hold hnd hch9 hun hsep hfar hB9 hI9 hB8 hbel9 hmm ha hh
  go_wp2_with fail
  go_loopw [6] (fun s6 wr => s6 = .bool false ∧ ∃ seen : Array Nat, IterAt wr w8.heap.size w2.heap.size 3 seen ∧ MapAt wr w2.heap.size es 3 ∧ Hid (Below w2.heap.size w2 wr) ∧ Hid (∀ e ∈ es.toList, e.born ∉ seen → UnE wr w2.heap.size hd x e)) (fun _ wr => leftN wr w8.heap.size w2.heap.size)
  case atStart => exact ⟨rfl, #[], HI9.out, HM9.out, HB9, Lib.hid (fun e he _ => HU9.out e he)⟩
  case round =>
    obtain ⟨rfl, seen, hI, hM, HB, HU⟩ := hrel
    have HLn := Lib.hid (leftN_eq hI hM)
    clear HI9 HM9 HB9 HU9
    go_wp2_with (with_reducible refine wpList_next_map _ rfl (.tmp 39) rfl w8.heap.size w2.heap.size 3 seen es hI hM rfl HE.out.1 HE.out.2.1 (by omega) ?_ ?_)
    · intro hdone
      clear hdone HU hI hM HLn
      have HBw := Lib.hid (HB2.out.trans (HB.out.mono HB2.out.size))
      have HVr := Lib.hid (HV.out.below HBw.out (Nat.le_refl _))
      have HAr := Lib.hid (HA.out.below HB.out (Nat.le_refl _))
      go_wp2_with fail
      refine (row_any v bs n wr HVr.out HN.out).mono ?_
      rintro e w10 ⟨ao2, c2, rfl, hown, hbel⟩
      have HA2 := Lib.hid (HAr.out.below hbel (Nat.le_refl _))
      have HO2 := Lib.hid (Sl.of_owns hown)
      have HB10 := Lib.hid (below_thn HBw.out hbel (Nat.le_refl _))
      clear hown hbel
      go_wp2_with fail
      refine (same_of _ _ (bs.take 400) (bs.take 400) true w10 HA2.out HO2.out (by simp)).mono ?_
      rintro e w11 ⟨rfl, hsm⟩
      go_wp2
      go_ret
      exact ⟨rfl, HB10.out.trans (hsm.below _)⟩
    · intro e he0 hne w10 hM10 hI10 hch10 hs10 hent
      have he : e ∈ es.toList := by simpa using he0
      obtain ⟨wd, gg, nn, cc, hkey, hval, hwd1, hwd2, hnn, hown⟩ := HU.out e he hne
      have hfr := HE.out.2.2.2 e he gg (by rw [hval]; rfl)
      have hfr1 := hfr.1
      have hfr2 := hfr.2
      have hown10 := own_ch hown hch10 (nb (by omega))
      have HUn := Lib.hid (fun e' (he' : e' ∈ es.toList) (hne' : e'.born ∉ seen.push e.born) => by
        have h1 : e'.born ∉ seen ∧ e'.born ≠ e.born := by simpa using hne'
        have h2 := (HU.out e' he' h1.1).keep hch10 (fun k hk hk2 => by
          have := (HE.out.2.2.2 e' he' k hk).2; have hk3 : k = w8.heap.size := hk2; omega)
        exact And.intro h2 (fun k hk => HE.out.2.2.1 e' he' e he h1.2 k hk gg (by rw [hval]; rfl)))
      have HB10 := Lib.hid (below_ch HB.out hch10 (Nat.le_refl _) (fun i hi => by have hi2 : i = w8.heap.size := hi; omega))
      have HLs := Lib.hid (left_less he hne)
      have hM10' := Lib.hid hM10
      have hI10' := Lib.hid hI10
      rw [hkey, hval] at hent
      rw [hkey, hval]
      obtain ⟨eb, heb⟩ : ∃ eb, eb = e.born := ⟨_, rfl⟩
      rw [← heb] at HUn HLs hI10'
      have HO10 := Lib.hid hown10
      have HA10 := Lib.hid (HA.out.below HB10.out (Nat.le_refl _))
      have HH10 := Lib.hid (HH.out.below HB10.out (Nat.le_refl _))
      have hnn2 : nn = hd.length + wd := hnn
      have HNN := Lib.hid hnn
      clear HU hI hM hown hown10 hch10 hkey hval heb he he0 hne hfr hnn hnn2 hM10 hI10 HB
      clear e
      go_wp2_with fail
      refine (high_any x wd w10 HX.out hwd2).mono ?_
      rintro e w11 ⟨ao2, c2, rfl, hown2, hbel2⟩
      have HO11 := Lib.hid (own_ch HO10.out (Ch.of_below (S := fun _ => False) hbel2 (Nat.le_refl _)) (fun _ _ => id))
      have HH11 := Lib.hid (HH10.out.below hbel2 (Nat.le_refl _))
      have HI2 := Lib.hid (Sl.of_owns hown2)
      have HB11 := Lib.hid (below_thn HB10.out hbel2 (Nat.le_refl _))
      have HC11 := Lib.hid (Ch.of_below (S := fun _ => False) hbel2 (Nat.le_refl _))
      clear hown2 hbel2 HO10 HB10 HA10
      go_wp2_with fail
      refine (both_any _ _ hd (beF x wd) (h + wd) w11 HH11.out HI2.out (by rw [hhl.out, beF_length]) (by omega)).mono ?_
      rintro e w12 ⟨ao3, c3, rfl, hown3, hbel3⟩
      have HO12 := Lib.hid (own_ch HO11.out (Ch.of_below (S := fun _ => False) hbel3 (Nat.le_refl _)) (fun _ _ => id))
      have HI3 := Lib.hid (Sl.of_owns hown3)
      have HB12 := Lib.hid (below_thn HB11.out hbel3 (Nat.le_refl _))
      have HC12 := Lib.hid (HC11.out.trans (Ch.of_below (S := fun _ => False) hbel3 (Nat.le_refl _)))
      clear hown3 hbel3 HO11 HB11 HI2 HC11 HH11
      go_wp2_with fail
      refine (same_of _ _ (hd ++ beF x wd) (hd ++ beF x wd) true w12 (Sl.of_owns HO12.out) HI3.out (by simp)).mono ?_
      rintro e w13 ⟨rfl, hsm⟩
      have HO13 := Lib.hid (hsm.owns HO12.out)
      have HB13 := Lib.hid (HB12.out.trans (hsm.below _))
      have HC13 := Lib.hid (HC12.out.trans (hsm.ch (fun _ => False)))
      clear HO12 HI3 HB12 HC12 hsm hent
      have hnc : nn ≤ 9223372036854775807 := by have := HNN.out; rw [hhl.out] at this; omega
      go_wp2_with fail
      go_loopw [55] (fun i wz => ∃ k : Nat, k ≤ nn ∧ i = .int .i64 k ∧ ∃ zs : List Int, zs.length = nn ∧ wz.ownsRow w2.heap.size 5 1 (.slice (some ⟨gg, 0, none⟩) nn cc) nn (ofK .u8 zs) ∧ Ch (· = gg) w13 wz) (fun i _ => nn - (intOf i).toNat)
      case atStart => exact ⟨0, Nat.zero_le _, rfl, hd ++ beF x wd, by rw [List.length_append, beF_length, HNN.out], HO13.out, Ch.refl _ _⟩
      case round =>
        obtain ⟨k, hk, rfl, zs, hzs, hoz, hcz⟩ := hrel
        by_cases hlt : k < nn
        · have c1 : wr.cell? ⟨gg, k, none⟩ = some (.int .u8 (zs[k]'(by omega))) := (hoz.cellAt k (by omega)).trans (get_ofK _ _ _ (by omega))
          have f1 := hoz.frozenAt k
          have hst := (hoz.stored k (.int .u8 (IntKind.u8.wrap ((zs[k]'(by omega)) + 1)))).1
          obtain ⟨z, hz⟩ : ∃ z, z = zs[k]'(by omega) := ⟨_, rfl⟩
          rw [← hz] at c1 hst
          have e1 : (ofK .u8 zs).set k (.int .u8 (IntKind.u8.wrap (z + 1))) = ofK .u8 (zs.set k (IntKind.u8.wrap (z + 1))) := by simp [ofK, List.map_set]
          rw [e1] at hst
          have HS := Lib.hid hst
          have HCz := Lib.hid hcz
          have HZ := Lib.hid hzs
          clear hst hcz hoz e1
          clear hz
          clear hzs
          go_wp2
          go_roundw
          case rel => exact ⟨k + 1, by omega, by go_num, _, by rw [List.length_set]; exact HZ.out, HS.out, HCz.out.setCell (.inl rfl) _⟩
          case measure => simp [intOf]; omega
        · obtain rfl : k = nn := by omega
          have hc13 : Ch (· = gg) w10 wr := (HC13.out.mono (fun _ h => h.elim)).trans hcz
          have hI13 := hI10'.out.keep hc13 (by omega)
          have hM13 := hM10'.out.keep hc13 (by omega)
          have HB14 := Lib.hid (below_ch HB13.out hcz (Nat.le_refl _) (fun i hi => by have hi2 : i = gg := hi; omega))
          have HU14 : Hid (∀ e' ∈ es.toList, e'.born ∉ seen.push eb → UnE wr w2.heap.size hd x e') := Lib.hid (fun e' he' hne' => by
            obtain ⟨h1, h2⟩ := HUn.out e' he' hne'
            exact h1.keep hc13 (fun i hi => h2 i hi))
          have HL14 := Lib.hid (leftN_eq hI13 hM13)
          have HI14 := Lib.hid hI13
          have HM14 := Lib.hid hM13
          clear hc13 hI13 hM13 hoz hcz hI10' hM10' HUn HO13 HC13 HB13
          go_wp2_with fail
          go_roundw
          case rel => exact ⟨rfl, _, HI14.out, HM14.out, HB14, HU14⟩
          case measure => rw [HL14.out, HLn.out]; exact HLs.out

end Go.Proofs.Ytpchiokeckaacaa

/-
  Layer 5: terms, as they stand in memory. Conditions: none.
-/
import Derived.Test.YtfenikoajadiaaaWide
import Derived.Test.YtfenikoajadiaaaArr
import Derived.Test.YtfenikoajadiaaaPut
import Derived.Test.YtfenikoajadiaaaRgN
namespace Go.Proofs.Ytfenikoajadiaaa
open Go Go.RowKit
set_option linter.unusedSimpArgs false
set_option linter.unusedVariables false

/-- a term -/
inductive Tm where
  | mk (k u n : Int) (s : ByteArray) (ks : List Tm)
def Tm.k : Tm → Int | .mk k _ _ _ _ => k
def Tm.u : Tm → Int | .mk _ u _ _ _ => u
def Tm.n : Tm → Int | .mk _ _ n _ _ => n
def Tm.s : Tm → ByteArray | .mk _ _ _ s _ => s
def Tm.ks : Tm → List Tm | .mk _ _ _ _ ks => ks

theorem Tm.ind {m : Tm → Prop} (h : ∀ k u n s ks, (∀ t ∈ ks, m t) → m (.mk k u n s ks)) : ∀ t, m t
  | .mk k u n s ks => h k u n s ks fun t ht => Tm.ind h t
termination_by t => SizeOf.sizeOf t
decreasing_by
  have := List.sizeOf_lt_of_mem ht
  simp only [Tm.mk.sizeOf_spec]
  omega

def tmC (k u n : Int) (s : ByteArray) (v : Value) : List Value := [.int .i64 k, .int .i64 u, .int .i64 n, .string s, v]
theorem Try.infoTm : (Try.prog.info? 24).map (·.size) = some 5 := by kernel_rfl
theorem Try.zeroTm : ∀ w, (zeroValue 24).run Try.prog w = .ok (.agg (tmC 0 0 0 ⟨#[]⟩ (.slice none 0 0)).toArray) w := fun w => by kernel_rfl
theorem tmC_info (k u n : Int) (s : ByteArray) (v : Value) : (Try.prog.info? 24).map (·.size) = some (tmC k u n s v).length := Try.infoTm
theorem tmC_one (k u n : Int) (s : ByteArray) (ao : Option Addr) (l c : Nat) : ∀ v ∈ tmC k u n s (.slice ao l c), v.oneCell' = true := fun v hv => by
  simp only [tmC, List.mem_cons, List.not_mem_nil, or_false] at hv
  rcases hv with rfl | rfl | rfl | rfl | rfl <;> rfl

mutual
/-- cells that hold a term, all of whose rows lie in blocks of F -/
def TmC (F : Nat → Prop) (w : World) (cs : List Value) : Tm → Prop
  | .mk k u n s ks => ∃ ao c, cs = tmC k u n s (.slice ao ks.length c) ∧ ks.length ≤ c ∧ c ≤ maxLen ∧ (0 < ks.length → ∃ b o, ao = some ⟨b, o, none⟩ ∧ F b ∧ b < w.heap.size ∧ AtC F w b o ks)
/-- terms that stand from a place on -/
def AtC (F : Nat → Prop) (w : World) (b o : Nat) : List Tm → Prop
  | [] => True
  | t :: ts => (∃ cs, cs.length = 5 ∧ w.rangeAt b o cs ∧ TmC F w cs t) ∧ AtC F w b (o + 5) ts
end
/-- a row of terms -/
def SlT (F : Nat → Prop) (w : World) (v : Value) (ts : List Tm) : Prop :=
  ∃ ao c, v = .slice ao ts.length c ∧ ts.length ≤ c ∧ c ≤ maxLen ∧ (0 < ts.length → ∃ b o, ao = some ⟨b, o, none⟩ ∧ F b ∧ b < w.heap.size ∧ AtC F w b o ts)
theorem TmC_iff {F : Nat → Prop} {w : World} {cs : List Value} {k u n : Int} {s : ByteArray} {ks : List Tm} : TmC F w cs (.mk k u n s ks) ↔ ∃ v, cs = tmC k u n s v ∧ SlT F w v ks := by
  unfold TmC SlT
  constructor
  · rintro ⟨ao, c, h1, h2⟩; exact ⟨_, h1, ao, c, rfl, h2⟩
  · rintro ⟨_, h1, ao, c, rfl, h2⟩; exact ⟨ao, c, h1, h2⟩
theorem TmC.len {F : Nat → Prop} {w : World} {cs : List Value} {t : Tm} (h : TmC F w cs t) : cs.length = 5 := by
  obtain ⟨k, u, n, s, ks⟩ := t
  obtain ⟨v, rfl, -⟩ := TmC_iff.1 h
  rfl
theorem AtC.get {F : Nat → Prop} {w : World} {b : Nat} : ∀ {ts : List Tm} {o : Nat}, AtC F w b o ts → ∀ j (hj : j < ts.length), ∃ cs, w.rangeAt b (o + j * 5) cs ∧ TmC F w cs ts[j]
  | t :: ts, o, h, 0, _ => by
    unfold AtC at h
    obtain ⟨⟨cs, -, h1, h2⟩, -⟩ := h
    exact ⟨cs, by simpa using h1, h2⟩
  | t :: ts, o, h, j + 1, hj => by
    unfold AtC at h
    obtain ⟨cs, h1, h2⟩ := AtC.get h.2 j (by simpa using hj)
    exact ⟨cs, by rw [show o + (j + 1) * 5 = o + 5 + j * 5 by omega]; exact h1, h2⟩
theorem AtC.mk' {F : Nat → Prop} {w : World} {b : Nat} : ∀ {ts : List Tm} {o : Nat}, (∀ j (hj : j < ts.length), ∃ cs, w.rangeAt b (o + j * 5) cs ∧ TmC F w cs ts[j]) → AtC F w b o ts
  | [], o, _ => by unfold AtC; trivial
  | t :: ts, o, h => by
    unfold AtC
    refine ⟨?_, AtC.mk' fun j hj => ?_⟩
    · obtain ⟨cs, h1, h2⟩ := h 0 (by simp)
      exact ⟨cs, h2.len, by simpa using h1, h2⟩
    · obtain ⟨cs, h1, h2⟩ := h (j + 1) (by simpa using hj)
      exact ⟨cs, by rw [show o + 5 + j * 5 = o + (j + 1) * 5 by omega]; exact h1, h2⟩
theorem SlT.get {F : Nat → Prop} {w : World} {ao : Option Addr} {n c : Nat} {ts : List Tm} (h : SlT F w (.slice ao n c) ts) {j : Nat} (hj : j < ts.length) : ∃ b o cs, ao = some ⟨b, o, none⟩ ∧ F b ∧ b < w.heap.size ∧ w.rangeAt b (o + j * 5) cs ∧ TmC F w cs ts[j] := by
  obtain ⟨ao', c', h1, h2, h3, h4⟩ := h
  obtain ⟨rfl, -, -⟩ : ao = ao' ∧ n = ts.length ∧ c = c' := by simpa using h1
  obtain ⟨b, o, rfl, hF, hb, ha⟩ := h4 (by omega)
  obtain ⟨cs, h5, h6⟩ := ha.get j hj
  exact ⟨b, o, cs, rfl, hF, hb, h5, h6⟩

theorem AtC.keep' {F G : Nat → Prop} {S : Nat → Prop} {w w' : World} (hc : Ch S w w') (hS : ∀ k, F k → ¬ S k) (hG : ∀ k, F k → G k) {b : Nat} (hb : F b) : ∀ {ts : List Tm} {o : Nat}, (∀ t ∈ ts, ∀ cs, TmC F w cs t → TmC G w' cs t) → AtC F w b o ts → AtC G w' b o ts
  | [], _, _, _ => by unfold AtC; trivial
  | t :: ts, o, ih, h => by
    unfold AtC at h ⊢
    obtain ⟨⟨cs, h1, h2, h3⟩, h4⟩ := h
    exact ⟨⟨cs, h1, rangeW_ch h2 hc (hS b hb), ih t List.mem_cons_self cs h3⟩, AtC.keep' hc hS hG hb (fun t ht => ih t (List.mem_cons_of_mem _ ht)) h4⟩
/-- what is written outside leaves a term as it was -/
theorem TmC.keep' {F G : Nat → Prop} {S : Nat → Prop} {w w' : World} (hc : Ch S w w') (hS : ∀ k, F k → ¬ S k) (hG : ∀ k, F k → G k) : ∀ (t : Tm) (cs : List Value), TmC F w cs t → TmC G w' cs t := by
  refine Tm.ind fun k u n s ks ih cs h => ?_
  unfold TmC at h ⊢
  obtain ⟨ao, c, h1, h2, h3, h4⟩ := h
  refine ⟨ao, c, h1, h2, h3, fun h0 => ?_⟩
  obtain ⟨b, o, e, hF, hb, ha⟩ := h4 h0
  exact ⟨b, o, e, hG b hF, Nat.lt_of_lt_of_le hb hc.size, AtC.keep' hc hS hG hF ih ha⟩
theorem TmC.keep {F : Nat → Prop} {S : Nat → Prop} {w w' : World} {t : Tm} {cs : List Value} (h : TmC F w cs t) (hc : Ch S w w') (hS : ∀ k, F k → ¬ S k) : TmC F w' cs t := TmC.keep' hc hS (fun _ h => h) t cs h
theorem TmC.mono {F G : Nat → Prop} {w : World} {t : Tm} {cs : List Value} (h : TmC F w cs t) (hG : ∀ k, F k → G k) : TmC G w cs t := TmC.keep' (Ch.refl (fun _ => False) w) (fun _ _ h => h) hG t cs h
theorem TmC.below {F : Nat → Prop} {w w' : World} {t : Tm} {cs : List Value} (h : TmC F w cs t) (hb : Below w.heap.size w w') : TmC F w' cs t := h.keep (Ch.of_below (S := fun _ => False) hb (Nat.le_refl _)) (fun _ _ h => h)
theorem SlT.keep' {F G : Nat → Prop} {S : Nat → Prop} {w w' : World} {ts : List Tm} {v : Value} (h : SlT F w v ts) (hc : Ch S w w') (hS : ∀ k, F k → ¬ S k) (hG : ∀ k, F k → G k) : SlT G w' v ts := by
  have h1 : TmC F w (tmC 0 0 0 ⟨#[]⟩ v) (.mk 0 0 0 ⟨#[]⟩ ts) := TmC_iff.2 ⟨v, rfl, h⟩
  obtain ⟨v', e, h2⟩ := TmC_iff.1 (TmC.keep' hc hS hG _ _ h1)
  simp only [tmC, List.cons.injEq, and_true, true_and] at e
  subst e; exact h2
theorem SlT.keep {F : Nat → Prop} {S : Nat → Prop} {w w' : World} {ts : List Tm} {v : Value} (h : SlT F w v ts) (hc : Ch S w w') (hS : ∀ k, F k → ¬ S k) : SlT F w' v ts := h.keep' hc hS (fun _ h => h)
theorem SlT.mono {F G : Nat → Prop} {w : World} {ts : List Tm} {v : Value} (h : SlT F w v ts) (hG : ∀ k, F k → G k) : SlT G w v ts := h.keep' (Ch.refl (fun _ => False) w) (fun _ _ h => h) hG
theorem SlT.below {F : Nat → Prop} {w w' : World} {ts : List Tm} {v : Value} (h : SlT F w v ts) (hb : Below w.heap.size w w') : SlT F w' v ts := h.keep (Ch.of_below (S := fun _ => False) hb (Nat.le_refl _)) (fun _ _ h => h)
theorem SlT.nil (F : Nat → Prop) (w : World) : SlT F w (.slice none 0 0) [] := ⟨none, 0, rfl, Nat.le_refl _, by unfold maxLen; omega, fun h => absurd h (by simp)⟩
/-- the cells: literal -/
theorem TmC.shape {F : Nat → Prop} {w : World} {cs : List Value} {t : Tm} (h : TmC F w cs t) : ∃ ao c, cs = tmC t.k t.u t.n t.s (.slice ao t.ks.length c) ∧ t.ks.length ≤ c ∧ c ≤ maxLen ∧ SlT F w (.slice ao t.ks.length c) t.ks := by
  obtain ⟨k, u, n, s, ks⟩ := t
  obtain ⟨v, e, h⟩ := TmC_iff.1 h
  obtain ⟨ao, c, e2, h2, h3, h4⟩ := id h
  subst e2
  exact ⟨ao, c, e, h2, h3, h⟩

-- kinds
def fieldsF (k : Int) : Int := if k = 1 then 1 else if k = 2 then 6 else if k = 3 then 2 else if k = 4 then 16 else if k = 5 then 8 else if k = 6 then 16 else if k = 7 then 10 else if k = 8 then 14 else 0
theorem fieldsF_cases (k : Int) : fieldsF k = 0 ∨ fieldsF k = 1 ∨ fieldsF k = 2 ∨ fieldsF k = 6 ∨ fieldsF k = 8 ∨ fieldsF k = 10 ∨ fieldsF k = 14 ∨ fieldsF k = 16 := by unfold fieldsF; omega

set_option maxRecDepth 100000 in
set_option maxHeartbeats 1000000 in
theorem fields_any (k : Int) (w : World) : Calls Try.prog 57 #[.int .i64 k] w (fun e w' => e = .returned (.int .i64 (fieldsF k)) ∧ w = w') := by
  rcases (show k = 1 ∨ k = 2 ∨ k = 3 ∨ k = 4 ∨ k = 5 ∨ k = 6 ∨ k = 7 ∨ k = 8 ∨ (k ≠ 1 ∧ k ≠ 2 ∧ k ≠ 3 ∧ k ≠ 4 ∧ k ≠ 5 ∧ k ≠ 6 ∧ k ≠ 7 ∧ k ≠ 8) by omega) with rfl | rfl | rfl | rfl | rfl | rfl | rfl | rfl | ⟨h1, h2, h3, h4, h5, h6, h7, h8⟩
  iterate 8 (focus (go_enter Try.func57, Try.ntmps57; go_wp2_with fail; go_ret; exact ⟨rfl, rfl⟩))
  · have e1 : (k == 1) = false := by simpa using h1
    have e2 : (k == 2) = false := by simpa using h2
    have e3 : (k == 3) = false := by simpa using h3
    have e4 : (k == 4) = false := by simpa using h4
    have e5 : (k == 5) = false := by simpa using h5
    have e6 : (k == 6) = false := by simpa using h6
    have e7 : (k == 7) = false := by simpa using h7
    have e8 : (k == 8) = false := by simpa using h8
    have HF := Lib.hid (show fieldsF k = 0 from by unfold fieldsF; simp [h1, h2, h3, h4, h5, h6, h7, h8])
    clear h1 h2 h3 h4 h5 h6 h7 h8
    go_enter Try.func57, Try.ntmps57
    go_wp2_with fail
    go_ret
    exact ⟨by rw [HF.out]; rfl, rfl⟩

/-- which fields count -/
def hasB (k g : Int) : Bool := if g = 1 then k == 1 else if g = 2 then (k == 2 || k == 3 || k == 7 || k == 8) else if g = 4 then (k == 2 || k == 8) else if g = 8 then (k == 5 || k == 7 || k == 8) else (k == 4 || k == 6)
theorem kind_cases (k : Int) : k = 1 ∨ k = 2 ∨ k = 3 ∨ k = 4 ∨ k = 5 ∨ k = 6 ∨ k = 7 ∨ k = 8 ∨ (k ≠ 1 ∧ k ≠ 2 ∧ k ≠ 3 ∧ k ≠ 4 ∧ k ≠ 5 ∧ k ≠ 6 ∧ k ≠ 7 ∧ k ≠ 8) := by omega
theorem fieldsF_none {k : Int} (h : k ≠ 1 ∧ k ≠ 2 ∧ k ≠ 3 ∧ k ≠ 4 ∧ k ≠ 5 ∧ k ≠ 6 ∧ k ≠ 7 ∧ k ≠ 8) : fieldsF k = 0 := by
  obtain ⟨h1, h2, h3, h4, h5, h6, h7, h8⟩ := h
  unfold fieldsF; simp [h1, h2, h3, h4, h5, h6, h7, h8]
theorem hasB_none {k : Int} (h : k ≠ 1 ∧ k ≠ 2 ∧ k ≠ 3 ∧ k ≠ 4 ∧ k ≠ 5 ∧ k ≠ 6 ∧ k ≠ 7 ∧ k ≠ 8) (g : Int) : hasB k g = false := by
  obtain ⟨h1, h2, h3, h4, h5, h6, h7, h8⟩ := h
  unfold hasB; simp [h1, h2, h3, h4, h5, h6, h7, h8]

set_option maxRecDepth 100000 in
set_option maxHeartbeats 4000000 in
theorem has_any (k g : Int) (hg : g = 1 ∨ g = 2 ∨ g = 4 ∨ g = 8 ∨ g = 16) (w : World) : Calls Try.prog 59 #[.int .i64 (fieldsF k), .int .i64 g] w (fun e w' => e = .returned (.bool (hasB k g)) ∧ w = w') := by
  have go : ∀ f : Int, ∀ r : Bool, (f = 0 ∨ f = 1 ∨ f = 2 ∨ f = 6 ∨ f = 8 ∨ f = 10 ∨ f = 14 ∨ f = 16) → (∀ w', Calls Try.prog 59 #[.int .i64 f, .int .i64 g] w' (fun e w'' => e = .returned (.bool (decide (f.toNat &&& g.toNat ≠ 0))) ∧ w' = w'')) := by
    intro f r hf w'
    rcases hg with rfl | rfl | rfl | rfl | rfl <;> rcases hf with rfl | rfl | rfl | rfl | rfl | rfl | rfl | rfl <;>
      (go_enter Try.func59, Try.ntmps59
       go_wp2_with fail
       go_ret
       exact ⟨rfl, rfl⟩)
  have h := go (fieldsF k) true (fieldsF_cases k) w
  have e : decide ((fieldsF k).toNat &&& g.toNat ≠ 0) = hasB k g := by
    rcases kind_cases k with rfl | rfl | rfl | rfl | rfl | rfl | rfl | rfl | hk
    iterate 8 (· rcases hg with rfl | rfl | rfl | rfl | rfl <;> rfl)
    · rw [fieldsF_none hk, hasB_none hk]; simp
  rw [e] at h
  exact h

/-- how many kids -/
def kidsN (k : Int) : Nat := if k = 4 ∨ k = 6 then 2 else if k = 5 ∨ k = 7 ∨ k = 8 then 1 else 0
set_option maxRecDepth 100000 in
set_option maxHeartbeats 4000000 in
theorem kids_any (k : Int) (w : World) : Calls Try.prog 63 #[.int .i64 (fieldsF k)] w (fun e w' => e = .returned (.int .i64 (kidsN k)) ∧ w = w') := by
  have h16 := Lib.hid (has_any k 16 (by omega) w)
  have h8 := Lib.hid (has_any k 8 (by omega) w)
  obtain ⟨b16, e16⟩ : ∃ b, hasB k 16 = b := ⟨_, rfl⟩
  obtain ⟨b8, e8⟩ : ∃ b, hasB k 8 = b := ⟨_, rfl⟩
  have HE := Lib.hid (show kidsN k = if b16 = true then 2 else if b8 = true then 1 else 0 from by
    rw [← e16, ← e8]
    rcases kind_cases k with rfl | rfl | rfl | rfl | rfl | rfl | rfl | rfl | hk
    iterate 8 (· rfl)
    · rw [hasB_none hk, hasB_none hk]
      obtain ⟨h1, h2, h3, h4, h5, h6, h7, h8⟩ := hk
      unfold kidsN; simp [h4, h5, h6, h7, h8])
  rw [e16] at h16
  rw [e8] at h8
  clear e16 e8
  generalize fieldsF k = f at h16 h8 ⊢
  go_enter Try.func63, Try.ntmps63
  go_wp2_with fail
  refine h16.out.mono ?_
  rintro e' w' ⟨rfl, rfl⟩
  cases b16
  · go_wp2_with fail
    refine h8.out.mono ?_
    rintro e' w' ⟨rfl, rfl⟩
    cases b8
    · go_wp2_with fail
      go_ret
      exact ⟨by rw [HE.out]; rfl, rfl⟩
    · go_wp2_with fail
      go_ret
      exact ⟨by rw [HE.out]; rfl, rfl⟩
  · go_wp2_with fail
    go_ret
    exact ⟨by rw [HE.out]; rfl, rfl⟩

def knownB (n : Int) : Bool := decide (1 ≤ n) && decide (n ≤ 6)
theorem known_any (n : Int) (w : World) : Calls Try.prog 61 #[.int .i64 n] w (fun e w' => e = .returned (.bool (knownB n)) ∧ w = w') := by
  by_cases h1 : 1 ≤ n
  · by_cases h2 : n ≤ 6
    · have HU := Lib.hid (show knownB n = true by simp [knownB, h1, h2])
      rw [HU.out]
      go_enter Try.func61, Try.ntmps61
      go_wp2
      go_ret
      exact ⟨rfl, rfl⟩
    · have HU := Lib.hid (show knownB n = false by simp [knownB, h2])
      rw [HU.out]
      go_enter Try.func61, Try.ntmps61
      go_wp2
      go_ret
      exact ⟨rfl, rfl⟩
  · have HU := Lib.hid (show knownB n = false by simp [knownB, h1])
    rw [HU.out]
    go_enter Try.func61, Try.ntmps61
    go_wp2
    go_ret
    exact ⟨rfl, rfl⟩

end Go.Proofs.Ytfenikoajadiaaa

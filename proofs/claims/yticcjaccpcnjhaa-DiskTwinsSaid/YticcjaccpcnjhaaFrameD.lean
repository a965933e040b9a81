/-
  Acts, rows of acts, of bools, and of rows of bools, that come in. Conditions: none.
-/
import Derived.Test.YticcjaccpcnjhaaAbsent2
import Derived.Deep.Slices
import Derived.Deep.Grids
import Derived.Deep.Fields
namespace Go.Proofs.Yticcjaccpcnjhaa
open Go Go.RowKit Go.ChangeShapes Go.WideShapes Go.ChangeAt

/-- no slice of it holds more than the machine reaches -/
def Fits {H : Type} (P : Program) (t : TypeId) (d : DataW H) : Prop := ∀ n ∈ d.weights P t, n ≤ reachBytes

theorem fits_arg {H : Type} {P : Program} {ts : List TypeId} {ds : List (DataW H)} (h : (DataW.weightsEach P ts ds).all (· ≤ reachBytes) = true) {j : Nat} {t : TypeId} {d : DataW H} (ht : ts[j]? = some t) (hd : ds[j]? = some d) : Fits P t d := fun n hn => by
  have := List.all_eq_true.1 h _ (DataW.weights_mem_each ht hd n hn)
  simpa using this

theorem weights_mem_all {H : Type} {P : Program} {e : TypeId} : ∀ {ds : List (DataW H)} {d : DataW H}, d ∈ ds → ∀ n ∈ d.weights P e, n ∈ DataW.weightsAll P e ds
  | d0 :: ds, d, hd, n, hn => by
    simp only [DataW.weightsAll, List.mem_append]
    rcases List.mem_cons.1 hd with rfl | hd
    · exact .inl hn
    · exact .inr (weights_mem_all hd n hn)

theorem fits_slice {H : Type} {P : Program} {t e : TypeId} {es sp : List (DataW H)} (h : Fits P t (.slice es sp)) (hu : P.underlying t = some (.slice e)) : (es.length + sp.length) * P.bytesOf e ≤ reachBytes ∧ ∀ d ∈ es, Fits P e d := by
  refine ⟨h _ (by simp [DataW.weights, hu]), fun d hd n hn => h n ?_⟩
  simp only [DataW.weights, hu, List.mem_cons, List.mem_append]
  exact .inr (.inl (weights_mem_all hd n hn))

theorem fits_agg {H : Type} {P : Program} {t : TypeId} {fs : Array Field} {ps : List (DataW H)} (h : Fits P t (.agg ps)) (hu : P.underlying t = some (.struct fs)) {j : Nat} {f : Field} {d : DataW H} (hf : fs[j]? = some f) (hd : ps[j]? = some d) : Fits P f.type d := fun n hn => by
  refine h n ?_
  simp only [DataW.weights, hu]
  exact DataW.weights_mem_each (j := j) (t := f.type) (by simp [hf]) hd n hn

section
variable {H : Type} {enc : TypeId × Value → H} {W : World}

/-- a row of bools that was read -/
theorem read_bools {t e : TypeId} {fuel : Nat} {cs : List Value} {d : DataW H} {p : List MemPlace} (ht : Try.prog.underlying t = some (.slice e)) (he : Try.prog.underlying e = some .bool) (hc : Try.prog.cellsOf e = 1) (hb : Try.prog.bytesOf e = 1)
    (h : DataW.trod enc Try.prog W 0 (fun _ => true) true fuel t cs = some (d, p)) (hf : Fits Try.prog t d) :
    ∃ (ao : Option Addr) (len cp : Nat) (bs : List Bool), cs = [.slice ao len cp] ∧ Sl W (.slice ao len cp) (bs.map Value.bool) ∧ bs.length = len ∧ len ≤ cp ∧ cp ≤ maxLen ∧ len ≤ 140737488351232 := by
  rcases Deep.open_bools ht he hc h with ⟨rfl, _⟩ | ⟨a, len, cap, B, rfl, _, hl, hm, hx, hcell⟩
  · exact ⟨none, 0, 0, [], rfl, .inl ⟨rfl, rfl⟩, rfl, Nat.le_refl _, Nat.zero_le _, by omega⟩
  · simp only [Prod.mk.injEq] at hx
    obtain ⟨rfl, _⟩ := hx
    have hr := (fits_slice hf ht).1
    rw [hb] at hr
    simp only [List.length_map, List.length_range, reachBytes] at hr
    refine ⟨some a, len, cap, (List.range len).map B, rfl, .inr ⟨a, cap, by simp, by simpa using hl, hm, fun i u hu => ?_⟩, by simp, hl, hm, by omega⟩
    have hi : i < len := by have := (List.getElem?_eq_some_iff.1 hu).1; simpa using this
    rw [hcell i (by omega), ← hu]
    simp [hi]

/-- an act's cells that were read -/
theorem read_act {t eb : TypeId} {f0 f1 f2 f3 f4 : Field} {fuel : Nat} {cs : List Value} {d : DataW H} {p : List MemPlace} (hs : Try.prog.underlying t = some (.struct #[f0, f1, f2, f3, f4])) (hone : Deep.oneCellFields Try.prog #[f0, f1, f2, f3, f4] = true) (hC : Try.prog.cellsOf t = 5)
    (u0 : Try.prog.underlying f0.type = some (.int .i64)) (u1 : Try.prog.underlying f1.type = some (.int .i64)) (u2 : Try.prog.underlying f2.type = some (.int .i64)) (u3 : Try.prog.underlying f3.type = some (.int .u8)) (u4 : Try.prog.underlying f4.type = some (.slice eb))
    (ue : Try.prog.underlying eb = some .bool) (ce : Try.prog.cellsOf eb = 1) (be : Try.prog.bytesOf eb = 1)
    (h : DataW.trod enc Try.prog W 0 (fun _ => true) true fuel t cs = some (d, p)) (hf : Fits Try.prog t d) :
    ∃ a ao len cp, cs = actC a (.slice ao len cp) ∧ ActOk W a (.slice ao len cp) := by
  obtain ⟨xs, n, rfl, hx, hlen, hxl, hfd⟩ := DataW.trod_struct hs h
  rw [hC] at hlen
  obtain ⟨c0, c1, c2, c3, c4, rfl⟩ : ∃ c0 c1 c2 c3 c4, cs = [c0, c1, c2, c3, c4] := by
    match cs, hlen with
    | [c0, c1, c2, c3, c4], _ => exact ⟨_, _, _, _, _, rfl⟩
  obtain ⟨y0, y1, y2, y3, y4, rfl⟩ : ∃ y0 y1 y2 y3 y4, xs = [y0, y1, y2, y3, y4] := by
    match xs, hxl with
    | [y0, y1, y2, y3, y4], _ => exact ⟨_, _, _, _, _, rfl⟩
  have g0 := hfd 0 f0 rfl
  have g1 := hfd 1 f1 rfl
  have g2 := hfd 2 f2 rfl
  have g3 := hfd 3 f3 rfl
  have g4 := hfd 4 f4 rfl
  obtain ⟨o0, k0⟩ := Deep.hone_of hone 0 f0 rfl
  obtain ⟨o1, k1⟩ := Deep.hone_of hone 1 f1 rfl
  obtain ⟨o2, k2⟩ := Deep.hone_of hone 2 f2 rfl
  obtain ⟨o3, k3⟩ := Deep.hone_of hone 3 f3 rfl
  obtain ⟨o4, k4⟩ := Deep.hone_of hone 4 f4 rfl
  simp only [o0, o1, o2, o3, o4, k0, k1, k2, k3, k4, List.drop_succ_cons, List.drop_zero, List.take_succ_cons, List.take_zero, List.getElem?_cons_zero, List.getElem?_cons_succ] at g0 g1 g2 g3 g4
  simp only [Prod.mk.injEq] at hx
  obtain ⟨rfl, _⟩ := hx
  have hf4 := fits_agg hf hs (j := 4) rfl rfl
  obtain ⟨n0, e0, -, w0⟩ := DataW.trod_int u0 g0
  obtain ⟨n1, e1, -, w1⟩ := DataW.trod_int u1 g1
  obtain ⟨n2, e2, -, w2⟩ := DataW.trod_int u2 g2
  obtain ⟨n3, e3, -, w3⟩ := DataW.trod_int u3 g3
  obtain ⟨ao, len, cp, bs, e4, hsl, hbl, _, _, hbr⟩ := read_bools u4 ue ce be g4 hf4
  simp only [List.cons.injEq, and_true] at e0 e1 e2 e3 e4
  subst e0 e1 e2 e3 e4
  exact ⟨⟨n0, n1, n2, n3, bs⟩, ao, len, cp, rfl, ⟨(wf_i64 w0).1, (wf_i64 w0).2, (wf_i64 w1).1, (wf_i64 w1).2, (wf_i64 w2).1, (wf_i64 w2).2, (wf_u8 w3).1, (wf_u8 w3).2, hsl, by rw [hbl]; exact hbr⟩⟩

instance : Inhabited ActD := ⟨⟨0, 0, 0, 0, []⟩⟩

/-- a row of acts -/
def SlA (w : World) (v : Value) (l : List (ActD × Value)) : Prop :=
  ∃ ao c, v = .slice ao l.length c ∧ l.length ≤ c ∧ c ≤ 9223372036854775807 ∧ (0 < l.length → ∃ b o, ao = some ⟨b, o, none⟩ ∧ ∀ j (hj : j < l.length), w.rangeAt b (o + j * 5) (actC l[j].1 l[j].2)) ∧
    ∀ y ∈ l, ∃ ao len cp, y.2 = .slice ao len cp ∧ ActOk w y.1 y.2

theorem read_acts {t e eb : TypeId} {f0 f1 f2 f3 f4 : Field} {v : Value} {d : DataW H} {p : List MemPlace} (ht : Try.prog.underlying t = some (.slice e)) (hs : Try.prog.underlying e = some (.struct #[f0, f1, f2, f3, f4])) (hone : Deep.oneCellFields Try.prog #[f0, f1, f2, f3, f4] = true) (hC : Try.prog.cellsOf e = 5)
    (u0 : Try.prog.underlying f0.type = some (.int .i64)) (u1 : Try.prog.underlying f1.type = some (.int .i64)) (u2 : Try.prog.underlying f2.type = some (.int .i64)) (u3 : Try.prog.underlying f3.type = some (.int .u8)) (u4 : Try.prog.underlying f4.type = some (.slice eb))
    (ue : Try.prog.underlying eb = some .bool) (ce : Try.prog.cellsOf eb = 1) (be : Try.prog.bytesOf eb = 1)
    (hv : ∃ a len cap, v = .slice a len cap) (h : DataW.Trod enc Try.prog W 0 (fun _ => true) true t v d p) (hf : Fits Try.prog t d) : ∃ l, SlA W v l := by
  obtain ⟨a, len, cap, rfl⟩ := hv
  obtain ⟨fuel, hfu⟩ := h
  rcases Deep.open_slice ht hfu with ⟨hcs, _⟩ | ⟨x, l, c, m, n, D, Pl, hcs, _, hl, hm, hmm, hx, hcell⟩
  · simp [Value.cells] at hcs
    obtain ⟨rfl, rfl, rfl⟩ := hcs
    exact ⟨[], none, 0, rfl, Nat.le_refl _, by omega, fun h => by simp at h, fun y hy => by simp at hy⟩
  · simp [Value.cells] at hcs
    obtain ⟨rfl, rfl, rfl⟩ := hcs
    have hm' : m = cap := by simpa using hmm
    subst hm'
    simp only [Prod.mk.injEq] at hx
    obtain ⟨rfl, _⟩ := hx
    have hfe := (fits_slice hf ht).2
    rw [hC] at hcell
    have each : ∀ i, i < len → ∃ q : ActD × Value, (∃ ao ln cp, q.2 = .slice ao ln cp ∧ ActOk W q.1 q.2) ∧ W.cells? 0 (x.add (i * 5)) 5 = some (actC q.1 q.2) := by
      intro i hi
      obtain ⟨cs', h1, h2⟩ := hcell i (by omega)
      obtain ⟨a', ao, ln, cp, rfl, hok⟩ := read_act hs hone hC u0 u1 u2 u3 u4 ue ce be h2 (hfe _ (List.mem_map.2 ⟨i, List.mem_range.2 hi, rfl⟩))
      exact ⟨(a', .slice ao ln cp), ⟨ao, ln, cp, rfl, hok⟩, h1⟩
    obtain ⟨q, hq⟩ := Deep.choose_lt each
    have hlen : ((List.range len).map q).length = len := by simp
    refine ⟨(List.range len).map q, some x, m, by rw [hlen], by rw [hlen]; exact hl, by unfold maxLen at hm; omega, fun h0 => ?_, ?_⟩
    · rw [hlen] at h0
      obtain ⟨b, o, sp⟩ := x
      have hc0 := (World.cells?_some (hq 0 h0).2).2.2 0 (by omega)
      simp only [actC, List.getElem?_cons_zero] at hc0
      have hsp : sp = none := by simpa [Addr.add] using World.cell?_spot hc0
      subst hsp
      refine ⟨b, o, rfl, fun j hj k u hu => ?_⟩
      rw [hlen] at hj
      simp only [List.getElem_map, List.getElem_range] at hu
      have hk : k < 5 := by have := (List.getElem?_eq_some_iff.1 hu).1; simpa [actC] using this
      have hh := (World.cells?_some (hq j hj).2).2.2 k hk
      rw [add_none, add_none] at hh
      rw [hh]; exact hu
    · intro y hy
      obtain ⟨i, hi, rfl⟩ := List.mem_map.1 hy
      exact (hq i (List.mem_range.1 hi)).1

/-- a row of rows of bools -/
def SlR (w : World) (v : Value) (l : List (Value × List Bool)) : Prop :=
  ∃ ao c, v = .slice ao l.length c ∧ l.length ≤ c ∧ c ≤ 9223372036854775807 ∧ (0 < l.length → ∃ b o, ao = some ⟨b, o, none⟩ ∧ ∀ j (hj : j < l.length), w.cell? ⟨b, o + j, none⟩ = some l[j].1) ∧
    ∀ y ∈ l, ∃ ao cp, y.1 = .slice ao y.2.length cp ∧ Sl w y.1 (y.2.map Value.bool) ∧ y.2.length ≤ 140737488351232

theorem read_rows {t e q : TypeId} {v : Value} {d : DataW H} {p : List MemPlace} (ht : Try.prog.underlying t = some (.slice e)) (he : Try.prog.underlying e = some (.slice q)) (hq : Try.prog.underlying q = some .bool) (ce : Try.prog.cellsOf e = 1) (cq : Try.prog.cellsOf q = 1) (bq : Try.prog.bytesOf q = 1)
    (hv : ∃ a len cap, v = .slice a len cap) (h : DataW.Trod enc Try.prog W 0 (fun _ => true) true t v d p) (hf : Fits Try.prog t d) : ∃ l, SlR W v l := by
  obtain ⟨a, len, cap, rfl⟩ := hv
  obtain ⟨fuel, hfu⟩ := h
  rcases Deep.open_slice1 ht ce hfu with ⟨hcs, _⟩ | ⟨x, l, c, m, n, V, D, Pl, hcs, _, hl, hm, hmm, hx, hcell⟩
  · simp [Value.cells] at hcs
    obtain ⟨rfl, rfl, rfl⟩ := hcs
    exact ⟨[], none, 0, rfl, Nat.le_refl _, by omega, fun h => by simp at h, fun y hy => by simp at hy⟩
  · simp [Value.cells] at hcs
    obtain ⟨rfl, rfl, rfl⟩ := hcs
    have hm' : m = cap := by simpa using hmm
    subst hm'
    simp only [Prod.mk.injEq] at hx
    obtain ⟨rfl, _⟩ := hx
    have hfe := (fits_slice hf ht).2
    have each : ∀ i, i < len → ∃ q : Value × List Bool, (∃ ao cp, q.1 = .slice ao q.2.length cp ∧ Sl W q.1 (q.2.map Value.bool) ∧ q.2.length ≤ 140737488351232) ∧ W.cell? (x.add i) = some q.1 := by
      intro i hi
      obtain ⟨h1, h2⟩ := hcell i (by omega)
      obtain ⟨ao, ln, cp, bs, e1, hsl, rfl, _, _, hr⟩ := read_bools he hq cq bq h2 (hfe _ (List.mem_map.2 ⟨i, List.mem_range.2 hi, rfl⟩))
      simp only [List.cons.injEq, and_true] at e1
      exact ⟨(.slice ao bs.length cp, bs), ⟨ao, cp, rfl, hsl, hr⟩, by rw [h1, e1]⟩
    obtain ⟨q, hq⟩ := Deep.choose_lt each
    have hlen : ((List.range len).map q).length = len := by simp
    refine ⟨(List.range len).map q, some x, m, by rw [hlen], by rw [hlen]; exact hl, by unfold maxLen at hm; omega, fun h0 => ?_, ?_⟩
    · rw [hlen] at h0
      obtain ⟨b, o, sp⟩ := x
      have hc0 := (hq 0 h0).2
      have hsp : sp = none := by simpa [Addr.add] using World.cell?_spot hc0
      subst hsp
      refine ⟨b, o, rfl, fun j hj => ?_⟩
      rw [hlen] at hj
      have hh := (hq j hj).2
      rw [add_none] at hh
      simpa using hh
    · intro y hy
      obtain ⟨i, hi, rfl⟩ := List.mem_map.1 hy
      exact (hq i (List.mem_range.1 hi)).1

end

end Go.Proofs.Yticcjaccpcnjhaa

/-
  append where there is room, of a slice and of noughts, to a row of the call's own: as laws for the walk. No program in sight. Conditions: none.
-/
import Derived.Test.YtkbhehnpgnilmaaLib
import Derived.Lib.AppendZeros
namespace Go.Proofs.Ytkbhehnpgnilmaa
open Go Go.RowKit

theorem Own.parts {w : World} {base g n c : Nat} {e : TypeId} {xs : List Value} (h : w.ownsRow base e 1 (.slice (some ⟨g, 0, none⟩) n c) n xs) :
    xs.length = n ∧ ∃ cur : Array Value, base ≤ g ∧ w.heap[g]? = some (.cells cur e (0, 0)) ∧ n ≤ c ∧ c ≤ maxLen ∧ cur.size = c ∧ cur.toList.take n = xs := by
  obtain ⟨h1, h2 | ⟨g', cap, cur, hv, hg, hh, hn, hc, hs, ht⟩⟩ := h
  · cases h2.1
  · cases hv
    exact ⟨by simpa using h1, cur, hg, hh, hn, hc, by simpa using hs, by simpa using ht⟩

theorem own_setRow {w : World} {base g n c : Nat} {e : TypeId} {xs : List Value} (h : w.ownsRow base e 1 (.slice (some ⟨g, 0, none⟩) n c) n xs) (news : List Value) (m : Nat) (hm : news.length = m) (hr : n + m ≤ c) (cur : Array Value)
    (hg : w.heap[g]? = some (.cells cur e (0, 0))) :
    (w.setRow g (cur.toList.take n ++ news ++ cur.toList.drop (n + news.length)).toArray).ownsRow base e 1 (.slice (some ⟨g, 0, none⟩) (n + m) c) (n + m) (xs ++ news) ∧ Ch (· = g) w (w.setRow g (cur.toList.take n ++ news ++ cur.toList.drop (n + news.length)).toArray) := by
  obtain ⟨h1, cur', hb, hg', hn, hc, hs, ht⟩ := Own.parts h
  rw [hg] at hg'
  cases hg'
  subst hm
  refine ⟨⟨by simp [h1], .inr ⟨g, c, _, rfl, hb, setRow_heap w g cur _ e _ hg, hr, hc, ?_, ?_⟩⟩, ⟨rfl, rfl, rfl, by simp, fun k _ hk => setRow_other w g k _ hk⟩⟩
  · simp only [List.size_toArray, List.length_append, List.length_take, List.length_drop, Array.length_toList]
    omega
  · rw [ht, show (n + news.length) * 1 = (xs ++ news).length by simp [h1]]
    exact List.take_left

theorem wpList_append_room {P : Program} (w : World) {ops : Array Oper} {rest : List Oper} {o : Oper} {a : Act} {Q : Exit → Act → World → Prop} (hgd : o.guard = none) (s x : Operand) (t : TypeId)
    (ho : o.op = .call { callee := .builtin .append, args := #[s, x], argTypes := #[t, t] })
    (base : Nat) (e : TypeId) (i : TypeInfo) (ht : P.underlying t = some (.slice e)) (hi : P.info? e = some i) (hsize : i.size = 1)
    (g n c : Nat) (xs : List Value) (hs : a.eval s = .slice (some ⟨g, 0, none⟩) n c) (hown : w.ownsRow base e 1 (.slice (some ⟨g, 0, none⟩) n c) n xs)
    (ad : Addr) (m c' : Nat) (news : List Value) (hx : a.eval x = .slice (some ad) m c') (hl : news.length = m) (hnews : ∀ j u, news[j]? = some u → w.cell? (ad.add j) = some u) (h1 : ∀ u ∈ news, u.oneCell' = true)
    (hr : n + m ≤ c) (h : ∀ w', w'.ownsRow base e 1 (.slice (some ⟨g, 0, none⟩) (n + m) c) (n + m) (xs ++ news) → Ch (· = g) w w' → wpList P ops Q rest (a.put o.dst (.slice (some ⟨g, 0, none⟩) (n + m) c)) w') :
    wpList P ops Q (o :: rest) a w := by
  obtain ⟨hxs, cur, hb, hg, hn, hc, hsz, htk⟩ := Own.parts hown
  have hrun := run_append_room (P := P) w t o.type e i ht hi g n c cur hg ad m c' news (by rw [hsize]; omega) hnews h1 hr (by rw [hsize, hsz]; omega)
  rw [hsize, Nat.mul_one] at hrun
  have h2 := own_setRow hown news m hl hr cur hg
  exact Lib.wpList_append_run w hgd s x t t ho _ _ hs hx _ _ hrun (h _ h2.1 h2.2)

theorem run_zeros_room {P : Program} (w : World) (t tn ty e : TypeId) (i : TypeInfo) (z : Value) (k kn : IntKind) (ht : P.underlying t = some (.slice e)) (htn : P.underlying tn = some (.int kn)) (hi : P.info? e = some i) (hz : i.zero = some z) (hsize : i.size = 1) (hzc : z.cells = #[z]) (h1 : z.oneCell' = true)
    (g n c m : Nat) (cur : Array Value) (hg : w.heap[g]? = some (.cells cur e (0, 0))) (hcs : cur.size = c) (hr : n + m ≤ c) (hm : m ≤ 9223372036854775807) (h48 : m * i.bytes ≤ 281474976710656) :
    (Builtin.append_ #[t, tn] ty #[.slice (some ⟨g, 0, none⟩) n c, .int k m]).run P w =
      .ok (.slice (some ⟨g, 0, none⟩) (n + m) c) (w.setRow g (cur.toList.take n ++ List.replicate m z ++ cur.toList.drop (n + (List.replicate m z).length)).toArray) := by
  have hw : IntKind.i64.wrap (m : Int) = m := by rw [IntKind.wrap_i64]; omega
  have h48i : ¬ (281474976710656 < (m : Int) * (i.bytes : Int)) := by
    rw [← Int.natCast_mul]
    omega
  have hneg : ¬ ((m : Int) < 0) := by omega
  have hst := run_storeCells_at P g n e (List.replicate m z) 0 cur w hg (by simp; omega) (fun u hu => by rw [(List.mem_replicate.1 hu).2]; exact h1)
  simp only [Nat.add_zero] at hst
  have hzz : (Builtin.zeroCells z.cells m).toList = List.replicate m z := by
    rw [hzc]
    simp [Builtin.zeroCells, Nat.mod_one]
    apply List.ext_getElem
    · simp
    · intro j h1 h2; simp
  by_cases h0 : m = 0
  · subst h0
    simp only [List.replicate_zero] at hst ⊢
    simp [Builtin.append_, run_underlying ht, run_underlying htn, sizeOf, typeInfo, zeroValue, hi, hz, asInt, asIntOf, hsize, Addr.add_lit] at hst ⊢
    have hn : n ≤ c := by omega
    have hw0 : IntKind.i64.wrap 0 = 0 := by rw [IntKind.wrap_i64]; rfl
    simp [hn, hw0, hst]
  · simp [Builtin.append_, run_underlying ht, run_underlying htn, sizeOf, typeInfo, zeroValue, hi, hz, asInt, asIntOf, hw, hneg, h48i, hr, hsize, h0, Addr.add_lit, hzz, hst]

theorem wpList_zeros_room {P : Program} (w : World) {ops : Array Oper} {rest : List Oper} {o : Oper} {a : Act} {Q : Exit → Act → World → Prop} (hgd : o.guard = none) (s x : Operand) (t tn : TypeId)
    (ho : o.op = .call { callee := .builtin .append, args := #[s, x], argTypes := #[t, tn] })
    (base : Nat) (e : TypeId) (i : TypeInfo) (z : Value) (k kn : IntKind) (ht : P.underlying t = some (.slice e)) (htn : P.underlying tn = some (.int kn)) (hi : P.info? e = some i) (hz : i.zero = some z) (hsize : i.size = 1) (hzc : z.cells = #[z]) (h1 : z.oneCell' = true)
    (g n c m : Nat) (M : Int) (hM : M = m) (xs : List Value) (hs : a.eval s = .slice (some ⟨g, 0, none⟩) n c) (hown : w.ownsRow base e 1 (.slice (some ⟨g, 0, none⟩) n c) n xs)
    (hx : a.eval x = .int k M) (hm : m ≤ 9223372036854775807) (h48 : m * i.bytes ≤ 281474976710656)
    (hr : n + m ≤ c) (h : ∀ w', w'.ownsRow base e 1 (.slice (some ⟨g, 0, none⟩) (n + m) c) (n + m) (xs ++ List.replicate m z) → Ch (· = g) w w' → wpList P ops Q rest (a.put o.dst (.slice (some ⟨g, 0, none⟩) (n + m) c)) w') :
    wpList P ops Q (o :: rest) a w := by
  subst hM
  obtain ⟨hxs, cur, hb, hg, hn, hc, hsz, htk⟩ := Own.parts hown
  have hrun := run_zeros_room (P := P) w t tn o.type e i z k kn ht htn hi hz hsize hzc h1 g n c m cur hg hsz hr hm h48
  have h2 := own_setRow hown (List.replicate m z) m List.length_replicate hr cur hg
  exact Lib.wpList_append_run w hgd s x t tn ho _ _ hs hx _ _ hrun (h _ h2.1 h2.2)

end Go.Proofs.Ytkbhehnpgnilmaa

/-
  A block of many lanes at once; the words of a digest behind two or three bytes; steps one behind the other. Plain mathematics. Conditions: numbers below 2^32.
-/
import Derived.Test.YtkbhehnpgnilmaaPkB
namespace Go.Proofs.Ytkbhehnpgnilmaa
open Go Go.RowKit
set_option linter.unusedSimpArgs false

/-- rows of m numbers, a row a lane -/
def pkL (n m : Nat) (X : Nat → List Nat) : List Nat := (List.range m).map (fun q => pkF n (fun i => (X i).getD q 0))

theorem goS_good : ∀ (ks : List Nat) (a b c d e f g h w0 w1 w2 w3 w4 w5 w6 w7 w8 w9 w10 w11 w12 w13 w14 w15 : Nat), a < 4294967296 → b < 4294967296 → c < 4294967296 → d < 4294967296 → e < 4294967296 → f < 4294967296 → g < 4294967296 → h < 4294967296 → (goS ks a b c d e f g h w0 w1 w2 w3 w4 w5 w6 w7 w8 w9 w10 w11 w12 w13 w14 w15).length = 8 ∧ All32 (goS ks a b c d e f g h w0 w1 w2 w3 w4 w5 w6 w7 w8 w9 w10 w11 w12 w13 w14 w15)
  | [], a, b, c, d, e, f, g, h, _, _, _, _, _, _, _, _, _, _, _, _, _, _, _, _, ha, hb, hc, hd, he, hf, hg, hh => ⟨rfl, fun x hx => by
    show x < 4294967296
    have hx : x ∈ [a, b, c, d, e, f, g, h] := hx
    simp only [List.mem_cons, List.not_mem_nil, or_false] at hx
    rcases hx with rfl | rfl | rfl | rfl | rfl | rfl | rfl | rfl <;> assumption⟩
  | k :: ks, a, b, c, d, e, f, g, h, w0, w1, w2, w3, w4, w5, w6, w7, w8, w9, w10, w11, w12, w13, w14, w15, ha, hb, hc, _, he, hf, hg, _ => goS_good ks _ _ _ _ _ _ _ _ _ _ _ _ _ _ _ _ _ _ _ _ _ _ _ _ (add32_lt _ _) ha hb hc (add32_lt _ _) he hf hg

noncomputable def add8 {α : Type} (M a b c d e f g h : Nat) (r : List Nat) (k : List Nat → α) : α :=
  match r with
  | [a', b', c', d', e', f', g', h'] => onF (Nat.land (Nat.add a a') M) fun a => onF (Nat.land (Nat.add b b') M) fun b => onF (Nat.land (Nat.add c c') M) fun c => onF (Nat.land (Nat.add d d') M) fun d => onF (Nat.land (Nat.add e e') M) fun e => onF (Nat.land (Nat.add f f') M) fun f => onF (Nat.land (Nat.add g g') M) fun g => onF (Nat.land (Nat.add h h') M) fun h => k [a, b, c, d, e, f, g, h]
  | _ => k []
theorem add8_eq {α : Type} (M a b c d e f g h ra rb rc rd re rf rg rh : Nat) (k : List Nat → α) : add8 M a b c d e f g h [ra, rb, rc, rd, re, rf, rg, rh] k = k [Nat.land (Nat.add a ra) M, Nat.land (Nat.add b rb) M, Nat.land (Nat.add c rc) M, Nat.land (Nat.add d rd) M, Nat.land (Nat.add e re) M, Nat.land (Nat.add f rf) M, Nat.land (Nat.add g rg) M, Nat.land (Nat.add h rh) M] := by
  show (onF (Nat.land (Nat.add a ra) M) fun a => onF (Nat.land (Nat.add b rb) M) fun b => onF (Nat.land (Nat.add c rc) M) fun c => onF (Nat.land (Nat.add d rd) M) fun d => onF (Nat.land (Nat.add e re) M) fun e => onF (Nat.land (Nat.add f rf) M) fun f => onF (Nat.land (Nat.add g rg) M) fun g => onF (Nat.land (Nat.add h rh) M) fun h => k [a, b, c, d, e, f, g, h]) = _
  rw [onF_eq, onF_eq, onF_eq, onF_eq, onF_eq, onF_eq, onF_eq, onF_eq]
/-- a block, all lanes -/
noncomputable def blkP {α : Type} (M O : Nat) (H w : List Nat) (k : List Nat → α) : α :=
  match H, w with
  | [a, b, c, d, e, f, g, h], [w0, w1, w2, w3, w4, w5, w6, w7, w8, w9, w10, w11, w12, w13, w14, w15] => add8 M a b c d e f g h (goP M O K64 a b c d e f g h w0 w1 w2 w3 w4 w5 w6 w7 w8 w9 w10 w11 w12 w13 w14 w15) k
  | _, _ => k []

theorem add_pk {f g : Nat → Nat} (n : Nat) (hf : L32 f) (hg : L32 g) : Nat.land (Nat.add (pkF n f) (pkF n g)) (MK n) = pkF n (fun i => add32 (f i) (g i)) := by
  rw [pk_add, pk_mask]
  · rfl
  · intro i
    have h1 := hf i
    have h2 := hg i
    show f i + g i < 18446744073709551616
    omega

theorem K64_lt : ∀ k ∈ K64, k < 4294967296 := by decide

theorem blockW_get {hs ws : List Nat} (hh : hs.length = 8) (h32 : All32 hs) (q : Nat) (hq : q < 8) : (blockW hs ws).getD q 0 = add32 (hs.getD q 0) ((goS K64 (hs.getD 0 0) (hs.getD 1 0) (hs.getD 2 0) (hs.getD 3 0) (hs.getD 4 0) (hs.getD 5 0) (hs.getD 6 0) (hs.getD 7 0) (ws.getD 0 0) (ws.getD 1 0) (ws.getD 2 0) (ws.getD 3 0) (ws.getD 4 0) (ws.getD 5 0) (ws.getD 6 0) (ws.getD 7 0) (ws.getD 8 0) (ws.getD 9 0) (ws.getD 10 0) (ws.getD 11 0) (ws.getD 12 0) (ws.getD 13 0) (ws.getD 14 0) (ws.getD 15 0)).getD q 0) := by
  have hg := goS_good K64 (hs.getD 0 0) (hs.getD 1 0) (hs.getD 2 0) (hs.getD 3 0) (hs.getD 4 0) (hs.getD 5 0) (hs.getD 6 0) (hs.getD 7 0) (ws.getD 0 0) (ws.getD 1 0) (ws.getD 2 0) (ws.getD 3 0) (ws.getD 4 0) (ws.getD 5 0) (ws.getD 6 0) (ws.getD 7 0) (ws.getD 8 0) (ws.getD 9 0) (ws.getD 10 0) (ws.getD 11 0) (ws.getD 12 0) (ws.getD 13 0) (ws.getD 14 0) (ws.getD 15 0) (h32.getD _) (h32.getD _) (h32.getD _) (h32.getD _) (h32.getD _) (h32.getD _) (h32.getD _) (h32.getD _)
  unfold blockW
  rw [zip8 hh hg.1, List.getD_eq_getElem?_getD, List.getElem?_map, List.getElem?_range hq]
  show add32 _ _ = add32 _ _
  unfold add32
  rw [Nat.add_comm]
theorem blockW_good {hs ws : List Nat} (hh : hs.length = 8) (h32 : All32 hs) : (blockW hs ws).length = 8 ∧ All32 (blockW hs ws) := by
  have hg := goS_good K64 (hs.getD 0 0) (hs.getD 1 0) (hs.getD 2 0) (hs.getD 3 0) (hs.getD 4 0) (hs.getD 5 0) (hs.getD 6 0) (hs.getD 7 0) (ws.getD 0 0) (ws.getD 1 0) (ws.getD 2 0) (ws.getD 3 0) (ws.getD 4 0) (ws.getD 5 0) (ws.getD 6 0) (ws.getD 7 0) (ws.getD 8 0) (ws.getD 9 0) (ws.getD 10 0) (ws.getD 11 0) (ws.getD 12 0) (ws.getD 13 0) (ws.getD 14 0) (ws.getD 15 0) (h32.getD _) (h32.getD _) (h32.getD _) (h32.getD _) (h32.getD _) (h32.getD _) (h32.getD _) (h32.getD _)
  unfold blockW
  rw [zip8 hh hg.1]
  refine ⟨by simp, fun x hx => ?_⟩
  obtain ⟨j, _, rfl⟩ := List.mem_map.1 hx
  exact add32_lt _ _

theorem blkP_eq {α : Type} (n : Nat) (hs ws : Nat → List Nat) (hh : ∀ i, (hs i).length = 8 ∧ All32 (hs i)) (hw : ∀ i, All32 (ws i)) (k : List Nat → α) :
    blkP (MK n) (ON n) (pkL n 8 hs) (pkL n 16 ws) k = k (pkL n 8 (fun i => blockW (hs i) (ws i))) := by
  have hH : ∀ q, L32 (fun i => (hs i).getD q 0) := fun q i => (hh i).2.getD q
  have hW : ∀ q, L32 (fun i => (ws i).getD q 0) := fun q i => (hw i).getD q
  have hg : ∀ q, L32 (fun i => (goS K64 ((hs i).getD 0 0) ((hs i).getD 1 0) ((hs i).getD 2 0) ((hs i).getD 3 0) ((hs i).getD 4 0) ((hs i).getD 5 0) ((hs i).getD 6 0) ((hs i).getD 7 0) ((ws i).getD 0 0) ((ws i).getD 1 0) ((ws i).getD 2 0) ((ws i).getD 3 0) ((ws i).getD 4 0) ((ws i).getD 5 0) ((ws i).getD 6 0) ((ws i).getD 7 0) ((ws i).getD 8 0) ((ws i).getD 9 0) ((ws i).getD 10 0) ((ws i).getD 11 0) ((ws i).getD 12 0) ((ws i).getD 13 0) ((ws i).getD 14 0) ((ws i).getD 15 0)).getD q 0) := fun q i => (goS_good K64 ((hs i).getD 0 0) ((hs i).getD 1 0) ((hs i).getD 2 0) ((hs i).getD 3 0) ((hs i).getD 4 0) ((hs i).getD 5 0) ((hs i).getD 6 0) ((hs i).getD 7 0) ((ws i).getD 0 0) ((ws i).getD 1 0) ((ws i).getD 2 0) ((ws i).getD 3 0) ((ws i).getD 4 0) ((ws i).getD 5 0) ((ws i).getD 6 0) ((ws i).getD 7 0) ((ws i).getD 8 0) ((ws i).getD 9 0) ((ws i).getD 10 0) ((ws i).getD 11 0) ((ws i).getD 12 0) ((ws i).getD 13 0) ((ws i).getD 14 0) ((ws i).getD 15 0) ((hh i).2.getD _) ((hh i).2.getD _) ((hh i).2.getD _) ((hh i).2.getD _) ((hh i).2.getD _) ((hh i).2.getD _) ((hh i).2.getD _) ((hh i).2.getD _)).2.getD q
  have e := goP_eq n K64 K64_lt (fun i => (hs i).getD 0 0) (fun i => (hs i).getD 1 0) (fun i => (hs i).getD 2 0) (fun i => (hs i).getD 3 0) (fun i => (hs i).getD 4 0) (fun i => (hs i).getD 5 0) (fun i => (hs i).getD 6 0) (fun i => (hs i).getD 7 0) (fun i => (ws i).getD 0 0) (fun i => (ws i).getD 1 0) (fun i => (ws i).getD 2 0) (fun i => (ws i).getD 3 0) (fun i => (ws i).getD 4 0) (fun i => (ws i).getD 5 0) (fun i => (ws i).getD 6 0) (fun i => (ws i).getD 7 0) (fun i => (ws i).getD 8 0) (fun i => (ws i).getD 9 0) (fun i => (ws i).getD 10 0) (fun i => (ws i).getD 11 0) (fun i => (ws i).getD 12 0) (fun i => (ws i).getD 13 0) (fun i => (ws i).getD 14 0) (fun i => (ws i).getD 15 0) (hH 0) (hH 1) (hH 2) (hH 3) (hH 4) (hH 5) (hH 6) (hH 7) (hW 0) (hW 1) (hW 2) (hW 3) (hW 4) (hW 5) (hW 6) (hW 7) (hW 8) (hW 9) (hW 10) (hW 11) (hW 12) (hW 13) (hW 14) (hW 15)
  show add8 (MK n) (pkF n (fun i => (hs i).getD 0 0)) (pkF n (fun i => (hs i).getD 1 0)) (pkF n (fun i => (hs i).getD 2 0)) (pkF n (fun i => (hs i).getD 3 0)) (pkF n (fun i => (hs i).getD 4 0)) (pkF n (fun i => (hs i).getD 5 0)) (pkF n (fun i => (hs i).getD 6 0)) (pkF n (fun i => (hs i).getD 7 0)) (goP (MK n) (ON n) K64 (pkF n (fun i => (hs i).getD 0 0)) (pkF n (fun i => (hs i).getD 1 0)) (pkF n (fun i => (hs i).getD 2 0)) (pkF n (fun i => (hs i).getD 3 0)) (pkF n (fun i => (hs i).getD 4 0)) (pkF n (fun i => (hs i).getD 5 0)) (pkF n (fun i => (hs i).getD 6 0)) (pkF n (fun i => (hs i).getD 7 0)) (pkF n (fun i => (ws i).getD 0 0)) (pkF n (fun i => (ws i).getD 1 0)) (pkF n (fun i => (ws i).getD 2 0)) (pkF n (fun i => (ws i).getD 3 0)) (pkF n (fun i => (ws i).getD 4 0)) (pkF n (fun i => (ws i).getD 5 0)) (pkF n (fun i => (ws i).getD 6 0)) (pkF n (fun i => (ws i).getD 7 0)) (pkF n (fun i => (ws i).getD 8 0)) (pkF n (fun i => (ws i).getD 9 0)) (pkF n (fun i => (ws i).getD 10 0)) (pkF n (fun i => (ws i).getD 11 0)) (pkF n (fun i => (ws i).getD 12 0)) (pkF n (fun i => (ws i).getD 13 0)) (pkF n (fun i => (ws i).getD 14 0)) (pkF n (fun i => (ws i).getD 15 0))) k = _
  rw [e]
  show add8 (MK n) (pkF n (fun i => (hs i).getD 0 0)) (pkF n (fun i => (hs i).getD 1 0)) (pkF n (fun i => (hs i).getD 2 0)) (pkF n (fun i => (hs i).getD 3 0)) (pkF n (fun i => (hs i).getD 4 0)) (pkF n (fun i => (hs i).getD 5 0)) (pkF n (fun i => (hs i).getD 6 0)) (pkF n (fun i => (hs i).getD 7 0)) [pkF n (fun i => (goS K64 ((hs i).getD 0 0) ((hs i).getD 1 0) ((hs i).getD 2 0) ((hs i).getD 3 0) ((hs i).getD 4 0) ((hs i).getD 5 0) ((hs i).getD 6 0) ((hs i).getD 7 0) ((ws i).getD 0 0) ((ws i).getD 1 0) ((ws i).getD 2 0) ((ws i).getD 3 0) ((ws i).getD 4 0) ((ws i).getD 5 0) ((ws i).getD 6 0) ((ws i).getD 7 0) ((ws i).getD 8 0) ((ws i).getD 9 0) ((ws i).getD 10 0) ((ws i).getD 11 0) ((ws i).getD 12 0) ((ws i).getD 13 0) ((ws i).getD 14 0) ((ws i).getD 15 0)).getD 0 0), pkF n (fun i => (goS K64 ((hs i).getD 0 0) ((hs i).getD 1 0) ((hs i).getD 2 0) ((hs i).getD 3 0) ((hs i).getD 4 0) ((hs i).getD 5 0) ((hs i).getD 6 0) ((hs i).getD 7 0) ((ws i).getD 0 0) ((ws i).getD 1 0) ((ws i).getD 2 0) ((ws i).getD 3 0) ((ws i).getD 4 0) ((ws i).getD 5 0) ((ws i).getD 6 0) ((ws i).getD 7 0) ((ws i).getD 8 0) ((ws i).getD 9 0) ((ws i).getD 10 0) ((ws i).getD 11 0) ((ws i).getD 12 0) ((ws i).getD 13 0) ((ws i).getD 14 0) ((ws i).getD 15 0)).getD 1 0), pkF n (fun i => (goS K64 ((hs i).getD 0 0) ((hs i).getD 1 0) ((hs i).getD 2 0) ((hs i).getD 3 0) ((hs i).getD 4 0) ((hs i).getD 5 0) ((hs i).getD 6 0) ((hs i).getD 7 0) ((ws i).getD 0 0) ((ws i).getD 1 0) ((ws i).getD 2 0) ((ws i).getD 3 0) ((ws i).getD 4 0) ((ws i).getD 5 0) ((ws i).getD 6 0) ((ws i).getD 7 0) ((ws i).getD 8 0) ((ws i).getD 9 0) ((ws i).getD 10 0) ((ws i).getD 11 0) ((ws i).getD 12 0) ((ws i).getD 13 0) ((ws i).getD 14 0) ((ws i).getD 15 0)).getD 2 0), pkF n (fun i => (goS K64 ((hs i).getD 0 0) ((hs i).getD 1 0) ((hs i).getD 2 0) ((hs i).getD 3 0) ((hs i).getD 4 0) ((hs i).getD 5 0) ((hs i).getD 6 0) ((hs i).getD 7 0) ((ws i).getD 0 0) ((ws i).getD 1 0) ((ws i).getD 2 0) ((ws i).getD 3 0) ((ws i).getD 4 0) ((ws i).getD 5 0) ((ws i).getD 6 0) ((ws i).getD 7 0) ((ws i).getD 8 0) ((ws i).getD 9 0) ((ws i).getD 10 0) ((ws i).getD 11 0) ((ws i).getD 12 0) ((ws i).getD 13 0) ((ws i).getD 14 0) ((ws i).getD 15 0)).getD 3 0), pkF n (fun i => (goS K64 ((hs i).getD 0 0) ((hs i).getD 1 0) ((hs i).getD 2 0) ((hs i).getD 3 0) ((hs i).getD 4 0) ((hs i).getD 5 0) ((hs i).getD 6 0) ((hs i).getD 7 0) ((ws i).getD 0 0) ((ws i).getD 1 0) ((ws i).getD 2 0) ((ws i).getD 3 0) ((ws i).getD 4 0) ((ws i).getD 5 0) ((ws i).getD 6 0) ((ws i).getD 7 0) ((ws i).getD 8 0) ((ws i).getD 9 0) ((ws i).getD 10 0) ((ws i).getD 11 0) ((ws i).getD 12 0) ((ws i).getD 13 0) ((ws i).getD 14 0) ((ws i).getD 15 0)).getD 4 0), pkF n (fun i => (goS K64 ((hs i).getD 0 0) ((hs i).getD 1 0) ((hs i).getD 2 0) ((hs i).getD 3 0) ((hs i).getD 4 0) ((hs i).getD 5 0) ((hs i).getD 6 0) ((hs i).getD 7 0) ((ws i).getD 0 0) ((ws i).getD 1 0) ((ws i).getD 2 0) ((ws i).getD 3 0) ((ws i).getD 4 0) ((ws i).getD 5 0) ((ws i).getD 6 0) ((ws i).getD 7 0) ((ws i).getD 8 0) ((ws i).getD 9 0) ((ws i).getD 10 0) ((ws i).getD 11 0) ((ws i).getD 12 0) ((ws i).getD 13 0) ((ws i).getD 14 0) ((ws i).getD 15 0)).getD 5 0), pkF n (fun i => (goS K64 ((hs i).getD 0 0) ((hs i).getD 1 0) ((hs i).getD 2 0) ((hs i).getD 3 0) ((hs i).getD 4 0) ((hs i).getD 5 0) ((hs i).getD 6 0) ((hs i).getD 7 0) ((ws i).getD 0 0) ((ws i).getD 1 0) ((ws i).getD 2 0) ((ws i).getD 3 0) ((ws i).getD 4 0) ((ws i).getD 5 0) ((ws i).getD 6 0) ((ws i).getD 7 0) ((ws i).getD 8 0) ((ws i).getD 9 0) ((ws i).getD 10 0) ((ws i).getD 11 0) ((ws i).getD 12 0) ((ws i).getD 13 0) ((ws i).getD 14 0) ((ws i).getD 15 0)).getD 6 0), pkF n (fun i => (goS K64 ((hs i).getD 0 0) ((hs i).getD 1 0) ((hs i).getD 2 0) ((hs i).getD 3 0) ((hs i).getD 4 0) ((hs i).getD 5 0) ((hs i).getD 6 0) ((hs i).getD 7 0) ((ws i).getD 0 0) ((ws i).getD 1 0) ((ws i).getD 2 0) ((ws i).getD 3 0) ((ws i).getD 4 0) ((ws i).getD 5 0) ((ws i).getD 6 0) ((ws i).getD 7 0) ((ws i).getD 8 0) ((ws i).getD 9 0) ((ws i).getD 10 0) ((ws i).getD 11 0) ((ws i).getD 12 0) ((ws i).getD 13 0) ((ws i).getD 14 0) ((ws i).getD 15 0)).getD 7 0)] k = _
  rw [add8_eq, add_pk n (hH 0) (hg 0), add_pk n (hH 1) (hg 1), add_pk n (hH 2) (hg 2), add_pk n (hH 3) (hg 3), add_pk n (hH 4) (hg 4), add_pk n (hH 5) (hg 5), add_pk n (hH 6) (hg 6), add_pk n (hH 7) (hg 7)]
  have e2 : ∀ q, q < 8 → pkF n (fun i => add32 ((hs i).getD q 0) ((goS K64 ((hs i).getD 0 0) ((hs i).getD 1 0) ((hs i).getD 2 0) ((hs i).getD 3 0) ((hs i).getD 4 0) ((hs i).getD 5 0) ((hs i).getD 6 0) ((hs i).getD 7 0) ((ws i).getD 0 0) ((ws i).getD 1 0) ((ws i).getD 2 0) ((ws i).getD 3 0) ((ws i).getD 4 0) ((ws i).getD 5 0) ((ws i).getD 6 0) ((ws i).getD 7 0) ((ws i).getD 8 0) ((ws i).getD 9 0) ((ws i).getD 10 0) ((ws i).getD 11 0) ((ws i).getD 12 0) ((ws i).getD 13 0) ((ws i).getD 14 0) ((ws i).getD 15 0)).getD q 0)) = pkF n (fun i => (blockW (hs i) (ws i)).getD q 0) := fun q hq => pk_congr n (fun i _ => (blockW_get (hh i).1 (hh i).2 q hq).symm)
  rw [e2 0 (by omega), e2 1 (by omega), e2 2 (by omega), e2 3 (by omega), e2 4 (by omega), e2 5 (by omega), e2 6 (by omega), e2 7 (by omega)]
  rfl

/-- sixteen numbers, reckoned -/
noncomputable def force16 {α : Type} (w : List Nat) (k : List Nat → α) : α :=
  match w with
  | [w0, w1, w2, w3, w4, w5, w6, w7, w8, w9, w10, w11, w12, w13, w14, w15] => onF w0 fun w0 => onF w1 fun w1 => onF w2 fun w2 => onF w3 fun w3 => onF w4 fun w4 => onF w5 fun w5 => onF w6 fun w6 => onF w7 fun w7 => onF w8 fun w8 => onF w9 fun w9 => onF w10 fun w10 => onF w11 fun w11 => onF w12 fun w12 => onF w13 fun w13 => onF w14 fun w14 => onF w15 fun w15 => k [w0, w1, w2, w3, w4, w5, w6, w7, w8, w9, w10, w11, w12, w13, w14, w15]
  | _ => k w
theorem force16_eq {α : Type} (w : List Nat) (k : List Nat → α) : force16 w k = k w := by
  unfold force16
  split
  · rw [onF_eq, onF_eq, onF_eq, onF_eq, onF_eq, onF_eq, onF_eq, onF_eq, onF_eq, onF_eq, onF_eq, onF_eq, onF_eq, onF_eq, onF_eq, onF_eq]
  · rfl

/-- the words of a digest behind bytes: their number p, turned -/
def preW (p r l tail bits : Nat) (X : List Nat) : List Nat :=
  [p + X.getD 0 0 / 2 ^ r, X.getD 0 0 * 2 ^ l % 4294967296 + X.getD 1 0 / 2 ^ r, X.getD 1 0 * 2 ^ l % 4294967296 + X.getD 2 0 / 2 ^ r, X.getD 2 0 * 2 ^ l % 4294967296 + X.getD 3 0 / 2 ^ r, X.getD 3 0 * 2 ^ l % 4294967296 + X.getD 4 0 / 2 ^ r, X.getD 4 0 * 2 ^ l % 4294967296 + X.getD 5 0 / 2 ^ r, X.getD 5 0 * 2 ^ l % 4294967296 + X.getD 6 0 / 2 ^ r, X.getD 6 0 * 2 ^ l % 4294967296 + X.getD 7 0 / 2 ^ r, X.getD 7 0 * 2 ^ l % 4294967296 + tail, 0, 0, 0, 0, 0, 0, bits]
def preP (M O p r l tail bits : Nat) : List Nat → List Nat
  | [x0, x1, x2, x3, x4, x5, x6, x7] => [Nat.add p (Nat.land (Nat.shiftRight x0 r) M), Nat.add (Nat.land (Nat.mul x0 (2 ^ l)) M) (Nat.land (Nat.shiftRight x1 r) M), Nat.add (Nat.land (Nat.mul x1 (2 ^ l)) M) (Nat.land (Nat.shiftRight x2 r) M), Nat.add (Nat.land (Nat.mul x2 (2 ^ l)) M) (Nat.land (Nat.shiftRight x3 r) M), Nat.add (Nat.land (Nat.mul x3 (2 ^ l)) M) (Nat.land (Nat.shiftRight x4 r) M), Nat.add (Nat.land (Nat.mul x4 (2 ^ l)) M) (Nat.land (Nat.shiftRight x5 r) M), Nat.add (Nat.land (Nat.mul x5 (2 ^ l)) M) (Nat.land (Nat.shiftRight x6 r) M), Nat.add (Nat.land (Nat.mul x6 (2 ^ l)) M) (Nat.land (Nat.shiftRight x7 r) M), Nat.add (Nat.land (Nat.mul x7 (2 ^ l)) M) (Nat.mul tail O), Nat.mul 0 O, Nat.mul 0 O, Nat.mul 0 O, Nat.mul 0 O, Nat.mul 0 O, Nat.mul 0 O, Nat.mul bits O]
  | _ => []

theorem pk_zero (n : Nat) : pkF n (fun _ => 0) = 0 := by
  induction n with
  | zero => rfl
  | succ n ih => show pkF n _ + 0 * _ = 0; rw [ih, Nat.zero_mul]
theorem shl_pk {f : Nat → Nat} (n l : Nat) (hf : L32 f) (hl : l ≤ 32) : Nat.land (Nat.mul (pkF n f) (2 ^ l)) (MK n) = pkF n (fun i => f i * 2 ^ l % 4294967296) := by
  rw [pk_mul, pk_mask]
  intro i
  have h1 := hf i
  have h2 : 2 ^ l ≤ 2 ^ 32 := Nat.pow_le_pow_right (by omega) hl
  have h3 : f i * 2 ^ l ≤ f i * 2 ^ 32 := Nat.mul_le_mul_left _ h2
  show f i * 2 ^ l < 18446744073709551616
  omega
theorem shr_pk2 {f : Nat → Nat} (n r : Nat) (hf : L32 f) (hr : r ≤ 32) : Nat.land (Nat.shiftRight (pkF n f) r) (MK n) = pkF n (fun i => f i / 2 ^ r) := by
  rw [pk_shr n r hf.l hr]
  exact pk_congr n (fun i _ => Nat.mod_eq_of_lt (Nat.lt_of_le_of_lt (Nat.div_le_self _ _) (hf i)))

theorem preP_eq (n r l tail bits : Nat) (p : Nat → Nat) (X : Nat → List Nat) (hX : ∀ i, All32 (X i)) (hr : r ≤ 32) (hl : l ≤ 32) :
    preP (MK n) (ON n) (pkF n p) r l tail bits (pkL n 8 X) = pkL n 16 (fun i => preW (p i) r l tail bits (X i)) := by
  have hL : ∀ q, L32 (fun i => (X i).getD q 0) := fun q i => (hX i).getD q
  show [Nat.add (pkF n p) (Nat.land (Nat.shiftRight (pkF n (fun i => (X i).getD 0 0)) r) (MK n)), Nat.add (Nat.land (Nat.mul (pkF n (fun i => (X i).getD 0 0)) (2 ^ l)) (MK n)) (Nat.land (Nat.shiftRight (pkF n (fun i => (X i).getD 1 0)) r) (MK n)), Nat.add (Nat.land (Nat.mul (pkF n (fun i => (X i).getD 1 0)) (2 ^ l)) (MK n)) (Nat.land (Nat.shiftRight (pkF n (fun i => (X i).getD 2 0)) r) (MK n)), Nat.add (Nat.land (Nat.mul (pkF n (fun i => (X i).getD 2 0)) (2 ^ l)) (MK n)) (Nat.land (Nat.shiftRight (pkF n (fun i => (X i).getD 3 0)) r) (MK n)), Nat.add (Nat.land (Nat.mul (pkF n (fun i => (X i).getD 3 0)) (2 ^ l)) (MK n)) (Nat.land (Nat.shiftRight (pkF n (fun i => (X i).getD 4 0)) r) (MK n)), Nat.add (Nat.land (Nat.mul (pkF n (fun i => (X i).getD 4 0)) (2 ^ l)) (MK n)) (Nat.land (Nat.shiftRight (pkF n (fun i => (X i).getD 5 0)) r) (MK n)), Nat.add (Nat.land (Nat.mul (pkF n (fun i => (X i).getD 5 0)) (2 ^ l)) (MK n)) (Nat.land (Nat.shiftRight (pkF n (fun i => (X i).getD 6 0)) r) (MK n)), Nat.add (Nat.land (Nat.mul (pkF n (fun i => (X i).getD 6 0)) (2 ^ l)) (MK n)) (Nat.land (Nat.shiftRight (pkF n (fun i => (X i).getD 7 0)) r) (MK n)), Nat.add (Nat.land (Nat.mul (pkF n (fun i => (X i).getD 7 0)) (2 ^ l)) (MK n)) (Nat.mul tail (ON n)), Nat.mul 0 (ON n), Nat.mul 0 (ON n), Nat.mul 0 (ON n), Nat.mul 0 (ON n), Nat.mul 0 (ON n), Nat.mul 0 (ON n), Nat.mul bits (ON n)] = _
  rw [shr_pk2 n r (hL 0) hr, shr_pk2 n r (hL 1) hr, shr_pk2 n r (hL 2) hr, shr_pk2 n r (hL 3) hr, shr_pk2 n r (hL 4) hr, shr_pk2 n r (hL 5) hr, shr_pk2 n r (hL 6) hr, shr_pk2 n r (hL 7) hr, shl_pk n l (hL 0) hl, shl_pk n l (hL 1) hl, shl_pk n l (hL 2) hl, shl_pk n l (hL 3) hl, shl_pk n l (hL 4) hl, shl_pk n l (hL 5) hl, shl_pk n l (hL 6) hl, shl_pk n l (hL 7) hl, pk_con tail, pk_con 0, pk_con bits, pk_add, pk_add, pk_add, pk_add, pk_add, pk_add, pk_add, pk_add, pk_add]
  rfl

/-- digests behind two and three bytes -/
def dig2 (a c : Nat) (X : List Nat) : List Nat := blockW H8 (preW (a * 16777216 + c * 65536) 16 16 32768 272 X)
def dig3 (a c s : Nat) (X : List Nat) : List Nat := blockW H8 (preW (a * 16777216 + c * 65536 + s * 256) 24 8 128 280 X)

theorem preW_32 {p r l tail bits : Nat} {X : List Nat} (hX : All32 X) (hp : p % 2 ^ (32 - r) = 0) (hp2 : p < 4294967296) (hrl : r + l = 32) (ht : tail < 2 ^ l) (hb : bits < 4294967296) : All32 (preW p r l tail bits X) := by
  have hpow : 2 ^ r * 2 ^ l = 4294967296 := by rw [← Nat.pow_add, hrl]
  have hd : ∀ q, X.getD q 0 / 2 ^ r < 2 ^ l := fun q => Nat.div_lt_of_lt_mul (by rw [hpow]; exact hX.getD q)
  have hl0 : 0 < 2 ^ l := Nat.pow_pos (by omega)
  have key : ∀ y t, t < 2 ^ l → y % 2 ^ l = 0 → y < 4294967296 → y + t < 4294967296 := fun y t h1 h2 h3 => by
    obtain ⟨z, rfl⟩ := Nat.dvd_of_mod_eq_zero h2
    rw [← hpow, Nat.mul_comm (2 ^ r)] at h3 ⊢
    have hz : z < 2 ^ r := Nat.lt_of_mul_lt_mul_left h3
    have : 2 ^ l * z + 2 ^ l ≤ 2 ^ l * 2 ^ r := by rw [← Nat.mul_succ]; exact Nat.mul_le_mul_left _ hz
    omega
  have hm : ∀ q, (X.getD q 0 * 2 ^ l % 4294967296) % 2 ^ l = 0 := fun q => by
    rw [← hpow, Nat.mod_mul_left_mod, Nat.mul_mod_left]
  have hlt : ∀ q, X.getD q 0 * 2 ^ l % 4294967296 < 4294967296 := fun q => Nat.mod_lt _ (by omega)
  have hl32 : 32 - r = l := by omega
  rw [hl32] at hp
  intro x hx
  unfold preW at hx
  simp only [List.mem_cons, List.not_mem_nil, or_false] at hx
  rcases hx with rfl | rfl | rfl | rfl | rfl | rfl | rfl | rfl | rfl | rfl | rfl | rfl | rfl | rfl | rfl | rfl
  · exact key _ _ (hd 0) hp hp2
  · exact key _ _ (hd 1) (hm 0) (hlt 0)
  · exact key _ _ (hd 2) (hm 1) (hlt 1)
  · exact key _ _ (hd 3) (hm 2) (hlt 2)
  · exact key _ _ (hd 4) (hm 3) (hlt 3)
  · exact key _ _ (hd 5) (hm 4) (hlt 4)
  · exact key _ _ (hd 6) (hm 5) (hlt 5)
  · exact key _ _ (hd 7) (hm 6) (hlt 6)
  · exact key _ _ ht (hm 7) (hlt 7)
  all_goals omega

theorem H8g : H8.length = 8 ∧ All32 H8 := ⟨rfl, fun x hx => by revert x; decide⟩
theorem dig2_good (a c : Nat) (X : List Nat) : (dig2 a c X).length = 8 ∧ All32 (dig2 a c X) := blockW_good H8g.1 H8g.2
theorem dig3_good (a c s : Nat) (X : List Nat) : (dig3 a c s X).length = 8 ∧ All32 (dig3 a c s X) := blockW_good H8g.1 H8g.2

/-- the start of a block, in all lanes -/
def H8P (O : Nat) : List Nat := H8.map (fun h => Nat.mul h O)
theorem H8P_eq (n : Nat) : H8P (ON n) = pkL n 8 (fun _ => H8) := by
  show [Nat.mul (H8.getD 0 0) (ON n), Nat.mul (H8.getD 1 0) (ON n), Nat.mul (H8.getD 2 0) (ON n), Nat.mul (H8.getD 3 0) (ON n), Nat.mul (H8.getD 4 0) (ON n), Nat.mul (H8.getD 5 0) (ON n), Nat.mul (H8.getD 6 0) (ON n), Nat.mul (H8.getD 7 0) (ON n)] = _
  rw [pk_con (H8.getD 0 0) n, pk_con (H8.getD 1 0) n, pk_con (H8.getD 2 0) n, pk_con (H8.getD 3 0) n, pk_con (H8.getD 4 0) n, pk_con (H8.getD 5 0) n, pk_con (H8.getD 6 0) n, pk_con (H8.getD 7 0) n]
  rfl

/-- a digest behind bytes, all lanes -/
noncomputable def digP {α : Type} (M O p r l tail bits : Nat) (H X : List Nat) (k : List Nat → α) : α := force16 (preP M O p r l tail bits X) fun w => blkP M O H w k
theorem dig2_pk {α : Type} (n a : Nat) (c : Nat → Nat) (X : Nat → List Nat) (hX : ∀ i, All32 (X i)) (ha : a < 256) (hc : ∀ i, c i < 256) (k : List Nat → α) :
    digP (MK n) (ON n) (pkF n (fun i => a * 16777216 + c i * 65536)) 16 16 32768 272 (H8P (ON n)) (pkL n 8 X) k = k (pkL n 8 (fun i => dig2 a (c i) (X i))) := by
  unfold digP
  rw [force16_eq, preP_eq n 16 16 32768 272 _ X hX (by omega) (by omega), H8P_eq, blkP_eq n (fun _ => H8) _ (fun _ => H8g)]
  · rfl
  · intro i
    have := hc i
    exact preW_32 (hX i) (by show _ % 65536 = 0; omega) (by omega) (by omega) (by decide) (by omega)
theorem dig3_pk {α : Type} (n a s : Nat) (c : Nat → Nat) (X : Nat → List Nat) (hX : ∀ i, All32 (X i)) (ha : a < 256) (hc : ∀ i, c i < 256) (hs : s < 256) (k : List Nat → α) :
    digP (MK n) (ON n) (pkF n (fun i => a * 16777216 + c i * 65536 + s * 256)) 24 8 128 280 (H8P (ON n)) (pkL n 8 X) k = k (pkL n 8 (fun i => dig3 a (c i) s (X i))) := by
  unfold digP
  rw [force16_eq, preP_eq n 24 8 128 280 _ X hX (by omega) (by omega), H8P_eq, blkP_eq n (fun _ => H8) _ (fun _ => H8g)]
  · rfl
  · intro i
    have := hc i
    exact preW_32 (hX i) (by show _ % 256 = 0; omega) (by omega) (by omega) (by decide) (by omega)

/-- steps, one behind the other, all lanes -/
noncomputable def stepsP {α : Type} (M O C : Nat) (H : List Nat) (ns : List Nat) : List Nat → (List Nat → α) → α :=
  @List.rec Nat (fun _ => List Nat → (List Nat → α) → α) (fun x k => k x) (fun n _ ih x k => digP M O (Nat.add C (Nat.mul (Nat.mul n 256) O)) 24 8 128 280 H x fun y => ih y k) ns
theorem stepsP_cons {α : Type} (M O C : Nat) (H : List Nat) (s : Nat) (ns x : List Nat) (k : List Nat → α) : stepsP M O C H (s :: ns) x k = digP M O (Nat.add C (Nat.mul (Nat.mul s 256) O)) 24 8 128 280 H x fun y => stepsP M O C H ns y k := rfl
theorem stepsP_eq {α : Type} (n a : Nat) (c : Nat → Nat) (ha : a < 256) (hc : ∀ i, c i < 256) (k : List Nat → α) : ∀ (ns : List Nat) (_ : ∀ s ∈ ns, s < 256) (X : Nat → List Nat) (_ : ∀ i, All32 (X i)),
    stepsP (MK n) (ON n) (pkF n (fun i => a * 16777216 + c i * 65536)) (H8P (ON n)) ns (pkL n 8 X) k = k (pkL n 8 (fun i => ns.foldl (fun x s => dig3 a (c i) s x) (X i)))
  | [], _, X, _ => rfl
  | s :: ns, hs, X, hX => by
    have ih := stepsP_eq n a c ha hc k ns (fun s' h => hs s' (by simp [h])) (fun i => dig3 a (c i) s (X i)) (fun i => (dig3_good _ _ _ _).2)
    rw [stepsP_cons, pk_con, pk_add]
    show digP (MK n) (ON n) (pkF n (fun i => a * 16777216 + c i * 65536 + s * 256)) 24 8 128 280 (H8P (ON n)) (pkL n 8 X) _ = _
    rw [dig3_pk n a s c X hX ha hc (hs s (by simp)), ih]
    rfl

end Go.Proofs.Ytkbhehnpgnilmaa

/-
  Package sha: the drawn regions of a turn of Block, walked. Conditions: numbers of 32 bits.
-/
import Derived.Test.YtkbhehnpgnilmaaShaS
import Derived.Deep.RegionWith
namespace Go.Proofs.Ytkbhehnpgnilmaa
open Go Go.RowKit

/-- the region with this number -/
def regAt (n : Nat) : Code → Option Code
  | .region id ops d => if id = n then some (.region id ops d) else none
  | .seq a b => match regAt n a with
    | some c => some c
    | none => regAt n b
  | .cond _ a b => match regAt n a with
    | some c => some c
    | none => regAt n b
  | .block _ c => regAt n c
  | .loop c => regAt n c
  | .scope c => regAt n c
  | _ => none

noncomputable def blkReg (n : Nat) : Code := (Try.f39.body.bind (regAt n)).getD .skip

theorem atClo_of (i : Int) (k t R T j : Nat) (w : World) (hik : (k : Int) = i) (hi : k < 8) (ht : t < 64) (hT : w.cell? ⟨T, 0, none⟩ = some (.int .i64 t)) (hj : atN k t = j) :
    Calls Try.prog 98 #[.int .i64 i, .pointer (some ⟨R, 0, none⟩), .pointer (some ⟨T, 0, none⟩)] w (fun e w' => e = .returned (.pointer (some ⟨R, j, none⟩)) ∧ w' = w) := by
  subst hik; exact atClo_any k t R T j w hi ht hT hj

theorem idx16 (d t : Nat) (hd : 0 < d) (hd2 : d < 16) (h : d ≤ t) (ht : t < 64) : ∃ a i : Nat, IntKind.i64.wrap ((t : Int) - (d : Int)) = (a : Int) ∧ Int.tmod (a : Int) 16 = (i : Int) ∧ i < 16 ∧ (t - d) % 16 = i :=
  ⟨t - d, (t - d) % 16, by rw [IntWalk.i64_in _ (by omega)]; omega, (Int.ofNat_tmod (t - d) 16).symm, by omega, rfl⟩

theorem run_callAt (args : Array Value) (w : World) : Sem.run Try.prog (callFunc 98 args) w = .ok (.enter 98 args) w :=
  run_callFunc_body Try.func98 (by kernel_rfl) (by kernel_rfl) args w

set_option maxRecDepth 100000 in
set_option maxHeartbeats 1000000 in
theorem reg16 (w wr : World) (B R T t i0 : Nat) (hs row ws : List Nat) (h16 : ¬ t < 16) (ht : t < 64) (hi0 : i0 = t % 16) (hlw : ws.length = 16) (aw : All32 ws) (hB : B = w.heap.size) (HIN : ShaIn w wr B R T t hs row ws) (Q : Exit → Act → World → Prop) (u0 u1 u2 u3 u4 u7 u8 u10 u11 u12 u14 u16 u17 u18 u19 u20 u21 u22 u23 u24 u25 u26 u27 u28 u29 u30 u31 u32 u33 u34 u35 u36 u37 u38 u39 u40 u41 u42 u43 u44 u45 u46 u47 u48 u49 u50 u51 u52 u53 u54 u55 u56 u57 u58 u59 u60 u61 u62 u63 u64 u65 u66 u67 u68 u69 u70 u71 u72 u73 u74 u75 u76 u77 u78 u79 u80 u81 u82 u83 u84 u85 u86 u87 u88 u89 u90 u91 u92 u93 u94 u95 u96 u97 u98 u99 u100 u101 u102 u103 u104 u105 u106 u107 u108 u109 u110 u111 u112 u113 u114 u115 u116 u117 u118 u119 u120 u121 u122 u123 u124 u125 u126 u127 u128 u129 u130 u131 u132 u133 u134 u135 u136 u137 u138 u139 u140 u141 u142 u143 u144 u145 u146 u147 u148 u149 u150 u151 u152 u153 u154 u155 u156 u157 : Value)
    (hQ : ∀ (v48 v49 v50 v51 v52 v53 v54 v55 v56 v57 v58 v59 v60 v61 v62 v63 v64 v65 v66 v67 v68 v69 v70 v71 v72 v73 : Value) (w' : World), ShaIn w w' B R T t hs row (stepW ws t) → Q .normal ⟨List.toArray (u0 :: u1 :: u2 :: u3 :: u4 :: Value.pointer (some ⟨B + 1 + 1 + 1, 0, none⟩) :: Value.pointer (some ⟨B + 1 + 1 + 1 + 1, 0, none⟩) :: u7 :: u8 :: Value.pointer (some ⟨B + 1 + 1 + 1 + 1 + 1 + 1 + 1, 0, none⟩) :: u10 :: u11 :: u12 :: Value.pointer (some ⟨T, 0, none⟩) :: u14 :: Value.pointer (some ⟨B + 7, i0, none⟩) :: u16 :: u17 :: u18 :: u19 :: u20 :: u21 :: u22 :: u23 :: u24 :: u25 :: u26 :: u27 :: u28 :: u29 :: u30 :: u31 :: u32 :: u33 :: u34 :: u35 :: u36 :: u37 :: u38 :: u39 :: u40 :: u41 :: u42 :: u43 :: u44 :: u45 :: u46 :: u47 :: v48 :: v49 :: v50 :: v51 :: v52 :: v53 :: v54 :: v55 :: v56 :: v57 :: v58 :: v59 :: v60 :: v61 :: v62 :: v63 :: v64 :: v65 :: v66 :: v67 :: v68 :: v69 :: v70 :: v71 :: v72 :: v73 :: u74 :: u75 :: u76 :: u77 :: u78 :: u79 :: u80 :: u81 :: u82 :: u83 :: u84 :: u85 :: u86 :: u87 :: u88 :: u89 :: u90 :: u91 :: u92 :: u93 :: u94 :: u95 :: u96 :: u97 :: u98 :: u99 :: u100 :: u101 :: u102 :: u103 :: u104 :: u105 :: u106 :: u107 :: u108 :: u109 :: u110 :: u111 :: u112 :: u113 :: u114 :: u115 :: u116 :: u117 :: u118 :: u119 :: u120 :: u121 :: u122 :: u123 :: u124 :: u125 :: u126 :: u127 :: u128 :: u129 :: u130 :: u131 :: u132 :: u133 :: u134 :: u135 :: u136 :: u137 :: u138 :: u139 :: u140 :: u141 :: u142 :: u143 :: u144 :: u145 :: u146 :: u147 :: u148 :: u149 :: u150 :: u151 :: u152 :: u153 :: u154 :: u155 :: u156 :: u157 :: []), []⟩ w') :
    Code.wp Try.prog (blkReg 16) Q ⟨List.toArray (u0 :: u1 :: u2 :: u3 :: u4 :: Value.pointer (some ⟨B + 1 + 1 + 1, 0, none⟩) :: Value.pointer (some ⟨B + 1 + 1 + 1 + 1, 0, none⟩) :: u7 :: u8 :: Value.pointer (some ⟨B + 1 + 1 + 1 + 1 + 1 + 1 + 1, 0, none⟩) :: u10 :: u11 :: u12 :: Value.pointer (some ⟨T, 0, none⟩) :: u14 :: Value.pointer (some ⟨B + 7, i0, none⟩) :: u16 :: u17 :: u18 :: u19 :: u20 :: u21 :: u22 :: u23 :: u24 :: u25 :: u26 :: u27 :: u28 :: u29 :: u30 :: u31 :: u32 :: u33 :: u34 :: u35 :: u36 :: u37 :: u38 :: u39 :: u40 :: u41 :: u42 :: u43 :: u44 :: u45 :: u46 :: u47 :: u48 :: u49 :: u50 :: u51 :: u52 :: u53 :: u54 :: u55 :: u56 :: u57 :: u58 :: u59 :: u60 :: u61 :: u62 :: u63 :: u64 :: u65 :: u66 :: u67 :: u68 :: u69 :: u70 :: u71 :: u72 :: u73 :: u74 :: u75 :: u76 :: u77 :: u78 :: u79 :: u80 :: u81 :: u82 :: u83 :: u84 :: u85 :: u86 :: u87 :: u88 :: u89 :: u90 :: u91 :: u92 :: u93 :: u94 :: u95 :: u96 :: u97 :: u98 :: u99 :: u100 :: u101 :: u102 :: u103 :: u104 :: u105 :: u106 :: u107 :: u108 :: u109 :: u110 :: u111 :: u112 :: u113 :: u114 :: u115 :: u116 :: u117 :: u118 :: u119 :: u120 :: u121 :: u122 :: u123 :: u124 :: u125 :: u126 :: u127 :: u128 :: u129 :: u130 :: u131 :: u132 :: u133 :: u134 :: u135 :: u136 :: u137 :: u138 :: u139 :: u140 :: u141 :: u142 :: u143 :: u144 :: u145 :: u146 :: u147 :: u148 :: u149 :: u150 :: u151 :: u152 :: u153 :: u154 :: u155 :: u156 :: u157 :: []), []⟩ wr := by
  have HQ := Lib.hid hQ
  clear hQ
  conv => arg 2; whnf
  obtain ⟨t2, i2, hw2, hm2, n2, e2⟩ := idx16 2 t (by decide) (by decide) (Nat.le_trans (by decide) (Nat.le_of_not_lt h16)) ht
  obtain ⟨t7, i7, hw7, hm7, n7, e7⟩ := idx16 7 t (by decide) (by decide) (Nat.le_trans (by decide) (Nat.le_of_not_lt h16)) ht
  obtain ⟨t15, i15, hw15, hm15, n15, e15⟩ := idx16 15 t (by decide) (by decide) (Nat.le_trans (by decide) (Nat.le_of_not_lt h16)) ht
  have n0 : i0 < 16 := by rw [hi0]; exact Nat.mod_lt _ (by decide)
  have hw2 : IntKind.i64.wrap ((t : Int) - 2) = (t2 : Int) := hw2
  have hw7 : IntKind.i64.wrap ((t : Int) - 7) = (t7 : Int) := hw7
  have hw15 : IntKind.i64.wrap ((t : Int) - 15) = (t15 : Int) := hw15
  obtain ⟨x0, hx0⟩ : ∃ x, x = ws.getD i0 0 := ⟨_, rfl⟩
  obtain ⟨x2, hx2⟩ : ∃ x, x = ws.getD i2 0 := ⟨_, rfl⟩
  obtain ⟨x7, hx7⟩ : ∃ x, x = ws.getD i7 0 := ⟨_, rfl⟩
  obtain ⟨x15, hx15⟩ : ∃ x, x = ws.getD i15 0 := ⟨_, rfl⟩
  obtain ⟨y1, hy1⟩ : ∃ y, mixN 17 19 10 true x2 = y := ⟨_, rfl⟩
  obtain ⟨y0, hy0⟩ : ∃ y, mixN 7 18 3 true x15 = y := ⟨_, rfl⟩
  have hnew : newWord ws t = add32 x0 (add32 (add32 y1 x7) y0) := by
    unfold newWord
    rw [if_neg h16, ← hi0, e2, e7, e15, ← hx0, ← hx2, ← hx7, ← hx15, hy1, hy0]
  have b2 : x2 < 4294967296 := by rw [hx2]; exact aw.getD _
  have b15 : x15 < 4294967296 := by rw [hx15]; exact aw.getD _
  have c0 := cell_grew (show wr.cell? ⟨B + 7, i0, none⟩ = some (.int .u32 x0) by rw [hx0]; exact cell_ofN HIN.st.ws i0 (by rw [hlw]; exact n0))
  have c2 := cell_grew (show wr.cell? ⟨B + 7, i2, none⟩ = some (.int .u32 x2) by rw [hx2]; exact cell_ofN HIN.st.ws i2 (by rw [hlw]; exact n2))
  have c7 := cell_grew (show wr.cell? ⟨B + 7, i7, none⟩ = some (.int .u32 x7) by rw [hx7]; exact cell_ofN HIN.st.ws i7 (by rw [hlw]; exact n7))
  have c15 := cell_grew (show wr.cell? ⟨B + 7, i15, none⟩ = some (.int .u32 x15) by rw [hx15]; exact cell_ofN HIN.st.ws i15 (by rw [hlw]; exact n15))
  have ct := cell_grew (show wr.cell? ⟨T, 0, none⟩ = some (.int .i64 t) from HIN.t.cell 0)
  obtain ⟨p0, p1, p2, p3⟩ := mix_cells HIN.st.m6
  obtain ⟨q0, q1, q2, q3⟩ := mix_cells HIN.st.m5
  have p0 := cell_grew p0
  have p1 := cell_grew p1
  have p2 := cell_grew p2
  have p3 := cell_grew p3
  have q0 := cell_grew q0
  have q1 := cell_grew q1
  have q2 := cell_grew q2
  have q3 := cell_grew q3
  have hs1 : IntKind.u32.wrap ((y1 : Int) + (x7 : Int)) = ((add32 y1 x7 : Nat) : Int) := u32_add _ _
  have hs2 : IntKind.u32.wrap (((add32 y1 x7 : Nat) : Int) + (y0 : Int)) = ((add32 (add32 y1 x7) y0 : Nat) : Int) := u32_add _ _
  have hs3 : IntKind.u32.wrap ((x0 : Int) + ((add32 (add32 y1 x7) y0 : Nat) : Int)) = ((newWord ws t : Nat) : Int) := by rw [hnew]; exact u32_add _ _
  have HE := Lib.hid (show stepW ws t = ws.set i0 (newWord ws t) by rw [hi0]; rfl)
  generalize add32 (add32 y1 x7) y0 = z2 at hs2 hs3 hnew
  generalize add32 y1 x7 = z1 at hs1 hs2
  generalize newWord ws t = z3 at hs3 hnew HE
  have HN := Lib.hid (And.intro hy1 (And.intro hy0 (And.intro hlw hB)))
  have HI := Lib.hid HIN
  clear hi0 e2 e7 e15 hx0 hx2 hx7 hx15 hy1 hy0 hnew hlw hB HIN
  refine wp_region_grew_tail 26 (by kernel_rfl) (by kernel_rfl) ?_
  simp only [List.take_succ_cons, List.take_zero, List.drop_succ_cons, List.drop_zero]
  repeat (first | go_big_quiet_skip | (go_big_quiet_want; go_big_quiet_op; (first | go_big_quiet_on | (apply Exists.intro; refine ⟨fun _ => ?_, ?_⟩; (focus (first | (go_at_call_of 97 (Value.int IntKind.u32 (x2 : Int)); exact calls_grew (small1_any x2 y1 _ b2 HN.out.1)) | (go_at_call_of 97 (Value.int IntKind.u32 (x15 : Int)); exact calls_grew (small0_any x15 y0 _ b15 HN.out.2.1)))); go_big_quiet_on))))
  refine wpQuiet_nil ?_
  intro w5 hw5
  obtain ⟨p, rfl⟩ := hw5
  have HI5 := Lib.hid (HI.out.below HN.out.2.2.2 (below_grew wr p))
  have c05 := c0 p
  have f05 : (grew wr p).frozen? ⟨B + 7, i0, none⟩ = false := HI5.out.st.ws.free i0
  clear c0 c2 c7 c15 ct p0 p1 p2 p3 q0 q1 q2 q3
  generalize grew wr p = w5 at HI5 c05 f05 ⊢
  go_wp2
  refine HQ.out _ _ _ _ _ _ _ _ _ _ _ _ _ _ _ _ _ _ _ _ _ _ _ _ _ _ _ ?_
  rw [HE.out]
  exact HI5.out.setWord HN.out.2.2.2 i0 z3

set_option maxRecDepth 100000 in
set_option maxHeartbeats 1000000 in
theorem reg18 (w wr : World) (B R T t : Nat) (hs row ws : List Nat) (ht : t < 64) (hlr : row.length = 8) (ar : All32 row) (hB : B = w.heap.size) (HIN : ShaIn w wr B R T t hs row ws) (x0 x2 x4 x6 : Nat) (h0 : atG row 0 t = x0) (h2 : atG row 2 t = x2) (h4 : atG row 4 t = x4) (h6 : atG row 6 t = x6) (Q : Exit → Act → World → Prop) (u0 u1 u2 u3 u4 u5 u6 u7 u8 u9 u10 u11 u12 u13 u14 u15 u17 u18 u19 u20 u21 u22 u23 u24 u25 u26 u27 u28 u29 u30 u31 u32 u33 u34 u35 u36 u37 u38 u39 u40 u41 u42 u43 u44 u45 u46 u47 u48 u49 u50 u51 u52 u53 u54 u55 u56 u57 u58 u59 u60 u61 u62 u63 u64 u65 u66 u67 u68 u69 u70 u71 u72 u73 u74 u75 u76 u77 u78 u79 u80 u81 u82 u83 u84 u85 u86 u87 u88 u89 u90 u91 u92 u93 u94 u95 u96 u97 u98 u99 u100 u101 u102 u103 u104 u105 u106 u107 u108 u109 u110 u111 u112 u113 u114 u115 u116 u117 u118 u119 u120 u121 u122 u123 u124 u125 u126 u127 u128 u129 u130 u131 u132 u133 u134 u135 u136 u137 u138 u139 u140 u141 u142 u143 u144 u145 u146 u147 u148 u149 u150 u151 u152 u153 u154 u155 u156 u157 : Value)
    (hQ : ∀ (v75 v76 v77 v78 v79 v80 v81 v82 v83 v84 v85 v86 v87 v88 v89 v90 : Value) (w' : World), ShaIn w w' B R T t hs row ws → Q .normal ⟨List.toArray (u0 :: u1 :: u2 :: u3 :: u4 :: u5 :: u6 :: u7 :: u8 :: u9 :: u10 :: u11 :: u12 :: u13 :: u14 :: u15 :: Value.func (Fn.func 98) #[] #[Value.pointer (some ⟨R, 0, none⟩), Value.pointer (some ⟨T, 0, none⟩)] :: Value.int IntKind.u32 (x0 : Nat) :: Value.int IntKind.u32 (x2 : Nat) :: Value.int IntKind.u32 (x4 : Nat) :: Value.int IntKind.u32 (x6 : Nat) :: u21 :: u22 :: u23 :: u24 :: u25 :: u26 :: u27 :: u28 :: u29 :: u30 :: u31 :: u32 :: u33 :: u34 :: u35 :: u36 :: u37 :: u38 :: u39 :: u40 :: u41 :: u42 :: u43 :: u44 :: u45 :: u46 :: u47 :: u48 :: u49 :: u50 :: u51 :: u52 :: u53 :: u54 :: u55 :: u56 :: u57 :: u58 :: u59 :: u60 :: u61 :: u62 :: u63 :: u64 :: u65 :: u66 :: u67 :: u68 :: u69 :: u70 :: u71 :: u72 :: u73 :: u74 :: v75 :: v76 :: v77 :: v78 :: v79 :: v80 :: v81 :: v82 :: v83 :: v84 :: v85 :: v86 :: v87 :: v88 :: v89 :: v90 :: u91 :: u92 :: u93 :: u94 :: u95 :: u96 :: u97 :: u98 :: u99 :: u100 :: u101 :: u102 :: u103 :: u104 :: u105 :: u106 :: u107 :: u108 :: u109 :: u110 :: u111 :: u112 :: u113 :: u114 :: u115 :: u116 :: u117 :: u118 :: u119 :: u120 :: u121 :: u122 :: u123 :: u124 :: u125 :: u126 :: u127 :: u128 :: u129 :: u130 :: u131 :: u132 :: u133 :: u134 :: u135 :: u136 :: u137 :: u138 :: u139 :: u140 :: u141 :: u142 :: u143 :: u144 :: u145 :: u146 :: u147 :: u148 :: u149 :: u150 :: u151 :: u152 :: u153 :: u154 :: u155 :: u156 :: u157 :: []), []⟩ w') :
    Code.wp Try.prog (blkReg 18) Q ⟨List.toArray (u0 :: u1 :: u2 :: u3 :: u4 :: u5 :: u6 :: u7 :: u8 :: u9 :: u10 :: u11 :: u12 :: u13 :: u14 :: u15 :: Value.func (Fn.func 98) #[] #[Value.pointer (some ⟨R, 0, none⟩), Value.pointer (some ⟨T, 0, none⟩)] :: u17 :: u18 :: u19 :: u20 :: u21 :: u22 :: u23 :: u24 :: u25 :: u26 :: u27 :: u28 :: u29 :: u30 :: u31 :: u32 :: u33 :: u34 :: u35 :: u36 :: u37 :: u38 :: u39 :: u40 :: u41 :: u42 :: u43 :: u44 :: u45 :: u46 :: u47 :: u48 :: u49 :: u50 :: u51 :: u52 :: u53 :: u54 :: u55 :: u56 :: u57 :: u58 :: u59 :: u60 :: u61 :: u62 :: u63 :: u64 :: u65 :: u66 :: u67 :: u68 :: u69 :: u70 :: u71 :: u72 :: u73 :: u74 :: u75 :: u76 :: u77 :: u78 :: u79 :: u80 :: u81 :: u82 :: u83 :: u84 :: u85 :: u86 :: u87 :: u88 :: u89 :: u90 :: u91 :: u92 :: u93 :: u94 :: u95 :: u96 :: u97 :: u98 :: u99 :: u100 :: u101 :: u102 :: u103 :: u104 :: u105 :: u106 :: u107 :: u108 :: u109 :: u110 :: u111 :: u112 :: u113 :: u114 :: u115 :: u116 :: u117 :: u118 :: u119 :: u120 :: u121 :: u122 :: u123 :: u124 :: u125 :: u126 :: u127 :: u128 :: u129 :: u130 :: u131 :: u132 :: u133 :: u134 :: u135 :: u136 :: u137 :: u138 :: u139 :: u140 :: u141 :: u142 :: u143 :: u144 :: u145 :: u146 :: u147 :: u148 :: u149 :: u150 :: u151 :: u152 :: u153 :: u154 :: u155 :: u156 :: u157 :: []), []⟩ wr := by
  have HQ := Lib.hid hQ
  clear hQ
  conv => arg 2; whnf
  obtain ⟨j0, hj0⟩ : ∃ j, atN 0 t = j := ⟨_, rfl⟩
  have c0 := cell_grew (show wr.cell? ⟨R, j0, none⟩ = some (.int .u32 x0) by rw [← h0, ← hj0]; exact cell_ofN HIN.row _ (by rw [hlr]; exact atN_lt _ _))
  have b0 : x0 < 4294967296 := by rw [← h0]; exact ar.getD _
  obtain ⟨j2, hj2⟩ : ∃ j, atN 2 t = j := ⟨_, rfl⟩
  have c2 := cell_grew (show wr.cell? ⟨R, j2, none⟩ = some (.int .u32 x2) by rw [← h2, ← hj2]; exact cell_ofN HIN.row _ (by rw [hlr]; exact atN_lt _ _))
  have b2 : x2 < 4294967296 := by rw [← h2]; exact ar.getD _
  obtain ⟨j4, hj4⟩ : ∃ j, atN 4 t = j := ⟨_, rfl⟩
  have c4 := cell_grew (show wr.cell? ⟨R, j4, none⟩ = some (.int .u32 x4) by rw [← h4, ← hj4]; exact cell_ofN HIN.row _ (by rw [hlr]; exact atN_lt _ _))
  have b4 : x4 < 4294967296 := by rw [← h4]; exact ar.getD _
  obtain ⟨j6, hj6⟩ : ∃ j, atN 6 t = j := ⟨_, rfl⟩
  have c6 := cell_grew (show wr.cell? ⟨R, j6, none⟩ = some (.int .u32 x6) by rw [← h6, ← hj6]; exact cell_ofN HIN.row _ (by rw [hlr]; exact atN_lt _ _))
  have b6 : x6 < 4294967296 := by rw [← h6]; exact ar.getD _
  have ct := cell_grew (show wr.cell? ⟨T, 0, none⟩ = some (.int .i64 t) from HIN.t.cell 0)
  have HJ := Lib.hid (And.intro hj0 (And.intro hj2 (And.intro hj4 hj6)))
  have HB := Lib.hid hB
  have HI := Lib.hid HIN
  have hcf := run_callAt
  clear hj0 hj2 hj4 hj6 h0 h2 h4 h6 hB HIN hlr b0 b2 b4 b6
  refine wp_region_grew (by kernel_rfl) (by kernel_rfl) ?_
  repeat (first | go_big_quiet_skip | (go_big_quiet_want; go_big_quiet_op; (first | go_big_quiet_on | (apply Exists.intro; refine ⟨fun _ => ?_, ?_⟩; (focus (first | (go_at_call_of 98 (Value.int IntKind.i64 0); exact calls_grew_same (atClo_of 0 0 t R T j0 _ rfl (by decide) ht (ct _) HJ.out.1)) | (go_at_call_of 98 (Value.int IntKind.i64 2); exact calls_grew_same (atClo_of 2 2 t R T j2 _ rfl (by decide) ht (ct _) HJ.out.2.1)) | (go_at_call_of 98 (Value.int IntKind.i64 4); exact calls_grew_same (atClo_of 4 4 t R T j4 _ rfl (by decide) ht (ct _) HJ.out.2.2.1)) | (go_at_call_of 98 (Value.int IntKind.i64 6); exact calls_grew_same (atClo_of 6 6 t R T j6 _ rfl (by decide) ht (ct _) HJ.out.2.2.2)))); go_big_quiet_on))))
  refine wpQuiet_nil ?_
  intro w5 hw5
  obtain ⟨p, rfl⟩ := hw5
  exact HQ.out _ _ _ _ _ _ _ _ _ _ _ _ _ _ _ _ _ (HI.out.below HB.out (below_grew wr p))

set_option maxRecDepth 100000 in
set_option maxHeartbeats 1000000 in
theorem reg19 (w wr : World) (B R T t : Nat) (hs row ws : List Nat) (ht : t < 64) (hlr : row.length = 8) (ar : All32 row) (hB : B = w.heap.size) (HIN : ShaIn w wr B R T t hs row ws) (i0 x4 x5 x6 x7 kt wd s : Nat) (hi0 : i0 < ws.length) (hwd : ws.getD i0 0 = wd) (h4 : atG row 4 t = x4) (h5 : atG row 5 t = x5) (h6 : atG row 6 t = x6) (h7 : atG row 7 t = x7) (hsum : sumS row kt wd t = s) (Q : Exit → Act → World → Prop) (u0 u1 u2 u3 u4 u5 u6 u7 u9 u10 u11 u12 u13 u17 u18 u21 u22 u23 u24 u25 u26 u27 u28 u29 u30 u31 u32 u33 u34 u35 u36 u37 u38 u39 u40 u41 u42 u43 u44 u45 u46 u47 u48 u49 u50 u51 u52 u53 u54 u55 u56 u57 u58 u59 u60 u61 u62 u63 u64 u65 u66 u67 u68 u69 u70 u71 u72 u73 u74 u75 u76 u77 u78 u79 u80 u81 u82 u83 u84 u85 u86 u87 u88 u89 u90 u91 u92 u93 u94 u95 u96 u97 u98 u99 u100 u101 u102 u103 u104 u105 u106 u107 u108 u109 u110 u111 u112 u113 u114 u115 u116 u117 u118 u119 u120 u121 u122 u123 u124 u125 u126 u127 u128 u129 u130 u131 u132 u133 u134 u135 u136 u137 u138 u139 u140 u141 u142 u143 u144 u145 u146 u147 u148 u149 u150 u151 u152 u153 u154 u155 u156 u157 : Value)
    (hQ : ∀ (v91 v92 v93 v94 v95 v96 v97 v98 v99 v100 v101 v102 v103 v104 v105 v106 v107 v108 v109 v110 v111 v112 v113 v114 v115 : Value) (w' : World), ShaIn w w' B R T t hs row ws → Q .normal ⟨List.toArray (u0 :: u1 :: u2 :: u3 :: u4 :: u5 :: u6 :: u7 :: Value.pointer (some ⟨B + 1 + 1 + 1 + 1 + 1 + 1, 0, none⟩) :: u9 :: u10 :: u11 :: u12 :: u13 :: Value.int IntKind.u32 (kt : Nat) :: Value.pointer (some ⟨B + 7, i0, none⟩) :: Value.func (Fn.func 98) #[] #[Value.pointer (some ⟨R, 0, none⟩), Value.pointer (some ⟨T, 0, none⟩)] :: u17 :: u18 :: Value.int IntKind.u32 (x4 : Nat) :: Value.int IntKind.u32 (x6 : Nat) :: Value.int IntKind.u32 (s : Nat) :: u22 :: u23 :: u24 :: u25 :: u26 :: u27 :: u28 :: u29 :: u30 :: u31 :: u32 :: u33 :: u34 :: u35 :: u36 :: u37 :: u38 :: u39 :: u40 :: u41 :: u42 :: u43 :: u44 :: u45 :: u46 :: u47 :: u48 :: u49 :: u50 :: u51 :: u52 :: u53 :: u54 :: u55 :: u56 :: u57 :: u58 :: u59 :: u60 :: u61 :: u62 :: u63 :: u64 :: u65 :: u66 :: u67 :: u68 :: u69 :: u70 :: u71 :: u72 :: u73 :: u74 :: u75 :: u76 :: u77 :: u78 :: u79 :: u80 :: u81 :: u82 :: u83 :: u84 :: u85 :: u86 :: u87 :: u88 :: u89 :: u90 :: v91 :: v92 :: v93 :: v94 :: v95 :: v96 :: v97 :: v98 :: v99 :: v100 :: v101 :: v102 :: v103 :: v104 :: v105 :: v106 :: v107 :: v108 :: v109 :: v110 :: v111 :: v112 :: v113 :: v114 :: v115 :: u116 :: u117 :: u118 :: u119 :: u120 :: u121 :: u122 :: u123 :: u124 :: u125 :: u126 :: u127 :: u128 :: u129 :: u130 :: u131 :: u132 :: u133 :: u134 :: u135 :: u136 :: u137 :: u138 :: u139 :: u140 :: u141 :: u142 :: u143 :: u144 :: u145 :: u146 :: u147 :: u148 :: u149 :: u150 :: u151 :: u152 :: u153 :: u154 :: u155 :: u156 :: u157 :: []), []⟩ w') :
    Code.wp Try.prog (blkReg 19) Q ⟨List.toArray (u0 :: u1 :: u2 :: u3 :: u4 :: u5 :: u6 :: u7 :: Value.pointer (some ⟨B + 1 + 1 + 1 + 1 + 1 + 1, 0, none⟩) :: u9 :: u10 :: u11 :: u12 :: u13 :: Value.int IntKind.u32 (kt : Nat) :: Value.pointer (some ⟨B + 7, i0, none⟩) :: Value.func (Fn.func 98) #[] #[Value.pointer (some ⟨R, 0, none⟩), Value.pointer (some ⟨T, 0, none⟩)] :: u17 :: u18 :: Value.int IntKind.u32 (x4 : Nat) :: Value.int IntKind.u32 (x6 : Nat) :: u21 :: u22 :: u23 :: u24 :: u25 :: u26 :: u27 :: u28 :: u29 :: u30 :: u31 :: u32 :: u33 :: u34 :: u35 :: u36 :: u37 :: u38 :: u39 :: u40 :: u41 :: u42 :: u43 :: u44 :: u45 :: u46 :: u47 :: u48 :: u49 :: u50 :: u51 :: u52 :: u53 :: u54 :: u55 :: u56 :: u57 :: u58 :: u59 :: u60 :: u61 :: u62 :: u63 :: u64 :: u65 :: u66 :: u67 :: u68 :: u69 :: u70 :: u71 :: u72 :: u73 :: u74 :: u75 :: u76 :: u77 :: u78 :: u79 :: u80 :: u81 :: u82 :: u83 :: u84 :: u85 :: u86 :: u87 :: u88 :: u89 :: u90 :: u91 :: u92 :: u93 :: u94 :: u95 :: u96 :: u97 :: u98 :: u99 :: u100 :: u101 :: u102 :: u103 :: u104 :: u105 :: u106 :: u107 :: u108 :: u109 :: u110 :: u111 :: u112 :: u113 :: u114 :: u115 :: u116 :: u117 :: u118 :: u119 :: u120 :: u121 :: u122 :: u123 :: u124 :: u125 :: u126 :: u127 :: u128 :: u129 :: u130 :: u131 :: u132 :: u133 :: u134 :: u135 :: u136 :: u137 :: u138 :: u139 :: u140 :: u141 :: u142 :: u143 :: u144 :: u145 :: u146 :: u147 :: u148 :: u149 :: u150 :: u151 :: u152 :: u153 :: u154 :: u155 :: u156 :: u157 :: []), []⟩ wr := by
  have HQ := Lib.hid hQ
  clear hQ
  conv => arg 2; whnf
  obtain ⟨j5, hj5⟩ : ∃ j, atN 5 t = j := ⟨_, rfl⟩
  have c5 := cell_grew (show wr.cell? ⟨R, j5, none⟩ = some (.int .u32 x5) by rw [← h5, ← hj5]; exact cell_ofN HIN.row _ (by rw [hlr]; exact atN_lt _ _))
  have b5 : x5 < 4294967296 := by rw [← h5]; exact ar.getD _
  obtain ⟨j7, hj7⟩ : ∃ j, atN 7 t = j := ⟨_, rfl⟩
  have c7 := cell_grew (show wr.cell? ⟨R, j7, none⟩ = some (.int .u32 x7) by rw [← h7, ← hj7]; exact cell_ofN HIN.row _ (by rw [hlr]; exact atN_lt _ _))
  have b7 : x7 < 4294967296 := by rw [← h7]; exact ar.getD _
  have ct := cell_grew (show wr.cell? ⟨T, 0, none⟩ = some (.int .i64 t) from HIN.t.cell 0)
  have b4 : x4 < 4294967296 := by rw [← h4]; exact ar.getD _
  have b6 : x6 < 4294967296 := by rw [← h6]; exact ar.getD _
  have cw := cell_grew (show wr.cell? ⟨B + 7, i0, none⟩ = some (.int .u32 wd) by rw [← hwd]; exact cell_ofN HIN.st.ws i0 hi0)
  obtain ⟨p0, p1, p2, p3⟩ := mix_cells HIN.st.m8
  have p0 := cell_grew p0
  have p1 := cell_grew p1
  have p2 := cell_grew p2
  have p3 := cell_grew p3
  obtain ⟨y, hy⟩ : ∃ y, mixN 6 11 25 false x4 = y := ⟨_, rfl⟩
  obtain ⟨z1, hz1⟩ : ∃ z, x5 ^^^ x6 = z := ⟨_, rfl⟩
  obtain ⟨z2, hz2⟩ : ∃ z, x4 &&& z1 = z := ⟨_, rfl⟩
  obtain ⟨z3, hz3⟩ : ∃ z, x6 ^^^ z2 = z := ⟨_, rfl⟩
  obtain ⟨s1, hs1⟩ : ∃ z, add32 x7 y = z := ⟨_, rfl⟩
  obtain ⟨s2, hs2⟩ : ∃ z, add32 s1 z3 = z := ⟨_, rfl⟩
  obtain ⟨s3, hs3⟩ : ∃ z, add32 s2 kt = z := ⟨_, rfl⟩
  have hs4 : add32 s3 wd = s := by
    rw [← hsum]; unfold sumS; rw [h4, h5, h6, h7, hy, hz1, hz2, hz3, hs1, hs2, hs3]
  have bz1 : z1 < 4294967296 := by rw [← hz1]; exact xor_lt32 b5 b6
  have bz2 : z2 < 4294967296 := by rw [← hz2]; exact and_lt32 b4
  have f1 : bits BinOp.xor IntKind.u32 (x5 : Int) (x6 : Int) = (z1 : Int) := by rw [bits_xor32 _ _ b5 b6, hz1]
  have f2 : bits BinOp.and IntKind.u32 (x4 : Int) (z1 : Int) = (z2 : Int) := by rw [bits_and32 _ _ b4 bz1, hz2]
  have f3 : bits BinOp.xor IntKind.u32 (x6 : Int) (z2 : Int) = (z3 : Int) := by rw [bits_xor32 _ _ b6 bz2, hz3]
  have a1 : IntKind.u32.wrap ((x7 : Int) + (y : Int)) = (s1 : Int) := by rw [u32_add, hs1]
  have a2 : IntKind.u32.wrap ((s1 : Int) + (z3 : Int)) = (s2 : Int) := by rw [u32_add, hs2]
  have a3 : IntKind.u32.wrap ((s2 : Int) + (kt : Int)) = (s3 : Int) := by rw [u32_add, hs3]
  have a4 : IntKind.u32.wrap ((s3 : Int) + (wd : Int)) = (s : Int) := by rw [u32_add, hs4]
  have HJ := Lib.hid (And.intro hj7 (And.intro hj5 hy))
  have HB := Lib.hid hB
  have HI := Lib.hid HIN
  have hcf := run_callAt
  clear hj5 hj7 h4 h5 h6 h7 hB HIN hlr hwd hi0 hy hz1 hz2 hz3 hs1 hs2 hs3 hs4 hsum
  refine wp_region_grew (by kernel_rfl) (by kernel_rfl) ?_
  repeat (first | go_big_quiet_skip | (go_big_quiet_want; go_big_quiet_op; (first | go_big_quiet_on | (apply Exists.intro; refine ⟨fun _ => ?_, ?_⟩; (focus (first | (go_at_call_of 98 (Value.int IntKind.i64 7); exact calls_grew_same (atClo_of 7 7 t R T j7 _ rfl (by decide) ht (ct _) HJ.out.1)) | (go_at_call_of 98 (Value.int IntKind.i64 5); exact calls_grew_same (atClo_of 5 5 t R T j5 _ rfl (by decide) ht (ct _) HJ.out.2.1)) | (go_at_call 97; exact calls_grew (big1_any x4 y _ b4 HJ.out.2.2)))); go_big_quiet_on))))
  refine wpQuiet_nil ?_
  intro w5 hw5
  obtain ⟨p, rfl⟩ := hw5
  exact HQ.out _ _ _ _ _ _ _ _ _ _ _ _ _ _ _ _ _ _ _ _ _ _ _ _ _ _ (HI.out.below HB.out (below_grew wr p))

set_option maxRecDepth 100000 in
set_option maxHeartbeats 1000000 in
theorem reg20 (w wr : World) (B R T t : Nat) (hs row ws : List Nat) (ht : t < 64) (hlr : row.length = 8) (ar : All32 row) (hB : B = w.heap.size) (HIN : ShaIn w wr B R T t hs row ws) (x3 s r3 : Nat) (h3 : atG row 3 t = x3) (hr3 : add32 x3 s = r3) (Q : Exit → Act → World → Prop) (u0 u1 u2 u3 u4 u5 u6 u7 u8 u9 u10 u11 u12 u13 u14 u15 u17 u18 u19 u20 u22 u23 u24 u25 u26 u27 u28 u29 u30 u31 u32 u33 u34 u35 u36 u37 u38 u39 u40 u41 u42 u43 u44 u45 u46 u47 u48 u49 u50 u51 u52 u53 u54 u55 u56 u57 u58 u59 u60 u61 u62 u63 u64 u65 u66 u67 u68 u69 u70 u71 u72 u73 u74 u75 u76 u77 u78 u79 u80 u81 u82 u83 u84 u85 u86 u87 u88 u89 u90 u91 u92 u93 u94 u95 u96 u97 u98 u99 u100 u101 u102 u103 u104 u105 u106 u107 u108 u109 u110 u111 u112 u113 u114 u115 u116 u117 u118 u119 u120 u121 u122 u123 u124 u125 u126 u127 u128 u129 u130 u131 u132 u133 u134 u135 u136 u137 u138 u139 u140 u141 u142 u143 u144 u145 u146 u147 u148 u149 u150 u151 u152 u153 u154 u155 u156 u157 : Value)
    (hQ : ∀ (v116 v117 v118 v119 v120 v121 v122 : Value) (w' : World), ShaIn w w' B R T t hs (row.set (atN 3 t) r3) ws → Q .normal ⟨List.toArray (u0 :: u1 :: u2 :: u3 :: u4 :: u5 :: u6 :: u7 :: u8 :: u9 :: u10 :: u11 :: u12 :: u13 :: u14 :: u15 :: Value.func (Fn.func 98) #[] #[Value.pointer (some ⟨R, 0, none⟩), Value.pointer (some ⟨T, 0, none⟩)] :: u17 :: u18 :: u19 :: u20 :: Value.int IntKind.u32 (s : Nat) :: u22 :: u23 :: u24 :: u25 :: u26 :: u27 :: u28 :: u29 :: u30 :: u31 :: u32 :: u33 :: u34 :: u35 :: u36 :: u37 :: u38 :: u39 :: u40 :: u41 :: u42 :: u43 :: u44 :: u45 :: u46 :: u47 :: u48 :: u49 :: u50 :: u51 :: u52 :: u53 :: u54 :: u55 :: u56 :: u57 :: u58 :: u59 :: u60 :: u61 :: u62 :: u63 :: u64 :: u65 :: u66 :: u67 :: u68 :: u69 :: u70 :: u71 :: u72 :: u73 :: u74 :: u75 :: u76 :: u77 :: u78 :: u79 :: u80 :: u81 :: u82 :: u83 :: u84 :: u85 :: u86 :: u87 :: u88 :: u89 :: u90 :: u91 :: u92 :: u93 :: u94 :: u95 :: u96 :: u97 :: u98 :: u99 :: u100 :: u101 :: u102 :: u103 :: u104 :: u105 :: u106 :: u107 :: u108 :: u109 :: u110 :: u111 :: u112 :: u113 :: u114 :: u115 :: v116 :: v117 :: v118 :: v119 :: v120 :: v121 :: v122 :: u123 :: u124 :: u125 :: u126 :: u127 :: u128 :: u129 :: u130 :: u131 :: u132 :: u133 :: u134 :: u135 :: u136 :: u137 :: u138 :: u139 :: u140 :: u141 :: u142 :: u143 :: u144 :: u145 :: u146 :: u147 :: u148 :: u149 :: u150 :: u151 :: u152 :: u153 :: u154 :: u155 :: u156 :: u157 :: []), []⟩ w') :
    Code.wp Try.prog (blkReg 20) Q ⟨List.toArray (u0 :: u1 :: u2 :: u3 :: u4 :: u5 :: u6 :: u7 :: u8 :: u9 :: u10 :: u11 :: u12 :: u13 :: u14 :: u15 :: Value.func (Fn.func 98) #[] #[Value.pointer (some ⟨R, 0, none⟩), Value.pointer (some ⟨T, 0, none⟩)] :: u17 :: u18 :: u19 :: u20 :: Value.int IntKind.u32 (s : Nat) :: u22 :: u23 :: u24 :: u25 :: u26 :: u27 :: u28 :: u29 :: u30 :: u31 :: u32 :: u33 :: u34 :: u35 :: u36 :: u37 :: u38 :: u39 :: u40 :: u41 :: u42 :: u43 :: u44 :: u45 :: u46 :: u47 :: u48 :: u49 :: u50 :: u51 :: u52 :: u53 :: u54 :: u55 :: u56 :: u57 :: u58 :: u59 :: u60 :: u61 :: u62 :: u63 :: u64 :: u65 :: u66 :: u67 :: u68 :: u69 :: u70 :: u71 :: u72 :: u73 :: u74 :: u75 :: u76 :: u77 :: u78 :: u79 :: u80 :: u81 :: u82 :: u83 :: u84 :: u85 :: u86 :: u87 :: u88 :: u89 :: u90 :: u91 :: u92 :: u93 :: u94 :: u95 :: u96 :: u97 :: u98 :: u99 :: u100 :: u101 :: u102 :: u103 :: u104 :: u105 :: u106 :: u107 :: u108 :: u109 :: u110 :: u111 :: u112 :: u113 :: u114 :: u115 :: u116 :: u117 :: u118 :: u119 :: u120 :: u121 :: u122 :: u123 :: u124 :: u125 :: u126 :: u127 :: u128 :: u129 :: u130 :: u131 :: u132 :: u133 :: u134 :: u135 :: u136 :: u137 :: u138 :: u139 :: u140 :: u141 :: u142 :: u143 :: u144 :: u145 :: u146 :: u147 :: u148 :: u149 :: u150 :: u151 :: u152 :: u153 :: u154 :: u155 :: u156 :: u157 :: []), []⟩ wr := by
  have HQ := Lib.hid hQ
  clear hQ
  conv => arg 2; whnf
  obtain ⟨j3, hj3⟩ : ∃ j, atN 3 t = j := ⟨_, rfl⟩
  have c3 := id (show wr.cell? ⟨R, j3, none⟩ = some (.int .u32 x3) by rw [← h3, ← hj3]; exact cell_ofN HIN.row _ (by rw [hlr]; exact atN_lt _ _))
  have b3 : x3 < 4294967296 := by rw [← h3]; exact ar.getD _
  have ct := id (show wr.cell? ⟨T, 0, none⟩ = some (.int .i64 t) from HIN.t.cell 0)
  have f3 : wr.frozen? ⟨R, j3, none⟩ = false := HIN.row.free j3
  have a1 : IntKind.u32.wrap ((x3 : Int) + (s : Int)) = (r3 : Int) := by rw [u32_add, hr3]
  have a2 : ((x3 : Int) + (s : Int)) % 4294967296 = (r3 : Int) := by rw [← a1, IntKind.wrap_u32]
  have HJ := Lib.hid hj3
  have HB := Lib.hid hB
  have HI := Lib.hid HIN
  have hcf := run_callAt
  clear hj3 h3 hB HIN hlr hr3 b3
  go_wp2_with (go_at_call 98; refine (atClo_of 3 3 t R T j3 _ rfl (by decide) ht ct HJ.out).mono ?_; rintro e w' ⟨rfl, rfl⟩)
  refine HQ.out _ _ _ _ _ _ _ _ ?_
  rw [HJ.out]
  exact HI.out.setRow HB.out j3 r3

set_option maxRecDepth 100000 in
set_option maxHeartbeats 1000000 in
theorem reg21 (w wr : World) (B R T t : Nat) (hs row ws : List Nat) (ht : t < 64) (hlr : row.length = 8) (ar : All32 row) (hB : B = w.heap.size) (HIN : ShaIn w wr B R T t hs row ws) (x0 x1 x2 s top : Nat) (b0 : x0 < 4294967296) (b2 : x2 < 4294967296) (h1 : atG row 1 t = x1) (htop : add32 (add32 s (mixN 2 13 22 false x0)) ((x0 &&& x2) ||| (x1 &&& (x0 ||| x2))) = top) (Q : Exit → Act → World → Prop) (u0 u1 u2 u3 u4 u5 u6 u8 u9 u10 u11 u12 u13 u14 u15 u19 u20 u22 u23 u24 u25 u26 u27 u28 u29 u30 u31 u32 u33 u34 u35 u36 u37 u38 u39 u40 u41 u42 u43 u44 u45 u46 u47 u48 u49 u50 u51 u52 u53 u54 u55 u56 u57 u58 u59 u60 u61 u62 u63 u64 u65 u66 u67 u68 u69 u70 u71 u72 u73 u74 u75 u76 u77 u78 u79 u80 u81 u82 u83 u84 u85 u86 u87 u88 u89 u90 u91 u92 u93 u94 u95 u96 u97 u98 u99 u100 u101 u102 u103 u104 u105 u106 u107 u108 u109 u110 u111 u112 u113 u114 u115 u116 u117 u118 u119 u120 u121 u122 u123 u124 u125 u126 u127 u128 u129 u130 u131 u132 u133 u134 u135 u136 u137 u138 u139 u140 u141 u142 u143 u144 u145 u146 u147 u148 u149 u150 u151 u152 u153 u154 u155 u156 u157 : Value)
    (hQ : ∀ (v123 v124 v125 v126 v127 v128 v129 v130 v131 v132 v133 v134 v135 v136 v137 v138 v139 v140 v141 v142 v143 : Value) (w' : World), ShaIn w w' B R T t hs (row.set (atN 7 t) top) ws → Q .normal ⟨List.toArray (u0 :: u1 :: u2 :: u3 :: u4 :: u5 :: u6 :: Value.pointer (some ⟨B + 1 + 1 + 1 + 1 + 1, 0, none⟩) :: u8 :: u9 :: u10 :: u11 :: u12 :: u13 :: u14 :: u15 :: Value.func (Fn.func 98) #[] #[Value.pointer (some ⟨R, 0, none⟩), Value.pointer (some ⟨T, 0, none⟩)] :: Value.int IntKind.u32 (x0 : Nat) :: Value.int IntKind.u32 (x2 : Nat) :: u19 :: u20 :: Value.int IntKind.u32 (s : Nat) :: u22 :: u23 :: u24 :: u25 :: u26 :: u27 :: u28 :: u29 :: u30 :: u31 :: u32 :: u33 :: u34 :: u35 :: u36 :: u37 :: u38 :: u39 :: u40 :: u41 :: u42 :: u43 :: u44 :: u45 :: u46 :: u47 :: u48 :: u49 :: u50 :: u51 :: u52 :: u53 :: u54 :: u55 :: u56 :: u57 :: u58 :: u59 :: u60 :: u61 :: u62 :: u63 :: u64 :: u65 :: u66 :: u67 :: u68 :: u69 :: u70 :: u71 :: u72 :: u73 :: u74 :: u75 :: u76 :: u77 :: u78 :: u79 :: u80 :: u81 :: u82 :: u83 :: u84 :: u85 :: u86 :: u87 :: u88 :: u89 :: u90 :: u91 :: u92 :: u93 :: u94 :: u95 :: u96 :: u97 :: u98 :: u99 :: u100 :: u101 :: u102 :: u103 :: u104 :: u105 :: u106 :: u107 :: u108 :: u109 :: u110 :: u111 :: u112 :: u113 :: u114 :: u115 :: u116 :: u117 :: u118 :: u119 :: u120 :: u121 :: u122 :: v123 :: v124 :: v125 :: v126 :: v127 :: v128 :: v129 :: v130 :: v131 :: v132 :: v133 :: v134 :: v135 :: v136 :: v137 :: v138 :: v139 :: v140 :: v141 :: v142 :: v143 :: u144 :: u145 :: u146 :: u147 :: u148 :: u149 :: u150 :: u151 :: u152 :: u153 :: u154 :: u155 :: u156 :: u157 :: []), []⟩ w') :
    Code.wp Try.prog (blkReg 21) Q ⟨List.toArray (u0 :: u1 :: u2 :: u3 :: u4 :: u5 :: u6 :: Value.pointer (some ⟨B + 1 + 1 + 1 + 1 + 1, 0, none⟩) :: u8 :: u9 :: u10 :: u11 :: u12 :: u13 :: u14 :: u15 :: Value.func (Fn.func 98) #[] #[Value.pointer (some ⟨R, 0, none⟩), Value.pointer (some ⟨T, 0, none⟩)] :: Value.int IntKind.u32 (x0 : Nat) :: Value.int IntKind.u32 (x2 : Nat) :: u19 :: u20 :: Value.int IntKind.u32 (s : Nat) :: u22 :: u23 :: u24 :: u25 :: u26 :: u27 :: u28 :: u29 :: u30 :: u31 :: u32 :: u33 :: u34 :: u35 :: u36 :: u37 :: u38 :: u39 :: u40 :: u41 :: u42 :: u43 :: u44 :: u45 :: u46 :: u47 :: u48 :: u49 :: u50 :: u51 :: u52 :: u53 :: u54 :: u55 :: u56 :: u57 :: u58 :: u59 :: u60 :: u61 :: u62 :: u63 :: u64 :: u65 :: u66 :: u67 :: u68 :: u69 :: u70 :: u71 :: u72 :: u73 :: u74 :: u75 :: u76 :: u77 :: u78 :: u79 :: u80 :: u81 :: u82 :: u83 :: u84 :: u85 :: u86 :: u87 :: u88 :: u89 :: u90 :: u91 :: u92 :: u93 :: u94 :: u95 :: u96 :: u97 :: u98 :: u99 :: u100 :: u101 :: u102 :: u103 :: u104 :: u105 :: u106 :: u107 :: u108 :: u109 :: u110 :: u111 :: u112 :: u113 :: u114 :: u115 :: u116 :: u117 :: u118 :: u119 :: u120 :: u121 :: u122 :: u123 :: u124 :: u125 :: u126 :: u127 :: u128 :: u129 :: u130 :: u131 :: u132 :: u133 :: u134 :: u135 :: u136 :: u137 :: u138 :: u139 :: u140 :: u141 :: u142 :: u143 :: u144 :: u145 :: u146 :: u147 :: u148 :: u149 :: u150 :: u151 :: u152 :: u153 :: u154 :: u155 :: u156 :: u157 :: []), []⟩ wr := by
  have HQ := Lib.hid hQ
  clear hQ
  conv => arg 2; whnf
  obtain ⟨j1, hj1⟩ : ∃ j, atN 1 t = j := ⟨_, rfl⟩
  have c1 := cell_grew (show wr.cell? ⟨R, j1, none⟩ = some (.int .u32 x1) by rw [← h1, ← hj1]; exact cell_ofN HIN.row _ (by rw [hlr]; exact atN_lt _ _))
  have b1 : x1 < 4294967296 := by rw [← h1]; exact ar.getD _
  have ct := cell_grew (show wr.cell? ⟨T, 0, none⟩ = some (.int .i64 t) from HIN.t.cell 0)
  obtain ⟨j7, hj7⟩ : ∃ j, atN 7 t = j := ⟨_, rfl⟩
  have hj7l : j7 < row.length := by rw [hlr, ← hj7]; exact atN_lt _ _
  obtain ⟨x7, hx7⟩ : ∃ x, row.getD j7 0 = x := ⟨_, rfl⟩
  have c7 := cell_grew (show wr.cell? ⟨R, j7, none⟩ = some (.int .u32 x7) by rw [← hx7]; exact cell_ofN HIN.row _ hj7l)
  obtain ⟨p0, p1, p2, p3⟩ := mix_cells HIN.st.m7
  have p0 := cell_grew p0
  have p1 := cell_grew p1
  have p2 := cell_grew p2
  have p3 := cell_grew p3
  obtain ⟨y, hy⟩ : ∃ y, mixN 2 13 22 false x0 = y := ⟨_, rfl⟩
  obtain ⟨z1, hz1⟩ : ∃ z, x0 &&& x2 = z := ⟨_, rfl⟩
  obtain ⟨z2, hz2⟩ : ∃ z, x0 ||| x2 = z := ⟨_, rfl⟩
  obtain ⟨z3, hz3⟩ : ∃ z, x1 &&& z2 = z := ⟨_, rfl⟩
  obtain ⟨z4, hz4⟩ : ∃ z, z1 ||| z3 = z := ⟨_, rfl⟩
  obtain ⟨s1, hs1⟩ : ∃ z, add32 s y = z := ⟨_, rfl⟩
  have hs2 : add32 s1 z4 = top := by rw [← htop, hy, hz1, hz2, hz3, hz4, hs1]
  have bz1 : z1 < 4294967296 := by rw [← hz1]; exact and_lt32 b0
  have bz2 : z2 < 4294967296 := by rw [← hz2]; exact or_lt32 b0 b2
  have bz3 : z3 < 4294967296 := by rw [← hz3]; exact and_lt32 b1
  have f1 : bits BinOp.and IntKind.u32 (x0 : Int) (x2 : Int) = (z1 : Int) := by rw [bits_and32 _ _ b0 b2, hz1]
  have f2 : bits BinOp.or IntKind.u32 (x0 : Int) (x2 : Int) = (z2 : Int) := by rw [bits_or32 _ _ b0 b2, hz2]
  have f3 : bits BinOp.and IntKind.u32 (x1 : Int) (z2 : Int) = (z3 : Int) := by rw [bits_and32 _ _ b1 bz2, hz3]
  have f4 : bits BinOp.or IntKind.u32 (z1 : Int) (z3 : Int) = (z4 : Int) := by rw [bits_or32 _ _ bz1 bz3, hz4]
  have a1 : IntKind.u32.wrap ((s : Int) + (y : Int)) = (s1 : Int) := by rw [u32_add, hs1]
  have a2 : IntKind.u32.wrap ((s1 : Int) + (z4 : Int)) = (top : Int) := by rw [u32_add, hs2]
  have HJ := Lib.hid (And.intro hj7 (And.intro hj1 hy))
  have HB := Lib.hid hB
  have HI := Lib.hid HIN
  have hcf := run_callAt
  clear hj1 hj7 hj7l hx7 h1 hB HIN hlr hy hz1 hz2 hz3 hz4 hs1 hs2 htop
  refine wp_region_grew_tail 21 (by kernel_rfl) (by kernel_rfl) ?_
  simp only [List.take_succ_cons, List.take_zero, List.drop_succ_cons, List.drop_zero]
  repeat (first | go_big_quiet_skip | (go_big_quiet_want; go_big_quiet_op; (first | go_big_quiet_on | (apply Exists.intro; refine ⟨fun _ => ?_, ?_⟩; (focus (first | (go_at_call_of 98 (Value.int IntKind.i64 7); exact calls_grew_same (atClo_of 7 7 t R T j7 _ rfl (by decide) ht (ct _) HJ.out.1)) | (go_at_call_of 98 (Value.int IntKind.i64 1); exact calls_grew_same (atClo_of 1 1 t R T j1 _ rfl (by decide) ht (ct _) HJ.out.2.1)) | (go_at_call 97; exact calls_grew (big0_any x0 y _ b0 HJ.out.2.2)))); go_big_quiet_on))))
  refine wpQuiet_nil ?_
  intro w5 hw5
  obtain ⟨p, rfl⟩ := hw5
  have HI5 := Lib.hid (HI.out.below HB.out (below_grew wr p))
  have c75 := c7 p
  have f75 : (grew wr p).frozen? ⟨R, j7, none⟩ = false := HI5.out.row.free j7
  clear c1 c7 ct p0 p1 p2 p3
  generalize grew wr p = w5 at HI5 c75 f75 ⊢
  go_wp2
  refine HQ.out _ _ _ _ _ _ _ _ _ _ _ _ _ _ _ _ _ _ _ _ _ _ ?_
  rw [HJ.out.1]
  exact HI5.out.setRow HB.out j7 top

end Go.Proofs.Ytkbhehnpgnilmaa

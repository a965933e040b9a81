import Derived.Test.YtgdlfiphihaooaaGreatYs7
set_option linter.unusedSimpArgs false
set_option linter.unusedVariables false
set_option maxRecDepth 100000
set_option maxHeartbeats 8000000
open _root_.List renaming getElem?_toArray→Aa,getElem?_cons_zero→Ab,getElem?_cons_succ→Ac,setIfInBounds_toArray→Ad,set_cons_zero→Ae,set_cons_succ→Af
open _root_.Go.Lib renaming hid→Ag
open _root_.Nat renaming le_refl→Ah,le_trans→Aj,lt_of_lt_of_le→Ak
open _root_.And renaming intro→Ai
open _root_.Go.Act renaming put→Al
namespace Go.Proofs.YtgdlfiphihaooaaGreat
open Go Go.RowKit
theorem Be {P:Program} (w:World) {ops:Array Oper} {rest:List Oper} {o:Oper} {a:Act} {Q:Exit→Act→World→Prop} (hgd:o.guard=none) (ty:TypeId) (x y:Operand) (ho:o.op=.store ty x y)
  (g off:Nat) (e:TypeId) (xs cells ys:List Value) (hb:Blk w g e xs) (hx:a.eval x=.pointer (some ⟨g,off,none⟩)) (hy:a.eval y=.agg cells.toArray) (hl:off+cells.length≤xs.length) (hi:(P.info? ty).map (·.size)=some cells.length) (h1:∀ v∈cells,v.oneCell'=true) (hys:AU xs off cells=ys)
  (h:∀ w',Blk w' g e ys→Ch (·=g) w w'→w'.heap.size=w.heap.size→wpList P ops Q rest (a.put o.dst undef) w'):wpList P ops Q (o::rest) a w:=by
 refine wpList_store_mid hgd ty x y ho g off cells.toArray hx hy (fun j hj=> ?_) (by simpa using hi) (all_oneCell_toArray h1) ?_
 ·have hj':off+j<xs.length:=by simp at hj;omega
  rw[hb.cell,hb.free]
  simp[hj']
 ·have:=hb.setCells cells off
  rw[hys] at this
  exact h _ this (AH g cells off w) (El g cells off w)
theorem Gs (nm:ByteArray) (o pe:Int) (vr vq vg:Value) (v e u:Int) (tc tc':List Value) (h:tc'.length=tc.length):AU (flC nm o pe vr vq vg v e u tc) 9 tc'=flC nm o pe vr vq vg v e u tc':=by
 have:=Di (P:=[.string nm,.int .i64 o,.int .i64 pe,vr,vq,vg,.int .i64 v,.int .i64 e,.int .i64 u]) (R:=[]) h
 simp only[List.append_nil] at this
 exact this
theorem KM (nm:ByteArray) (o pe o' pe':Int) (vr vq vg ur uq ug:Value) (v e u:Int) (tc:List Value):AU (flC nm o pe vr vq vg v e u tc) 1 (pmC o' pe' ur uq ug)=flC nm o' pe' ur uq ug v e u tc:=rfl
theorem Tryz.sizeIs1:(Tryz.prog.info? 40).map (·.size)=some 1:=by kernel_rfl
theorem Bt {o pe:Int} {vr vq vg:Value} (h1:vr.oneCell'=true) (h2:vq.oneCell'=true) (h3:vg.oneCell'=true):∀ v∈pmC o pe vr vq vg,v.oneCell'=true:=fun v hv=> by
 simp only[pmC,List.mem_cons,List.not_mem_nil,or_false] at hv
 rcases hv with rfl|rfl|rfl|rfl|rfl
 ·rfl
 ·rfl
 ·exact h1
 ·exact h2
 ·exact h3
theorem B9 {v:Value} (h:v.oneCell'=true):v.cells=#[v]:=by cases v <;> simp_all [Value.oneCell',Value.cells]
theorem Tryz.zeroFl14:∀ w,(zeroValue 45).run Tryz.prog w=.ok (.agg (flC ⟨#[]⟩ 0 0 (.slice none 0 0) (.slice none 0 0) (.slice none 0 0) 0 0 0 (tmC 0 0 0 ⟨#[]⟩ (.slice none 0 0))).toArray) w:=fun w=> by kernel_rfl
theorem SlI.of_own {B B':Nat} {ty n:Nat} {w:World} {v:Value} {l:List Int} (h:w.ownsRow B ty 1 v n (ofK .i64 l)) (hB:B'≤B):SlI (B'≤·) w v l:=⟨Sl.of_owns h,fun k _ hk=> Aj hB (h.lt k hk).1⟩
def FiledP (w:World) (f:FileM) (e:Ending) (w':World):Prop:=∃ cs,e=.returned (.agg cs.toArray)∧FlC (w.heap.size≤·) w' cs f∧Below w.heap.size w w'
def PmN (p:PmD):Prop:=p.r.length≤1000000000∧p.q.length≤1000000000∧p.g.length≤1000000000
theorem G1 (f:FileM) (cs:List Value) (F:Nat→Prop) (w:World) (hf:FlC F w cs f) (hl:PmN f.p) (hb:Fd f.b=true):Calls Tryz.prog 26 #[.agg cs.toArray] w (FiledP w f):=by
 obtain⟨vr,vq,vg,tc,rfl,hp,ht⟩:=hf
 have HP:=Ag (Ai hp ht)
 have HON:=hJ3 hp.1.one hp.2.1.one hp.2.2.one
 have HRP:=Ag (show ∀ W:World,Blk W w.heap.size 45 (flC f.nm f.p.o f.p.e vr vq vg f.v f.e f.u tc)→W.rangeAt w.heap.size 1 (pmC f.p.o f.p.e vr vq vg) from fun W hW j x hx=> by rw[hW.cell,show 1+j=j+1 by omega];match j,hx with|0,hx=> exact hx|1,hx=> exact hx|2,hx=> exact hx|3,hx=> exact hx|4,hx=> exact hx)
 have HL:=Ag (Ai hl hb)
 clear hp ht hl hb
 go_enter Tryz.func26,Tryz.ntmps26
 go_upto_region 2 with(first
  | ((with_reducible refine Au w rfl 45 (.tmp 0) rfl (flC f.nm f.p.o f.p.e vr vq vg f.v f.e f.u tc) rfl ?_);intro a1 hb hbel hsz;have H1:=hJ2 hb hbel;clear hb hbel hsz)
  | ((with_reducible refine Av a1 rfl 45 rfl (flC ⟨#[]⟩ 0 0 (.slice none 0 0) (.slice none 0 0) (.slice none 0 0) 0 0 0 (tmC 0 0 0 ⟨#[]⟩ (.slice none 0 0))) Tryz.zeroFl14 ?_);intro a2 hb hbel hsz;have H2:=hJ3 (H1.out.1.below hbel H1.out.1.lt) (An H1.out.2 hbel (Ah _)) hb;clear hb hbel hsz)
  | (with_reducible refine Ap rfl 43 (.tmp 4) rfl w.heap.size 1 rfl (pmC f.p.o f.p.e vr vq vg) _ (HRP.out _ H2.out.1) Tryz.underlying43 rfl (Ay _ _ _ _ _) ?_)
  | ((with_reducible refine Av a2 rfl 43 rfl (pmC 0 0 (.slice none 0 0) (.slice none 0 0) (.slice none 0 0)) Tryz.zeroPm ?_);intro a3 hb hbel hsz;have H3:=hJ5 (H2.out.1.below hbel H2.out.1.lt) (An H2.out.2.1 hbel (Ah _)) (H2.out.2.2.below hbel H2.out.2.2.lt) hb trivial;have HG:=hJ3 H1.out.1.lt H2.out.2.2.lt hb.lt;clear hb hbel hsz)
  | ((with_reducible refine Ao a3 rfl 43 (.tmp 3) (.tmp 5) rfl (a2.heap.size) 43 (pmC 0 0 (.slice none 0 0) (.slice none 0 0) (.slice none 0 0)) (pmC f.p.o f.p.e vr vq vg) H3.out.2.2.2.1 rfl rfl rfl (Ay _ _ _ _ _) (Bt HON.out.1 HON.out.2.1 HON.out.2.2) ?_);intro b0 hb hc hs;have H4:=hJ4 (H3.out.1.keep hc (fun e=> absurd (show _=_ from e) (by have:=HG.out;omega))) (Aw H3.out.2.1 hc (Ah _) (fun k hk=> by have e:=(show _=_ from hk);have:=HG.out;omega)) (H3.out.2.2.1.keep hc (fun e=> absurd (show _=_ from e) (by have:=HG.out;omega))) hb;have HGE:=Ag (show a3.heap.size≤b0.heap.size from by rw[hs];exact Ah _);clear hb hc hs))
 try simp only[Al,Ad,Ae,Af]
 have H5:=hJ5 H4.out.1 H4.out.2.1 H4.out.2.2.1 H4.out.2.2.2 HGE.out
 clear HGE H1 H2 H3 H4
 go_wp2_with fail
 refine A2 (fun W=> W.cell? ⟨a2.heap.size,2,none⟩=some vr∧W.cell? ⟨a2.heap.size,3,none⟩=some vq∧W.cell? ⟨a2.heap.size,4,none⟩=some vg) 10 [0,1,3,4,6,7] 9 (by kernel_rfl) rfl (by kernel_rfl) (by kernel_rfl) ⟨H5.out.2.2.2.1.cell 2,H5.out.2.2.2.1.cell 3,H5.out.2.2.2.1.cell 4⟩ ?_
 iterate 6(refine' AK.run ?_ ?_ ?_ ?_;rotate_left 2;(simp only[Aa,Ab,Ac];rfl);rfl;(rintro w' ⟨k0,k1,k2⟩;go_simp;with_reducible rfl);simp only[Al,Ad,Ae,Af])
 have sm:=(Sm.refl b0).drew
 have HV2:=hJ5 (H5.out.1.below (sm.below _) H5.out.1.lt) (An H5.out.2.1 (sm.below _) (Ah _)) (H5.out.2.2.1.below (sm.below _) H5.out.2.2.1.lt) (H5.out.2.2.2.1.below (sm.below _) H5.out.2.2.2.1.lt) (Aj H5.out.2.2.2.2 (sm.below 0).size)
 clear sm
 generalize b0.drew=v1 at HV2 ⊢
 refine' AE 2 (by kernel_rfl) ?_ ?_;rotate_left;(simp only[Aa,Ab,Ac];rfl)
 try simp only[Al,Ad,Ae,Af]
 go_wp2_with fail
 refine(Bq vr (f.p.r) v1 (HP.out.1.1.below HV2.out.2.1).1 HL.out.1.1).mono ?_
 rintro e' u3 ⟨ur,rfl,hown,hb⟩
 have K4:=Ag (show Blk u3 (w.heap.size) 45 (flC f.nm f.p.o f.p.e vr vq vg f.v f.e f.u tc)∧Below w.heap.size w u3∧Blk u3 (a1.heap.size) 45 (flC ⟨#[]⟩ 0 0 (.slice none 0 0) (.slice none 0 0) (.slice none 0 0) 0 0 0 (tmC 0 0 0 ⟨#[]⟩ (.slice none 0 0)))∧Blk u3 (a2.heap.size) 43 (pmC f.p.o f.p.e vr vq vg)∧a3.heap.size≤u3.heap.size∧SlI (a3.heap.size≤·) u3 ur (f.p.r) from⟨HV2.out.1.below hb HV2.out.1.lt,(An HV2.out.2.1 hb (Ah _)),HV2.out.2.2.1.below hb HV2.out.2.2.1.lt,HV2.out.2.2.2.1.below hb HV2.out.2.2.2.1.lt,(Aj HV2.out.2.2.2.2 hb.size),SlI.of_own hown HV2.out.2.2.2.2⟩)
 clear hown hb
 go_wp2_with fail
 refine QK.normal ⟨fun _=> ⟨K4.out.2.2.2.1.cell 2,K4.out.2.2.2.1.cell 3,K4.out.2.2.2.1.cell 4⟩,?_⟩
 refine B7 (by kernel_rfl) AG (fuel:=7) ⟨K4.out.2.2.2.1.cell 2,K4.out.2.2.2.1.cell 3,K4.out.2.2.2.1.cell 4⟩ [9] _ _ (by kernel_rfl) ?_
 refine' AK.run ?_ ?_ ?_ ?_;rotate_left 2;(simp only[Aa,Ab,Ac];rfl);rfl;(rintro w' ⟨k0,k1,k2⟩;go_simp;with_reducible rfl);simp only[Al,Ad,Ae,Af]
 refine' AE 5 (by kernel_rfl) ?_ ?_;rotate_left;(simp only[Aa,Ab,Ac];rfl)
 try simp only[Al,Ad,Ae,Af]
 go_wp2_with fail
 refine(Bq vq (f.p.q) u3 (HP.out.1.2.1.below K4.out.2.1).1 HL.out.1.2.1).mono ?_
 rintro e' u5 ⟨uq,rfl,hown,hb⟩
 have K6:=Ag (show Blk u5 (w.heap.size) 45 (flC f.nm f.p.o f.p.e vr vq vg f.v f.e f.u tc)∧Below w.heap.size w u5∧Blk u5 (a1.heap.size) 45 (flC ⟨#[]⟩ 0 0 (.slice none 0 0) (.slice none 0 0) (.slice none 0 0) 0 0 0 (tmC 0 0 0 ⟨#[]⟩ (.slice none 0 0)))∧Blk u5 (a2.heap.size) 43 (pmC f.p.o f.p.e vr vq vg)∧a3.heap.size≤u5.heap.size∧SlI (a3.heap.size≤·) u5 ur (f.p.r)∧SlI (a3.heap.size≤·) u5 uq (f.p.q) from⟨K4.out.1.below hb K4.out.1.lt,(An K4.out.2.1 hb (Ah _)),K4.out.2.2.1.below hb K4.out.2.2.1.lt,K4.out.2.2.2.1.below hb K4.out.2.2.2.1.lt,(Aj K4.out.2.2.2.2.1 hb.size),K4.out.2.2.2.2.2.below hb,SlI.of_own hown K4.out.2.2.2.2.1⟩)
 clear hown hb
 go_wp2_with fail
 refine QK.normal ⟨fun _=> ⟨K6.out.2.2.2.1.cell 2,K6.out.2.2.2.1.cell 3,K6.out.2.2.2.1.cell 4⟩,?_⟩
 refine' AE 8 (by kernel_rfl) ?_ ?_;rotate_left;(simp only[Aa,Ab,Ac];rfl)
 try simp only[Al,Ad,Ae,Af]
 go_wp2_with fail
 refine(Bq vg (f.p.g) u5 (HP.out.1.2.2.below K6.out.2.1).1 HL.out.1.2.2).mono ?_
 rintro e' u7 ⟨ug,rfl,hown,hb⟩
 have K8:=Ag (show Blk u7 (w.heap.size) 45 (flC f.nm f.p.o f.p.e vr vq vg f.v f.e f.u tc)∧Below w.heap.size w u7∧Blk u7 (a1.heap.size) 45 (flC ⟨#[]⟩ 0 0 (.slice none 0 0) (.slice none 0 0) (.slice none 0 0) 0 0 0 (tmC 0 0 0 ⟨#[]⟩ (.slice none 0 0)))∧Blk u7 (a2.heap.size) 43 (pmC f.p.o f.p.e vr vq vg)∧a3.heap.size≤u7.heap.size∧SlI (a3.heap.size≤·) u7 ur (f.p.r)∧SlI (a3.heap.size≤·) u7 uq (f.p.q)∧SlI (a3.heap.size≤·) u7 ug (f.p.g) from⟨K6.out.1.below hb K6.out.1.lt,(An K6.out.2.1 hb (Ah _)),K6.out.2.2.1.below hb K6.out.2.2.1.lt,K6.out.2.2.2.1.below hb K6.out.2.2.2.1.lt,(Aj K6.out.2.2.2.2.1 hb.size),K6.out.2.2.2.2.2.1.below hb,K6.out.2.2.2.2.2.2.below hb,SlI.of_own hown K6.out.2.2.2.2.1⟩)
 clear hown hb
 go_wp2_with fail
 refine QK.normal ⟨fun _=> ⟨K8.out.2.2.2.1.cell 2,K8.out.2.2.2.1.cell 3,K8.out.2.2.2.1.cell 4⟩,?_⟩
 refine' AE 10 (by kernel_rfl) ?_ ?_;rotate_left;(simp only[Aa,Ab,Ac];rfl)
 try simp only[Al,Ad,Ae,Af]
 refine AI u7 rfl 40 (.tmp 15) (.tmp 8) rfl (a2.heap.size) 2 43 _ K8.out.2.2.2.1 rfl (ur) rfl (by simp[pmC]) Tryz.sizeIs1 (K8.out.2.2.2.2.2.1.one) (B9 K8.out.2.2.2.2.2.1.one) ?_
 intro u9 hb hc hs
 have K10:=Ag (show Blk u9 (w.heap.size) 45 (flC f.nm f.p.o f.p.e vr vq vg f.v f.e f.u tc)∧Below w.heap.size w u9∧Blk u9 (a1.heap.size) 45 (flC ⟨#[]⟩ 0 0 (.slice none 0 0) (.slice none 0 0) (.slice none 0 0) 0 0 0 (tmC 0 0 0 ⟨#[]⟩ (.slice none 0 0)))∧Blk u9 (a2.heap.size) 43 (pmC f.p.o f.p.e ur vq vg)∧a3.heap.size≤u9.heap.size∧SlI (a3.heap.size≤·) u9 ur (f.p.r)∧SlI (a3.heap.size≤·) u9 uq (f.p.q)∧SlI (a3.heap.size≤·) u9 ug (f.p.g) from⟨K8.out.1.keep hc (fun e=> absurd (show _=_ from e) (by have:=HG.out;omega)),(Aw K8.out.2.1 hc (Ah _) (fun k hk=> by have e:=(show _=_ from hk);have:=HG.out;omega)),K8.out.2.2.1.keep hc (fun e=> absurd (show _=_ from e) (by have:=HG.out;omega)),hb,(Aj K8.out.2.2.2.2.1 hc.size),K8.out.2.2.2.2.2.1.keep' hc (fun k hk e=> absurd (show _=_ from e) (by have hk:a3.heap.size≤k:=hk;have:=HG.out;omega)) (idf _),K8.out.2.2.2.2.2.2.1.keep' hc (fun k hk e=> absurd (show _=_ from e) (by have hk:a3.heap.size≤k:=hk;have:=HG.out;omega)) (idf _),K8.out.2.2.2.2.2.2.2.keep' hc (fun k hk e=> absurd (show _=_ from e) (by have hk:a3.heap.size≤k:=hk;have:=HG.out;omega)) (idf _)⟩)
 clear hb hc hs
 refine QK.normal ⟨fun h=> absurd h (by decide),?_⟩
 refine AL (by kernel_rfl) AG (fuel:=3) (fun h=> absurd h (by decide)) 11 (by kernel_rfl) ?_
 refine' AK.run ?_ ?_ ?_ ?_;rotate_left 2;(simp only[Aa,Ab,Ac];rfl);rfl;(rintro w' -;go_simp;with_reducible rfl);simp only[Al,Ad,Ae,Af]
 refine' AE 12 (by kernel_rfl) ?_ ?_;rotate_left;(simp only[Aa,Ab,Ac];rfl)
 try simp only[Al,Ad,Ae,Af]
 refine AI u9 rfl 40 (.tmp 16) (.tmp 11) rfl (a2.heap.size) 3 43 _ K10.out.2.2.2.1 rfl (uq) rfl (by simp[pmC]) Tryz.sizeIs1 (K10.out.2.2.2.2.2.2.1.one) (B9 K10.out.2.2.2.2.2.2.1.one) ?_
 intro u11 hb hc hs
 have K12:=Ag (show Blk u11 (w.heap.size) 45 (flC f.nm f.p.o f.p.e vr vq vg f.v f.e f.u tc)∧Below w.heap.size w u11∧Blk u11 (a1.heap.size) 45 (flC ⟨#[]⟩ 0 0 (.slice none 0 0) (.slice none 0 0) (.slice none 0 0) 0 0 0 (tmC 0 0 0 ⟨#[]⟩ (.slice none 0 0)))∧Blk u11 (a2.heap.size) 43 (pmC f.p.o f.p.e ur uq vg)∧a3.heap.size≤u11.heap.size∧SlI (a3.heap.size≤·) u11 ur (f.p.r)∧SlI (a3.heap.size≤·) u11 uq (f.p.q)∧SlI (a3.heap.size≤·) u11 ug (f.p.g) from⟨K10.out.1.keep hc (fun e=> absurd (show _=_ from e) (by have:=HG.out;omega)),(Aw K10.out.2.1 hc (Ah _) (fun k hk=> by have e:=(show _=_ from hk);have:=HG.out;omega)),K10.out.2.2.1.keep hc (fun e=> absurd (show _=_ from e) (by have:=HG.out;omega)),hb,(Aj K10.out.2.2.2.2.1 hc.size),K10.out.2.2.2.2.2.1.keep' hc (fun k hk e=> absurd (show _=_ from e) (by have hk:a3.heap.size≤k:=hk;have:=HG.out;omega)) (idf _),K10.out.2.2.2.2.2.2.1.keep' hc (fun k hk e=> absurd (show _=_ from e) (by have hk:a3.heap.size≤k:=hk;have:=HG.out;omega)) (idf _),K10.out.2.2.2.2.2.2.2.keep' hc (fun k hk e=> absurd (show _=_ from e) (by have hk:a3.heap.size≤k:=hk;have:=HG.out;omega)) (idf _)⟩)
 clear hb hc hs
 refine QK.normal ⟨fun h=> absurd h (by decide),?_⟩
 refine AL (by kernel_rfl) AG (fuel:=1) (fun h=> absurd h (by decide)) 13 (by kernel_rfl) ?_
 refine' AK.run ?_ ?_ ?_ ?_;rotate_left 2;(simp only[Aa,Ab,Ac];rfl);rfl;(rintro w' -;go_simp;with_reducible rfl);simp only[Al,Ad,Ae,Af]
 refine' AE 14 (by kernel_rfl) ?_ ?_;rotate_left;(simp only[Aa,Ab,Ac];rfl)
 try simp only[Al,Ad,Ae,Af]
 refine AI u11 rfl 40 (.tmp 17) (.tmp 14) rfl (a2.heap.size) 4 43 _ K12.out.2.2.2.1 rfl (ug) rfl (by simp[pmC]) Tryz.sizeIs1 (K12.out.2.2.2.2.2.2.2.one) (B9 K12.out.2.2.2.2.2.2.2.one) ?_
 intro u13 hb hc hs
 have K14:=Ag (show Blk u13 (w.heap.size) 45 (flC f.nm f.p.o f.p.e vr vq vg f.v f.e f.u tc)∧Below w.heap.size w u13∧Blk u13 (a1.heap.size) 45 (flC ⟨#[]⟩ 0 0 (.slice none 0 0) (.slice none 0 0) (.slice none 0 0) 0 0 0 (tmC 0 0 0 ⟨#[]⟩ (.slice none 0 0)))∧Blk u13 (a2.heap.size) 43 (pmC f.p.o f.p.e ur uq ug)∧a3.heap.size≤u13.heap.size∧SlI (a3.heap.size≤·) u13 ur (f.p.r)∧SlI (a3.heap.size≤·) u13 uq (f.p.q)∧SlI (a3.heap.size≤·) u13 ug (f.p.g) from⟨K12.out.1.keep hc (fun e=> absurd (show _=_ from e) (by have:=HG.out;omega)),(Aw K12.out.2.1 hc (Ah _) (fun k hk=> by have e:=(show _=_ from hk);have:=HG.out;omega)),K12.out.2.2.1.keep hc (fun e=> absurd (show _=_ from e) (by have:=HG.out;omega)),hb,(Aj K12.out.2.2.2.2.1 hc.size),K12.out.2.2.2.2.2.1.keep' hc (fun k hk e=> absurd (show _=_ from e) (by have hk:a3.heap.size≤k:=hk;have:=HG.out;omega)) (idf _),K12.out.2.2.2.2.2.2.1.keep' hc (fun k hk e=> absurd (show _=_ from e) (by have hk:a3.heap.size≤k:=hk;have:=HG.out;omega)) (idf _),K12.out.2.2.2.2.2.2.2.keep' hc (fun k hk e=> absurd (show _=_ from e) (by have hk:a3.heap.size≤k:=hk;have:=HG.out;omega)) (idf _)⟩)
 clear hb hc hs
 refine QK.normal ⟨fun h=> absurd h (by decide),?_⟩
 refine Bd (by kernel_rfl) ?_ _
 refine NoPanic.normal ?_
 try simp only[Al,Ad,Ae,Af]
 have HTC:=Ag HP.out.2.len
 have HRT:=Ag (show ∀ (W:World) (a b c:Value),Blk W w.heap.size 45 (flC f.nm f.p.o f.p.e a b c f.v f.e f.u tc)→W.rangeAt w.heap.size 9 tc from fun W a b c hW j x hx=> by rw[hW.cell,show 9+j=j+9 by omega];exact hx)
 go_wp2_with fail
 refine A2 (fun W=> W.rangeAt a2.heap.size 0 (pmC f.p.o f.p.e ur uq ug)∧W.rangeAt w.heap.size 9 tc) 5 [0,1,2] 5 (by kernel_rfl) rfl (by kernel_rfl) (by kernel_rfl) ⟨As K14.out.2.2.2.1,HRT.out _ _ _ _ K14.out.1⟩ ?_
 iterate 3(refine' AK.run ?_ ?_ ?_ ?_;rotate_left 2;(simp only[Aa,Ab,Ac];rfl);rfl;(rintro w' ⟨k0,k1⟩;first|exact AB rfl rfl k0 Tryz.underlying43 rfl (Ay _ _ _ _ _)|exact AB rfl rfl k1 Tryz.underlying29 rfl (At Tryz.infoTm HTC.out)|(go_simp;with_reducible rfl));simp only[Al,Ad,Ae,Af])
 have sm:=(Sm.refl u13).drew
 have HV16:=Ag (show Blk u13.drew (w.heap.size) 45 (flC f.nm f.p.o f.p.e vr vq vg f.v f.e f.u tc)∧Below w.heap.size w u13.drew∧Blk u13.drew (a1.heap.size) 45 (flC ⟨#[]⟩ 0 0 (.slice none 0 0) (.slice none 0 0) (.slice none 0 0) 0 0 0 (tmC 0 0 0 ⟨#[]⟩ (.slice none 0 0)))∧Blk u13.drew (a2.heap.size) 43 (pmC f.p.o f.p.e ur uq ug)∧a3.heap.size≤u13.drew.heap.size∧SlI (a3.heap.size≤·) u13.drew ur (f.p.r)∧SlI (a3.heap.size≤·) u13.drew uq (f.p.q)∧SlI (a3.heap.size≤·) u13.drew ug (f.p.g) from⟨K14.out.1.below (sm.below _) K14.out.1.lt,(An K14.out.2.1 (sm.below _) (Ah _)),K14.out.2.2.1.below (sm.below _) K14.out.2.2.1.lt,K14.out.2.2.2.1.below (sm.below _) K14.out.2.2.2.1.lt,(Aj K14.out.2.2.2.2.1 (sm.below 0).size),K14.out.2.2.2.2.2.1.below (sm.below _),K14.out.2.2.2.2.2.2.1.below (sm.below _),K14.out.2.2.2.2.2.2.2.below (sm.below _)⟩)
 clear sm
 generalize u13.drew=v15 at HV16 ⊢
 refine B7 (by kernel_rfl) AG (fuel:=4) ⟨As HV16.out.2.2.2.1,HRT.out _ _ _ _ HV16.out.1⟩ [4] _ _ (by kernel_rfl) ?_
 refine' AK.run ?_ ?_ ?_ ?_;rotate_left 2;(simp only[Aa,Ab,Ac];rfl);rfl;(rintro w' ⟨k0,k1⟩;first|exact AB rfl rfl k0 Tryz.underlying43 rfl (Ay _ _ _ _ _)|exact AB rfl rfl k1 Tryz.underlying29 rfl (At Tryz.infoTm HTC.out)|(go_simp;with_reducible rfl));simp only[Al,Ad,Ae,Af]
 refine' AE 3 (by kernel_rfl) ?_ ?_;rotate_left;(simp only[Aa,Ab,Ac];rfl)
 try simp only[Al,Ad,Ae,Af]
 go_wp2_with fail
 refine(B4 f.b tc _ v15 HL.out.2 (HP.out.2.below HV16.out.2.1)).mono ?_
 rintro e' u17 ⟨tc',rfl,ht,hb⟩
 have HTL:=Ag (show tc'.length=tc.length from by rw[ht.len,HP.out.2.len])
 have K18:=Ag (show Blk u17 (w.heap.size) 45 (flC f.nm f.p.o f.p.e vr vq vg f.v f.e f.u tc)∧Below w.heap.size w u17∧Blk u17 (a1.heap.size) 45 (flC ⟨#[]⟩ 0 0 (.slice none 0 0) (.slice none 0 0) (.slice none 0 0) 0 0 0 (tmC 0 0 0 ⟨#[]⟩ (.slice none 0 0)))∧Blk u17 (a2.heap.size) 43 (pmC f.p.o f.p.e ur uq ug)∧a3.heap.size≤u17.heap.size∧SlI (a3.heap.size≤·) u17 ur (f.p.r)∧SlI (a3.heap.size≤·) u17 uq (f.p.q)∧SlI (a3.heap.size≤·) u17 ug (f.p.g)∧TmC (a3.heap.size≤·) u17 tc' (f.b) from⟨HV16.out.1.below hb HV16.out.1.lt,(An HV16.out.2.1 hb (Ah _)),HV16.out.2.2.1.below hb HV16.out.2.2.1.lt,HV16.out.2.2.2.1.below hb HV16.out.2.2.2.1.lt,(Aj HV16.out.2.2.2.2.1 hb.size),HV16.out.2.2.2.2.2.1.below hb,HV16.out.2.2.2.2.2.2.1.below hb,HV16.out.2.2.2.2.2.2.2.below hb,ht.mono fun k hk=> Aj HV16.out.2.2.2.2.1 hk⟩)
 clear ht hb
 go_wp2_with fail
 refine QK.normal ⟨fun _=> ⟨As K18.out.2.2.2.1,HRT.out _ _ _ _ K18.out.1⟩,?_⟩
 refine' AE 5 (by kernel_rfl) ?_ ?_;rotate_left;(simp only[Aa,Ab,Ac];rfl)
 try simp only[Al,Ad,Ae,Af]
 refine Be u17 rfl 43 (.tmp 22) (.tmp 18) rfl (w.heap.size) 1 45 _ (pmC f.p.o f.p.e ur uq ug) (flC f.nm f.p.o f.p.e ur uq ug f.v f.e f.u tc) K18.out.1 rfl rfl (by simp[pmC,flC]) ((Ay _ _ _ _ _)) (Bt K18.out.2.2.2.2.2.1.one K18.out.2.2.2.2.2.2.1.one K18.out.2.2.2.2.2.2.2.1.one) (KM _ _ _ _ _ _ _ _ _ _ _ _ _ _ _) ?_
 intro u19 hb hc hs
 have K20:=hJ9 hb (Aw K18.out.2.1 hc (Ah _) (fun k hk=> by have e:=(show _=_ from hk);have:=HG.out;omega)) (K18.out.2.2.1.keep hc (fun e=> absurd (show _=_ from e) (by have:=HG.out;omega))) (K18.out.2.2.2.1.keep hc (fun e=> absurd (show _=_ from e) (by have:=HG.out;omega))) (Aj K18.out.2.2.2.2.1 hc.size) (K18.out.2.2.2.2.2.1.keep' hc (fun k hk e=> absurd (show _=_ from e) (by have hk:a3.heap.size≤k:=hk;have:=HG.out;omega)) (idf _)) (K18.out.2.2.2.2.2.2.1.keep' hc (fun k hk e=> absurd (show _=_ from e) (by have hk:a3.heap.size≤k:=hk;have:=HG.out;omega)) (idf _)) (K18.out.2.2.2.2.2.2.2.1.keep' hc (fun k hk e=> absurd (show _=_ from e) (by have hk:a3.heap.size≤k:=hk;have:=HG.out;omega)) (idf _)) (K18.out.2.2.2.2.2.2.2.2.keep hc (fun k hk e=> absurd (show _=_ from e) (by have hk:a3.heap.size≤k:=hk;have:=HG.out;omega)))
 clear hb hc hs
 refine QK.normal ⟨fun h=> absurd h (by decide),?_⟩
 refine AL (by kernel_rfl) AG (fuel:=1) (fun h=> absurd h (by decide)) 6 (by kernel_rfl) ?_
 refine' AK.run ?_ ?_ ?_ ?_;rotate_left 2;(simp only[Aa,Ab,Ac];rfl);rfl;(rintro w' -;go_simp;with_reducible rfl);simp only[Al,Ad,Ae,Af]
 refine' AE 7 (by kernel_rfl) ?_ ?_;rotate_left;(simp only[Aa,Ab,Ac];rfl)
 try simp only[Al,Ad,Ae,Af]
 refine Be u19 rfl 29 (.tmp 23) (.tmp 21) rfl (w.heap.size) 9 45 _ (tc') (flC f.nm f.p.o f.p.e ur uq ug f.v f.e f.u tc') K20.out.1 rfl rfl (by have:=HTL.out;simp[flC];omega) ((At Tryz.infoTm K20.out.2.2.2.2.2.2.2.2.len)) K20.out.2.2.2.2.2.2.2.2.one (Gs _ _ _ _ _ _ _ _ _ _ _ HTL.out) ?_
 intro u21 hb hc hs
 have K22:=hJ9 hb (Aw K20.out.2.1 hc (Ah _) (fun k hk=> by have e:=(show _=_ from hk);have:=HG.out;omega)) (K20.out.2.2.1.keep hc (fun e=> absurd (show _=_ from e) (by have:=HG.out;omega))) (K20.out.2.2.2.1.keep hc (fun e=> absurd (show _=_ from e) (by have:=HG.out;omega))) (Aj K20.out.2.2.2.2.1 hc.size) (K20.out.2.2.2.2.2.1.keep' hc (fun k hk e=> absurd (show _=_ from e) (by have hk:a3.heap.size≤k:=hk;have:=HG.out;omega)) (idf _)) (K20.out.2.2.2.2.2.2.1.keep' hc (fun k hk e=> absurd (show _=_ from e) (by have hk:a3.heap.size≤k:=hk;have:=HG.out;omega)) (idf _)) (K20.out.2.2.2.2.2.2.2.1.keep' hc (fun k hk e=> absurd (show _=_ from e) (by have hk:a3.heap.size≤k:=hk;have:=HG.out;omega)) (idf _)) (K20.out.2.2.2.2.2.2.2.2.keep hc (fun k hk e=> absurd (show _=_ from e) (by have hk:a3.heap.size≤k:=hk;have:=HG.out;omega)))
 clear hb hc hs
 refine QK.normal ⟨fun h=> absurd h (by decide),?_⟩
 refine Bd (by kernel_rfl) ?_ _
 refine NoPanic.normal ?_
 try simp only[Al,Ad,Ae,Af]
 have HLF:=Ag (show(flC f.nm f.p.o f.p.e ur uq ug f.v f.e f.u tc').length=14 from by have:=K22.out.2.2.2.2.2.2.2.2.len;simp[flC,this])
 have HLZ:=Ag (show(flC f.nm f.p.o f.p.e ur uq ug f.v f.e f.u tc').length=(flC ⟨#[]⟩ 0 0 (.slice none 0 0) (.slice none 0 0) (.slice none 0 0) 0 0 0 (tmC 0 0 0 ⟨#[]⟩ (.slice none 0 0))).length from by have:=K22.out.2.2.2.2.2.2.2.2.len;simp[flC,this,tmC])
 have HOF:=Ag (show ∀ v∈flC f.nm f.p.o f.p.e ur uq ug f.v f.e f.u tc',v.oneCell'=true from(fun v hv=> FlC.one (F:=(a3.heap.size≤·)) (w:=u21) (f:=f) ⟨_,_,_,_,rfl,⟨K22.out.2.2.2.2.2.1,K22.out.2.2.2.2.2.2.1,K22.out.2.2.2.2.2.2.2.1⟩,K22.out.2.2.2.2.2.2.2.2⟩ v hv))
 go_wp2_with (first
  | (with_reducible refine Ap rfl 45 (.tmp 1) rfl (w.heap.size) 0 rfl (flC f.nm f.p.o f.p.e ur uq ug f.v f.e f.u tc') _ (As K22.out.1) Tryz.underlying45 rfl (At Tryz.infoFl HLF.out) ?_)
  | ((with_reducible refine Ao u21 rfl 45 (.tmp 2) (.tmp 24) rfl (a1.heap.size) 45 (flC ⟨#[]⟩ 0 0 (.slice none 0 0) (.slice none 0 0) (.slice none 0 0) 0 0 0 (tmC 0 0 0 ⟨#[]⟩ (.slice none 0 0))) (flC f.nm f.p.o f.p.e ur uq ug f.v f.e f.u tc') K22.out.2.2.1 rfl rfl HLZ.out (At Tryz.infoFl HLF.out) HOF.out ?_);intro z2 hb hc hs;have HX:=hJ9 (K22.out.1.keep hc (fun e=> absurd (show _=_ from e) (by have:=HG.out;omega))) (Aw K22.out.2.1 hc (Ah _) (fun k hk=> by have e:=(show _=_ from hk);have:=HG.out;omega)) hb (K22.out.2.2.2.1.keep hc (fun e=> absurd (show _=_ from e) (by have:=HG.out;omega))) (Aj K22.out.2.2.2.2.1 hc.size) (K22.out.2.2.2.2.2.1.keep' hc (fun k hk e=> absurd (show _=_ from e) (by have hk:a3.heap.size≤k:=hk;have:=HG.out;omega)) (idf _)) (K22.out.2.2.2.2.2.2.1.keep' hc (fun k hk e=> absurd (show _=_ from e) (by have hk:a3.heap.size≤k:=hk;have:=HG.out;omega)) (idf _)) (K22.out.2.2.2.2.2.2.2.1.keep' hc (fun k hk e=> absurd (show _=_ from e) (by have hk:a3.heap.size≤k:=hk;have:=HG.out;omega)) (idf _)) (K22.out.2.2.2.2.2.2.2.2.keep hc (fun k hk e=> absurd (show _=_ from e) (by have hk:a3.heap.size≤k:=hk;have:=HG.out;omega)));clear hb hc hs))
 refine bodyPost_ret (AA Tryz.results26 _ _ (a1.heap.size) _ _ rfl HX.out.2.2.1 _ Tryz.underlying45 rfl (At Tryz.infoFl HLF.out)) rfl ?_
 refine⟨_,rfl,⟨_,_,_,_,rfl,⟨⟨HX.out.2.2.2.2.2.1.1,fun k h0 hk=> ?_⟩,⟨HX.out.2.2.2.2.2.2.1.1,fun k h0 hk=> ?_⟩,⟨HX.out.2.2.2.2.2.2.2.1.1,fun k h0 hk=> ?_⟩⟩,HX.out.2.2.2.2.2.2.2.2.mono (fun k hk=> by have hk:a3.heap.size≤k:=hk;have:=HG.out;omega)⟩,HX.out.2.1⟩
 ·have:=HX.out.2.2.2.2.2.1.2 k h0 hk;have:=HG.out;simp only at *;omega
 ·have:=HX.out.2.2.2.2.2.2.1.2 k h0 hk;have:=HG.out;simp only at *;omega
 ·have:=HX.out.2.2.2.2.2.2.2.1.2 k h0 hk;have:=HG.out;simp only at *;omega
theorem Ji {P c0 R new:List Value} {q:Nat} (h:q+new.length≤c0.length):AU (P ++ (c0 ++ R)) (P.length+q) new=P ++ (AU c0 q new ++ R):=by
 apply List.ext_getElem?
 intro i
 have hl:(AU c0 q new).length=c0.length:=by
  have:∀ (new c0:List Value) (q:Nat),(AU c0 q new).length=c0.length:=by
   intro new
   induction new with
   | nil=> intro c0 q;rfl
   | cons v r ih=> intro c0 q;unfold AU;rw[ih,List.length_set]
  exact this _ _ _
 rw[Cm _ _ _ (by simp;omega) i]
 by_cases h1:i<P.length
 ·rw[if_neg (by omega),List.getElem?_append_left h1,List.getElem?_append_left h1]
 ·have e1:(P ++ (AU c0 q new ++ R))[i]?=(AU c0 q new ++ R)[i - P.length]?:=List.getElem?_append_right (by omega)
  have e2:(P ++ (c0 ++ R))[i]?=(c0 ++ R)[i - P.length]?:=List.getElem?_append_right (by omega)
  rw[e1,e2]
  by_cases h2:i - P.length<c0.length
  ·have e3:(c0 ++ R)[i - P.length]?=c0[i - P.length]?:=List.getElem?_append_left h2
   have e4:(AU c0 q new ++ R)[i - P.length]?=(AU c0 q new)[i - P.length]?:=List.getElem?_append_left (by rw[hl];exact h2)
   rw[e3,e4,Cm _ _ _ h]
   by_cases h3:q≤i - P.length∧i - P.length<q+new.length
   ·rw[if_pos h3,if_pos (by omega)];congr 1;omega
   ·rw[if_neg h3,if_neg (by omega)]
  ·rw[if_neg (by omega),List.getElem?_append_right (by omega),List.getElem?_append_right (by rw[hl];omega),hl]
theorem BI:∀ (new c0:List Value) (q:Nat),(AU c0 q new).length=c0.length:=by
 intro new
 induction new with
 | nil=> intro c0 q;rfl
 | cons v r ih=> intro c0 q;unfold AU;rw[ih,List.length_set]
theorem G2 {sz q:Nat} {css:List (List Value)} {j:Nat} {new:List Value} (hl:∀ x∈css,x.length=sz) (hj:j<css.length) (hq:q+new.length≤sz):AU css.flatten (j* sz+q) new=(css.set j (AU css[j] q new)).flatten:=by
 have e:css=css.take j ++ css[j]::css.drop (j+1):=by rw[←List.drop_eq_getElem_cons hj,List.take_append_drop]
 have e2:css.set j (AU css[j] q new)=css.take j ++ AU css[j] q new::css.drop (j+1):=by rw[List.set_eq_take_append_cons_drop,if_pos hj]
 have hp:(css.take j).flatten.length=j* sz:=by
  rw[BA (fun x hx=> hl x (List.mem_of_mem_take hx)),List.length_take,Nat.min_eq_left (by omega)]
 have e3:css.flatten=(css.take j).flatten ++ (css[j] ++ (css.drop (j+1)).flatten):=by
  have:=congrArg List.flatten e
  rw[List.flatten_append,List.flatten_cons] at this
  exact this
 rw[e3,e2,List.flatten_append,List.flatten_cons,←hp,Ji (by rw[hl _ (List.getElem_mem hj)];exact hq)]
section
variable {α:Type} {C C':World→List Value→α→Prop} {sz B:Nat} {ty:TypeId} {w:World} {v:Value} {l:List α}
theorem OwR.ptr (h:OwR C sz ty B w v l) {j:Nat} (hj:j<l.length):∃ g c,v=.slice (some ⟨g,0,none⟩) l.length c∧g<w.heap.size:=by
 obtain⟨css,⟨_,⟨rfl,hn⟩|⟨g,cap,cur,rfl,_,hg,h1,h2,_⟩⟩,_⟩:=h
 ·omega
 ·exact⟨g,cap,rfl,lt_of_block hg⟩
theorem OwR.focus {g n c j:Nat} (h:OwR C sz ty B w (.slice (some ⟨g,0,none⟩) n c) l) (hj:j<l.length):g<w.heap.size∧n=l.length∧∃ cs,cs.length=sz∧w.rangeAt g (j* sz) cs∧C w cs l[j]∧w.there g (j* sz) sz∧
  ∀ q new a',q+new.length≤sz→(∀ C':World→List Value→α→Prop,C' (w.setCells g (j* sz+q) new) (AU cs q new) a'→(∀ cs a,a∈l→C w cs a→C' (w.setCells g (j* sz+q) new) cs a)→OwR C' sz ty B (w.setCells g (j* sz+q) new) (.slice (some ⟨g,0,none⟩) n c) (l.set j a')):=by
 obtain⟨css,k1,k2,k3⟩:=h
 have h5:=B1 k2 k3
 obtain⟨hl,⟨e,hn⟩|⟨g',cap,cur,e,hbg,hg,hnc,hcm,hcs,htake⟩⟩:=id k1
 ·cases e
 simp only[Value.slice.injEq,Option.some.injEq,Addr.mk.injEq,and_true] at e
 obtain⟨rfl,rfl,rfl⟩:=e
 have hj':j<css.length:=by omega
 have hcell:∀ i u,css[j][i]?=some u→w.cell? ⟨g,j* sz+i,none⟩=some u:=fun i u hu=> by
  have hi:i<sz:=by have:=(List.getElem?_eq_some_iff.1 hu).1;rw[h5 _ (List.getElem_mem hj')] at this;exact this
  have hc:=k1.cells (g:=g) rfl (j* sz+i) u (by rw[CX h5 hj' hi];exact hu)
  rw[Addr.add_lit,Nat.zero_add] at hc
  exact hc
 refine⟨lt_of_block hg,rfl,css[j],h5 _ (List.getElem_mem hj'),hcell,(k3 j hj' hj).2,fun i hi=> ?_,fun q new a' hq C' h1 h2=> ⟨css.set j (AU css[j] q new),?_,by rw[List.length_set,List.length_set];exact k2,fun i a b=> ?_⟩⟩
 ·have hi':i<css[j].length:=by rw[h5 _ (List.getElem_mem hj')];exact hi
  rw[hcell i css[j][i] (List.getElem?_eq_getElem hi'),k1.frozenAt];simp
 ·rw[←G2 h5 hj' hq,List.length_set]
  exact CU _ _ _ _ k1
 ·by_cases hij:i=j
  ·subst hij
   rw[List.getElem_set_self,List.getElem_set_self]
   exact⟨by rw[BI];exact h5 _ (List.getElem_mem hj'),h1⟩
  ·rw[List.getElem_set_ne (fun e=> hij e.symm),List.getElem_set_ne (fun e=> hij e.symm)]
   have h0:=k3 i (by rw[List.length_set] at a;exact a) (by rw[List.length_set] at b;exact b)
   exact⟨h0.1,h2 _ _ (List.getElem_mem _) h0.2⟩
end
structure CirV where
 n:Int
 o:Int
 us:List Int
 vu:Value
 own:Bool
def CirV.m (c:CirV):CirM:=⟨c.n,c.o,c.us⟩
def ob (v:Value):List Nat:=v.ownBlock.toList
theorem AF {v:Value} {k:Nat}:k∈ob v↔v.ownBlock=some k:=by unfold ob;simp[Option.mem_toList]
def CirV.ub (c:CirV):List Nat:=if c.own=true then ob c.vu else []
def ubs (cv:List CirV):List Nat:=cv.flatMap CirV.ub
def msL (bp:Nat) (vf vc vw:Value) (cv:List CirV):List Nat:=bp::(ob vf ++ (ob vc ++ (ob vw ++ ubs cv)))
def Fz (xs ms:List Nat) (w:World) (k:Nat):Prop:=(k∉xs∧k∉ms)∧k<w.heap.size
def CvC (F:Nat→Prop) (w:World) (cs:List Value) (c:CirV):Prop:=cs=ciC c.n c.o c.vu∧(c.own=true→w.ownsRow 0 3 1 c.vu c.us.length (ofK .i64 c.us))∧(c.own=false→SlI F w c.vu c.us)
theorem frz {xs ms ms':List Nat} {w w':World} (hsz:w.heap.size≤w'.heap.size) (hm:∀ k∈ms',k∈ms∨w.heap.size≤k):∀ k,Fz xs ms w k→Fz xs ms' w' k:=fun k h=> ⟨⟨h.1.1,fun hk=> (hm k hk).elim h.1.2 (fun e=> by have:=h.2;omega)⟩,by have:=h.2;omega⟩
theorem CvC.keep' {F G S:Nat→Prop} {w w':World} {cs:List Value} {c:CirV} (h:CvC F w cs c) (hc:Ch S w w') (hU:∀ k∈c.ub,¬ S k) (hS:∀ k,F k→¬ S k) (hG:∀ k,F k→G k):CvC G w' cs c:=by
 obtain⟨h1,h2,h3⟩:=h
 exact⟨h1,fun e=> A9 (h2 e) hc (fun k hk=> hU k (by unfold CirV.ub;rw[if_pos e];exact AF.2 hk)),fun e=> (h3 e).keep' hc hS hG⟩
theorem CvC.cic {F:Nat→Prop} {w:World} {cs:List Value} {c:CirV} (h:CvC F w cs c):CiC (fun _=> True) w cs c.m:=by
 obtain⟨h1,h2,h3⟩:=h
 refine⟨c.vu,h1,?_⟩
 cases ho:c.own with
 | true=> exact⟨Sl.of_owns (h2 ho),fun _ _ _=> trivial⟩
 | false=> exact⟨(h3 ho).1,fun _ _ _=> trivial⟩
theorem CvC.one {F:Nat→Prop} {w:World} {cs:List Value} {c:CirV} (h:CvC F w cs c):∀ v∈cs,v.oneCell'=true:=h.cic.one
theorem BR {cv:List CirV} {k:Nat}:k∈ubs cv↔∃ c∈cv,k∈c.ub:=by unfold ubs;simp[List.mem_flatMap]
structure OwnX (w0:World) (m0 xs:List Nat) (w:World) (bp:Nat) (bt:TypeId) (cells:List Value) (vf vc vw:Value) (fs:List FileM) (cv:List CirV) (ws:List WrM) (ex:List (List Value × Tm)):Prop where
 ch:Ch (·∈m0) w0 w
 nd:(msL bp vf vc vw cv).Nodup
 sub:∀ k∈msL bp vf vc vw cv,k∈m0∨w0.heap.size≤k
 ax:∀ k∈xs,k∉msL bp vf vc vw cv∧k<w.heap.size
 bl:Blk w bp bt cells
 rf:OwR (FlC (Fz xs (msL bp vf vc vw cv) w)) 14 45 0 w vf fs
 rc:OwR (CvC (Fz xs (msL bp vf vc vw cv) w)) 3 49 0 w vc cv
 rw:OwR (WrC (Fz xs (msL bp vf vc vw cv) w)) 9 56 0 w vw ws
 ex:∀ p∈ex,TmC (Fz xs (msL bp vf vc vw cv) w) w p.1 p.2
section
variable {w0 w w':World} {m0 xs:List Nat} {bp:Nat} {bt:TypeId} {cells cells':List Value} {vf vc vw vf' vc' vw':Value} {fs fs':List FileM} {cv cv':List CirV} {ws ws':List WrM} {ex:List (List Value × Tm)}
theorem OwR.mem {α:Type} {C:World→List Value→α→Prop} {sz B:Nat} {ty:TypeId} {v:Value} {l:List α} (h:OwR C sz ty B w v l) {a:α} (ha:a∈l):∃ cs,C w cs a:=by
 obtain⟨css,h1,h2,h3⟩:=h
 obtain⟨j,hj,rfl⟩:=List.mem_iff_getElem.1 ha
 exact⟨_,(h3 j (by omega) hj).2⟩
theorem OwnX.lt (h:OwnX w0 m0 xs w bp bt cells vf vc vw fs cv ws ex):∀ k∈msL bp vf vc vw cv,k<w.heap.size:=fun k hk=> by
 unfold msL at hk
 simp only[List.mem_cons,List.mem_append,AF,BR] at hk
 rcases hk with rfl|hk|hk|hk|⟨c,hc,hk⟩
 ·exact h.bl.lt
 ·exact(h.rf.lt k hk).2
 ·exact(h.rc.lt k hk).2
 ·exact(h.rw.lt k hk).2
 ·obtain⟨cs,h1,h2,h3⟩:=h.rc.mem hc
  unfold CirV.ub at hk
  split at hk
  ·rename_i ho
   exact((h2 ho).lt k (AF.1 hk)).2
  ·cases hk
theorem OwnX.step (h:OwnX w0 m0 xs w bp bt cells vf vc vw fs cv ws ex) {S:Nat→Prop} (hc:Ch S w w') (hS:∀ k,S k→k∈msL bp vf vc vw cv)
  (hm:∀ k∈msL bp vf' vc' vw' cv',k∈msL bp vf vc vw cv∨w.heap.size≤k) (hnd:(msL bp vf' vc' vw' cv').Nodup) (bl:Blk w' bp bt cells')
  (rf:(∀ cs f,FlC (Fz xs (msL bp vf vc vw cv) w) w cs f→FlC (Fz xs (msL bp vf' vc' vw' cv') w') w' cs f)→OwR (FlC (Fz xs (msL bp vf' vc' vw' cv') w')) 14 45 0 w' vf' fs')
  (rc:(∀ cs c,(∀ k∈c.ub,¬ S k)→CvC (Fz xs (msL bp vf vc vw cv) w) w cs c→CvC (Fz xs (msL bp vf' vc' vw' cv') w') w' cs c)→OwR (CvC (Fz xs (msL bp vf' vc' vw' cv') w')) 3 49 0 w' vc' cv')
  (rw:(∀ cs f,WrC (Fz xs (msL bp vf vc vw cv) w) w cs f→WrC (Fz xs (msL bp vf' vc' vw' cv') w') w' cs f)→OwR (WrC (Fz xs (msL bp vf' vc' vw' cv') w')) 9 56 0 w' vw' ws'):
  OwnX w0 m0 xs w' bp bt cells' vf' vc' vw' fs' cv' ws' ex:=by
 have hG:=frz (xs:=xs) hc.size hm
 have hN:∀ k,Fz xs (msL bp vf vc vw cv) w k→¬ S k:=fun k hk hs=> hk.1.2 (hS k hs)
 refine⟨⟨hc.os.trans h.ch.os,hc.tape.trans h.ch.tape,hc.output.trans h.ch.output,Aj h.ch.size hc.size,fun k hk hn=> ?_⟩,hnd,fun k hk=> ?_,fun k hk=> ⟨fun hm'=> (hm k hm').elim (h.ax k hk).1 (fun e=> by have:=(h.ax k hk).2;omega),Ak (h.ax k hk).2 hc.size⟩,bl,rf (fun cs f hf=> hf.keep' hc hN hG),rc (fun cs c hu hf=> hf.keep' hc hu hN hG),rw (fun cs f hf=> hf.keep' hc hN hG),fun p hp=> TmC.keep' hc hN hG _ _ (h.ex p hp)⟩
 ·rw[hc.block k (Ak hk h.ch.size) (fun hs=> by
   rcases h.sub k (hS k hs) with h1|h1
   ·exact hn h1
   ·omega)]
  exact h.ch.block k hk hn
 ·rcases hm k hk with h1|h1
  ·exact h.sub k h1
  ·exact .inr (Aj h.ch.size h1)
theorem OwnX.below (h:OwnX w0 m0 xs w bp bt cells vf vc vw fs cv ws ex) (hb:Below w.heap.size w w'):OwnX w0 m0 xs w' bp bt cells vf vc vw fs cv ws ex:=by
 have hc:=Ch.of_below (S:=fun _=> False) hb (Ah _)
 exact h.step hc (fun k hk=> hk.elim) (fun k hk=> .inl hk) h.nd (h.bl.below hb h.bl.lt) (fun hf=> h.rf.keep' hc (fun _ _ e=> e) (fun cs a _=> hf cs a)) (fun hf=> h.rc.keep' hc (fun _ _ e=> e) (fun cs a _=> hf cs a (fun _ _ e=> e))) (fun hf=> h.rw.keep' hc (fun _ _ e=> e) (fun cs a _=> hf cs a))
theorem OwnX.more (h:OwnX w0 m0 xs w bp bt cells vf vc vw fs cv ws ex) {cs:List Value} {t:Tm} (ht:TmC (w.heap.size≤·) w' cs t) (hb:Below w.heap.size w w'):OwnX w0 m0 xs w' bp bt cells vf vc vw fs cv ws ((cs,t)::ex):=by
 have h':=h.below hb
 refine⟨h'.ch,h'.nd,h'.sub,h'.ax,h'.bl,h'.rf,h'.rc,h'.rw,fun p hp=> ?_⟩
 rcases List.mem_cons.1 hp with rfl|hp
 ·exact(TmC.old' _ _ ht).mono fun k hk=> ⟨⟨fun hm=> by have:=(h.ax k hm).2;have:=hk.1;omega,fun hm=> by have:=h.lt k hm;have:=hk.1;omega⟩,hk.2⟩
 ·exact h'.ex p hp
theorem OwnX.less (h:OwnX w0 m0 xs w bp bt cells vf vc vw fs cv ws ex) (ex':List (List Value × Tm)) (hs:∀ p∈ex',p∈ex):OwnX w0 m0 xs w bp bt cells vf vc vw fs cv ws ex':=
 ⟨h.ch,h.nd,h.sub,h.ax,h.bl,h.rf,h.rc,h.rw,fun p hp=> h.ex p (hs p hp)⟩
theorem OwnX.idc (h:OwnX w0 m0 xs w bp bt cells vf vc vw fs cv ws ex):IdC (fun _=> True) w [vf,vc,vw] ⟨fs,cv.map CirV.m,ws⟩:=by
 refine⟨vf,vc,vw,rfl,h.rf.rwc.mono (fun _ _=> trivial) (fun cs a _ hf=> hf.keep' (Ch.refl (fun _=> False) w) (fun _ _ e=> e) (fun _ _=> trivial)),?_,h.rw.rwc.mono (fun _ _=> trivial) (fun cs a _ hf=> hf.keep' (Ch.refl (fun _=> False) w) (fun _ _ e=> e) (fun _ _=> trivial))⟩
 obtain⟨ao,c,h1,h2,h3,h4⟩:=h.rc.rwc
 refine⟨ao,c,by rw[List.length_map];exact h1,by rw[List.length_map];exact h2,h3,fun h0=> ?_⟩
 obtain⟨b,o,e,hF,hb,ha⟩:=h4 (by rwa [List.length_map] at h0)
 refine⟨b,o,e,trivial,hb,fun j hj=> ?_⟩
 rw[List.length_map] at hj
 obtain⟨cs,h5,h6,h7⟩:=ha j hj
 exact⟨cs,h5,h6,by rw[List.getElem_map];exact h7.cic⟩
theorem EO {l1 l2:List Nat} {v v':Value} {N:Nat} (hn:(l1 ++ (ob v ++ l2)).Nodup) (hl:∀ k∈l1 ++ (ob v ++ l2),k<N) (h:v'.ownBlock=v.ownBlock∨∀ k,v'.ownBlock=some k→N≤k):(l1 ++ (ob v' ++ l2)).Nodup:=by
 rcases h with h|h
 ·have e:ob v'=ob v:=by unfold ob;rw[h]
  rw[e];exact hn
 ·have hs:(l1 ++ l2).Nodup:=hn.sublist (List.Sublist.append (List.Sublist.refl l1) (List.sublist_append_right _ _))
  cases e:v'.ownBlock with
  | none=>
   have:ob v'=[]:=by unfold ob;rw[e];rfl
   rw[this];exact hs
  | some k=>
   have:ob v'=[k]:=by unfold ob;rw[e];rfl
   rw[this]
   have hk:=h k e
   rw[List.nodup_append] at hs ⊢
   refine⟨hs.1,?_,fun a ha b hb=> ?_⟩
   ·rw[List.singleton_append,List.nodup_cons]
    exact⟨fun hm=> by have:=hl k (by simp[hm]);omega,hs.2.1⟩
   ·rw[List.singleton_append,List.mem_cons] at hb
    rcases hb with rfl|hb
    ·intro e;subst e;have:=hl a (by simp[ha]);omega
    ·exact hs.2.2 a ha b hb
theorem msL_f {P:Nat→Prop} (h:∀ k∈ob vf',P k) (h2:∀ k∈msL bp vf vc vw cv,P k):∀ k∈msL bp vf' vc vw cv,P k:=fun k hk=> by
 unfold msL at hk h2
 simp only[List.mem_cons,List.mem_append] at hk h2
 rcases hk with hk|hk|hk
 ·exact h2 k (.inl hk)
 ·exact h k hk
 ·exact h2 k (.inr (.inr hk))
theorem msL_c {P:Nat→Prop} (h:∀ k∈ob vc',P k) (h2:∀ k∈msL bp vf vc vw cv,P k):∀ k∈msL bp vf vc' vw cv,P k:=fun k hk=> by
 unfold msL at hk h2
 simp only[List.mem_cons,List.mem_append] at hk h2
 rcases hk with hk|hk|hk|hk
 ·exact h2 k (.inl hk)
 ·exact h2 k (.inr (.inl hk))
 ·exact h k hk
 ·exact h2 k (.inr (.inr (.inr hk)))
theorem msL_w {P:Nat→Prop} (h:∀ k∈ob vw',P k) (h2:∀ k∈msL bp vf vc vw cv,P k):∀ k∈msL bp vf vc vw' cv,P k:=fun k hk=> by
 unfold msL at hk h2
 simp only[List.mem_cons,List.mem_append] at hk h2
 rcases hk with hk|hk|hk|hk|hk
 ·exact h2 k (.inl hk)
 ·exact h2 k (.inr (.inl hk))
 ·exact h2 k (.inr (.inr (.inl hk)))
 ·exact h k hk
 ·exact h2 k (.inr (.inr (.inr (.inr hk))))
theorem msL_u {P:Nat→Prop} (h:∀ k∈ubs cv',P k) (h2:∀ k∈msL bp vf vc vw cv,P k):∀ k∈msL bp vf vc vw cv',P k:=fun k hk=> by
 unfold msL at hk h2
 simp only[List.mem_cons,List.mem_append] at hk h2
 rcases hk with hk|hk|hk|hk|hk
 ·exact h2 k (.inl hk)
 ·exact h2 k (.inr (.inl hk))
 ·exact h2 k (.inr (.inr (.inl hk)))
 ·exact h2 k (.inr (.inr (.inr (.inl hk))))
 ·exact h k hk
theorem Ik {v v':Value} {N:Nat} {ms:List Nat} (h:v'.ownBlock=v.ownBlock∨∀ k,v'.ownBlock=some k→N≤k) (hm:∀ k∈ob v,k∈ms):∀ k∈ob v',k∈ms∨N≤k:=fun k hk=> by
 rw[AF] at hk
 rcases h with h|h
 ·exact .inl (hm k (AF.2 (by rw[←h];exact hk)))
 ·exact .inr (h k hk)
theorem FR:∀ k∈ob vf,k∈msL bp vf vc vw cv:=fun k hk=> by unfold msL;simp[hk]
theorem FS:∀ k∈ob vc,k∈msL bp vf vc vw cv:=fun k hk=> by unfold msL;simp[hk]
theorem GR:∀ k∈ob vw,k∈msL bp vf vc vw cv:=fun k hk=> by unfold msL;simp[hk]
theorem Gt:∀ k∈ubs cv,k∈msL bp vf vc vw cv:=fun k hk=> by unfold msL;simp[hk]
theorem of_b:bp∈msL bp vf vc vw cv:=List.mem_cons_self
theorem OwnX.bf (h:OwnX w0 m0 xs w bp bt cells vf vc vw fs cv ws ex):∀ k∈ob vf,k≠bp∧k∉ob vc∧k∉ob vw∧k∉ubs cv:=fun k hk=> by
 have hn:=h.nd
 unfold msL at hn
 rw[List.nodup_cons,List.nodup_append] at hn
 simp only[List.mem_append] at hn
 exact⟨fun e=> hn.1 (.inl (e ▸ hk)),fun e=> hn.2.2.2 k hk k (.inl e) rfl,fun e=> hn.2.2.2 k hk k (.inr (.inl e)) rfl,fun e=> hn.2.2.2 k hk k (.inr (.inr e)) rfl⟩
theorem OwnX.bc (h:OwnX w0 m0 xs w bp bt cells vf vc vw fs cv ws ex):∀ k∈ob vc,k≠bp∧k∉ob vf∧k∉ob vw∧k∉ubs cv:=fun k hk=> by
 have hn:=h.nd
 unfold msL at hn
 rw[List.nodup_cons,List.nodup_append,List.nodup_append] at hn
 simp only[List.mem_append] at hn
 exact⟨fun e=> hn.1 (.inr (.inl (e ▸ hk))),fun e=> hn.2.2.2 k e k (.inl hk) rfl,fun e=> hn.2.2.1.2.2 k hk k (.inl e) rfl,fun e=> hn.2.2.1.2.2 k hk k (.inr e) rfl⟩
theorem OwnX.bw (h:OwnX w0 m0 xs w bp bt cells vf vc vw fs cv ws ex):∀ k∈ob vw,k≠bp∧k∉ob vf∧k∉ob vc∧k∉ubs cv:=fun k hk=> by
 have hn:=h.nd
 unfold msL at hn
 rw[List.nodup_cons,List.nodup_append,List.nodup_append,List.nodup_append] at hn
 simp only[List.mem_append] at hn
 exact⟨fun e=> hn.1 (.inr (.inr (.inl (e ▸ hk)))),fun e=> hn.2.2.2 k e k (.inr (.inl hk)) rfl,fun e=> hn.2.2.1.2.2 k e k (.inl hk) rfl,fun e=> hn.2.2.1.2.1.2.2 k hk k e rfl⟩
theorem OwnX.bu (h:OwnX w0 m0 xs w bp bt cells vf vc vw fs cv ws ex):∀ k∈ubs cv,k≠bp∧k∉ob vf∧k∉ob vc∧k∉ob vw:=fun k hk=> by
 have hn:=h.nd
 unfold msL at hn
 rw[List.nodup_cons,List.nodup_append,List.nodup_append,List.nodup_append] at hn
 simp only[List.mem_append] at hn
 exact⟨fun e=> hn.1 (.inr (.inr (.inr (e ▸ hk)))),fun e=> hn.2.2.2 k e k (.inr (.inr hk)) rfl,fun e=> hn.2.2.1.2.2 k e k (.inr hk) rfl,fun e=> hn.2.2.1.2.1.2.2 k e k hk rfl⟩
theorem OwnX.bb (h:OwnX w0 m0 xs w bp bt cells vf vc vw fs cv ws ex):bp∉ob vf∧bp∉ob vc∧bp∉ob vw∧bp∉ubs cv:=by
 have hn:=h.nd
 unfold msL at hn
 rw[List.nodup_cons] at hn
 simp only[List.mem_append] at hn
 exact⟨fun e=> hn.1 (.inl e),fun e=> hn.1 (.inr (.inl e)),fun e=> hn.1 (.inr (.inr (.inl e))),fun e=> hn.1 (.inr (.inr (.inr e)))⟩
theorem OwnX.setB (h:OwnX w0 m0 xs w bp bt cells vf vc vw fs cv ws ex) (hc:Ch (·=bp) w w') (hb:Blk w' bp bt cells'):OwnX w0 m0 xs w' bp bt cells' vf vc vw fs cv ws ex:=by
 have hn:=h.bb
 refine h.step hc (fun k hk=> by have e:k=bp:=hk;subst e;exact of_b) (fun k hk=> .inl hk) h.nd hb
  (fun hf=> h.rf.keep' hc (fun k hk e=> by have e:k=bp:=e;subst e;exact hn.1 (AF.2 hk)) (fun cs a _=> hf cs a))
  (fun hf=> h.rc.keep' hc (fun k hk e=> by have e:k=bp:=e;subst e;exact hn.2.1 (AF.2 hk)) (fun cs a ha=> hf cs a (fun k hk e=> by have e:k=bp:=e;subst e;exact hn.2.2.2 (BR.2 ⟨a,ha,hk⟩))))
  (fun hf=> h.rw.keep' hc (fun k hk e=> by have e:k=bp:=e;subst e;exact hn.2.2.1 (AF.2 hk)) (fun cs a _=> hf cs a))
theorem OwnX.newF (h:OwnX w0 m0 xs w bp bt cells vf vc vw fs cv ws ex) (hc:Ch (fun k=> vf.ownBlock=some k) w w') (hob:vf'.ownBlock=vf.ownBlock∨∀ k,vf'.ownBlock=some k→w.heap.size≤k)
  (hr:(∀ cs f,FlC (Fz xs (msL bp vf vc vw cv) w) w cs f→FlC (Fz xs (msL bp vf' vc vw cv) w') w' cs f)→OwR (FlC (Fz xs (msL bp vf' vc vw cv) w')) 14 45 0 w' vf' fs'):OwnX w0 m0 xs w' bp bt cells vf' vc vw fs' cv ws ex:=by
 have hn:=h.bf
 refine h.step hc (fun k hk=> FR k (AF.2 hk)) (msL_f (Ik hob FR) (fun k hk=> .inl hk)) (EO (l1:=[bp]) h.nd h.lt hob) (h.bl.keep hc (fun e=> (hn bp (AF.2 e)).1 rfl)) hr
  (fun hf=> h.rc.keep' hc (fun k hk e=> (hn k (AF.2 e)).2.1 (AF.2 hk)) (fun cs a ha=> hf cs a (fun k hk e=> (hn k (AF.2 e)).2.2.2 (BR.2 ⟨a,ha,hk⟩))))
  (fun hf=> h.rw.keep' hc (fun k hk e=> (hn k (AF.2 e)).2.2.1 (AF.2 hk)) (fun cs a _=> hf cs a))
theorem OwnX.newW (h:OwnX w0 m0 xs w bp bt cells vf vc vw fs cv ws ex) (hc:Ch (fun k=> vw.ownBlock=some k) w w') (hob:vw'.ownBlock=vw.ownBlock∨∀ k,vw'.ownBlock=some k→w.heap.size≤k)
  (hr:(∀ cs f,WrC (Fz xs (msL bp vf vc vw cv) w) w cs f→WrC (Fz xs (msL bp vf vc vw' cv) w') w' cs f)→OwR (WrC (Fz xs (msL bp vf vc vw' cv) w')) 9 56 0 w' vw' ws'):OwnX w0 m0 xs w' bp bt cells vf vc vw' fs cv ws' ex:=by
 have hn:=h.bw
 have e:∀ x,msL bp vf vc x cv=(bp::ob vf ++ ob vc) ++ (ob x ++ ubs cv):=fun x=> by unfold msL;simp
 refine h.step hc (fun k hk=> GR k (AF.2 hk)) (msL_w (Ik hob GR) (fun k hk=> .inl hk)) (by rw[e];exact EO (by rw[←e];exact h.nd) (by rw[←e];exact h.lt) hob) (h.bl.keep hc (fun e=> (hn bp (AF.2 e)).1 rfl))
  (fun hf=> h.rf.keep' hc (fun k hk e=> (hn k (AF.2 e)).2.1 (AF.2 hk)) (fun cs a _=> hf cs a))
  (fun hf=> h.rc.keep' hc (fun k hk e=> (hn k (AF.2 e)).2.2.1 (AF.2 hk)) (fun cs a ha=> hf cs a (fun k hk e=> (hn k (AF.2 e)).2.2.2 (BR.2 ⟨a,ha,hk⟩)))) hr
theorem OwnX.newC (h:OwnX w0 m0 xs w bp bt cells vf vc vw fs cv ws ex) (hc:Ch (fun k=> vc.ownBlock=some k) w w') (hob:vc'.ownBlock=vc.ownBlock∨∀ k,vc'.ownBlock=some k→w.heap.size≤k) (hu:ubs cv'=ubs cv)
  (hr:(∀ cs c,c∈cv→CvC (Fz xs (msL bp vf vc vw cv) w) w cs c→CvC (Fz xs (msL bp vf vc' vw cv') w') w' cs c)→OwR (CvC (Fz xs (msL bp vf vc' vw cv') w')) 3 49 0 w' vc' cv'):OwnX w0 m0 xs w' bp bt cells vf vc' vw fs cv' ws ex:=by
 have hn:=h.bc
 have e:∀ x,msL bp vf x vw cv=(bp::ob vf) ++ (ob x ++ (ob vw ++ ubs cv)):=fun x=> by unfold msL;simp
 have e2:∀ x,msL bp vf x vw cv'=msL bp vf x vw cv:=fun x=> by unfold msL;rw[hu]
 refine h.step hc (fun k hk=> FS k (AF.2 hk)) (by rw[e2];exact msL_c (Ik hob FS) (fun k hk=> .inl hk)) (by rw[e2,e];exact EO (by rw[←e];exact h.nd) (by rw[←e];exact h.lt) hob) (h.bl.keep hc (fun e=> (hn bp (AF.2 e)).1 rfl))
  (fun hf=> h.rf.keep' hc (fun k hk e=> (hn k (AF.2 e)).2.1 (AF.2 hk)) (fun cs a _=> hf cs a))
  (fun hf=> hr (fun cs c hm=> hf cs c (fun k hk e=> (hn k (AF.2 e)).2.2.2 (BR.2 ⟨c,hm,hk⟩))))
  (fun hf=> h.rw.keep' hc (fun k hk e=> (hn k (AF.2 e)).2.2.1 (AF.2 hk)) (fun cs a _=> hf cs a))
theorem FlC.mono {F G:Nat→Prop} {w:World} {cs:List Value} {f:FileM} (h:FlC F w cs f) (hG:∀ k,F k→G k):FlC G w cs f:=h.keep' (Ch.refl (fun _=> False) w) (fun _ _ e=> e) hG
theorem WrC.mono {F G:Nat→Prop} {w:World} {cs:List Value} {f:WrM} (h:WrC F w cs f) (hG:∀ k,F k→G k):WrC G w cs f:=h.keep' (Ch.refl (fun _=> False) w) (fun _ _ e=> e) hG
theorem CvC.mono {F G:Nat→Prop} {w:World} {cs:List Value} {c:CirV} (h:CvC F w cs c) (hG:∀ k,F k→G k):CvC G w cs c:=h.keep' (Ch.refl (fun _=> False) w) (fun _ _ e=> e) (fun _ _ e=> e) hG
theorem Il {w:World} {b b':Nat} {e:TypeId} {size:Nat} {v:Value} {n:Nat} {xs:List Value} (h:w.ownsRow b e size v n xs) (hb:b'≤b):w.ownsRow b' e size v n xs:=by
 obtain⟨h1,h2|⟨g,cap,cur,h3,h4,h5⟩⟩:=h
 ·exact⟨h1,.inl h2⟩
 ·exact⟨h1,.inr ⟨g,cap,cur,h3,Aj hb h4,h5⟩⟩
theorem OwR.mono {α:Type} {C C':World→List Value→α→Prop} {sz B B':Nat} {ty:TypeId} {v:Value} {l:List α} (h:OwR C sz ty B w v l) (hB:B'≤B) (hC:∀ cs,∀ a∈l,C w cs a→C' w cs a):OwR C' sz ty B' w v l:=by
 obtain⟨css,h1,h2,h3⟩:=h
 exact⟨css,Il h1 hB,h2,fun j a b=> ⟨(h3 j a b).1,hC _ _ (List.getElem_mem b) (h3 j a b).2⟩⟩
theorem OwnX.keepoff {xs':List Nat} (h:OwnX w0 m0 xs w bp bt cells vf vc vw fs cv ws ex) (hs:∀ k∈xs',k∈xs):OwnX w0 m0 xs' w bp bt cells vf vc vw fs cv ws ex:=by
 have hG:∀ k,Fz xs (msL bp vf vc vw cv) w k→Fz xs' (msL bp vf vc vw cv) w k:=fun k hk=> ⟨⟨fun e=> hk.1.1 (hs k e),hk.1.2⟩,hk.2⟩
 exact⟨h.ch,h.nd,h.sub,fun k hk=> h.ax k (hs k hk),h.bl,h.rf.mono (Ah _) (fun _ _ _ e=> e.mono hG),h.rc.mono (Ah _) (fun _ _ _ e=> e.mono hG),h.rw.mono (Ah _) (fun _ _ _ e=> e.mono hG),fun p hp=> (h.ex p hp).mono hG⟩
theorem OwnX.rsv {g:Nat} (h:OwnX w0 m0 xs w bp bt cells vf vc vw fs cv ws ex) (hb:Below w.heap.size w w') (hg:w.heap.size≤g) (hg':g<w'.heap.size):OwnX w0 m0 (g::xs) w' bp bt cells vf vc vw fs cv ws ex:=by
 have hc:=Ch.of_below (S:=fun _=> False) hb (Ah _)
 have hG:∀ k,Fz xs (msL bp vf vc vw cv) w k→Fz (g::xs) (msL bp vf vc vw cv) w' k:=fun k hk=> ⟨⟨fun e=> by
  rcases List.mem_cons.1 e with rfl|e
  ·have:=hk.2;omega
  ·exact hk.1.1 e,hk.1.2⟩,Ak hk.2 hb.size⟩
 have h':=h.below hb
 refine⟨h'.ch,h.nd,h.sub,fun k hk=> ?_,h'.bl,h.rf.keep' hc (fun _ _ e=> e) (fun cs a _ hf=> hf.keep' hc (fun _ _ e=> e) hG),h.rc.keep' hc (fun _ _ e=> e) (fun cs a _ hf=> hf.keep' hc (fun _ _ e=> e) (fun _ _ e=> e) hG),h.rw.keep' hc (fun _ _ e=> e) (fun cs a _ hf=> hf.keep' hc (fun _ _ e=> e) hG),fun p hp=> TmC.keep' hc (fun _ _ e=> e) hG _ _ (h.ex p hp)⟩
 rcases List.mem_cons.1 hk with rfl|hk
 ·exact⟨fun e=> by have:=h.lt k e;omega,hg'⟩
 ·exact h'.ax k hk
theorem OwnX.setX {g:Nat} (h:OwnX w0 m0 xs w bp bt cells vf vc vw fs cv ws ex) (hg:g∈xs) (h0:w0.heap.size≤g) (hc:Ch (·=g) w w'):OwnX w0 m0 xs w' bp bt cells vf vc vw fs cv ws ex:=by
 have hx:=h.ax g hg
 have hN:∀ k,Fz xs (msL bp vf vc vw cv) w k→¬ (k=g):=fun k hk e=> hk.1.1 (e ▸ hg)
 have hG:∀ k,Fz xs (msL bp vf vc vw cv) w k→Fz xs (msL bp vf vc vw cv) w' k:=fun k hk=> ⟨hk.1,Ak hk.2 hc.size⟩
 refine⟨⟨hc.os.trans h.ch.os,hc.tape.trans h.ch.tape,hc.output.trans h.ch.output,Aj h.ch.size hc.size,fun k hk hn=> ?_⟩,h.nd,h.sub,fun k hk=> ⟨(h.ax k hk).1,Ak (h.ax k hk).2 hc.size⟩,
  h.bl.keep hc (fun e=> hx.1 (e ▸ of_b)),h.rf.keep' hc (fun k hk e=> hx.1 (FR g (AF.2 (e ▸ hk)))) (fun cs a _ hf=> hf.keep' hc hN hG),h.rc.keep' hc (fun k hk e=> hx.1 (FS g (AF.2 (e ▸ hk)))) (fun cs a ha hf=> hf.keep' hc (fun k hk e=> hx.1 (Gt g (BR.2 ⟨a,ha,e ▸ hk⟩))) hN hG),h.rw.keep' hc (fun k hk e=> hx.1 (GR g (AF.2 (e ▸ hk)))) (fun cs a _ hf=> hf.keep' hc hN hG),fun p hp=> TmC.keep' hc hN hG _ _ (h.ex p hp)⟩
 rw[hc.block k (Ak hk h.ch.size) (fun e=> by have e:k=g:=e;omega)]
 exact h.ch.block k hk hn
theorem OwnX.enter (h:OwnX w0 m0 xs w bp bt cells vf vc vw fs cv ws ex):OwnX w (msL bp vf vc vw cv) xs w bp bt cells vf vc vw fs cv ws ex:=
 ⟨Ch.refl _ _,h.nd,fun k hk=> .inl hk,h.ax,h.bl,h.rf,h.rc,h.rw,h.ex⟩
theorem OwnX.leave (h:OwnX w0 m0 xs w bp bt cells vf vc vw fs cv ws ex) (h':OwnX w (msL bp vf vc vw cv) xs w' bp bt cells' vf' vc' vw' fs' cv' ws' ex):OwnX w0 m0 xs w' bp bt cells' vf' vc' vw' fs' cv' ws' ex:=by
 refine⟨⟨h'.ch.os.trans h.ch.os,h'.ch.tape.trans h.ch.tape,h'.ch.output.trans h.ch.output,Aj h.ch.size h'.ch.size,fun k hk hn=> ?_⟩,h'.nd,fun k hk=> ?_,h'.ax,h'.bl,h'.rf,h'.rc,h'.rw,h'.ex⟩
 ·rw[h'.ch.block k (Ak hk h.ch.size) (fun hm=> by
   rcases h.sub k hm with h1|h1
   ·exact hn h1
   ·omega)]
  exact h.ch.block k hk hn
 ·rcases h'.sub k hk with h1|h1
  ·exact h.sub k h1
  ·exact .inr (Aj h.ch.size h1)
theorem OwnX.rebase {bp':Nat} {bt':TypeId} (h:OwnX w0 m0 xs w bp bt cells vf vc vw fs cv ws ex) (hb:Below w.heap.size w w') (hg:w.heap.size≤bp') (hB:Blk w' bp' bt' cells'):OwnX w0 m0 xs w' bp' bt' cells' vf vc vw fs cv ws ex:=by
 have hc:=Ch.of_below (S:=fun _=> False) hb (Ah _)
 have hm:∀ k,k∈msL bp' vf vc vw cv→k=bp'∨k∈msL bp vf vc vw cv:=fun k hk=> by
  unfold msL at hk ⊢
  rcases List.mem_cons.1 hk with e|e
  ·exact .inl e
  ·exact .inr (List.mem_cons_of_mem _ e)
 have hG:∀ k,Fz xs (msL bp vf vc vw cv) w k→Fz xs (msL bp' vf vc vw cv) w' k:=fun k hk=> ⟨⟨hk.1.1,fun e=> (hm k e).elim (fun e=> by have:=hk.2;omega) hk.1.2⟩,Ak hk.2 hb.size⟩
 have h':=h.below hb
 have hn:=h.nd
 unfold msL at hn
 rw[List.nodup_cons] at hn
 refine⟨h'.ch,by unfold msL;rw[List.nodup_cons];exact⟨fun e=> by have:=h.lt bp' (by unfold msL;exact List.mem_cons_of_mem _ e);omega,hn.2⟩,fun k hk=> (hm k hk).elim (fun e=> .inr (by rw[e];exact Aj h.ch.size hg)) (h.sub k),fun k hk=> ⟨fun e=> (hm k e).elim (fun e=> by have:=(h.ax k hk).2;omega) (h.ax k hk).1,(h'.ax k hk).2⟩,hB,
  h.rf.keep' hc (fun _ _ e=> e) (fun cs a _ hf=> hf.keep' hc (fun _ _ e=> e) hG),h.rc.keep' hc (fun _ _ e=> e) (fun cs a _ hf=> hf.keep' hc (fun _ _ e=> e) (fun _ _ e=> e) hG),h.rw.keep' hc (fun _ _ e=> e) (fun cs a _ hf=> hf.keep' hc (fun _ _ e=> e) hG),fun p hp=> TmC.keep' hc (fun _ _ e=> e) hG _ _ (h.ex p hp)⟩
theorem OwnX.putF {g n c i:Nat} (h:OwnX w0 m0 xs w bp bt cells (.slice (some ⟨g,0,none⟩) n c) vc vw fs cv ws ex) (hi:i<fs.length):g<w.heap.size∧∃ cs,cs.length=14∧w.rangeAt g (i* 14) cs∧FlC (Fz xs (msL bp (.slice (some ⟨g,0,none⟩) n c) vc vw cv) w) w cs fs[i]∧w.there g (i* 14) 14∧
  ∀ q new f',q+new.length≤14→FlC (Fz xs (msL bp (.slice (some ⟨g,0,none⟩) n c) vc vw cv) w) w (AU cs q new) f'→OwnX w0 m0 xs (w.setCells g (i* 14+q) new) bp bt cells (.slice (some ⟨g,0,none⟩) n c) vc vw (fs.set i f') cv ws ex:=by
 obtain⟨h1,-,cs,h2,h3,h4,h5,h6⟩:=h.rf.focus hi
 refine⟨h1,cs,h2,h3,h4,h5,fun q new f' hq hf=> ?_⟩
 have hc:=AH g new (i* 14+q) w
 have hc':Ch (fun k=> (Value.slice (some ⟨g,0,none⟩) n c).ownBlock=some k) w (w.setCells g (i* 14+q) new):=hc.mono fun k hk=> by have e:k=g:=hk;subst e;rfl
 exact h.newF hc' (.inl rfl) (fun hk=> h6 q new f' hq _ (hk _ _ hf) (fun cs a _=> hk cs a))
theorem OwnX.putW {g n c i:Nat} (h:OwnX w0 m0 xs w bp bt cells vf vc (.slice (some ⟨g,0,none⟩) n c) fs cv ws ex) (hi:i<ws.length):g<w.heap.size∧∃ cs,cs.length=9∧w.rangeAt g (i* 9) cs∧WrC (Fz xs (msL bp vf vc (.slice (some ⟨g,0,none⟩) n c) cv) w) w cs ws[i]∧w.there g (i* 9) 9∧
  ∀ q new f',q+new.length≤9→WrC (Fz xs (msL bp vf vc (.slice (some ⟨g,0,none⟩) n c) cv) w) w (AU cs q new) f'→OwnX w0 m0 xs (w.setCells g (i* 9+q) new) bp bt cells vf vc (.slice (some ⟨g,0,none⟩) n c) fs cv (ws.set i f') ex:=by
 obtain⟨h1,-,cs,h2,h3,h4,h5,h6⟩:=h.rw.focus hi
 refine⟨h1,cs,h2,h3,h4,h5,fun q new f' hq hf=> ?_⟩
 have hc:=AH g new (i* 9+q) w
 have hc':Ch (fun k=> (Value.slice (some ⟨g,0,none⟩) n c).ownBlock=some k) w (w.setCells g (i* 9+q) new):=hc.mono fun k hk=> by have e:k=g:=hk;subst e;rfl
 exact h.newW hc' (.inl rfl) (fun hk=> h6 q new f' hq _ (hk _ _ hf) (fun cs a _=> hk cs a))
theorem Jj {i:Nat} (hi:i<cv.length):ubs cv=ubs (cv.take i) ++ (cv[i].ub ++ ubs (cv.drop (i+1))):=by
 have e:cv=cv.take i ++ cv[i]::cv.drop (i+1):=by rw[←List.drop_eq_getElem_cons hi,List.take_append_drop]
 have:=congrArg ubs e
 unfold ubs at this ⊢
 rw[List.flatMap_append,List.flatMap_cons] at this
 exact this
theorem JC {i:Nat} (hi:i<cv.length) (c:CirV):ubs (cv.set i c)=ubs (cv.take i) ++ (c.ub ++ ubs (cv.drop (i+1))):=by
 rw[List.set_eq_take_append_cons_drop,if_pos hi]
 unfold ubs
 rw[List.flatMap_append,List.flatMap_cons]
theorem OwnX.putU {g n c i:Nat} {w1:World} {us':List Int} {vu':Value} (h:OwnX w0 m0 xs w bp bt cells vf (.slice (some ⟨g,0,none⟩) n c) vw fs cv ws ex) (hi:i<cv.length)
  (hc:Ch (fun k=> cv[i].own=true∧cv[i].vu.ownBlock=some k) w w1) (hu:w1.ownsRow 0 3 1 vu' us'.length (ofK .i64 us')) (hob:(cv[i].own=true∧vu'.ownBlock=cv[i].vu.ownBlock)∨∀ k,vu'.ownBlock=some k→w.heap.size≤k):
  OwnX w0 m0 xs (w1.setCells g (i* 3+2) [vu']) bp bt cells vf (.slice (some ⟨g,0,none⟩) n c) vw fs (cv.set i ⟨cv[i].n,cv[i].o,us',vu',true⟩) ws ex:=by
 obtain⟨hg,-,cs,h2,h3,h4,h5,h6⟩:=h.rc.focus hi
 have hvc:g∈ob (Value.slice (some ⟨g,0,none⟩) n c):=AF.2 rfl
 have hui:∀ k,(cv[i].own=true∧cv[i].vu.ownBlock=some k)→k∈cv[i].ub:=fun k hk=> by unfold CirV.ub;rw[if_pos hk.1];exact AF.2 hk.2
 have hui2:∀ k∈cv[i].ub,k∈ubs cv:=fun k hk=> BR.2 ⟨_,List.getElem_mem hi,hk⟩
 have hs:=AH g [vu'] (i* 3+2) w1
 have hcc:Ch (fun k=> k=g∨k∈cv[i].ub) w (w1.setCells g (i* 3+2) [vu']):=(hc.mono (fun k hk=> .inr (hui k hk))).trans (hs.mono (fun k hk=> .inl hk))
 have hne:∀ k∈cv[i].ub,k≠g:=fun k hk e=> (h.bu k (hui2 k hk)).2.2.1 (by rw[e];exact hvc)
 have hlt:∀ k∈cv[i].ub,k<w.heap.size:=fun k hk=> h.lt k (Gt k (hui2 k hk))
 have hvg:∀ k,vu'.ownBlock=some k→k≠g:=fun k hk e=> by
  rcases hob with h1|h1
  ·exact hne k (hui k ⟨h1.1,h1.2 ▸ hk⟩) e
  ·have:=h1 k hk;omega
 have hub:∀ k∈ob vu',k∈cv[i].ub∨w.heap.size≤k:=fun k hk=> by
  rw[AF] at hk
  rcases hob with h1|h1
  ·exact .inl (hui k ⟨h1.1,h1.2 ▸ hk⟩)
  ·exact .inr (h1 k hk)
 have hnd2:(ubs cv).Nodup:=by
  have:=h.nd
  unfold msL at this
  rw[List.nodup_cons,List.nodup_append,List.nodup_append,List.nodup_append] at this
  exact this.2.2.1.2.1.2.1
 have hsep:∀ j (hj:j<cv.length),j≠i→∀ k∈cv[j].ub,k∉cv[i].ub:=fun j hj hji k hk hk2=> by
  have e:=Jj hi
  rw[e] at hnd2
  rw[List.nodup_append,List.nodup_append] at hnd2
  rcases Nat.lt_or_gt_of_ne hji with hl|hl
  ·have hm:cv[j]∈cv.take i:=by
    rw[List.mem_take_iff_getElem];exact⟨j,by omega,rfl⟩
   exact hnd2.2.2 k (BR.2 ⟨_,hm,hk⟩) k (List.mem_append_left _ hk2) rfl
  ·have hm:cv[j]∈cv.drop (i+1):=by
    rw[List.mem_drop_iff_getElem];exact⟨j - (i+1),by omega,by congr 1;omega⟩
   exact hnd2.2.1.2.2 k hk2 k (BR.2 ⟨_,hm,hk⟩) rfl
 have hnn:(msL bp vf (.slice (some ⟨g,0,none⟩) n c) vw (cv.set i ⟨cv[i].n,cv[i].o,us',vu',true⟩)).Nodup:=by
  have e1:∀ x,msL bp vf (.slice (some ⟨g,0,none⟩) n c) vw (cv.set i ⟨cv[i].n,cv[i].o,us',x,true⟩)=(bp::ob vf ++ ob (.slice (some ⟨g,0,none⟩) n c) ++ ob vw ++ ubs (cv.take i)) ++ (ob x ++ ubs (cv.drop (i+1))):=fun x=> by
   unfold msL;rw[JC hi];simp[CirV.ub]
  have e2:msL bp vf (.slice (some ⟨g,0,none⟩) n c) vw cv=(bp::ob vf ++ ob (.slice (some ⟨g,0,none⟩) n c) ++ ob vw ++ ubs (cv.take i)) ++ (cv[i].ub ++ ubs (cv.drop (i+1))):=by
   unfold msL;rw[Jj hi];simp
  rw[e1]
  cases ho:cv[i].own with
  | true=>
   have e3:cv[i].ub=ob cv[i].vu:=by unfold CirV.ub;rw[if_pos ho]
   rw[e3] at e2
   exact EO (by rw[←e2];exact h.nd) (by rw[←e2];exact h.lt) (hob.imp (fun h=> h.2) id)
  | false=>
   have e3:cv[i].ub=ob (.slice none 0 0):=by unfold CirV.ub;rw[if_neg (by rw[ho];simp)];rfl
   rw[e3] at e2
   exact EO (by rw[←e2];exact h.nd) (by rw[←e2];exact h.lt) (hob.imp (fun h=> by rw[ho] at h;cases h.1) id)
 have hms:∀ k∈msL bp vf (.slice (some ⟨g,0,none⟩) n c) vw (cv.set i ⟨cv[i].n,cv[i].o,us',vu',true⟩),k∈msL bp vf (.slice (some ⟨g,0,none⟩) n c) vw cv∨w.heap.size≤k:=by
  refine msL_u (fun k hk=> ?_) (fun k hk=> .inl hk)
  rw[JC hi,List.mem_append,List.mem_append] at hk
  have ea:=Jj hi
  rcases hk with hk|hk|hk
  ·exact .inl (Gt k (by rw[ea];exact List.mem_append_left _ hk))
  ·have hk:k∈ob vu':=by simpa [CirV.ub] using hk
   rcases hub k hk with h1|h1
   ·exact .inl (Gt k (hui2 k h1))
   ·exact .inr h1
  ·exact .inl (Gt k (by rw[ea];exact List.mem_append_right _ (List.mem_append_right _ hk)))
 have hSm:∀ k,(k=g∨k∈cv[i].ub)→k∈msL bp vf (.slice (some ⟨g,0,none⟩) n c) vw cv:=fun k hk=> hk.elim (fun e=> by rw[e];exact FS _ hvc) (fun hk=> Gt k (hui2 k hk))
 refine h.step hcc hSm hms hnn ?_ ?_ ?_ ?_
 ·exact h.bl.keep hcc (fun e=> e.elim (fun e=> h.bb.2.1 (by rw[e];exact hvc)) (fun e=> h.bb.2.2.2 (hui2 _ e)))
 ·exact fun hf=> h.rf.keep' hcc (fun k hk e=> e.elim (fun e=> (h.bc g hvc).2.1 (by rw[←e];exact AF.2 hk)) (fun e=> (h.bu k (hui2 k e)).2.1 (AF.2 hk))) (fun cs a _=> hf cs a)
 ·
  intro hf
  obtain⟨css,k1,k2,k3⟩:=h.rc
  have h5':=B1 k2 k3
  have hN:∀ k,Fz xs (msL bp vf (.slice (some ⟨g,0,none⟩) n c) vw cv) w k→¬ (k=g∨k∈cv[i].ub):=fun k hk e=> hk.1.2 (hSm k e)
  have hG:=frz (xs:=xs) hcc.size hms
  have k1':=A9 (e:=49) k1 hc (fun k hk e=> hne k (hui k e) (by have hk:some g=some k:=hk;injection hk with hk;exact hk.symm))
  refine⟨css.set i (AU css[i] 2 [vu']),?_,by rw[List.length_set,List.length_set];exact k2,fun j a b=> ?_⟩
  ·rw[←G2 h5' (by omega) (by simp),List.length_set]
   have:=CU [vu'] (i* 3+2) w1 _ (n:=cv.length) (cap:=c) (by obtain⟨-,e|⟨_,_,_,e,-⟩⟩:=id k1' <;> (first|(cases e.1)|(cases e;exact k1')))
   obtain⟨-,e|⟨_,_,_,e,-⟩⟩:=id k1'
   ·cases e.1
   ·cases e;exact this
  ·by_cases hij:j=i
   ·subst hij
    rw[List.getElem_set_self,List.getElem_set_self]
    have h0:=k3 j (by omega) hi
    refine⟨by rw[BI];exact h0.1,?_,fun _=> A9 hu hs (fun k hk e=> hvg k hk e),fun e=> by cases e⟩
    rw[h0.2.1];rfl
   ·rw[List.getElem_set_ne (fun e=> hij e.symm),List.getElem_set_ne (fun e=> hij e.symm)]
    have h0:=k3 j (by rw[List.length_set] at a;exact a) (by rw[List.length_set] at b;exact b)
    have hj':j<cv.length:=by rw[List.length_set] at b;exact b
    exact⟨h0.1,hf _ _ (fun k hk e=> e.elim (fun e=> by have h9:=(h.bu k (BR.2 ⟨_,List.getElem_mem hj',hk⟩)).2.2.1;rw[e] at h9;exact h9 hvc) (fun e=> hsep j hj' hij k hk e)) h0.2⟩
 ·exact fun hf=> h.rw.keep' hcc (fun k hk e=> e.elim (fun e=> (h.bc g hvc).2.2.1 (by rw[←e];exact AF.2 hk)) (fun e=> (h.bu k (hui2 k e)).2.2.2 (AF.2 hk))) (fun cs a _=> hf cs a)
end
end Go.Proofs.YtgdlfiphihaooaaGreat

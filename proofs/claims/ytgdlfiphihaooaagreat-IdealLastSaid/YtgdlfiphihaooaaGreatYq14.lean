import Derived.Test.YtgdlfiphihaooaaGreatYq13
set_option linter.unusedSimpArgs false
set_option linter.unusedVariables false
set_option maxRecDepth 100000
set_option maxHeartbeats 8000000
open _root_.List renaming getElem?_toArray→Aa,getElem?_cons_zero→Ab,getElem?_cons_succ→Ac,setIfInBounds_toArray→Ad,set_cons_zero→Ae,set_cons_succ→Af
open _root_.Go.Lib renaming hid→Ag
open _root_.Nat renaming le_refl→Ah,le_trans→Aj,lt_of_lt_of_le→Ak
open _root_.And renaming intro→Ai
open _root_.Go.Act renaming put→Al
namespace Go.Proofs.YtgdlfiphihaooaaGreat
open Go Go.RowKit
theorem Bg {P:Program} (w:World) {ops:Array Oper} {rest:List Oper} {o:Oper} {a:Act} {Q:Exit→Act→World→Prop} (hgd:o.guard=none) (ty:TypeId) (x y:Operand) (ho:o.op=.store ty x y)
  (g off:Nat) (e:TypeId) (xs cells ys:List Value) (hb:Blk w g e xs) (hx:a.eval x=.pointer (some ⟨g,off,none⟩)) (hy:a.eval y=.agg cells.toArray) (hl:off+cells.length≤xs.length) (hi:(P.info? ty).map (·.size)=some cells.length) (h1:∀ v∈cells,v.oneCell'=true) (hys:AW xs off cells=ys)
  (h:∀ w',Blk w' g e ys→Ch (·=g) w w'→w'.heap.size=w.heap.size→wpList P ops Q rest (a.put o.dst undef) w'):wpList P ops Q (o::rest) a w:=by
 refine wpList_store_mid hgd ty x y ho g off cells.toArray hx hy (fun j hj=> ?_) (by simpa using hi) (all_oneCell_toArray h1) ?_
 ·have hj':off+j<xs.length:=by simp at hj;omega
  rw[hb.cell,hb.free]
  simp[hj']
 ·have:=hb.setCells cells off
  rw[hys] at this
  exact h _ this (AI g cells off w) (Et g cells off w)
theorem Gv (nm:ByteArray) (o pe:Int) (vr vq vg:Value) (v e u:Int) (tc tc':List Value) (h:tc'.length=tc.length):AW (flC nm o pe vr vq vg v e u tc) 9 tc'=flC nm o pe vr vq vg v e u tc':=by
 have:=Du (P:=[.string nm,.int .i64 o,.int .i64 pe,vr,vq,vg,.int .i64 v,.int .i64 e,.int .i64 u]) (R:=[]) h
 simp only[List.append_nil] at this
 exact this
theorem KN (nm:ByteArray) (o pe o' pe':Int) (vr vq vg ur uq ug:Value) (v e u:Int) (tc:List Value):AW (flC nm o pe vr vq vg v e u tc) 1 (pmC o' pe' ur uq ug)=flC nm o' pe' ur uq ug v e u tc:=rfl
theorem Tryz.sizeIs1:(Tryz.prog.info? 40).map (·.size)=some 1:=by kernel_rfl
theorem Bw {o pe:Int} {vr vq vg:Value} (h1:vr.oneCell'=true) (h2:vq.oneCell'=true) (h3:vg.oneCell'=true):∀ v∈pmC o pe vr vq vg,v.oneCell'=true:=fun v hv=> by
 simp only[pmC,List.mem_cons,List.not_mem_nil,or_false] at hv
 rcases hv with rfl|rfl|rfl|rfl|rfl
 ·rfl
 ·rfl
 ·exact h1
 ·exact h2
 ·exact h3
theorem Cf {v:Value} (h:v.oneCell'=true):v.cells=#[v]:=by cases v <;> simp_all [Value.oneCell',Value.cells]
theorem Tryz.zeroFl14:∀ w,(zeroValue 45).run Tryz.prog w=.ok (.agg (flC ⟨#[]⟩ 0 0 (.slice none 0 0) (.slice none 0 0) (.slice none 0 0) 0 0 0 (tmC 0 0 0 ⟨#[]⟩ (.slice none 0 0))).toArray) w:=fun w=> by kernel_rfl
theorem SlI.of_own {B B':Nat} {ty n:Nat} {w:World} {v:Value} {l:List Int} (h:w.ownsRow B ty 1 v n (ofK .i64 l)) (hB:B'≤B):SlI (B'≤·) w v l:=⟨Sl.of_owns h,fun k _ hk=> Aj hB (h.lt k hk).1⟩
def FiledP (w:World) (f:FileM) (e:Ending) (w':World):Prop:=∃ cs,e=.returned (.agg cs.toArray)∧FlC (w.heap.size≤·) w' cs f∧Below w.heap.size w w'
def PmN (p:PmD):Prop:=p.r.length≤1000000000∧p.q.length≤1000000000∧p.g.length≤1000000000
theorem G2 (f:FileM) (cs:List Value) (F:Nat→Prop) (w:World) (hf:FlC F w cs f) (hl:PmN f.p) (hb:Ff f.b=true):Calls Tryz.prog 26 #[.agg cs.toArray] w (FiledP w f):=by
 obtain⟨vr,vq,vg,tc,rfl,hp,ht⟩:=hf
 have HP:=Ag (Ai hp ht)
 have HON:=hJ3 hp.1.one hp.2.1.one hp.2.2.one
 have HRP:=Ag (show ∀ W:World,Blk W w.heap.size 45 (flC f.nm f.p.o f.p.e vr vq vg f.v f.e f.u tc)→W.rangeAt w.heap.size 1 (pmC f.p.o f.p.e vr vq vg) from fun W hW j x hx=> by rw[hW.cell,show 1+j=j+1 by omega];match j,hx with|0,hx=> exact hx|1,hx=> exact hx|2,hx=> exact hx|3,hx=> exact hx|4,hx=> exact hx)
 have HL:=Ag (Ai hl hb)
 clear hp ht hl hb
 go_enter Tryz.func26,Tryz.ntmps26
 go_upto_region 2 with(first
  | ((with_reducible refine Au w rfl 45 (.tmp 0) rfl (flC f.nm f.p.o f.p.e vr vq vg f.v f.e f.u tc) rfl ?_);intro a1 hb hbel hsz;have H1:=hJ2 hb hbel;clear hb hbel hsz)
  | ((with_reducible refine Av a1 rfl 45 rfl (flC ⟨#[]⟩ 0 0 (.slice none 0 0) (.slice none 0 0) (.slice none 0 0) 0 0 0 (tmC 0 0 0 ⟨#[]⟩ (.slice none 0 0))) Tryz.zeroFl14 ?_);intro a2 hb hbel hsz;have H2:=hJ3 (H1.out.1.below hbel H1.out.1.lt) (An H1.out.2 hbel (Ah _)) hb;clear hb hbel hsz)
  | (with_reducible refine Ap rfl 43 (.tmp 4) rfl w.heap.size 1 rfl (pmC f.p.o f.p.e vr vq vg) _ (HRP.out _ H2.out.1) Tryz.underlying43 rfl (Ay _ _ _ _ _) ?_)
  | ((with_reducible refine Av a2 rfl 43 rfl (pmC 0 0 (.slice none 0 0) (.slice none 0 0) (.slice none 0 0)) Tryz.zeroPm ?_);intro a3 hb hbel hsz;have H3:=hJ5 (H2.out.1.below hbel H2.out.1.lt) (An H2.out.2.1 hbel (Ah _)) (H2.out.2.2.below hbel H2.out.2.2.lt) hb trivial;have HG:=hJ3 H1.out.1.lt H2.out.2.2.lt hb.lt;clear hb hbel hsz)
  | ((with_reducible refine Ao a3 rfl 43 (.tmp 3) (.tmp 5) rfl (a2.heap.size) 43 (pmC 0 0 (.slice none 0 0) (.slice none 0 0) (.slice none 0 0)) (pmC f.p.o f.p.e vr vq vg) H3.out.2.2.2.1 rfl rfl rfl (Ay _ _ _ _ _) (Bw HON.out.1 HON.out.2.1 HON.out.2.2) ?_);intro b0 hb hc hs;have H4:=hJ4 (H3.out.1.keep hc (fun e=> absurd (show _=_ from e) (by have:=HG.out;omega))) (Aw H3.out.2.1 hc (Ah _) (fun k hk=> by have e:=(show _=_ from hk);have:=HG.out;omega)) (H3.out.2.2.1.keep hc (fun e=> absurd (show _=_ from e) (by have:=HG.out;omega))) hb;have HGE:=Ag (show a3.heap.size≤b0.heap.size from by rw[hs];exact Ah _);clear hb hc hs))
 try simp only[Al,Ad,Ae,Af]
 have H5:=hJ5 H4.out.1 H4.out.2.1 H4.out.2.2.1 H4.out.2.2.2 HGE.out
 clear HGE H1 H2 H3 H4
 go_wp2_with fail
 refine AZ (fun W=> W.cell? ⟨a2.heap.size,2,none⟩=some vr∧W.cell? ⟨a2.heap.size,3,none⟩=some vq∧W.cell? ⟨a2.heap.size,4,none⟩=some vg) 10 [0,1,3,4,6,7] 9 (by kernel_rfl) rfl (by kernel_rfl) (by kernel_rfl) ⟨H5.out.2.2.2.1.cell 2,H5.out.2.2.2.1.cell 3,H5.out.2.2.2.1.cell 4⟩ ?_
 iterate 6(refine' AH.run ?_ ?_ ?_ ?_;rotate_left 2;(simp only[Aa,Ab,Ac];rfl);rfl;(rintro w' ⟨k0,k1,k2⟩;go_simp;with_reducible rfl);simp only[Al,Ad,Ae,Af])
 have sm:=(Sm.refl b0).drew
 have HV2:=hJ5 (H5.out.1.below (sm.below _) H5.out.1.lt) (An H5.out.2.1 (sm.below _) (Ah _)) (H5.out.2.2.1.below (sm.below _) H5.out.2.2.1.lt) (H5.out.2.2.2.1.below (sm.below _) H5.out.2.2.2.1.lt) (Aj H5.out.2.2.2.2 (sm.below 0).size)
 clear sm
 generalize b0.drew=v1 at HV2 ⊢
 refine' AB 2 (by kernel_rfl) ?_ ?_;rotate_left;(simp only[Aa,Ab,Ac];rfl)
 try simp only[Al,Ad,Ae,Af]
 go_wp2_with fail
 refine(Bu vr (f.p.r) v1 (HP.out.1.1.below HV2.out.2.1).1 HL.out.1.1).mono ?_
 rintro e' u3 ⟨ur,rfl,hown,hb⟩
 have K4:=Ag (show Blk u3 (w.heap.size) 45 (flC f.nm f.p.o f.p.e vr vq vg f.v f.e f.u tc)∧Below w.heap.size w u3∧Blk u3 (a1.heap.size) 45 (flC ⟨#[]⟩ 0 0 (.slice none 0 0) (.slice none 0 0) (.slice none 0 0) 0 0 0 (tmC 0 0 0 ⟨#[]⟩ (.slice none 0 0)))∧Blk u3 (a2.heap.size) 43 (pmC f.p.o f.p.e vr vq vg)∧a3.heap.size≤u3.heap.size∧SlI (a3.heap.size≤·) u3 ur (f.p.r) from⟨HV2.out.1.below hb HV2.out.1.lt,(An HV2.out.2.1 hb (Ah _)),HV2.out.2.2.1.below hb HV2.out.2.2.1.lt,HV2.out.2.2.2.1.below hb HV2.out.2.2.2.1.lt,(Aj HV2.out.2.2.2.2 hb.size),SlI.of_own hown HV2.out.2.2.2.2⟩)
 clear hown hb
 go_wp2_with fail
 refine QK.normal ⟨fun _=> ⟨K4.out.2.2.2.1.cell 2,K4.out.2.2.2.1.cell 3,K4.out.2.2.2.1.cell 4⟩,?_⟩
 refine Cd (by kernel_rfl) AE (fuel:=7) ⟨K4.out.2.2.2.1.cell 2,K4.out.2.2.2.1.cell 3,K4.out.2.2.2.1.cell 4⟩ [9] _ _ (by kernel_rfl) ?_
 refine' AH.run ?_ ?_ ?_ ?_;rotate_left 2;(simp only[Aa,Ab,Ac];rfl);rfl;(rintro w' ⟨k0,k1,k2⟩;go_simp;with_reducible rfl);simp only[Al,Ad,Ae,Af]
 refine' AB 5 (by kernel_rfl) ?_ ?_;rotate_left;(simp only[Aa,Ab,Ac];rfl)
 try simp only[Al,Ad,Ae,Af]
 go_wp2_with fail
 refine(Bu vq (f.p.q) u3 (HP.out.1.2.1.below K4.out.2.1).1 HL.out.1.2.1).mono ?_
 rintro e' u5 ⟨uq,rfl,hown,hb⟩
 have K6:=Ag (show Blk u5 (w.heap.size) 45 (flC f.nm f.p.o f.p.e vr vq vg f.v f.e f.u tc)∧Below w.heap.size w u5∧Blk u5 (a1.heap.size) 45 (flC ⟨#[]⟩ 0 0 (.slice none 0 0) (.slice none 0 0) (.slice none 0 0) 0 0 0 (tmC 0 0 0 ⟨#[]⟩ (.slice none 0 0)))∧Blk u5 (a2.heap.size) 43 (pmC f.p.o f.p.e vr vq vg)∧a3.heap.size≤u5.heap.size∧SlI (a3.heap.size≤·) u5 ur (f.p.r)∧SlI (a3.heap.size≤·) u5 uq (f.p.q) from⟨K4.out.1.below hb K4.out.1.lt,(An K4.out.2.1 hb (Ah _)),K4.out.2.2.1.below hb K4.out.2.2.1.lt,K4.out.2.2.2.1.below hb K4.out.2.2.2.1.lt,(Aj K4.out.2.2.2.2.1 hb.size),K4.out.2.2.2.2.2.below hb,SlI.of_own hown K4.out.2.2.2.2.1⟩)
 clear hown hb
 go_wp2_with fail
 refine QK.normal ⟨fun _=> ⟨K6.out.2.2.2.1.cell 2,K6.out.2.2.2.1.cell 3,K6.out.2.2.2.1.cell 4⟩,?_⟩
 refine' AB 8 (by kernel_rfl) ?_ ?_;rotate_left;(simp only[Aa,Ab,Ac];rfl)
 try simp only[Al,Ad,Ae,Af]
 go_wp2_with fail
 refine(Bu vg (f.p.g) u5 (HP.out.1.2.2.below K6.out.2.1).1 HL.out.1.2.2).mono ?_
 rintro e' u7 ⟨ug,rfl,hown,hb⟩
 have K8:=Ag (show Blk u7 (w.heap.size) 45 (flC f.nm f.p.o f.p.e vr vq vg f.v f.e f.u tc)∧Below w.heap.size w u7∧Blk u7 (a1.heap.size) 45 (flC ⟨#[]⟩ 0 0 (.slice none 0 0) (.slice none 0 0) (.slice none 0 0) 0 0 0 (tmC 0 0 0 ⟨#[]⟩ (.slice none 0 0)))∧Blk u7 (a2.heap.size) 43 (pmC f.p.o f.p.e vr vq vg)∧a3.heap.size≤u7.heap.size∧SlI (a3.heap.size≤·) u7 ur (f.p.r)∧SlI (a3.heap.size≤·) u7 uq (f.p.q)∧SlI (a3.heap.size≤·) u7 ug (f.p.g) from⟨K6.out.1.below hb K6.out.1.lt,(An K6.out.2.1 hb (Ah _)),K6.out.2.2.1.below hb K6.out.2.2.1.lt,K6.out.2.2.2.1.below hb K6.out.2.2.2.1.lt,(Aj K6.out.2.2.2.2.1 hb.size),K6.out.2.2.2.2.2.1.below hb,K6.out.2.2.2.2.2.2.below hb,SlI.of_own hown K6.out.2.2.2.2.1⟩)
 clear hown hb
 go_wp2_with fail
 refine QK.normal ⟨fun _=> ⟨K8.out.2.2.2.1.cell 2,K8.out.2.2.2.1.cell 3,K8.out.2.2.2.1.cell 4⟩,?_⟩
 refine' AB 10 (by kernel_rfl) ?_ ?_;rotate_left;(simp only[Aa,Ab,Ac];rfl)
 try simp only[Al,Ad,Ae,Af]
 refine AK u7 rfl 40 (.tmp 15) (.tmp 8) rfl (a2.heap.size) 2 43 _ K8.out.2.2.2.1 rfl (ur) rfl (by simp[pmC]) Tryz.sizeIs1 (K8.out.2.2.2.2.2.1.one) (Cf K8.out.2.2.2.2.2.1.one) ?_
 intro u9 hb hc hs
 have K10:=Ag (show Blk u9 (w.heap.size) 45 (flC f.nm f.p.o f.p.e vr vq vg f.v f.e f.u tc)∧Below w.heap.size w u9∧Blk u9 (a1.heap.size) 45 (flC ⟨#[]⟩ 0 0 (.slice none 0 0) (.slice none 0 0) (.slice none 0 0) 0 0 0 (tmC 0 0 0 ⟨#[]⟩ (.slice none 0 0)))∧Blk u9 (a2.heap.size) 43 (pmC f.p.o f.p.e ur vq vg)∧a3.heap.size≤u9.heap.size∧SlI (a3.heap.size≤·) u9 ur (f.p.r)∧SlI (a3.heap.size≤·) u9 uq (f.p.q)∧SlI (a3.heap.size≤·) u9 ug (f.p.g) from⟨K8.out.1.keep hc (fun e=> absurd (show _=_ from e) (by have:=HG.out;omega)),(Aw K8.out.2.1 hc (Ah _) (fun k hk=> by have e:=(show _=_ from hk);have:=HG.out;omega)),K8.out.2.2.1.keep hc (fun e=> absurd (show _=_ from e) (by have:=HG.out;omega)),hb,(Aj K8.out.2.2.2.2.1 hc.size),K8.out.2.2.2.2.2.1.keep' hc (fun k hk e=> absurd (show _=_ from e) (by have hk:a3.heap.size≤k:=hk;have:=HG.out;omega)) (idf _),K8.out.2.2.2.2.2.2.1.keep' hc (fun k hk e=> absurd (show _=_ from e) (by have hk:a3.heap.size≤k:=hk;have:=HG.out;omega)) (idf _),K8.out.2.2.2.2.2.2.2.keep' hc (fun k hk e=> absurd (show _=_ from e) (by have hk:a3.heap.size≤k:=hk;have:=HG.out;omega)) (idf _)⟩)
 clear hb hc hs
 refine QK.normal ⟨fun h=> absurd h (by decide),?_⟩
 refine AL (by kernel_rfl) AE (fuel:=3) (fun h=> absurd h (by decide)) 11 (by kernel_rfl) ?_
 refine' AH.run ?_ ?_ ?_ ?_;rotate_left 2;(simp only[Aa,Ab,Ac];rfl);rfl;(rintro w' -;go_simp;with_reducible rfl);simp only[Al,Ad,Ae,Af]
 refine' AB 12 (by kernel_rfl) ?_ ?_;rotate_left;(simp only[Aa,Ab,Ac];rfl)
 try simp only[Al,Ad,Ae,Af]
 refine AK u9 rfl 40 (.tmp 16) (.tmp 11) rfl (a2.heap.size) 3 43 _ K10.out.2.2.2.1 rfl (uq) rfl (by simp[pmC]) Tryz.sizeIs1 (K10.out.2.2.2.2.2.2.1.one) (Cf K10.out.2.2.2.2.2.2.1.one) ?_
 intro u11 hb hc hs
 have K12:=Ag (show Blk u11 (w.heap.size) 45 (flC f.nm f.p.o f.p.e vr vq vg f.v f.e f.u tc)∧Below w.heap.size w u11∧Blk u11 (a1.heap.size) 45 (flC ⟨#[]⟩ 0 0 (.slice none 0 0) (.slice none 0 0) (.slice none 0 0) 0 0 0 (tmC 0 0 0 ⟨#[]⟩ (.slice none 0 0)))∧Blk u11 (a2.heap.size) 43 (pmC f.p.o f.p.e ur uq vg)∧a3.heap.size≤u11.heap.size∧SlI (a3.heap.size≤·) u11 ur (f.p.r)∧SlI (a3.heap.size≤·) u11 uq (f.p.q)∧SlI (a3.heap.size≤·) u11 ug (f.p.g) from⟨K10.out.1.keep hc (fun e=> absurd (show _=_ from e) (by have:=HG.out;omega)),(Aw K10.out.2.1 hc (Ah _) (fun k hk=> by have e:=(show _=_ from hk);have:=HG.out;omega)),K10.out.2.2.1.keep hc (fun e=> absurd (show _=_ from e) (by have:=HG.out;omega)),hb,(Aj K10.out.2.2.2.2.1 hc.size),K10.out.2.2.2.2.2.1.keep' hc (fun k hk e=> absurd (show _=_ from e) (by have hk:a3.heap.size≤k:=hk;have:=HG.out;omega)) (idf _),K10.out.2.2.2.2.2.2.1.keep' hc (fun k hk e=> absurd (show _=_ from e) (by have hk:a3.heap.size≤k:=hk;have:=HG.out;omega)) (idf _),K10.out.2.2.2.2.2.2.2.keep' hc (fun k hk e=> absurd (show _=_ from e) (by have hk:a3.heap.size≤k:=hk;have:=HG.out;omega)) (idf _)⟩)
 clear hb hc hs
 refine QK.normal ⟨fun h=> absurd h (by decide),?_⟩
 refine AL (by kernel_rfl) AE (fuel:=1) (fun h=> absurd h (by decide)) 13 (by kernel_rfl) ?_
 refine' AH.run ?_ ?_ ?_ ?_;rotate_left 2;(simp only[Aa,Ab,Ac];rfl);rfl;(rintro w' -;go_simp;with_reducible rfl);simp only[Al,Ad,Ae,Af]
 refine' AB 14 (by kernel_rfl) ?_ ?_;rotate_left;(simp only[Aa,Ab,Ac];rfl)
 try simp only[Al,Ad,Ae,Af]
 refine AK u11 rfl 40 (.tmp 17) (.tmp 14) rfl (a2.heap.size) 4 43 _ K12.out.2.2.2.1 rfl (ug) rfl (by simp[pmC]) Tryz.sizeIs1 (K12.out.2.2.2.2.2.2.2.one) (Cf K12.out.2.2.2.2.2.2.2.one) ?_
 intro u13 hb hc hs
 have K14:=Ag (show Blk u13 (w.heap.size) 45 (flC f.nm f.p.o f.p.e vr vq vg f.v f.e f.u tc)∧Below w.heap.size w u13∧Blk u13 (a1.heap.size) 45 (flC ⟨#[]⟩ 0 0 (.slice none 0 0) (.slice none 0 0) (.slice none 0 0) 0 0 0 (tmC 0 0 0 ⟨#[]⟩ (.slice none 0 0)))∧Blk u13 (a2.heap.size) 43 (pmC f.p.o f.p.e ur uq ug)∧a3.heap.size≤u13.heap.size∧SlI (a3.heap.size≤·) u13 ur (f.p.r)∧SlI (a3.heap.size≤·) u13 uq (f.p.q)∧SlI (a3.heap.size≤·) u13 ug (f.p.g) from⟨K12.out.1.keep hc (fun e=> absurd (show _=_ from e) (by have:=HG.out;omega)),(Aw K12.out.2.1 hc (Ah _) (fun k hk=> by have e:=(show _=_ from hk);have:=HG.out;omega)),K12.out.2.2.1.keep hc (fun e=> absurd (show _=_ from e) (by have:=HG.out;omega)),hb,(Aj K12.out.2.2.2.2.1 hc.size),K12.out.2.2.2.2.2.1.keep' hc (fun k hk e=> absurd (show _=_ from e) (by have hk:a3.heap.size≤k:=hk;have:=HG.out;omega)) (idf _),K12.out.2.2.2.2.2.2.1.keep' hc (fun k hk e=> absurd (show _=_ from e) (by have hk:a3.heap.size≤k:=hk;have:=HG.out;omega)) (idf _),K12.out.2.2.2.2.2.2.2.keep' hc (fun k hk e=> absurd (show _=_ from e) (by have hk:a3.heap.size≤k:=hk;have:=HG.out;omega)) (idf _)⟩)
 clear hb hc hs
 refine QK.normal ⟨fun h=> absurd h (by decide),?_⟩
 refine Bc (by kernel_rfl) ?_ _
 refine NoPanic.normal ?_
 try simp only[Al,Ad,Ae,Af]
 have HTC:=Ag HP.out.2.len
 have HRT:=Ag (show ∀ (W:World) (a b c:Value),Blk W w.heap.size 45 (flC f.nm f.p.o f.p.e a b c f.v f.e f.u tc)→W.rangeAt w.heap.size 9 tc from fun W a b c hW j x hx=> by rw[hW.cell,show 9+j=j+9 by omega];exact hx)
 go_wp2_with fail
 refine AZ (fun W=> W.rangeAt a2.heap.size 0 (pmC f.p.o f.p.e ur uq ug)∧W.rangeAt w.heap.size 9 tc) 5 [0,1,2] 5 (by kernel_rfl) rfl (by kernel_rfl) (by kernel_rfl) ⟨As K14.out.2.2.2.1,HRT.out _ _ _ _ K14.out.1⟩ ?_
 iterate 3(refine' AH.run ?_ ?_ ?_ ?_;rotate_left 2;(simp only[Aa,Ab,Ac];rfl);rfl;(rintro w' ⟨k0,k1⟩;first|exact AA rfl rfl k0 Tryz.underlying43 rfl (Ay _ _ _ _ _)|exact AA rfl rfl k1 Tryz.underlying29 rfl (At Tryz.infoTm HTC.out)|(go_simp;with_reducible rfl));simp only[Al,Ad,Ae,Af])
 have sm:=(Sm.refl u13).drew
 have HV16:=Ag (show Blk u13.drew (w.heap.size) 45 (flC f.nm f.p.o f.p.e vr vq vg f.v f.e f.u tc)∧Below w.heap.size w u13.drew∧Blk u13.drew (a1.heap.size) 45 (flC ⟨#[]⟩ 0 0 (.slice none 0 0) (.slice none 0 0) (.slice none 0 0) 0 0 0 (tmC 0 0 0 ⟨#[]⟩ (.slice none 0 0)))∧Blk u13.drew (a2.heap.size) 43 (pmC f.p.o f.p.e ur uq ug)∧a3.heap.size≤u13.drew.heap.size∧SlI (a3.heap.size≤·) u13.drew ur (f.p.r)∧SlI (a3.heap.size≤·) u13.drew uq (f.p.q)∧SlI (a3.heap.size≤·) u13.drew ug (f.p.g) from⟨K14.out.1.below (sm.below _) K14.out.1.lt,(An K14.out.2.1 (sm.below _) (Ah _)),K14.out.2.2.1.below (sm.below _) K14.out.2.2.1.lt,K14.out.2.2.2.1.below (sm.below _) K14.out.2.2.2.1.lt,(Aj K14.out.2.2.2.2.1 (sm.below 0).size),K14.out.2.2.2.2.2.1.below (sm.below _),K14.out.2.2.2.2.2.2.1.below (sm.below _),K14.out.2.2.2.2.2.2.2.below (sm.below _)⟩)
 clear sm
 generalize u13.drew=v15 at HV16 ⊢
 refine Cd (by kernel_rfl) AE (fuel:=4) ⟨As HV16.out.2.2.2.1,HRT.out _ _ _ _ HV16.out.1⟩ [4] _ _ (by kernel_rfl) ?_
 refine' AH.run ?_ ?_ ?_ ?_;rotate_left 2;(simp only[Aa,Ab,Ac];rfl);rfl;(rintro w' ⟨k0,k1⟩;first|exact AA rfl rfl k0 Tryz.underlying43 rfl (Ay _ _ _ _ _)|exact AA rfl rfl k1 Tryz.underlying29 rfl (At Tryz.infoTm HTC.out)|(go_simp;with_reducible rfl));simp only[Al,Ad,Ae,Af]
 refine' AB 3 (by kernel_rfl) ?_ ?_;rotate_left;(simp only[Aa,Ab,Ac];rfl)
 try simp only[Al,Ad,Ae,Af]
 go_wp2_with fail
 refine(Ca f.b tc _ v15 HL.out.2 (HP.out.2.below HV16.out.2.1)).mono ?_
 rintro e' u17 ⟨tc',rfl,ht,hb⟩
 have HTL:=Ag (show tc'.length=tc.length from by rw[ht.len,HP.out.2.len])
 have K18:=Ag (show Blk u17 (w.heap.size) 45 (flC f.nm f.p.o f.p.e vr vq vg f.v f.e f.u tc)∧Below w.heap.size w u17∧Blk u17 (a1.heap.size) 45 (flC ⟨#[]⟩ 0 0 (.slice none 0 0) (.slice none 0 0) (.slice none 0 0) 0 0 0 (tmC 0 0 0 ⟨#[]⟩ (.slice none 0 0)))∧Blk u17 (a2.heap.size) 43 (pmC f.p.o f.p.e ur uq ug)∧a3.heap.size≤u17.heap.size∧SlI (a3.heap.size≤·) u17 ur (f.p.r)∧SlI (a3.heap.size≤·) u17 uq (f.p.q)∧SlI (a3.heap.size≤·) u17 ug (f.p.g)∧TmC (a3.heap.size≤·) u17 tc' (f.b) from⟨HV16.out.1.below hb HV16.out.1.lt,(An HV16.out.2.1 hb (Ah _)),HV16.out.2.2.1.below hb HV16.out.2.2.1.lt,HV16.out.2.2.2.1.below hb HV16.out.2.2.2.1.lt,(Aj HV16.out.2.2.2.2.1 hb.size),HV16.out.2.2.2.2.2.1.below hb,HV16.out.2.2.2.2.2.2.1.below hb,HV16.out.2.2.2.2.2.2.2.below hb,ht.mono fun k hk=> Aj HV16.out.2.2.2.2.1 hk⟩)
 clear ht hb
 go_wp2_with fail
 refine QK.normal ⟨fun _=> ⟨As K18.out.2.2.2.1,HRT.out _ _ _ _ K18.out.1⟩,?_⟩
 refine' AB 5 (by kernel_rfl) ?_ ?_;rotate_left;(simp only[Aa,Ab,Ac];rfl)
 try simp only[Al,Ad,Ae,Af]
 refine Bg u17 rfl 43 (.tmp 22) (.tmp 18) rfl (w.heap.size) 1 45 _ (pmC f.p.o f.p.e ur uq ug) (flC f.nm f.p.o f.p.e ur uq ug f.v f.e f.u tc) K18.out.1 rfl rfl (by simp[pmC,flC]) ((Ay _ _ _ _ _)) (Bw K18.out.2.2.2.2.2.1.one K18.out.2.2.2.2.2.2.1.one K18.out.2.2.2.2.2.2.2.1.one) (KN _ _ _ _ _ _ _ _ _ _ _ _ _ _ _) ?_
 intro u19 hb hc hs
 have K20:=hJ9 hb (Aw K18.out.2.1 hc (Ah _) (fun k hk=> by have e:=(show _=_ from hk);have:=HG.out;omega)) (K18.out.2.2.1.keep hc (fun e=> absurd (show _=_ from e) (by have:=HG.out;omega))) (K18.out.2.2.2.1.keep hc (fun e=> absurd (show _=_ from e) (by have:=HG.out;omega))) (Aj K18.out.2.2.2.2.1 hc.size) (K18.out.2.2.2.2.2.1.keep' hc (fun k hk e=> absurd (show _=_ from e) (by have hk:a3.heap.size≤k:=hk;have:=HG.out;omega)) (idf _)) (K18.out.2.2.2.2.2.2.1.keep' hc (fun k hk e=> absurd (show _=_ from e) (by have hk:a3.heap.size≤k:=hk;have:=HG.out;omega)) (idf _)) (K18.out.2.2.2.2.2.2.2.1.keep' hc (fun k hk e=> absurd (show _=_ from e) (by have hk:a3.heap.size≤k:=hk;have:=HG.out;omega)) (idf _)) (K18.out.2.2.2.2.2.2.2.2.keep hc (fun k hk e=> absurd (show _=_ from e) (by have hk:a3.heap.size≤k:=hk;have:=HG.out;omega)))
 clear hb hc hs
 refine QK.normal ⟨fun h=> absurd h (by decide),?_⟩
 refine AL (by kernel_rfl) AE (fuel:=1) (fun h=> absurd h (by decide)) 6 (by kernel_rfl) ?_
 refine' AH.run ?_ ?_ ?_ ?_;rotate_left 2;(simp only[Aa,Ab,Ac];rfl);rfl;(rintro w' -;go_simp;with_reducible rfl);simp only[Al,Ad,Ae,Af]
 refine' AB 7 (by kernel_rfl) ?_ ?_;rotate_left;(simp only[Aa,Ab,Ac];rfl)
 try simp only[Al,Ad,Ae,Af]
 refine Bg u19 rfl 29 (.tmp 23) (.tmp 21) rfl (w.heap.size) 9 45 _ (tc') (flC f.nm f.p.o f.p.e ur uq ug f.v f.e f.u tc') K20.out.1 rfl rfl (by have:=HTL.out;simp[flC];omega) ((At Tryz.infoTm K20.out.2.2.2.2.2.2.2.2.len)) K20.out.2.2.2.2.2.2.2.2.one (Gv _ _ _ _ _ _ _ _ _ _ _ HTL.out) ?_
 intro u21 hb hc hs
 have K22:=hJ9 hb (Aw K20.out.2.1 hc (Ah _) (fun k hk=> by have e:=(show _=_ from hk);have:=HG.out;omega)) (K20.out.2.2.1.keep hc (fun e=> absurd (show _=_ from e) (by have:=HG.out;omega))) (K20.out.2.2.2.1.keep hc (fun e=> absurd (show _=_ from e) (by have:=HG.out;omega))) (Aj K20.out.2.2.2.2.1 hc.size) (K20.out.2.2.2.2.2.1.keep' hc (fun k hk e=> absurd (show _=_ from e) (by have hk:a3.heap.size≤k:=hk;have:=HG.out;omega)) (idf _)) (K20.out.2.2.2.2.2.2.1.keep' hc (fun k hk e=> absurd (show _=_ from e) (by have hk:a3.heap.size≤k:=hk;have:=HG.out;omega)) (idf _)) (K20.out.2.2.2.2.2.2.2.1.keep' hc (fun k hk e=> absurd (show _=_ from e) (by have hk:a3.heap.size≤k:=hk;have:=HG.out;omega)) (idf _)) (K20.out.2.2.2.2.2.2.2.2.keep hc (fun k hk e=> absurd (show _=_ from e) (by have hk:a3.heap.size≤k:=hk;have:=HG.out;omega)))
 clear hb hc hs
 refine QK.normal ⟨fun h=> absurd h (by decide),?_⟩
 refine Bc (by kernel_rfl) ?_ _
 refine NoPanic.normal ?_
 try simp only[Al,Ad,Ae,Af]
 have HLF:=Ag (show(flC f.nm f.p.o f.p.e ur uq ug f.v f.e f.u tc').length=14 from by have:=K22.out.2.2.2.2.2.2.2.2.len;simp[flC,this])
 have HLZ:=Ag (show(flC f.nm f.p.o f.p.e ur uq ug f.v f.e f.u tc').length=(flC ⟨#[]⟩ 0 0 (.slice none 0 0) (.slice none 0 0) (.slice none 0 0) 0 0 0 (tmC 0 0 0 ⟨#[]⟩ (.slice none 0 0))).length from by have:=K22.out.2.2.2.2.2.2.2.2.len;simp[flC,this,tmC])
 have HOF:=Ag (show ∀ v∈flC f.nm f.p.o f.p.e ur uq ug f.v f.e f.u tc',v.oneCell'=true from(fun v hv=> FlC.one (F:=(a3.heap.size≤·)) (w:=u21) (f:=f) ⟨_,_,_,_,rfl,⟨K22.out.2.2.2.2.2.1,K22.out.2.2.2.2.2.2.1,K22.out.2.2.2.2.2.2.2.1⟩,K22.out.2.2.2.2.2.2.2.2⟩ v hv))
 go_wp2_with (first
  | (with_reducible refine Ap rfl 45 (.tmp 1) rfl (w.heap.size) 0 rfl (flC f.nm f.p.o f.p.e ur uq ug f.v f.e f.u tc') _ (As K22.out.1) Tryz.underlying45 rfl (At Tryz.infoFl HLF.out) ?_)
  | ((with_reducible refine Ao u21 rfl 45 (.tmp 2) (.tmp 24) rfl (a1.heap.size) 45 (flC ⟨#[]⟩ 0 0 (.slice none 0 0) (.slice none 0 0) (.slice none 0 0) 0 0 0 (tmC 0 0 0 ⟨#[]⟩ (.slice none 0 0))) (flC f.nm f.p.o f.p.e ur uq ug f.v f.e f.u tc') K22.out.2.2.1 rfl rfl HLZ.out (At Tryz.infoFl HLF.out) HOF.out ?_);intro z2 hb hc hs;have HX:=hJ9 (K22.out.1.keep hc (fun e=> absurd (show _=_ from e) (by have:=HG.out;omega))) (Aw K22.out.2.1 hc (Ah _) (fun k hk=> by have e:=(show _=_ from hk);have:=HG.out;omega)) hb (K22.out.2.2.2.1.keep hc (fun e=> absurd (show _=_ from e) (by have:=HG.out;omega))) (Aj K22.out.2.2.2.2.1 hc.size) (K22.out.2.2.2.2.2.1.keep' hc (fun k hk e=> absurd (show _=_ from e) (by have hk:a3.heap.size≤k:=hk;have:=HG.out;omega)) (idf _)) (K22.out.2.2.2.2.2.2.1.keep' hc (fun k hk e=> absurd (show _=_ from e) (by have hk:a3.heap.size≤k:=hk;have:=HG.out;omega)) (idf _)) (K22.out.2.2.2.2.2.2.2.1.keep' hc (fun k hk e=> absurd (show _=_ from e) (by have hk:a3.heap.size≤k:=hk;have:=HG.out;omega)) (idf _)) (K22.out.2.2.2.2.2.2.2.2.keep hc (fun k hk e=> absurd (show _=_ from e) (by have hk:a3.heap.size≤k:=hk;have:=HG.out;omega)));clear hb hc hs))
 refine bodyPost_ret (AC Tryz.results26 _ _ (a1.heap.size) _ _ rfl HX.out.2.2.1 _ Tryz.underlying45 rfl (At Tryz.infoFl HLF.out)) rfl ?_
 refine⟨_,rfl,⟨_,_,_,_,rfl,⟨⟨HX.out.2.2.2.2.2.1.1,fun k h0 hk=> ?_⟩,⟨HX.out.2.2.2.2.2.2.1.1,fun k h0 hk=> ?_⟩,⟨HX.out.2.2.2.2.2.2.2.1.1,fun k h0 hk=> ?_⟩⟩,HX.out.2.2.2.2.2.2.2.2.mono (fun k hk=> by have hk:a3.heap.size≤k:=hk;have:=HG.out;omega)⟩,HX.out.2.1⟩
 ·have:=HX.out.2.2.2.2.2.1.2 k h0 hk;have:=HG.out;simp only at *;omega
 ·have:=HX.out.2.2.2.2.2.2.1.2 k h0 hk;have:=HG.out;simp only at *;omega
 ·have:=HX.out.2.2.2.2.2.2.2.1.2 k h0 hk;have:=HG.out;simp only at *;omega
end Go.Proofs.YtgdlfiphihaooaaGreat

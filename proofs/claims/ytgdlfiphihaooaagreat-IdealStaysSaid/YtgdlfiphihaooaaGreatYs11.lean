import Derived.Test.YtgdlfiphihaooaaGreatYs10
set_option linter.unusedSimpArgs false
set_option linter.unusedVariables false
set_option maxRecDepth 100000
set_option maxHeartbeats 8000000
open _root_.List renaming getElem?_toArray→Aa,getElem?_cons_zero→Ab,getElem?_cons_succ→Ac,setIfInBounds_toArray→Ad,set_cons_zero→Ae,set_cons_succ→Af
open _root_.Go.Lib renaming hid→Ag
open _root_.Nat renaming le_refl→Ah,le_trans→Aj,lt_of_lt_of_le→Ak
open _root_.And renaming intro→Ai
open _root_.Go.Act renaming put→Al
namespace Go.Proofs.YtgdlfiphihaooaaGreat
open Go Go.RowKit
theorem CI {w:World} {g:Nat} {ty:TypeId} {nm:ByteArray} {v e u:Int} {tc:List Value} (h:Blk w g ty (wrC nm v e u tc)):w.rangeAt g 4 tc:=fun j x hx=> (h.cell (4+j)).trans (by rw[Nat.add_comm];exact hx)
theorem Da {w:World} {g:Nat} {ty:TypeId} {p:OpM} {tc:List Value} (h:Blk w g ty (opC p tc)):w.rangeAt g 6 tc:=fun j x hx=> (h.cell (6+j)).trans (by rw[Nat.add_comm];exact hx)
theorem Db {w:World} {g:Nat} {ty:TypeId} {nm:ByteArray} {o pe:Int} {vr vq vg:Value} {v e u:Int} {tc:List Value} (h:Blk w g ty (flC nm o pe vr vq vg v e u tc)):w.rangeAt g 9 tc:=fun j x hx=> (h.cell (9+j)).trans (by rw[Nat.add_comm];exact hx)
section
variable {w0 w w':World} {m0 xs:List Nat} {bp:Nat} {bt:TypeId} {cells cells':List Value} {vf vc vw vf' vc' vw':Value} {fs fs':List FileM} {cv cv':List CirV} {ws ws':List WrM} {ex:List (List Value × Tm)}
theorem OwnX.cellF {g n c i q:Nat} {f:FileM} {x:Value} (h:OwnX w0 m0 xs w bp bt cells (.slice (some ⟨g,0,none⟩) n c) vc vw (fs.set i f) cv ws ex) (hi:i<fs.length) (hq:∀ vr vq vg tc,(flC f.nm f.p.o f.p.e vr vq vg f.v f.e f.u tc)[q]?=some x):w.cell? ⟨g,i* 14+q,none⟩=some x:=by
 obtain⟨-,vr,vq,vg,tc,hra,-⟩:=h.elF hi
 exact hra q x (hq vr vq vg tc)
theorem OwnX.freeF {g n c i q:Nat} {f:FileM} (h:OwnX w0 m0 xs w bp bt cells (.slice (some ⟨g,0,none⟩) n c) vc vw (fs.set i f) cv ws ex) (hi:i<fs.length) (hq:q<14):w.frozen? ⟨g,i* 14+q,none⟩=false:=by
 obtain⟨-,vr,vq,vg,tc,-,-,-,hth,-⟩:=h.elF hi
 exact(hth q hq).2
end
theorem Gv (p:OpM) (tco:List Value) {w0 w:World} {m0 xs:List Nat} {bp g n c i:Nat} {vc vw:Value} {fs:List FileM} {f:FileM} {cv:List CirV} {ws:List WrM} {ex:List (List Value × Tm)}
  (h:OwnX w0 m0 xs w bp 97 [(.slice (some ⟨g,0,none⟩) n c),vc,vw] (.slice (some ⟨g,0,none⟩) n c) vc vw (fs.set i f) cv ws ex) (hi:i<fs.length) (hb:(tco,p.b)∈ex) (hf:Fd p.b=true) (hv0:0≤f.v) (hv1:f.v≤1000000) (hn:ws.length≤1000000):
  Calls Tryz.prog 94 #[.pointer (some ⟨bp,0,none⟩),.pointer (some ⟨g,i* 14,none⟩),.agg (opC p tco).toArray] w (fun e w'=> e=.returned (.tuple #[])∧∃ vw',OwnX w0 m0 xs w' bp 97 [(.slice (some ⟨g,0,none⟩) n c),vc,vw'] (.slice (some ⟨g,0,none⟩) n c) vc vw' (fs.set i ⟨f.nm,f.p,f.v+1,f.p.e,p.u,p.b⟩) cv (ws ++ [BO ⟨f.nm,f.p,f.v+1,f.p.e,p.u,p.b⟩]) ex):=by
 obtain⟨aw,wn,cw,rfl⟩:∃ aw wn cw,vw=.slice aw wn cw:=by
  obtain⟨aw,cw,e,-⟩:=h.rw.shape
  exact⟨aw,_,cw,e⟩
 have HOWN:=Ag h
 have HB:=Ag (Ai hb hf)
 have HN:=Ag hn
 have HW0:=Ag h.ch.size
 have HTL:=Ag (h.ex _ hb).len
 clear h hb hf hn
 go_enter Tryz.func94,Tryz.ntmps94
 go_upto_region 1 with(first
  | ((with_reducible refine Au w rfl 31 (.tmp 2) rfl (opC p tco) rfl ?_);intro a1 hb hbel hsz;have H1:=hJ2 (HOWN.out.rsv hbel (Ah _) hb.lt) hb;clear hb hbel hsz))
 try simp only[Al,Ad,Ae,Af]
 go_wp2_with fail
 refine Az (fun W=> W.cell? ⟨g,i* 14+2,none⟩=some (.int .i64 f.p.e)∧W.cell? ⟨w.heap.size,1,none⟩=some (.int .i64 p.u)∧W.rangeAt w.heap.size 6 tco) [0,1,2,3,4,5,6,9,10,11,12,13,14,15,16,17] 15 (by kernel_rfl) rfl (by kernel_rfl) (by kernel_rfl) ⟨H1.out.1.cellF (q:=2) hi (fun _ _ _ _=> rfl),H1.out.2.cell 1,fun j x hx=> (H1.out.2.cell (6+j)).trans (by rw[Nat.add_comm];exact hx)⟩ ?_
 iterate 16(refine' AK.run ?_ ?_ ?_ ?_;rotate_left 2;(simp only[Aa,Ab,Ac];rfl);rfl;(rintro w' ⟨k0,k1,k2⟩;first|exact AB rfl rfl k2 Tryz.underlying29 rfl (At Tryz.infoTm HTL.out)|(go_simp;with_reducible rfl));simp only[Al,Ad,Ae,Af])
 have sm:=(Sm.refl a1).drew
 have HV2:=hJ2 (H1.out.1.below (sm.below _)) (H1.out.2.below (sm.below _) H1.out.2.lt)
 clear sm
 generalize a1.drew=v1 at HV2 ⊢
 refine' Ck 7 18 (by kernel_rfl) ?_ ?_ ?_ ?_;rotate_left 2;(simp only[Aa,Ab,Ac];rfl);(simp only[Aa,Ab,Ac];rfl)
 ·skip
  have c6:=HV2.out.1.cellF (q:=6) hi (fun _ _ _ _=> rfl)
  try simp only[Al,Ad,Ae,Af]
  go_wp2_with fail
  clear c6
  refine QK.normal ⟨⟨HV2.out.1.cellF (q:=2) hi (fun _ _ _ _=> rfl),HV2.out.2.cell 1,fun j x hx=> (HV2.out.2.cell (6+j)).trans (by rw[Nat.add_comm];exact hx)⟩,?_⟩
  refine Bi (fuel:=13) (by kernel_rfl) AG ⟨HV2.out.1.cellF (q:=2) hi (fun _ _ _ _=> rfl),HV2.out.2.cell 1,fun j x hx=> (HV2.out.2.cell (6+j)).trans (by rw[Nat.add_comm];exact hx)⟩ [8] _ _ (by kernel_rfl) ?_
  try simp only[Al]
  iterate 1(refine' AK.run ?_ ?_ ?_ ?_;rotate_left 2;(simp only[Aa,Ab,Ac];rfl);rfl;(rintro w' ⟨k0,k1,k2⟩;first|exact AB rfl rfl k2 Tryz.underlying29 rfl (At Tryz.infoTm HTL.out)|(go_simp;with_reducible rfl));simp only[Al,Ad,Ae,Af])
  refine' Ar 18 (by kernel_rfl) ?_ ?_;rotate_left;(simp only[Aa,Ab,Ac];rfl)
  try simp only[Al,Ad,Ae,Af]
  go_wp2_with fail
  refine(B4 p.b tco _ v1 HB.out.2 (HV2.out.1.ex _ HB.out.1)).mono ?_
  rintro e' u3 ⟨tcn,rfl,ht,hb⟩
  have K4:=hJ2 (HV2.out.1.more ht hb) (HV2.out.2.below hb HV2.out.2.lt)
  clear ht hb
  go_wp2_with fail
  refine QK.normal ⟨⟨K4.out.1.cellF (q:=2) hi (fun _ _ _ _=> rfl),K4.out.2.cell 1,fun j x hx=> (K4.out.2.cell (6+j)).trans (by rw[Nat.add_comm];exact hx)⟩,?_⟩
  refine' Ar 19 (by kernel_rfl) ?_ ?_;rotate_left;(simp only[Aa,Ab,Ac];rfl)
  try simp only[Al,Ad,Ae,Af]
  go_wp2_with fail
  refine QK.normal ⟨⟨K4.out.1.cellF (q:=2) hi (fun _ _ _ _=> rfl),K4.out.2.cell 1,fun j x hx=> (K4.out.2.cell (6+j)).trans (by rw[Nat.add_comm];exact hx)⟩,?_⟩
  refine' Ar 20 (by kernel_rfl) ?_ ?_;rotate_left;(simp only[Aa,Ab,Ac];rfl)
  try simp only[Al,Ad,Ae,Af]
  go_wp2_with fail
  refine QK.normal ⟨⟨K4.out.1.cellF (q:=2) hi (fun _ _ _ _=> rfl),K4.out.2.cell 1,fun j x hx=> (K4.out.2.cell (6+j)).trans (by rw[Nat.add_comm];exact hx)⟩,?_⟩
  refine' Ar 21 (by kernel_rfl) ?_ ?_;rotate_left;(simp only[Aa,Ab,Ac];rfl)
  have c6:=K4.out.1.cellF (q:=6) hi (fun _ _ _ _=> rfl)
  have q6:=K4.out.1.freeF (q:=6) hi (by omega)
  try simp only[Al,Ad,Ae,Af]
  go_wp2_with fail
  clear c6 q6
  have K6:=Ag (show OwnX w0 m0 (w.heap.size::xs) (u3.setCells g (i* 14+6) [.int .i64 (f.v+1)]) bp 97 [(.slice (some ⟨g,0,none⟩) n c),vc,(.slice aw wn cw)] (.slice (some ⟨g,0,none⟩) n c) vc (.slice aw wn cw) (fs.set i ⟨f.nm,f.p,f.v+1,f.e,f.u,f.b⟩) cv ws ((tcn,p.b)::ex)∧Blk (u3.setCells g (i* 14+6) [.int .i64 (f.v+1)]) (w.heap.size) 31 (opC p tco) from⟨by obtain⟨-,_,_,_,_,-,-,-,-,k6,k7,k8,-⟩:=K4.out.1.elF hi;exact k6 (f.v+1),K4.out.2.keep (AH g _ _ _) (fun e=> (K4.out.1.ne (List.mem_cons_self:w.heap.size∈(w.heap.size::xs))).2.1 (by rw[show w.heap.size=g from e];exact AF.2 rfl))⟩)
  rw[show u3.setCell ⟨g,i* 14+6,none⟩ (.int .i64 (f.v+1))=(u3.setCells g (i* 14+6) [.int .i64 (f.v+1)]) from rfl]
  generalize (u3.setCells g (i* 14+6) [.int .i64 (f.v+1)])=u5 at K6 ⊢
  refine QK.normal ⟨⟨K6.out.1.cellF (q:=2) hi (fun _ _ _ _=> rfl),K6.out.2.cell 1,fun j x hx=> (K6.out.2.cell (6+j)).trans (by rw[Nat.add_comm];exact hx)⟩,?_⟩
  refine' Ar 22 (by kernel_rfl) ?_ ?_;rotate_left;(simp only[Aa,Ab,Ac];rfl)
  try simp only[Al,Ad,Ae,Af]
  go_wp2_with fail
  refine QK.normal ⟨⟨K6.out.1.cellF (q:=2) hi (fun _ _ _ _=> rfl),K6.out.2.cell 1,fun j x hx=> (K6.out.2.cell (6+j)).trans (by rw[Nat.add_comm];exact hx)⟩,?_⟩
  refine' Ar 23 (by kernel_rfl) ?_ ?_;rotate_left;(simp only[Aa,Ab,Ac];rfl)
  try simp only[Al,Ad,Ae,Af]
  go_wp2_with fail
  refine QK.normal ⟨⟨K6.out.1.cellF (q:=2) hi (fun _ _ _ _=> rfl),K6.out.2.cell 1,fun j x hx=> (K6.out.2.cell (6+j)).trans (by rw[Nat.add_comm];exact hx)⟩,?_⟩
  refine' Ar 24 (by kernel_rfl) ?_ ?_;rotate_left;(simp only[Aa,Ab,Ac];rfl)
  have c6:=K6.out.1.cellF (q:=7) hi (fun _ _ _ _=> rfl)
  have q6:=K6.out.1.freeF (q:=7) hi (by omega)
  try simp only[Al,Ad,Ae,Af]
  go_wp2_with fail
  clear c6 q6
  have K8:=Ag (show OwnX w0 m0 (w.heap.size::xs) (u5.setCells g (i* 14+7) [.int .i64 f.p.e]) bp 97 [(.slice (some ⟨g,0,none⟩) n c),vc,(.slice aw wn cw)] (.slice (some ⟨g,0,none⟩) n c) vc (.slice aw wn cw) (fs.set i ⟨f.nm,f.p,f.v+1,f.p.e,f.u,f.b⟩) cv ws ((tcn,p.b)::ex)∧Blk (u5.setCells g (i* 14+7) [.int .i64 f.p.e]) (w.heap.size) 31 (opC p tco) from⟨by obtain⟨-,_,_,_,_,-,-,-,-,k6,k7,k8,-⟩:=K6.out.1.elF hi;exact k7 f.p.e,K6.out.2.keep (AH g _ _ _) (fun e=> (K6.out.1.ne (List.mem_cons_self:w.heap.size∈(w.heap.size::xs))).2.1 (by rw[show w.heap.size=g from e];exact AF.2 rfl))⟩)
  rw[show u5.setCell ⟨g,i* 14+7,none⟩ (.int .i64 f.p.e)=(u5.setCells g (i* 14+7) [.int .i64 f.p.e]) from rfl]
  generalize (u5.setCells g (i* 14+7) [.int .i64 f.p.e])=u7 at K8 ⊢
  refine QK.normal ⟨⟨K8.out.1.cellF (q:=2) hi (fun _ _ _ _=> rfl),K8.out.2.cell 1,fun j x hx=> (K8.out.2.cell (6+j)).trans (by rw[Nat.add_comm];exact hx)⟩,?_⟩
  refine' Ar 25 (by kernel_rfl) ?_ ?_;rotate_left;(simp only[Aa,Ab,Ac];rfl)
  try simp only[Al,Ad,Ae,Af]
  go_wp2_with fail
  refine QK.normal ⟨⟨K8.out.1.cellF (q:=2) hi (fun _ _ _ _=> rfl),K8.out.2.cell 1,fun j x hx=> (K8.out.2.cell (6+j)).trans (by rw[Nat.add_comm];exact hx)⟩,?_⟩
  refine' Ar 26 (by kernel_rfl) ?_ ?_;rotate_left;(simp only[Aa,Ab,Ac];rfl)
  try simp only[Al,Ad,Ae,Af]
  go_wp2_with fail
  refine QK.normal ⟨⟨K8.out.1.cellF (q:=2) hi (fun _ _ _ _=> rfl),K8.out.2.cell 1,fun j x hx=> (K8.out.2.cell (6+j)).trans (by rw[Nat.add_comm];exact hx)⟩,?_⟩
  refine' Ar 27 (by kernel_rfl) ?_ ?_;rotate_left;(simp only[Aa,Ab,Ac];rfl)
  have c6:=K8.out.1.cellF (q:=8) hi (fun _ _ _ _=> rfl)
  have q6:=K8.out.1.freeF (q:=8) hi (by omega)
  try simp only[Al,Ad,Ae,Af]
  go_wp2_with fail
  clear c6 q6
  have K10:=Ag (show OwnX w0 m0 (w.heap.size::xs) (u7.setCells g (i* 14+8) [.int .i64 p.u]) bp 97 [(.slice (some ⟨g,0,none⟩) n c),vc,(.slice aw wn cw)] (.slice (some ⟨g,0,none⟩) n c) vc (.slice aw wn cw) (fs.set i ⟨f.nm,f.p,f.v+1,f.p.e,p.u,f.b⟩) cv ws ((tcn,p.b)::ex)∧Blk (u7.setCells g (i* 14+8) [.int .i64 p.u]) (w.heap.size) 31 (opC p tco) from⟨by obtain⟨-,_,_,_,_,-,-,-,-,k6,k7,k8,-⟩:=K8.out.1.elF hi;exact k8 p.u,K8.out.2.keep (AH g _ _ _) (fun e=> (K8.out.1.ne (List.mem_cons_self:w.heap.size∈(w.heap.size::xs))).2.1 (by rw[show w.heap.size=g from e];exact AF.2 rfl))⟩)
  rw[show u7.setCell ⟨g,i* 14+8,none⟩ (.int .i64 p.u)=(u7.setCells g (i* 14+8) [.int .i64 p.u]) from rfl]
  generalize (u7.setCells g (i* 14+8) [.int .i64 p.u])=u9 at K10 ⊢
  refine QK.normal ⟨⟨K10.out.1.cellF (q:=2) hi (fun _ _ _ _=> rfl),K10.out.2.cell 1,fun j x hx=> (K10.out.2.cell (6+j)).trans (by rw[Nat.add_comm];exact hx)⟩,?_⟩
  refine' Ar 28 (by kernel_rfl) ?_ ?_;rotate_left;(simp only[Aa,Ab,Ac];rfl)
  try simp only[Al,Ad,Ae,Af]
  go_wp2_with fail
  refine QK.normal ⟨⟨K10.out.1.cellF (q:=2) hi (fun _ _ _ _=> rfl),K10.out.2.cell 1,fun j x hx=> (K10.out.2.cell (6+j)).trans (by rw[Nat.add_comm];exact hx)⟩,?_⟩
  refine' Ar 29 (by kernel_rfl) ?_ ?_;rotate_left;(simp only[Aa,Ab,Ac];rfl)
  try simp only[Al,Ad,Ae,Af]
  go_wp2_with fail
  refine QK.normal ⟨⟨K10.out.1.cellF (q:=2) hi (fun _ _ _ _=> rfl),K10.out.2.cell 1,fun j x hx=> (K10.out.2.cell (6+j)).trans (by rw[Nat.add_comm];exact hx)⟩,?_⟩
  refine' Ar 30 (by kernel_rfl) ?_ ?_;rotate_left;(simp only[Aa,Ab,Ac];rfl)
  obtain⟨-,_,_,_,_,-,-,-,hth,-,-,-,k9,-⟩:=K10.out.1.elF hi
  have HNL:=Ag ((K10.out.1.ex _ List.mem_cons_self).len)
  have HNO:=Ag ((K10.out.1.ex _ List.mem_cons_self).one)
  try simp only[Al,Ad,Ae,Af]
  refine wpList_store_mid rfl 29 (.tmp 33) (.tmp 25) rfl g (i* 14+9) tcn.toArray rfl rfl (by simp only[List.size_toArray];rw[HNL.out];exact fun j hj=> by rw[Nat.add_assoc];exact hth (9+j) (by omega)) (by simp only[List.size_toArray];rw[HNL.out];exact Tryz.infoTm) (all_oneCell_toArray HNO.out) ?_
  have K12:=Ag (show OwnX w0 m0 (w.heap.size::xs) (u9.setCells g (i* 14+9) tcn) bp 97 [(.slice (some ⟨g,0,none⟩) n c),vc,(.slice aw wn cw)] (.slice (some ⟨g,0,none⟩) n c) vc (.slice aw wn cw) (fs.set i ⟨f.nm,f.p,f.v+1,f.p.e,p.u,p.b⟩) cv ws ((tcn,p.b)::ex)∧Blk (u9.setCells g (i* 14+9) tcn) (w.heap.size) 31 (opC p tco) from⟨k9 tcn p.b (K10.out.1.ex _ List.mem_cons_self),K10.out.2.keep (AH g _ _ _) (fun e=> (K10.out.1.ne (List.mem_cons_self:w.heap.size∈(w.heap.size::xs))).2.1 (by rw[show w.heap.size=g from e];exact AF.2 rfl))⟩)
  clear hth k9 HNL HNO
  try simp only[List.toList_toArray]
  generalize (u9.setCells g (i* 14+9) tcn)=u11 at K12 ⊢
  refine QK.normal ⟨⟨K12.out.1.cellF (q:=2) hi (fun _ _ _ _=> rfl),K12.out.2.cell 1,fun j x hx=> (K12.out.2.cell (6+j)).trans (by rw[Nat.add_comm];exact hx)⟩,?_⟩
  refine wpAnyH_done (by kernel_rfl) ?_ _
  refine NoPanic.normal ?_
  try simp only[Al,Ad,Ae,Af]
  obtain⟨-,ur,uq,ug,tcw,hra,-,htm,-⟩:=K12.out.1.elF hi
  have HRA:=Ag hra
  have HTM:=Ag htm
  have HTW:=Ag htm.len
  clear hra htm
  go_wp2_with (first
  | (with_reducible refine Ap rfl 45 (.tmp 35) rfl g (i* 14) rfl (flC f.nm f.p.o f.p.e ur uq ug (f.v+1) f.p.e p.u tcw) _ HRA.out Tryz.underlying45 rfl (At Tryz.infoFl (by simp[flC,HTW.out])) ?_))
  refine(EL ⟨f.nm,f.p,f.v+1,f.p.e,p.u,p.b⟩ ur uq ug tcw _ u11 HTM.out).mono ?_
  rintro e' b1 ⟨rfl,hb⟩
  have HB1:=Ag (show OwnX w0 m0 (w.heap.size::xs) b1 bp 97 [(.slice (some ⟨g,0,none⟩) n c),vc,(.slice aw wn cw)] (.slice (some ⟨g,0,none⟩) n c) vc (.slice aw wn cw) (fs.set i ⟨f.nm,f.p,f.v+1,f.p.e,p.u,p.b⟩) cv ws ((tcw,p.b)::ex)∧Blk b1 (w.heap.size) 31 (opC p tco) from⟨(((K12.out.1.exadd HTM.out).below hb).less ((tcw,p.b)::ex) (fun q hq=> by
   rcases List.mem_cons.1 hq with h|h
   ·exact h ▸ List.mem_cons_self
   ·exact List.mem_cons_of_mem _ (List.mem_cons_of_mem _ h))),K12.out.2.below hb K12.out.2.lt⟩)
  clear hb HRA HTM K12
  have HSZ:=Ag (show w0.heap.size≤b1.heap.size from HB1.out.1.ch.size)
  have HWL:=Ag (show(wrC f.nm (f.v+1) f.p.e p.u tcw).length=(wrC ⟨#[]⟩ 0 0 0 (tmC 0 0 0 ⟨#[]⟩ (.slice none 0 0))).length from by simp[wrC,HTW.out,tmC])
  have HWL9:=Ag (show(wrC f.nm (f.v+1) f.p.e p.u tcw).length=9 from by simp[wrC,HTW.out])
  have HWO:=Ag (show ∀ v∈wrC f.nm (f.v+1) f.p.e p.u tcw,v.oneCell'=true from WrC.one (f:=BO ⟨f.nm,f.p,f.v+1,f.p.e,p.u,p.b⟩) ⟨tcw,rfl,HB1.out.1.ex _ List.mem_cons_self⟩)
  go_wp2_with (first
  | ((with_reducible refine Av b1 rfl 56 rfl (wrC ⟨#[]⟩ 0 0 0 (tmC 0 0 0 ⟨#[]⟩ (.slice none 0 0))) Tryz.zeroWr9 ?_);intro b2 hb hbel hsz;have HB2:=hJ2 (HB1.out.1.rsv hbel (Ah _) hb.lt) hb;clear hb hbel hsz)
  | ((with_reducible refine Ao b2 rfl 56 (.tmp 6) (.tmp 37) rfl (b1.heap.size) 56 (wrC ⟨#[]⟩ 0 0 0 (tmC 0 0 0 ⟨#[]⟩ (.slice none 0 0))) (wrC f.nm (f.v+1) f.p.e p.u tcw) HB2.out.2 rfl rfl HWL.out (At Tryz.infoWr HWL9.out) HWO.out ?_);intro b3 hb hc hs;have HB3:=hJ2 (HB2.out.1.setX (List.mem_cons_self) HSZ.out hc) hb;clear hb hc hs)
  | (with_reducible refine Ap rfl 29 (.tmp 38) rfl (b1.heap.size) 4 rfl tcw _ (CI HB3.out.2) Tryz.underlying29 rfl (At Tryz.infoTm HTW.out) ?_))
  refine(B4 p.b tcw _ b3 HB.out.2 (HB3.out.1.ex _ List.mem_cons_self)).mono ?_
  rintro e' b4 ⟨tc3,rfl,ht,hb⟩
  have HT3:=Ag ht.len
  have HO3:=Ag ht.one
  have HB4:=hJ2 (HB3.out.1.more ht hb) (HB3.out.2.below hb HB3.out.2.lt)
  clear ht hb HB3 HB2 HB1
  have HFIT:=Ag (show 4+tc3.length≤(wrC f.nm (f.v+1) f.p.e p.u tcw).length from by rw[HWL9.out,HT3.out];omega)
  have HTT:=Ag (show tc3.length=tcw.length from by rw[HT3.out,HTW.out])
  go_upto_region 4 with(first
  | ((with_reducible refine Be b4 rfl 29 (.tmp 41) (.tmp 40) rfl (b1.heap.size) 4 56 _ tc3 (wrC f.nm (f.v+1) f.p.e p.u tc3) HB4.out.2 rfl rfl HFIT.out (At Tryz.infoTm HT3.out) HO3.out (D1 _ _ _ _ _ _ HTT.out) ?_);intro b5 hb hc hs;have HB5:=hJ2 (HB4.out.1.setX (List.mem_cons_self) HSZ.out hc) hb;clear hb hc hs))
  try simp only[Al,Ad,Ae,Af]
  have HW3:=Ag (show(wrC f.nm (f.v+1) f.p.e p.u tc3).length=9 from by simp[wrC,HT3.out])
  go_wp2_with fail
  refine A2 (fun W=> W.cell? ⟨bp,2,none⟩=some (.slice aw wn cw)∧W.rangeAt b1.heap.size 0 (wrC f.nm (f.v+1) f.p.e p.u tc3)) 12 [0,1,2,3,4,5,6] 6 (by kernel_rfl) rfl (by kernel_rfl) (by kernel_rfl) ⟨HB5.out.1.bl.cell 2,As HB5.out.2⟩ ?_
  iterate 7(refine' AK.run ?_ ?_ ?_ ?_;rotate_left 2;(simp only[Aa,Ab,Ac];rfl);rfl;(rintro w' ⟨k0,k1⟩;first|exact AB rfl rfl k1 Tryz.underlying56 rfl (At Tryz.infoWr HW3.out)|(go_simp;with_reducible rfl));simp only[Al,Ad,Ae,Af])
  have sm:=(Sm.refl b5).drew
  have HV14:=hJ2 (HB5.out.1.below (sm.below _)) (HB5.out.2.below (sm.below _) HB5.out.2.lt)
  clear sm
  generalize b5.drew=v13 at HV14 ⊢
  refine' AE 7 (by kernel_rfl) ?_ ?_;rotate_left;(simp only[Aa,Ab,Ac];rfl)
  try simp only[Al,Ad,Ae,Af]
  refine Ci v13 rfl (.tmp 48) rfl (wrC f.nm (f.v+1) f.p.e p.u tc3) HW3.out rfl ?_
  intro e1 hb hbel hsz
  have HE1:=hJ3 (HV14.out.1.below hbel) (HV14.out.2.below hbel HV14.out.2.lt) hb
  clear hb hbel hsz
  refine QK.normal ⟨fun _=> ⟨HE1.out.1.bl.cell 2,As HE1.out.2.1⟩,?_⟩
  refine' AE 8 (by kernel_rfl) ?_ ?_;rotate_left;(simp only[Aa,Ab,Ac];rfl)
  try simp only[Al,Ad,Ae,Af]
  at_builtin
  refine DP rfl (.tmp 47) (.tmp 49) rfl HE1.out.1 rfl (x:=BO ⟨f.nm,f.p,f.v+1,f.p.e,p.u,p.b⟩) rfl HE1.out.2.2 ⟨tc3,rfl,HE1.out.1.ex _ List.mem_cons_self⟩ HN.out ?_
  intro ay cy e2 hown hc
  have HE2:=hJ2 hown (HE1.out.2.1.keep hc (fun e=> (HE1.out.1.ne (List.mem_cons_self:b1.heap.size∈(b1.heap.size::w.heap.size::xs))).2.2.2.1 (AF.2 e)))
  clear hown hc
  refine QK.normal ⟨fun _=> ⟨HE2.out.1.bl.cell 2,As HE2.out.2⟩,?_⟩
  refine AL (by kernel_rfl) AG (fuel:=3) (fun _=> ⟨HE2.out.1.bl.cell 2,As HE2.out.2⟩) 9 (by kernel_rfl) ?_
  refine' AK.run ?_ ?_ ?_ ?_;rotate_left 2;(simp only[Aa,Ab,Ac];rfl);rfl;(rintro w' -;go_simp;with_reducible rfl);simp only[Al,Ad,Ae,Af]
  refine AL (by kernel_rfl) AG (fuel:=2) (fun _=> ⟨HE2.out.1.bl.cell 2,As HE2.out.2⟩) 10 (by kernel_rfl) ?_
  refine' AK.run ?_ ?_ ?_ ?_;rotate_left 2;(simp only[Aa,Ab,Ac];rfl);rfl;(rintro w' -;go_simp;with_reducible rfl);simp only[Al,Ad,Ae,Af]
  refine AL (by kernel_rfl) AG (fuel:=1) (fun _=> ⟨HE2.out.1.bl.cell 2,As HE2.out.2⟩) 11 (by kernel_rfl) ?_
  refine' AK.run ?_ ?_ ?_ ?_;rotate_left 2;(simp only[Aa,Ab,Ac];rfl);rfl;(rintro w' -;go_simp;with_reducible rfl);simp only[Al,Ad,Ae,Af]
  refine' AE 12 (by kernel_rfl) ?_ ?_;rotate_left;(simp only[Aa,Ab,Ac];rfl)
  have hbl:=HE2.out.1.bl
  try simp only[Al,Ad,Ae,Af]
  refine AI e2 rfl 24 (.tmp 53) (.tmp 50) rfl bp 2 97 _ hbl rfl (.slice ay (ws.length+1) cy) rfl (by simp) Tryz.sizeSw1 rfl rfl ?_
  intro e3 hb hc hs
  have HE3:=Ag (show OwnX w0 m0 (b1.heap.size::w.heap.size::xs) e3 bp 97 [(.slice (some ⟨g,0,none⟩) n c),vc,(.slice ay (ws.length+1) cy)] (.slice (some ⟨g,0,none⟩) n c) vc (.slice ay (ws.length+1) cy) (fs.set i ⟨f.nm,f.p,f.v+1,f.p.e,p.u,p.b⟩) cv (ws ++ [BO ⟨f.nm,f.p,f.v+1,f.p.e,p.u,p.b⟩]) ((tc3,p.b)::(tcw,p.b)::ex) from HE2.out.1.setB hc hb)
  clear hb hc hs hbl
  refine QK.normal ⟨fun h=> absurd h (by decide),?_⟩
  refine Bd (by kernel_rfl) ?_ _
  refine NoPanic.normal ?_
  go_wp2_with fail
  go_end0
  exact⟨rfl,_,((HE3.out.less ex (fun q hq=> List.mem_cons_of_mem _ (List.mem_cons_of_mem _ hq))).keepoff (fun k hk=> List.mem_cons_of_mem _ (List.mem_cons_of_mem _ hk)))⟩
 ·skip
  try simp only[Al,Ad,Ae,Af]
  go_wp2_with fail
  refine(B4 p.b tco _ v1 HB.out.2 (HV2.out.1.ex _ HB.out.1)).mono ?_
  rintro e' u15 ⟨tcn,rfl,ht,hb⟩
  have K16:=Ag (show OwnX w0 m0 (w.heap.size::xs) u15 bp 97 [(.slice (some ⟨g,0,none⟩) n c),vc,(.slice aw wn cw)] (.slice (some ⟨g,0,none⟩) n c) vc (.slice aw wn cw) (fs.set i f) cv ws ((tcn,p.b)::ex)∧Blk u15 (w.heap.size) 31 (opC p tco) from⟨(HV2.out.1.more ht hb),HV2.out.2.below hb HV2.out.2.lt⟩)
  clear ht hb
  go_wp2_with fail
  refine QK.normal ⟨⟨K16.out.1.cellF (q:=2) hi (fun _ _ _ _=> rfl),K16.out.2.cell 1,fun j x hx=> (K16.out.2.cell (6+j)).trans (by rw[Nat.add_comm];exact hx)⟩,?_⟩
  refine' Ar 7 (by kernel_rfl) ?_ ?_;rotate_left;(simp only[Aa,Ab,Ac];rfl)
  have c6:=K16.out.1.cellF (q:=6) hi (fun _ _ _ _=> rfl)
  try simp only[Al,Ad,Ae,Af]
  go_wp2_with fail
  clear c6
  refine QK.normal ⟨⟨K16.out.1.cellF (q:=2) hi (fun _ _ _ _=> rfl),K16.out.2.cell 1,fun j x hx=> (K16.out.2.cell (6+j)).trans (by rw[Nat.add_comm];exact hx)⟩,?_⟩
  refine Bi (fuel:=12) (by kernel_rfl) AG ⟨K16.out.1.cellF (q:=2) hi (fun _ _ _ _=> rfl),K16.out.2.cell 1,fun j x hx=> (K16.out.2.cell (6+j)).trans (by rw[Nat.add_comm];exact hx)⟩ [8] _ _ (by kernel_rfl) ?_
  try simp only[Al]
  iterate 1(refine' AK.run ?_ ?_ ?_ ?_;rotate_left 2;(simp only[Aa,Ab,Ac];rfl);rfl;(rintro w' ⟨k0,k1,k2⟩;first|exact AB rfl rfl k2 Tryz.underlying29 rfl (At Tryz.infoTm HTL.out)|(go_simp;with_reducible rfl));simp only[Al,Ad,Ae,Af])
  refine' Ar 19 (by kernel_rfl) ?_ ?_;rotate_left;(simp only[Aa,Ab,Ac];rfl)
  try simp only[Al,Ad,Ae,Af]
  go_wp2_with fail
  refine QK.normal ⟨⟨K16.out.1.cellF (q:=2) hi (fun _ _ _ _=> rfl),K16.out.2.cell 1,fun j x hx=> (K16.out.2.cell (6+j)).trans (by rw[Nat.add_comm];exact hx)⟩,?_⟩
  refine' Ar 20 (by kernel_rfl) ?_ ?_;rotate_left;(simp only[Aa,Ab,Ac];rfl)
  try simp only[Al,Ad,Ae,Af]
  go_wp2_with fail
  refine QK.normal ⟨⟨K16.out.1.cellF (q:=2) hi (fun _ _ _ _=> rfl),K16.out.2.cell 1,fun j x hx=> (K16.out.2.cell (6+j)).trans (by rw[Nat.add_comm];exact hx)⟩,?_⟩
  refine' Ar 21 (by kernel_rfl) ?_ ?_;rotate_left;(simp only[Aa,Ab,Ac];rfl)
  have c6:=K16.out.1.cellF (q:=6) hi (fun _ _ _ _=> rfl)
  have q6:=K16.out.1.freeF (q:=6) hi (by omega)
  try simp only[Al,Ad,Ae,Af]
  go_wp2_with fail
  clear c6 q6
  have K18:=Ag (show OwnX w0 m0 (w.heap.size::xs) (u15.setCells g (i* 14+6) [.int .i64 (f.v+1)]) bp 97 [(.slice (some ⟨g,0,none⟩) n c),vc,(.slice aw wn cw)] (.slice (some ⟨g,0,none⟩) n c) vc (.slice aw wn cw) (fs.set i ⟨f.nm,f.p,f.v+1,f.e,f.u,f.b⟩) cv ws ((tcn,p.b)::ex)∧Blk (u15.setCells g (i* 14+6) [.int .i64 (f.v+1)]) (w.heap.size) 31 (opC p tco) from⟨by obtain⟨-,_,_,_,_,-,-,-,-,k6,k7,k8,-⟩:=K16.out.1.elF hi;exact k6 (f.v+1),K16.out.2.keep (AH g _ _ _) (fun e=> (K16.out.1.ne (List.mem_cons_self:w.heap.size∈(w.heap.size::xs))).2.1 (by rw[show w.heap.size=g from e];exact AF.2 rfl))⟩)
  rw[show u15.setCell ⟨g,i* 14+6,none⟩ (.int .i64 (f.v+1))=(u15.setCells g (i* 14+6) [.int .i64 (f.v+1)]) from rfl]
  generalize (u15.setCells g (i* 14+6) [.int .i64 (f.v+1)])=u17 at K18 ⊢
  refine QK.normal ⟨⟨K18.out.1.cellF (q:=2) hi (fun _ _ _ _=> rfl),K18.out.2.cell 1,fun j x hx=> (K18.out.2.cell (6+j)).trans (by rw[Nat.add_comm];exact hx)⟩,?_⟩
  refine' Ar 22 (by kernel_rfl) ?_ ?_;rotate_left;(simp only[Aa,Ab,Ac];rfl)
  try simp only[Al,Ad,Ae,Af]
  go_wp2_with fail
  refine QK.normal ⟨⟨K18.out.1.cellF (q:=2) hi (fun _ _ _ _=> rfl),K18.out.2.cell 1,fun j x hx=> (K18.out.2.cell (6+j)).trans (by rw[Nat.add_comm];exact hx)⟩,?_⟩
  refine' Ar 23 (by kernel_rfl) ?_ ?_;rotate_left;(simp only[Aa,Ab,Ac];rfl)
  try simp only[Al,Ad,Ae,Af]
  go_wp2_with fail
  refine QK.normal ⟨⟨K18.out.1.cellF (q:=2) hi (fun _ _ _ _=> rfl),K18.out.2.cell 1,fun j x hx=> (K18.out.2.cell (6+j)).trans (by rw[Nat.add_comm];exact hx)⟩,?_⟩
  refine' Ar 24 (by kernel_rfl) ?_ ?_;rotate_left;(simp only[Aa,Ab,Ac];rfl)
  have c6:=K18.out.1.cellF (q:=7) hi (fun _ _ _ _=> rfl)
  have q6:=K18.out.1.freeF (q:=7) hi (by omega)
  try simp only[Al,Ad,Ae,Af]
  go_wp2_with fail
  clear c6 q6
  have K20:=Ag (show OwnX w0 m0 (w.heap.size::xs) (u17.setCells g (i* 14+7) [.int .i64 f.p.e]) bp 97 [(.slice (some ⟨g,0,none⟩) n c),vc,(.slice aw wn cw)] (.slice (some ⟨g,0,none⟩) n c) vc (.slice aw wn cw) (fs.set i ⟨f.nm,f.p,f.v+1,f.p.e,f.u,f.b⟩) cv ws ((tcn,p.b)::ex)∧Blk (u17.setCells g (i* 14+7) [.int .i64 f.p.e]) (w.heap.size) 31 (opC p tco) from⟨by obtain⟨-,_,_,_,_,-,-,-,-,k6,k7,k8,-⟩:=K18.out.1.elF hi;exact k7 f.p.e,K18.out.2.keep (AH g _ _ _) (fun e=> (K18.out.1.ne (List.mem_cons_self:w.heap.size∈(w.heap.size::xs))).2.1 (by rw[show w.heap.size=g from e];exact AF.2 rfl))⟩)
  rw[show u17.setCell ⟨g,i* 14+7,none⟩ (.int .i64 f.p.e)=(u17.setCells g (i* 14+7) [.int .i64 f.p.e]) from rfl]
  generalize (u17.setCells g (i* 14+7) [.int .i64 f.p.e])=u19 at K20 ⊢
  refine QK.normal ⟨⟨K20.out.1.cellF (q:=2) hi (fun _ _ _ _=> rfl),K20.out.2.cell 1,fun j x hx=> (K20.out.2.cell (6+j)).trans (by rw[Nat.add_comm];exact hx)⟩,?_⟩
  refine' Ar 25 (by kernel_rfl) ?_ ?_;rotate_left;(simp only[Aa,Ab,Ac];rfl)
  try simp only[Al,Ad,Ae,Af]
  go_wp2_with fail
  refine QK.normal ⟨⟨K20.out.1.cellF (q:=2) hi (fun _ _ _ _=> rfl),K20.out.2.cell 1,fun j x hx=> (K20.out.2.cell (6+j)).trans (by rw[Nat.add_comm];exact hx)⟩,?_⟩
  refine' Ar 26 (by kernel_rfl) ?_ ?_;rotate_left;(simp only[Aa,Ab,Ac];rfl)
  try simp only[Al,Ad,Ae,Af]
  go_wp2_with fail
  refine QK.normal ⟨⟨K20.out.1.cellF (q:=2) hi (fun _ _ _ _=> rfl),K20.out.2.cell 1,fun j x hx=> (K20.out.2.cell (6+j)).trans (by rw[Nat.add_comm];exact hx)⟩,?_⟩
  refine' Ar 27 (by kernel_rfl) ?_ ?_;rotate_left;(simp only[Aa,Ab,Ac];rfl)
  have c6:=K20.out.1.cellF (q:=8) hi (fun _ _ _ _=> rfl)
  have q6:=K20.out.1.freeF (q:=8) hi (by omega)
  try simp only[Al,Ad,Ae,Af]
  go_wp2_with fail
  clear c6 q6
  have K22:=Ag (show OwnX w0 m0 (w.heap.size::xs) (u19.setCells g (i* 14+8) [.int .i64 p.u]) bp 97 [(.slice (some ⟨g,0,none⟩) n c),vc,(.slice aw wn cw)] (.slice (some ⟨g,0,none⟩) n c) vc (.slice aw wn cw) (fs.set i ⟨f.nm,f.p,f.v+1,f.p.e,p.u,f.b⟩) cv ws ((tcn,p.b)::ex)∧Blk (u19.setCells g (i* 14+8) [.int .i64 p.u]) (w.heap.size) 31 (opC p tco) from⟨by obtain⟨-,_,_,_,_,-,-,-,-,k6,k7,k8,-⟩:=K20.out.1.elF hi;exact k8 p.u,K20.out.2.keep (AH g _ _ _) (fun e=> (K20.out.1.ne (List.mem_cons_self:w.heap.size∈(w.heap.size::xs))).2.1 (by rw[show w.heap.size=g from e];exact AF.2 rfl))⟩)
  rw[show u19.setCell ⟨g,i* 14+8,none⟩ (.int .i64 p.u)=(u19.setCells g (i* 14+8) [.int .i64 p.u]) from rfl]
  generalize (u19.setCells g (i* 14+8) [.int .i64 p.u])=u21 at K22 ⊢
  refine QK.normal ⟨⟨K22.out.1.cellF (q:=2) hi (fun _ _ _ _=> rfl),K22.out.2.cell 1,fun j x hx=> (K22.out.2.cell (6+j)).trans (by rw[Nat.add_comm];exact hx)⟩,?_⟩
  refine' Ar 28 (by kernel_rfl) ?_ ?_;rotate_left;(simp only[Aa,Ab,Ac];rfl)
  try simp only[Al,Ad,Ae,Af]
  go_wp2_with fail
  refine QK.normal ⟨⟨K22.out.1.cellF (q:=2) hi (fun _ _ _ _=> rfl),K22.out.2.cell 1,fun j x hx=> (K22.out.2.cell (6+j)).trans (by rw[Nat.add_comm];exact hx)⟩,?_⟩
  refine' Ar 29 (by kernel_rfl) ?_ ?_;rotate_left;(simp only[Aa,Ab,Ac];rfl)
  try simp only[Al,Ad,Ae,Af]
  go_wp2_with fail
  refine QK.normal ⟨⟨K22.out.1.cellF (q:=2) hi (fun _ _ _ _=> rfl),K22.out.2.cell 1,fun j x hx=> (K22.out.2.cell (6+j)).trans (by rw[Nat.add_comm];exact hx)⟩,?_⟩
  refine' Ar 30 (by kernel_rfl) ?_ ?_;rotate_left;(simp only[Aa,Ab,Ac];rfl)
  obtain⟨-,_,_,_,_,-,-,-,hth,-,-,-,k9,-⟩:=K22.out.1.elF hi
  have HNL:=Ag ((K22.out.1.ex _ List.mem_cons_self).len)
  have HNO:=Ag ((K22.out.1.ex _ List.mem_cons_self).one)
  try simp only[Al,Ad,Ae,Af]
  refine wpList_store_mid rfl 29 (.tmp 33) (.tmp 25) rfl g (i* 14+9) tcn.toArray rfl rfl (by simp only[List.size_toArray];rw[HNL.out];exact fun j hj=> by rw[Nat.add_assoc];exact hth (9+j) (by omega)) (by simp only[List.size_toArray];rw[HNL.out];exact Tryz.infoTm) (all_oneCell_toArray HNO.out) ?_
  have K24:=Ag (show OwnX w0 m0 (w.heap.size::xs) (u21.setCells g (i* 14+9) tcn) bp 97 [(.slice (some ⟨g,0,none⟩) n c),vc,(.slice aw wn cw)] (.slice (some ⟨g,0,none⟩) n c) vc (.slice aw wn cw) (fs.set i ⟨f.nm,f.p,f.v+1,f.p.e,p.u,p.b⟩) cv ws ((tcn,p.b)::ex)∧Blk (u21.setCells g (i* 14+9) tcn) (w.heap.size) 31 (opC p tco) from⟨k9 tcn p.b (K22.out.1.ex _ List.mem_cons_self),K22.out.2.keep (AH g _ _ _) (fun e=> (K22.out.1.ne (List.mem_cons_self:w.heap.size∈(w.heap.size::xs))).2.1 (by rw[show w.heap.size=g from e];exact AF.2 rfl))⟩)
  clear hth k9 HNL HNO
  try simp only[List.toList_toArray]
  generalize (u21.setCells g (i* 14+9) tcn)=u23 at K24 ⊢
  refine QK.normal ⟨⟨K24.out.1.cellF (q:=2) hi (fun _ _ _ _=> rfl),K24.out.2.cell 1,fun j x hx=> (K24.out.2.cell (6+j)).trans (by rw[Nat.add_comm];exact hx)⟩,?_⟩
  refine wpAnyH_done (by kernel_rfl) ?_ _
  refine NoPanic.normal ?_
  try simp only[Al,Ad,Ae,Af]
  obtain⟨-,ur,uq,ug,tcw,hra,-,htm,-⟩:=K24.out.1.elF hi
  have HRA:=Ag hra
  have HTM:=Ag htm
  have HTW:=Ag htm.len
  clear hra htm
  go_wp2_with (first
  | (with_reducible refine Ap rfl 45 (.tmp 35) rfl g (i* 14) rfl (flC f.nm f.p.o f.p.e ur uq ug (f.v+1) f.p.e p.u tcw) _ HRA.out Tryz.underlying45 rfl (At Tryz.infoFl (by simp[flC,HTW.out])) ?_))
  refine(EL ⟨f.nm,f.p,f.v+1,f.p.e,p.u,p.b⟩ ur uq ug tcw _ u23 HTM.out).mono ?_
  rintro e' b1 ⟨rfl,hb⟩
  have HB1:=Ag (show OwnX w0 m0 (w.heap.size::xs) b1 bp 97 [(.slice (some ⟨g,0,none⟩) n c),vc,(.slice aw wn cw)] (.slice (some ⟨g,0,none⟩) n c) vc (.slice aw wn cw) (fs.set i ⟨f.nm,f.p,f.v+1,f.p.e,p.u,p.b⟩) cv ws ((tcw,p.b)::ex)∧Blk b1 (w.heap.size) 31 (opC p tco) from⟨(((K24.out.1.exadd HTM.out).below hb).less ((tcw,p.b)::ex) (fun q hq=> by
   rcases List.mem_cons.1 hq with h|h
   ·exact h ▸ List.mem_cons_self
   ·exact List.mem_cons_of_mem _ (List.mem_cons_of_mem _ h))),K24.out.2.below hb K24.out.2.lt⟩)
  clear hb HRA HTM K24
  have HSZ:=Ag (show w0.heap.size≤b1.heap.size from HB1.out.1.ch.size)
  have HWL:=Ag (show(wrC f.nm (f.v+1) f.p.e p.u tcw).length=(wrC ⟨#[]⟩ 0 0 0 (tmC 0 0 0 ⟨#[]⟩ (.slice none 0 0))).length from by simp[wrC,HTW.out,tmC])
  have HWL9:=Ag (show(wrC f.nm (f.v+1) f.p.e p.u tcw).length=9 from by simp[wrC,HTW.out])
  have HWO:=Ag (show ∀ v∈wrC f.nm (f.v+1) f.p.e p.u tcw,v.oneCell'=true from WrC.one (f:=BO ⟨f.nm,f.p,f.v+1,f.p.e,p.u,p.b⟩) ⟨tcw,rfl,HB1.out.1.ex _ List.mem_cons_self⟩)
  go_wp2_with (first
  | ((with_reducible refine Av b1 rfl 56 rfl (wrC ⟨#[]⟩ 0 0 0 (tmC 0 0 0 ⟨#[]⟩ (.slice none 0 0))) Tryz.zeroWr9 ?_);intro b2 hb hbel hsz;have HB2:=hJ2 (HB1.out.1.rsv hbel (Ah _) hb.lt) hb;clear hb hbel hsz)
  | ((with_reducible refine Ao b2 rfl 56 (.tmp 6) (.tmp 37) rfl (b1.heap.size) 56 (wrC ⟨#[]⟩ 0 0 0 (tmC 0 0 0 ⟨#[]⟩ (.slice none 0 0))) (wrC f.nm (f.v+1) f.p.e p.u tcw) HB2.out.2 rfl rfl HWL.out (At Tryz.infoWr HWL9.out) HWO.out ?_);intro b3 hb hc hs;have HB3:=hJ2 (HB2.out.1.setX (List.mem_cons_self) HSZ.out hc) hb;clear hb hc hs)
  | (with_reducible refine Ap rfl 29 (.tmp 38) rfl (b1.heap.size) 4 rfl tcw _ (CI HB3.out.2) Tryz.underlying29 rfl (At Tryz.infoTm HTW.out) ?_))
  refine(B4 p.b tcw _ b3 HB.out.2 (HB3.out.1.ex _ List.mem_cons_self)).mono ?_
  rintro e' b4 ⟨tc3,rfl,ht,hb⟩
  have HT3:=Ag ht.len
  have HO3:=Ag ht.one
  have HB4:=hJ2 (HB3.out.1.more ht hb) (HB3.out.2.below hb HB3.out.2.lt)
  clear ht hb HB3 HB2 HB1
  have HFIT:=Ag (show 4+tc3.length≤(wrC f.nm (f.v+1) f.p.e p.u tcw).length from by rw[HWL9.out,HT3.out];omega)
  have HTT:=Ag (show tc3.length=tcw.length from by rw[HT3.out,HTW.out])
  go_upto_region 4 with(first
  | ((with_reducible refine Be b4 rfl 29 (.tmp 41) (.tmp 40) rfl (b1.heap.size) 4 56 _ tc3 (wrC f.nm (f.v+1) f.p.e p.u tc3) HB4.out.2 rfl rfl HFIT.out (At Tryz.infoTm HT3.out) HO3.out (D1 _ _ _ _ _ _ HTT.out) ?_);intro b5 hb hc hs;have HB5:=hJ2 (HB4.out.1.setX (List.mem_cons_self) HSZ.out hc) hb;clear hb hc hs))
  try simp only[Al,Ad,Ae,Af]
  have HW3:=Ag (show(wrC f.nm (f.v+1) f.p.e p.u tc3).length=9 from by simp[wrC,HT3.out])
  go_wp2_with fail
  refine A2 (fun W=> W.cell? ⟨bp,2,none⟩=some (.slice aw wn cw)∧W.rangeAt b1.heap.size 0 (wrC f.nm (f.v+1) f.p.e p.u tc3)) 12 [0,1,2,3,4,5,6] 6 (by kernel_rfl) rfl (by kernel_rfl) (by kernel_rfl) ⟨HB5.out.1.bl.cell 2,As HB5.out.2⟩ ?_
  iterate 7(refine' AK.run ?_ ?_ ?_ ?_;rotate_left 2;(simp only[Aa,Ab,Ac];rfl);rfl;(rintro w' ⟨k0,k1⟩;first|exact AB rfl rfl k1 Tryz.underlying56 rfl (At Tryz.infoWr HW3.out)|(go_simp;with_reducible rfl));simp only[Al,Ad,Ae,Af])
  have sm:=(Sm.refl b5).drew
  have HV26:=hJ2 (HB5.out.1.below (sm.below _)) (HB5.out.2.below (sm.below _) HB5.out.2.lt)
  clear sm
  generalize b5.drew=v25 at HV26 ⊢
  refine' AE 7 (by kernel_rfl) ?_ ?_;rotate_left;(simp only[Aa,Ab,Ac];rfl)
  try simp only[Al,Ad,Ae,Af]
  refine Ci v25 rfl (.tmp 48) rfl (wrC f.nm (f.v+1) f.p.e p.u tc3) HW3.out rfl ?_
  intro e1 hb hbel hsz
  have HE1:=hJ3 (HV26.out.1.below hbel) (HV26.out.2.below hbel HV26.out.2.lt) hb
  clear hb hbel hsz
  refine QK.normal ⟨fun _=> ⟨HE1.out.1.bl.cell 2,As HE1.out.2.1⟩,?_⟩
  refine' AE 8 (by kernel_rfl) ?_ ?_;rotate_left;(simp only[Aa,Ab,Ac];rfl)
  try simp only[Al,Ad,Ae,Af]
  at_builtin
  refine DP rfl (.tmp 47) (.tmp 49) rfl HE1.out.1 rfl (x:=BO ⟨f.nm,f.p,f.v+1,f.p.e,p.u,p.b⟩) rfl HE1.out.2.2 ⟨tc3,rfl,HE1.out.1.ex _ List.mem_cons_self⟩ HN.out ?_
  intro ay cy e2 hown hc
  have HE2:=hJ2 hown (HE1.out.2.1.keep hc (fun e=> (HE1.out.1.ne (List.mem_cons_self:b1.heap.size∈(b1.heap.size::w.heap.size::xs))).2.2.2.1 (AF.2 e)))
  clear hown hc
  refine QK.normal ⟨fun _=> ⟨HE2.out.1.bl.cell 2,As HE2.out.2⟩,?_⟩
  refine AL (by kernel_rfl) AG (fuel:=3) (fun _=> ⟨HE2.out.1.bl.cell 2,As HE2.out.2⟩) 9 (by kernel_rfl) ?_
  refine' AK.run ?_ ?_ ?_ ?_;rotate_left 2;(simp only[Aa,Ab,Ac];rfl);rfl;(rintro w' -;go_simp;with_reducible rfl);simp only[Al,Ad,Ae,Af]
  refine AL (by kernel_rfl) AG (fuel:=2) (fun _=> ⟨HE2.out.1.bl.cell 2,As HE2.out.2⟩) 10 (by kernel_rfl) ?_
  refine' AK.run ?_ ?_ ?_ ?_;rotate_left 2;(simp only[Aa,Ab,Ac];rfl);rfl;(rintro w' -;go_simp;with_reducible rfl);simp only[Al,Ad,Ae,Af]
  refine AL (by kernel_rfl) AG (fuel:=1) (fun _=> ⟨HE2.out.1.bl.cell 2,As HE2.out.2⟩) 11 (by kernel_rfl) ?_
  refine' AK.run ?_ ?_ ?_ ?_;rotate_left 2;(simp only[Aa,Ab,Ac];rfl);rfl;(rintro w' -;go_simp;with_reducible rfl);simp only[Al,Ad,Ae,Af]
  refine' AE 12 (by kernel_rfl) ?_ ?_;rotate_left;(simp only[Aa,Ab,Ac];rfl)
  have hbl:=HE2.out.1.bl
  try simp only[Al,Ad,Ae,Af]
  refine AI e2 rfl 24 (.tmp 53) (.tmp 50) rfl bp 2 97 _ hbl rfl (.slice ay (ws.length+1) cy) rfl (by simp) Tryz.sizeSw1 rfl rfl ?_
  intro e3 hb hc hs
  have HE3:=Ag (show OwnX w0 m0 (b1.heap.size::w.heap.size::xs) e3 bp 97 [(.slice (some ⟨g,0,none⟩) n c),vc,(.slice ay (ws.length+1) cy)] (.slice (some ⟨g,0,none⟩) n c) vc (.slice ay (ws.length+1) cy) (fs.set i ⟨f.nm,f.p,f.v+1,f.p.e,p.u,p.b⟩) cv (ws ++ [BO ⟨f.nm,f.p,f.v+1,f.p.e,p.u,p.b⟩]) ((tc3,p.b)::(tcw,p.b)::ex) from HE2.out.1.setB hc hb)
  clear hb hc hs hbl
  refine QK.normal ⟨fun h=> absurd h (by decide),?_⟩
  refine Bd (by kernel_rfl) ?_ _
  refine NoPanic.normal ?_
  go_wp2_with fail
  go_end0
  exact⟨rfl,_,((HE3.out.less ex (fun q hq=> List.mem_cons_of_mem _ (List.mem_cons_of_mem _ hq))).keepoff (fun k hk=> List.mem_cons_of_mem _ (List.mem_cons_of_mem _ hk)))⟩
end Go.Proofs.YtgdlfiphihaooaaGreat
namespace Go.Proofs.YtgdlfiphihaooaaGreat
open Go Go.RowKit Go.Sort
theorem Ff {P:Int→Bool} {l:List Int} (h:BG P l=true):∀ y∈l,P y=true:=fun y hy=> by
 obtain⟨i,hi,rfl⟩:=List.mem_iff_getElem.1 hy
 have h1:=List.all_eq_true.1 h i (by simpa using hi)
 unfold Cr at h1
 rw[Cs hi] at h1
 simp at h1
 exact h1.1
theorem Gw {P:Int→Bool} {l:List Int} (hs:l.Pairwise (·<·)) (h:∀ y∈l,P y=true):BG P l=true:=by
 refine List.all_eq_true.2 fun i hi=> ?_
 have hi':i<l.length:=by simpa using hi
 unfold Cr
 rw[Cs hi',h _ (List.getElem_mem hi'),Bool.true_and]
 by_cases h0:i=0
 ·subst h0;rfl
 ·have:=List.pairwise_iff_getElem.1 hs (i - 1) i (by omega) hi' (by omega)
  rw[Cs (show i - 1<l.length by omega)]
  simp[this]
theorem Fg {P:Int→Bool} {l:List Int}:BG P l=true↔l.Pairwise (·<·)∧∀ y∈l,P y=true:=
 ⟨fun h=> ⟨Cy h,Ff h⟩,fun h=> Gw h.1 h.2⟩
theorem Ed {l:List Int} {x:Int}:inB l x=true↔x∈l:=by
 unfold inB
 rw[List.any_eq_true]
 exact⟨fun ⟨y,hy,e⟩=> by
  have:x=y:=by simpa using e
  subst this;exact hy,fun h=> ⟨x,h,by simp⟩⟩
theorem inB_no {l:List Int} {x:Int}:inB l x=false↔x∉l:=by rw[←Ed];simp
theorem Fh:∀ {l:List Int} (x:Int),l.Pairwise (·<·)→l.take (BT l x)=l.filter (fun y=> decide (y<x))∧l.drop (BT l x)=l.filter (fun y=> !decide (y<x))
 | [],x,_=> ⟨rfl,rfl⟩
 | a::t,x,h=> by
  have ht:=List.pairwise_cons.1 h
  by_cases ha:a<x
  ·have ih:=Fh x ht.2
   have hN:BT (a::t) x=BT t x+1:=by unfold BT;rw[List.countP_cons];simp[ha]
   rw[hN,List.take_succ_cons,List.drop_succ_cons,ih.1,ih.2,List.filter_cons,List.filter_cons]
   simp[ha]
  ·have hall:∀ y∈a::t,¬ y<x:=fun y hy=> by
    rcases List.mem_cons.1 hy with rfl|hy
    ·exact ha
    ·have:=ht.1 y hy;omega
   have hN:BT (a::t) x=0:=by unfold BT;rw[List.countP_eq_zero];intro y hy;simpa using hall y hy
   rw[hN,List.take_zero,List.drop_zero]
   refine⟨(List.filter_eq_nil_iff.2 (fun y hy=> by simpa using hall y hy)).symm,(List.filter_eq_self.2 (fun y hy=> by simpa using hall y hy)).symm⟩
theorem Kc {l:List Int} {x:Int} (h:l.Pairwise (·<·)):Cl l (BT l x) x=l.filter (fun y=> decide (y<x)) ++ x::l.filter (fun y=> !decide (y<x)):=by
 unfold Cl;rw[(Fh x h).1,(Fh x h).2]
theorem Is {l:List Int} {i:Nat} {x y:Int}:y∈Cl l i x↔y=x∨y∈l:=by
 unfold Cl
 rw[List.mem_append,List.mem_cons]
 conv=> rhs;rw[←List.take_append_drop i l,List.mem_append]
 constructor
 ·rintro(h|h|h)
  ·exact .inr (.inl h)
  ·exact .inl h
  ·exact .inr (.inr h)
 ·rintro(h|h|h)
  ·exact .inr (.inl h)
  ·exact .inl h
  ·exact .inr (.inr h)
theorem Ee {l:List Int} {x y:Int}:y∈Bs l x↔y=x∨y∈l:=by
 unfold Bs
 split
 ·rename_i h
  have hx:x∈l:=Ed.1 h
  constructor
  ·exact .inr
  ·rintro(rfl|h)
   ·exact hx
   ·exact h
 ·exact Is
theorem Gx {l:List Int} {x:Int} (h:l.Pairwise (·<·)):(Bs l x).Pairwise (·<·):=by
 unfold Bs
 split
 ·exact h
 ·rename_i hx
  have hx:x∉l:=inB_no.1 (Bool.eq_false_iff.2 hx)
  rw[Kc h]
  refine List.pairwise_append.2 ⟨h.filter _,List.pairwise_cons.2 ⟨fun y hy=> ?_,h.filter _⟩,fun a ha b hb=> ?_⟩
  ·have:=List.mem_filter.1 hy
   have h1:¬ y<x:=by simpa using this.2
   have h2:y≠x:=fun e=> hx (e ▸ this.1)
   omega
  ·have h1:a<x:=by simpa using (List.mem_filter.1 ha).2
   rcases List.mem_cons.1 hb with rfl|hb
   ·exact h1
   ·have h2:¬ b<x:=by simpa using (List.mem_filter.1 hb).2
    omega
theorem Eu {P:Int→Bool} {l:List Int} {x:Int} (h:BG P l=true) (hx:P x=true):BG P (Bs l x)=true:=
 Gw (Gx (Cy h)) fun y hy=> by
  rcases Ee.1 hy with rfl|hy
  ·exact hx
  ·exact Ff h y hy
theorem Dy {P:Int→Bool} {l:List Int} {y:Int}:y∈Bb P l↔y∈l∧P y=false:=by unfold Bb;rw[List.mem_filter];simp
theorem Ev {P Q:Int→Bool} {l:List Int} (h:BG P l=true):BG P (Bb Q l)=true:=
 Gw ((Cy h).filter _) fun y hy=> Ff h y (Dy.1 hy).1
structure OkP (p:PmD):Prop where
 o:AX p.o=true
 e:1≤p.e∧p.e≤8
 r:BG (BK p.o) p.r=true
 q:BG (BK p.o) p.q=true
 g:BG BB p.g=true
 w:∀ n∈p.q,n∈p.r
theorem Hn {p:PmD}:okB p=true↔OkP p:=by
 unfold okB
 simp only[Bool.and_eq_true,decide_eq_true_eq,Bool.not_eq_true']
 have hw:(p.q.any (fun n=> !(p.r.any (n==·)))=false)↔∀ n∈p.q,n∈p.r:=by
  rw[List.any_eq_false]
  refine forall_congr' fun n=> forall_congr' fun hn=> ?_
  rw[←Ed]
  unfold inB
  simp
 rw[hw]
 exact⟨fun ⟨a,b,c,d,e,f,g⟩=> ⟨a,⟨b,c⟩,d,e,f,g⟩,fun h=> ⟨h.o,h.e.1,h.e.2,h.r,h.q,h.g,h.w⟩⟩
theorem KN {p:PmD} (hp:OkP p) {b n:Int} {wr:Bool} (h:(CN p b n wr).1=0):
  b=p.o∧BK p.o n=true∧¬ (n∈p.r∧(wr=false∨n∈p.q))∧(CN p b n wr).2={p with r:=Bs p.r n,q:=if wr=true then Bs p.q n else p.q}∧OkP (CN p b n wr).2:=by
 unfold CN at h ⊢
 by_cases h1:b=p.o
 ·rw[if_neg (by simpa using h1)] at h ⊢
  by_cases h2:AX n=false∨n=p.o
  ·rw[if_pos h2] at h;cases h
  ·rw[if_neg h2] at h ⊢
   by_cases h3:inB p.r n=true∧(wr=false∨inB p.q n=true)
   ·rw[if_pos h3] at h;cases h
   ·rw[if_neg h3]
    have ho:BK p.o n=true:=by
     unfold BK
     have a:AX n=true:=by
      cases hu:AX n with
      | true=> rfl
      | false=> exact(h2 (.inl hu)).elim
     have b:n≠p.o:=fun e=> h2 (.inr e)
     simp[a,b]
    refine⟨h1,ho,by rw[Ed,Ed] at h3;exact h3,rfl,hp.o,hp.e,Eu hp.r ho,?_,hp.g,fun m hm=> ?_⟩
    ·show BG _ (if wr=true then Bs p.q n else p.q)=true
     split
     ·exact Eu hp.q ho
     ·exact hp.q
    ·refine Ee.2 ?_
     have hm':m∈(if wr=true then Bs p.q n else p.q):=hm
     split at hm'
     ·rcases Ee.1 hm' with h|h
      ·exact .inl h
      ·exact .inr (hp.w m h)
     ·exact .inr (hp.w m hm')
 ·rw[if_pos h1] at h;cases h
end Go.Proofs.YtgdlfiphihaooaaGreat
namespace Go.Proofs.YtgdlfiphihaooaaGreat
open Go Go.RowKit
theorem G3:∀ {l:List Int},BC geN l=true→l.Pairwise (·<·)
 | [],_=> .nil
 | [a],_=> by simp
 | a::b::t,h=> by
  unfold BC at h
  rw[Bool.and_eq_true] at h
  have hab:a<b:=by have:=h.1;unfold geN at this;simp at this;omega
  have ih:=G3 (l:=b::t) h.2
  refine List.Pairwise.cons (fun x hx=> ?_) ih
  rcases List.mem_cons.1 hx with rfl|hx
  ·exact hab
  ·have:=(List.pairwise_cons.1 ih).1 x hx;omega
theorem Gy:∀ {l:List CirM},BC (fun x y:CirM=> geN x.n y.n) l=true→(l.map CirM.n).Pairwise (·<·)
 | [],_=> .nil
 | [a],_=> by simp
 | a::b::t,h=> by
  unfold BC at h
  rw[Bool.and_eq_true] at h
  have hab:a.n<b.n:=by have:=h.1;unfold geN at this;simp at this;omega
  have ih:=Gy (l:=b::t) h.2
  rw[List.map_cons] at ih ⊢
  refine List.Pairwise.cons (fun x hx=> ?_) ih
  rcases List.mem_cons.1 hx with rfl|hx
  ·exact hab
  ·have:=(List.pairwise_cons.1 ih).1 x hx;omega
theorem Dz:∀ {l:List Int} {lo hi:Int},l.Pairwise (·<·)→(∀ x∈l,lo≤x∧x≤hi)→(l.length:Int)≤max 0 (hi - lo+1)
 | [],lo,hi,_,_=> by simp;omega
 | x::t,lo,hi,hp,ha=> by
  rw[List.pairwise_cons] at hp
  have ih:=Dz (lo:=x+1) (hi:=hi) hp.2 (fun y hy=> ⟨by have:=hp.1 y hy;omega,(ha y (List.mem_cons_of_mem _ hy)).2⟩)
  have h0:=ha x List.mem_cons_self
  rw[List.length_cons]
  omega
structure ChkP (s:IdM):Prop where
 fl:s.fs.length≤6
 wl:s.ws.length≤400
 fr:BC (fun x y:FileM=> geS x.nm y.nm) s.fs=true
 cr:BC (fun x y:CirM=> geN x.n y.n) s.cs=true
 c:∀ c∈s.cs,Ek c=true
 f:∀ f∈s.fs,Dg s f=true
 w:∀ x∈s.ws,wrB x=true
theorem Dj {s:IdM}:D0 s=true↔ChkP s:=by
 unfold D0 Hm upB
 simp only[Bool.and_eq_true,decide_eq_true_eq,List.all_eq_true]
 exact⟨fun ⟨⟨⟨⟨⟨a,b⟩,c,d⟩,e⟩,f⟩,g⟩=> ⟨a,b,c,d,e,f,g⟩,fun h=> ⟨⟨⟨⟨⟨h.fl,h.wl⟩,h.fr,h.cr⟩,h.c⟩,h.f⟩,h.w⟩⟩
theorem Ef {c:CirM} (h:Ek c=true):1≤c.n∧c.n≤3∧AX c.o=true∧c.us.Pairwise (·<·)∧(∀ u∈c.us,AX u=true):=by
 unfold Ek at h
 simp only[Bool.and_eq_true,decide_eq_true_eq,Bool.not_eq_true',List.any_eq_false,Bool.not_eq_true,Bool.not_eq_false'] at h
 obtain⟨h1,h2,h3,h4,h5⟩:=h
 exact⟨h1,h2,h3,G3 h4,fun u hu=> by have:=h5 u hu;simpa using this⟩
theorem Gz {u:Int} (h:AX u=true):1≤u∧u≤6:=by unfold AX at h;simpa using h
theorem Kd {u:Int} (h:BB u=true):1≤u∧u≤3:=by unfold BB at h;simpa using h
theorem Ho {c:CirM} (h:Ek c=true):c.us.length≤6:=by
 obtain⟨-,-,-,h4,h5⟩:=Ef h
 have:=Dz h4 (fun x hx=> Gz (h5 x hx))
 omega
theorem ChkP.cl {s:IdM} (h:ChkP s):s.cs.length≤3:=by
 have:=Dz (Gy h.cr) (lo:=1) (hi:=3) (fun x hx=> by
  obtain⟨c,hc,rfl⟩:=List.mem_map.1 hx
  have:=Ef (h.c c hc)
  exact⟨this.1,this.2.1⟩)
 rw[List.length_map] at this
 omega
theorem KO (k:Int):EA k≤3:=by
 unfold EA
 repeat (first|omega|split)
theorem Ke {k u n:Int} {s:ByteArray} {l:Nat} (h:Cq k u n s l=true):l≤10:=by
 have hk:=KO k
 unfold Cq Kv at h
 simp only[Bool.and_eq_true,beq_iff_eq] at h
 have:(l:Int)=(EA k:Int):=by simp_all
 omega
theorem G4:∀ (ts:List Tm),(∀ t∈ts,∀ d l,(BM t d l).1=true→Fd t=true)→∀ d l,(CS ts d l).1=true→Fy ts=true
 | [],_,_,_,_=> by rw[Fy]
 | t::ts,ih,d,l,h=> by
  rw[DI] at h
  rw[Fy,Bool.and_eq_true]
  by_cases hk:(BM t d l).1=true
  ·rw[if_pos hk] at h
   exact⟨ih t List.mem_cons_self d l hk,G4 ts (fun t ht=> ih t (List.mem_cons_of_mem _ ht)) d _ h⟩
  ·rw[if_neg hk] at h;cases h
theorem Kf:∀ (t:Tm) (d l:Int),(BM t d l).1=true→Fd t=true:=by
 refine Tm.ind fun k u n s ks ih d l h=> ?_
 rw[BM] at h
 by_cases hk:l - 1<0∨60<d∨Cq k u n s ks.length=false
 ·rw[if_pos hk] at h;cases h
 ·rw[if_neg hk] at h
  rw[Fd,Bool.and_eq_true]
  have hp:Cq k u n s ks.length=true:=by
   cases e:Cq k u n s ks.length with
   | true=> rfl
   | false=> exact absurd (.inr (.inr e)) hk
  exact⟨decide_eq_true (Ke hp),G4 ks ih _ _ h⟩
theorem EQ {t:Tm} (h:C5 t=true):Fd t=true:=by
 unfold C5 DV at h
 rw[Bool.and_eq_true] at h
 have h1:=h.1
 by_cases hs:DN t=0
 ·rw[if_pos hs] at h1;simp at h1
 ·unfold DN at hs
  by_cases hw:(BM t 1 1200).1=true
  ·exact Kf t 1 1200 hw
  ·rw[if_neg hw] at hs;exact absurd rfl hs
theorem DA {x:WrM} (h:wrB x=true):0<BE x.nm∧1≤x.v∧x.v≤9999∧1≤x.e∧x.e≤8∧AX x.u=true∧C5 x.b=true:=by
 unfold wrB at h
 simp only[Bool.and_eq_true,decide_eq_true_eq] at h
 exact h
theorem Br {s:IdM} {f:FileM} (h:Dg s f=true):OkP f.p∧BE f.nm=f.p.o∧f.e≤f.p.e∧wrB (BO f)=true∧∀ n∈f.p.g,Dx s f.p.o n=true:=by
 unfold Dg at h
 simp only[Bool.and_eq_true,decide_eq_true_eq,beq_iff_eq,List.all_eq_true] at h
 exact⟨Hn.1 h.1.1,h.1.2.1,h.1.2.2.1,h.1.2.2.2,h.2⟩
theorem OkP.pml {p:PmD} (h:OkP p):PmL p:=by
 have h1:=Fg.1 h.r
 have h2:=Fg.1 h.q
 have h3:=Fg.1 h.g
 have hu:∀ x,BK p.o x=true→1≤x∧x≤6:=fun x hx=> by unfold BK at hx;rw[Bool.and_eq_true] at hx;exact Gz hx.1
 have l1:=Dz h1.1 (fun x hx=> hu x (h1.2 x hx))
 have l2:=Dz h2.1 (fun x hx=> hu x (h2.2 x hx))
 have l3:=Dz h3.1 (fun x hx=> Kd (h3.2 x hx))
 refine⟨?_,?_,?_⟩ <;> omega
theorem PmL.pmn {p:PmD} (h:PmL p):PmN p:=⟨by have:=h.1;omega,by have:=h.2.1;omega,by have:=h.2.2;omega⟩
theorem ChkP.few {s:IdM} (h:ChkP s):FewI s:=
 ⟨fun f hf=> by
  have hp:=Br (h.f f hf)
  exact⟨hp.1.pml.pmn,EQ (DA hp.2.2.2.1).2.2.2.2.2.2⟩,fun c hc=> by have:=Ho (h.c c hc);omega,fun x hx=> EQ (DA (h.w x hx)).2.2.2.2.2.2,by have:=h.fl;omega,by have:=h.cl;omega,by have:=h.wl;omega⟩
theorem ChkP.bel {s:IdM} (h:ChkP s):(CQ s.cs).length≤1000000:=by
 have:∀ l:List CirM,(∀ c∈l,Ek c=true)→(CQ l).length≤6* l.length:=by
  intro l
  induction l with
  | nil=> intro _;simp[CQ]
  | cons c t ih=>
   intro hl
   have h1:=Ho (hl c List.mem_cons_self)
   have h2:=ih (fun c hc=> hl c (List.mem_cons_of_mem _ hc))
   unfold CQ at h2 ⊢
   rw[List.flatMap_cons,List.length_append,List.length_map,List.length_cons]
   omega
 have h1:=this s.cs h.c
 have h2:=h.cl
 omega
def BS {α:Type} (l:List α) (i:Nat) (x:α):List α:=l.take i ++ x::l.drop i
def A1 (e:Int):ResM:=⟨e,0,0,tm0⟩
def Bu (s:IdM) (nm:ByteArray):Nat × Bool:=AW (fun x=> BW x.nm nm) s.fs
def B2 (f:FileM) (o:OpM):FileM:=⟨f.nm,f.p,f.v+1,f.p.e,o.u,o.b⟩
def Dc (o:OpM):FileM:=⟨o.nm,(I2 o.u).1,0,0,0,tm0⟩
def Ca (s:IdM) (o:OpM):IdM × ResM:=
 if BE o.nm≠o.u then (s,A1 2) else if (Bu s o.nm).2=true then (s,A1 5) else if s.fs.length=6∨s.ws.length=400 then (s,A1 6)
 else (⟨BS s.fs (Bu s o.nm).1 (B2 (Dc o) o),s.cs,s.ws ++ [BO (B2 (Dc o) o)]⟩,A1 0)
def Bw (s:IdM) (o:OpM):IdM × ResM:=
 if (Bu s o.nm).2=false then (s,A1 4) else match s.fs[(Bu s o.nm).1]? with
 | none=> (s,A1 4)
 | some f=>
  if o.k=3∧Fv f.p o.u (CQ s.cs)=true then (s,⟨0,f.v,f.u,f.b⟩)
  else if o.k=3∨EG f.p o.u=false then (s,A1 280)
  else if f.v=9999∨s.ws.length=400 then (s,A1 6)
  else (⟨s.fs.set (Bu s o.nm).1 (B2 f o),s.cs,s.ws ++ [BO (B2 f o)]⟩,A1 0)
def Co (s:IdM) (p:PmD) (o:OpM):PmD × Int:=
 if o.k=4 then Bj p (CN p o.u o.t o.wr)
 else if o.k=5 then Bj p (DO p o.u o.t)
 else if o.k=6 then (if (Bz s o.g).2=false then (p,4) else if ((s.cs[(Bz s o.g).1]?.map CirM.o).getD 0)≠o.u then (p,211) else Bj p (Cg p o.u o.g))
 else if o.k=7 then Bj p (CO p o.u o.g)
 else (p,0)
def Bg (s:IdM) (o:OpM):IdM × ResM:=
 if (Bu s o.nm).2=false then (s,A1 4) else match s.fs[(Bu s o.nm).1]? with
 | none=> (s,A1 4)
 | some f=> if (Co s f.p o).2≠0 then (s,A1 (Co s f.p o).2) else (⟨s.fs.set (Bu s o.nm).1 ⟨f.nm,(Co s f.p o).1,f.v,f.e,f.u,f.b⟩,s.cs,s.ws⟩,A1 0)
def CR (s:IdM) (o:OpM):IdM × ResM:=
 if o.g<1∨3<o.g then (s,A1 2) else if (Bz s o.g).2=true then (s,A1 5) else (⟨s.fs,BS s.cs (Bz s o.g).1 ⟨o.g,o.u,[]⟩,s.ws⟩,A1 0)
def Dk (g:Int) (f:FileM):FileM:=if f.p.g.any (g==·)=true then ⟨f.nm,(Bj f.p (BN f.p)).1,f.v,f.e,f.u,f.b⟩ else f
def Dd (g:Int):List FileM→Int
 | []=> 0
 | f::t=> if f.p.g.any (g==·)=true∧(Bj f.p (BN f.p)).2≠0 then (Bj f.p (BN f.p)).2 else Dd g t
def BZ (s:IdM) (o:OpM):IdM × ResM:=
 if (Bz s o.g).2=false then (s,A1 4) else match s.cs[(Bz s o.g).1]? with
 | none=> (s,A1 4)
 | some c=>
  if c.o≠o.u then (s,A1 211)
  else if o.k=9∧AX o.t=false then (s,A1 2)
  else if o.k=9∧c.us.any (o.t==·)=true then (s,A1 5)
  else if o.k=9 then (⟨s.fs,s.cs.set (Bz s o.g).1 ⟨c.n,c.o,Cl c.us (BT c.us o.t) o.t⟩,s.ws⟩,A1 0)
  else if c.us.any (o.t==·)=false then (s,A1 4)
  else if Dd o.g s.fs≠0 then (s,A1 (Dd o.g s.fs))
  else (⟨s.fs.map (Dk o.g),s.cs.set (Bz s o.g).1 ⟨c.n,c.o,c.us.eraseIdx (BT c.us o.t)⟩,s.ws⟩,A1 0)
def BJ (s:IdM) (o:OpM):IdM × ResM:=
 if o.k=1 then Ca s o else if o.k=2∨o.k=3 then Bw s o else if o.k=8 then CR s o else if o.k=9∨o.k=10 then BZ s o else Bg s o
def opB (o:OpM):Bool:=(decide (1≤o.k) && (decide (o.k≤10) && AX o.u)) && ((decide (7<o.k) ||decide (0<BE o.nm)) && (decide (2<o.k) ||C5 o.b))
theorem Cd {α:Type} {l:List α} {i:Nat} {x:α} (h:i≤l.length):(BS l i x).length=l.length+1:=by
 unfold BS;rw[List.length_append,List.length_take,List.length_cons,List.length_drop];omega
theorem It {α:Type} {l:List α} {i:Nat} {x:α} (h:i≤l.length) (j:Nat) (hj:j<(BS l i x).length):(BS l i x)[j]=if h1:j<i then l[j]'(by omega) else if h2:j=i then x else l[j - 1]'(by rw[Cd h] at hj;omega):=by
 have hl:(l.take i).length=i:=by rw[List.length_take];omega
 have hlen:=Cd (x:=x) h
 have key:(BS l i x)[j]?=some (if h1:j<i then l[j]'(by omega) else if h2:j=i then x else l[j - 1]'(by rw[Cd h] at hj;omega)):=by
  show(l.take i ++ x::l.drop i)[j]?=_
  by_cases h1:j<i
  ·rw[dif_pos h1,List.getElem?_append_left (by omega),List.getElem?_take,if_pos h1,List.getElem?_eq_getElem]
  ·rw[dif_neg h1,List.getElem?_append_right (by omega),hl]
   by_cases h2:j=i
   ·rw[dif_pos h2,h2,Nat.sub_self];rfl
   ·rw[dif_neg h2,show j - i=(j - 1 - i)+1 by omega,Ac,List.getElem?_drop,show i+(j - 1 - i)=j - 1 by omega,List.getElem?_eq_getElem]
 rw[List.getElem?_eq_getElem hj] at key
 exact Option.some.inj key
theorem KP {sz:Nat} {css:List (List Value)} {i:Nat} {X:List Value} (hl:∀ c∈css,c.length=sz) (hi:i≤css.length):css.flatten.take (i* sz) ++ X ++ css.flatten.drop (i* sz)=(BS css i X).flatten:=by
 have hp:(css.take i).flatten.length=i* sz:=by
  rw[BA (fun x hx=> hl x (List.mem_of_mem_take hx)),List.length_take,Nat.min_eq_left hi]
 have e:css.flatten=(css.take i).flatten ++ (css.drop i).flatten:=by rw[←List.flatten_append,List.take_append_drop]
 rw[e,←hp,List.take_left,List.drop_left]
 unfold BS
 rw[List.flatten_append,List.flatten_cons,List.append_assoc]
theorem OwR.insd {α:Type} {C C':World→List Value→α→Prop} {sz B:Nat} {ty:TypeId} {w':World} {v':Value} {l:List α} {css:List (List Value)} {i:Nat} {X:List Value} {x:α} {P:List Value→α→Prop}
  (h2:css.length=l.length) (h3:∀ j (h1:j<css.length) (h2:j<l.length),css[j].length=sz∧P css[j] l[j]) (hi:i≤l.length) (hX:X.length=sz) (hx:P X x) (hC:∀ cs a,P cs a→C' w' cs a)
  (hown:w'.ownsRow B ty sz v' (l.length+1) (css.flatten.take (i* sz) ++ X ++ css.flatten.drop (i* sz))):OwR C' sz ty B w' v' (BS l i x):=by
 have h5:=B1 h2 h3
 refine⟨BS css i X,by rw[Cd hi,←KP h5 (by omega)];exact hown,by rw[Cd hi,Cd (by omega),h2],fun j a b=> ?_⟩
 rw[It (by omega) j a,It hi j b]
 by_cases h1:j<i
 ·rw[dif_pos h1,dif_pos h1]
  have:=h3 j (by omega) (by omega)
  exact⟨this.1,hC _ _ this.2⟩
 ·rw[dif_neg h1,dif_neg h1]
  by_cases h6:j=i
  ·rw[dif_pos h6,dif_pos h6]
   exact⟨hX,hC _ _ hx⟩
  ·rw[dif_neg h6,dif_neg h6]
   rw[Cd hi] at b
   have:=h3 (j - 1) (by omega) (by omega)
   exact⟨this.1,hC _ _ this.2⟩
section
variable {w0 w w':World} {m0 xs:List Nat} {bp:Nat} {bt:TypeId} {cells cells':List Value} {vf vc vw vf' vc' vw':Value} {fs fs':List FileM} {cv cv':List CirV} {ws ws':List WrM} {ex:List (List Value × Tm)}
theorem JE {α:Type} {C:World→List Value→α→Prop} {sz:Nat} {css:List (List Value)} {l:List α} (h2:css.length=l.length) (h3:∀ j (h1:j<css.length) (h2:j<l.length),css[j].length=sz∧C w css[j] l[j]) (hone:∀ cs a,C w cs a→∀ u∈cs,u.oneCell'=true):∀ u∈css.flatten,u.oneCell'=true:=fun u hu=> by
 obtain⟨cs,hcs,hu⟩:=List.mem_flatten.1 hu
 obtain⟨j,hj,rfl⟩:=List.mem_iff_getElem.1 hcs
 exact hone _ _ (h3 j hj (by omega)).2 u hu
theorem OwnX.insF {vb i:Nat} {X:List Value} {f:FileM} (h:OwnX w0 m0 xs w bp bt cells vf vc vw fs cv ws ex) (hb:Blk w vb 45 X) (hf:FlC (Fz xs (msL bp vf vc vw cv) w) w X f) (hv:∀ k,vf.ownBlock=some k→k≠vb) (hn:fs.length≤1000000) (hi:i≤fs.length):
  Calls Tryz.prog 93 #[vf,.int .i64 i,.slice (some ⟨vb,0,none⟩) 1 1] w (fun e w'=> ∃ ao c,e=.returned (.slice ao (fs.length+1) c)∧OwnX w0 m0 xs w' bp bt cells (.slice ao (fs.length+1) c) vc vw (BS fs i f) cv ws ex∧Ch (fun k=> vf.ownBlock=some k) w w'):=by
 obtain⟨css,h1,h2,h3⟩:=h.rf
 have h5:=B1 h2 h3
 have h6:∀ u∈css.flatten,u.oneCell'=true:=JE h2 h3 (fun _ _ h=> h.one)
 have hcl:css.flatten.length=fs.length* 14:=by rw[BA h5,h2]
 have key:Calls Tryz.prog 93 #[vf,.int .i64 i,.slice (some ⟨vb,0,none⟩) 1 1] w (GT 0 45 14 vf (fs.length+1) (css.flatten.take (i* 14) ++ X ++ css.flatten.drop (i* 14)) w):=by
  by_cases hin:i<fs.length
  ·exact In 0 vb i X css.flatten fs.length vf w h1 (Nat.zero_le _) hb hf.len hf.one h6 hv hn hin
  ·obtain rfl:i=fs.length:=by omega
   have e:css.flatten.take (fs.length* 14) ++ X ++ css.flatten.drop (fs.length* 14)=css.flatten ++ X:=by rw[←hcl,List.take_length,List.drop_length,List.append_nil]
   rw[e]
   exact Im 0 vb X css.flatten fs.length vf w h1 (Nat.zero_le _) hb hf.len hf.one hn
 refine key.mono ?_
 rintro e w' ⟨ao,c,rfl,hown,hc,hob⟩
 refine⟨ao,c,rfl,h.newF hc hob (fun hk=> ?_),hc⟩
 exact OwR.insd (C:=FlC (Fz xs (msL bp vf vc vw cv) w)) h2 h3 hi hf.len hf hk hown
theorem OwnX.insC {vb i:Nat} {X:List Value} {c:CirV} (h:OwnX w0 m0 xs w bp bt cells vf vc vw fs cv ws ex) (hb:Blk w vb 49 X) (hf:CvC (Fz xs (msL bp vf vc vw cv) w) w X c) (hu:c.ub=[]) (hv:∀ k,vc.ownBlock=some k→k≠vb) (hn:cv.length≤1000000) (hi:i≤cv.length):
  Calls Tryz.prog 95 #[vc,.int .i64 i,.slice (some ⟨vb,0,none⟩) 1 1] w (fun e w'=> ∃ ao q,e=.returned (.slice ao (cv.length+1) q)∧OwnX w0 m0 xs w' bp bt cells vf (.slice ao (cv.length+1) q) vw fs (BS cv i c) ws ex∧Ch (fun k=> vc.ownBlock=some k) w w'):=by
 obtain⟨css,h1,h2,h3⟩:=h.rc
 have h5:=B1 h2 h3
 have h6:∀ u∈css.flatten,u.oneCell'=true:=JE h2 h3 (fun _ _ h=> h.one)
 have hcl:css.flatten.length=cv.length* 3:=by rw[BA h5,h2]
 have hX:X.length=3:=hf.cic.len
 have key:Calls Tryz.prog 95 #[vc,.int .i64 i,.slice (some ⟨vb,0,none⟩) 1 1] w (GT 0 49 3 vc (cv.length+1) (css.flatten.take (i* 3) ++ X ++ css.flatten.drop (i* 3)) w):=by
  by_cases hin:i<cv.length
  ·exact Ip 0 vb i X css.flatten cv.length vc w h1 (Nat.zero_le _) hb hX hf.one h6 hv hn hin
  ·obtain rfl:i=cv.length:=by omega
   have e:css.flatten.take (cv.length* 3) ++ X ++ css.flatten.drop (cv.length* 3)=css.flatten ++ X:=by rw[←hcl,List.take_length,List.drop_length,List.append_nil]
   rw[e]
   exact Io 0 vb X css.flatten cv.length vc w h1 (Nat.zero_le _) hb hX hf.one hn
 refine key.mono ?_
 rintro e w' ⟨ao,q,rfl,hown,hc,hob⟩
 have hub:ubs (BS cv i c)=ubs cv:=by
  unfold ubs BS
  rw[List.flatMap_append,List.flatMap_cons,hu,List.nil_append,←List.flatMap_append,List.take_append_drop]
 refine⟨ao,q,rfl,h.newC hc hob hub (fun hk=> ?_),hc⟩
 refine OwR.insd (C:=CvC (Fz xs (msL bp vf vc vw cv) w)) (P:=fun cs a=> (a∈cv∨a=c)∧CvC (Fz xs (msL bp vf vc vw cv) w) w cs a) h2 (fun j a b=> ⟨(h3 j a b).1,.inl (List.getElem_mem b),(h3 j a b).2⟩) hi hX ⟨.inr rfl,hf⟩ (fun cs a ha=> ?_) hown
 rcases ha.1 with hm|rfl
 ·exact hk cs a hm ha.2
 ·refine ha.2.keep' hc (fun k hk'=> by rw[hu] at hk';cases hk') (fun k hk' e=> hk'.1.2 (FS k (AF.2 e))) (frz hc.size ?_)
  intro k hk'
  have e2:msL bp vf (.slice ao (cv.length+1) q) vw (BS cv i a)=msL bp vf (.slice ao (cv.length+1) q) vw cv:=by unfold msL;rw[hub]
  rw[e2] at hk'
  exact msL_c (Ik hob FS) (fun k hk=> .inl hk) k hk'
theorem OwnX.pm (h:OwnX w0 m0 xs w bp bt cells vf vc vw fs cv ws ex) (hb:Below w.heap.size w w') {p:PmD} {vr vq vg:Value} (hp:PmS w' p vr vq vg) (ha:BD w.heap.size vr vq vg):PmF (Fz xs (msL bp vf vc vw cv) w') w' p vr vq vg:=by
 have key:∀ (v:Value) (l:List Int),Sl w' v (ofK .i64 l)→Abv w.heap.size v→SlI (Fz xs (msL bp vf vc vw cv) w') w' v l:=fun v l hs hv=> by
  have h1:SlI (w.heap.size≤·) w' v l:=⟨hs,fun k _ hk=> hv k hk⟩
  have h2:=h1.old'
  exact⟨h2.1,fun k h0 hk=> h.new hb k (h2.2 k h0 hk)⟩
 exact⟨key _ _ hp.1 ha.1,key _ _ hp.2.1 ha.2.1,key _ _ hp.2.2 ha.2.2⟩
end
def G5 (w0:World) (m0 xs:List Nat) (bp:Nat) (bt:TypeId) (ex:List (List Value × Tm)) (sr:IdM × ResM) (e:Ending) (w':World):Prop:=
 ∃ rtc vf vc vw cv,e=.returned (.agg (AC sr.2.e sr.2.v sr.2.u rtc).toArray)∧cv.map CirV.m=sr.1.cs∧(∀ c∈cv,c.own=true)∧OwnX w0 m0 xs w' bp bt [vf,vc,vw] vf vc vw sr.1.fs cv sr.1.ws ((rtc,sr.2.b)::ex)
theorem SlI.empty {F:Nat→Prop} {w W:World} {v:Value} (h:Sl w v (ofK .i64 ([]:List Int))):SlI F W v []:=by
 refine⟨?_,fun k h0=> absurd h0 (by simp)⟩
 rcases h with h|⟨ad,c,k1,k2,k3,k4⟩
 ·exact .inl h
 ·exact .inr ⟨ad,c,k1,k2,k3,fun j u hu=> by simp[ofK] at hu⟩
theorem bsI_le {c:Nat→Int}:∀ (n lo hi:Nat),hi - lo≤n→lo≤hi→bsI c lo hi≤hi:=by
 intro n
 induction n with
 | zero=> intro lo hi h1 h2;rw[Ec (by omega)];exact h2
 | succ n ih=>
  intro lo hi h1 h2
  by_cases hl:lo<hi
  ·by_cases hc:c ((lo+hi) / 2)<0
   ·rw[Hl hl hc];exact ih _ _ (by omega) (by omega)
   ·rw[EM hl hc];have:=ih lo ((lo+hi) / 2) (by omega) (by omega);omega
  ·rw[Ec hl];exact h2
theorem Hp {α:Type} (c:α→Int) (l:List α):(AW c l).1≤l.length:=bsI_le _ 0 l.length (Ah _) (Nat.zero_le _)
theorem Iu {α:Type} {l:List α} {i:Nat} {x y:α} (h:i≤l.length):(BS l i x).set i y=BS l i y:=by
 have hl:(l.take i).length=i:=by rw[List.length_take];omega
 unfold BS
 rw[List.set_append_right _ _ (by omega),hl,Nat.sub_self];rfl
theorem LB {p:OpM} (h:opB p=true):AX p.u=true:=by
 unfold opB at h
 simp only[Bool.and_eq_true] at h
 exact h.1.2.2
theorem JF {p:OpM} (h:opB p=true) (hk:p.k≤2):Fd p.b=true∧C5 p.b=true:=by
 unfold opB at h
 simp only[Bool.and_eq_true,Bool.or_eq_true,decide_eq_true_eq] at h
 have:C5 p.b=true:=by rcases h.2.2 with h1|h1 <;> (first|omega|exact h1)
 exact⟨EQ this,this⟩
theorem DQ (w:World) {ops:Array Oper} {rest:List Oper} {o:Oper} {a:Act} {Q:Exit→Act→World→Prop} (hgd:o.guard=none) (x:Operand) (ho:o.op=.buildSlice 22 1 #[(0,x)]) (cs:List Value) (hcs:cs.length=14)
  (hx:a.eval x=.agg cs.toArray) (h:∀ w',Blk w' w.heap.size 45 cs→Below w.heap.size w w'→w'.heap.size=w.heap.size+1→wpList Tryz.prog ops Q rest (a.put o.dst (.slice (some ⟨w.heap.size,0,none⟩) 1 1)) w'):wpList Tryz.prog ops Q (o::rest) a w:=
 Bk w hgd 22 x ho Tryz.underlying22 (fun w=> by kernel_rfl) Tryz.zeroFl14 (by decide) (by decide) cs hcs hx h
theorem Tryz.buildfil (nm:ByteArray) (u e:Int) (ra:Option Addr) (rl rc:Nat) (qa:Option Addr) (ql qc:Nat) (ga:Option Addr) (gl gc:Nat):∀ w,(Instr.build 45 #[(0,.string nm),(1,.agg (pmC u e (.slice ra rl rc) (.slice qa ql qc) (.slice ga gl gc)).toArray)]).run Tryz.prog w=.ok (.agg (flC nm u e (.slice ra rl rc) (.slice qa ql qc) (.slice ga gl gc) 0 0 0 (tmC 0 0 0 ⟨#[]⟩ (.slice none 0 0))).toArray) w:=fun w=> by kernel_rfl
theorem Fi {ops:Array Oper} {rest:List Oper} {op:Oper} {a:Act} {w:World} {Q:Exit→Act→World→Prop} (hgd:op.guard=none) (x0 x1:Operand) (ho:op.op=.build 45 #[(0,x0),(1,x1)])
  (nm:ByteArray) (u e:Int) (ra:Option Addr) (rl rc:Nat) (qa:Option Addr) (ql qc:Nat) (ga:Option Addr) (gl gc:Nat) (h0:a.eval x0=.string nm) (h1:a.eval x1=.agg (pmC u e (.slice ra rl rc) (.slice qa ql qc) (.slice ga gl gc)).toArray)
  (h:wpList Tryz.prog ops Q rest (a.put op.dst (.agg (flC nm u e (.slice ra rl rc) (.slice qa ql qc) (.slice ga gl gc) 0 0 0 (tmC 0 0 0 ⟨#[]⟩ (.slice none 0 0))).toArray)) w):wpList Tryz.prog ops Q (op::rest) a w:=by
 refine wpList_plain hgd fun K hK=> ?_
 have hrun:(execOp a.eval op).run Tryz.prog w=.ok (.value (.agg (flC nm u e (.slice ra rl rc) (.slice qa ql qc) (.slice ga gl gc) 0 0 0 (tmC 0 0 0 ⟨#[]⟩ (.slice none 0 0))).toArray)) w:=by
  unfold execOp
  simp only[ho]
  rw[show((#[((0:Nat),x0),(1,x1)]:Array (Nat × Operand)).map fun (i,x)=> (i,a.eval x))=#[(0,.string nm),(1,.agg (pmC u e (.slice ra rl rc) (.slice qa ql qc) (.slice ga gl gc)).toArray)] by simp[h0,h1]]
  simp[Tryz.buildfil,Result.andThen]
 unfold Oper.wp
 rw[hrun]
 exact hK _ _ h
theorem Jk (p:OpM) (tco:List Value) {w0 w:World} {m0 xs:List Nat} {bp:Nat} {vf vc vw:Value} {fs:List FileM} {cv:List CirV} {ws:List WrM} {ex:List (List Value × Tm)}
  (h:OwnX w0 m0 xs w bp 97 [vf,vc,vw] vf vc vw fs cv ws ex) (hb:(tco,p.b)∈ex) (hk:ChkP (⟨fs,cv.map CirV.m,ws⟩:IdM)) (ho:opB p=true) (hall:∀ c∈cv,c.own=true) (hk1:p.k≤2):
  Calls Tryz.prog 76 #[.pointer (some ⟨bp,0,none⟩),.agg (opC p tco).toArray] w (G5 w0 m0 xs bp 97 ex (Ca (⟨fs,cv.map CirV.m,ws⟩:IdM) p)):=by
 obtain⟨af,cf,rfl,hf1,hf2⟩:=h.rf.shape
 obtain⟨ac,cc,rfl,hc1,hc2⟩:=h.rc.shape
 obtain⟨aw,cw,rfl,hw1,hw2⟩:=h.rw.shape
 obtain⟨fn,hfn⟩:∃ n,fs.length=n:=⟨_,rfl⟩
 obtain⟨cn,hcn⟩:∃ n,cv.length=n:=⟨_,rfl⟩
 obtain⟨wn,hwn⟩:∃ n,ws.length=n:=⟨_,rfl⟩
 have HN:=Ag (Ai hfn (Ai hcn hwn))
 have hfl:fn≤6:=by have:=hk.fl;simp only at this;omega
 have hcl:cn≤3:=by have:=hk.cl;simp only[List.length_map] at this;omega
 have hwl:wn≤400:=by have:=hk.wl;simp only at this;omega
 rw[hfn,hcn,hwn] at h
 have HOWN:=Ag h
 have HB:=Ag hb
 have HK:=Ag hk
 have HO:=Ag ho
 have HALL:=Ag hall
 have HTL:=Ag (h.ex _ hb).len
 obtain⟨SR,hSR⟩:∃ r,Ca (⟨fs,cv.map CirV.m,ws⟩:IdM) p=r:=⟨_,rfl⟩
 have HSR:=Ag hSR
 rw[hSR]
 have HK1:=Ag hk1
 clear hk1
 clear h hb hk ho hall hfn hcn hwn hSR hf1 hf2 hc1 hc2 hw1 hw2
 obtain⟨⟨ix,th⟩,hsk⟩:∃ r,Bu (⟨fs,cv.map CirV.m,ws⟩:IdM) p.nm=r:=⟨_,rfl⟩
 have HSK:=Ag hsk
 have HF:=Ag (fun (W:World) (hW:IdC (fun _=> True) W [(.slice af fn cf),(.slice ac cn cc),(.slice aw wn cw)] (⟨fs,cv.map CirV.m,ws⟩:IdM))=> show Calls Tryz.prog 25 #[.agg ([(.slice af fn cf),(.slice ac cn cc),(.slice aw wn cw)]:List Value).toArray,.string p.nm] W (fun e w'=> e=.returned (.tuple #[.int .i64 (ix:Nat),.bool th])∧Below W.heap.size W w') from by
  have h:=EN (⟨fs,cv.map CirV.m,ws⟩:IdM) p.nm [(.slice af fn cf),(.slice ac cn cc),(.slice aw wn cw)] _ W hW (by have:=HK.out.fl;simp only at this ⊢;omega)
  rw[show AW (fun x=> BW x.nm p.nm) (⟨fs,cv.map CirV.m,ws⟩:IdM).fs=(ix,th) from hsk] at h
  exact h)
 clear hsk
 obtain⟨nf,hnf⟩:∃ n,BE p.nm=n:=⟨_,rfl⟩
 have HNF:=Ag hnf
 have HND:=Ag (fun (W:World)=> show Calls Tryz.prog 36 #[.string p.nm] W (fun e w'=> e=.returned (.int .i64 nf)∧Below W.heap.size W w') from by have h:=Eb p.nm W;rw[hnf] at h;exact h)
 clear hnf
 go_enter Tryz.func76,Tryz.ntmps76
 go_upto_region 1 with(first
  | ((with_reducible refine Au w rfl 31 (.tmp 1) rfl (opC p tco) rfl ?_);intro a1 hb hbel hsz;have H1:=hJ2 (HOWN.out.rsv hbel (Ah _) hb.lt) hb;clear hb hbel hsz)
  | ((with_reducible refine Av a1 rfl 37 rfl (AC 0 0 0 (tmC 0 0 0 ⟨#[]⟩ (.slice none 0 0))) Tryz.zeroRs ?_);intro a2 hb hbel hsz;have H2:=hJ3 (H1.out.1.rsv hbel (Ah _) hb.lt) (H1.out.2.below hbel H1.out.2.lt) hb;have HSZ:=Ag (show w0.heap.size≤a1.heap.size from H1.out.1.ch.size);clear hb hbel hsz))
 try simp only[Al,Ad,Ae,Af]
 have HG:=hJ2 H1.out.2.lt H2.out.2.2.lt
 have HIX:=Ag (show ix≤fs.length from by have h:=Hp (fun x:FileM=> BW x.nm p.nm) fs;rw[show AW (fun x:FileM=> BW x.nm p.nm) fs=(ix,th) from HSK.out] at h;exact h)
 have hixf:ix≤fn:=by have:=HIX.out;have:=HN.out.1;omega
 have hixz:(ix:Int)<(fn:Int)+1:=by omega
 have hix0:(0:Int)≤(ix:Int):=by omega
 go_wp2_with fail
 refine Az (fun W=> W.rangeAt bp 0 [(.slice af fn cf),(.slice ac cn cc),(.slice aw wn cw)]∧W.cell? ⟨w.heap.size,2,none⟩=some (.string p.nm)) [0,1,2,3,4,5] 6 (by kernel_rfl) rfl (by kernel_rfl) (by kernel_rfl) ⟨As H2.out.1.bl,H2.out.2.1.cell 2⟩ ?_
 iterate 6(refine' AK.run ?_ ?_ ?_ ?_;rotate_left 2;(simp only[Aa,Ab,Ac];rfl);rfl;(rintro w' ⟨k0,k1⟩;first|exact AB rfl rfl k0 Tryz.underlying26 rfl (At Tryz.infoId rfl)|(go_simp;with_reducible rfl));simp only[Al,Ad,Ae,Af])
 have sm:=(Sm.refl a2).drew
 have HV2:=hJ3 (H2.out.1.below (sm.below _)) (H2.out.2.1.below (sm.below _) H2.out.2.1.lt) (H2.out.2.2.below (sm.below _) H2.out.2.2.lt)
 clear sm
 generalize a2.drew=v1 at HV2 ⊢
 refine' Ar 6 (by kernel_rfl) ?_ ?_;rotate_left;(simp only[Aa,Ab,Ac];rfl)
 try simp only[Al,Ad,Ae,Af]
 go_wp2_with fail
 refine Calls.mono (HF.out v1 HV2.out.1.idc) ?_
 rintro e' u3 ⟨rfl,hb⟩
 have K4:=hJ3 (HV2.out.1.below hb) (HV2.out.2.1.below hb HV2.out.2.1.lt) (HV2.out.2.2.below hb HV2.out.2.2.lt)
 clear hb
 go_wp2_with fail
 refine QK.normal ⟨⟨As K4.out.1.bl,K4.out.2.1.cell 2⟩,?_⟩
 refine Bi (fuel:=0) (by kernel_rfl) AG ⟨As K4.out.1.bl,K4.out.2.1.cell 2⟩ [7,8,9,10,11] _ _ (by kernel_rfl) ?_
 try simp only[Al]
 iterate 5(refine' AK.run ?_ ?_ ?_ ?_;rotate_left 2;(simp only[Aa,Ab,Ac];rfl);rfl;(rintro w' ⟨k0,k1⟩;first|exact AB rfl rfl k0 Tryz.underlying26 rfl (At Tryz.infoId rfl)|(go_simp;with_reducible rfl));simp only[Al,Ad,Ae,Af])
 refine wpAnyH_done (by kernel_rfl) ?_ _
 refine NoPanic.normal ?_
 by_cases hnu:nf≠p.u
 ·have hne:(nf==p.u)=false:=by simpa using hnu
  have hne2:(nf !=p.u)=true:=by simpa using hnu
  go_wp2_with fail
  refine Az (fun W=> W.cell? ⟨w.heap.size,2,none⟩=some (.string p.nm)∧W.cell? ⟨w.heap.size,1,none⟩=some (.int .i64 p.u)) [0,1,3,4] 3 (by kernel_rfl) rfl (by kernel_rfl) (by kernel_rfl) ⟨K4.out.2.1.cell 2,K4.out.2.1.cell 1⟩ ?_
  iterate 4(refine' AK.run ?_ ?_ ?_ ?_;rotate_left 2;(simp only[Aa,Ab,Ac];rfl);rfl;(rintro w' ⟨k0,k1⟩;go_simp;with_reducible rfl);simp only[Al,Ad,Ae,Af])
  have sm:=(Sm.refl u3).drew
  have HV6:=hJ3 (K4.out.1.below (sm.below _)) (K4.out.2.1.below (sm.below _) K4.out.2.1.lt) (K4.out.2.2.below (sm.below _) K4.out.2.2.lt)
  clear sm
  generalize u3.drew=v5 at HV6 ⊢
  refine' Ar 2 (by kernel_rfl) ?_ ?_;rotate_left;(simp only[Aa,Ab,Ac];rfl)
  try simp only[Al,Ad,Ae,Af]
  go_wp2_with fail
  refine Calls.mono (HND.out v5) ?_
  rintro e' u7 ⟨rfl,hb⟩
  have K8:=hJ3 (HV6.out.1.below hb) (HV6.out.2.1.below hb HV6.out.2.1.lt) (HV6.out.2.2.below hb HV6.out.2.2.lt)
  clear hb
  go_wp2_with fail
  refine QK.normal ⟨⟨K8.out.2.1.cell 2,K8.out.2.1.cell 1⟩,?_⟩
  refine' Ar 5 (by kernel_rfl) ?_ ?_;rotate_left;(simp only[Aa,Ab,Ac];rfl)
  try simp only[Al,Ad,Ae,Af]
  go_wp2_with fail
  refine QK.normal ⟨⟨K8.out.2.1.cell 2,K8.out.2.1.cell 1⟩,?_⟩
  refine' Ar 6 (by kernel_rfl) ?_ ?_;rotate_left;(simp only[Aa,Ab,Ac];rfl)
  try simp only[Al,Ad,Ae,Af]
  go_wp2_with fail
  refine QK.normal ⟨⟨K8.out.2.1.cell 2,K8.out.2.1.cell 1⟩,?_⟩
  refine wpAnyH_done (by kernel_rfl) ?_ _
  refine NoPanic.normal ?_
  have HX:=Ag (show SR=((⟨fs,cv.map CirV.m,ws⟩:IdM),A1 2) from by rw[←HSR.out];unfold Ca;rw[if_pos (by rw[HNF.out];exact hnu)])
  go_wp2_with fail
  refine(Bc (2) u7).mono ?_
  rintro e' u9 ⟨rfl,hb⟩
  have K10:=hJ3 (K8.out.1.below hb) (K8.out.2.1.below hb K8.out.2.1.lt) (K8.out.2.2.below hb K8.out.2.2.lt)
  clear hb
  go_wp2_with (first
  | ((with_reducible refine Ao u9 rfl 37 (.tmp 4) (.tmp 26) rfl (a1.heap.size) 37 (AC 0 0 0 (tmC 0 0 0 ⟨#[]⟩ (.slice none 0 0))) (AC (2) 0 0 (tmC 0 0 0 ⟨#[]⟩ (.slice none 0 0))) K10.out.2.2 rfl rfl rfl (Ax rfl) (AM (AR _ _ _ _ _ _ _)) ?_);intro z9 hb hc hs;have HZ:=Ag (Ai (K10.out.1.setX (show a1.heap.size∈_ by simp) HSZ.out hc) hb);clear hb hc hs))
  refine bodyPost_ret (AA Tryz.results76 _ _ (a1.heap.size) _ _ rfl HZ.out.2 _ Tryz.underlying37 rfl (Ax rfl)) rfl ?_
  rw[HX.out]
  exact⟨_,_,_,_,cv,rfl,rfl,HALL.out,((HZ.out.1).keepoff (fun k hk=> by simp[hk])).exadd (Bm _ _)⟩
 ·have hne:(nf==p.u)=true:=by simpa using hnu
  have hne2:(nf !=p.u)=false:=by simpa using hnu
  go_wp2_with fail
  refine Az (fun W=> W.cell? ⟨w.heap.size,2,none⟩=some (.string p.nm)∧W.cell? ⟨w.heap.size,1,none⟩=some (.int .i64 p.u)) [0,1,3,4] 3 (by kernel_rfl) rfl (by kernel_rfl) (by kernel_rfl) ⟨K4.out.2.1.cell 2,K4.out.2.1.cell 1⟩ ?_
  iterate 4(refine' AK.run ?_ ?_ ?_ ?_;rotate_left 2;(simp only[Aa,Ab,Ac];rfl);rfl;(rintro w' ⟨k0,k1⟩;go_simp;with_reducible rfl);simp only[Al,Ad,Ae,Af])
  have sm:=(Sm.refl u3).drew
  have HV12:=hJ3 (K4.out.1.below (sm.below _)) (K4.out.2.1.below (sm.below _) K4.out.2.1.lt) (K4.out.2.2.below (sm.below _) K4.out.2.2.lt)
  clear sm
  generalize u3.drew=v11 at HV12 ⊢
  refine' Ar 2 (by kernel_rfl) ?_ ?_;rotate_left;(simp only[Aa,Ab,Ac];rfl)
  try simp only[Al,Ad,Ae,Af]
  go_wp2_with fail
  refine Calls.mono (HND.out v11) ?_
  rintro e' u13 ⟨rfl,hb⟩
  have K14:=hJ3 (HV12.out.1.below hb) (HV12.out.2.1.below hb HV12.out.2.1.lt) (HV12.out.2.2.below hb HV12.out.2.2.lt)
  clear hb
  go_wp2_with fail
  refine QK.normal ⟨⟨K14.out.2.1.cell 2,K14.out.2.1.cell 1⟩,?_⟩
  refine' Ar 5 (by kernel_rfl) ?_ ?_;rotate_left;(simp only[Aa,Ab,Ac];rfl)
  try simp only[Al,Ad,Ae,Af]
  go_wp2_with fail
  refine QK.normal ⟨⟨K14.out.2.1.cell 2,K14.out.2.1.cell 1⟩,?_⟩
  refine' Ar 6 (by kernel_rfl) ?_ ?_;rotate_left;(simp only[Aa,Ab,Ac];rfl)
  try simp only[Al,Ad,Ae,Af]
  go_wp2_with fail
  refine QK.normal ⟨⟨K14.out.2.1.cell 2,K14.out.2.1.cell 1⟩,?_⟩
  refine wpAnyH_done (by kernel_rfl) ?_ _
  refine NoPanic.normal ?_
  cases th
  ·skip
   have c0:=K14.out.1.bl.cell 0
   have c2:=K14.out.1.bl.cell 2
   simp only[Ab,Ac] at c0 c2
   by_cases h6:fn=6
   ·have h6e:((fn:Int)==6)=true:=by simp;omega
    have HX:=Ag (show SR=((⟨fs,cv.map CirV.m,ws⟩:IdM),A1 6) from by rw[←HSR.out];unfold Ca;rw[if_neg (by rw[HNF.out];simpa using hnu),HSK.out,if_neg (by simp),if_pos (by rw[HN.out.1,HN.out.2.2];omega)])
    go_wp2_with fail
    refine(Bc (6) u13).mono ?_
    rintro e' u15 ⟨rfl,hb⟩
    have K16:=hJ3 (K14.out.1.below hb) (K14.out.2.1.below hb K14.out.2.1.lt) (K14.out.2.2.below hb K14.out.2.2.lt)
    clear hb
    go_wp2_with (first
  | ((with_reducible refine Ao u15 rfl 37 (.tmp 4) (.tmp 47) rfl (a1.heap.size) 37 (AC 0 0 0 (tmC 0 0 0 ⟨#[]⟩ (.slice none 0 0))) (AC (6) 0 0 (tmC 0 0 0 ⟨#[]⟩ (.slice none 0 0))) K16.out.2.2 rfl rfl rfl (Ax rfl) (AM (AR _ _ _ _ _ _ _)) ?_);intro z9 hb hc hs;have HZ:=Ag (Ai (K16.out.1.setX (show a1.heap.size∈_ by simp) HSZ.out hc) hb);clear hb hc hs))
    refine bodyPost_ret (AA Tryz.results76 _ _ (a1.heap.size) _ _ rfl HZ.out.2 _ Tryz.underlying37 rfl (Ax rfl)) rfl ?_
    rw[HX.out]
    exact⟨_,_,_,_,cv,rfl,rfl,HALL.out,((HZ.out.1).keepoff (fun k hk=> by simp[hk])).exadd (Bm _ _)⟩
   ·have h6e:((fn:Int)==6)=false:=by simp;omega
    by_cases h4:wn=400
    ·have h4e:((wn:Int)==400)=true:=by simp;omega
     have HX:=Ag (show SR=((⟨fs,cv.map CirV.m,ws⟩:IdM),A1 6) from by rw[←HSR.out];unfold Ca;rw[if_neg (by rw[HNF.out];simpa using hnu),HSK.out,if_neg (by simp),if_pos (by rw[HN.out.1,HN.out.2.2];omega)])
     go_wp2_with fail
     refine(Bc (6) u13).mono ?_
     rintro e' u17 ⟨rfl,hb⟩
     have K18:=hJ3 (K14.out.1.below hb) (K14.out.2.1.below hb K14.out.2.1.lt) (K14.out.2.2.below hb K14.out.2.2.lt)
     clear hb
     go_wp2_with (first
  | ((with_reducible refine Ao u17 rfl 37 (.tmp 4) (.tmp 47) rfl (a1.heap.size) 37 (AC 0 0 0 (tmC 0 0 0 ⟨#[]⟩ (.slice none 0 0))) (AC (6) 0 0 (tmC 0 0 0 ⟨#[]⟩ (.slice none 0 0))) K18.out.2.2 rfl rfl rfl (Ax rfl) (AM (AR _ _ _ _ _ _ _)) ?_);intro z9 hb hc hs;have HZ:=Ag (Ai (K18.out.1.setX (show a1.heap.size∈_ by simp) HSZ.out hc) hb);clear hb hc hs))
     refine bodyPost_ret (AA Tryz.results76 _ _ (a1.heap.size) _ _ rfl HZ.out.2 _ Tryz.underlying37 rfl (Ax rfl)) rfl ?_
     rw[HX.out]
     exact⟨_,_,_,_,cv,rfl,rfl,HALL.out,((HZ.out.1).keepoff (fun k hk=> by simp[hk])).exadd (Bm _ _)⟩
    ·have h4e:((wn:Int)==400)=false:=by simp;omega
     have c1:=K14.out.2.1.cell 1
     simp only[opC,Ab,Ac] at c1
     go_wp2_with fail
     clear c0 c1 c2
     refine(Lt p.u u13).mono ?_
     rintro e' b1 ⟨vr,vq,vg,rfl,hps,hb,-⟩
     have hnr:I2 p.u=(⟨p.u,1,[],[],[]⟩,0):=by unfold I2;rw[if_pos (LB HO.out)]
     rw[hnr] at hps ⊢
     obtain⟨ra,rc,rfl,-,-,-⟩:=hps.1.nums
     obtain⟨qa,qc,rfl,-,-,-⟩:=hps.2.1.nums
     obtain⟨ga,gc,rfl,-,-,-⟩:=hps.2.2.nums
     have HNR:=Ag hnr
     have HPS:=Ag hps
     have HB1:=hJ3 (K14.out.1.below hb) (K14.out.2.1.below hb K14.out.2.1.lt) (K14.out.2.2.below hb K14.out.2.2.lt)
     clear hb hps hnr
     go_upto_region 11 with(first
  | ((with_reducible refine Av b1 rfl 43 rfl (pmC 0 0 (.slice none 0 0) (.slice none 0 0) (.slice none 0 0)) Tryz.zeroPm ?_);intro b2 hb hbel hsz;have HB2:=hJ4 (HB1.out.1.rsv hbel (Ah _) hb.lt) (HB1.out.2.1.below hbel HB1.out.2.1.lt) (HB1.out.2.2.below hbel HB1.out.2.2.lt) hb;clear hb hbel hsz)
  | ((with_reducible refine Ao b2 rfl 43 (.tmp 7) (.tmp 52) rfl (b1.heap.size) 43 (pmC 0 0 (.slice none 0 0) (.slice none 0 0) (.slice none 0 0)) (pmC p.u 1 (.slice ra 0 rc) (.slice qa 0 qc) (.slice ga 0 gc)) HB2.out.2.2.2 rfl rfl rfl (Ay _ _ _ _ _) (Bt rfl rfl rfl) ?_);intro b3 hb hc hs;have HB3:=hJ4 (HB2.out.1.setX List.mem_cons_self (Aj HB1.out.1.ch.size (Ah _)) hc) (HB2.out.2.1.keep hc (fun e=> absurd (show w.heap.size=b1.heap.size from e) (by have h1:=HB1.out.2.2.lt;have:=HG.out;omega))) (HB2.out.2.2.1.keep hc (fun e=> absurd (show a1.heap.size=b1.heap.size from e) (by have h1:=HB1.out.2.2.lt;have:=HG.out;omega))) hb;clear hb hc hs))
     try simp only[Al,Ad,Ae,Af]
     go_wp2_with fail
     refine A2 (fun W=> W.cell? ⟨bp,0,none⟩=some (.slice af fn cf)∧W.cell? ⟨w.heap.size,2,none⟩=some (.string p.nm)∧W.rangeAt b1.heap.size 0 (pmC p.u 1 (.slice ra 0 rc) (.slice qa 0 qc) (.slice ga 0 gc))) 16 [0,1,2,3,4,5,6,7,8,9] 7 (by kernel_rfl) rfl (by kernel_rfl) (by kernel_rfl) ⟨HB3.out.1.bl.cell 0,HB3.out.2.1.cell 2,As HB3.out.2.2.2⟩ ?_
     iterate 10(refine' AK.run ?_ ?_ ?_ ?_;rotate_left 2;(simp only[Aa,Ab,Ac];rfl);rfl;(rintro w' ⟨k0,k1,k2⟩;first|exact AB rfl rfl k2 Tryz.underlying43 rfl (Ay _ _ _ _ _)|(go_simp;with_reducible rfl));simp only[Al,Ad,Ae,Af])
     have sm:=(Sm.refl b3).drew
     have HV20:=hJ4 (HB3.out.1.below (sm.below _)) (HB3.out.2.1.below (sm.below _) HB3.out.2.1.lt) (HB3.out.2.2.1.below (sm.below _) HB3.out.2.2.1.lt) (HB3.out.2.2.2.below (sm.below _) HB3.out.2.2.2.lt)
     clear sm
     generalize b3.drew=v19 at HV20 ⊢
     refine' AE 10 (by kernel_rfl) ?_ ?_;rotate_left;(simp only[Aa,Ab,Ac];rfl)
     try simp only[Al,Ad,Ae,Af]
     with_reducible refine Fi rfl (.tmp 66) (.tmp 67) rfl p.nm p.u 1 ra 0 rc qa 0 qc ga 0 gc rfl rfl ?_
     try simp only[Al,Ad,Ae,Af]
     refine QK.normal ⟨fun _=> ⟨HV20.out.1.bl.cell 0,HV20.out.2.1.cell 2,As HV20.out.2.2.2⟩,?_⟩
     refine' AE 11 (by kernel_rfl) ?_ ?_;rotate_left;(simp only[Aa,Ab,Ac];rfl)
     try simp only[Al,Ad,Ae,Af]
     refine DQ v19 rfl (.tmp 68) rfl (flC p.nm p.u 1 (.slice ra 0 rc) (.slice qa 0 qc) (.slice ga 0 gc) 0 0 0 (tmC 0 0 0 ⟨#[]⟩ (.slice none 0 0))) rfl rfl ?_
     intro e1 hb hbel hsz
     have HE1:=Ag (show OwnX w0 m0 (b1.heap.size::a1.heap.size::w.heap.size::xs) e1 bp 97 [(.slice af fn cf),(.slice ac cn cc),(.slice aw wn cw)] (.slice af fn cf) (.slice ac cn cc) (.slice aw wn cw) fs cv ws ex∧Blk e1 (w.heap.size) 31 (opC p tco)∧Blk e1 (a1.heap.size) 37 (AC 0 0 0 (tmC 0 0 0 ⟨#[]⟩ (.slice none 0 0)))∧Blk e1 (b1.heap.size) 43 (pmC p.u 1 (.slice ra 0 rc) (.slice qa 0 qc) (.slice ga 0 gc))∧Blk e1 (v19.heap.size) 45 (flC p.nm p.u 1 (.slice ra 0 rc) (.slice qa 0 qc) (.slice ga 0 gc) 0 0 0 (tmC 0 0 0 ⟨#[]⟩ (.slice none 0 0)))∧((∀ k,(Value.ownBlock (.slice af fn cf))=some k→k≠v19.heap.size)) from⟨(HV20.out.1.below hbel),HV20.out.2.1.below hbel HV20.out.2.1.lt,HV20.out.2.2.1.below hbel HV20.out.2.2.1.lt,HV20.out.2.2.2.below hbel HV20.out.2.2.2.lt,hb,fun k hk e=> by have:=HV20.out.1.lt k (FR k (AF.2 hk));omega⟩)
     clear hb hbel hsz
     try simp only[Al,Ad,Ae,Af]
     refine QK.normal ⟨fun _=> ⟨HE1.out.1.bl.cell 0,HE1.out.2.1.cell 2,As HE1.out.2.2.2.1⟩,?_⟩
     refine' AE 12 (by kernel_rfl) ?_ ?_;rotate_left;(simp only[Aa,Ab,Ac];rfl)
     try simp only[Al,Ad,Ae,Af]
     go_wp2_with fail
     refine(HE1.out.1.insF (i:=ix) HE1.out.2.2.2.2.1 (f:=(⟨p.nm,⟨p.u,1,[],[],[]⟩,0,0,0,tm0⟩:FileM)) ⟨_,_,_,_,rfl,⟨SlI.empty HPS.out.1,SlI.empty HPS.out.2.1,SlI.empty HPS.out.2.2⟩,Bm _ _⟩ HE1.out.2.2.2.2.2 (by rw[HN.out.1];omega) HIX.out).mono ?_
     rintro e' e2 ⟨ay,cy,rfl,hown,hc⟩
     rw[HN.out.1] at hown ⊢
     obtain⟨g,cy',e,-⟩:=hown.rf.ptr (j:=ix) (by rw[Cd HIX.out];have:=HIX.out;omega)
     rw[Cd HIX.out,HN.out.1] at e
     obtain⟨rfl,rfl⟩:ay=some ⟨g,0,none⟩∧cy=cy':=by simpa using e
     have HE2:=hJ4 hown (HE1.out.2.1.keep hc (fun e=> (HE1.out.1.ne (show w.heap.size∈(b1.heap.size::a1.heap.size::w.heap.size::xs) by simp)).2.1 (AF.2 e))) (HE1.out.2.2.1.keep hc (fun e=> (HE1.out.1.ne (show a1.heap.size∈(b1.heap.size::a1.heap.size::w.heap.size::xs) by simp)).2.1 (AF.2 e))) (HE1.out.2.2.2.1.keep hc (fun e=> (HE1.out.1.ne (show b1.heap.size∈(b1.heap.size::a1.heap.size::w.heap.size::xs) by simp)).2.1 (AF.2 e)))
     clear hown hc e
     go_wp2_with fail
     refine QK.normal ⟨fun _=> ⟨HE2.out.1.bl.cell 0,HE2.out.2.1.cell 2,As HE2.out.2.2.2⟩,?_⟩
     refine AL (by kernel_rfl) AG (fuel:=3) (fun _=> ⟨HE2.out.1.bl.cell 0,HE2.out.2.1.cell 2,As HE2.out.2.2.2⟩) 13 (by kernel_rfl) ?_
     refine' AK.run ?_ ?_ ?_ ?_;rotate_left 2;(simp only[Aa,Ab,Ac];rfl);rfl;(rintro w' -;go_simp;with_reducible rfl);simp only[Al,Ad,Ae,Af]
     refine AL (by kernel_rfl) AG (fuel:=2) (fun _=> ⟨HE2.out.1.bl.cell 0,HE2.out.2.1.cell 2,As HE2.out.2.2.2⟩) 14 (by kernel_rfl) ?_
     refine' AK.run ?_ ?_ ?_ ?_;rotate_left 2;(simp only[Aa,Ab,Ac];rfl);rfl;(rintro w' -;go_simp;with_reducible rfl);simp only[Al,Ad,Ae,Af]
     refine AL (by kernel_rfl) AG (fuel:=1) (fun _=> ⟨HE2.out.1.bl.cell 0,HE2.out.2.1.cell 2,As HE2.out.2.2.2⟩) 15 (by kernel_rfl) ?_
     refine' AK.run ?_ ?_ ?_ ?_;rotate_left 2;(simp only[Aa,Ab,Ac];rfl);rfl;(rintro w' -;go_simp;with_reducible rfl);simp only[Al,Ad,Ae,Af]
     refine' AE 16 (by kernel_rfl) ?_ ?_;rotate_left;(simp only[Aa,Ab,Ac];rfl)
     try simp only[Al,Ad,Ae,Af]
     refine AI e2 rfl 22 (.tmp 73) (.tmp 70) rfl bp 0 97 _ HE2.out.1.bl rfl (.slice (some ⟨g,0,none⟩) (fn+1) cy) rfl (by simp) Tryz.sizeSf1 rfl rfl ?_
     intro e3 hb hc hs
     have HE3:=Ag (show OwnX w0 m0 (a1.heap.size::w.heap.size::xs) e3 bp 97 [(.slice (some ⟨g,0,none⟩) (fn+1) cy),(.slice ac cn cc),(.slice aw wn cw)] (.slice (some ⟨g,0,none⟩) (fn+1) cy) (.slice ac cn cc) (.slice aw wn cw) (BS fs ix (⟨p.nm,⟨p.u,1,[],[],[]⟩,0,0,0,tm0⟩:FileM)) cv ws ex∧Blk e3 (w.heap.size) 31 (opC p tco)∧Blk e3 (a1.heap.size) 37 (AC 0 0 0 (tmC 0 0 0 ⟨#[]⟩ (.slice none 0 0))) from⟨(HE2.out.1.setB hc hb).keepoff (fun k hk=> List.mem_cons_of_mem _ hk),HE2.out.2.1.keep hc (fun e=> (HE2.out.1.ne (show w.heap.size∈(b1.heap.size::a1.heap.size::w.heap.size::xs) by simp)).1 e),HE2.out.2.2.1.keep hc (fun e=> (HE2.out.1.ne (show a1.heap.size∈(b1.heap.size::a1.heap.size::w.heap.size::xs) by simp)).1 e)⟩)
     clear hb hc hs
     refine QK.normal ⟨fun h=> absurd h (by decide),?_⟩
     refine Bd (by kernel_rfl) ?_ _
     refine NoPanic.normal ?_
     try simp only[Al,Ad,Ae,Af]
     go_wp2_with fail
     refine Az (fun W=> W.cell? ⟨bp,0,none⟩=some (.slice (some ⟨g,0,none⟩) (fn+1) cy)∧W.rangeAt w.heap.size 0 (opC p tco)) [0,1,2,3,4,5,6,7,8] 1 (by kernel_rfl) rfl (by kernel_rfl) (by kernel_rfl) ⟨HE3.out.1.bl.cell 0,As HE3.out.2.1⟩ ?_
     iterate 9(refine' AK.run ?_ ?_ ?_ ?_;rotate_left 2;(simp only[Aa,Ab,Ac];rfl);rfl;(rintro w' ⟨k0,k1⟩;first|exact AB rfl rfl k1 Tryz.underlying31 rfl (Bp HTL.out)|(go_simp;with_reducible rfl));simp only[Al,Ad,Ae,Af])
     have sm:=(Sm.refl e3).drew
     have HV22:=Ag (show OwnX w0 m0 (a1.heap.size::w.heap.size::xs) e3.drew bp 97 [(.slice (some ⟨g,0,none⟩) (fn+1) cy),(.slice ac cn cc),(.slice aw wn cw)] (.slice (some ⟨g,0,none⟩) (fn+1) cy) (.slice ac cn cc) (.slice aw wn cw) (BS fs ix (⟨p.nm,⟨p.u,1,[],[],[]⟩,0,0,0,tm0⟩:FileM)) cv ws ex∧Blk e3.drew (w.heap.size) 31 (opC p tco)∧Blk e3.drew (a1.heap.size) 37 (AC 0 0 0 (tmC 0 0 0 ⟨#[]⟩ (.slice none 0 0))) from⟨(HE3.out.1.below (sm.below _)),HE3.out.2.1.below (sm.below _) HE3.out.2.1.lt,HE3.out.2.2.below (sm.below _) HE3.out.2.2.lt⟩)
     clear sm
     generalize e3.drew=v21 at HV22 ⊢
     refine' Ar 9 (by kernel_rfl) ?_ ?_;rotate_left;(simp only[Aa,Ab,Ac];rfl)
     try simp only[Al,Ad,Ae,Af]
     go_wp2_with fail
     have HEN:=Ag (show OwnX v21 _ (a1.heap.size::w.heap.size::xs) v21 bp 97 [(.slice (some ⟨g,0,none⟩) (fn+1) cy),(.slice ac cn cc),(.slice aw wn cw)] (.slice (some ⟨g,0,none⟩) (fn+1) cy) (.slice ac cn cc) (.slice aw wn cw) ((BS fs ix (⟨p.nm,⟨p.u,1,[],[],[]⟩,0,0,0,tm0⟩:FileM)).set ix (⟨p.nm,⟨p.u,1,[],[],[]⟩,0,0,0,tm0⟩:FileM)) cv ws ex from by rw[Iu HIX.out];exact HV22.out.1.enter)
     refine(Gv p tco HEN.out (by rw[Cd HIX.out];have:=HIX.out;omega) HB.out (JF HO.out HK1.out).1 (by show(0:Int)≤0;omega) (by show(0:Int)≤1000000;omega) (by rw[HN.out.2.2];omega)).mono ?_
     rintro e' e5 ⟨rfl,vw5,hw5⟩
     rw[Iu HIX.out] at hw5
     have HE5:=Ag (show OwnX w0 m0 (a1.heap.size::w.heap.size::xs) e5 bp 97 [(.slice (some ⟨g,0,none⟩) (fn+1) cy),(.slice ac cn cc),vw5] (.slice (some ⟨g,0,none⟩) (fn+1) cy) (.slice ac cn cc) vw5 (BS fs ix (B2 (⟨p.nm,⟨p.u,1,[],[],[]⟩,0,0,0,tm0⟩:FileM) p)) cv (ws ++ [BO (B2 (⟨p.nm,⟨p.u,1,[],[],[]⟩,0,0,0,tm0⟩:FileM) p)]) ex∧Blk e5 (w.heap.size) 31 (opC p tco)∧Blk e5 (a1.heap.size) 37 (AC 0 0 0 (tmC 0 0 0 ⟨#[]⟩ (.slice none 0 0))) from⟨HV22.out.1.leave hw5,HV22.out.2.1.keep hw5.ch (fun e=> (HV22.out.1.ax w.heap.size (by simp)).1 e),HV22.out.2.2.keep hw5.ch (fun e=> (HV22.out.1.ax a1.heap.size (by simp)).1 e)⟩)
     clear hw5 HEN
     go_wp2_with fail
     refine QK.normal ⟨⟨HE5.out.1.bl.cell 0,As HE5.out.2.1⟩,?_⟩
     refine wpAnyH_done (by kernel_rfl) ?_ _
     refine NoPanic.normal ?_
     have HX:=Ag (show SR=(⟨BS fs ix (B2 (⟨p.nm,⟨p.u,1,[],[],[]⟩,0,0,0,tm0⟩:FileM) p),cv.map CirV.m,ws ++ [BO (B2 (⟨p.nm,⟨p.u,1,[],[],[]⟩,0,0,0,tm0⟩:FileM) p)]⟩,A1 0) from by
      rw[←HSR.out]
      unfold Ca
      rw[if_neg (by rw[HNF.out];simpa using hnu),HSK.out,if_neg (by simp),if_neg (by rw[HN.out.1,HN.out.2.2];omega)]
      unfold Dc
      rw[HNR.out])
     go_wp2_with (first
  | (with_reducible refine Ba rfl rfl ?_)
  | ((with_reducible refine Ao e5 rfl 37 (.tmp 4) (.tmp 84) rfl (a1.heap.size) 37 (AC 0 0 0 (tmC 0 0 0 ⟨#[]⟩ (.slice none 0 0))) (AC 0 0 0 (tmC 0 0 0 ⟨#[]⟩ (.slice none 0 0))) HE5.out.2.2 rfl rfl rfl (Ax rfl) (AM (AR _ _ _ _ _ _ _)) ?_);intro z9 hb hc hs;have HZ:=Ag (Ai (HE5.out.1.setX (show a1.heap.size∈_ by simp) HSZ.out hc) hb);clear hb hc hs))
     refine bodyPost_ret (AA Tryz.results76 _ _ (a1.heap.size) _ _ rfl HZ.out.2 _ Tryz.underlying37 rfl (Ax rfl)) rfl ?_
     rw[HX.out]
     exact⟨_,_,_,_,cv,rfl,rfl,HALL.out,((HZ.out.1).keepoff (fun k hk=> by simp[hk])).exadd (Bm _ _)⟩
  ·skip
   have HX:=Ag (show SR=((⟨fs,cv.map CirV.m,ws⟩:IdM),A1 5) from by rw[←HSR.out];unfold Ca;rw[if_neg (by rw[HNF.out];simpa using hnu),HSK.out,if_pos rfl])
   go_wp2_with fail
   refine(Bc (5) u13).mono ?_
   rintro e' u23 ⟨rfl,hb⟩
   have K24:=hJ3 (K14.out.1.below hb) (K14.out.2.1.below hb K14.out.2.1.lt) (K14.out.2.2.below hb K14.out.2.2.lt)
   clear hb
   go_wp2_with (first
  | ((with_reducible refine Ao u23 rfl 37 (.tmp 4) (.tmp 29) rfl (a1.heap.size) 37 (AC 0 0 0 (tmC 0 0 0 ⟨#[]⟩ (.slice none 0 0))) (AC (5) 0 0 (tmC 0 0 0 ⟨#[]⟩ (.slice none 0 0))) K24.out.2.2 rfl rfl rfl (Ax rfl) (AM (AR _ _ _ _ _ _ _)) ?_);intro z9 hb hc hs;have HZ:=Ag (Ai (K24.out.1.setX (show a1.heap.size∈_ by simp) HSZ.out hc) hb);clear hb hc hs))
   refine bodyPost_ret (AA Tryz.results76 _ _ (a1.heap.size) _ _ rfl HZ.out.2 _ Tryz.underlying37 rfl (Ax rfl)) rfl ?_
   rw[HX.out]
   exact⟨_,_,_,_,cv,rfl,rfl,HALL.out,((HZ.out.1).keepoff (fun k hk=> by simp[hk])).exadd (Bm _ _)⟩
end Go.Proofs.YtgdlfiphihaooaaGreat

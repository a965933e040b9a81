import Derived.Test.YtgdlfiphihaooaaGreatYq18
set_option linter.unusedSimpArgs false
set_option linter.unusedVariables false
set_option maxRecDepth 100000
set_option maxHeartbeats 8000000
open _root_.List renaming getElem?_toArray→Aa,getElem?_cons_zero→Ab,getElem?_cons_succ→Ac,setIfInBounds_toArray→Ad,set_cons_zero→Ae,set_cons_succ→Af
open _root_.Go.Lib renaming hid→Ag
open _root_.Nat renaming le_refl→Ah,le_trans→Aj,lt_of_lt_of_le→Ak
open _root_.And renaming intro→Ai
open _root_.Go.Act renaming put→Al
namespace Go.Proofs.YtgdlfiphihaooaaGreat
open Go Go.RowKit
theorem Dl {w:World} {g:Nat} {ty:TypeId} {nm:ByteArray} {v e u:Int} {tc:List Value} (h:Blk w g ty (wrC nm v e u tc)):w.rangeAt g 4 tc:=fun j x hx=> (h.cell (4+j)).trans (by rw[Nat.add_comm];exact hx)
theorem Dm {w:World} {g:Nat} {ty:TypeId} {p:OpM} {tc:List Value} (h:Blk w g ty (opC p tc)):w.rangeAt g 6 tc:=fun j x hx=> (h.cell (6+j)).trans (by rw[Nat.add_comm];exact hx)
theorem KO {w:World} {g:Nat} {ty:TypeId} {nm:ByteArray} {o pe:Int} {vr vq vg:Value} {v e u:Int} {tc:List Value} (h:Blk w g ty (flC nm o pe vr vq vg v e u tc)):w.rangeAt g 9 tc:=fun j x hx=> (h.cell (9+j)).trans (by rw[Nat.add_comm];exact hx)
section
variable {w0 w w':World} {m0 xs:List Nat} {bp:Nat} {bt:TypeId} {cells cells':List Value} {vf vc vw vf' vc' vw':Value} {fs fs':List FileM} {cv cv':List CirV} {ws ws':List WrM} {ex:List (List Value × Tm)}
theorem OwnX.cellF {g n c i q:Nat} {f:FileM} {x:Value} (h:OwnX w0 m0 xs w bp bt cells (.slice (some ⟨g,0,none⟩) n c) vc vw (fs.set i f) cv ws ex) (hi:i<fs.length) (hq:∀ vr vq vg tc,(flC f.nm f.p.o f.p.e vr vq vg f.v f.e f.u tc)[q]?=some x):w.cell? ⟨g,i* 14+q,none⟩=some x:=by
 obtain⟨-,vr,vq,vg,tc,hra,-⟩:=h.elF hi
 exact hra q x (hq vr vq vg tc)
theorem OwnX.freeF {g n c i q:Nat} {f:FileM} (h:OwnX w0 m0 xs w bp bt cells (.slice (some ⟨g,0,none⟩) n c) vc vw (fs.set i f) cv ws ex) (hi:i<fs.length) (hq:q<14):w.frozen? ⟨g,i* 14+q,none⟩=false:=by
 obtain⟨-,vr,vq,vg,tc,-,-,-,hth,-⟩:=h.elF hi
 exact(hth q hq).2
end
theorem Gy (p:OpM) (tco:List Value) {w0 w:World} {m0 xs:List Nat} {bp g n c i:Nat} {vc vw:Value} {fs:List FileM} {f:FileM} {cv:List CirV} {ws:List WrM} {ex:List (List Value × Tm)}
  (h:OwnX w0 m0 xs w bp 97 [(.slice (some ⟨g,0,none⟩) n c),vc,vw] (.slice (some ⟨g,0,none⟩) n c) vc vw (fs.set i f) cv ws ex) (hi:i<fs.length) (hb:(tco,p.b)∈ex) (hf:Ff p.b=true) (hv0:0≤f.v) (hv1:f.v≤1000000) (hn:ws.length≤1000000):
  Calls Tryz.prog 94 #[.pointer (some ⟨bp,0,none⟩),.pointer (some ⟨g,i* 14,none⟩),.agg (opC p tco).toArray] w (fun e w'=> e=.returned (.tuple #[])∧∃ vw',OwnX w0 m0 xs w' bp 97 [(.slice (some ⟨g,0,none⟩) n c),vc,vw'] (.slice (some ⟨g,0,none⟩) n c) vc vw' (fs.set i ⟨f.nm,f.p,f.v+1,f.p.e,p.u,p.b⟩) cv (ws ++ [Bl ⟨f.nm,f.p,f.v+1,f.p.e,p.u,p.b⟩]) ex):=by
 obtain⟨aw,wn,cw,rfl⟩:∃ aw wn cw,vw=.slice aw wn cw:=by
  obtain⟨aw,cw,e,-⟩:=h.rw.shape
  exact⟨aw,_,cw,e⟩
 have HOWN:=Ag h
 have HB:=Ag (Ai hb hf)
 have HN:=Ag hn
 have HW0:=Ag h.ch.size
 have HTL:=Ag (h.ex _ hb).len
 clear h hb hf hn
 go_enter Tryz.func94,Tryz.ntmps94
 go_upto_region 1 with(first
  | ((with_reducible refine Au w rfl 31 (.tmp 2) rfl (opC p tco) rfl ?_);intro a1 hb hbel hsz;have H1:=hJ2 (HOWN.out.rsv hbel (Ah _) hb.lt) hb;clear hb hbel hsz))
 try simp only[Al,Ad,Ae,Af]
 go_wp2_with fail
 refine Az (fun W=> W.cell? ⟨g,i* 14+2,none⟩=some (.int .i64 f.p.e)∧W.cell? ⟨w.heap.size,1,none⟩=some (.int .i64 p.u)∧W.rangeAt w.heap.size 6 tco) [0,1,2,3,4,5,6,9,10,11,12,13,14,15,16,17] 15 (by kernel_rfl) rfl (by kernel_rfl) (by kernel_rfl) ⟨H1.out.1.cellF (q:=2) hi (fun _ _ _ _=> rfl),H1.out.2.cell 1,fun j x hx=> (H1.out.2.cell (6+j)).trans (by rw[Nat.add_comm];exact hx)⟩ ?_
 iterate 16(refine' AH.run ?_ ?_ ?_ ?_;rotate_left 2;(simp only[Aa,Ab,Ac];rfl);rfl;(rintro w' ⟨k0,k1,k2⟩;first|exact AA rfl rfl k2 Tryz.underlying29 rfl (At Tryz.infoTm HTL.out)|(go_simp;with_reducible rfl));simp only[Al,Ad,Ae,Af])
 have sm:=(Sm.refl a1).drew
 have HV2:=hJ2 (H1.out.1.below (sm.below _)) (H1.out.2.below (sm.below _) H1.out.2.lt)
 clear sm
 generalize a1.drew=v1 at HV2 ⊢
 refine' Cq 7 18 (by kernel_rfl) ?_ ?_ ?_ ?_;rotate_left 2;(simp only[Aa,Ab,Ac];rfl);(simp only[Aa,Ab,Ac];rfl)
 ·skip
  have c6:=HV2.out.1.cellF (q:=6) hi (fun _ _ _ _=> rfl)
  try simp only[Al,Ad,Ae,Af]
  go_wp2_with fail
  clear c6
  refine QK.normal ⟨⟨HV2.out.1.cellF (q:=2) hi (fun _ _ _ _=> rfl),HV2.out.2.cell 1,fun j x hx=> (HV2.out.2.cell (6+j)).trans (by rw[Nat.add_comm];exact hx)⟩,?_⟩
  refine A2 (fuel:=13) (by kernel_rfl) AE ⟨HV2.out.1.cellF (q:=2) hi (fun _ _ _ _=> rfl),HV2.out.2.cell 1,fun j x hx=> (HV2.out.2.cell (6+j)).trans (by rw[Nat.add_comm];exact hx)⟩ [8] _ _ (by kernel_rfl) ?_
  try simp only[Al]
  iterate 1(refine' AH.run ?_ ?_ ?_ ?_;rotate_left 2;(simp only[Aa,Ab,Ac];rfl);rfl;(rintro w' ⟨k0,k1,k2⟩;first|exact AA rfl rfl k2 Tryz.underlying29 rfl (At Tryz.infoTm HTL.out)|(go_simp;with_reducible rfl));simp only[Al,Ad,Ae,Af])
  refine' Ar 18 (by kernel_rfl) ?_ ?_;rotate_left;(simp only[Aa,Ab,Ac];rfl)
  try simp only[Al,Ad,Ae,Af]
  go_wp2_with fail
  refine(Ca p.b tco _ v1 HB.out.2 (HV2.out.1.ex _ HB.out.1)).mono ?_
  rintro e' u3 ⟨tcn,rfl,ht,hb⟩
  have K4:=hJ2 (HV2.out.1.more ht hb) (HV2.out.2.below hb HV2.out.2.lt)
  clear ht hb
  go_wp2_with fail
  refine QK.normal ⟨⟨K4.out.1.cellF (q:=2) hi (fun _ _ _ _=> rfl),K4.out.2.cell 1,fun j x hx=> (K4.out.2.cell (6+j)).trans (by rw[Nat.add_comm];exact hx)⟩,?_⟩
  refine' Ar 19 (by kernel_rfl) ?_ ?_;rotate_left;(simp only[Aa,Ab,Ac];rfl)
  try simp only[Al,Ad,Ae,Af]
  go_wp2_with fail
  refine QK.normal ⟨⟨K4.out.1.cellF (q:=2) hi (fun _ _ _ _=> rfl),K4.out.2.cell 1,fun j x hx=> (K4.out.2.cell (6+j)).trans (by rw[Nat.add_comm];exact hx)⟩,?_⟩
  refine' Ar 20 (by kernel_rfl) ?_ ?_;rotate_left;(simp only[Aa,Ab,Ac];rfl)
  try simp only[Al,Ad,Ae,Af]
  go_wp2_with fail
  refine QK.normal ⟨⟨K4.out.1.cellF (q:=2) hi (fun _ _ _ _=> rfl),K4.out.2.cell 1,fun j x hx=> (K4.out.2.cell (6+j)).trans (by rw[Nat.add_comm];exact hx)⟩,?_⟩
  refine' Ar 21 (by kernel_rfl) ?_ ?_;rotate_left;(simp only[Aa,Ab,Ac];rfl)
  have c6:=K4.out.1.cellF (q:=6) hi (fun _ _ _ _=> rfl)
  have q6:=K4.out.1.freeF (q:=6) hi (by omega)
  try simp only[Al,Ad,Ae,Af]
  go_wp2_with fail
  clear c6 q6
  have K6:=Ag (show OwnX w0 m0 (w.heap.size::xs) (u3.setCells g (i* 14+6) [.int .i64 (f.v+1)]) bp 97 [(.slice (some ⟨g,0,none⟩) n c),vc,(.slice aw wn cw)] (.slice (some ⟨g,0,none⟩) n c) vc (.slice aw wn cw) (fs.set i ⟨f.nm,f.p,f.v+1,f.e,f.u,f.b⟩) cv ws ((tcn,p.b)::ex)∧Blk (u3.setCells g (i* 14+6) [.int .i64 (f.v+1)]) (w.heap.size) 31 (opC p tco) from⟨by obtain⟨-,_,_,_,_,-,-,-,-,k6,k7,k8,-⟩:=K4.out.1.elF hi;exact k6 (f.v+1),K4.out.2.keep (AI g _ _ _) (fun e=> (K4.out.1.ne (List.mem_cons_self:w.heap.size∈(w.heap.size::xs))).2.1 (by rw[show w.heap.size=g from e];exact AG.2 rfl))⟩)
  rw[show u3.setCell ⟨g,i* 14+6,none⟩ (.int .i64 (f.v+1))=(u3.setCells g (i* 14+6) [.int .i64 (f.v+1)]) from rfl]
  generalize (u3.setCells g (i* 14+6) [.int .i64 (f.v+1)])=u5 at K6 ⊢
  refine QK.normal ⟨⟨K6.out.1.cellF (q:=2) hi (fun _ _ _ _=> rfl),K6.out.2.cell 1,fun j x hx=> (K6.out.2.cell (6+j)).trans (by rw[Nat.add_comm];exact hx)⟩,?_⟩
  refine' Ar 22 (by kernel_rfl) ?_ ?_;rotate_left;(simp only[Aa,Ab,Ac];rfl)
  try simp only[Al,Ad,Ae,Af]
  go_wp2_with fail
  refine QK.normal ⟨⟨K6.out.1.cellF (q:=2) hi (fun _ _ _ _=> rfl),K6.out.2.cell 1,fun j x hx=> (K6.out.2.cell (6+j)).trans (by rw[Nat.add_comm];exact hx)⟩,?_⟩
  refine' Ar 23 (by kernel_rfl) ?_ ?_;rotate_left;(simp only[Aa,Ab,Ac];rfl)
  try simp only[Al,Ad,Ae,Af]
  go_wp2_with fail
  refine QK.normal ⟨⟨K6.out.1.cellF (q:=2) hi (fun _ _ _ _=> rfl),K6.out.2.cell 1,fun j x hx=> (K6.out.2.cell (6+j)).trans (by rw[Nat.add_comm];exact hx)⟩,?_⟩
  refine' Ar 24 (by kernel_rfl) ?_ ?_;rotate_left;(simp only[Aa,Ab,Ac];rfl)
  have c6:=K6.out.1.cellF (q:=7) hi (fun _ _ _ _=> rfl)
  have q6:=K6.out.1.freeF (q:=7) hi (by omega)
  try simp only[Al,Ad,Ae,Af]
  go_wp2_with fail
  clear c6 q6
  have K8:=Ag (show OwnX w0 m0 (w.heap.size::xs) (u5.setCells g (i* 14+7) [.int .i64 f.p.e]) bp 97 [(.slice (some ⟨g,0,none⟩) n c),vc,(.slice aw wn cw)] (.slice (some ⟨g,0,none⟩) n c) vc (.slice aw wn cw) (fs.set i ⟨f.nm,f.p,f.v+1,f.p.e,f.u,f.b⟩) cv ws ((tcn,p.b)::ex)∧Blk (u5.setCells g (i* 14+7) [.int .i64 f.p.e]) (w.heap.size) 31 (opC p tco) from⟨by obtain⟨-,_,_,_,_,-,-,-,-,k6,k7,k8,-⟩:=K6.out.1.elF hi;exact k7 f.p.e,K6.out.2.keep (AI g _ _ _) (fun e=> (K6.out.1.ne (List.mem_cons_self:w.heap.size∈(w.heap.size::xs))).2.1 (by rw[show w.heap.size=g from e];exact AG.2 rfl))⟩)
  rw[show u5.setCell ⟨g,i* 14+7,none⟩ (.int .i64 f.p.e)=(u5.setCells g (i* 14+7) [.int .i64 f.p.e]) from rfl]
  generalize (u5.setCells g (i* 14+7) [.int .i64 f.p.e])=u7 at K8 ⊢
  refine QK.normal ⟨⟨K8.out.1.cellF (q:=2) hi (fun _ _ _ _=> rfl),K8.out.2.cell 1,fun j x hx=> (K8.out.2.cell (6+j)).trans (by rw[Nat.add_comm];exact hx)⟩,?_⟩
  refine' Ar 25 (by kernel_rfl) ?_ ?_;rotate_left;(simp only[Aa,Ab,Ac];rfl)
  try simp only[Al,Ad,Ae,Af]
  go_wp2_with fail
  refine QK.normal ⟨⟨K8.out.1.cellF (q:=2) hi (fun _ _ _ _=> rfl),K8.out.2.cell 1,fun j x hx=> (K8.out.2.cell (6+j)).trans (by rw[Nat.add_comm];exact hx)⟩,?_⟩
  refine' Ar 26 (by kernel_rfl) ?_ ?_;rotate_left;(simp only[Aa,Ab,Ac];rfl)
  try simp only[Al,Ad,Ae,Af]
  go_wp2_with fail
  refine QK.normal ⟨⟨K8.out.1.cellF (q:=2) hi (fun _ _ _ _=> rfl),K8.out.2.cell 1,fun j x hx=> (K8.out.2.cell (6+j)).trans (by rw[Nat.add_comm];exact hx)⟩,?_⟩
  refine' Ar 27 (by kernel_rfl) ?_ ?_;rotate_left;(simp only[Aa,Ab,Ac];rfl)
  have c6:=K8.out.1.cellF (q:=8) hi (fun _ _ _ _=> rfl)
  have q6:=K8.out.1.freeF (q:=8) hi (by omega)
  try simp only[Al,Ad,Ae,Af]
  go_wp2_with fail
  clear c6 q6
  have K10:=Ag (show OwnX w0 m0 (w.heap.size::xs) (u7.setCells g (i* 14+8) [.int .i64 p.u]) bp 97 [(.slice (some ⟨g,0,none⟩) n c),vc,(.slice aw wn cw)] (.slice (some ⟨g,0,none⟩) n c) vc (.slice aw wn cw) (fs.set i ⟨f.nm,f.p,f.v+1,f.p.e,p.u,f.b⟩) cv ws ((tcn,p.b)::ex)∧Blk (u7.setCells g (i* 14+8) [.int .i64 p.u]) (w.heap.size) 31 (opC p tco) from⟨by obtain⟨-,_,_,_,_,-,-,-,-,k6,k7,k8,-⟩:=K8.out.1.elF hi;exact k8 p.u,K8.out.2.keep (AI g _ _ _) (fun e=> (K8.out.1.ne (List.mem_cons_self:w.heap.size∈(w.heap.size::xs))).2.1 (by rw[show w.heap.size=g from e];exact AG.2 rfl))⟩)
  rw[show u7.setCell ⟨g,i* 14+8,none⟩ (.int .i64 p.u)=(u7.setCells g (i* 14+8) [.int .i64 p.u]) from rfl]
  generalize (u7.setCells g (i* 14+8) [.int .i64 p.u])=u9 at K10 ⊢
  refine QK.normal ⟨⟨K10.out.1.cellF (q:=2) hi (fun _ _ _ _=> rfl),K10.out.2.cell 1,fun j x hx=> (K10.out.2.cell (6+j)).trans (by rw[Nat.add_comm];exact hx)⟩,?_⟩
  refine' Ar 28 (by kernel_rfl) ?_ ?_;rotate_left;(simp only[Aa,Ab,Ac];rfl)
  try simp only[Al,Ad,Ae,Af]
  go_wp2_with fail
  refine QK.normal ⟨⟨K10.out.1.cellF (q:=2) hi (fun _ _ _ _=> rfl),K10.out.2.cell 1,fun j x hx=> (K10.out.2.cell (6+j)).trans (by rw[Nat.add_comm];exact hx)⟩,?_⟩
  refine' Ar 29 (by kernel_rfl) ?_ ?_;rotate_left;(simp only[Aa,Ab,Ac];rfl)
  try simp only[Al,Ad,Ae,Af]
  go_wp2_with fail
  refine QK.normal ⟨⟨K10.out.1.cellF (q:=2) hi (fun _ _ _ _=> rfl),K10.out.2.cell 1,fun j x hx=> (K10.out.2.cell (6+j)).trans (by rw[Nat.add_comm];exact hx)⟩,?_⟩
  refine' Ar 30 (by kernel_rfl) ?_ ?_;rotate_left;(simp only[Aa,Ab,Ac];rfl)
  obtain⟨-,_,_,_,_,-,-,-,hth,-,-,-,k9,-⟩:=K10.out.1.elF hi
  have HNL:=Ag ((K10.out.1.ex _ List.mem_cons_self).len)
  have HNO:=Ag ((K10.out.1.ex _ List.mem_cons_self).one)
  try simp only[Al,Ad,Ae,Af]
  refine wpList_store_mid rfl 29 (.tmp 33) (.tmp 25) rfl g (i* 14+9) tcn.toArray rfl rfl (by simp only[List.size_toArray];rw[HNL.out];exact fun j hj=> by rw[Nat.add_assoc];exact hth (9+j) (by omega)) (by simp only[List.size_toArray];rw[HNL.out];exact Tryz.infoTm) (all_oneCell_toArray HNO.out) ?_
  have K12:=Ag (show OwnX w0 m0 (w.heap.size::xs) (u9.setCells g (i* 14+9) tcn) bp 97 [(.slice (some ⟨g,0,none⟩) n c),vc,(.slice aw wn cw)] (.slice (some ⟨g,0,none⟩) n c) vc (.slice aw wn cw) (fs.set i ⟨f.nm,f.p,f.v+1,f.p.e,p.u,p.b⟩) cv ws ((tcn,p.b)::ex)∧Blk (u9.setCells g (i* 14+9) tcn) (w.heap.size) 31 (opC p tco) from⟨k9 tcn p.b (K10.out.1.ex _ List.mem_cons_self),K10.out.2.keep (AI g _ _ _) (fun e=> (K10.out.1.ne (List.mem_cons_self:w.heap.size∈(w.heap.size::xs))).2.1 (by rw[show w.heap.size=g from e];exact AG.2 rfl))⟩)
  clear hth k9 HNL HNO
  try simp only[List.toList_toArray]
  generalize (u9.setCells g (i* 14+9) tcn)=u11 at K12 ⊢
  refine QK.normal ⟨⟨K12.out.1.cellF (q:=2) hi (fun _ _ _ _=> rfl),K12.out.2.cell 1,fun j x hx=> (K12.out.2.cell (6+j)).trans (by rw[Nat.add_comm];exact hx)⟩,?_⟩
  refine wpAnyH_done (by kernel_rfl) ?_ _
  refine NoPanic.normal ?_
  try simp only[Al,Ad,Ae,Af]
  obtain⟨-,ur,uq,ug,tcw,hra,-,htm,-⟩:=K12.out.1.elF hi
  have HRA:=Ag hra
  have HTM:=Ag htm
  have HTW:=Ag htm.len
  clear hra htm
  go_wp2_with (first
  | (with_reducible refine Ap rfl 45 (.tmp 35) rfl g (i* 14) rfl (flC f.nm f.p.o f.p.e ur uq ug (f.v+1) f.p.e p.u tcw) _ HRA.out Tryz.underlying45 rfl (At Tryz.infoFl (by simp[flC,HTW.out])) ?_))
  refine(Hk ⟨f.nm,f.p,f.v+1,f.p.e,p.u,p.b⟩ ur uq ug tcw _ u11 HTM.out).mono ?_
  rintro e' b1 ⟨rfl,hb⟩
  have HB1:=Ag (show OwnX w0 m0 (w.heap.size::xs) b1 bp 97 [(.slice (some ⟨g,0,none⟩) n c),vc,(.slice aw wn cw)] (.slice (some ⟨g,0,none⟩) n c) vc (.slice aw wn cw) (fs.set i ⟨f.nm,f.p,f.v+1,f.p.e,p.u,p.b⟩) cv ws ((tcw,p.b)::ex)∧Blk b1 (w.heap.size) 31 (opC p tco) from⟨(((K12.out.1.exadd HTM.out).below hb).less ((tcw,p.b)::ex) (fun q hq=> by
   rcases List.mem_cons.1 hq with h|h
   ·exact h ▸ List.mem_cons_self
   ·exact List.mem_cons_of_mem _ (List.mem_cons_of_mem _ h))),K12.out.2.below hb K12.out.2.lt⟩)
  clear hb HRA HTM K12
  have HSZ:=Ag (show w0.heap.size≤b1.heap.size from HB1.out.1.ch.size)
  have HWL:=Ag (show(wrC f.nm (f.v+1) f.p.e p.u tcw).length=(wrC ⟨#[]⟩ 0 0 0 (tmC 0 0 0 ⟨#[]⟩ (.slice none 0 0))).length from by simp[wrC,HTW.out,tmC])
  have HWL9:=Ag (show(wrC f.nm (f.v+1) f.p.e p.u tcw).length=9 from by simp[wrC,HTW.out])
  have HWO:=Ag (show ∀ v∈wrC f.nm (f.v+1) f.p.e p.u tcw,v.oneCell'=true from WrC.one (f:=Bl ⟨f.nm,f.p,f.v+1,f.p.e,p.u,p.b⟩) ⟨tcw,rfl,HB1.out.1.ex _ List.mem_cons_self⟩)
  go_wp2_with (first
  | ((with_reducible refine Av b1 rfl 56 rfl (wrC ⟨#[]⟩ 0 0 0 (tmC 0 0 0 ⟨#[]⟩ (.slice none 0 0))) Tryz.zeroWr9 ?_);intro b2 hb hbel hsz;have HB2:=hJ2 (HB1.out.1.rsv hbel (Ah _) hb.lt) hb;clear hb hbel hsz)
  | ((with_reducible refine Ao b2 rfl 56 (.tmp 6) (.tmp 37) rfl (b1.heap.size) 56 (wrC ⟨#[]⟩ 0 0 0 (tmC 0 0 0 ⟨#[]⟩ (.slice none 0 0))) (wrC f.nm (f.v+1) f.p.e p.u tcw) HB2.out.2 rfl rfl HWL.out (At Tryz.infoWr HWL9.out) HWO.out ?_);intro b3 hb hc hs;have HB3:=hJ2 (HB2.out.1.setX (List.mem_cons_self) HSZ.out hc) hb;clear hb hc hs)
  | (with_reducible refine Ap rfl 29 (.tmp 38) rfl (b1.heap.size) 4 rfl tcw _ (Dl HB3.out.2) Tryz.underlying29 rfl (At Tryz.infoTm HTW.out) ?_))
  refine(Ca p.b tcw _ b3 HB.out.2 (HB3.out.1.ex _ List.mem_cons_self)).mono ?_
  rintro e' b4 ⟨tc3,rfl,ht,hb⟩
  have HT3:=Ag ht.len
  have HO3:=Ag ht.one
  have HB4:=hJ2 (HB3.out.1.more ht hb) (HB3.out.2.below hb HB3.out.2.lt)
  clear ht hb HB3 HB2 HB1
  have HFIT:=Ag (show 4+tc3.length≤(wrC f.nm (f.v+1) f.p.e p.u tcw).length from by rw[HWL9.out,HT3.out];omega)
  have HTT:=Ag (show tc3.length=tcw.length from by rw[HT3.out,HTW.out])
  go_upto_region 4 with(first
  | ((with_reducible refine Bg b4 rfl 29 (.tmp 41) (.tmp 40) rfl (b1.heap.size) 4 56 _ tc3 (wrC f.nm (f.v+1) f.p.e p.u tc3) HB4.out.2 rfl rfl HFIT.out (At Tryz.infoTm HT3.out) HO3.out (Ea _ _ _ _ _ _ HTT.out) ?_);intro b5 hb hc hs;have HB5:=hJ2 (HB4.out.1.setX (List.mem_cons_self) HSZ.out hc) hb;clear hb hc hs))
  try simp only[Al,Ad,Ae,Af]
  have HW3:=Ag (show(wrC f.nm (f.v+1) f.p.e p.u tc3).length=9 from by simp[wrC,HT3.out])
  go_wp2_with fail
  refine AZ (fun W=> W.cell? ⟨bp,2,none⟩=some (.slice aw wn cw)∧W.rangeAt b1.heap.size 0 (wrC f.nm (f.v+1) f.p.e p.u tc3)) 12 [0,1,2,3,4,5,6] 6 (by kernel_rfl) rfl (by kernel_rfl) (by kernel_rfl) ⟨HB5.out.1.bl.cell 2,As HB5.out.2⟩ ?_
  iterate 7(refine' AH.run ?_ ?_ ?_ ?_;rotate_left 2;(simp only[Aa,Ab,Ac];rfl);rfl;(rintro w' ⟨k0,k1⟩;first|exact AA rfl rfl k1 Tryz.underlying56 rfl (At Tryz.infoWr HW3.out)|(go_simp;with_reducible rfl));simp only[Al,Ad,Ae,Af])
  have sm:=(Sm.refl b5).drew
  have HV14:=hJ2 (HB5.out.1.below (sm.below _)) (HB5.out.2.below (sm.below _) HB5.out.2.lt)
  clear sm
  generalize b5.drew=v13 at HV14 ⊢
  refine' AB 7 (by kernel_rfl) ?_ ?_;rotate_left;(simp only[Aa,Ab,Ac];rfl)
  try simp only[Al,Ad,Ae,Af]
  refine Co v13 rfl (.tmp 48) rfl (wrC f.nm (f.v+1) f.p.e p.u tc3) HW3.out rfl ?_
  intro e1 hb hbel hsz
  have HE1:=hJ3 (HV14.out.1.below hbel) (HV14.out.2.below hbel HV14.out.2.lt) hb
  clear hb hbel hsz
  refine QK.normal ⟨fun _=> ⟨HE1.out.1.bl.cell 2,As HE1.out.2.1⟩,?_⟩
  refine' AB 8 (by kernel_rfl) ?_ ?_;rotate_left;(simp only[Aa,Ab,Ac];rfl)
  try simp only[Al,Ad,Ae,Af]
  at_builtin
  refine DY rfl (.tmp 47) (.tmp 49) rfl HE1.out.1 rfl (x:=Bl ⟨f.nm,f.p,f.v+1,f.p.e,p.u,p.b⟩) rfl HE1.out.2.2 ⟨tc3,rfl,HE1.out.1.ex _ List.mem_cons_self⟩ HN.out ?_
  intro ay cy e2 hown hc
  have HE2:=hJ2 hown (HE1.out.2.1.keep hc (fun e=> (HE1.out.1.ne (List.mem_cons_self:b1.heap.size∈(b1.heap.size::w.heap.size::xs))).2.2.2.1 (AG.2 e)))
  clear hown hc
  refine QK.normal ⟨fun _=> ⟨HE2.out.1.bl.cell 2,As HE2.out.2⟩,?_⟩
  refine AL (by kernel_rfl) AE (fuel:=3) (fun _=> ⟨HE2.out.1.bl.cell 2,As HE2.out.2⟩) 9 (by kernel_rfl) ?_
  refine' AH.run ?_ ?_ ?_ ?_;rotate_left 2;(simp only[Aa,Ab,Ac];rfl);rfl;(rintro w' -;go_simp;with_reducible rfl);simp only[Al,Ad,Ae,Af]
  refine AL (by kernel_rfl) AE (fuel:=2) (fun _=> ⟨HE2.out.1.bl.cell 2,As HE2.out.2⟩) 10 (by kernel_rfl) ?_
  refine' AH.run ?_ ?_ ?_ ?_;rotate_left 2;(simp only[Aa,Ab,Ac];rfl);rfl;(rintro w' -;go_simp;with_reducible rfl);simp only[Al,Ad,Ae,Af]
  refine AL (by kernel_rfl) AE (fuel:=1) (fun _=> ⟨HE2.out.1.bl.cell 2,As HE2.out.2⟩) 11 (by kernel_rfl) ?_
  refine' AH.run ?_ ?_ ?_ ?_;rotate_left 2;(simp only[Aa,Ab,Ac];rfl);rfl;(rintro w' -;go_simp;with_reducible rfl);simp only[Al,Ad,Ae,Af]
  refine' AB 12 (by kernel_rfl) ?_ ?_;rotate_left;(simp only[Aa,Ab,Ac];rfl)
  have hbl:=HE2.out.1.bl
  try simp only[Al,Ad,Ae,Af]
  refine AK e2 rfl 24 (.tmp 53) (.tmp 50) rfl bp 2 97 _ hbl rfl (.slice ay (ws.length+1) cy) rfl (by simp) Tryz.sizeSw1 rfl rfl ?_
  intro e3 hb hc hs
  have HE3:=Ag (show OwnX w0 m0 (b1.heap.size::w.heap.size::xs) e3 bp 97 [(.slice (some ⟨g,0,none⟩) n c),vc,(.slice ay (ws.length+1) cy)] (.slice (some ⟨g,0,none⟩) n c) vc (.slice ay (ws.length+1) cy) (fs.set i ⟨f.nm,f.p,f.v+1,f.p.e,p.u,p.b⟩) cv (ws ++ [Bl ⟨f.nm,f.p,f.v+1,f.p.e,p.u,p.b⟩]) ((tc3,p.b)::(tcw,p.b)::ex) from HE2.out.1.setB hc hb)
  clear hb hc hs hbl
  refine QK.normal ⟨fun h=> absurd h (by decide),?_⟩
  refine Bc (by kernel_rfl) ?_ _
  refine NoPanic.normal ?_
  go_wp2_with fail
  go_end0
  exact⟨rfl,_,((HE3.out.less ex (fun q hq=> List.mem_cons_of_mem _ (List.mem_cons_of_mem _ hq))).keepoff (fun k hk=> List.mem_cons_of_mem _ (List.mem_cons_of_mem _ hk)))⟩
 ·skip
  try simp only[Al,Ad,Ae,Af]
  go_wp2_with fail
  refine(Ca p.b tco _ v1 HB.out.2 (HV2.out.1.ex _ HB.out.1)).mono ?_
  rintro e' u15 ⟨tcn,rfl,ht,hb⟩
  have K16:=Ag (show OwnX w0 m0 (w.heap.size::xs) u15 bp 97 [(.slice (some ⟨g,0,none⟩) n c),vc,(.slice aw wn cw)] (.slice (some ⟨g,0,none⟩) n c) vc (.slice aw wn cw) (fs.set i f) cv ws ((tcn,p.b)::ex)∧Blk u15 (w.heap.size) 31 (opC p tco) from⟨(HV2.out.1.more ht hb),HV2.out.2.below hb HV2.out.2.lt⟩)
  clear ht hb
  go_wp2_with fail
  refine QK.normal ⟨⟨K16.out.1.cellF (q:=2) hi (fun _ _ _ _=> rfl),K16.out.2.cell 1,fun j x hx=> (K16.out.2.cell (6+j)).trans (by rw[Nat.add_comm];exact hx)⟩,?_⟩
  refine' Ar 7 (by kernel_rfl) ?_ ?_;rotate_left;(simp only[Aa,Ab,Ac];rfl)
  have c6:=K16.out.1.cellF (q:=6) hi (fun _ _ _ _=> rfl)
  try simp only[Al,Ad,Ae,Af]
  go_wp2_with fail
  clear c6
  refine QK.normal ⟨⟨K16.out.1.cellF (q:=2) hi (fun _ _ _ _=> rfl),K16.out.2.cell 1,fun j x hx=> (K16.out.2.cell (6+j)).trans (by rw[Nat.add_comm];exact hx)⟩,?_⟩
  refine A2 (fuel:=12) (by kernel_rfl) AE ⟨K16.out.1.cellF (q:=2) hi (fun _ _ _ _=> rfl),K16.out.2.cell 1,fun j x hx=> (K16.out.2.cell (6+j)).trans (by rw[Nat.add_comm];exact hx)⟩ [8] _ _ (by kernel_rfl) ?_
  try simp only[Al]
  iterate 1(refine' AH.run ?_ ?_ ?_ ?_;rotate_left 2;(simp only[Aa,Ab,Ac];rfl);rfl;(rintro w' ⟨k0,k1,k2⟩;first|exact AA rfl rfl k2 Tryz.underlying29 rfl (At Tryz.infoTm HTL.out)|(go_simp;with_reducible rfl));simp only[Al,Ad,Ae,Af])
  refine' Ar 19 (by kernel_rfl) ?_ ?_;rotate_left;(simp only[Aa,Ab,Ac];rfl)
  try simp only[Al,Ad,Ae,Af]
  go_wp2_with fail
  refine QK.normal ⟨⟨K16.out.1.cellF (q:=2) hi (fun _ _ _ _=> rfl),K16.out.2.cell 1,fun j x hx=> (K16.out.2.cell (6+j)).trans (by rw[Nat.add_comm];exact hx)⟩,?_⟩
  refine' Ar 20 (by kernel_rfl) ?_ ?_;rotate_left;(simp only[Aa,Ab,Ac];rfl)
  try simp only[Al,Ad,Ae,Af]
  go_wp2_with fail
  refine QK.normal ⟨⟨K16.out.1.cellF (q:=2) hi (fun _ _ _ _=> rfl),K16.out.2.cell 1,fun j x hx=> (K16.out.2.cell (6+j)).trans (by rw[Nat.add_comm];exact hx)⟩,?_⟩
  refine' Ar 21 (by kernel_rfl) ?_ ?_;rotate_left;(simp only[Aa,Ab,Ac];rfl)
  have c6:=K16.out.1.cellF (q:=6) hi (fun _ _ _ _=> rfl)
  have q6:=K16.out.1.freeF (q:=6) hi (by omega)
  try simp only[Al,Ad,Ae,Af]
  go_wp2_with fail
  clear c6 q6
  have K18:=Ag (show OwnX w0 m0 (w.heap.size::xs) (u15.setCells g (i* 14+6) [.int .i64 (f.v+1)]) bp 97 [(.slice (some ⟨g,0,none⟩) n c),vc,(.slice aw wn cw)] (.slice (some ⟨g,0,none⟩) n c) vc (.slice aw wn cw) (fs.set i ⟨f.nm,f.p,f.v+1,f.e,f.u,f.b⟩) cv ws ((tcn,p.b)::ex)∧Blk (u15.setCells g (i* 14+6) [.int .i64 (f.v+1)]) (w.heap.size) 31 (opC p tco) from⟨by obtain⟨-,_,_,_,_,-,-,-,-,k6,k7,k8,-⟩:=K16.out.1.elF hi;exact k6 (f.v+1),K16.out.2.keep (AI g _ _ _) (fun e=> (K16.out.1.ne (List.mem_cons_self:w.heap.size∈(w.heap.size::xs))).2.1 (by rw[show w.heap.size=g from e];exact AG.2 rfl))⟩)
  rw[show u15.setCell ⟨g,i* 14+6,none⟩ (.int .i64 (f.v+1))=(u15.setCells g (i* 14+6) [.int .i64 (f.v+1)]) from rfl]
  generalize (u15.setCells g (i* 14+6) [.int .i64 (f.v+1)])=u17 at K18 ⊢
  refine QK.normal ⟨⟨K18.out.1.cellF (q:=2) hi (fun _ _ _ _=> rfl),K18.out.2.cell 1,fun j x hx=> (K18.out.2.cell (6+j)).trans (by rw[Nat.add_comm];exact hx)⟩,?_⟩
  refine' Ar 22 (by kernel_rfl) ?_ ?_;rotate_left;(simp only[Aa,Ab,Ac];rfl)
  try simp only[Al,Ad,Ae,Af]
  go_wp2_with fail
  refine QK.normal ⟨⟨K18.out.1.cellF (q:=2) hi (fun _ _ _ _=> rfl),K18.out.2.cell 1,fun j x hx=> (K18.out.2.cell (6+j)).trans (by rw[Nat.add_comm];exact hx)⟩,?_⟩
  refine' Ar 23 (by kernel_rfl) ?_ ?_;rotate_left;(simp only[Aa,Ab,Ac];rfl)
  try simp only[Al,Ad,Ae,Af]
  go_wp2_with fail
  refine QK.normal ⟨⟨K18.out.1.cellF (q:=2) hi (fun _ _ _ _=> rfl),K18.out.2.cell 1,fun j x hx=> (K18.out.2.cell (6+j)).trans (by rw[Nat.add_comm];exact hx)⟩,?_⟩
  refine' Ar 24 (by kernel_rfl) ?_ ?_;rotate_left;(simp only[Aa,Ab,Ac];rfl)
  have c6:=K18.out.1.cellF (q:=7) hi (fun _ _ _ _=> rfl)
  have q6:=K18.out.1.freeF (q:=7) hi (by omega)
  try simp only[Al,Ad,Ae,Af]
  go_wp2_with fail
  clear c6 q6
  have K20:=Ag (show OwnX w0 m0 (w.heap.size::xs) (u17.setCells g (i* 14+7) [.int .i64 f.p.e]) bp 97 [(.slice (some ⟨g,0,none⟩) n c),vc,(.slice aw wn cw)] (.slice (some ⟨g,0,none⟩) n c) vc (.slice aw wn cw) (fs.set i ⟨f.nm,f.p,f.v+1,f.p.e,f.u,f.b⟩) cv ws ((tcn,p.b)::ex)∧Blk (u17.setCells g (i* 14+7) [.int .i64 f.p.e]) (w.heap.size) 31 (opC p tco) from⟨by obtain⟨-,_,_,_,_,-,-,-,-,k6,k7,k8,-⟩:=K18.out.1.elF hi;exact k7 f.p.e,K18.out.2.keep (AI g _ _ _) (fun e=> (K18.out.1.ne (List.mem_cons_self:w.heap.size∈(w.heap.size::xs))).2.1 (by rw[show w.heap.size=g from e];exact AG.2 rfl))⟩)
  rw[show u17.setCell ⟨g,i* 14+7,none⟩ (.int .i64 f.p.e)=(u17.setCells g (i* 14+7) [.int .i64 f.p.e]) from rfl]
  generalize (u17.setCells g (i* 14+7) [.int .i64 f.p.e])=u19 at K20 ⊢
  refine QK.normal ⟨⟨K20.out.1.cellF (q:=2) hi (fun _ _ _ _=> rfl),K20.out.2.cell 1,fun j x hx=> (K20.out.2.cell (6+j)).trans (by rw[Nat.add_comm];exact hx)⟩,?_⟩
  refine' Ar 25 (by kernel_rfl) ?_ ?_;rotate_left;(simp only[Aa,Ab,Ac];rfl)
  try simp only[Al,Ad,Ae,Af]
  go_wp2_with fail
  refine QK.normal ⟨⟨K20.out.1.cellF (q:=2) hi (fun _ _ _ _=> rfl),K20.out.2.cell 1,fun j x hx=> (K20.out.2.cell (6+j)).trans (by rw[Nat.add_comm];exact hx)⟩,?_⟩
  refine' Ar 26 (by kernel_rfl) ?_ ?_;rotate_left;(simp only[Aa,Ab,Ac];rfl)
  try simp only[Al,Ad,Ae,Af]
  go_wp2_with fail
  refine QK.normal ⟨⟨K20.out.1.cellF (q:=2) hi (fun _ _ _ _=> rfl),K20.out.2.cell 1,fun j x hx=> (K20.out.2.cell (6+j)).trans (by rw[Nat.add_comm];exact hx)⟩,?_⟩
  refine' Ar 27 (by kernel_rfl) ?_ ?_;rotate_left;(simp only[Aa,Ab,Ac];rfl)
  have c6:=K20.out.1.cellF (q:=8) hi (fun _ _ _ _=> rfl)
  have q6:=K20.out.1.freeF (q:=8) hi (by omega)
  try simp only[Al,Ad,Ae,Af]
  go_wp2_with fail
  clear c6 q6
  have K22:=Ag (show OwnX w0 m0 (w.heap.size::xs) (u19.setCells g (i* 14+8) [.int .i64 p.u]) bp 97 [(.slice (some ⟨g,0,none⟩) n c),vc,(.slice aw wn cw)] (.slice (some ⟨g,0,none⟩) n c) vc (.slice aw wn cw) (fs.set i ⟨f.nm,f.p,f.v+1,f.p.e,p.u,f.b⟩) cv ws ((tcn,p.b)::ex)∧Blk (u19.setCells g (i* 14+8) [.int .i64 p.u]) (w.heap.size) 31 (opC p tco) from⟨by obtain⟨-,_,_,_,_,-,-,-,-,k6,k7,k8,-⟩:=K20.out.1.elF hi;exact k8 p.u,K20.out.2.keep (AI g _ _ _) (fun e=> (K20.out.1.ne (List.mem_cons_self:w.heap.size∈(w.heap.size::xs))).2.1 (by rw[show w.heap.size=g from e];exact AG.2 rfl))⟩)
  rw[show u19.setCell ⟨g,i* 14+8,none⟩ (.int .i64 p.u)=(u19.setCells g (i* 14+8) [.int .i64 p.u]) from rfl]
  generalize (u19.setCells g (i* 14+8) [.int .i64 p.u])=u21 at K22 ⊢
  refine QK.normal ⟨⟨K22.out.1.cellF (q:=2) hi (fun _ _ _ _=> rfl),K22.out.2.cell 1,fun j x hx=> (K22.out.2.cell (6+j)).trans (by rw[Nat.add_comm];exact hx)⟩,?_⟩
  refine' Ar 28 (by kernel_rfl) ?_ ?_;rotate_left;(simp only[Aa,Ab,Ac];rfl)
  try simp only[Al,Ad,Ae,Af]
  go_wp2_with fail
  refine QK.normal ⟨⟨K22.out.1.cellF (q:=2) hi (fun _ _ _ _=> rfl),K22.out.2.cell 1,fun j x hx=> (K22.out.2.cell (6+j)).trans (by rw[Nat.add_comm];exact hx)⟩,?_⟩
  refine' Ar 29 (by kernel_rfl) ?_ ?_;rotate_left;(simp only[Aa,Ab,Ac];rfl)
  try simp only[Al,Ad,Ae,Af]
  go_wp2_with fail
  refine QK.normal ⟨⟨K22.out.1.cellF (q:=2) hi (fun _ _ _ _=> rfl),K22.out.2.cell 1,fun j x hx=> (K22.out.2.cell (6+j)).trans (by rw[Nat.add_comm];exact hx)⟩,?_⟩
  refine' Ar 30 (by kernel_rfl) ?_ ?_;rotate_left;(simp only[Aa,Ab,Ac];rfl)
  obtain⟨-,_,_,_,_,-,-,-,hth,-,-,-,k9,-⟩:=K22.out.1.elF hi
  have HNL:=Ag ((K22.out.1.ex _ List.mem_cons_self).len)
  have HNO:=Ag ((K22.out.1.ex _ List.mem_cons_self).one)
  try simp only[Al,Ad,Ae,Af]
  refine wpList_store_mid rfl 29 (.tmp 33) (.tmp 25) rfl g (i* 14+9) tcn.toArray rfl rfl (by simp only[List.size_toArray];rw[HNL.out];exact fun j hj=> by rw[Nat.add_assoc];exact hth (9+j) (by omega)) (by simp only[List.size_toArray];rw[HNL.out];exact Tryz.infoTm) (all_oneCell_toArray HNO.out) ?_
  have K24:=Ag (show OwnX w0 m0 (w.heap.size::xs) (u21.setCells g (i* 14+9) tcn) bp 97 [(.slice (some ⟨g,0,none⟩) n c),vc,(.slice aw wn cw)] (.slice (some ⟨g,0,none⟩) n c) vc (.slice aw wn cw) (fs.set i ⟨f.nm,f.p,f.v+1,f.p.e,p.u,p.b⟩) cv ws ((tcn,p.b)::ex)∧Blk (u21.setCells g (i* 14+9) tcn) (w.heap.size) 31 (opC p tco) from⟨k9 tcn p.b (K22.out.1.ex _ List.mem_cons_self),K22.out.2.keep (AI g _ _ _) (fun e=> (K22.out.1.ne (List.mem_cons_self:w.heap.size∈(w.heap.size::xs))).2.1 (by rw[show w.heap.size=g from e];exact AG.2 rfl))⟩)
  clear hth k9 HNL HNO
  try simp only[List.toList_toArray]
  generalize (u21.setCells g (i* 14+9) tcn)=u23 at K24 ⊢
  refine QK.normal ⟨⟨K24.out.1.cellF (q:=2) hi (fun _ _ _ _=> rfl),K24.out.2.cell 1,fun j x hx=> (K24.out.2.cell (6+j)).trans (by rw[Nat.add_comm];exact hx)⟩,?_⟩
  refine wpAnyH_done (by kernel_rfl) ?_ _
  refine NoPanic.normal ?_
  try simp only[Al,Ad,Ae,Af]
  obtain⟨-,ur,uq,ug,tcw,hra,-,htm,-⟩:=K24.out.1.elF hi
  have HRA:=Ag hra
  have HTM:=Ag htm
  have HTW:=Ag htm.len
  clear hra htm
  go_wp2_with (first
  | (with_reducible refine Ap rfl 45 (.tmp 35) rfl g (i* 14) rfl (flC f.nm f.p.o f.p.e ur uq ug (f.v+1) f.p.e p.u tcw) _ HRA.out Tryz.underlying45 rfl (At Tryz.infoFl (by simp[flC,HTW.out])) ?_))
  refine(Hk ⟨f.nm,f.p,f.v+1,f.p.e,p.u,p.b⟩ ur uq ug tcw _ u23 HTM.out).mono ?_
  rintro e' b1 ⟨rfl,hb⟩
  have HB1:=Ag (show OwnX w0 m0 (w.heap.size::xs) b1 bp 97 [(.slice (some ⟨g,0,none⟩) n c),vc,(.slice aw wn cw)] (.slice (some ⟨g,0,none⟩) n c) vc (.slice aw wn cw) (fs.set i ⟨f.nm,f.p,f.v+1,f.p.e,p.u,p.b⟩) cv ws ((tcw,p.b)::ex)∧Blk b1 (w.heap.size) 31 (opC p tco) from⟨(((K24.out.1.exadd HTM.out).below hb).less ((tcw,p.b)::ex) (fun q hq=> by
   rcases List.mem_cons.1 hq with h|h
   ·exact h ▸ List.mem_cons_self
   ·exact List.mem_cons_of_mem _ (List.mem_cons_of_mem _ h))),K24.out.2.below hb K24.out.2.lt⟩)
  clear hb HRA HTM K24
  have HSZ:=Ag (show w0.heap.size≤b1.heap.size from HB1.out.1.ch.size)
  have HWL:=Ag (show(wrC f.nm (f.v+1) f.p.e p.u tcw).length=(wrC ⟨#[]⟩ 0 0 0 (tmC 0 0 0 ⟨#[]⟩ (.slice none 0 0))).length from by simp[wrC,HTW.out,tmC])
  have HWL9:=Ag (show(wrC f.nm (f.v+1) f.p.e p.u tcw).length=9 from by simp[wrC,HTW.out])
  have HWO:=Ag (show ∀ v∈wrC f.nm (f.v+1) f.p.e p.u tcw,v.oneCell'=true from WrC.one (f:=Bl ⟨f.nm,f.p,f.v+1,f.p.e,p.u,p.b⟩) ⟨tcw,rfl,HB1.out.1.ex _ List.mem_cons_self⟩)
  go_wp2_with (first
  | ((with_reducible refine Av b1 rfl 56 rfl (wrC ⟨#[]⟩ 0 0 0 (tmC 0 0 0 ⟨#[]⟩ (.slice none 0 0))) Tryz.zeroWr9 ?_);intro b2 hb hbel hsz;have HB2:=hJ2 (HB1.out.1.rsv hbel (Ah _) hb.lt) hb;clear hb hbel hsz)
  | ((with_reducible refine Ao b2 rfl 56 (.tmp 6) (.tmp 37) rfl (b1.heap.size) 56 (wrC ⟨#[]⟩ 0 0 0 (tmC 0 0 0 ⟨#[]⟩ (.slice none 0 0))) (wrC f.nm (f.v+1) f.p.e p.u tcw) HB2.out.2 rfl rfl HWL.out (At Tryz.infoWr HWL9.out) HWO.out ?_);intro b3 hb hc hs;have HB3:=hJ2 (HB2.out.1.setX (List.mem_cons_self) HSZ.out hc) hb;clear hb hc hs)
  | (with_reducible refine Ap rfl 29 (.tmp 38) rfl (b1.heap.size) 4 rfl tcw _ (Dl HB3.out.2) Tryz.underlying29 rfl (At Tryz.infoTm HTW.out) ?_))
  refine(Ca p.b tcw _ b3 HB.out.2 (HB3.out.1.ex _ List.mem_cons_self)).mono ?_
  rintro e' b4 ⟨tc3,rfl,ht,hb⟩
  have HT3:=Ag ht.len
  have HO3:=Ag ht.one
  have HB4:=hJ2 (HB3.out.1.more ht hb) (HB3.out.2.below hb HB3.out.2.lt)
  clear ht hb HB3 HB2 HB1
  have HFIT:=Ag (show 4+tc3.length≤(wrC f.nm (f.v+1) f.p.e p.u tcw).length from by rw[HWL9.out,HT3.out];omega)
  have HTT:=Ag (show tc3.length=tcw.length from by rw[HT3.out,HTW.out])
  go_upto_region 4 with(first
  | ((with_reducible refine Bg b4 rfl 29 (.tmp 41) (.tmp 40) rfl (b1.heap.size) 4 56 _ tc3 (wrC f.nm (f.v+1) f.p.e p.u tc3) HB4.out.2 rfl rfl HFIT.out (At Tryz.infoTm HT3.out) HO3.out (Ea _ _ _ _ _ _ HTT.out) ?_);intro b5 hb hc hs;have HB5:=hJ2 (HB4.out.1.setX (List.mem_cons_self) HSZ.out hc) hb;clear hb hc hs))
  try simp only[Al,Ad,Ae,Af]
  have HW3:=Ag (show(wrC f.nm (f.v+1) f.p.e p.u tc3).length=9 from by simp[wrC,HT3.out])
  go_wp2_with fail
  refine AZ (fun W=> W.cell? ⟨bp,2,none⟩=some (.slice aw wn cw)∧W.rangeAt b1.heap.size 0 (wrC f.nm (f.v+1) f.p.e p.u tc3)) 12 [0,1,2,3,4,5,6] 6 (by kernel_rfl) rfl (by kernel_rfl) (by kernel_rfl) ⟨HB5.out.1.bl.cell 2,As HB5.out.2⟩ ?_
  iterate 7(refine' AH.run ?_ ?_ ?_ ?_;rotate_left 2;(simp only[Aa,Ab,Ac];rfl);rfl;(rintro w' ⟨k0,k1⟩;first|exact AA rfl rfl k1 Tryz.underlying56 rfl (At Tryz.infoWr HW3.out)|(go_simp;with_reducible rfl));simp only[Al,Ad,Ae,Af])
  have sm:=(Sm.refl b5).drew
  have HV26:=hJ2 (HB5.out.1.below (sm.below _)) (HB5.out.2.below (sm.below _) HB5.out.2.lt)
  clear sm
  generalize b5.drew=v25 at HV26 ⊢
  refine' AB 7 (by kernel_rfl) ?_ ?_;rotate_left;(simp only[Aa,Ab,Ac];rfl)
  try simp only[Al,Ad,Ae,Af]
  refine Co v25 rfl (.tmp 48) rfl (wrC f.nm (f.v+1) f.p.e p.u tc3) HW3.out rfl ?_
  intro e1 hb hbel hsz
  have HE1:=hJ3 (HV26.out.1.below hbel) (HV26.out.2.below hbel HV26.out.2.lt) hb
  clear hb hbel hsz
  refine QK.normal ⟨fun _=> ⟨HE1.out.1.bl.cell 2,As HE1.out.2.1⟩,?_⟩
  refine' AB 8 (by kernel_rfl) ?_ ?_;rotate_left;(simp only[Aa,Ab,Ac];rfl)
  try simp only[Al,Ad,Ae,Af]
  at_builtin
  refine DY rfl (.tmp 47) (.tmp 49) rfl HE1.out.1 rfl (x:=Bl ⟨f.nm,f.p,f.v+1,f.p.e,p.u,p.b⟩) rfl HE1.out.2.2 ⟨tc3,rfl,HE1.out.1.ex _ List.mem_cons_self⟩ HN.out ?_
  intro ay cy e2 hown hc
  have HE2:=hJ2 hown (HE1.out.2.1.keep hc (fun e=> (HE1.out.1.ne (List.mem_cons_self:b1.heap.size∈(b1.heap.size::w.heap.size::xs))).2.2.2.1 (AG.2 e)))
  clear hown hc
  refine QK.normal ⟨fun _=> ⟨HE2.out.1.bl.cell 2,As HE2.out.2⟩,?_⟩
  refine AL (by kernel_rfl) AE (fuel:=3) (fun _=> ⟨HE2.out.1.bl.cell 2,As HE2.out.2⟩) 9 (by kernel_rfl) ?_
  refine' AH.run ?_ ?_ ?_ ?_;rotate_left 2;(simp only[Aa,Ab,Ac];rfl);rfl;(rintro w' -;go_simp;with_reducible rfl);simp only[Al,Ad,Ae,Af]
  refine AL (by kernel_rfl) AE (fuel:=2) (fun _=> ⟨HE2.out.1.bl.cell 2,As HE2.out.2⟩) 10 (by kernel_rfl) ?_
  refine' AH.run ?_ ?_ ?_ ?_;rotate_left 2;(simp only[Aa,Ab,Ac];rfl);rfl;(rintro w' -;go_simp;with_reducible rfl);simp only[Al,Ad,Ae,Af]
  refine AL (by kernel_rfl) AE (fuel:=1) (fun _=> ⟨HE2.out.1.bl.cell 2,As HE2.out.2⟩) 11 (by kernel_rfl) ?_
  refine' AH.run ?_ ?_ ?_ ?_;rotate_left 2;(simp only[Aa,Ab,Ac];rfl);rfl;(rintro w' -;go_simp;with_reducible rfl);simp only[Al,Ad,Ae,Af]
  refine' AB 12 (by kernel_rfl) ?_ ?_;rotate_left;(simp only[Aa,Ab,Ac];rfl)
  have hbl:=HE2.out.1.bl
  try simp only[Al,Ad,Ae,Af]
  refine AK e2 rfl 24 (.tmp 53) (.tmp 50) rfl bp 2 97 _ hbl rfl (.slice ay (ws.length+1) cy) rfl (by simp) Tryz.sizeSw1 rfl rfl ?_
  intro e3 hb hc hs
  have HE3:=Ag (show OwnX w0 m0 (b1.heap.size::w.heap.size::xs) e3 bp 97 [(.slice (some ⟨g,0,none⟩) n c),vc,(.slice ay (ws.length+1) cy)] (.slice (some ⟨g,0,none⟩) n c) vc (.slice ay (ws.length+1) cy) (fs.set i ⟨f.nm,f.p,f.v+1,f.p.e,p.u,p.b⟩) cv (ws ++ [Bl ⟨f.nm,f.p,f.v+1,f.p.e,p.u,p.b⟩]) ((tc3,p.b)::(tcw,p.b)::ex) from HE2.out.1.setB hc hb)
  clear hb hc hs hbl
  refine QK.normal ⟨fun h=> absurd h (by decide),?_⟩
  refine Bc (by kernel_rfl) ?_ _
  refine NoPanic.normal ?_
  go_wp2_with fail
  go_end0
  exact⟨rfl,_,((HE3.out.less ex (fun q hq=> List.mem_cons_of_mem _ (List.mem_cons_of_mem _ hq))).keepoff (fun k hk=> List.mem_cons_of_mem _ (List.mem_cons_of_mem _ hk)))⟩
end Go.Proofs.YtgdlfiphihaooaaGreat
namespace Go.Proofs.YtgdlfiphihaooaaGreat
open Go Go.RowKit Go.Sort
theorem Fh {P:Int→Bool} {l:List Int} (h:BK P l=true):∀ y∈l,P y=true:=fun y hy=> by
 obtain⟨i,hi,rfl⟩:=List.mem_iff_getElem.1 hy
 have h1:=List.all_eq_true.1 h i (by simpa using hi)
 unfold Cz at h1
 rw[CA hi] at h1
 simp at h1
 exact h1.1
theorem Gz {P:Int→Bool} {l:List Int} (hs:l.Pairwise (·<·)) (h:∀ y∈l,P y=true):BK P l=true:=by
 refine List.all_eq_true.2 fun i hi=> ?_
 have hi':i<l.length:=by simpa using hi
 unfold Cz
 rw[CA hi',h _ (List.getElem_mem hi'),Bool.true_and]
 by_cases h0:i=0
 ·subst h0;rfl
 ·have:=List.pairwise_iff_getElem.1 hs (i - 1) i (by omega) hi' (by omega)
  rw[CA (show i - 1<l.length by omega)]
  simp[this]
theorem Fi {P:Int→Bool} {l:List Int}:BK P l=true↔l.Pairwise (·<·)∧∀ y∈l,P y=true:=
 ⟨fun h=> ⟨CI h,Fh h⟩,fun h=> Gz h.1 h.2⟩
theorem CN {l:List Int} {x:Int}:inB l x=true↔x∈l:=by
 unfold inB
 rw[List.any_eq_true]
 exact⟨fun ⟨y,hy,e⟩=> by
  have:x=y:=by simpa using e
  subst this;exact hy,fun h=> ⟨x,h,by simp⟩⟩
theorem KP {l:List Int} {x:Int}:inB l x=false↔x∉l:=by rw[←CN];simp
theorem Fj:∀ {l:List Int} (x:Int),l.Pairwise (·<·)→l.take (B1 l x)=l.filter (fun y=> decide (y<x))∧l.drop (B1 l x)=l.filter (fun y=> !decide (y<x))
 | [],x,_=> ⟨rfl,rfl⟩
 | a::t,x,h=> by
  have ht:=List.pairwise_cons.1 h
  by_cases ha:a<x
  ·have ih:=Fj x ht.2
   have hN:B1 (a::t) x=B1 t x+1:=by unfold B1;rw[List.countP_cons];simp[ha]
   rw[hN,List.take_succ_cons,List.drop_succ_cons,ih.1,ih.2,List.filter_cons,List.filter_cons]
   simp[ha]
  ·have hall:∀ y∈a::t,¬ y<x:=fun y hy=> by
    rcases List.mem_cons.1 hy with rfl|hy
    ·exact ha
    ·have:=ht.1 y hy;omega
   have hN:B1 (a::t) x=0:=by unfold B1;rw[List.countP_eq_zero];intro y hy;simpa using hall y hy
   rw[hN,List.take_zero,List.drop_zero]
   refine⟨(List.filter_eq_nil_iff.2 (fun y hy=> by simpa using hall y hy)).symm,(List.filter_eq_self.2 (fun y hy=> by simpa using hall y hy)).symm⟩
theorem Ke {l:List Int} {x:Int} (h:l.Pairwise (·<·)):Cr l (B1 l x) x=l.filter (fun y=> decide (y<x)) ++ x::l.filter (fun y=> !decide (y<x)):=by
 unfold Cr;rw[(Fj x h).1,(Fj x h).2]
theorem Iu {l:List Int} {i:Nat} {x y:Int}:y∈Cr l i x↔y=x∨y∈l:=by
 unfold Cr
 rw[List.mem_append,List.mem_cons]
 conv=> rhs;rw[←List.take_append_drop i l,List.mem_append]
 constructor
 ·rintro(h|h|h)
  ·exact .inr (.inl h)
  ·exact .inl h
  ·exact .inr (.inr h)
 ·rintro(h|h|h)
  ·exact .inr (.inl h)
  ·exact .inl h
  ·exact .inr (.inr h)
theorem CK {l:List Int} {x y:Int}:y∈Bv l x↔y=x∨y∈l:=by
 unfold Bv
 split
 ·rename_i h
  have hx:x∈l:=CN.1 h
  constructor
  ·exact .inr
  ·rintro(rfl|h)
   ·exact hx
   ·exact h
 ·exact Iu
theorem GA {l:List Int} {x:Int} (h:l.Pairwise (·<·)):(Bv l x).Pairwise (·<·):=by
 unfold Bv
 split
 ·exact h
 ·rename_i hx
  have hx:x∉l:=KP.1 (Bool.eq_false_iff.2 hx)
  rw[Ke h]
  refine List.pairwise_append.2 ⟨h.filter _,List.pairwise_cons.2 ⟨fun y hy=> ?_,h.filter _⟩,fun a ha b hb=> ?_⟩
  ·have:=List.mem_filter.1 hy
   have h1:¬ y<x:=by simpa using this.2
   have h2:y≠x:=fun e=> hx (e ▸ this.1)
   omega
  ·have h1:a<x:=by simpa using (List.mem_filter.1 ha).2
   rcases List.mem_cons.1 hb with rfl|hb
   ·exact h1
   ·have h2:¬ b<x:=by simpa using (List.mem_filter.1 hb).2
    omega
theorem EB {P:Int→Bool} {l:List Int} {x:Int} (h:BK P l=true) (hx:P x=true):BK P (Bv l x)=true:=
 Gz (GA (CI h)) fun y hy=> by
  rcases CK.1 hy with rfl|hy
  ·exact hx
  ·exact Fh h y hy
theorem Dc {P:Int→Bool} {l:List Int} {y:Int}:y∈Bd P l↔y∈l∧P y=false:=by unfold Bd;rw[List.mem_filter];simp
theorem EC {P Q:Int→Bool} {l:List Int} (h:BK P l=true):BK P (Bd Q l)=true:=
 Gz ((CI h).filter _) fun y hy=> Fh h y (Dc.1 hy).1
structure OkP (p:PmD):Prop where
 o:AX p.o=true
 e:1≤p.e∧p.e≤8
 r:BK (BE p.o) p.r=true
 q:BK (BE p.o) p.q=true
 g:BK BD p.g=true
 w:∀ n∈p.q,n∈p.r
theorem DW {p:PmD}:okB p=true↔OkP p:=by
 unfold okB
 simp only[Bool.and_eq_true,decide_eq_true_eq,Bool.not_eq_true']
 have hw:(p.q.any (fun n=> !(p.r.any (n==·)))=false)↔∀ n∈p.q,n∈p.r:=by
  rw[List.any_eq_false]
  refine forall_congr' fun n=> forall_congr' fun hn=> ?_
  rw[←CN]
  unfold inB
  simp
 rw[hw]
 exact⟨fun ⟨a,b,c,d,e,f,g⟩=> ⟨a,⟨b,c⟩,d,e,f,g⟩,fun h=> ⟨h.o,h.e.1,h.e.2,h.r,h.q,h.g,h.w⟩⟩
theorem Iv {p:PmD} (hp:OkP p) {b n:Int} {wr:Bool} (h:(B9 p b n wr).1=0):
  b=p.o∧BE p.o n=true∧¬ (n∈p.r∧(wr=false∨n∈p.q))∧(B9 p b n wr).2={p with r:=Bv p.r n,q:=if wr=true then Bv p.q n else p.q}∧OkP (B9 p b n wr).2:=by
 unfold B9 at h ⊢
 by_cases h1:b=p.o
 ·rw[if_neg (by simpa using h1)] at h ⊢
  by_cases h2:AX n=false∨n=p.o
  ·rw[if_pos h2] at h;cases h
  ·rw[if_neg h2] at h ⊢
   by_cases h3:inB p.r n=true∧(wr=false∨inB p.q n=true)
   ·rw[if_pos h3] at h;cases h
   ·rw[if_neg h3]
    have ho:BE p.o n=true:=by
     unfold BE
     have a:AX n=true:=by
      cases hu:AX n with
      | true=> rfl
      | false=> exact(h2 (.inl hu)).elim
     have b:n≠p.o:=fun e=> h2 (.inr e)
     simp[a,b]
    refine⟨h1,ho,by rw[CN,CN] at h3;exact h3,rfl,hp.o,hp.e,EB hp.r ho,?_,hp.g,fun m hm=> ?_⟩
    ·show BK _ (if wr=true then Bv p.q n else p.q)=true
     split
     ·exact EB hp.q ho
     ·exact hp.q
    ·refine CK.2 ?_
     have hm':m∈(if wr=true then Bv p.q n else p.q):=hm
     split at hm'
     ·rcases CK.1 hm' with h|h
      ·exact .inl h
      ·exact .inr (hp.w m h)
     ·exact .inr (hp.w m hm')
 ·rw[if_pos h1] at h;cases h
end Go.Proofs.YtgdlfiphihaooaaGreat

import Derived.Test.YtgdlfiphihaooaaGreatYq21
set_option linter.unusedSimpArgs false
set_option linter.unusedVariables false
set_option maxRecDepth 100000
set_option maxHeartbeats 8000000
open _root_.List renaming getElem?_toArray→Aa,getElem?_cons_zero→Ab,getElem?_cons_succ→Ac,setIfInBounds_toArray→Ad,set_cons_zero→Ae,set_cons_succ→Af
open _root_.Go.Lib renaming hid→Ag
open _root_.Nat renaming le_refl→Ah,le_trans→Aj,lt_of_lt_of_le→Ak
open _root_.And renaming intro→Ai
open _root_.Go.Act renaming put→Al
namespace Go.Proofs.YtgdlfiphihaooaaGreat
open Go Go.RowKit
theorem PmF.fz1 {xs ms:List Nat} {w w':World} {p:PmD} {vr vq vg:Value} {g:Nat} (h:PmF (Fz xs ms w) w p vr vq vg) (hc:Ch (·=g) w w') (hg:g∈xs):PmF (Fz xs ms w') w' p vr vq vg:=h.keep' hc (fun k hk e=> hk.1.1 (by rw[show k=g from e];exact hg)) (fun k hk=> ⟨hk.1,Ak hk.2 hc.size⟩)
theorem PmF.ones {F:Nat→Prop} {w:World} {p:PmD} {vr vq vg:Value} (h:PmF F w p vr vq vg):vr.oneCell'=true∧vq.oneCell'=true∧vg.oneCell'=true:=⟨h.1.one,h.2.1.one,h.2.2.one⟩
theorem Dv (p:OpM) (tco:List Value) {w0 w:World} {m0 xs:List Nat} {bp:Nat} {vf vc vw:Value} {fs:List FileM} {cv:List CirV} {ws:List WrM} {ex:List (List Value × Tm)}
  (h:OwnX w0 m0 xs w bp 97 [vf,vc,vw] vf vc vw fs cv ws ex) (hb:(tco,p.b)∈ex) (hk:ChkP (⟨fs,cv.map CirV.m,ws⟩:IdM)) (ho:opB p=true) (hall:∀ c∈cv,c.own=true) (hkk:p.k=4∨p.k=5∨p.k=6∨p.k=7):
  Calls Tryz.prog 75 #[.pointer (some ⟨bp,0,none⟩),.agg (opC p tco).toArray] w (G6 w0 m0 xs bp 97 ex (Bf (⟨fs,cv.map CirV.m,ws⟩:IdM) p)):=by
 obtain⟨af,cf,rfl,hf1,hf2⟩:=h.rf.shape
 obtain⟨ac,cc,rfl,hc1,hc2⟩:=h.rc.shape
 obtain⟨aw,cw,rfl,hw1,hw2⟩:=h.rw.shape
 obtain⟨fn,hfn⟩:∃ n,fs.length=n:=⟨_,rfl⟩
 obtain⟨cn,hcn⟩:∃ n,cv.length=n:=⟨_,rfl⟩
 obtain⟨wn,hwn⟩:∃ n,ws.length=n:=⟨_,rfl⟩
 have HN:=Ag (Ai hfn (Ai hcn hwn))
 have hfl:fn≤6:=by have:=hk.fl;simp only at this;omega
 have hcl:cn≤3:=by have:=hk.cl;simp only[List.length_map] at this;omega
 have hwl:wn≤400:=by have:=hk.wl;simp only at this;omega
 rw[hfn,hcn,hwn] at h
 have HOWN:=Ag h
 have HB:=Ag hb
 have HK:=Ag hk
 have HO:=Ag ho
 have HALL:=Ag hall
 have HTL:=Ag (h.ex _ hb).len
 obtain⟨SR,hSR⟩:∃ r,Bf (⟨fs,cv.map CirV.m,ws⟩:IdM) p=r:=⟨_,rfl⟩
 have HSR:=Ag hSR
 rw[hSR]
 have HKK:=Ag hkk
 clear hkk
 clear h hb hk ho hall hfn hcn hwn hSR hf1 hf2 hc1 hc2 hw1 hw2
 obtain⟨⟨ix,th⟩,hsk⟩:∃ r,Bm (⟨fs,cv.map CirV.m,ws⟩:IdM) p.nm=r:=⟨_,rfl⟩
 have HSK:=Ag hsk
 have HF:=Ag (fun (W:World) (hW:IdC (fun _=> True) W [(.slice af fn cf),(.slice ac cn cc),(.slice aw wn cw)] (⟨fs,cv.map CirV.m,ws⟩:IdM))=> show Calls Tryz.prog 25 #[.agg ([(.slice af fn cf),(.slice ac cn cc),(.slice aw wn cw)]:List Value).toArray,.string p.nm] W (fun e w'=> e=.returned (.tuple #[.int .i64 (ix:Nat),.bool th])∧Below W.heap.size W w') from by
  have h:=ER (⟨fs,cv.map CirV.m,ws⟩:IdM) p.nm [(.slice af fn cf),(.slice ac cn cc),(.slice aw wn cw)] _ W hW (by have:=HK.out.fl;simp only at this ⊢;omega)
  rw[show AU (fun x=> BS x.nm p.nm) (⟨fs,cv.map CirV.m,ws⟩:IdM).fs=(ix,th) from hsk] at h
  exact h)
 clear hsk
 obtain⟨⟨jx,is⟩,hsc⟩:∃ r,By (⟨fs,cv.map CirV.m,ws⟩:IdM) p.g=r:=⟨_,rfl⟩
 have HSC:=Ag hsc
 have HFC:=Ag (fun (W:World) (hW:IdC (fun _=> True) W [(.slice af fn cf),(.slice ac cn cc),(.slice aw wn cw)] (⟨fs,cv.map CirV.m,ws⟩:IdM))=> show Calls Tryz.prog 39 #[.agg ([(.slice af fn cf),(.slice ac cn cc),(.slice aw wn cw)]:List Value).toArray,.int .i64 p.g] W (fun e w'=> e=.returned (.tuple #[.int .i64 (jx:Nat),.bool is])∧Below W.heap.size W w') from by
  have h:=DU (⟨fs,cv.map CirV.m,ws⟩:IdM) p.g [(.slice af fn cf),(.slice ac cn cc),(.slice aw wn cw)] _ W hW (by have:=HK.out.cl;omega)
  rw[show AU (fun x=> BA x.n p.g) (⟨fs,cv.map CirV.m,ws⟩:IdM).cs=(jx,is) from hsc] at h
  exact h)
 clear hsc
 go_enter Tryz.func75,Tryz.ntmps75
 go_upto_region 1 with(first
  | ((with_reducible refine Au w rfl 31 (.tmp 1) rfl (opC p tco) rfl ?_);intro a1 hb hbel hsz;have H1:=hJ2 (HOWN.out.rsv hbel (Ah _) hb.lt) hb;clear hb hbel hsz)
  | ((with_reducible refine Av a1 rfl 37 rfl (AD 0 0 0 (tmC 0 0 0 ⟨#[]⟩ (.slice none 0 0))) Tryz.zeroRs ?_);intro a2 hb hbel hsz;have H2:=hJ3 (H1.out.1.rsv hbel (Ah _) hb.lt) (H1.out.2.below hbel H1.out.2.lt) hb;have HSZ:=Ag (show w0.heap.size≤a1.heap.size from H1.out.1.ch.size);clear hb hbel hsz))
 try simp only[Al,Ad,Ae,Af]
 have HG:=hJ2 H1.out.2.lt H2.out.2.2.lt
 go_wp2_with fail
 refine Az (fun W=> W.rangeAt bp 0 [(.slice af fn cf),(.slice ac cn cc),(.slice aw wn cw)]∧W.cell? ⟨w.heap.size,2,none⟩=some (.string p.nm)) [0,1,2,3,4,5] 6 (by kernel_rfl) rfl (by kernel_rfl) (by kernel_rfl) ⟨As H2.out.1.bl,H2.out.2.1.cell 2⟩ ?_
 iterate 6(refine' AH.run ?_ ?_ ?_ ?_;rotate_left 2;(simp only[Aa,Ab,Ac];rfl);rfl;(rintro w' ⟨k0,k1⟩;first|exact AA rfl rfl k0 Tryz.underlying26 rfl (At Tryz.infoId rfl)|(go_simp;with_reducible rfl));simp only[Al,Ad,Ae,Af])
 have sm:=(Sm.refl a2).drew
 have HV2:=hJ3 (H2.out.1.below (sm.below _)) (H2.out.2.1.below (sm.below _) H2.out.2.1.lt) (H2.out.2.2.below (sm.below _) H2.out.2.2.lt)
 clear sm
 generalize a2.drew=v1 at HV2 ⊢
 refine' Ar 6 (by kernel_rfl) ?_ ?_;rotate_left;(simp only[Aa,Ab,Ac];rfl)
 try simp only[Al,Ad,Ae,Af]
 go_wp2_with fail
 refine Calls.mono (HF.out v1 HV2.out.1.idc) ?_
 rintro e' u3 ⟨rfl,hb⟩
 have K4:=hJ3 (HV2.out.1.below hb) (HV2.out.2.1.below hb HV2.out.2.1.lt) (HV2.out.2.2.below hb HV2.out.2.2.lt)
 clear hb
 go_wp2_with fail
 refine QK.normal ⟨⟨As K4.out.1.bl,K4.out.2.1.cell 2⟩,?_⟩
 refine A2 (fuel:=0) (by kernel_rfl) AE ⟨As K4.out.1.bl,K4.out.2.1.cell 2⟩ [7,8,9,10,11] _ _ (by kernel_rfl) ?_
 try simp only[Al]
 iterate 5(refine' AH.run ?_ ?_ ?_ ?_;rotate_left 2;(simp only[Aa,Ab,Ac];rfl);rfl;(rintro w' ⟨k0,k1⟩;first|exact AA rfl rfl k0 Tryz.underlying26 rfl (At Tryz.infoId rfl)|(go_simp;with_reducible rfl));simp only[Al,Ad,Ae,Af])
 refine wpAnyH_done (by kernel_rfl) ?_ _
 refine NoPanic.normal ?_
 cases th
 ·skip
  have HX:=Ag (show SR=((⟨fs,cv.map CirV.m,ws⟩:IdM),A3 4) from by rw[←HSR.out];unfold Bf;rw[HSK.out,if_pos rfl])
  go_wp2_with fail
  refine(Be (4) u3).mono ?_
  rintro e' u5 ⟨rfl,hb⟩
  have K6:=hJ3 (K4.out.1.below hb) (K4.out.2.1.below hb K4.out.2.1.lt) (K4.out.2.2.below hb K4.out.2.2.lt)
  clear hb
  go_wp2_with (first
  | ((with_reducible refine Ao u5 rfl 37 (.tmp 4) (.tmp 24) rfl (a1.heap.size) 37 (AD 0 0 0 (tmC 0 0 0 ⟨#[]⟩ (.slice none 0 0))) (AD (4) 0 0 (tmC 0 0 0 ⟨#[]⟩ (.slice none 0 0))) K6.out.2.2 rfl rfl rfl (Ax rfl) (AN (AS _ _ _ _ _ _ _)) ?_);intro z9 hb hc hs;have HZ:=Ag (Ai (K6.out.1.setX (show a1.heap.size∈_ by simp) HSZ.out hc) hb);clear hb hc hs))
  refine bodyPost_ret (AC Tryz.results75 _ _ (a1.heap.size) _ _ rfl HZ.out.2 _ Tryz.underlying37 rfl (Ax rfl)) rfl ?_
  rw[HX.out]
  exact⟨_,_,_,_,cv,rfl,rfl,HALL.out,((HZ.out.1).keepoff (fun k hk=> by simp[hk])).exadd (Bo _ _)⟩
 ·skip
  have hixl:ix<fs.length:=by
   have h:=(DV (c:=fun x:FileM=> BS x.nm p.nm) (l:=fs) (by rw[show AU (fun x:FileM=> BS x.nm p.nm) fs=(ix,true) from HSK.out])).1
   rw[show AU (fun x:FileM=> BS x.nm p.nm) fs=(ix,true) from HSK.out] at h
   exact h
  obtain⟨g,cf',e,-⟩:=K4.out.1.rf.ptr hixl
  rw[HN.out.1] at e
  obtain⟨rfl,rfl⟩:af=some ⟨g,0,none⟩∧cf=cf':=by simpa using e
  obtain⟨f,hf⟩:∃ f,fs[ix]=f:=⟨_,rfl⟩
  have HFI:=Ag (show fs[ix]?=some f from by rw[List.getElem?_eq_getElem hixl,hf])
  have HSET:=Ag (show fs.set ix f=fs from by rw[←hf,List.set_getElem_self])
  have HFP:=Ag (Bq (HK.out.f f (by show f∈fs;rw[←hf];exact List.getElem_mem hixl)))
  obtain⟨-,vr,vq,vg,tc,hra,hpf,htc,-⟩:=OwnX.elF (f:=f) (by rw[HSET.out];exact K4.out.1) hixl
  have HEL:=Ag (show OwnX w0 m0 (a1.heap.size::w.heap.size::xs) u3 bp 97 [(.slice (some ⟨g,0,none⟩) fn cf),(.slice ac cn cc),(.slice aw wn cw)] (.slice (some ⟨g,0,none⟩) fn cf) (.slice ac cn cc) (.slice aw wn cw) fs cv ws ex∧Blk u3 (w.heap.size) 31 (opC p tco)∧Blk u3 (a1.heap.size) 37 (AD 0 0 0 (tmC 0 0 0 ⟨#[]⟩ (.slice none 0 0)))∧u3.rangeAt g (ix* 14) (flC f.nm f.p.o f.p.e vr vq vg f.v f.e f.u tc)∧PmF (fun _=> True) u3 f.p vr vq vg∧TmC (fun _=> True) u3 tc f.b from⟨K4.out.1,K4.out.2.1,K4.out.2.2,hra,hpf.keep' (Ch.refl (fun _=> False) _) (fun _ _ e=> e) (fun _ _=> trivial),htc.mono fun _ _=> trivial⟩)
  have HIXL:=Ag hixl
  have hixz:(ix:Int)<(fn:Int):=by have:=HN.out.1;omega
  have hix0:(0:Int)≤(ix:Int):=by omega
  clear e hf hra hpf htc hixl K4
  have c0:=HEL.out.1.bl.cell 0
  simp only[Ab,Ac] at c0
  obtain⟨b0,hb0⟩:∃ b,u3=b:=⟨_,rfl⟩
  rw[hb0] at HEL c0 ⊢
  clear hb0
  have HPR:=Ag (show b0.rangeAt g (ix* 14+1) (pmC f.p.o f.p.e vr vq vg) from fun j x hx=> by have h:=HEL.out.2.2.2.1 (1+j) x (by match j,hx with|0,hx=> exact hx|1,hx=> exact hx|2,hx=> exact hx|3,hx=> exact hx|4,hx=> exact hx);rw[←Nat.add_assoc] at h;exact h)
  have HON:=Ag HEL.out.2.2.2.2.1.ones
  have HOLD:=Ag (show PmF (fun k=> True∧k<b0.heap.size) b0 f.p vr vq vg∧TmC (fun k=> True∧k<b0.heap.size) b0 tc f.b from⟨⟨HEL.out.2.2.2.2.1.1.old',HEL.out.2.2.2.2.1.2.1.old',HEL.out.2.2.2.2.1.2.2.old'⟩,TmC.old' _ _ HEL.out.2.2.2.2.2⟩)
  have HGL:=Ag (show g<b0.heap.size from HEL.out.1.lt g (FV g (AG.2 rfl)))
  go_upto_region 6 with(first
  | (with_reducible refine Ap rfl 43 (.tmp 34) rfl g (ix* 14+1) rfl (pmC f.p.o f.p.e vr vq vg) _ HPR.out Tryz.underlying43 rfl (Ay _ _ _ _ _) ?_)
  | ((with_reducible refine Av b0 rfl 43 rfl (pmC 0 0 (.slice none 0 0) (.slice none 0 0) (.slice none 0 0)) Tryz.zeroPm ?_);intro b2 hb hbel hsz;have HB2:=hJ7 (HEL.out.1.rsv hbel (Ah _) hb.lt) (HEL.out.2.1.below hbel HEL.out.2.1.lt) (HEL.out.2.2.1.below hbel HEL.out.2.2.1.lt) (AF HEL.out.2.2.2.1 hbel) (HEL.out.2.2.2.2.1.below hbel) (HEL.out.2.2.2.2.2.below hbel) hb;have HBW:=Ag (Ai hbel trivial);clear hb hbel hsz)
  | ((with_reducible refine Ao b2 rfl 43 (.tmp 8) (.tmp 35) rfl (b0.heap.size) 43 (pmC 0 0 (.slice none 0 0) (.slice none 0 0) (.slice none 0 0)) (pmC f.p.o f.p.e vr vq vg) HB2.out.2.2.2.2.2.2 rfl rfl rfl (Ay _ _ _ _ _) (Bw HON.out.1 HON.out.2.1 HON.out.2.2) ?_);intro b3 hb hc hs;have HB3:=Ag (show OwnX w0 m0 (b0.heap.size::a1.heap.size::w.heap.size::xs) b3 bp 97 [(.slice (some ⟨g,0,none⟩) fn cf),(.slice ac cn cc),(.slice aw wn cw)] (.slice (some ⟨g,0,none⟩) fn cf) (.slice ac cn cc) (.slice aw wn cw) fs cv ws ex∧Blk b3 (w.heap.size) 31 (opC p tco)∧Blk b3 (a1.heap.size) 37 (AD 0 0 0 (tmC 0 0 0 ⟨#[]⟩ (.slice none 0 0)))∧b3.rangeAt g (ix* 14) (flC f.nm f.p.o f.p.e vr vq vg f.v f.e f.u tc)∧PmF (fun _=> True) b3 f.p vr vq vg∧TmC (fun _=> True) b3 tc f.b∧Blk b3 (b0.heap.size) 43 (pmC f.p.o f.p.e vr vq vg) from⟨HB2.out.1.setX List.mem_cons_self (Aj HEL.out.1.ch.size (Ah _)) hc,HB2.out.2.1.keep hc (fun e=> absurd (show w.heap.size=b0.heap.size from e) (by have h1:=HEL.out.2.2.1.lt;have:=HG.out;omega)),HB2.out.2.2.1.keep hc (fun e=> absurd (show a1.heap.size=b0.heap.size from e) (by have h1:=HEL.out.2.2.1.lt;have:=HG.out;omega)),BJ HB2.out.2.2.2.1 hc (fun e=> absurd (show g=b0.heap.size from e) (by have h1:=HGL.out;omega)),(HOLD.out.1.below HBW.out.1).keep' hc (fun k hk e=> by have e:k=b0.heap.size:=e;have:=hk.2;omega) (fun _ _=> trivial),TmC.keep' hc (fun k hk e=> by have e:k=b0.heap.size:=e;have:=hk.2;omega) (fun _ _=> trivial) _ _ (HOLD.out.2.below HBW.out.1),hb⟩);clear hb hc hs))
  try simp only[Al,Ad,Ae,Af]
  clear c0 HB2 HPR
  obtain⟨⟨q,er⟩,hqr⟩:∃ r,BV (⟨fs,cv.map CirV.m,ws⟩:IdM) f.p p=r:=⟨_,rfl⟩
  have HQR:=Ag hqr
  clear hqr
  rcases HKK.out with hk|hk|hk|hk
  ·skip
   have HK2:=Ag hk
   have HC0:=Ag (show(opC p tco)[0]?=some (.int .i64 4) from by show some (Value.int .i64 p.k)=_;rw[hk])
   clear hk
   have HRB:=Ag (show a1.heap.size<b0.heap.size from HEL.out.2.2.1.lt)
   have HSB:=Ag (show w0.heap.size≤b0.heap.size from HEL.out.1.ch.size)
   have c0:b3.cell? ⟨w.heap.size,0,none⟩=some (.int .i64 4):=(HB3.out.2.1.cell 0).trans HC0.out
   have HPQ:=Ag (show Bj f.p (B9 f.p p.u p.t p.wr)=(q,er) from by rw[←HQR.out];unfold BV;rw[if_pos HK2.out])
   have d1:b3.cell? ⟨w.heap.size,1,none⟩=some (.int .i64 p.u):=HB3.out.2.1.cell 1
   have d3:b3.cell? ⟨w.heap.size,3,none⟩=some (.int .i64 p.t):=HB3.out.2.1.cell 3
   have d5:b3.cell? ⟨w.heap.size,5,none⟩=some (.bool p.wr):=HB3.out.2.1.cell 5
   go_wp2_with (first
  | (with_reducible refine Ap rfl 43 (.tmp 8) rfl (b0.heap.size) 0 rfl (pmC f.p.o f.p.e vr vq vg) _ (As HB3.out.2.2.2.2.2.2) Tryz.underlying43 rfl (Ay _ _ _ _ _) ?_))
   refine(JY f.p p.u p.t p.wr vr vq vg b3 HB3.out.2.2.2.2.1.s HFP.out.1.pml).mono ?_
   rintro e' k1 ⟨ur,uq,ug,rfl,hps,hb,hab⟩
   rw[show Bj f.p (B9 f.p p.u p.t p.wr)=(q,er) from HPQ.out] at hps ⊢
   have HRL:=Ag (show a1.heap.size<b0.heap.size from HRB.out)
   have HSG:=Ag (show w0.heap.size≤b0.heap.size from HSB.out)
   have HK1:=hJ5 (HB3.out.1.below hb) (HB3.out.2.1.below hb HB3.out.2.1.lt) (HB3.out.2.2.1.below hb HB3.out.2.2.1.lt) (HB3.out.2.2.2.2.2.2.below hb HB3.out.2.2.2.2.2.2.lt) (HB3.out.1.pm hb hps hab)
   have HONK:=Ag HK1.out.2.2.2.2.ones
   clear hps hb hab d1 d3 d5
   go_upto_region 20 with(first
  | ((with_reducible refine Ao k1 rfl 43 (.tmp 8) (.tmp 49) rfl (b0.heap.size) 43 (pmC f.p.o f.p.e vr vq vg) (pmC q.o q.e ur uq ug) HK1.out.2.2.2.1 rfl rfl rfl (Ay _ _ _ _ _) (Bw HONK.out.1 HONK.out.2.1 HONK.out.2.2) ?_);intro k2 hb hc hs;have HK2w:=Ag (show OwnX w0 m0 (b0.heap.size::a1.heap.size::w.heap.size::xs) k2 bp 97 [(.slice (some ⟨g,0,none⟩) fn cf),(.slice ac cn cc),(.slice aw wn cw)] (.slice (some ⟨g,0,none⟩) fn cf) (.slice ac cn cc) (.slice aw wn cw) fs cv ws ex∧Blk k2 (w.heap.size) 31 (opC p tco)∧Blk k2 (a1.heap.size) 37 (AD 0 0 0 (tmC 0 0 0 ⟨#[]⟩ (.slice none 0 0)))∧Blk k2 (b0.heap.size) 43 (pmC q.o q.e ur uq ug)∧PmF (Fz (b0.heap.size::a1.heap.size::w.heap.size::xs) (msL bp (.slice (some ⟨g,0,none⟩) fn cf) (.slice ac cn cc) (.slice aw wn cw) cv) k2) k2 q ur uq ug from⟨HK1.out.1.setX List.mem_cons_self HSG.out hc,HK1.out.2.1.keep hc (fun e=> absurd (show w.heap.size=b0.heap.size from e) (by have h1:=HRL.out;have:=HG.out;omega)),HK1.out.2.2.1.keep hc (fun e=> absurd (show a1.heap.size=b0.heap.size from e) (by have h1:=HRL.out;have:=HG.out;omega)),hb,HK1.out.2.2.2.2.fz1 hc List.mem_cons_self⟩);clear hb hc hs))
   try simp only[Al,Ad,Ae,Af]
   clear c0
   by_cases hz:er≠0
   ·have hze:(er==0)=false:=by simpa using hz
    have hze2:(er !=0)=true:=by simpa using hz
    have HX:=Ag (show SR=((⟨fs,cv.map CirV.m,ws⟩:IdM),A3 er) from by rw[←HSR.out];unfold Bf;rw[HSK.out,if_neg (by simp),show(⟨fs,cv.map CirV.m,ws⟩:IdM).fs[ix]?=some f from HFI.out];simp only;rw[HQR.out,if_pos hz])
    clear hz
    go_wp2_with fail
    refine(Be (er) k2).mono ?_
    rintro e' u7 ⟨rfl,hb⟩
    have K8:=Ag (show OwnX w0 m0 (b0.heap.size::a1.heap.size::w.heap.size::xs) u7 bp 97 [(.slice (some ⟨g,0,none⟩) fn cf),(.slice ac cn cc),(.slice aw wn cw)] (.slice (some ⟨g,0,none⟩) fn cf) (.slice ac cn cc) (.slice aw wn cw) fs cv ws ex∧Blk u7 (w.heap.size) 31 (opC p tco)∧Blk u7 (a1.heap.size) 37 (AD 0 0 0 (tmC 0 0 0 ⟨#[]⟩ (.slice none 0 0)))∧Blk u7 (b0.heap.size) 43 (pmC q.o q.e ur uq ug)∧PmF (Fz (b0.heap.size::a1.heap.size::w.heap.size::xs) (msL bp (.slice (some ⟨g,0,none⟩) fn cf) (.slice ac cn cc) (.slice aw wn cw) cv) u7) u7 q ur uq ug from⟨(HK2w.out.1.below hb),HK2w.out.2.1.below hb HK2w.out.2.1.lt,HK2w.out.2.2.1.below hb HK2w.out.2.2.1.lt,HK2w.out.2.2.2.1.below hb HK2w.out.2.2.2.1.lt,(PmF.keep' HK2w.out.2.2.2.2 (Ch.of_below (S:=fun _=> False) hb (Ah _)) (fun _ _ e=> e) (fun k hk=> ⟨hk.1,Ak hk.2 hb.size⟩))⟩)
    clear hb
    go_wp2_with (first
  | ((with_reducible refine Ao u7 rfl 37 (.tmp 4) (.tmp 113) rfl (a1.heap.size) 37 (AD 0 0 0 (tmC 0 0 0 ⟨#[]⟩ (.slice none 0 0))) (AD (er) 0 0 (tmC 0 0 0 ⟨#[]⟩ (.slice none 0 0))) K8.out.2.2.1 rfl rfl rfl (Ax rfl) (AN (AS _ _ _ _ _ _ _)) ?_);intro z9 hb hc hs;have HZ:=Ag (Ai (K8.out.1.setX (show a1.heap.size∈_ by simp) HSZ.out hc) hb);clear hb hc hs))
    refine bodyPost_ret (AC Tryz.results75 _ _ (a1.heap.size) _ _ rfl HZ.out.2 _ Tryz.underlying37 rfl (Ax rfl)) rfl ?_
    rw[HX.out]
    exact⟨_,_,_,_,cv,rfl,rfl,HALL.out,((HZ.out.1).keepoff (fun k hk=> by simp[hk])).exadd (Bo _ _)⟩
   ·have hz0:er=0:=by omega
    subst hz0
    have HX:=Ag (show SR=(⟨fs.set ix ⟨f.nm,q,f.v,f.e,f.u,f.b⟩,cv.map CirV.m,ws⟩,A3 0) from by rw[←HSR.out];unfold Bf;rw[HSK.out,if_neg (by simp),show(⟨fs,cv.map CirV.m,ws⟩:IdM).fs[ix]?=some f from HFI.out];simp only;rw[HQR.out,if_neg (by simp)])
    clear hz
    obtain⟨-,_,_,_,_,-,-,-,hth,-,-,-,-,hkp⟩:=OwnX.elF (f:=f) (by rw[HSET.out];exact HK2w.out.1) HIXL.out
    have HONQ:=Ag HK2w.out.2.2.2.2.ones
    have HTH:=Ag (show k2.there g (ix* 14+1) ((pmC q.o q.e ur uq ug):List Value).toArray.size from fun j hj=> by rw[Nat.add_assoc];exact hth (1+j) (by simp[pmC] at hj;omega))
    have HPUT:=Ag ((hkp q ur uq ug HK2w.out.2.2.2.2).keepoff (xs':=(a1.heap.size::w.heap.size::xs)) (fun k hk=> List.mem_cons_of_mem _ hk))
    clear hth hkp
    go_upto_region 23 with(first
  | (with_reducible refine Ap rfl 43 (.tmp 8) rfl (b0.heap.size) 0 rfl (pmC q.o q.e ur uq ug) _ (As HK2w.out.2.2.2.1) Tryz.underlying43 rfl (Ay _ _ _ _ _) ?_)
  | ((with_reducible refine wpList_store_mid rfl 43 (.tmp 117) (.tmp 115) rfl g (ix* 14+1) ((pmC q.o q.e ur uq ug):List Value).toArray rfl rfl HTH.out (Ay _ _ _ _ _) (all_oneCell_toArray (Bw HONQ.out.1 HONQ.out.2.1 HONQ.out.2.2)) ?_);have HY9:=Ag (show OwnX w0 m0 (a1.heap.size::w.heap.size::xs) (k2.setCells g (ix* 14+1) (pmC q.o q.e ur uq ug)) bp 97 [(.slice (some ⟨g,0,none⟩) fn cf),(.slice ac cn cc),(.slice aw wn cw)] (.slice (some ⟨g,0,none⟩) fn cf) (.slice ac cn cc) (.slice aw wn cw) (fs.set ix ⟨f.nm,q,f.v,f.e,f.u,f.b⟩) cv ws ex∧Blk (k2.setCells g (ix* 14+1) (pmC q.o q.e ur uq ug)) (w.heap.size) 31 (opC p tco)∧Blk (k2.setCells g (ix* 14+1) (pmC q.o q.e ur uq ug)) (a1.heap.size) 37 (AD 0 0 0 (tmC 0 0 0 ⟨#[]⟩ (.slice none 0 0))) from⟨HPUT.out,HK2w.out.2.1.keep (AI g _ _ _) (fun e=> (HK2w.out.1.ne (show w.heap.size∈(b0.heap.size::a1.heap.size::w.heap.size::xs) by simp)).2.1 (by rw[show w.heap.size=g from e];exact AG.2 rfl)),HK2w.out.2.2.1.keep (AI g _ _ _) (fun e=> (HK2w.out.1.ne (show a1.heap.size∈(b0.heap.size::a1.heap.size::w.heap.size::xs) by simp)).2.1 (by rw[show a1.heap.size=g from e];exact AG.2 rfl))⟩);try simp only[List.toList_toArray];generalize (k2.setCells g (ix* 14+1) (pmC q.o q.e ur uq ug))=y9 at HY9 ⊢))
    try simp only[Al,Ad,Ae,Af]
    go_wp2_with (first
  | (with_reducible refine Bb rfl rfl ?_)
  | ((with_reducible refine Ao y9 rfl 37 (.tmp 4) (.tmp 118) rfl (a1.heap.size) 37 (AD 0 0 0 (tmC 0 0 0 ⟨#[]⟩ (.slice none 0 0))) (AD 0 0 0 (tmC 0 0 0 ⟨#[]⟩ (.slice none 0 0))) HY9.out.2.2 rfl rfl rfl (Ax rfl) (AN (AS _ _ _ _ _ _ _)) ?_);intro z9 hb hc hs;have HZ:=Ag (Ai (HY9.out.1.setX (show a1.heap.size∈_ by simp) HSZ.out hc) hb);clear hb hc hs))
    refine bodyPost_ret (AC Tryz.results75 _ _ (a1.heap.size) _ _ rfl HZ.out.2 _ Tryz.underlying37 rfl (Ax rfl)) rfl ?_
    rw[HX.out]
    exact⟨_,_,_,_,cv,rfl,rfl,HALL.out,((HZ.out.1).keepoff (fun k hk=> by simp[hk])).exadd (Bo _ _)⟩
  ·skip
   have HK2:=Ag hk
   have HC0:=Ag (show(opC p tco)[0]?=some (.int .i64 5) from by show some (Value.int .i64 p.k)=_;rw[hk])
   clear hk
   have HRB:=Ag (show a1.heap.size<b0.heap.size from HEL.out.2.2.1.lt)
   have HSB:=Ag (show w0.heap.size≤b0.heap.size from HEL.out.1.ch.size)
   have c0:b3.cell? ⟨w.heap.size,0,none⟩=some (.int .i64 5):=(HB3.out.2.1.cell 0).trans HC0.out
   have HPQ:=Ag (show Bj f.p (Cv f.p p.u p.t)=(q,er) from by rw[←HQR.out];unfold BV;rw[if_neg (by rw[HK2.out];omega),if_pos HK2.out])
   have d1:b3.cell? ⟨w.heap.size,1,none⟩=some (.int .i64 p.u):=HB3.out.2.1.cell 1
   have d3:b3.cell? ⟨w.heap.size,3,none⟩=some (.int .i64 p.t):=HB3.out.2.1.cell 3
   go_wp2_with (first
  | (with_reducible refine Ap rfl 43 (.tmp 8) rfl (b0.heap.size) 0 rfl (pmC f.p.o f.p.e vr vq vg) _ (As HB3.out.2.2.2.2.2.2) Tryz.underlying43 rfl (Ay _ _ _ _ _) ?_))
   refine(KD f.p p.u p.t vr vq vg b3 HB3.out.2.2.2.2.1.s HFP.out.1.pml).mono ?_
   rintro e' k1 ⟨ur,uq,ug,rfl,hps,hb,hab⟩
   rw[show Bj f.p (Cv f.p p.u p.t)=(q,er) from HPQ.out] at hps ⊢
   have HRL:=Ag (show a1.heap.size<b0.heap.size from HRB.out)
   have HSG:=Ag (show w0.heap.size≤b0.heap.size from HSB.out)
   have HK1:=hJ5 (HB3.out.1.below hb) (HB3.out.2.1.below hb HB3.out.2.1.lt) (HB3.out.2.2.1.below hb HB3.out.2.2.1.lt) (HB3.out.2.2.2.2.2.2.below hb HB3.out.2.2.2.2.2.2.lt) (HB3.out.1.pm hb hps hab)
   have HONK:=Ag HK1.out.2.2.2.2.ones
   clear hps hb hab d1 d3
   go_upto_region 20 with(first
  | ((with_reducible refine Ao k1 rfl 43 (.tmp 8) (.tmp 60) rfl (b0.heap.size) 43 (pmC f.p.o f.p.e vr vq vg) (pmC q.o q.e ur uq ug) HK1.out.2.2.2.1 rfl rfl rfl (Ay _ _ _ _ _) (Bw HONK.out.1 HONK.out.2.1 HONK.out.2.2) ?_);intro k2 hb hc hs;have HK2w:=Ag (show OwnX w0 m0 (b0.heap.size::a1.heap.size::w.heap.size::xs) k2 bp 97 [(.slice (some ⟨g,0,none⟩) fn cf),(.slice ac cn cc),(.slice aw wn cw)] (.slice (some ⟨g,0,none⟩) fn cf) (.slice ac cn cc) (.slice aw wn cw) fs cv ws ex∧Blk k2 (w.heap.size) 31 (opC p tco)∧Blk k2 (a1.heap.size) 37 (AD 0 0 0 (tmC 0 0 0 ⟨#[]⟩ (.slice none 0 0)))∧Blk k2 (b0.heap.size) 43 (pmC q.o q.e ur uq ug)∧PmF (Fz (b0.heap.size::a1.heap.size::w.heap.size::xs) (msL bp (.slice (some ⟨g,0,none⟩) fn cf) (.slice ac cn cc) (.slice aw wn cw) cv) k2) k2 q ur uq ug from⟨HK1.out.1.setX List.mem_cons_self HSG.out hc,HK1.out.2.1.keep hc (fun e=> absurd (show w.heap.size=b0.heap.size from e) (by have h1:=HRL.out;have:=HG.out;omega)),HK1.out.2.2.1.keep hc (fun e=> absurd (show a1.heap.size=b0.heap.size from e) (by have h1:=HRL.out;have:=HG.out;omega)),hb,HK1.out.2.2.2.2.fz1 hc List.mem_cons_self⟩);clear hb hc hs))
   try simp only[Al,Ad,Ae,Af]
   clear c0
   by_cases hz:er≠0
   ·have hze:(er==0)=false:=by simpa using hz
    have hze2:(er !=0)=true:=by simpa using hz
    have HX:=Ag (show SR=((⟨fs,cv.map CirV.m,ws⟩:IdM),A3 er) from by rw[←HSR.out];unfold Bf;rw[HSK.out,if_neg (by simp),show(⟨fs,cv.map CirV.m,ws⟩:IdM).fs[ix]?=some f from HFI.out];simp only;rw[HQR.out,if_pos hz])
    clear hz
    go_wp2_with fail
    refine(Be (er) k2).mono ?_
    rintro e' u9 ⟨rfl,hb⟩
    have K10:=Ag (show OwnX w0 m0 (b0.heap.size::a1.heap.size::w.heap.size::xs) u9 bp 97 [(.slice (some ⟨g,0,none⟩) fn cf),(.slice ac cn cc),(.slice aw wn cw)] (.slice (some ⟨g,0,none⟩) fn cf) (.slice ac cn cc) (.slice aw wn cw) fs cv ws ex∧Blk u9 (w.heap.size) 31 (opC p tco)∧Blk u9 (a1.heap.size) 37 (AD 0 0 0 (tmC 0 0 0 ⟨#[]⟩ (.slice none 0 0)))∧Blk u9 (b0.heap.size) 43 (pmC q.o q.e ur uq ug)∧PmF (Fz (b0.heap.size::a1.heap.size::w.heap.size::xs) (msL bp (.slice (some ⟨g,0,none⟩) fn cf) (.slice ac cn cc) (.slice aw wn cw) cv) u9) u9 q ur uq ug from⟨(HK2w.out.1.below hb),HK2w.out.2.1.below hb HK2w.out.2.1.lt,HK2w.out.2.2.1.below hb HK2w.out.2.2.1.lt,HK2w.out.2.2.2.1.below hb HK2w.out.2.2.2.1.lt,(PmF.keep' HK2w.out.2.2.2.2 (Ch.of_below (S:=fun _=> False) hb (Ah _)) (fun _ _ e=> e) (fun k hk=> ⟨hk.1,Ak hk.2 hb.size⟩))⟩)
    clear hb
    go_wp2_with (first
  | ((with_reducible refine Ao u9 rfl 37 (.tmp 4) (.tmp 113) rfl (a1.heap.size) 37 (AD 0 0 0 (tmC 0 0 0 ⟨#[]⟩ (.slice none 0 0))) (AD (er) 0 0 (tmC 0 0 0 ⟨#[]⟩ (.slice none 0 0))) K10.out.2.2.1 rfl rfl rfl (Ax rfl) (AN (AS _ _ _ _ _ _ _)) ?_);intro z9 hb hc hs;have HZ:=Ag (Ai (K10.out.1.setX (show a1.heap.size∈_ by simp) HSZ.out hc) hb);clear hb hc hs))
    refine bodyPost_ret (AC Tryz.results75 _ _ (a1.heap.size) _ _ rfl HZ.out.2 _ Tryz.underlying37 rfl (Ax rfl)) rfl ?_
    rw[HX.out]
    exact⟨_,_,_,_,cv,rfl,rfl,HALL.out,((HZ.out.1).keepoff (fun k hk=> by simp[hk])).exadd (Bo _ _)⟩
   ·have hz0:er=0:=by omega
    subst hz0
    have HX:=Ag (show SR=(⟨fs.set ix ⟨f.nm,q,f.v,f.e,f.u,f.b⟩,cv.map CirV.m,ws⟩,A3 0) from by rw[←HSR.out];unfold Bf;rw[HSK.out,if_neg (by simp),show(⟨fs,cv.map CirV.m,ws⟩:IdM).fs[ix]?=some f from HFI.out];simp only;rw[HQR.out,if_neg (by simp)])
    clear hz
    obtain⟨-,_,_,_,_,-,-,-,hth,-,-,-,-,hkp⟩:=OwnX.elF (f:=f) (by rw[HSET.out];exact HK2w.out.1) HIXL.out
    have HONQ:=Ag HK2w.out.2.2.2.2.ones
    have HTH:=Ag (show k2.there g (ix* 14+1) ((pmC q.o q.e ur uq ug):List Value).toArray.size from fun j hj=> by rw[Nat.add_assoc];exact hth (1+j) (by simp[pmC] at hj;omega))
    have HPUT:=Ag ((hkp q ur uq ug HK2w.out.2.2.2.2).keepoff (xs':=(a1.heap.size::w.heap.size::xs)) (fun k hk=> List.mem_cons_of_mem _ hk))
    clear hth hkp
    go_upto_region 23 with(first
  | (with_reducible refine Ap rfl 43 (.tmp 8) rfl (b0.heap.size) 0 rfl (pmC q.o q.e ur uq ug) _ (As HK2w.out.2.2.2.1) Tryz.underlying43 rfl (Ay _ _ _ _ _) ?_)
  | ((with_reducible refine wpList_store_mid rfl 43 (.tmp 117) (.tmp 115) rfl g (ix* 14+1) ((pmC q.o q.e ur uq ug):List Value).toArray rfl rfl HTH.out (Ay _ _ _ _ _) (all_oneCell_toArray (Bw HONQ.out.1 HONQ.out.2.1 HONQ.out.2.2)) ?_);have HY9:=Ag (show OwnX w0 m0 (a1.heap.size::w.heap.size::xs) (k2.setCells g (ix* 14+1) (pmC q.o q.e ur uq ug)) bp 97 [(.slice (some ⟨g,0,none⟩) fn cf),(.slice ac cn cc),(.slice aw wn cw)] (.slice (some ⟨g,0,none⟩) fn cf) (.slice ac cn cc) (.slice aw wn cw) (fs.set ix ⟨f.nm,q,f.v,f.e,f.u,f.b⟩) cv ws ex∧Blk (k2.setCells g (ix* 14+1) (pmC q.o q.e ur uq ug)) (w.heap.size) 31 (opC p tco)∧Blk (k2.setCells g (ix* 14+1) (pmC q.o q.e ur uq ug)) (a1.heap.size) 37 (AD 0 0 0 (tmC 0 0 0 ⟨#[]⟩ (.slice none 0 0))) from⟨HPUT.out,HK2w.out.2.1.keep (AI g _ _ _) (fun e=> (HK2w.out.1.ne (show w.heap.size∈(b0.heap.size::a1.heap.size::w.heap.size::xs) by simp)).2.1 (by rw[show w.heap.size=g from e];exact AG.2 rfl)),HK2w.out.2.2.1.keep (AI g _ _ _) (fun e=> (HK2w.out.1.ne (show a1.heap.size∈(b0.heap.size::a1.heap.size::w.heap.size::xs) by simp)).2.1 (by rw[show a1.heap.size=g from e];exact AG.2 rfl))⟩);try simp only[List.toList_toArray];generalize (k2.setCells g (ix* 14+1) (pmC q.o q.e ur uq ug))=y9 at HY9 ⊢))
    try simp only[Al,Ad,Ae,Af]
    go_wp2_with (first
  | (with_reducible refine Bb rfl rfl ?_)
  | ((with_reducible refine Ao y9 rfl 37 (.tmp 4) (.tmp 118) rfl (a1.heap.size) 37 (AD 0 0 0 (tmC 0 0 0 ⟨#[]⟩ (.slice none 0 0))) (AD 0 0 0 (tmC 0 0 0 ⟨#[]⟩ (.slice none 0 0))) HY9.out.2.2 rfl rfl rfl (Ax rfl) (AN (AS _ _ _ _ _ _ _)) ?_);intro z9 hb hc hs;have HZ:=Ag (Ai (HY9.out.1.setX (show a1.heap.size∈_ by simp) HSZ.out hc) hb);clear hb hc hs))
    refine bodyPost_ret (AC Tryz.results75 _ _ (a1.heap.size) _ _ rfl HZ.out.2 _ Tryz.underlying37 rfl (Ax rfl)) rfl ?_
    rw[HX.out]
    exact⟨_,_,_,_,cv,rfl,rfl,HALL.out,((HZ.out.1).keepoff (fun k hk=> by simp[hk])).exadd (Bo _ _)⟩
  ·skip
   have HK2:=Ag hk
   have HC0:=Ag (show(opC p tco)[0]?=some (.int .i64 6) from by show some (Value.int .i64 p.k)=_;rw[hk])
   clear hk
   have HRB:=Ag (show a1.heap.size<b0.heap.size from HEL.out.2.2.1.lt)
   have HSB:=Ag (show w0.heap.size≤b0.heap.size from HEL.out.1.ch.size)
   have c0:b3.cell? ⟨w.heap.size,0,none⟩=some (.int .i64 6):=(HB3.out.2.1.cell 0).trans HC0.out
   go_wp2_with fail
   clear c0
   go_wp2_with fail
   refine Az (fun W=> W.rangeAt bp 0 [(.slice (some ⟨g,0,none⟩) fn cf),(.slice ac cn cc),(.slice aw wn cw)]∧W.cell? ⟨w.heap.size,4,none⟩=some (.int .i64 p.g)) [0,1,2,3,4,5] 6 (by kernel_rfl) rfl (by kernel_rfl) (by kernel_rfl) ⟨As HB3.out.1.bl,HB3.out.2.1.cell 4⟩ ?_
   iterate 6(refine' AH.run ?_ ?_ ?_ ?_;rotate_left 2;(simp only[Aa,Ab,Ac];rfl);rfl;(rintro w' ⟨k0,k1⟩;first|exact AA rfl rfl k0 Tryz.underlying26 rfl (At Tryz.infoId rfl)|(go_simp;with_reducible rfl));simp only[Al,Ad,Ae,Af])
   have sm:=(Sm.refl b3).drew
   have HV12:=hJ7 (HB3.out.1.below (sm.below _)) (HB3.out.2.1.below (sm.below _) HB3.out.2.1.lt) (HB3.out.2.2.1.below (sm.below _) HB3.out.2.2.1.lt) (AF HB3.out.2.2.2.1 (sm.below _)) (HB3.out.2.2.2.2.1.below (sm.below _)) (HB3.out.2.2.2.2.2.1.below (sm.below _)) (HB3.out.2.2.2.2.2.2.below (sm.below _) HB3.out.2.2.2.2.2.2.lt)
   clear sm
   generalize b3.drew=v11 at HV12 ⊢
   refine' Ar 6 (by kernel_rfl) ?_ ?_;rotate_left;(simp only[Aa,Ab,Ac];rfl)
   try simp only[Al,Ad,Ae,Af]
   go_wp2_with fail
   refine Calls.mono (HFC.out v11 HV12.out.1.idc) ?_
   rintro e' u13 ⟨rfl,hb⟩
   have K14:=hJ7 (HV12.out.1.below hb) (HV12.out.2.1.below hb HV12.out.2.1.lt) (HV12.out.2.2.1.below hb HV12.out.2.2.1.lt) (AF HV12.out.2.2.2.1 hb) (HV12.out.2.2.2.2.1.below hb) (HV12.out.2.2.2.2.2.1.below hb) (HV12.out.2.2.2.2.2.2.below hb HV12.out.2.2.2.2.2.2.lt)
   clear hb
   go_wp2_with fail
   refine QK.normal ⟨⟨As K14.out.1.bl,K14.out.2.1.cell 4⟩,?_⟩
   refine A2 (fuel:=0) (by kernel_rfl) AE ⟨As K14.out.1.bl,K14.out.2.1.cell 4⟩ [7,8,9,10,11] _ _ (by kernel_rfl) ?_
   try simp only[Al]
   iterate 5(refine' AH.run ?_ ?_ ?_ ?_;rotate_left 2;(simp only[Aa,Ab,Ac];rfl);rfl;(rintro w' ⟨k0,k1⟩;first|exact AA rfl rfl k0 Tryz.underlying26 rfl (At Tryz.infoId rfl)|(go_simp;with_reducible rfl));simp only[Al,Ad,Ae,Af])
   refine wpAnyH_done (by kernel_rfl) ?_ _
   refine NoPanic.normal ?_
   cases is
   ·skip
    have hqe:(q,er)=(f.p,4):=by rw[←HQR.out];unfold BV;rw[if_neg (by rw[HK2.out];omega),if_neg (by rw[HK2.out];omega),if_pos HK2.out,HSC.out];rw[if_pos rfl]
    obtain⟨rfl,rfl⟩:q=f.p∧er=4:=by simpa using hqe
    have HX:=Ag (show SR=((⟨fs,cv.map CirV.m,ws⟩:IdM),A3 4) from by rw[←HSR.out];unfold Bf;rw[HSK.out,if_neg (by simp),show(⟨fs,cv.map CirV.m,ws⟩:IdM).fs[ix]?=some f from HFI.out];simp only;rw[HQR.out,if_pos (by simp)])
    clear hqe
    go_wp2_with fail
    refine(Be (4) u13).mono ?_
    rintro e' u15 ⟨rfl,hb⟩
    have K16:=hJ7 (K14.out.1.below hb) (K14.out.2.1.below hb K14.out.2.1.lt) (K14.out.2.2.1.below hb K14.out.2.2.1.lt) (AF K14.out.2.2.2.1 hb) (K14.out.2.2.2.2.1.below hb) (K14.out.2.2.2.2.2.1.below hb) (K14.out.2.2.2.2.2.2.below hb K14.out.2.2.2.2.2.2.lt)
    clear hb
    go_wp2_with (first
  | ((with_reducible refine Ao u15 rfl 37 (.tmp 4) (.tmp 113) rfl (a1.heap.size) 37 (AD 0 0 0 (tmC 0 0 0 ⟨#[]⟩ (.slice none 0 0))) (AD (4) 0 0 (tmC 0 0 0 ⟨#[]⟩ (.slice none 0 0))) K16.out.2.2.1 rfl rfl rfl (Ax rfl) (AN (AS _ _ _ _ _ _ _)) ?_);intro z9 hb hc hs;have HZ:=Ag (Ai (K16.out.1.setX (show a1.heap.size∈_ by simp) HSZ.out hc) hb);clear hb hc hs))
    refine bodyPost_ret (AC Tryz.results75 _ _ (a1.heap.size) _ _ rfl HZ.out.2 _ Tryz.underlying37 rfl (Ax rfl)) rfl ?_
    rw[HX.out]
    exact⟨_,_,_,_,cv,rfl,rfl,HALL.out,((HZ.out.1).keepoff (fun k hk=> by simp[hk])).exadd (Bo _ _)⟩
   ·skip
    have hjl:jx<cv.length:=by
     have h:=(DV (c:=fun x:CirM=> BA x.n p.g) (l:=cv.map CirV.m) (by rw[show AU (fun x:CirM=> BA x.n p.g) (cv.map CirV.m)=(jx,true) from HSC.out])).1
     rw[show AU (fun x:CirM=> BA x.n p.g) (cv.map CirV.m)=(jx,true) from HSC.out,List.length_map] at h
     exact h
    obtain⟨gc,cc',e,-⟩:=K14.out.1.rc.ptr hjl
    rw[HN.out.2.1] at e
    obtain⟨rfl,rfl⟩:ac=some ⟨gc,0,none⟩∧cc=cc':=by simpa using e
    obtain⟨-,-,ccs,-,hra,hcv,-,-⟩:=K14.out.1.rc.focus hjl
    obtain⟨hcs,-⟩:=hcv
    have y1:=hra 1 (.int .i64 cv[jx].o) (by rw[hcs];rfl)
    have HCO:=Ag (show((((⟨fs,cv.map CirV.m,ws⟩:IdM).cs)[jx]?.map CirM.o).getD 0)=cv[jx].o from by show(((cv.map CirV.m)[jx]?.map CirM.o).getD 0)=_;rw[List.getElem?_map,List.getElem?_eq_getElem hjl];rfl)
    obtain⟨cjo,hcjo⟩:∃ x,cv[jx].o=x:=⟨_,rfl⟩
    rw[hcjo] at y1 HCO
    have hjz:(jx:Int)<(cn:Int):=by have:=HN.out.2.1;omega
    have hj0:(0:Int)≤(jx:Int):=by omega
    have b1:=K14.out.1.bl.cell 1
    simp only[Ab,Ac] at b1
    have d1:u13.cell? ⟨w.heap.size,1,none⟩=some (.int .i64 p.u):=K14.out.2.1.cell 1
    clear e hra hcs hcjo hjl
    by_cases hcu:cjo=p.u
    ·have hce:(cjo==p.u)=true:=by simpa using hcu
     have hce2:(cjo !=p.u)=false:=by simpa using hcu
     have HPQ:=Ag (show Bj f.p (Cn f.p p.u p.g)=(q,er) from by rw[←HQR.out];unfold BV;rw[if_neg (by rw[HK2.out];omega),if_neg (by rw[HK2.out];omega),if_pos HK2.out,HSC.out];rw[if_neg (by simp),HCO.out,if_neg (by simpa using hcu)])
     clear hcu
     go_wp2_with fail
     go_quiet (fail)
     clear y1 b1 d1
     have sm:=((Sm.refl u13).drewN nq)
     have HQ4:=hJ7 (K14.out.1.below (sm.below _)) (K14.out.2.1.below (sm.below _) K14.out.2.1.lt) (K14.out.2.2.1.below (sm.below _) K14.out.2.2.1.lt) (AF K14.out.2.2.2.1 (sm.below _)) (K14.out.2.2.2.2.1.below (sm.below _)) (K14.out.2.2.2.2.2.1.below (sm.below _)) (K14.out.2.2.2.2.2.2.below (sm.below _) K14.out.2.2.2.2.2.2.lt)
     generalize u13.drewN nq=q4 at HQ4 ⊢
     clear sm
     have d1:q4.cell? ⟨w.heap.size,1,none⟩=some (.int .i64 p.u):=HQ4.out.2.1.cell 1
     have d4:q4.cell? ⟨w.heap.size,4,none⟩=some (.int .i64 p.g):=HQ4.out.2.1.cell 4
     go_wp2_with (first
  | (with_reducible refine Ap rfl 43 (.tmp 8) rfl (b0.heap.size) 0 rfl (pmC f.p.o f.p.e vr vq vg) _ (As HQ4.out.2.2.2.2.2.2) Tryz.underlying43 rfl (Ay _ _ _ _ _) ?_))
     refine(Gk f.p p.u p.g vr vq vg q4 HQ4.out.2.2.2.2.1.s HFP.out.1.pml).mono ?_
     rintro e' k1 ⟨ur,uq,ug,rfl,hps,hb,hab⟩
     rw[show Bj f.p (Cn f.p p.u p.g)=(q,er) from HPQ.out] at hps ⊢
     have HRL:=Ag (show a1.heap.size<b0.heap.size from HRB.out)
     have HSG:=Ag (show w0.heap.size≤b0.heap.size from HSB.out)
     have HK1:=hJ5 (HQ4.out.1.below hb) (HQ4.out.2.1.below hb HQ4.out.2.1.lt) (HQ4.out.2.2.1.below hb HQ4.out.2.2.1.lt) (HQ4.out.2.2.2.2.2.2.below hb HQ4.out.2.2.2.2.2.2.lt) (HQ4.out.1.pm hb hps hab)
     have HONK:=Ag HK1.out.2.2.2.2.ones
     clear hps hb hab d1 d4
     go_upto_region 20 with(first
  | ((with_reducible refine Ao k1 rfl 43 (.tmp 8) (.tmp 81) rfl (b0.heap.size) 43 (pmC f.p.o f.p.e vr vq vg) (pmC q.o q.e ur uq ug) HK1.out.2.2.2.1 rfl rfl rfl (Ay _ _ _ _ _) (Bw HONK.out.1 HONK.out.2.1 HONK.out.2.2) ?_);intro k2 hb hc hs;have HK2w:=Ag (show OwnX w0 m0 (b0.heap.size::a1.heap.size::w.heap.size::xs) k2 bp 97 [(.slice (some ⟨g,0,none⟩) fn cf),(.slice (some ⟨gc,0,none⟩) cn cc),(.slice aw wn cw)] (.slice (some ⟨g,0,none⟩) fn cf) (.slice (some ⟨gc,0,none⟩) cn cc) (.slice aw wn cw) fs cv ws ex∧Blk k2 (w.heap.size) 31 (opC p tco)∧Blk k2 (a1.heap.size) 37 (AD 0 0 0 (tmC 0 0 0 ⟨#[]⟩ (.slice none 0 0)))∧Blk k2 (b0.heap.size) 43 (pmC q.o q.e ur uq ug)∧PmF (Fz (b0.heap.size::a1.heap.size::w.heap.size::xs) (msL bp (.slice (some ⟨g,0,none⟩) fn cf) (.slice (some ⟨gc,0,none⟩) cn cc) (.slice aw wn cw) cv) k2) k2 q ur uq ug from⟨HK1.out.1.setX List.mem_cons_self HSG.out hc,HK1.out.2.1.keep hc (fun e=> absurd (show w.heap.size=b0.heap.size from e) (by have h1:=HRL.out;have:=HG.out;omega)),HK1.out.2.2.1.keep hc (fun e=> absurd (show a1.heap.size=b0.heap.size from e) (by have h1:=HRL.out;have:=HG.out;omega)),hb,HK1.out.2.2.2.2.fz1 hc List.mem_cons_self⟩);clear hb hc hs))
     try simp only[Al,Ad,Ae,Af]
     by_cases hz:er≠0
     ·have hze:(er==0)=false:=by simpa using hz
      have hze2:(er !=0)=true:=by simpa using hz
      have HX:=Ag (show SR=((⟨fs,cv.map CirV.m,ws⟩:IdM),A3 er) from by rw[←HSR.out];unfold Bf;rw[HSK.out,if_neg (by simp),show(⟨fs,cv.map CirV.m,ws⟩:IdM).fs[ix]?=some f from HFI.out];simp only;rw[HQR.out,if_pos hz])
      clear hz
      go_wp2_with fail
      refine(Be (er) k2).mono ?_
      rintro e' u17 ⟨rfl,hb⟩
      have K18:=Ag (show OwnX w0 m0 (b0.heap.size::a1.heap.size::w.heap.size::xs) u17 bp 97 [(.slice (some ⟨g,0,none⟩) fn cf),(.slice (some ⟨gc,0,none⟩) cn cc),(.slice aw wn cw)] (.slice (some ⟨g,0,none⟩) fn cf) (.slice (some ⟨gc,0,none⟩) cn cc) (.slice aw wn cw) fs cv ws ex∧Blk u17 (w.heap.size) 31 (opC p tco)∧Blk u17 (a1.heap.size) 37 (AD 0 0 0 (tmC 0 0 0 ⟨#[]⟩ (.slice none 0 0)))∧Blk u17 (b0.heap.size) 43 (pmC q.o q.e ur uq ug)∧PmF (Fz (b0.heap.size::a1.heap.size::w.heap.size::xs) (msL bp (.slice (some ⟨g,0,none⟩) fn cf) (.slice (some ⟨gc,0,none⟩) cn cc) (.slice aw wn cw) cv) u17) u17 q ur uq ug from⟨(HK2w.out.1.below hb),HK2w.out.2.1.below hb HK2w.out.2.1.lt,HK2w.out.2.2.1.below hb HK2w.out.2.2.1.lt,HK2w.out.2.2.2.1.below hb HK2w.out.2.2.2.1.lt,(PmF.keep' HK2w.out.2.2.2.2 (Ch.of_below (S:=fun _=> False) hb (Ah _)) (fun _ _ e=> e) (fun k hk=> ⟨hk.1,Ak hk.2 hb.size⟩))⟩)
      clear hb
      go_wp2_with (first
  | ((with_reducible refine Ao u17 rfl 37 (.tmp 4) (.tmp 113) rfl (a1.heap.size) 37 (AD 0 0 0 (tmC 0 0 0 ⟨#[]⟩ (.slice none 0 0))) (AD (er) 0 0 (tmC 0 0 0 ⟨#[]⟩ (.slice none 0 0))) K18.out.2.2.1 rfl rfl rfl (Ax rfl) (AN (AS _ _ _ _ _ _ _)) ?_);intro z9 hb hc hs;have HZ:=Ag (Ai (K18.out.1.setX (show a1.heap.size∈_ by simp) HSZ.out hc) hb);clear hb hc hs))
      refine bodyPost_ret (AC Tryz.results75 _ _ (a1.heap.size) _ _ rfl HZ.out.2 _ Tryz.underlying37 rfl (Ax rfl)) rfl ?_
      rw[HX.out]
      exact⟨_,_,_,_,cv,rfl,rfl,HALL.out,((HZ.out.1).keepoff (fun k hk=> by simp[hk])).exadd (Bo _ _)⟩
     ·have hz0:er=0:=by omega
      subst hz0
      have HX:=Ag (show SR=(⟨fs.set ix ⟨f.nm,q,f.v,f.e,f.u,f.b⟩,cv.map CirV.m,ws⟩,A3 0) from by rw[←HSR.out];unfold Bf;rw[HSK.out,if_neg (by simp),show(⟨fs,cv.map CirV.m,ws⟩:IdM).fs[ix]?=some f from HFI.out];simp only;rw[HQR.out,if_neg (by simp)])
      clear hz
      obtain⟨-,_,_,_,_,-,-,-,hth,-,-,-,-,hkp⟩:=OwnX.elF (f:=f) (by rw[HSET.out];exact HK2w.out.1) HIXL.out
      have HONQ:=Ag HK2w.out.2.2.2.2.ones
      have HTH:=Ag (show k2.there g (ix* 14+1) ((pmC q.o q.e ur uq ug):List Value).toArray.size from fun j hj=> by rw[Nat.add_assoc];exact hth (1+j) (by simp[pmC] at hj;omega))
      have HPUT:=Ag ((hkp q ur uq ug HK2w.out.2.2.2.2).keepoff (xs':=(a1.heap.size::w.heap.size::xs)) (fun k hk=> List.mem_cons_of_mem _ hk))
      clear hth hkp
      go_upto_region 23 with(first
  | (with_reducible refine Ap rfl 43 (.tmp 8) rfl (b0.heap.size) 0 rfl (pmC q.o q.e ur uq ug) _ (As HK2w.out.2.2.2.1) Tryz.underlying43 rfl (Ay _ _ _ _ _) ?_)
  | ((with_reducible refine wpList_store_mid rfl 43 (.tmp 117) (.tmp 115) rfl g (ix* 14+1) ((pmC q.o q.e ur uq ug):List Value).toArray rfl rfl HTH.out (Ay _ _ _ _ _) (all_oneCell_toArray (Bw HONQ.out.1 HONQ.out.2.1 HONQ.out.2.2)) ?_);have HY9:=Ag (show OwnX w0 m0 (a1.heap.size::w.heap.size::xs) (k2.setCells g (ix* 14+1) (pmC q.o q.e ur uq ug)) bp 97 [(.slice (some ⟨g,0,none⟩) fn cf),(.slice (some ⟨gc,0,none⟩) cn cc),(.slice aw wn cw)] (.slice (some ⟨g,0,none⟩) fn cf) (.slice (some ⟨gc,0,none⟩) cn cc) (.slice aw wn cw) (fs.set ix ⟨f.nm,q,f.v,f.e,f.u,f.b⟩) cv ws ex∧Blk (k2.setCells g (ix* 14+1) (pmC q.o q.e ur uq ug)) (w.heap.size) 31 (opC p tco)∧Blk (k2.setCells g (ix* 14+1) (pmC q.o q.e ur uq ug)) (a1.heap.size) 37 (AD 0 0 0 (tmC 0 0 0 ⟨#[]⟩ (.slice none 0 0))) from⟨HPUT.out,HK2w.out.2.1.keep (AI g _ _ _) (fun e=> (HK2w.out.1.ne (show w.heap.size∈(b0.heap.size::a1.heap.size::w.heap.size::xs) by simp)).2.1 (by rw[show w.heap.size=g from e];exact AG.2 rfl)),HK2w.out.2.2.1.keep (AI g _ _ _) (fun e=> (HK2w.out.1.ne (show a1.heap.size∈(b0.heap.size::a1.heap.size::w.heap.size::xs) by simp)).2.1 (by rw[show a1.heap.size=g from e];exact AG.2 rfl))⟩);try simp only[List.toList_toArray];generalize (k2.setCells g (ix* 14+1) (pmC q.o q.e ur uq ug))=y9 at HY9 ⊢))
      try simp only[Al,Ad,Ae,Af]
      go_wp2_with (first
  | (with_reducible refine Bb rfl rfl ?_)
  | ((with_reducible refine Ao y9 rfl 37 (.tmp 4) (.tmp 118) rfl (a1.heap.size) 37 (AD 0 0 0 (tmC 0 0 0 ⟨#[]⟩ (.slice none 0 0))) (AD 0 0 0 (tmC 0 0 0 ⟨#[]⟩ (.slice none 0 0))) HY9.out.2.2 rfl rfl rfl (Ax rfl) (AN (AS _ _ _ _ _ _ _)) ?_);intro z9 hb hc hs;have HZ:=Ag (Ai (HY9.out.1.setX (show a1.heap.size∈_ by simp) HSZ.out hc) hb);clear hb hc hs))
      refine bodyPost_ret (AC Tryz.results75 _ _ (a1.heap.size) _ _ rfl HZ.out.2 _ Tryz.underlying37 rfl (Ax rfl)) rfl ?_
      rw[HX.out]
      exact⟨_,_,_,_,cv,rfl,rfl,HALL.out,((HZ.out.1).keepoff (fun k hk=> by simp[hk])).exadd (Bo _ _)⟩
    ·have hce:(cjo==p.u)=false:=by simpa using hcu
     have hce2:(cjo !=p.u)=true:=by simpa using hcu
     have hqe:(q,er)=(f.p,211):=by rw[←HQR.out];unfold BV;rw[if_neg (by rw[HK2.out];omega),if_neg (by rw[HK2.out];omega),if_pos HK2.out,HSC.out];rw[if_neg (by simp),HCO.out,if_pos (by simpa using hcu)]
     obtain⟨rfl,rfl⟩:q=f.p∧er=211:=by simpa using hqe
     have HX:=Ag (show SR=((⟨fs,cv.map CirV.m,ws⟩:IdM),A3 211) from by rw[←HSR.out];unfold Bf;rw[HSK.out,if_neg (by simp),show(⟨fs,cv.map CirV.m,ws⟩:IdM).fs[ix]?=some f from HFI.out];simp only;rw[HQR.out,if_pos (by simp)])
     clear hqe hcu
     go_wp2_with fail
     go_quiet (fail)
     clear y1 b1 d1
     have sm:=((Sm.refl u13).drewN nq)
     have HQ4:=hJ7 (K14.out.1.below (sm.below _)) (K14.out.2.1.below (sm.below _) K14.out.2.1.lt) (K14.out.2.2.1.below (sm.below _) K14.out.2.2.1.lt) (AF K14.out.2.2.2.1 (sm.below _)) (K14.out.2.2.2.2.1.below (sm.below _)) (K14.out.2.2.2.2.2.1.below (sm.below _)) (K14.out.2.2.2.2.2.2.below (sm.below _) K14.out.2.2.2.2.2.2.lt)
     generalize u13.drewN nq=q4 at HQ4 ⊢
     clear sm
     go_wp2_with fail
     refine(Be (211) q4).mono ?_
     rintro e' u19 ⟨rfl,hb⟩
     have K20:=hJ7 (HQ4.out.1.below hb) (HQ4.out.2.1.below hb HQ4.out.2.1.lt) (HQ4.out.2.2.1.below hb HQ4.out.2.2.1.lt) (AF HQ4.out.2.2.2.1 hb) (HQ4.out.2.2.2.2.1.below hb) (HQ4.out.2.2.2.2.2.1.below hb) (HQ4.out.2.2.2.2.2.2.below hb HQ4.out.2.2.2.2.2.2.lt)
     clear hb
     go_wp2_with (first
  | ((with_reducible refine Ao u19 rfl 37 (.tmp 4) (.tmp 113) rfl (a1.heap.size) 37 (AD 0 0 0 (tmC 0 0 0 ⟨#[]⟩ (.slice none 0 0))) (AD (211) 0 0 (tmC 0 0 0 ⟨#[]⟩ (.slice none 0 0))) K20.out.2.2.1 rfl rfl rfl (Ax rfl) (AN (AS _ _ _ _ _ _ _)) ?_);intro z9 hb hc hs;have HZ:=Ag (Ai (K20.out.1.setX (show a1.heap.size∈_ by simp) HSZ.out hc) hb);clear hb hc hs))
     refine bodyPost_ret (AC Tryz.results75 _ _ (a1.heap.size) _ _ rfl HZ.out.2 _ Tryz.underlying37 rfl (Ax rfl)) rfl ?_
     rw[HX.out]
     exact⟨_,_,_,_,cv,rfl,rfl,HALL.out,((HZ.out.1).keepoff (fun k hk=> by simp[hk])).exadd (Bo _ _)⟩
  ·skip
   have HK2:=Ag hk
   have HC0:=Ag (show(opC p tco)[0]?=some (.int .i64 7) from by show some (Value.int .i64 p.k)=_;rw[hk])
   clear hk
   have HRB:=Ag (show a1.heap.size<b0.heap.size from HEL.out.2.2.1.lt)
   have HSB:=Ag (show w0.heap.size≤b0.heap.size from HEL.out.1.ch.size)
   have c0:b3.cell? ⟨w.heap.size,0,none⟩=some (.int .i64 7):=(HB3.out.2.1.cell 0).trans HC0.out
   have HPQ:=Ag (show Bj f.p (CY f.p p.u p.g)=(q,er) from by rw[←HQR.out];unfold BV;rw[if_neg (by rw[HK2.out];omega),if_neg (by rw[HK2.out];omega),if_neg (by rw[HK2.out];omega),if_pos HK2.out])
   have d1:b3.cell? ⟨w.heap.size,1,none⟩=some (.int .i64 p.u):=HB3.out.2.1.cell 1
   have d4:b3.cell? ⟨w.heap.size,4,none⟩=some (.int .i64 p.g):=HB3.out.2.1.cell 4
   go_wp2_with (first
  | (with_reducible refine Ap rfl 43 (.tmp 8) rfl (b0.heap.size) 0 rfl (pmC f.p.o f.p.e vr vq vg) _ (As HB3.out.2.2.2.2.2.2) Tryz.underlying43 rfl (Ay _ _ _ _ _) ?_))
   refine(GP f.p p.u p.g vr vq vg b3 HB3.out.2.2.2.2.1.s HFP.out.1.pml).mono ?_
   rintro e' k1 ⟨ur,uq,ug,rfl,hps,hb,hab⟩
   rw[show Bj f.p (CY f.p p.u p.g)=(q,er) from HPQ.out] at hps ⊢
   have HRL:=Ag (show a1.heap.size<b0.heap.size from HRB.out)
   have HSG:=Ag (show w0.heap.size≤b0.heap.size from HSB.out)
   have HK1:=hJ5 (HB3.out.1.below hb) (HB3.out.2.1.below hb HB3.out.2.1.lt) (HB3.out.2.2.1.below hb HB3.out.2.2.1.lt) (HB3.out.2.2.2.2.2.2.below hb HB3.out.2.2.2.2.2.2.lt) (HB3.out.1.pm hb hps hab)
   have HONK:=Ag HK1.out.2.2.2.2.ones
   clear hps hb hab d1 d4
   go_upto_region 20 with(first
  | ((with_reducible refine Ao k1 rfl 43 (.tmp 8) (.tmp 108) rfl (b0.heap.size) 43 (pmC f.p.o f.p.e vr vq vg) (pmC q.o q.e ur uq ug) HK1.out.2.2.2.1 rfl rfl rfl (Ay _ _ _ _ _) (Bw HONK.out.1 HONK.out.2.1 HONK.out.2.2) ?_);intro k2 hb hc hs;have HK2w:=Ag (show OwnX w0 m0 (b0.heap.size::a1.heap.size::w.heap.size::xs) k2 bp 97 [(.slice (some ⟨g,0,none⟩) fn cf),(.slice ac cn cc),(.slice aw wn cw)] (.slice (some ⟨g,0,none⟩) fn cf) (.slice ac cn cc) (.slice aw wn cw) fs cv ws ex∧Blk k2 (w.heap.size) 31 (opC p tco)∧Blk k2 (a1.heap.size) 37 (AD 0 0 0 (tmC 0 0 0 ⟨#[]⟩ (.slice none 0 0)))∧Blk k2 (b0.heap.size) 43 (pmC q.o q.e ur uq ug)∧PmF (Fz (b0.heap.size::a1.heap.size::w.heap.size::xs) (msL bp (.slice (some ⟨g,0,none⟩) fn cf) (.slice ac cn cc) (.slice aw wn cw) cv) k2) k2 q ur uq ug from⟨HK1.out.1.setX List.mem_cons_self HSG.out hc,HK1.out.2.1.keep hc (fun e=> absurd (show w.heap.size=b0.heap.size from e) (by have h1:=HRL.out;have:=HG.out;omega)),HK1.out.2.2.1.keep hc (fun e=> absurd (show a1.heap.size=b0.heap.size from e) (by have h1:=HRL.out;have:=HG.out;omega)),hb,HK1.out.2.2.2.2.fz1 hc List.mem_cons_self⟩);clear hb hc hs))
   try simp only[Al,Ad,Ae,Af]
   clear c0
   by_cases hz:er≠0
   ·have hze:(er==0)=false:=by simpa using hz
    have hze2:(er !=0)=true:=by simpa using hz
    have HX:=Ag (show SR=((⟨fs,cv.map CirV.m,ws⟩:IdM),A3 er) from by rw[←HSR.out];unfold Bf;rw[HSK.out,if_neg (by simp),show(⟨fs,cv.map CirV.m,ws⟩:IdM).fs[ix]?=some f from HFI.out];simp only;rw[HQR.out,if_pos hz])
    clear hz
    go_wp2_with fail
    refine(Be (er) k2).mono ?_
    rintro e' u21 ⟨rfl,hb⟩
    have K22:=Ag (show OwnX w0 m0 (b0.heap.size::a1.heap.size::w.heap.size::xs) u21 bp 97 [(.slice (some ⟨g,0,none⟩) fn cf),(.slice ac cn cc),(.slice aw wn cw)] (.slice (some ⟨g,0,none⟩) fn cf) (.slice ac cn cc) (.slice aw wn cw) fs cv ws ex∧Blk u21 (w.heap.size) 31 (opC p tco)∧Blk u21 (a1.heap.size) 37 (AD 0 0 0 (tmC 0 0 0 ⟨#[]⟩ (.slice none 0 0)))∧Blk u21 (b0.heap.size) 43 (pmC q.o q.e ur uq ug)∧PmF (Fz (b0.heap.size::a1.heap.size::w.heap.size::xs) (msL bp (.slice (some ⟨g,0,none⟩) fn cf) (.slice ac cn cc) (.slice aw wn cw) cv) u21) u21 q ur uq ug from⟨(HK2w.out.1.below hb),HK2w.out.2.1.below hb HK2w.out.2.1.lt,HK2w.out.2.2.1.below hb HK2w.out.2.2.1.lt,HK2w.out.2.2.2.1.below hb HK2w.out.2.2.2.1.lt,(PmF.keep' HK2w.out.2.2.2.2 (Ch.of_below (S:=fun _=> False) hb (Ah _)) (fun _ _ e=> e) (fun k hk=> ⟨hk.1,Ak hk.2 hb.size⟩))⟩)
    clear hb
    go_wp2_with (first
  | ((with_reducible refine Ao u21 rfl 37 (.tmp 4) (.tmp 113) rfl (a1.heap.size) 37 (AD 0 0 0 (tmC 0 0 0 ⟨#[]⟩ (.slice none 0 0))) (AD (er) 0 0 (tmC 0 0 0 ⟨#[]⟩ (.slice none 0 0))) K22.out.2.2.1 rfl rfl rfl (Ax rfl) (AN (AS _ _ _ _ _ _ _)) ?_);intro z9 hb hc hs;have HZ:=Ag (Ai (K22.out.1.setX (show a1.heap.size∈_ by simp) HSZ.out hc) hb);clear hb hc hs))
    refine bodyPost_ret (AC Tryz.results75 _ _ (a1.heap.size) _ _ rfl HZ.out.2 _ Tryz.underlying37 rfl (Ax rfl)) rfl ?_
    rw[HX.out]
    exact⟨_,_,_,_,cv,rfl,rfl,HALL.out,((HZ.out.1).keepoff (fun k hk=> by simp[hk])).exadd (Bo _ _)⟩
   ·have hz0:er=0:=by omega
    subst hz0
    have HX:=Ag (show SR=(⟨fs.set ix ⟨f.nm,q,f.v,f.e,f.u,f.b⟩,cv.map CirV.m,ws⟩,A3 0) from by rw[←HSR.out];unfold Bf;rw[HSK.out,if_neg (by simp),show(⟨fs,cv.map CirV.m,ws⟩:IdM).fs[ix]?=some f from HFI.out];simp only;rw[HQR.out,if_neg (by simp)])
    clear hz
    obtain⟨-,_,_,_,_,-,-,-,hth,-,-,-,-,hkp⟩:=OwnX.elF (f:=f) (by rw[HSET.out];exact HK2w.out.1) HIXL.out
    have HONQ:=Ag HK2w.out.2.2.2.2.ones
    have HTH:=Ag (show k2.there g (ix* 14+1) ((pmC q.o q.e ur uq ug):List Value).toArray.size from fun j hj=> by rw[Nat.add_assoc];exact hth (1+j) (by simp[pmC] at hj;omega))
    have HPUT:=Ag ((hkp q ur uq ug HK2w.out.2.2.2.2).keepoff (xs':=(a1.heap.size::w.heap.size::xs)) (fun k hk=> List.mem_cons_of_mem _ hk))
    clear hth hkp
    go_upto_region 23 with(first
  | (with_reducible refine Ap rfl 43 (.tmp 8) rfl (b0.heap.size) 0 rfl (pmC q.o q.e ur uq ug) _ (As HK2w.out.2.2.2.1) Tryz.underlying43 rfl (Ay _ _ _ _ _) ?_)
  | ((with_reducible refine wpList_store_mid rfl 43 (.tmp 117) (.tmp 115) rfl g (ix* 14+1) ((pmC q.o q.e ur uq ug):List Value).toArray rfl rfl HTH.out (Ay _ _ _ _ _) (all_oneCell_toArray (Bw HONQ.out.1 HONQ.out.2.1 HONQ.out.2.2)) ?_);have HY9:=Ag (show OwnX w0 m0 (a1.heap.size::w.heap.size::xs) (k2.setCells g (ix* 14+1) (pmC q.o q.e ur uq ug)) bp 97 [(.slice (some ⟨g,0,none⟩) fn cf),(.slice ac cn cc),(.slice aw wn cw)] (.slice (some ⟨g,0,none⟩) fn cf) (.slice ac cn cc) (.slice aw wn cw) (fs.set ix ⟨f.nm,q,f.v,f.e,f.u,f.b⟩) cv ws ex∧Blk (k2.setCells g (ix* 14+1) (pmC q.o q.e ur uq ug)) (w.heap.size) 31 (opC p tco)∧Blk (k2.setCells g (ix* 14+1) (pmC q.o q.e ur uq ug)) (a1.heap.size) 37 (AD 0 0 0 (tmC 0 0 0 ⟨#[]⟩ (.slice none 0 0))) from⟨HPUT.out,HK2w.out.2.1.keep (AI g _ _ _) (fun e=> (HK2w.out.1.ne (show w.heap.size∈(b0.heap.size::a1.heap.size::w.heap.size::xs) by simp)).2.1 (by rw[show w.heap.size=g from e];exact AG.2 rfl)),HK2w.out.2.2.1.keep (AI g _ _ _) (fun e=> (HK2w.out.1.ne (show a1.heap.size∈(b0.heap.size::a1.heap.size::w.heap.size::xs) by simp)).2.1 (by rw[show a1.heap.size=g from e];exact AG.2 rfl))⟩);try simp only[List.toList_toArray];generalize (k2.setCells g (ix* 14+1) (pmC q.o q.e ur uq ug))=y9 at HY9 ⊢))
    try simp only[Al,Ad,Ae,Af]
    go_wp2_with (first
  | (with_reducible refine Bb rfl rfl ?_)
  | ((with_reducible refine Ao y9 rfl 37 (.tmp 4) (.tmp 118) rfl (a1.heap.size) 37 (AD 0 0 0 (tmC 0 0 0 ⟨#[]⟩ (.slice none 0 0))) (AD 0 0 0 (tmC 0 0 0 ⟨#[]⟩ (.slice none 0 0))) HY9.out.2.2 rfl rfl rfl (Ax rfl) (AN (AS _ _ _ _ _ _ _)) ?_);intro z9 hb hc hs;have HZ:=Ag (Ai (HY9.out.1.setX (show a1.heap.size∈_ by simp) HSZ.out hc) hb);clear hb hc hs))
    refine bodyPost_ret (AC Tryz.results75 _ _ (a1.heap.size) _ _ rfl HZ.out.2 _ Tryz.underlying37 rfl (Ax rfl)) rfl ?_
    rw[HX.out]
    exact⟨_,_,_,_,cv,rfl,rfl,HALL.out,((HZ.out.1).keepoff (fun k hk=> by simp[hk])).exadd (Bo _ _)⟩
end Go.Proofs.YtgdlfiphihaooaaGreat

import Derived.Test.YtgdlfiphihaooaaGreatYq20
set_option linter.unusedSimpArgs false
set_option linter.unusedVariables false
set_option maxRecDepth 100000
set_option maxHeartbeats 8000000
open _root_.List renaming getElem?_toArray→Aa,getElem?_cons_zero→Ab,getElem?_cons_succ→Ac,setIfInBounds_toArray→Ad,set_cons_zero→Ae,set_cons_succ→Af
open _root_.Go.Lib renaming hid→Ag
open _root_.Nat renaming le_refl→Ah,le_trans→Aj,lt_of_lt_of_le→Ak
open _root_.And renaming intro→Ai
open _root_.Go.Act renaming put→Al
namespace Go.Proofs.YtgdlfiphihaooaaGreat
open Go Go.RowKit
theorem Tryz.buildrd (x y tk tu tn:Int) (ts:ByteArray) (ta:Option Addr) (tl tp:Nat):∀ w,(Instr.build 37 #[(1,.int .i64 x),(2,.int .i64 y),(3,.agg (tmC tk tu tn ts (.slice ta tl tp)).toArray)]).run Tryz.prog w=.ok (.agg (AD 0 x y (tmC tk tu tn ts (.slice ta tl tp))).toArray) w:=fun w=> by kernel_rfl
theorem FY {ops:Array Oper} {rest:List Oper} {op:Oper} {a:Act} {w:World} {Q:Exit→Act→World→Prop} (hgd:op.guard=none) (x0 x1 x2:Operand) (ho:op.op=.build 37 #[(1,x0),(2,x1),(3,x2)])
  (x y tk tu tn:Int) (ts:ByteArray) (ta:Option Addr) (tl tp:Nat) (h0:a.eval x0=.int .i64 x) (h1:a.eval x1=.int .i64 y) (h2:a.eval x2=.agg (tmC tk tu tn ts (.slice ta tl tp)).toArray)
  (h:wpList Tryz.prog ops Q rest (a.put op.dst (.agg (AD 0 x y (tmC tk tu tn ts (.slice ta tl tp))).toArray)) w):wpList Tryz.prog ops Q (op::rest) a w:=by
 refine wpList_plain hgd fun K hK=> ?_
 have hrun:(execOp a.eval op).run Tryz.prog w=.ok (.value (.agg (AD 0 x y (tmC tk tu tn ts (.slice ta tl tp))).toArray)) w:=by
  unfold execOp
  simp only[ho]
  rw[show((#[((1:Nat),x0),(2,x1),(3,x2)]:Array (Nat × Operand)).map fun (i,x)=> (i,a.eval x))=#[(1,.int .i64 x),(2,.int .i64 y),(3,.agg (tmC tk tu tn ts (.slice ta tl tp)).toArray)] by simp[h0,h1,h2]]
  simp[Tryz.buildrd,Result.andThen]
 unfold Oper.wp
 rw[hrun]
 exact hK _ _ h
theorem FC (p:OpM) (tco:List Value) {w0 w:World} {m0 xs:List Nat} {bp:Nat} {vf vc vw:Value} {fs:List FileM} {cv:List CirV} {ws:List WrM} {ex:List (List Value × Tm)}
  (h:OwnX w0 m0 xs w bp 97 [vf,vc,vw] vf vc vw fs cv ws ex) (hb:(tco,p.b)∈ex) (hk:ChkP (⟨fs,cv.map CirV.m,ws⟩:IdM)) (ho:opB p=true) (hall:∀ c∈cv,c.own=true) (hkk:p.k=2∨p.k=3):
  Calls Tryz.prog 77 #[.pointer (some ⟨bp,0,none⟩),.agg (opC p tco).toArray] w (G6 w0 m0 xs bp 97 ex (Bt (⟨fs,cv.map CirV.m,ws⟩:IdM) p)):=by
 obtain⟨af,cf,rfl,hf1,hf2⟩:=h.rf.shape
 obtain⟨ac,cc,rfl,hc1,hc2⟩:=h.rc.shape
 obtain⟨aw,cw,rfl,hw1,hw2⟩:=h.rw.shape
 obtain⟨fn,hfn⟩:∃ n,fs.length=n:=⟨_,rfl⟩
 obtain⟨cn,hcn⟩:∃ n,cv.length=n:=⟨_,rfl⟩
 obtain⟨wn,hwn⟩:∃ n,ws.length=n:=⟨_,rfl⟩
 have HN:=Ag (Ai hfn (Ai hcn hwn))
 have hfl:fn≤6:=by have:=hk.fl;simp only at this;omega
 have hcl:cn≤3:=by have:=hk.cl;simp only[List.length_map] at this;omega
 have hwl:wn≤400:=by have:=hk.wl;simp only at this;omega
 rw[hfn,hcn,hwn] at h
 have HOWN:=Ag h
 have HB:=Ag hb
 have HK:=Ag hk
 have HO:=Ag ho
 have HALL:=Ag hall
 have HTL:=Ag (h.ex _ hb).len
 obtain⟨SR,hSR⟩:∃ r,Bt (⟨fs,cv.map CirV.m,ws⟩:IdM) p=r:=⟨_,rfl⟩
 have HSR:=Ag hSR
 rw[hSR]
 have HKK:=Ag hkk
 clear hkk
 clear h hb hk ho hall hfn hcn hwn hSR hf1 hf2 hc1 hc2 hw1 hw2
 obtain⟨⟨ix,th⟩,hsk⟩:∃ r,Bm (⟨fs,cv.map CirV.m,ws⟩:IdM) p.nm=r:=⟨_,rfl⟩
 have HSK:=Ag hsk
 have HF:=Ag (fun (W:World) (hW:IdC (fun _=> True) W [(.slice af fn cf),(.slice ac cn cc),(.slice aw wn cw)] (⟨fs,cv.map CirV.m,ws⟩:IdM))=> show Calls Tryz.prog 25 #[.agg ([(.slice af fn cf),(.slice ac cn cc),(.slice aw wn cw)]:List Value).toArray,.string p.nm] W (fun e w'=> e=.returned (.tuple #[.int .i64 (ix:Nat),.bool th])∧Below W.heap.size W w') from by
  have h:=ER (⟨fs,cv.map CirV.m,ws⟩:IdM) p.nm [(.slice af fn cf),(.slice ac cn cc),(.slice aw wn cw)] _ W hW (by have:=HK.out.fl;simp only at this ⊢;omega)
  rw[show AU (fun x=> BS x.nm p.nm) (⟨fs,cv.map CirV.m,ws⟩:IdM).fs=(ix,th) from hsk] at h
  exact h)
 clear hsk
 go_enter Tryz.func77,Tryz.ntmps77
 go_upto_region 1 with(first
  | ((with_reducible refine Au w rfl 31 (.tmp 1) rfl (opC p tco) rfl ?_);intro a1 hb hbel hsz;have H1:=hJ2 (HOWN.out.rsv hbel (Ah _) hb.lt) hb;clear hb hbel hsz)
  | ((with_reducible refine Av a1 rfl 37 rfl (AD 0 0 0 (tmC 0 0 0 ⟨#[]⟩ (.slice none 0 0))) Tryz.zeroRs ?_);intro a2 hb hbel hsz;have H2:=hJ3 (H1.out.1.rsv hbel (Ah _) hb.lt) (H1.out.2.below hbel H1.out.2.lt) hb;have HSZ:=Ag (show w0.heap.size≤a1.heap.size from H1.out.1.ch.size);clear hb hbel hsz))
 try simp only[Al,Ad,Ae,Af]
 have HG:=hJ2 H1.out.2.lt H2.out.2.2.lt
 go_wp2_with fail
 refine Az (fun W=> W.rangeAt bp 0 [(.slice af fn cf),(.slice ac cn cc),(.slice aw wn cw)]∧W.cell? ⟨w.heap.size,2,none⟩=some (.string p.nm)) [0,1,2,3,4,5] 6 (by kernel_rfl) rfl (by kernel_rfl) (by kernel_rfl) ⟨As H2.out.1.bl,H2.out.2.1.cell 2⟩ ?_
 iterate 6(refine' AH.run ?_ ?_ ?_ ?_;rotate_left 2;(simp only[Aa,Ab,Ac];rfl);rfl;(rintro w' ⟨k0,k1⟩;first|exact AA rfl rfl k0 Tryz.underlying26 rfl (At Tryz.infoId rfl)|(go_simp;with_reducible rfl));simp only[Al,Ad,Ae,Af])
 have sm:=(Sm.refl a2).drew
 have HV2:=hJ3 (H2.out.1.below (sm.below _)) (H2.out.2.1.below (sm.below _) H2.out.2.1.lt) (H2.out.2.2.below (sm.below _) H2.out.2.2.lt)
 clear sm
 generalize a2.drew=v1 at HV2 ⊢
 refine' Ar 6 (by kernel_rfl) ?_ ?_;rotate_left;(simp only[Aa,Ab,Ac];rfl)
 try simp only[Al,Ad,Ae,Af]
 go_wp2_with fail
 refine Calls.mono (HF.out v1 HV2.out.1.idc) ?_
 rintro e' u3 ⟨rfl,hb⟩
 have K4:=hJ3 (HV2.out.1.below hb) (HV2.out.2.1.below hb HV2.out.2.1.lt) (HV2.out.2.2.below hb HV2.out.2.2.lt)
 clear hb
 go_wp2_with fail
 refine QK.normal ⟨⟨As K4.out.1.bl,K4.out.2.1.cell 2⟩,?_⟩
 refine A2 (fuel:=0) (by kernel_rfl) AE ⟨As K4.out.1.bl,K4.out.2.1.cell 2⟩ [7,8,9,10,11] _ _ (by kernel_rfl) ?_
 try simp only[Al]
 iterate 5(refine' AH.run ?_ ?_ ?_ ?_;rotate_left 2;(simp only[Aa,Ab,Ac];rfl);rfl;(rintro w' ⟨k0,k1⟩;first|exact AA rfl rfl k0 Tryz.underlying26 rfl (At Tryz.infoId rfl)|(go_simp;with_reducible rfl));simp only[Al,Ad,Ae,Af])
 refine wpAnyH_done (by kernel_rfl) ?_ _
 refine NoPanic.normal ?_
 cases th
 ·skip
  have HX:=Ag (show SR=((⟨fs,cv.map CirV.m,ws⟩:IdM),A3 4) from by rw[←HSR.out];unfold Bt;rw[HSK.out,if_pos rfl])
  go_wp2_with fail
  refine(Be (4) u3).mono ?_
  rintro e' u5 ⟨rfl,hb⟩
  have K6:=hJ3 (K4.out.1.below hb) (K4.out.2.1.below hb K4.out.2.1.lt) (K4.out.2.2.below hb K4.out.2.2.lt)
  clear hb
  go_wp2_with (first
  | ((with_reducible refine Ao u5 rfl 37 (.tmp 4) (.tmp 20) rfl (a1.heap.size) 37 (AD 0 0 0 (tmC 0 0 0 ⟨#[]⟩ (.slice none 0 0))) (AD (4) 0 0 (tmC 0 0 0 ⟨#[]⟩ (.slice none 0 0))) K6.out.2.2 rfl rfl rfl (Ax rfl) (AN (AS _ _ _ _ _ _ _)) ?_);intro z9 hb hc hs;have HZ:=Ag (Ai (K6.out.1.setX (show a1.heap.size∈_ by simp) HSZ.out hc) hb);clear hb hc hs))
  refine bodyPost_ret (AC Tryz.results77 _ _ (a1.heap.size) _ _ rfl HZ.out.2 _ Tryz.underlying37 rfl (Ax rfl)) rfl ?_
  rw[HX.out]
  exact⟨_,_,_,_,cv,rfl,rfl,HALL.out,((HZ.out.1).keepoff (fun k hk=> by simp[hk])).exadd (Bo _ _)⟩
 ·skip
  have hixl:ix<fs.length:=by
   have h:=(DV (c:=fun x:FileM=> BS x.nm p.nm) (l:=fs) (by rw[show AU (fun x:FileM=> BS x.nm p.nm) fs=(ix,true) from HSK.out])).1
   rw[show AU (fun x:FileM=> BS x.nm p.nm) fs=(ix,true) from HSK.out] at h
   exact h
  obtain⟨g,cf',e,-⟩:=K4.out.1.rf.ptr hixl
  rw[HN.out.1] at e
  obtain⟨rfl,rfl⟩:af=some ⟨g,0,none⟩∧cf=cf':=by simpa using e
  obtain⟨f,hf⟩:∃ f,fs[ix]=f:=⟨_,rfl⟩
  have HFI:=Ag (show fs[ix]?=some f from by rw[List.getElem?_eq_getElem hixl,hf])
  have HSET:=Ag (show fs.set ix f=fs from by rw[←hf,List.set_getElem_self])
  have HFP:=Ag (Bq (HK.out.f f (by show f∈fs;rw[←hf];exact List.getElem_mem hixl)))
  obtain⟨-,vr,vq,vg,tc,hra,hpf,htc,-⟩:=OwnX.elF (f:=f) (by rw[HSET.out];exact K4.out.1) hixl
  have HEL:=Ag (show OwnX w0 m0 (a1.heap.size::w.heap.size::xs) u3 bp 97 [(.slice (some ⟨g,0,none⟩) fn cf),(.slice ac cn cc),(.slice aw wn cw)] (.slice (some ⟨g,0,none⟩) fn cf) (.slice ac cn cc) (.slice aw wn cw) fs cv ws ex∧Blk u3 (w.heap.size) 31 (opC p tco)∧Blk u3 (a1.heap.size) 37 (AD 0 0 0 (tmC 0 0 0 ⟨#[]⟩ (.slice none 0 0)))∧u3.rangeAt g (ix* 14) (flC f.nm f.p.o f.p.e vr vq vg f.v f.e f.u tc)∧PmF (fun _=> True) u3 f.p vr vq vg∧TmC (fun _=> True) u3 tc f.b from⟨K4.out.1,K4.out.2.1,K4.out.2.2,hra,hpf.keep' (Ch.refl (fun _=> False) _) (fun _ _ e=> e) (fun _ _=> trivial),htc.mono fun _ _=> trivial⟩)
  have HIXL:=Ag hixl
  have hixz:(ix:Int)<(fn:Int):=by have:=HN.out.1;omega
  have hix0:(0:Int)≤(ix:Int):=by omega
  clear e hf hra hpf htc hixl K4
  have c0:=HEL.out.1.bl.cell 0
  simp only[Ab,Ac] at c0
  go_upto_region 5 with fail
  try simp only[Al,Ad,Ae,Af]
  clear c0
  rcases HKK.out with hk|hk
  ·skip
   have HK2:=Ag hk
   have HC0:=Ag (show(opC p tco)[0]?=some (.int .i64 2) from by show some (Value.int .i64 p.k)=_;rw[hk])
   clear hk
   obtain⟨mw,hmw⟩:∃ b,Dt f.p p.u=b:=⟨_,rfl⟩
   have HMW:=Ag hmw
   clear hmw
   have c0:u3.cell? ⟨w.heap.size,0,none⟩=some (.int .i64 2):=(HEL.out.2.1.cell 0).trans HC0.out
   go_wp2_with fail
   go_quiet (fail)
   clear c0
   go_wp2_with fail
   have sm:=((Sm.refl u3).drewN nq)
   have HE4:=hJ6 (HEL.out.1.below (sm.below _)) (HEL.out.2.1.below (sm.below _) HEL.out.2.1.lt) (HEL.out.2.2.1.below (sm.below _) HEL.out.2.2.1.lt) (AF HEL.out.2.2.2.1 (sm.below _)) (HEL.out.2.2.2.2.1.below (sm.below _)) (HEL.out.2.2.2.2.2.below (sm.below _))
   generalize u3.drewN nq=e4 at HE4 ⊢
   clear sm HEL
   go_wp2_with fail
   refine Az (fun W=> W.cell? ⟨w.heap.size,0,none⟩=some (.int .i64 2)∧W.cell? ⟨w.heap.size,1,none⟩=some (.int .i64 p.u)∧W.rangeAt g (ix* 14+1) (pmC f.p.o f.p.e vr vq vg)) [0,1,2,3,4,5,6,7,8,9] 4 (by kernel_rfl) rfl (by kernel_rfl) (by kernel_rfl) ⟨(HE4.out.2.1.cell 0).trans HC0.out,HE4.out.2.1.cell 1,fun j x hx=> by have h:=HE4.out.2.2.2.1 (1+j) x (by match j,hx with|0,hx=> exact hx|1,hx=> exact hx|2,hx=> exact hx|3,hx=> exact hx|4,hx=> exact hx);rw[←Nat.add_assoc] at h;exact h⟩ ?_
   iterate 10(refine' AH.run ?_ ?_ ?_ ?_;rotate_left 2;(simp only[Aa,Ab,Ac];rfl);rfl;(rintro w' ⟨k0,k1,k2⟩;first|exact AA rfl rfl k2 Tryz.underlying43 rfl (Ay _ _ _ _ _)|(go_simp;with_reducible rfl));simp only[Al,Ad,Ae,Af])
   have sm:=(Sm.refl e4).drew
   have HV8:=hJ6 (HE4.out.1.below (sm.below _)) (HE4.out.2.1.below (sm.below _) HE4.out.2.1.lt) (HE4.out.2.2.1.below (sm.below _) HE4.out.2.2.1.lt) (AF HE4.out.2.2.2.1 (sm.below _)) (HE4.out.2.2.2.2.1.below (sm.below _)) (HE4.out.2.2.2.2.2.below (sm.below _))
   clear sm
   generalize e4.drew=v7 at HV8 ⊢
   refine' Ar 10 (by kernel_rfl) ?_ ?_;rotate_left;(simp only[Aa,Ab,Ac];rfl)
   try simp only[Al,Ad,Ae,Af]
   go_wp2_with fail
   refine(C7 f.p p.u vr vq vg v7 HV8.out.2.2.2.2.1.s).mono ?_
   rintro e' e5 ⟨rfl,hb⟩
   rw[HMW.out]
   have HE5:=hJ6 (HV8.out.1.below hb) (HV8.out.2.1.below hb HV8.out.2.1.lt) (HV8.out.2.2.1.below hb HV8.out.2.2.1.lt) (AF HV8.out.2.2.2.1 hb) (HV8.out.2.2.2.2.1.below hb) (HV8.out.2.2.2.2.2.below hb)
   clear hb
   go_wp2_with fail
   refine QK.normal ⟨⟨(HE5.out.2.1.cell 0).trans HC0.out,HE5.out.2.1.cell 1,fun j x hx=> by have h:=HE5.out.2.2.2.1 (1+j) x (by match j,hx with|0,hx=> exact hx|1,hx=> exact hx|2,hx=> exact hx|3,hx=> exact hx|4,hx=> exact hx);rw[←Nat.add_assoc] at h;exact h⟩,?_⟩
   refine' Ar 11 (by kernel_rfl) ?_ ?_;rotate_left;(simp only[Aa,Ab,Ac];rfl)
   try simp only[Al,Ad,Ae,Af]
   go_wp2_with fail
   refine QK.normal ⟨⟨(HE5.out.2.1.cell 0).trans HC0.out,HE5.out.2.1.cell 1,fun j x hx=> by have h:=HE5.out.2.2.2.1 (1+j) x (by match j,hx with|0,hx=> exact hx|1,hx=> exact hx|2,hx=> exact hx|3,hx=> exact hx|4,hx=> exact hx);rw[←Nat.add_assoc] at h;exact h⟩,?_⟩
   refine' Ar 12 (by kernel_rfl) ?_ ?_;rotate_left;(simp only[Aa,Ab,Ac];rfl)
   try simp only[Al,Ad,Ae,Af]
   go_wp2_with fail
   refine QK.normal ⟨⟨(HE5.out.2.1.cell 0).trans HC0.out,HE5.out.2.1.cell 1,fun j x hx=> by have h:=HE5.out.2.2.2.1 (1+j) x (by match j,hx with|0,hx=> exact hx|1,hx=> exact hx|2,hx=> exact hx|3,hx=> exact hx|4,hx=> exact hx);rw[←Nat.add_assoc] at h;exact h⟩,?_⟩
   refine' Ar 13 (by kernel_rfl) ?_ ?_;rotate_left;(simp only[Aa,Ab,Ac];rfl)
   try simp only[Al,Ad,Ae,Af]
   go_wp2_with fail
   refine QK.normal ⟨⟨(HE5.out.2.1.cell 0).trans HC0.out,HE5.out.2.1.cell 1,fun j x hx=> by have h:=HE5.out.2.2.2.1 (1+j) x (by match j,hx with|0,hx=> exact hx|1,hx=> exact hx|2,hx=> exact hx|3,hx=> exact hx|4,hx=> exact hx);rw[←Nat.add_assoc] at h;exact h⟩,?_⟩
   refine wpAnyH_done (by kernel_rfl) ?_ _
   refine NoPanic.normal ?_
   cases mw
   ·skip
    have HX:=Ag (show SR=((⟨fs,cv.map CirV.m,ws⟩:IdM),A3 280) from by rw[←HSR.out];unfold Bt;rw[HSK.out,if_neg (by simp),show((⟨fs,cv.map CirV.m,ws⟩:IdM)).fs[ix]?=some f from HFI.out];simp only;rw[if_neg (fun h=> absurd h.1 (by rw[HK2.out];omega)),if_pos (.inr HMW.out)])
    go_wp2_with fail
    refine(Be (280) e5).mono ?_
    rintro e' u9 ⟨rfl,hb⟩
    have K10:=hJ6 (HE5.out.1.below hb) (HE5.out.2.1.below hb HE5.out.2.1.lt) (HE5.out.2.2.1.below hb HE5.out.2.2.1.lt) (AF HE5.out.2.2.2.1 hb) (HE5.out.2.2.2.2.1.below hb) (HE5.out.2.2.2.2.2.below hb)
    clear hb
    go_wp2_with (first
  | ((with_reducible refine Ao u9 rfl 37 (.tmp 4) (.tmp 74) rfl (a1.heap.size) 37 (AD 0 0 0 (tmC 0 0 0 ⟨#[]⟩ (.slice none 0 0))) (AD (280) 0 0 (tmC 0 0 0 ⟨#[]⟩ (.slice none 0 0))) K10.out.2.2.1 rfl rfl rfl (Ax rfl) (AN (AS _ _ _ _ _ _ _)) ?_);intro z9 hb hc hs;have HZ:=Ag (Ai (K10.out.1.setX (show a1.heap.size∈_ by simp) HSZ.out hc) hb);clear hb hc hs))
    refine bodyPost_ret (AC Tryz.results77 _ _ (a1.heap.size) _ _ rfl HZ.out.2 _ Tryz.underlying37 rfl (Ax rfl)) rfl ?_
    rw[HX.out]
    exact⟨_,_,_,_,cv,rfl,rfl,HALL.out,((HZ.out.1).keepoff (fun k hk=> by simp[hk])).exadd (Bo _ _)⟩
   ·skip
    have c6:e5.cell? ⟨g,ix* 14+6,none⟩=some (.int .i64 f.v):=HE5.out.2.2.2.1 6 _ rfl
    have c2:=HE5.out.1.bl.cell 2
    simp only[Ab,Ac] at c2
    by_cases hv9:f.v=9999
    ·have hv9e:(f.v==9999)=true:=by simpa using hv9
     have HX:=Ag (show SR=((⟨fs,cv.map CirV.m,ws⟩:IdM),A3 6) from by rw[←HSR.out];unfold Bt;rw[HSK.out,if_neg (by simp),show((⟨fs,cv.map CirV.m,ws⟩:IdM)).fs[ix]?=some f from HFI.out];simp only;rw[if_neg (fun h=> absurd h.1 (by rw[HK2.out];omega)),if_neg (fun h=> h.elim (fun h=> absurd h (by rw[HK2.out];omega)) (fun h=> by rw[HMW.out] at h;cases h)),if_pos (by show f.v=9999∨ws.length=400;rw[HN.out.2.2];omega)])
     clear hv9
     go_wp2_with fail
     refine(Be (6) e5).mono ?_
     rintro e' u11 ⟨rfl,hb⟩
     have K12:=hJ6 (HE5.out.1.below hb) (HE5.out.2.1.below hb HE5.out.2.1.lt) (HE5.out.2.2.1.below hb HE5.out.2.2.1.lt) (AF HE5.out.2.2.2.1 hb) (HE5.out.2.2.2.2.1.below hb) (HE5.out.2.2.2.2.2.below hb)
     clear hb
     go_wp2_with (first
  | ((with_reducible refine Ao u11 rfl 37 (.tmp 4) (.tmp 90) rfl (a1.heap.size) 37 (AD 0 0 0 (tmC 0 0 0 ⟨#[]⟩ (.slice none 0 0))) (AD (6) 0 0 (tmC 0 0 0 ⟨#[]⟩ (.slice none 0 0))) K12.out.2.2.1 rfl rfl rfl (Ax rfl) (AN (AS _ _ _ _ _ _ _)) ?_);intro z9 hb hc hs;have HZ:=Ag (Ai (K12.out.1.setX (show a1.heap.size∈_ by simp) HSZ.out hc) hb);clear hb hc hs))
     refine bodyPost_ret (AC Tryz.results77 _ _ (a1.heap.size) _ _ rfl HZ.out.2 _ Tryz.underlying37 rfl (Ax rfl)) rfl ?_
     rw[HX.out]
     exact⟨_,_,_,_,cv,rfl,rfl,HALL.out,((HZ.out.1).keepoff (fun k hk=> by simp[hk])).exadd (Bo _ _)⟩
    ·have hv9e:(f.v==9999)=false:=by simpa using hv9
     by_cases h4:wn=400
     ·have h4e:((wn:Int)==400)=true:=by simp;omega
      have HX:=Ag (show SR=((⟨fs,cv.map CirV.m,ws⟩:IdM),A3 6) from by rw[←HSR.out];unfold Bt;rw[HSK.out,if_neg (by simp),show((⟨fs,cv.map CirV.m,ws⟩:IdM)).fs[ix]?=some f from HFI.out];simp only;rw[if_neg (fun h=> absurd h.1 (by rw[HK2.out];omega)),if_neg (fun h=> h.elim (fun h=> absurd h (by rw[HK2.out];omega)) (fun h=> by rw[HMW.out] at h;cases h)),if_pos (by show f.v=9999∨ws.length=400;rw[HN.out.2.2];omega)])
      go_wp2_with fail
      refine(Be (6) e5).mono ?_
      rintro e' u13 ⟨rfl,hb⟩
      have K14:=hJ6 (HE5.out.1.below hb) (HE5.out.2.1.below hb HE5.out.2.1.lt) (HE5.out.2.2.1.below hb HE5.out.2.2.1.lt) (AF HE5.out.2.2.2.1 hb) (HE5.out.2.2.2.2.1.below hb) (HE5.out.2.2.2.2.2.below hb)
      clear hb
      go_wp2_with (first
  | ((with_reducible refine Ao u13 rfl 37 (.tmp 4) (.tmp 90) rfl (a1.heap.size) 37 (AD 0 0 0 (tmC 0 0 0 ⟨#[]⟩ (.slice none 0 0))) (AD (6) 0 0 (tmC 0 0 0 ⟨#[]⟩ (.slice none 0 0))) K14.out.2.2.1 rfl rfl rfl (Ax rfl) (AN (AS _ _ _ _ _ _ _)) ?_);intro z9 hb hc hs;have HZ:=Ag (Ai (K14.out.1.setX (show a1.heap.size∈_ by simp) HSZ.out hc) hb);clear hb hc hs))
      refine bodyPost_ret (AC Tryz.results77 _ _ (a1.heap.size) _ _ rfl HZ.out.2 _ Tryz.underlying37 rfl (Ax rfl)) rfl ?_
      rw[HX.out]
      exact⟨_,_,_,_,cv,rfl,rfl,HALL.out,((HZ.out.1).keepoff (fun k hk=> by simp[hk])).exadd (Bo _ _)⟩
     ·have h4e:((wn:Int)==400)=false:=by simp;omega
      have HX:=Ag (show SR=(⟨fs.set ix (BB f p),cv.map CirV.m,ws ++ [Bl (BB f p)]⟩,A3 0) from by rw[←HSR.out];unfold Bt;rw[HSK.out,if_neg (by simp),show((⟨fs,cv.map CirV.m,ws⟩:IdM)).fs[ix]?=some f from HFI.out];simp only;rw[if_neg (fun h=> absurd h.1 (by rw[HK2.out];omega)),if_neg (fun h=> h.elim (fun h=> absurd h (by rw[HK2.out];omega)) (fun h=> by rw[HMW.out] at h;cases h)),if_neg (by show ¬ (f.v=9999∨ws.length=400);rw[HN.out.2.2];omega)])
      clear hv9
      go_wp2_with (first
  | (with_reducible refine Ap rfl 31 (.tmp 3) rfl (w.heap.size) 0 rfl (opC p tco) _ (As HE5.out.2.1) Tryz.underlying31 rfl (Bs HTL.out) ?_))
      clear c6 c2
      have HEN:=Ag (show OwnX e5 _ (a1.heap.size::w.heap.size::xs) e5 bp 97 [(.slice (some ⟨g,0,none⟩) fn cf),(.slice ac cn cc),(.slice aw wn cw)] (.slice (some ⟨g,0,none⟩) fn cf) (.slice ac cn cc) (.slice aw wn cw) (fs.set ix f) cv ws ex from by rw[HSET.out];exact HE5.out.1.enter)
      have HVB:=Ag (Ec HFP.out.2.2.2.1)
      refine(Gy p tco HEN.out HIXL.out HB.out (JE HO.out (by rw[HK2.out];omega)).1 (by have:=HVB.out.2.1;have h:(Bl f).v=f.v:=rfl;omega) (by have:=HVB.out.2.2.1;have h:(Bl f).v=f.v:=rfl;omega) (by rw[HN.out.2.2];omega)).mono ?_
      rintro e' e7 ⟨rfl,vw5,hw5⟩
      have HE7:=Ag (show OwnX w0 m0 (a1.heap.size::w.heap.size::xs) e7 bp 97 [(.slice (some ⟨g,0,none⟩) fn cf),(.slice ac cn cc),vw5] (.slice (some ⟨g,0,none⟩) fn cf) (.slice ac cn cc) vw5 (fs.set ix (BB f p)) cv (ws ++ [Bl (BB f p)]) ex∧Blk e7 (w.heap.size) 31 (opC p tco)∧Blk e7 (a1.heap.size) 37 (AD 0 0 0 (tmC 0 0 0 ⟨#[]⟩ (.slice none 0 0))) from⟨HE5.out.1.leave hw5,HE5.out.2.1.keep hw5.ch (fun e=> (HE5.out.1.ax (w.heap.size) (by simp)).1 e),HE5.out.2.2.1.keep hw5.ch (fun e=> (HE5.out.1.ax (a1.heap.size) (by simp)).1 e)⟩)
      clear hw5 HEN
      go_wp2_with (first
  | (with_reducible refine Bb rfl rfl ?_)
  | ((with_reducible refine Ao e7 rfl 37 (.tmp 4) (.tmp 95) rfl (a1.heap.size) 37 (AD 0 0 0 (tmC 0 0 0 ⟨#[]⟩ (.slice none 0 0))) (AD 0 0 0 (tmC 0 0 0 ⟨#[]⟩ (.slice none 0 0))) HE7.out.2.2 rfl rfl rfl (Ax rfl) (AN (AS _ _ _ _ _ _ _)) ?_);intro z9 hb hc hs;have HZ:=Ag (Ai (HE7.out.1.setX (show a1.heap.size∈_ by simp) HSZ.out hc) hb);clear hb hc hs))
      refine bodyPost_ret (AC Tryz.results77 _ _ (a1.heap.size) _ _ rfl HZ.out.2 _ Tryz.underlying37 rfl (Ax rfl)) rfl ?_
      rw[HX.out]
      exact⟨_,_,_,_,cv,rfl,rfl,HALL.out,((HZ.out.1).keepoff (fun k hk=> by simp[hk])).exadd (Bo _ _)⟩
  ·skip
   have HK2:=Ag hk
   have HC0:=Ag (show(opC p tco)[0]?=some (.int .i64 3) from by show some (Value.int .i64 p.k)=_;rw[hk])
   clear hk
   obtain⟨mr,hmr⟩:∃ b,CC f.p p.u (BX (cv.map CirV.m))=b:=⟨_,rfl⟩
   have HMR:=Ag hmr
   clear hmr
   go_wp2_with fail
   refine Az (fun W=> W.cell? ⟨w.heap.size,0,none⟩=some (.int .i64 3)∧W.cell? ⟨w.heap.size,1,none⟩=some (.int .i64 p.u)∧W.rangeAt g (ix* 14+1) (pmC f.p.o f.p.e vr vq vg)∧W.rangeAt bp 0 [(.slice (some ⟨g,0,none⟩) fn cf),(.slice ac cn cc),(.slice aw wn cw)]) [0,1,2,3,4,5,6,7,8,9,10,11,12,13] 4 (by kernel_rfl) rfl (by kernel_rfl) (by kernel_rfl) ⟨(HEL.out.2.1.cell 0).trans HC0.out,HEL.out.2.1.cell 1,fun j x hx=> by have h:=HEL.out.2.2.2.1 (1+j) x (by match j,hx with|0,hx=> exact hx|1,hx=> exact hx|2,hx=> exact hx|3,hx=> exact hx|4,hx=> exact hx);rw[←Nat.add_assoc] at h;exact h,As HEL.out.1.bl⟩ ?_
   iterate 14(refine' AH.run ?_ ?_ ?_ ?_;rotate_left 2;(simp only[Aa,Ab,Ac];rfl);rfl;(rintro w' ⟨k0,k1,k2,k3⟩;first|exact AA rfl rfl k2 Tryz.underlying43 rfl (Ay _ _ _ _ _)|exact AA rfl rfl k3 Tryz.underlying26 rfl (At Tryz.infoId rfl)|(go_simp;with_reducible rfl));simp only[Al,Ad,Ae,Af])
   have sm:=(Sm.refl u3).drew
   have HV16:=hJ6 (HEL.out.1.below (sm.below _)) (HEL.out.2.1.below (sm.below _) HEL.out.2.1.lt) (HEL.out.2.2.1.below (sm.below _) HEL.out.2.2.1.lt) (AF HEL.out.2.2.2.1 (sm.below _)) (HEL.out.2.2.2.2.1.below (sm.below _)) (HEL.out.2.2.2.2.2.below (sm.below _))
   clear sm
   generalize u3.drew=v15 at HV16 ⊢
   refine' Ar 14 (by kernel_rfl) ?_ ?_;rotate_left;(simp only[Aa,Ab,Ac];rfl)
   try simp only[Al,Ad,Ae,Af]
   go_wp2_with fail
   refine(FB (⟨fs,cv.map CirV.m,ws⟩:IdM) [(.slice (some ⟨g,0,none⟩) fn cf),(.slice ac cn cc),(.slice aw wn cw)] _ v15 HV16.out.1.idc HK.out.bel).mono ?_
   rintro e' e1 ⟨vm,rfl,hsl,hb⟩
   have HE1:=hJ7 (HV16.out.1.below hb) (HV16.out.2.1.below hb HV16.out.2.1.lt) (HV16.out.2.2.1.below hb HV16.out.2.2.1.lt) (AF HV16.out.2.2.2.1 hb) (HV16.out.2.2.2.2.1.below hb) (HV16.out.2.2.2.2.2.below hb) hsl
   clear hsl hb
   go_wp2_with fail
   refine QK.normal ⟨⟨(HE1.out.2.1.cell 0).trans HC0.out,HE1.out.2.1.cell 1,fun j x hx=> by have h:=HE1.out.2.2.2.1 (1+j) x (by match j,hx with|0,hx=> exact hx|1,hx=> exact hx|2,hx=> exact hx|3,hx=> exact hx|4,hx=> exact hx);rw[←Nat.add_assoc] at h;exact h,As HE1.out.1.bl⟩,?_⟩
   refine' Ar 15 (by kernel_rfl) ?_ ?_;rotate_left;(simp only[Aa,Ab,Ac];rfl)
   try simp only[Al,Ad,Ae,Af]
   go_wp2_with fail
   refine(Fx f.p p.u (BX (cv.map CirV.m)) vr vq vg vm e1 HE1.out.2.2.2.2.1.s HE1.out.2.2.2.2.2.2).mono ?_
   rintro e' e2 ⟨rfl,hb⟩
   rw[HMR.out]
   have HE2:=hJ7 (HE1.out.1.below hb) (HE1.out.2.1.below hb HE1.out.2.1.lt) (HE1.out.2.2.1.below hb HE1.out.2.2.1.lt) (AF HE1.out.2.2.2.1 hb) (HE1.out.2.2.2.2.1.below hb) (HE1.out.2.2.2.2.2.1.below hb) (HE1.out.2.2.2.2.2.2.below hb)
   clear hb
   go_wp2_with fail
   refine QK.normal ⟨⟨(HE2.out.2.1.cell 0).trans HC0.out,HE2.out.2.1.cell 1,fun j x hx=> by have h:=HE2.out.2.2.2.1 (1+j) x (by match j,hx with|0,hx=> exact hx|1,hx=> exact hx|2,hx=> exact hx|3,hx=> exact hx|4,hx=> exact hx);rw[←Nat.add_assoc] at h;exact h,As HE2.out.1.bl⟩,?_⟩
   refine' Ar 16 (by kernel_rfl) ?_ ?_;rotate_left;(simp only[Aa,Ab,Ac];rfl)
   try simp only[Al,Ad,Ae,Af]
   go_wp2_with fail
   refine QK.normal ⟨⟨(HE2.out.2.1.cell 0).trans HC0.out,HE2.out.2.1.cell 1,fun j x hx=> by have h:=HE2.out.2.2.2.1 (1+j) x (by match j,hx with|0,hx=> exact hx|1,hx=> exact hx|2,hx=> exact hx|3,hx=> exact hx|4,hx=> exact hx);rw[←Nat.add_assoc] at h;exact h,As HE2.out.1.bl⟩,?_⟩
   refine' Ar 17 (by kernel_rfl) ?_ ?_;rotate_left;(simp only[Aa,Ab,Ac];rfl)
   try simp only[Al,Ad,Ae,Af]
   go_wp2_with fail
   refine QK.normal ⟨⟨(HE2.out.2.1.cell 0).trans HC0.out,HE2.out.2.1.cell 1,fun j x hx=> by have h:=HE2.out.2.2.2.1 (1+j) x (by match j,hx with|0,hx=> exact hx|1,hx=> exact hx|2,hx=> exact hx|3,hx=> exact hx|4,hx=> exact hx);rw[←Nat.add_assoc] at h;exact h,As HE2.out.1.bl⟩,?_⟩
   refine wpAnyH_done (by kernel_rfl) ?_ _
   refine NoPanic.normal ?_
   cases mr
   ·skip
    have c0:e2.cell? ⟨w.heap.size,0,none⟩=some (.int .i64 3):=(HE2.out.2.1.cell 0).trans HC0.out
    go_wp2_with fail
    go_quiet (fail)
    have HX:=Ag (show SR=((⟨fs,cv.map CirV.m,ws⟩:IdM),A3 280) from by rw[←HSR.out];unfold Bt;rw[HSK.out,if_neg (by simp),show((⟨fs,cv.map CirV.m,ws⟩:IdM)).fs[ix]?=some f from HFI.out];simp only;rw[if_neg (by rw[show BX ((⟨fs,cv.map CirV.m,ws⟩:IdM)).cs=BX (cv.map CirV.m) from rfl,HMR.out];simp),if_pos (.inl HK2.out)])
    go_wp2_with fail
    refine(Be 280 _).mono ?_
    rintro e' u9 ⟨rfl,hb⟩
    have hb2:=An ((Sm.refl e2).drewN _ |>.below e2.heap.size) hb (Ah _)
    have HU9:=Ag (show OwnX w0 m0 (a1.heap.size::w.heap.size::xs) u9 bp 97 [(.slice (some ⟨g,0,none⟩) fn cf),(.slice ac cn cc),(.slice aw wn cw)] (.slice (some ⟨g,0,none⟩) fn cf) (.slice ac cn cc) (.slice aw wn cw) fs cv ws ex∧Blk u9 (w.heap.size) 31 (opC p tco)∧Blk u9 (a1.heap.size) 37 (AD 0 0 0 (tmC 0 0 0 ⟨#[]⟩ (.slice none 0 0))) from⟨HE2.out.1.below hb2,HE2.out.2.1.below hb2 HE2.out.2.1.lt,HE2.out.2.2.1.below hb2 HE2.out.2.2.1.lt⟩)
    clear hb hb2
    go_wp2_with (first
  | ((with_reducible refine Ao u9 rfl 37 (.tmp 4) (.tmp 74) rfl (a1.heap.size) 37 (AD 0 0 0 (tmC 0 0 0 ⟨#[]⟩ (.slice none 0 0))) (AD 280 0 0 (tmC 0 0 0 ⟨#[]⟩ (.slice none 0 0))) HU9.out.2.2 rfl rfl rfl (Ax rfl) (AN (AS _ _ _ _ _ _ _)) ?_);intro z9 hb hc hs;have HZ:=Ag (Ai (HU9.out.1.setX (show a1.heap.size∈_ by simp) HSZ.out hc) hb);clear hb hc hs))
    refine bodyPost_ret (AC Tryz.results77 _ _ (a1.heap.size) _ _ rfl HZ.out.2 _ Tryz.underlying37 rfl (Ax rfl)) rfl ?_
    rw[HX.out]
    exact⟨_,_,_,_,cv,rfl,rfl,HALL.out,((HZ.out.1).keepoff (fun k hk=> by simp[hk])).exadd (Bo _ _)⟩
   ·skip
    have HTF:=Ag HE2.out.2.2.2.2.2.1.len
    have HFW:=Ag (EU (Ec HFP.out.2.2.2.1).2.2.2.2.2.2)
    go_wp2_with fail
    refine Az (fun W=> W.cell? ⟨g,ix* 14+6,none⟩=some (.int .i64 f.v)∧W.cell? ⟨g,ix* 14+8,none⟩=some (.int .i64 f.u)∧W.rangeAt g (ix* 14+9) tc) [0,1,2,3,4,5,6,7,8,9,10,11] 3 (by kernel_rfl) rfl (by kernel_rfl) (by kernel_rfl) ⟨HE2.out.2.2.2.1 6 _ rfl,HE2.out.2.2.2.1 8 _ rfl,fun j x hx=> by have h:=HE2.out.2.2.2.1 (9+j) x (by rw[Nat.add_comm];exact hx);rw[←Nat.add_assoc] at h;exact h⟩ ?_
    iterate 12(refine' AH.run ?_ ?_ ?_ ?_;rotate_left 2;(simp only[Aa,Ab,Ac];rfl);rfl;(rintro w' ⟨k0,k1,k2⟩;first|exact AA rfl rfl k2 Tryz.underlying29 rfl (At Tryz.infoTm HTF.out)|(go_simp;with_reducible rfl));simp only[Al,Ad,Ae,Af])
    have sm:=(Sm.refl e2).drew
    have HV18:=hJ7 (HE2.out.1.below (sm.below _)) (HE2.out.2.1.below (sm.below _) HE2.out.2.1.lt) (HE2.out.2.2.1.below (sm.below _) HE2.out.2.2.1.lt) (AF HE2.out.2.2.2.1 (sm.below _)) (HE2.out.2.2.2.2.1.below (sm.below _)) (HE2.out.2.2.2.2.2.1.below (sm.below _)) (HE2.out.2.2.2.2.2.2.below (sm.below _))
    clear sm
    generalize e2.drew=v17 at HV18 ⊢
    refine' Ar 12 (by kernel_rfl) ?_ ?_;rotate_left;(simp only[Aa,Ab,Ac];rfl)
    try simp only[Al,Ad,Ae,Af]
    go_wp2_with fail
    refine(Ca f.b tc _ v17 HFW.out HV18.out.2.2.2.2.2.1).mono ?_
    rintro e' e6 ⟨tcn,rfl,ht,hb⟩
    have HTN:=Ag ht.len
    obtain⟨ta,tp,hsh,-,-,-⟩:=ht.shape
    obtain⟨tk,htk⟩:∃ x,f.b.k=x:=⟨_,rfl⟩
    obtain⟨tu,htu⟩:∃ x,f.b.u=x:=⟨_,rfl⟩
    obtain⟨tn,htn⟩:∃ x,f.b.n=x:=⟨_,rfl⟩
    obtain⟨ts,hts⟩:∃ x,f.b.s=x:=⟨_,rfl⟩
    obtain⟨tl,htl⟩:∃ x,f.b.ks.length=x:=⟨_,rfl⟩
    rw[htk,htu,htn,hts,htl] at hsh
    subst hsh
    have HE6:=hJ6 (HV18.out.1.more ht hb) (HV18.out.2.1.below hb HV18.out.2.1.lt) (HV18.out.2.2.1.below hb HV18.out.2.2.1.lt) (AF HV18.out.2.2.2.1 hb) (HV18.out.2.2.2.2.1.below hb) (HV18.out.2.2.2.2.2.1.below hb)
    clear ht hb htk htu htn hts htl
    go_wp2_with fail
    refine QK.normal ⟨⟨HE6.out.2.2.2.1 6 _ rfl,HE6.out.2.2.2.1 8 _ rfl,fun j x hx=> by have h:=HE6.out.2.2.2.1 (9+j) x (by rw[Nat.add_comm];exact hx);rw[←Nat.add_assoc] at h;exact h⟩,?_⟩
    refine' Ar 13 (by kernel_rfl) ?_ ?_;rotate_left;(simp only[Aa,Ab,Ac];rfl)
    try simp only[Al,Ad,Ae,Af]
    with_reducible refine FY rfl (.tmp 49) (.tmp 53) (.tmp 58) rfl f.v f.u tk tu tn ts ta tl tp rfl rfl rfl ?_
    try simp only[Al,Ad,Ae,Af]
    refine QK.normal ⟨⟨HE6.out.2.2.2.1 6 _ rfl,HE6.out.2.2.2.1 8 _ rfl,fun j x hx=> by have h:=HE6.out.2.2.2.1 (9+j) x (by rw[Nat.add_comm];exact hx);rw[←Nat.add_assoc] at h;exact h⟩,?_⟩
    refine' Ar 14 (by kernel_rfl) ?_ ?_;rotate_left;(simp only[Aa,Ab,Ac];rfl)
    try simp only[Al,Ad,Ae,Af]
    refine Ao e6 rfl 37 (.tmp 4) (.tmp 59) rfl (a1.heap.size) 37 (AD 0 0 0 (tmC 0 0 0 ⟨#[]⟩ (.slice none 0 0))) (AD 0 f.v f.u (tmC tk tu tn ts (.slice ta tl tp))) HE6.out.2.2.1 rfl rfl rfl (Ax rfl) (AN (AS _ _ _ _ _ _ _)) ?_
    intro z9 hb hc hs
    have HZ0:=Ag (show OwnX w0 m0 (a1.heap.size::w.heap.size::xs) z9 bp 97 [(.slice (some ⟨g,0,none⟩) fn cf),(.slice ac cn cc),(.slice aw wn cw)] (.slice (some ⟨g,0,none⟩) fn cf) (.slice ac cn cc) (.slice aw wn cw) fs cv ws ((tmC tk tu tn ts (.slice ta tl tp),f.b)::ex)∧Blk z9 (a1.heap.size) 37 (AD 0 f.v f.u (tmC tk tu tn ts (.slice ta tl tp)))∧z9.rangeAt g (ix* 14) (flC f.nm f.p.o f.p.e vr vq vg f.v f.e f.u tc) from⟨HE6.out.1.setX (show a1.heap.size∈_ by simp) HSZ.out hc,hb,BJ HE6.out.2.2.2.1 hc (fun e=> (HE6.out.1.ne (show a1.heap.size∈(a1.heap.size::w.heap.size::xs) by simp)).2.1 (by rw[show a1.heap.size=g from(show g=a1.heap.size from e).symm];exact AG.2 rfl))⟩)
    clear hb hc hs
    refine QK.normal ⟨⟨HZ0.out.2.2 6 _ rfl,HZ0.out.2.2 8 _ rfl,fun j x hx=> by have h:=HZ0.out.2.2 (9+j) x (by rw[Nat.add_comm];exact hx);rw[←Nat.add_assoc] at h;exact h⟩,?_⟩
    refine wpAnyH_done (by kernel_rfl) ?_ _
    refine NoPanic.normal ?_
    try simp only[Al,Ad,Ae,Af]
    have HX:=Ag (show SR=((⟨fs,cv.map CirV.m,ws⟩:IdM),⟨0,f.v,f.u,f.b⟩) from by rw[←HSR.out];unfold Bt;rw[HSK.out,if_neg (by simp),show((⟨fs,cv.map CirV.m,ws⟩:IdM)).fs[ix]?=some f from HFI.out];simp only;rw[if_pos ⟨HK2.out,by rw[show BX ((⟨fs,cv.map CirV.m,ws⟩:IdM)).cs=BX (cv.map CirV.m) from rfl,HMR.out]⟩])
    go_wp2_with fail
    have HZ:=Ag (Ai HZ0.out.1 HZ0.out.2.1)
    refine bodyPost_ret (AC Tryz.results77 _ _ (a1.heap.size) _ _ rfl HZ.out.2 _ Tryz.underlying37 rfl (Ax rfl)) rfl ?_
    rw[HX.out]
    exact⟨_,_,_,_,cv,rfl,rfl,HALL.out,((HZ.out.1).keepoff (fun k hk=> by simp[hk]))⟩
end Go.Proofs.YtgdlfiphihaooaaGreat

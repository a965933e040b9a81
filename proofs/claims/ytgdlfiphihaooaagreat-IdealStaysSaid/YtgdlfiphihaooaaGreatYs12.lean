import Derived.Test.YtgdlfiphihaooaaGreatYs11
set_option linter.unusedSimpArgs false
set_option linter.unusedVariables false
set_option maxRecDepth 100000
set_option maxHeartbeats 8000000
open _root_.List renaming getElem?_toArray→Aa,getElem?_cons_zero→Ab,getElem?_cons_succ→Ac,setIfInBounds_toArray→Ad,set_cons_zero→Ae,set_cons_succ→Af
open _root_.Go.Lib renaming hid→Ag
open _root_.Nat renaming le_refl→Ah,le_trans→Aj,lt_of_lt_of_le→Ak
open _root_.And renaming intro→Ai
open _root_.Go.Act renaming put→Al
namespace Go.Proofs.YtgdlfiphihaooaaGreat
open Go Go.RowKit
theorem Tryz.buildrd (x y tk tu tn:Int) (ts:ByteArray) (ta:Option Addr) (tl tp:Nat):∀ w,(Instr.build 37 #[(1,.int .i64 x),(2,.int .i64 y),(3,.agg (tmC tk tu tn ts (.slice ta tl tp)).toArray)]).run Tryz.prog w=.ok (.agg (AC 0 x y (tmC tk tu tn ts (.slice ta tl tp))).toArray) w:=fun w=> by kernel_rfl
theorem FU {ops:Array Oper} {rest:List Oper} {op:Oper} {a:Act} {w:World} {Q:Exit→Act→World→Prop} (hgd:op.guard=none) (x0 x1 x2:Operand) (ho:op.op=.build 37 #[(1,x0),(2,x1),(3,x2)])
  (x y tk tu tn:Int) (ts:ByteArray) (ta:Option Addr) (tl tp:Nat) (h0:a.eval x0=.int .i64 x) (h1:a.eval x1=.int .i64 y) (h2:a.eval x2=.agg (tmC tk tu tn ts (.slice ta tl tp)).toArray)
  (h:wpList Tryz.prog ops Q rest (a.put op.dst (.agg (AC 0 x y (tmC tk tu tn ts (.slice ta tl tp))).toArray)) w):wpList Tryz.prog ops Q (op::rest) a w:=by
 refine wpList_plain hgd fun K hK=> ?_
 have hrun:(execOp a.eval op).run Tryz.prog w=.ok (.value (.agg (AC 0 x y (tmC tk tu tn ts (.slice ta tl tp))).toArray)) w:=by
  unfold execOp
  simp only[ho]
  rw[show((#[((1:Nat),x0),(2,x1),(3,x2)]:Array (Nat × Operand)).map fun (i,x)=> (i,a.eval x))=#[(1,.int .i64 x),(2,.int .i64 y),(3,.agg (tmC tk tu tn ts (.slice ta tl tp)).toArray)] by simp[h0,h1,h2]]
  simp[Tryz.buildrd,Result.andThen]
 unfold Oper.wp
 rw[hrun]
 exact hK _ _ h
theorem FB (p:OpM) (tco:List Value) {w0 w:World} {m0 xs:List Nat} {bp:Nat} {vf vc vw:Value} {fs:List FileM} {cv:List CirV} {ws:List WrM} {ex:List (List Value × Tm)}
  (h:OwnX w0 m0 xs w bp 97 [vf,vc,vw] vf vc vw fs cv ws ex) (hb:(tco,p.b)∈ex) (hk:ChkP (⟨fs,cv.map CirV.m,ws⟩:IdM)) (ho:opB p=true) (hall:∀ c∈cv,c.own=true) (hkk:p.k=2∨p.k=3):
  Calls Tryz.prog 77 #[.pointer (some ⟨bp,0,none⟩),.agg (opC p tco).toArray] w (G5 w0 m0 xs bp 97 ex (Bw (⟨fs,cv.map CirV.m,ws⟩:IdM) p)):=by
 obtain⟨af,cf,rfl,hf1,hf2⟩:=h.rf.shape
 obtain⟨ac,cc,rfl,hc1,hc2⟩:=h.rc.shape
 obtain⟨aw,cw,rfl,hw1,hw2⟩:=h.rw.shape
 obtain⟨fn,hfn⟩:∃ n,fs.length=n:=⟨_,rfl⟩
 obtain⟨cn,hcn⟩:∃ n,cv.length=n:=⟨_,rfl⟩
 obtain⟨wn,hwn⟩:∃ n,ws.length=n:=⟨_,rfl⟩
 have HN:=Ag (Ai hfn (Ai hcn hwn))
 have hfl:fn≤6:=by have:=hk.fl;simp only at this;omega
 have hcl:cn≤3:=by have:=hk.cl;simp only[List.length_map] at this;omega
 have hwl:wn≤400:=by have:=hk.wl;simp only at this;omega
 rw[hfn,hcn,hwn] at h
 have HOWN:=Ag h
 have HB:=Ag hb
 have HK:=Ag hk
 have HO:=Ag ho
 have HALL:=Ag hall
 have HTL:=Ag (h.ex _ hb).len
 obtain⟨SR,hSR⟩:∃ r,Bw (⟨fs,cv.map CirV.m,ws⟩:IdM) p=r:=⟨_,rfl⟩
 have HSR:=Ag hSR
 rw[hSR]
 have HKK:=Ag hkk
 clear hkk
 clear h hb hk ho hall hfn hcn hwn hSR hf1 hf2 hc1 hc2 hw1 hw2
 obtain⟨⟨ix,th⟩,hsk⟩:∃ r,Bu (⟨fs,cv.map CirV.m,ws⟩:IdM) p.nm=r:=⟨_,rfl⟩
 have HSK:=Ag hsk
 have HF:=Ag (fun (W:World) (hW:IdC (fun _=> True) W [(.slice af fn cf),(.slice ac cn cc),(.slice aw wn cw)] (⟨fs,cv.map CirV.m,ws⟩:IdM))=> show Calls Tryz.prog 25 #[.agg ([(.slice af fn cf),(.slice ac cn cc),(.slice aw wn cw)]:List Value).toArray,.string p.nm] W (fun e w'=> e=.returned (.tuple #[.int .i64 (ix:Nat),.bool th])∧Below W.heap.size W w') from by
  have h:=EN (⟨fs,cv.map CirV.m,ws⟩:IdM) p.nm [(.slice af fn cf),(.slice ac cn cc),(.slice aw wn cw)] _ W hW (by have:=HK.out.fl;simp only at this ⊢;omega)
  rw[show AW (fun x=> BW x.nm p.nm) (⟨fs,cv.map CirV.m,ws⟩:IdM).fs=(ix,th) from hsk] at h
  exact h)
 clear hsk
 go_enter Tryz.func77,Tryz.ntmps77
 go_upto_region 1 with(first
  | ((with_reducible refine Au w rfl 31 (.tmp 1) rfl (opC p tco) rfl ?_);intro a1 hb hbel hsz;have H1:=hJ2 (HOWN.out.rsv hbel (Ah _) hb.lt) hb;clear hb hbel hsz)
  | ((with_reducible refine Av a1 rfl 37 rfl (AC 0 0 0 (tmC 0 0 0 ⟨#[]⟩ (.slice none 0 0))) Tryz.zeroRs ?_);intro a2 hb hbel hsz;have H2:=hJ3 (H1.out.1.rsv hbel (Ah _) hb.lt) (H1.out.2.below hbel H1.out.2.lt) hb;have HSZ:=Ag (show w0.heap.size≤a1.heap.size from H1.out.1.ch.size);clear hb hbel hsz))
 try simp only[Al,Ad,Ae,Af]
 have HG:=hJ2 H1.out.2.lt H2.out.2.2.lt
 go_wp2_with fail
 refine Az (fun W=> W.rangeAt bp 0 [(.slice af fn cf),(.slice ac cn cc),(.slice aw wn cw)]∧W.cell? ⟨w.heap.size,2,none⟩=some (.string p.nm)) [0,1,2,3,4,5] 6 (by kernel_rfl) rfl (by kernel_rfl) (by kernel_rfl) ⟨As H2.out.1.bl,H2.out.2.1.cell 2⟩ ?_
 iterate 6(refine' AK.run ?_ ?_ ?_ ?_;rotate_left 2;(simp only[Aa,Ab,Ac];rfl);rfl;(rintro w' ⟨k0,k1⟩;first|exact AB rfl rfl k0 Tryz.underlying26 rfl (At Tryz.infoId rfl)|(go_simp;with_reducible rfl));simp only[Al,Ad,Ae,Af])
 have sm:=(Sm.refl a2).drew
 have HV2:=hJ3 (H2.out.1.below (sm.below _)) (H2.out.2.1.below (sm.below _) H2.out.2.1.lt) (H2.out.2.2.below (sm.below _) H2.out.2.2.lt)
 clear sm
 generalize a2.drew=v1 at HV2 ⊢
 refine' Ar 6 (by kernel_rfl) ?_ ?_;rotate_left;(simp only[Aa,Ab,Ac];rfl)
 try simp only[Al,Ad,Ae,Af]
 go_wp2_with fail
 refine Calls.mono (HF.out v1 HV2.out.1.idc) ?_
 rintro e' u3 ⟨rfl,hb⟩
 have K4:=hJ3 (HV2.out.1.below hb) (HV2.out.2.1.below hb HV2.out.2.1.lt) (HV2.out.2.2.below hb HV2.out.2.2.lt)
 clear hb
 go_wp2_with fail
 refine QK.normal ⟨⟨As K4.out.1.bl,K4.out.2.1.cell 2⟩,?_⟩
 refine Bi (fuel:=0) (by kernel_rfl) AG ⟨As K4.out.1.bl,K4.out.2.1.cell 2⟩ [7,8,9,10,11] _ _ (by kernel_rfl) ?_
 try simp only[Al]
 iterate 5(refine' AK.run ?_ ?_ ?_ ?_;rotate_left 2;(simp only[Aa,Ab,Ac];rfl);rfl;(rintro w' ⟨k0,k1⟩;first|exact AB rfl rfl k0 Tryz.underlying26 rfl (At Tryz.infoId rfl)|(go_simp;with_reducible rfl));simp only[Al,Ad,Ae,Af])
 refine wpAnyH_done (by kernel_rfl) ?_ _
 refine NoPanic.normal ?_
 cases th
 ·skip
  have HX:=Ag (show SR=((⟨fs,cv.map CirV.m,ws⟩:IdM),A1 4) from by rw[←HSR.out];unfold Bw;rw[HSK.out,if_pos rfl])
  go_wp2_with fail
  refine(Bc (4) u3).mono ?_
  rintro e' u5 ⟨rfl,hb⟩
  have K6:=hJ3 (K4.out.1.below hb) (K4.out.2.1.below hb K4.out.2.1.lt) (K4.out.2.2.below hb K4.out.2.2.lt)
  clear hb
  go_wp2_with (first
  | ((with_reducible refine Ao u5 rfl 37 (.tmp 4) (.tmp 20) rfl (a1.heap.size) 37 (AC 0 0 0 (tmC 0 0 0 ⟨#[]⟩ (.slice none 0 0))) (AC (4) 0 0 (tmC 0 0 0 ⟨#[]⟩ (.slice none 0 0))) K6.out.2.2 rfl rfl rfl (Ax rfl) (AM (AR _ _ _ _ _ _ _)) ?_);intro z9 hb hc hs;have HZ:=Ag (Ai (K6.out.1.setX (show a1.heap.size∈_ by simp) HSZ.out hc) hb);clear hb hc hs))
  refine bodyPost_ret (AA Tryz.results77 _ _ (a1.heap.size) _ _ rfl HZ.out.2 _ Tryz.underlying37 rfl (Ax rfl)) rfl ?_
  rw[HX.out]
  exact⟨_,_,_,_,cv,rfl,rfl,HALL.out,((HZ.out.1).keepoff (fun k hk=> by simp[hk])).exadd (Bm _ _)⟩
 ·skip
  have hixl:ix<fs.length:=by
   have h:=(DM (c:=fun x:FileM=> BW x.nm p.nm) (l:=fs) (by rw[show AW (fun x:FileM=> BW x.nm p.nm) fs=(ix,true) from HSK.out])).1
   rw[show AW (fun x:FileM=> BW x.nm p.nm) fs=(ix,true) from HSK.out] at h
   exact h
  obtain⟨g,cf',e,-⟩:=K4.out.1.rf.ptr hixl
  rw[HN.out.1] at e
  obtain⟨rfl,rfl⟩:af=some ⟨g,0,none⟩∧cf=cf':=by simpa using e
  obtain⟨f,hf⟩:∃ f,fs[ix]=f:=⟨_,rfl⟩
  have HFI:=Ag (show fs[ix]?=some f from by rw[List.getElem?_eq_getElem hixl,hf])
  have HSET:=Ag (show fs.set ix f=fs from by rw[←hf,List.set_getElem_self])
  have HFP:=Ag (Br (HK.out.f f (by show f∈fs;rw[←hf];exact List.getElem_mem hixl)))
  obtain⟨-,vr,vq,vg,tc,hra,hpf,htc,-⟩:=OwnX.elF (f:=f) (by rw[HSET.out];exact K4.out.1) hixl
  have HEL:=Ag (show OwnX w0 m0 (a1.heap.size::w.heap.size::xs) u3 bp 97 [(.slice (some ⟨g,0,none⟩) fn cf),(.slice ac cn cc),(.slice aw wn cw)] (.slice (some ⟨g,0,none⟩) fn cf) (.slice ac cn cc) (.slice aw wn cw) fs cv ws ex∧Blk u3 (w.heap.size) 31 (opC p tco)∧Blk u3 (a1.heap.size) 37 (AC 0 0 0 (tmC 0 0 0 ⟨#[]⟩ (.slice none 0 0)))∧u3.rangeAt g (ix* 14) (flC f.nm f.p.o f.p.e vr vq vg f.v f.e f.u tc)∧PmF (fun _=> True) u3 f.p vr vq vg∧TmC (fun _=> True) u3 tc f.b from⟨K4.out.1,K4.out.2.1,K4.out.2.2,hra,hpf.keep' (Ch.refl (fun _=> False) _) (fun _ _ e=> e) (fun _ _=> trivial),htc.mono fun _ _=> trivial⟩)
  have HIXL:=Ag hixl
  have hixz:(ix:Int)<(fn:Int):=by have:=HN.out.1;omega
  have hix0:(0:Int)≤(ix:Int):=by omega
  clear e hf hra hpf htc hixl K4
  have c0:=HEL.out.1.bl.cell 0
  simp only[Ab,Ac] at c0
  go_upto_region 5 with fail
  try simp only[Al,Ad,Ae,Af]
  clear c0
  rcases HKK.out with hk|hk
  ·skip
   have HK2:=Ag hk
   have HC0:=Ag (show(opC p tco)[0]?=some (.int .i64 2) from by show some (Value.int .i64 p.k)=_;rw[hk])
   clear hk
   obtain⟨mw,hmw⟩:∃ b,EG f.p p.u=b:=⟨_,rfl⟩
   have HMW:=Ag hmw
   clear hmw
   have c0:u3.cell? ⟨w.heap.size,0,none⟩=some (.int .i64 2):=(HEL.out.2.1.cell 0).trans HC0.out
   go_wp2_with fail
   go_quiet (fail)
   clear c0
   go_wp2_with fail
   have sm:=((Sm.refl u3).drewN nq)
   have HE4:=hJ6 (HEL.out.1.below (sm.below _)) (HEL.out.2.1.below (sm.below _) HEL.out.2.1.lt) (HEL.out.2.2.1.below (sm.below _) HEL.out.2.2.1.lt) (AD HEL.out.2.2.2.1 (sm.below _)) (HEL.out.2.2.2.2.1.below (sm.below _)) (HEL.out.2.2.2.2.2.below (sm.below _))
   generalize u3.drewN nq=e4 at HE4 ⊢
   clear sm HEL
   go_wp2_with fail
   refine Az (fun W=> W.cell? ⟨w.heap.size,0,none⟩=some (.int .i64 2)∧W.cell? ⟨w.heap.size,1,none⟩=some (.int .i64 p.u)∧W.rangeAt g (ix* 14+1) (pmC f.p.o f.p.e vr vq vg)) [0,1,2,3,4,5,6,7,8,9] 4 (by kernel_rfl) rfl (by kernel_rfl) (by kernel_rfl) ⟨(HE4.out.2.1.cell 0).trans HC0.out,HE4.out.2.1.cell 1,fun j x hx=> by have h:=HE4.out.2.2.2.1 (1+j) x (by match j,hx with|0,hx=> exact hx|1,hx=> exact hx|2,hx=> exact hx|3,hx=> exact hx|4,hx=> exact hx);rw[←Nat.add_assoc] at h;exact h⟩ ?_
   iterate 10(refine' AK.run ?_ ?_ ?_ ?_;rotate_left 2;(simp only[Aa,Ab,Ac];rfl);rfl;(rintro w' ⟨k0,k1,k2⟩;first|exact AB rfl rfl k2 Tryz.underlying43 rfl (Ay _ _ _ _ _)|(go_simp;with_reducible rfl));simp only[Al,Ad,Ae,Af])
   have sm:=(Sm.refl e4).drew
   have HV8:=hJ6 (HE4.out.1.below (sm.below _)) (HE4.out.2.1.below (sm.below _) HE4.out.2.1.lt) (HE4.out.2.2.1.below (sm.below _) HE4.out.2.2.1.lt) (AD HE4.out.2.2.2.1 (sm.below _)) (HE4.out.2.2.2.2.1.below (sm.below _)) (HE4.out.2.2.2.2.2.below (sm.below _))
   clear sm
   generalize e4.drew=v7 at HV8 ⊢
   refine' Ar 10 (by kernel_rfl) ?_ ?_;rotate_left;(simp only[Aa,Ab,Ac];rfl)
   try simp only[Al,Ad,Ae,Af]
   go_wp2_with fail
   refine(EH f.p p.u vr vq vg v7 HV8.out.2.2.2.2.1.s).mono ?_
   rintro e' e5 ⟨rfl,hb⟩
   rw[HMW.out]
   have HE5:=hJ6 (HV8.out.1.below hb) (HV8.out.2.1.below hb HV8.out.2.1.lt) (HV8.out.2.2.1.below hb HV8.out.2.2.1.lt) (AD HV8.out.2.2.2.1 hb) (HV8.out.2.2.2.2.1.below hb) (HV8.out.2.2.2.2.2.below hb)
   clear hb
   go_wp2_with fail
   refine QK.normal ⟨⟨(HE5.out.2.1.cell 0).trans HC0.out,HE5.out.2.1.cell 1,fun j x hx=> by have h:=HE5.out.2.2.2.1 (1+j) x (by match j,hx with|0,hx=> exact hx|1,hx=> exact hx|2,hx=> exact hx|3,hx=> exact hx|4,hx=> exact hx);rw[←Nat.add_assoc] at h;exact h⟩,?_⟩
   refine' Ar 11 (by kernel_rfl) ?_ ?_;rotate_left;(simp only[Aa,Ab,Ac];rfl)
   try simp only[Al,Ad,Ae,Af]
   go_wp2_with fail
   refine QK.normal ⟨⟨(HE5.out.2.1.cell 0).trans HC0.out,HE5.out.2.1.cell 1,fun j x hx=> by have h:=HE5.out.2.2.2.1 (1+j) x (by match j,hx with|0,hx=> exact hx|1,hx=> exact hx|2,hx=> exact hx|3,hx=> exact hx|4,hx=> exact hx);rw[←Nat.add_assoc] at h;exact h⟩,?_⟩
   refine' Ar 12 (by kernel_rfl) ?_ ?_;rotate_left;(simp only[Aa,Ab,Ac];rfl)
   try simp only[Al,Ad,Ae,Af]
   go_wp2_with fail
   refine QK.normal ⟨⟨(HE5.out.2.1.cell 0).trans HC0.out,HE5.out.2.1.cell 1,fun j x hx=> by have h:=HE5.out.2.2.2.1 (1+j) x (by match j,hx with|0,hx=> exact hx|1,hx=> exact hx|2,hx=> exact hx|3,hx=> exact hx|4,hx=> exact hx);rw[←Nat.add_assoc] at h;exact h⟩,?_⟩
   refine' Ar 13 (by kernel_rfl) ?_ ?_;rotate_left;(simp only[Aa,Ab,Ac];rfl)
   try simp only[Al,Ad,Ae,Af]
   go_wp2_with fail
   refine QK.normal ⟨⟨(HE5.out.2.1.cell 0).trans HC0.out,HE5.out.2.1.cell 1,fun j x hx=> by have h:=HE5.out.2.2.2.1 (1+j) x (by match j,hx with|0,hx=> exact hx|1,hx=> exact hx|2,hx=> exact hx|3,hx=> exact hx|4,hx=> exact hx);rw[←Nat.add_assoc] at h;exact h⟩,?_⟩
   refine wpAnyH_done (by kernel_rfl) ?_ _
   refine NoPanic.normal ?_
   cases mw
   ·skip
    have HX:=Ag (show SR=((⟨fs,cv.map CirV.m,ws⟩:IdM),A1 280) from by rw[←HSR.out];unfold Bw;rw[HSK.out,if_neg (by simp),show((⟨fs,cv.map CirV.m,ws⟩:IdM)).fs[ix]?=some f from HFI.out];simp only;rw[if_neg (fun h=> absurd h.1 (by rw[HK2.out];omega)),if_pos (.inr HMW.out)])
    go_wp2_with fail
    refine(Bc (280) e5).mono ?_
    rintro e' u9 ⟨rfl,hb⟩
    have K10:=hJ6 (HE5.out.1.below hb) (HE5.out.2.1.below hb HE5.out.2.1.lt) (HE5.out.2.2.1.below hb HE5.out.2.2.1.lt) (AD HE5.out.2.2.2.1 hb) (HE5.out.2.2.2.2.1.below hb) (HE5.out.2.2.2.2.2.below hb)
    clear hb
    go_wp2_with (first
  | ((with_reducible refine Ao u9 rfl 37 (.tmp 4) (.tmp 74) rfl (a1.heap.size) 37 (AC 0 0 0 (tmC 0 0 0 ⟨#[]⟩ (.slice none 0 0))) (AC (280) 0 0 (tmC 0 0 0 ⟨#[]⟩ (.slice none 0 0))) K10.out.2.2.1 rfl rfl rfl (Ax rfl) (AM (AR _ _ _ _ _ _ _)) ?_);intro z9 hb hc hs;have HZ:=Ag (Ai (K10.out.1.setX (show a1.heap.size∈_ by simp) HSZ.out hc) hb);clear hb hc hs))
    refine bodyPost_ret (AA Tryz.results77 _ _ (a1.heap.size) _ _ rfl HZ.out.2 _ Tryz.underlying37 rfl (Ax rfl)) rfl ?_
    rw[HX.out]
    exact⟨_,_,_,_,cv,rfl,rfl,HALL.out,((HZ.out.1).keepoff (fun k hk=> by simp[hk])).exadd (Bm _ _)⟩
   ·skip
    have c6:e5.cell? ⟨g,ix* 14+6,none⟩=some (.int .i64 f.v):=HE5.out.2.2.2.1 6 _ rfl
    have c2:=HE5.out.1.bl.cell 2
    simp only[Ab,Ac] at c2
    by_cases hv9:f.v=9999
    ·have hv9e:(f.v==9999)=true:=by simpa using hv9
     have HX:=Ag (show SR=((⟨fs,cv.map CirV.m,ws⟩:IdM),A1 6) from by rw[←HSR.out];unfold Bw;rw[HSK.out,if_neg (by simp),show((⟨fs,cv.map CirV.m,ws⟩:IdM)).fs[ix]?=some f from HFI.out];simp only;rw[if_neg (fun h=> absurd h.1 (by rw[HK2.out];omega)),if_neg (fun h=> h.elim (fun h=> absurd h (by rw[HK2.out];omega)) (fun h=> by rw[HMW.out] at h;cases h)),if_pos (by show f.v=9999∨ws.length=400;rw[HN.out.2.2];omega)])
     clear hv9
     go_wp2_with fail
     refine(Bc (6) e5).mono ?_
     rintro e' u11 ⟨rfl,hb⟩
     have K12:=hJ6 (HE5.out.1.below hb) (HE5.out.2.1.below hb HE5.out.2.1.lt) (HE5.out.2.2.1.below hb HE5.out.2.2.1.lt) (AD HE5.out.2.2.2.1 hb) (HE5.out.2.2.2.2.1.below hb) (HE5.out.2.2.2.2.2.below hb)
     clear hb
     go_wp2_with (first
  | ((with_reducible refine Ao u11 rfl 37 (.tmp 4) (.tmp 90) rfl (a1.heap.size) 37 (AC 0 0 0 (tmC 0 0 0 ⟨#[]⟩ (.slice none 0 0))) (AC (6) 0 0 (tmC 0 0 0 ⟨#[]⟩ (.slice none 0 0))) K12.out.2.2.1 rfl rfl rfl (Ax rfl) (AM (AR _ _ _ _ _ _ _)) ?_);intro z9 hb hc hs;have HZ:=Ag (Ai (K12.out.1.setX (show a1.heap.size∈_ by simp) HSZ.out hc) hb);clear hb hc hs))
     refine bodyPost_ret (AA Tryz.results77 _ _ (a1.heap.size) _ _ rfl HZ.out.2 _ Tryz.underlying37 rfl (Ax rfl)) rfl ?_
     rw[HX.out]
     exact⟨_,_,_,_,cv,rfl,rfl,HALL.out,((HZ.out.1).keepoff (fun k hk=> by simp[hk])).exadd (Bm _ _)⟩
    ·have hv9e:(f.v==9999)=false:=by simpa using hv9
     by_cases h4:wn=400
     ·have h4e:((wn:Int)==400)=true:=by simp;omega
      have HX:=Ag (show SR=((⟨fs,cv.map CirV.m,ws⟩:IdM),A1 6) from by rw[←HSR.out];unfold Bw;rw[HSK.out,if_neg (by simp),show((⟨fs,cv.map CirV.m,ws⟩:IdM)).fs[ix]?=some f from HFI.out];simp only;rw[if_neg (fun h=> absurd h.1 (by rw[HK2.out];omega)),if_neg (fun h=> h.elim (fun h=> absurd h (by rw[HK2.out];omega)) (fun h=> by rw[HMW.out] at h;cases h)),if_pos (by show f.v=9999∨ws.length=400;rw[HN.out.2.2];omega)])
      go_wp2_with fail
      refine(Bc (6) e5).mono ?_
      rintro e' u13 ⟨rfl,hb⟩
      have K14:=hJ6 (HE5.out.1.below hb) (HE5.out.2.1.below hb HE5.out.2.1.lt) (HE5.out.2.2.1.below hb HE5.out.2.2.1.lt) (AD HE5.out.2.2.2.1 hb) (HE5.out.2.2.2.2.1.below hb) (HE5.out.2.2.2.2.2.below hb)
      clear hb
      go_wp2_with (first
  | ((with_reducible refine Ao u13 rfl 37 (.tmp 4) (.tmp 90) rfl (a1.heap.size) 37 (AC 0 0 0 (tmC 0 0 0 ⟨#[]⟩ (.slice none 0 0))) (AC (6) 0 0 (tmC 0 0 0 ⟨#[]⟩ (.slice none 0 0))) K14.out.2.2.1 rfl rfl rfl (Ax rfl) (AM (AR _ _ _ _ _ _ _)) ?_);intro z9 hb hc hs;have HZ:=Ag (Ai (K14.out.1.setX (show a1.heap.size∈_ by simp) HSZ.out hc) hb);clear hb hc hs))
      refine bodyPost_ret (AA Tryz.results77 _ _ (a1.heap.size) _ _ rfl HZ.out.2 _ Tryz.underlying37 rfl (Ax rfl)) rfl ?_
      rw[HX.out]
      exact⟨_,_,_,_,cv,rfl,rfl,HALL.out,((HZ.out.1).keepoff (fun k hk=> by simp[hk])).exadd (Bm _ _)⟩
     ·have h4e:((wn:Int)==400)=false:=by simp;omega
      have HX:=Ag (show SR=(⟨fs.set ix (B2 f p),cv.map CirV.m,ws ++ [BO (B2 f p)]⟩,A1 0) from by rw[←HSR.out];unfold Bw;rw[HSK.out,if_neg (by simp),show((⟨fs,cv.map CirV.m,ws⟩:IdM)).fs[ix]?=some f from HFI.out];simp only;rw[if_neg (fun h=> absurd h.1 (by rw[HK2.out];omega)),if_neg (fun h=> h.elim (fun h=> absurd h (by rw[HK2.out];omega)) (fun h=> by rw[HMW.out] at h;cases h)),if_neg (by show ¬ (f.v=9999∨ws.length=400);rw[HN.out.2.2];omega)])
      clear hv9
      go_wp2_with (first
  | (with_reducible refine Ap rfl 31 (.tmp 3) rfl (w.heap.size) 0 rfl (opC p tco) _ (As HE5.out.2.1) Tryz.underlying31 rfl (Bp HTL.out) ?_))
      clear c6 c2
      have HEN:=Ag (show OwnX e5 _ (a1.heap.size::w.heap.size::xs) e5 bp 97 [(.slice (some ⟨g,0,none⟩) fn cf),(.slice ac cn cc),(.slice aw wn cw)] (.slice (some ⟨g,0,none⟩) fn cf) (.slice ac cn cc) (.slice aw wn cw) (fs.set ix f) cv ws ex from by rw[HSET.out];exact HE5.out.1.enter)
      have HVB:=Ag (DA HFP.out.2.2.2.1)
      refine(Gv p tco HEN.out HIXL.out HB.out (JF HO.out (by rw[HK2.out];omega)).1 (by have:=HVB.out.2.1;have h:(BO f).v=f.v:=rfl;omega) (by have:=HVB.out.2.2.1;have h:(BO f).v=f.v:=rfl;omega) (by rw[HN.out.2.2];omega)).mono ?_
      rintro e' e7 ⟨rfl,vw5,hw5⟩
      have HE7:=Ag (show OwnX w0 m0 (a1.heap.size::w.heap.size::xs) e7 bp 97 [(.slice (some ⟨g,0,none⟩) fn cf),(.slice ac cn cc),vw5] (.slice (some ⟨g,0,none⟩) fn cf) (.slice ac cn cc) vw5 (fs.set ix (B2 f p)) cv (ws ++ [BO (B2 f p)]) ex∧Blk e7 (w.heap.size) 31 (opC p tco)∧Blk e7 (a1.heap.size) 37 (AC 0 0 0 (tmC 0 0 0 ⟨#[]⟩ (.slice none 0 0))) from⟨HE5.out.1.leave hw5,HE5.out.2.1.keep hw5.ch (fun e=> (HE5.out.1.ax (w.heap.size) (by simp)).1 e),HE5.out.2.2.1.keep hw5.ch (fun e=> (HE5.out.1.ax (a1.heap.size) (by simp)).1 e)⟩)
      clear hw5 HEN
      go_wp2_with (first
  | (with_reducible refine Ba rfl rfl ?_)
  | ((with_reducible refine Ao e7 rfl 37 (.tmp 4) (.tmp 95) rfl (a1.heap.size) 37 (AC 0 0 0 (tmC 0 0 0 ⟨#[]⟩ (.slice none 0 0))) (AC 0 0 0 (tmC 0 0 0 ⟨#[]⟩ (.slice none 0 0))) HE7.out.2.2 rfl rfl rfl (Ax rfl) (AM (AR _ _ _ _ _ _ _)) ?_);intro z9 hb hc hs;have HZ:=Ag (Ai (HE7.out.1.setX (show a1.heap.size∈_ by simp) HSZ.out hc) hb);clear hb hc hs))
      refine bodyPost_ret (AA Tryz.results77 _ _ (a1.heap.size) _ _ rfl HZ.out.2 _ Tryz.underlying37 rfl (Ax rfl)) rfl ?_
      rw[HX.out]
      exact⟨_,_,_,_,cv,rfl,rfl,HALL.out,((HZ.out.1).keepoff (fun k hk=> by simp[hk])).exadd (Bm _ _)⟩
  ·skip
   have HK2:=Ag hk
   have HC0:=Ag (show(opC p tco)[0]?=some (.int .i64 3) from by show some (Value.int .i64 p.k)=_;rw[hk])
   clear hk
   obtain⟨mr,hmr⟩:∃ b,Fv f.p p.u (CQ (cv.map CirV.m))=b:=⟨_,rfl⟩
   have HMR:=Ag hmr
   clear hmr
   go_wp2_with fail
   refine Az (fun W=> W.cell? ⟨w.heap.size,0,none⟩=some (.int .i64 3)∧W.cell? ⟨w.heap.size,1,none⟩=some (.int .i64 p.u)∧W.rangeAt g (ix* 14+1) (pmC f.p.o f.p.e vr vq vg)∧W.rangeAt bp 0 [(.slice (some ⟨g,0,none⟩) fn cf),(.slice ac cn cc),(.slice aw wn cw)]) [0,1,2,3,4,5,6,7,8,9,10,11,12,13] 4 (by kernel_rfl) rfl (by kernel_rfl) (by kernel_rfl) ⟨(HEL.out.2.1.cell 0).trans HC0.out,HEL.out.2.1.cell 1,fun j x hx=> by have h:=HEL.out.2.2.2.1 (1+j) x (by match j,hx with|0,hx=> exact hx|1,hx=> exact hx|2,hx=> exact hx|3,hx=> exact hx|4,hx=> exact hx);rw[←Nat.add_assoc] at h;exact h,As HEL.out.1.bl⟩ ?_
   iterate 14(refine' AK.run ?_ ?_ ?_ ?_;rotate_left 2;(simp only[Aa,Ab,Ac];rfl);rfl;(rintro w' ⟨k0,k1,k2,k3⟩;first|exact AB rfl rfl k2 Tryz.underlying43 rfl (Ay _ _ _ _ _)|exact AB rfl rfl k3 Tryz.underlying26 rfl (At Tryz.infoId rfl)|(go_simp;with_reducible rfl));simp only[Al,Ad,Ae,Af])
   have sm:=(Sm.refl u3).drew
   have HV16:=hJ6 (HEL.out.1.below (sm.below _)) (HEL.out.2.1.below (sm.below _) HEL.out.2.1.lt) (HEL.out.2.2.1.below (sm.below _) HEL.out.2.2.1.lt) (AD HEL.out.2.2.2.1 (sm.below _)) (HEL.out.2.2.2.2.1.below (sm.below _)) (HEL.out.2.2.2.2.2.below (sm.below _))
   clear sm
   generalize u3.drew=v15 at HV16 ⊢
   refine' Ar 14 (by kernel_rfl) ?_ ?_;rotate_left;(simp only[Aa,Ab,Ac];rfl)
   try simp only[Al,Ad,Ae,Af]
   go_wp2_with fail
   refine(FA (⟨fs,cv.map CirV.m,ws⟩:IdM) [(.slice (some ⟨g,0,none⟩) fn cf),(.slice ac cn cc),(.slice aw wn cw)] _ v15 HV16.out.1.idc HK.out.bel).mono ?_
   rintro e' e1 ⟨vm,rfl,hsl,hb⟩
   have HE1:=hJ7 (HV16.out.1.below hb) (HV16.out.2.1.below hb HV16.out.2.1.lt) (HV16.out.2.2.1.below hb HV16.out.2.2.1.lt) (AD HV16.out.2.2.2.1 hb) (HV16.out.2.2.2.2.1.below hb) (HV16.out.2.2.2.2.2.below hb) hsl
   clear hsl hb
   go_wp2_with fail
   refine QK.normal ⟨⟨(HE1.out.2.1.cell 0).trans HC0.out,HE1.out.2.1.cell 1,fun j x hx=> by have h:=HE1.out.2.2.2.1 (1+j) x (by match j,hx with|0,hx=> exact hx|1,hx=> exact hx|2,hx=> exact hx|3,hx=> exact hx|4,hx=> exact hx);rw[←Nat.add_assoc] at h;exact h,As HE1.out.1.bl⟩,?_⟩
   refine' Ar 15 (by kernel_rfl) ?_ ?_;rotate_left;(simp only[Aa,Ab,Ac];rfl)
   try simp only[Al,Ad,Ae,Af]
   go_wp2_with fail
   refine(Fw f.p p.u (CQ (cv.map CirV.m)) vr vq vg vm e1 HE1.out.2.2.2.2.1.s HE1.out.2.2.2.2.2.2).mono ?_
   rintro e' e2 ⟨rfl,hb⟩
   rw[HMR.out]
   have HE2:=hJ7 (HE1.out.1.below hb) (HE1.out.2.1.below hb HE1.out.2.1.lt) (HE1.out.2.2.1.below hb HE1.out.2.2.1.lt) (AD HE1.out.2.2.2.1 hb) (HE1.out.2.2.2.2.1.below hb) (HE1.out.2.2.2.2.2.1.below hb) (HE1.out.2.2.2.2.2.2.below hb)
   clear hb
   go_wp2_with fail
   refine QK.normal ⟨⟨(HE2.out.2.1.cell 0).trans HC0.out,HE2.out.2.1.cell 1,fun j x hx=> by have h:=HE2.out.2.2.2.1 (1+j) x (by match j,hx with|0,hx=> exact hx|1,hx=> exact hx|2,hx=> exact hx|3,hx=> exact hx|4,hx=> exact hx);rw[←Nat.add_assoc] at h;exact h,As HE2.out.1.bl⟩,?_⟩
   refine' Ar 16 (by kernel_rfl) ?_ ?_;rotate_left;(simp only[Aa,Ab,Ac];rfl)
   try simp only[Al,Ad,Ae,Af]
   go_wp2_with fail
   refine QK.normal ⟨⟨(HE2.out.2.1.cell 0).trans HC0.out,HE2.out.2.1.cell 1,fun j x hx=> by have h:=HE2.out.2.2.2.1 (1+j) x (by match j,hx with|0,hx=> exact hx|1,hx=> exact hx|2,hx=> exact hx|3,hx=> exact hx|4,hx=> exact hx);rw[←Nat.add_assoc] at h;exact h,As HE2.out.1.bl⟩,?_⟩
   refine' Ar 17 (by kernel_rfl) ?_ ?_;rotate_left;(simp only[Aa,Ab,Ac];rfl)
   try simp only[Al,Ad,Ae,Af]
   go_wp2_with fail
   refine QK.normal ⟨⟨(HE2.out.2.1.cell 0).trans HC0.out,HE2.out.2.1.cell 1,fun j x hx=> by have h:=HE2.out.2.2.2.1 (1+j) x (by match j,hx with|0,hx=> exact hx|1,hx=> exact hx|2,hx=> exact hx|3,hx=> exact hx|4,hx=> exact hx);rw[←Nat.add_assoc] at h;exact h,As HE2.out.1.bl⟩,?_⟩
   refine wpAnyH_done (by kernel_rfl) ?_ _
   refine NoPanic.normal ?_
   cases mr
   ·skip
    have c0:e2.cell? ⟨w.heap.size,0,none⟩=some (.int .i64 3):=(HE2.out.2.1.cell 0).trans HC0.out
    go_wp2_with fail
    go_quiet (fail)
    have HX:=Ag (show SR=((⟨fs,cv.map CirV.m,ws⟩:IdM),A1 280) from by rw[←HSR.out];unfold Bw;rw[HSK.out,if_neg (by simp),show((⟨fs,cv.map CirV.m,ws⟩:IdM)).fs[ix]?=some f from HFI.out];simp only;rw[if_neg (by rw[show CQ ((⟨fs,cv.map CirV.m,ws⟩:IdM)).cs=CQ (cv.map CirV.m) from rfl,HMR.out];simp),if_pos (.inl HK2.out)])
    go_wp2_with fail
    refine(Bc 280 _).mono ?_
    rintro e' u9 ⟨rfl,hb⟩
    have hb2:=An ((Sm.refl e2).drewN _ |>.below e2.heap.size) hb (Ah _)
    have HU9:=Ag (show OwnX w0 m0 (a1.heap.size::w.heap.size::xs) u9 bp 97 [(.slice (some ⟨g,0,none⟩) fn cf),(.slice ac cn cc),(.slice aw wn cw)] (.slice (some ⟨g,0,none⟩) fn cf) (.slice ac cn cc) (.slice aw wn cw) fs cv ws ex∧Blk u9 (w.heap.size) 31 (opC p tco)∧Blk u9 (a1.heap.size) 37 (AC 0 0 0 (tmC 0 0 0 ⟨#[]⟩ (.slice none 0 0))) from⟨HE2.out.1.below hb2,HE2.out.2.1.below hb2 HE2.out.2.1.lt,HE2.out.2.2.1.below hb2 HE2.out.2.2.1.lt⟩)
    clear hb hb2
    go_wp2_with (first
  | ((with_reducible refine Ao u9 rfl 37 (.tmp 4) (.tmp 74) rfl (a1.heap.size) 37 (AC 0 0 0 (tmC 0 0 0 ⟨#[]⟩ (.slice none 0 0))) (AC 280 0 0 (tmC 0 0 0 ⟨#[]⟩ (.slice none 0 0))) HU9.out.2.2 rfl rfl rfl (Ax rfl) (AM (AR _ _ _ _ _ _ _)) ?_);intro z9 hb hc hs;have HZ:=Ag (Ai (HU9.out.1.setX (show a1.heap.size∈_ by simp) HSZ.out hc) hb);clear hb hc hs))
    refine bodyPost_ret (AA Tryz.results77 _ _ (a1.heap.size) _ _ rfl HZ.out.2 _ Tryz.underlying37 rfl (Ax rfl)) rfl ?_
    rw[HX.out]
    exact⟨_,_,_,_,cv,rfl,rfl,HALL.out,((HZ.out.1).keepoff (fun k hk=> by simp[hk])).exadd (Bm _ _)⟩
   ·skip
    have HTF:=Ag HE2.out.2.2.2.2.2.1.len
    have HFW:=Ag (EQ (DA HFP.out.2.2.2.1).2.2.2.2.2.2)
    go_wp2_with fail
    refine Az (fun W=> W.cell? ⟨g,ix* 14+6,none⟩=some (.int .i64 f.v)∧W.cell? ⟨g,ix* 14+8,none⟩=some (.int .i64 f.u)∧W.rangeAt g (ix* 14+9) tc) [0,1,2,3,4,5,6,7,8,9,10,11] 3 (by kernel_rfl) rfl (by kernel_rfl) (by kernel_rfl) ⟨HE2.out.2.2.2.1 6 _ rfl,HE2.out.2.2.2.1 8 _ rfl,fun j x hx=> by have h:=HE2.out.2.2.2.1 (9+j) x (by rw[Nat.add_comm];exact hx);rw[←Nat.add_assoc] at h;exact h⟩ ?_
    iterate 12(refine' AK.run ?_ ?_ ?_ ?_;rotate_left 2;(simp only[Aa,Ab,Ac];rfl);rfl;(rintro w' ⟨k0,k1,k2⟩;first|exact AB rfl rfl k2 Tryz.underlying29 rfl (At Tryz.infoTm HTF.out)|(go_simp;with_reducible rfl));simp only[Al,Ad,Ae,Af])
    have sm:=(Sm.refl e2).drew
    have HV18:=hJ7 (HE2.out.1.below (sm.below _)) (HE2.out.2.1.below (sm.below _) HE2.out.2.1.lt) (HE2.out.2.2.1.below (sm.below _) HE2.out.2.2.1.lt) (AD HE2.out.2.2.2.1 (sm.below _)) (HE2.out.2.2.2.2.1.below (sm.below _)) (HE2.out.2.2.2.2.2.1.below (sm.below _)) (HE2.out.2.2.2.2.2.2.below (sm.below _))
    clear sm
    generalize e2.drew=v17 at HV18 ⊢
    refine' Ar 12 (by kernel_rfl) ?_ ?_;rotate_left;(simp only[Aa,Ab,Ac];rfl)
    try simp only[Al,Ad,Ae,Af]
    go_wp2_with fail
    refine(B4 f.b tc _ v17 HFW.out HV18.out.2.2.2.2.2.1).mono ?_
    rintro e' e6 ⟨tcn,rfl,ht,hb⟩
    have HTN:=Ag ht.len
    obtain⟨ta,tp,hsh,-,-,-⟩:=ht.shape
    obtain⟨tk,htk⟩:∃ x,f.b.k=x:=⟨_,rfl⟩
    obtain⟨tu,htu⟩:∃ x,f.b.u=x:=⟨_,rfl⟩
    obtain⟨tn,htn⟩:∃ x,f.b.n=x:=⟨_,rfl⟩
    obtain⟨ts,hts⟩:∃ x,f.b.s=x:=⟨_,rfl⟩
    obtain⟨tl,htl⟩:∃ x,f.b.ks.length=x:=⟨_,rfl⟩
    rw[htk,htu,htn,hts,htl] at hsh
    subst hsh
    have HE6:=hJ6 (HV18.out.1.more ht hb) (HV18.out.2.1.below hb HV18.out.2.1.lt) (HV18.out.2.2.1.below hb HV18.out.2.2.1.lt) (AD HV18.out.2.2.2.1 hb) (HV18.out.2.2.2.2.1.below hb) (HV18.out.2.2.2.2.2.1.below hb)
    clear ht hb htk htu htn hts htl
    go_wp2_with fail
    refine QK.normal ⟨⟨HE6.out.2.2.2.1 6 _ rfl,HE6.out.2.2.2.1 8 _ rfl,fun j x hx=> by have h:=HE6.out.2.2.2.1 (9+j) x (by rw[Nat.add_comm];exact hx);rw[←Nat.add_assoc] at h;exact h⟩,?_⟩
    refine' Ar 13 (by kernel_rfl) ?_ ?_;rotate_left;(simp only[Aa,Ab,Ac];rfl)
    try simp only[Al,Ad,Ae,Af]
    with_reducible refine FU rfl (.tmp 49) (.tmp 53) (.tmp 58) rfl f.v f.u tk tu tn ts ta tl tp rfl rfl rfl ?_
    try simp only[Al,Ad,Ae,Af]
    refine QK.normal ⟨⟨HE6.out.2.2.2.1 6 _ rfl,HE6.out.2.2.2.1 8 _ rfl,fun j x hx=> by have h:=HE6.out.2.2.2.1 (9+j) x (by rw[Nat.add_comm];exact hx);rw[←Nat.add_assoc] at h;exact h⟩,?_⟩
    refine' Ar 14 (by kernel_rfl) ?_ ?_;rotate_left;(simp only[Aa,Ab,Ac];rfl)
    try simp only[Al,Ad,Ae,Af]
    refine Ao e6 rfl 37 (.tmp 4) (.tmp 59) rfl (a1.heap.size) 37 (AC 0 0 0 (tmC 0 0 0 ⟨#[]⟩ (.slice none 0 0))) (AC 0 f.v f.u (tmC tk tu tn ts (.slice ta tl tp))) HE6.out.2.2.1 rfl rfl rfl (Ax rfl) (AM (AR _ _ _ _ _ _ _)) ?_
    intro z9 hb hc hs
    have HZ0:=Ag (show OwnX w0 m0 (a1.heap.size::w.heap.size::xs) z9 bp 97 [(.slice (some ⟨g,0,none⟩) fn cf),(.slice ac cn cc),(.slice aw wn cw)] (.slice (some ⟨g,0,none⟩) fn cf) (.slice ac cn cc) (.slice aw wn cw) fs cv ws ((tmC tk tu tn ts (.slice ta tl tp),f.b)::ex)∧Blk z9 (a1.heap.size) 37 (AC 0 f.v f.u (tmC tk tu tn ts (.slice ta tl tp)))∧z9.rangeAt g (ix* 14) (flC f.nm f.p.o f.p.e vr vq vg f.v f.e f.u tc) from⟨HE6.out.1.setX (show a1.heap.size∈_ by simp) HSZ.out hc,hb,BF HE6.out.2.2.2.1 hc (fun e=> (HE6.out.1.ne (show a1.heap.size∈(a1.heap.size::w.heap.size::xs) by simp)).2.1 (by rw[show a1.heap.size=g from(show g=a1.heap.size from e).symm];exact AF.2 rfl))⟩)
    clear hb hc hs
    refine QK.normal ⟨⟨HZ0.out.2.2 6 _ rfl,HZ0.out.2.2 8 _ rfl,fun j x hx=> by have h:=HZ0.out.2.2 (9+j) x (by rw[Nat.add_comm];exact hx);rw[←Nat.add_assoc] at h;exact h⟩,?_⟩
    refine wpAnyH_done (by kernel_rfl) ?_ _
    refine NoPanic.normal ?_
    try simp only[Al,Ad,Ae,Af]
    have HX:=Ag (show SR=((⟨fs,cv.map CirV.m,ws⟩:IdM),⟨0,f.v,f.u,f.b⟩) from by rw[←HSR.out];unfold Bw;rw[HSK.out,if_neg (by simp),show((⟨fs,cv.map CirV.m,ws⟩:IdM)).fs[ix]?=some f from HFI.out];simp only;rw[if_pos ⟨HK2.out,by rw[show CQ ((⟨fs,cv.map CirV.m,ws⟩:IdM)).cs=CQ (cv.map CirV.m) from rfl,HMR.out]⟩])
    go_wp2_with fail
    have HZ:=Ag (Ai HZ0.out.1 HZ0.out.2.1)
    refine bodyPost_ret (AA Tryz.results77 _ _ (a1.heap.size) _ _ rfl HZ.out.2 _ Tryz.underlying37 rfl (Ax rfl)) rfl ?_
    rw[HX.out]
    exact⟨_,_,_,_,cv,rfl,rfl,HALL.out,((HZ.out.1).keepoff (fun k hk=> by simp[hk]))⟩
theorem PmF.fz1 {xs ms:List Nat} {w w':World} {p:PmD} {vr vq vg:Value} {g:Nat} (h:PmF (Fz xs ms w) w p vr vq vg) (hc:Ch (·=g) w w') (hg:g∈xs):PmF (Fz xs ms w') w' p vr vq vg:=h.keep' hc (fun k hk e=> hk.1.1 (by rw[show k=g from e];exact hg)) (fun k hk=> ⟨hk.1,Ak hk.2 hc.size⟩)
theorem PmF.ones {F:Nat→Prop} {w:World} {p:PmD} {vr vq vg:Value} (h:PmF F w p vr vq vg):vr.oneCell'=true∧vq.oneCell'=true∧vg.oneCell'=true:=⟨h.1.one,h.2.1.one,h.2.2.one⟩
theorem Dl (p:OpM) (tco:List Value) {w0 w:World} {m0 xs:List Nat} {bp:Nat} {vf vc vw:Value} {fs:List FileM} {cv:List CirV} {ws:List WrM} {ex:List (List Value × Tm)}
  (h:OwnX w0 m0 xs w bp 97 [vf,vc,vw] vf vc vw fs cv ws ex) (hb:(tco,p.b)∈ex) (hk:ChkP (⟨fs,cv.map CirV.m,ws⟩:IdM)) (ho:opB p=true) (hall:∀ c∈cv,c.own=true) (hkk:p.k=4∨p.k=5∨p.k=6∨p.k=7):
  Calls Tryz.prog 75 #[.pointer (some ⟨bp,0,none⟩),.agg (opC p tco).toArray] w (G5 w0 m0 xs bp 97 ex (Bg (⟨fs,cv.map CirV.m,ws⟩:IdM) p)):=by
 obtain⟨af,cf,rfl,hf1,hf2⟩:=h.rf.shape
 obtain⟨ac,cc,rfl,hc1,hc2⟩:=h.rc.shape
 obtain⟨aw,cw,rfl,hw1,hw2⟩:=h.rw.shape
 obtain⟨fn,hfn⟩:∃ n,fs.length=n:=⟨_,rfl⟩
 obtain⟨cn,hcn⟩:∃ n,cv.length=n:=⟨_,rfl⟩
 obtain⟨wn,hwn⟩:∃ n,ws.length=n:=⟨_,rfl⟩
 have HN:=Ag (Ai hfn (Ai hcn hwn))
 have hfl:fn≤6:=by have:=hk.fl;simp only at this;omega
 have hcl:cn≤3:=by have:=hk.cl;simp only[List.length_map] at this;omega
 have hwl:wn≤400:=by have:=hk.wl;simp only at this;omega
 rw[hfn,hcn,hwn] at h
 have HOWN:=Ag h
 have HB:=Ag hb
 have HK:=Ag hk
 have HO:=Ag ho
 have HALL:=Ag hall
 have HTL:=Ag (h.ex _ hb).len
 obtain⟨SR,hSR⟩:∃ r,Bg (⟨fs,cv.map CirV.m,ws⟩:IdM) p=r:=⟨_,rfl⟩
 have HSR:=Ag hSR
 rw[hSR]
 have HKK:=Ag hkk
 clear hkk
 clear h hb hk ho hall hfn hcn hwn hSR hf1 hf2 hc1 hc2 hw1 hw2
 obtain⟨⟨ix,th⟩,hsk⟩:∃ r,Bu (⟨fs,cv.map CirV.m,ws⟩:IdM) p.nm=r:=⟨_,rfl⟩
 have HSK:=Ag hsk
 have HF:=Ag (fun (W:World) (hW:IdC (fun _=> True) W [(.slice af fn cf),(.slice ac cn cc),(.slice aw wn cw)] (⟨fs,cv.map CirV.m,ws⟩:IdM))=> show Calls Tryz.prog 25 #[.agg ([(.slice af fn cf),(.slice ac cn cc),(.slice aw wn cw)]:List Value).toArray,.string p.nm] W (fun e w'=> e=.returned (.tuple #[.int .i64 (ix:Nat),.bool th])∧Below W.heap.size W w') from by
  have h:=EN (⟨fs,cv.map CirV.m,ws⟩:IdM) p.nm [(.slice af fn cf),(.slice ac cn cc),(.slice aw wn cw)] _ W hW (by have:=HK.out.fl;simp only at this ⊢;omega)
  rw[show AW (fun x=> BW x.nm p.nm) (⟨fs,cv.map CirV.m,ws⟩:IdM).fs=(ix,th) from hsk] at h
  exact h)
 clear hsk
 obtain⟨⟨jx,is⟩,hsc⟩:∃ r,Bz (⟨fs,cv.map CirV.m,ws⟩:IdM) p.g=r:=⟨_,rfl⟩
 have HSC:=Ag hsc
 have HFC:=Ag (fun (W:World) (hW:IdC (fun _=> True) W [(.slice af fn cf),(.slice ac cn cc),(.slice aw wn cw)] (⟨fs,cv.map CirV.m,ws⟩:IdM))=> show Calls Tryz.prog 39 #[.agg ([(.slice af fn cf),(.slice ac cn cc),(.slice aw wn cw)]:List Value).toArray,.int .i64 p.g] W (fun e w'=> e=.returned (.tuple #[.int .i64 (jx:Nat),.bool is])∧Below W.heap.size W w') from by
  have h:=DL (⟨fs,cv.map CirV.m,ws⟩:IdM) p.g [(.slice af fn cf),(.slice ac cn cc),(.slice aw wn cw)] _ W hW (by have:=HK.out.cl;omega)
  rw[show AW (fun x=> Bx x.n p.g) (⟨fs,cv.map CirV.m,ws⟩:IdM).cs=(jx,is) from hsc] at h
  exact h)
 clear hsc
 go_enter Tryz.func75,Tryz.ntmps75
 go_upto_region 1 with(first
  | ((with_reducible refine Au w rfl 31 (.tmp 1) rfl (opC p tco) rfl ?_);intro a1 hb hbel hsz;have H1:=hJ2 (HOWN.out.rsv hbel (Ah _) hb.lt) hb;clear hb hbel hsz)
  | ((with_reducible refine Av a1 rfl 37 rfl (AC 0 0 0 (tmC 0 0 0 ⟨#[]⟩ (.slice none 0 0))) Tryz.zeroRs ?_);intro a2 hb hbel hsz;have H2:=hJ3 (H1.out.1.rsv hbel (Ah _) hb.lt) (H1.out.2.below hbel H1.out.2.lt) hb;have HSZ:=Ag (show w0.heap.size≤a1.heap.size from H1.out.1.ch.size);clear hb hbel hsz))
 try simp only[Al,Ad,Ae,Af]
 have HG:=hJ2 H1.out.2.lt H2.out.2.2.lt
 go_wp2_with fail
 refine Az (fun W=> W.rangeAt bp 0 [(.slice af fn cf),(.slice ac cn cc),(.slice aw wn cw)]∧W.cell? ⟨w.heap.size,2,none⟩=some (.string p.nm)) [0,1,2,3,4,5] 6 (by kernel_rfl) rfl (by kernel_rfl) (by kernel_rfl) ⟨As H2.out.1.bl,H2.out.2.1.cell 2⟩ ?_
 iterate 6(refine' AK.run ?_ ?_ ?_ ?_;rotate_left 2;(simp only[Aa,Ab,Ac];rfl);rfl;(rintro w' ⟨k0,k1⟩;first|exact AB rfl rfl k0 Tryz.underlying26 rfl (At Tryz.infoId rfl)|(go_simp;with_reducible rfl));simp only[Al,Ad,Ae,Af])
 have sm:=(Sm.refl a2).drew
 have HV2:=hJ3 (H2.out.1.below (sm.below _)) (H2.out.2.1.below (sm.below _) H2.out.2.1.lt) (H2.out.2.2.below (sm.below _) H2.out.2.2.lt)
 clear sm
 generalize a2.drew=v1 at HV2 ⊢
 refine' Ar 6 (by kernel_rfl) ?_ ?_;rotate_left;(simp only[Aa,Ab,Ac];rfl)
 try simp only[Al,Ad,Ae,Af]
 go_wp2_with fail
 refine Calls.mono (HF.out v1 HV2.out.1.idc) ?_
 rintro e' u3 ⟨rfl,hb⟩
 have K4:=hJ3 (HV2.out.1.below hb) (HV2.out.2.1.below hb HV2.out.2.1.lt) (HV2.out.2.2.below hb HV2.out.2.2.lt)
 clear hb
 go_wp2_with fail
 refine QK.normal ⟨⟨As K4.out.1.bl,K4.out.2.1.cell 2⟩,?_⟩
 refine Bi (fuel:=0) (by kernel_rfl) AG ⟨As K4.out.1.bl,K4.out.2.1.cell 2⟩ [7,8,9,10,11] _ _ (by kernel_rfl) ?_
 try simp only[Al]
 iterate 5(refine' AK.run ?_ ?_ ?_ ?_;rotate_left 2;(simp only[Aa,Ab,Ac];rfl);rfl;(rintro w' ⟨k0,k1⟩;first|exact AB rfl rfl k0 Tryz.underlying26 rfl (At Tryz.infoId rfl)|(go_simp;with_reducible rfl));simp only[Al,Ad,Ae,Af])
 refine wpAnyH_done (by kernel_rfl) ?_ _
 refine NoPanic.normal ?_
 cases th
 ·skip
  have HX:=Ag (show SR=((⟨fs,cv.map CirV.m,ws⟩:IdM),A1 4) from by rw[←HSR.out];unfold Bg;rw[HSK.out,if_pos rfl])
  go_wp2_with fail
  refine(Bc (4) u3).mono ?_
  rintro e' u5 ⟨rfl,hb⟩
  have K6:=hJ3 (K4.out.1.below hb) (K4.out.2.1.below hb K4.out.2.1.lt) (K4.out.2.2.below hb K4.out.2.2.lt)
  clear hb
  go_wp2_with (first
  | ((with_reducible refine Ao u5 rfl 37 (.tmp 4) (.tmp 24) rfl (a1.heap.size) 37 (AC 0 0 0 (tmC 0 0 0 ⟨#[]⟩ (.slice none 0 0))) (AC (4) 0 0 (tmC 0 0 0 ⟨#[]⟩ (.slice none 0 0))) K6.out.2.2 rfl rfl rfl (Ax rfl) (AM (AR _ _ _ _ _ _ _)) ?_);intro z9 hb hc hs;have HZ:=Ag (Ai (K6.out.1.setX (show a1.heap.size∈_ by simp) HSZ.out hc) hb);clear hb hc hs))
  refine bodyPost_ret (AA Tryz.results75 _ _ (a1.heap.size) _ _ rfl HZ.out.2 _ Tryz.underlying37 rfl (Ax rfl)) rfl ?_
  rw[HX.out]
  exact⟨_,_,_,_,cv,rfl,rfl,HALL.out,((HZ.out.1).keepoff (fun k hk=> by simp[hk])).exadd (Bm _ _)⟩
 ·skip
  have hixl:ix<fs.length:=by
   have h:=(DM (c:=fun x:FileM=> BW x.nm p.nm) (l:=fs) (by rw[show AW (fun x:FileM=> BW x.nm p.nm) fs=(ix,true) from HSK.out])).1
   rw[show AW (fun x:FileM=> BW x.nm p.nm) fs=(ix,true) from HSK.out] at h
   exact h
  obtain⟨g,cf',e,-⟩:=K4.out.1.rf.ptr hixl
  rw[HN.out.1] at e
  obtain⟨rfl,rfl⟩:af=some ⟨g,0,none⟩∧cf=cf':=by simpa using e
  obtain⟨f,hf⟩:∃ f,fs[ix]=f:=⟨_,rfl⟩
  have HFI:=Ag (show fs[ix]?=some f from by rw[List.getElem?_eq_getElem hixl,hf])
  have HSET:=Ag (show fs.set ix f=fs from by rw[←hf,List.set_getElem_self])
  have HFP:=Ag (Br (HK.out.f f (by show f∈fs;rw[←hf];exact List.getElem_mem hixl)))
  obtain⟨-,vr,vq,vg,tc,hra,hpf,htc,-⟩:=OwnX.elF (f:=f) (by rw[HSET.out];exact K4.out.1) hixl
  have HEL:=Ag (show OwnX w0 m0 (a1.heap.size::w.heap.size::xs) u3 bp 97 [(.slice (some ⟨g,0,none⟩) fn cf),(.slice ac cn cc),(.slice aw wn cw)] (.slice (some ⟨g,0,none⟩) fn cf) (.slice ac cn cc) (.slice aw wn cw) fs cv ws ex∧Blk u3 (w.heap.size) 31 (opC p tco)∧Blk u3 (a1.heap.size) 37 (AC 0 0 0 (tmC 0 0 0 ⟨#[]⟩ (.slice none 0 0)))∧u3.rangeAt g (ix* 14) (flC f.nm f.p.o f.p.e vr vq vg f.v f.e f.u tc)∧PmF (fun _=> True) u3 f.p vr vq vg∧TmC (fun _=> True) u3 tc f.b from⟨K4.out.1,K4.out.2.1,K4.out.2.2,hra,hpf.keep' (Ch.refl (fun _=> False) _) (fun _ _ e=> e) (fun _ _=> trivial),htc.mono fun _ _=> trivial⟩)
  have HIXL:=Ag hixl
  have hixz:(ix:Int)<(fn:Int):=by have:=HN.out.1;omega
  have hix0:(0:Int)≤(ix:Int):=by omega
  clear e hf hra hpf htc hixl K4
  have c0:=HEL.out.1.bl.cell 0
  simp only[Ab,Ac] at c0
  obtain⟨b0,hb0⟩:∃ b,u3=b:=⟨_,rfl⟩
  rw[hb0] at HEL c0 ⊢
  clear hb0
  have HPR:=Ag (show b0.rangeAt g (ix* 14+1) (pmC f.p.o f.p.e vr vq vg) from fun j x hx=> by have h:=HEL.out.2.2.2.1 (1+j) x (by match j,hx with|0,hx=> exact hx|1,hx=> exact hx|2,hx=> exact hx|3,hx=> exact hx|4,hx=> exact hx);rw[←Nat.add_assoc] at h;exact h)
  have HON:=Ag HEL.out.2.2.2.2.1.ones
  have HOLD:=Ag (show PmF (fun k=> True∧k<b0.heap.size) b0 f.p vr vq vg∧TmC (fun k=> True∧k<b0.heap.size) b0 tc f.b from⟨⟨HEL.out.2.2.2.2.1.1.old',HEL.out.2.2.2.2.1.2.1.old',HEL.out.2.2.2.2.1.2.2.old'⟩,TmC.old' _ _ HEL.out.2.2.2.2.2⟩)
  have HGL:=Ag (show g<b0.heap.size from HEL.out.1.lt g (FR g (AF.2 rfl)))
  go_upto_region 6 with(first
  | (with_reducible refine Ap rfl 43 (.tmp 34) rfl g (ix* 14+1) rfl (pmC f.p.o f.p.e vr vq vg) _ HPR.out Tryz.underlying43 rfl (Ay _ _ _ _ _) ?_)
  | ((with_reducible refine Av b0 rfl 43 rfl (pmC 0 0 (.slice none 0 0) (.slice none 0 0) (.slice none 0 0)) Tryz.zeroPm ?_);intro b2 hb hbel hsz;have HB2:=hJ7 (HEL.out.1.rsv hbel (Ah _) hb.lt) (HEL.out.2.1.below hbel HEL.out.2.1.lt) (HEL.out.2.2.1.below hbel HEL.out.2.2.1.lt) (AD HEL.out.2.2.2.1 hbel) (HEL.out.2.2.2.2.1.below hbel) (HEL.out.2.2.2.2.2.below hbel) hb;have HBW:=Ag (Ai hbel trivial);clear hb hbel hsz)
  | ((with_reducible refine Ao b2 rfl 43 (.tmp 8) (.tmp 35) rfl (b0.heap.size) 43 (pmC 0 0 (.slice none 0 0) (.slice none 0 0) (.slice none 0 0)) (pmC f.p.o f.p.e vr vq vg) HB2.out.2.2.2.2.2.2 rfl rfl rfl (Ay _ _ _ _ _) (Bt HON.out.1 HON.out.2.1 HON.out.2.2) ?_);intro b3 hb hc hs;have HB3:=Ag (show OwnX w0 m0 (b0.heap.size::a1.heap.size::w.heap.size::xs) b3 bp 97 [(.slice (some ⟨g,0,none⟩) fn cf),(.slice ac cn cc),(.slice aw wn cw)] (.slice (some ⟨g,0,none⟩) fn cf) (.slice ac cn cc) (.slice aw wn cw) fs cv ws ex∧Blk b3 (w.heap.size) 31 (opC p tco)∧Blk b3 (a1.heap.size) 37 (AC 0 0 0 (tmC 0 0 0 ⟨#[]⟩ (.slice none 0 0)))∧b3.rangeAt g (ix* 14) (flC f.nm f.p.o f.p.e vr vq vg f.v f.e f.u tc)∧PmF (fun _=> True) b3 f.p vr vq vg∧TmC (fun _=> True) b3 tc f.b∧Blk b3 (b0.heap.size) 43 (pmC f.p.o f.p.e vr vq vg) from⟨HB2.out.1.setX List.mem_cons_self (Aj HEL.out.1.ch.size (Ah _)) hc,HB2.out.2.1.keep hc (fun e=> absurd (show w.heap.size=b0.heap.size from e) (by have h1:=HEL.out.2.2.1.lt;have:=HG.out;omega)),HB2.out.2.2.1.keep hc (fun e=> absurd (show a1.heap.size=b0.heap.size from e) (by have h1:=HEL.out.2.2.1.lt;have:=HG.out;omega)),BF HB2.out.2.2.2.1 hc (fun e=> absurd (show g=b0.heap.size from e) (by have h1:=HGL.out;omega)),(HOLD.out.1.below HBW.out.1).keep' hc (fun k hk e=> by have e:k=b0.heap.size:=e;have:=hk.2;omega) (fun _ _=> trivial),TmC.keep' hc (fun k hk e=> by have e:k=b0.heap.size:=e;have:=hk.2;omega) (fun _ _=> trivial) _ _ (HOLD.out.2.below HBW.out.1),hb⟩);clear hb hc hs))
  try simp only[Al,Ad,Ae,Af]
  clear c0 HB2 HPR
  obtain⟨⟨q,er⟩,hqr⟩:∃ r,Co (⟨fs,cv.map CirV.m,ws⟩:IdM) f.p p=r:=⟨_,rfl⟩
  have HQR:=Ag hqr
  clear hqr
  rcases HKK.out with hk|hk|hk|hk
  ·skip
   have HK2:=Ag hk
   have HC0:=Ag (show(opC p tco)[0]?=some (.int .i64 4) from by show some (Value.int .i64 p.k)=_;rw[hk])
   clear hk
   have HRB:=Ag (show a1.heap.size<b0.heap.size from HEL.out.2.2.1.lt)
   have HSB:=Ag (show w0.heap.size≤b0.heap.size from HEL.out.1.ch.size)
   have c0:b3.cell? ⟨w.heap.size,0,none⟩=some (.int .i64 4):=(HB3.out.2.1.cell 0).trans HC0.out
   have HPQ:=Ag (show Bj f.p (CN f.p p.u p.t p.wr)=(q,er) from by rw[←HQR.out];unfold Co;rw[if_pos HK2.out])
   have d1:b3.cell? ⟨w.heap.size,1,none⟩=some (.int .i64 p.u):=HB3.out.2.1.cell 1
   have d3:b3.cell? ⟨w.heap.size,3,none⟩=some (.int .i64 p.t):=HB3.out.2.1.cell 3
   have d5:b3.cell? ⟨w.heap.size,5,none⟩=some (.bool p.wr):=HB3.out.2.1.cell 5
   go_wp2_with (first
  | (with_reducible refine Ap rfl 43 (.tmp 8) rfl (b0.heap.size) 0 rfl (pmC f.p.o f.p.e vr vq vg) _ (As HB3.out.2.2.2.2.2.2) Tryz.underlying43 rfl (Ay _ _ _ _ _) ?_))
   refine(JV f.p p.u p.t p.wr vr vq vg b3 HB3.out.2.2.2.2.1.s HFP.out.1.pml).mono ?_
   rintro e' k1 ⟨ur,uq,ug,rfl,hps,hb,hab⟩
   rw[show Bj f.p (CN f.p p.u p.t p.wr)=(q,er) from HPQ.out] at hps ⊢
   have HRL:=Ag (show a1.heap.size<b0.heap.size from HRB.out)
   have HSG:=Ag (show w0.heap.size≤b0.heap.size from HSB.out)
   have HK1:=hJ5 (HB3.out.1.below hb) (HB3.out.2.1.below hb HB3.out.2.1.lt) (HB3.out.2.2.1.below hb HB3.out.2.2.1.lt) (HB3.out.2.2.2.2.2.2.below hb HB3.out.2.2.2.2.2.2.lt) (HB3.out.1.pm hb hps hab)
   have HONK:=Ag HK1.out.2.2.2.2.ones
   clear hps hb hab d1 d3 d5
   go_upto_region 20 with(first
  | ((with_reducible refine Ao k1 rfl 43 (.tmp 8) (.tmp 49) rfl (b0.heap.size) 43 (pmC f.p.o f.p.e vr vq vg) (pmC q.o q.e ur uq ug) HK1.out.2.2.2.1 rfl rfl rfl (Ay _ _ _ _ _) (Bt HONK.out.1 HONK.out.2.1 HONK.out.2.2) ?_);intro k2 hb hc hs;have HK2w:=Ag (show OwnX w0 m0 (b0.heap.size::a1.heap.size::w.heap.size::xs) k2 bp 97 [(.slice (some ⟨g,0,none⟩) fn cf),(.slice ac cn cc),(.slice aw wn cw)] (.slice (some ⟨g,0,none⟩) fn cf) (.slice ac cn cc) (.slice aw wn cw) fs cv ws ex∧Blk k2 (w.heap.size) 31 (opC p tco)∧Blk k2 (a1.heap.size) 37 (AC 0 0 0 (tmC 0 0 0 ⟨#[]⟩ (.slice none 0 0)))∧Blk k2 (b0.heap.size) 43 (pmC q.o q.e ur uq ug)∧PmF (Fz (b0.heap.size::a1.heap.size::w.heap.size::xs) (msL bp (.slice (some ⟨g,0,none⟩) fn cf) (.slice ac cn cc) (.slice aw wn cw) cv) k2) k2 q ur uq ug from⟨HK1.out.1.setX List.mem_cons_self HSG.out hc,HK1.out.2.1.keep hc (fun e=> absurd (show w.heap.size=b0.heap.size from e) (by have h1:=HRL.out;have:=HG.out;omega)),HK1.out.2.2.1.keep hc (fun e=> absurd (show a1.heap.size=b0.heap.size from e) (by have h1:=HRL.out;have:=HG.out;omega)),hb,HK1.out.2.2.2.2.fz1 hc List.mem_cons_self⟩);clear hb hc hs))
   try simp only[Al,Ad,Ae,Af]
   clear c0
   by_cases hz:er≠0
   ·have hze:(er==0)=false:=by simpa using hz
    have hze2:(er !=0)=true:=by simpa using hz
    have HX:=Ag (show SR=((⟨fs,cv.map CirV.m,ws⟩:IdM),A1 er) from by rw[←HSR.out];unfold Bg;rw[HSK.out,if_neg (by simp),show(⟨fs,cv.map CirV.m,ws⟩:IdM).fs[ix]?=some f from HFI.out];simp only;rw[HQR.out,if_pos hz])
    clear hz
    go_wp2_with fail
    refine(Bc (er) k2).mono ?_
    rintro e' u7 ⟨rfl,hb⟩
    have K8:=Ag (show OwnX w0 m0 (b0.heap.size::a1.heap.size::w.heap.size::xs) u7 bp 97 [(.slice (some ⟨g,0,none⟩) fn cf),(.slice ac cn cc),(.slice aw wn cw)] (.slice (some ⟨g,0,none⟩) fn cf) (.slice ac cn cc) (.slice aw wn cw) fs cv ws ex∧Blk u7 (w.heap.size) 31 (opC p tco)∧Blk u7 (a1.heap.size) 37 (AC 0 0 0 (tmC 0 0 0 ⟨#[]⟩ (.slice none 0 0)))∧Blk u7 (b0.heap.size) 43 (pmC q.o q.e ur uq ug)∧PmF (Fz (b0.heap.size::a1.heap.size::w.heap.size::xs) (msL bp (.slice (some ⟨g,0,none⟩) fn cf) (.slice ac cn cc) (.slice aw wn cw) cv) u7) u7 q ur uq ug from⟨(HK2w.out.1.below hb),HK2w.out.2.1.below hb HK2w.out.2.1.lt,HK2w.out.2.2.1.below hb HK2w.out.2.2.1.lt,HK2w.out.2.2.2.1.below hb HK2w.out.2.2.2.1.lt,(PmF.keep' HK2w.out.2.2.2.2 (Ch.of_below (S:=fun _=> False) hb (Ah _)) (fun _ _ e=> e) (fun k hk=> ⟨hk.1,Ak hk.2 hb.size⟩))⟩)
    clear hb
    go_wp2_with (first
  | ((with_reducible refine Ao u7 rfl 37 (.tmp 4) (.tmp 113) rfl (a1.heap.size) 37 (AC 0 0 0 (tmC 0 0 0 ⟨#[]⟩ (.slice none 0 0))) (AC (er) 0 0 (tmC 0 0 0 ⟨#[]⟩ (.slice none 0 0))) K8.out.2.2.1 rfl rfl rfl (Ax rfl) (AM (AR _ _ _ _ _ _ _)) ?_);intro z9 hb hc hs;have HZ:=Ag (Ai (K8.out.1.setX (show a1.heap.size∈_ by simp) HSZ.out hc) hb);clear hb hc hs))
    refine bodyPost_ret (AA Tryz.results75 _ _ (a1.heap.size) _ _ rfl HZ.out.2 _ Tryz.underlying37 rfl (Ax rfl)) rfl ?_
    rw[HX.out]
    exact⟨_,_,_,_,cv,rfl,rfl,HALL.out,((HZ.out.1).keepoff (fun k hk=> by simp[hk])).exadd (Bm _ _)⟩
   ·have hz0:er=0:=by omega
    subst hz0
    have HX:=Ag (show SR=(⟨fs.set ix ⟨f.nm,q,f.v,f.e,f.u,f.b⟩,cv.map CirV.m,ws⟩,A1 0) from by rw[←HSR.out];unfold Bg;rw[HSK.out,if_neg (by simp),show(⟨fs,cv.map CirV.m,ws⟩:IdM).fs[ix]?=some f from HFI.out];simp only;rw[HQR.out,if_neg (by simp)])
    clear hz
    obtain⟨-,_,_,_,_,-,-,-,hth,-,-,-,-,hkp⟩:=OwnX.elF (f:=f) (by rw[HSET.out];exact HK2w.out.1) HIXL.out
    have HONQ:=Ag HK2w.out.2.2.2.2.ones
    have HTH:=Ag (show k2.there g (ix* 14+1) ((pmC q.o q.e ur uq ug):List Value).toArray.size from fun j hj=> by rw[Nat.add_assoc];exact hth (1+j) (by simp[pmC] at hj;omega))
    have HPUT:=Ag ((hkp q ur uq ug HK2w.out.2.2.2.2).keepoff (xs':=(a1.heap.size::w.heap.size::xs)) (fun k hk=> List.mem_cons_of_mem _ hk))
    clear hth hkp
    go_upto_region 23 with(first
  | (with_reducible refine Ap rfl 43 (.tmp 8) rfl (b0.heap.size) 0 rfl (pmC q.o q.e ur uq ug) _ (As HK2w.out.2.2.2.1) Tryz.underlying43 rfl (Ay _ _ _ _ _) ?_)
  | ((with_reducible refine wpList_store_mid rfl 43 (.tmp 117) (.tmp 115) rfl g (ix* 14+1) ((pmC q.o q.e ur uq ug):List Value).toArray rfl rfl HTH.out (Ay _ _ _ _ _) (all_oneCell_toArray (Bt HONQ.out.1 HONQ.out.2.1 HONQ.out.2.2)) ?_);have HY9:=Ag (show OwnX w0 m0 (a1.heap.size::w.heap.size::xs) (k2.setCells g (ix* 14+1) (pmC q.o q.e ur uq ug)) bp 97 [(.slice (some ⟨g,0,none⟩) fn cf),(.slice ac cn cc),(.slice aw wn cw)] (.slice (some ⟨g,0,none⟩) fn cf) (.slice ac cn cc) (.slice aw wn cw) (fs.set ix ⟨f.nm,q,f.v,f.e,f.u,f.b⟩) cv ws ex∧Blk (k2.setCells g (ix* 14+1) (pmC q.o q.e ur uq ug)) (w.heap.size) 31 (opC p tco)∧Blk (k2.setCells g (ix* 14+1) (pmC q.o q.e ur uq ug)) (a1.heap.size) 37 (AC 0 0 0 (tmC 0 0 0 ⟨#[]⟩ (.slice none 0 0))) from⟨HPUT.out,HK2w.out.2.1.keep (AH g _ _ _) (fun e=> (HK2w.out.1.ne (show w.heap.size∈(b0.heap.size::a1.heap.size::w.heap.size::xs) by simp)).2.1 (by rw[show w.heap.size=g from e];exact AF.2 rfl)),HK2w.out.2.2.1.keep (AH g _ _ _) (fun e=> (HK2w.out.1.ne (show a1.heap.size∈(b0.heap.size::a1.heap.size::w.heap.size::xs) by simp)).2.1 (by rw[show a1.heap.size=g from e];exact AF.2 rfl))⟩);try simp only[List.toList_toArray];generalize (k2.setCells g (ix* 14+1) (pmC q.o q.e ur uq ug))=y9 at HY9 ⊢))
    try simp only[Al,Ad,Ae,Af]
    go_wp2_with (first
  | (with_reducible refine Ba rfl rfl ?_)
  | ((with_reducible refine Ao y9 rfl 37 (.tmp 4) (.tmp 118) rfl (a1.heap.size) 37 (AC 0 0 0 (tmC 0 0 0 ⟨#[]⟩ (.slice none 0 0))) (AC 0 0 0 (tmC 0 0 0 ⟨#[]⟩ (.slice none 0 0))) HY9.out.2.2 rfl rfl rfl (Ax rfl) (AM (AR _ _ _ _ _ _ _)) ?_);intro z9 hb hc hs;have HZ:=Ag (Ai (HY9.out.1.setX (show a1.heap.size∈_ by simp) HSZ.out hc) hb);clear hb hc hs))
    refine bodyPost_ret (AA Tryz.results75 _ _ (a1.heap.size) _ _ rfl HZ.out.2 _ Tryz.underlying37 rfl (Ax rfl)) rfl ?_
    rw[HX.out]
    exact⟨_,_,_,_,cv,rfl,rfl,HALL.out,((HZ.out.1).keepoff (fun k hk=> by simp[hk])).exadd (Bm _ _)⟩
  ·skip
   have HK2:=Ag hk
   have HC0:=Ag (show(opC p tco)[0]?=some (.int .i64 5) from by show some (Value.int .i64 p.k)=_;rw[hk])
   clear hk
   have HRB:=Ag (show a1.heap.size<b0.heap.size from HEL.out.2.2.1.lt)
   have HSB:=Ag (show w0.heap.size≤b0.heap.size from HEL.out.1.ch.size)
   have c0:b3.cell? ⟨w.heap.size,0,none⟩=some (.int .i64 5):=(HB3.out.2.1.cell 0).trans HC0.out
   have HPQ:=Ag (show Bj f.p (DO f.p p.u p.t)=(q,er) from by rw[←HQR.out];unfold Co;rw[if_neg (by rw[HK2.out];omega),if_pos HK2.out])
   have d1:b3.cell? ⟨w.heap.size,1,none⟩=some (.int .i64 p.u):=HB3.out.2.1.cell 1
   have d3:b3.cell? ⟨w.heap.size,3,none⟩=some (.int .i64 p.t):=HB3.out.2.1.cell 3
   go_wp2_with (first
  | (with_reducible refine Ap rfl 43 (.tmp 8) rfl (b0.heap.size) 0 rfl (pmC f.p.o f.p.e vr vq vg) _ (As HB3.out.2.2.2.2.2.2) Tryz.underlying43 rfl (Ay _ _ _ _ _) ?_))
   refine(KC f.p p.u p.t vr vq vg b3 HB3.out.2.2.2.2.1.s HFP.out.1.pml).mono ?_
   rintro e' k1 ⟨ur,uq,ug,rfl,hps,hb,hab⟩
   rw[show Bj f.p (DO f.p p.u p.t)=(q,er) from HPQ.out] at hps ⊢
   have HRL:=Ag (show a1.heap.size<b0.heap.size from HRB.out)
   have HSG:=Ag (show w0.heap.size≤b0.heap.size from HSB.out)
   have HK1:=hJ5 (HB3.out.1.below hb) (HB3.out.2.1.below hb HB3.out.2.1.lt) (HB3.out.2.2.1.below hb HB3.out.2.2.1.lt) (HB3.out.2.2.2.2.2.2.below hb HB3.out.2.2.2.2.2.2.lt) (HB3.out.1.pm hb hps hab)
   have HONK:=Ag HK1.out.2.2.2.2.ones
   clear hps hb hab d1 d3
   go_upto_region 20 with(first
  | ((with_reducible refine Ao k1 rfl 43 (.tmp 8) (.tmp 60) rfl (b0.heap.size) 43 (pmC f.p.o f.p.e vr vq vg) (pmC q.o q.e ur uq ug) HK1.out.2.2.2.1 rfl rfl rfl (Ay _ _ _ _ _) (Bt HONK.out.1 HONK.out.2.1 HONK.out.2.2) ?_);intro k2 hb hc hs;have HK2w:=Ag (show OwnX w0 m0 (b0.heap.size::a1.heap.size::w.heap.size::xs) k2 bp 97 [(.slice (some ⟨g,0,none⟩) fn cf),(.slice ac cn cc),(.slice aw wn cw)] (.slice (some ⟨g,0,none⟩) fn cf) (.slice ac cn cc) (.slice aw wn cw) fs cv ws ex∧Blk k2 (w.heap.size) 31 (opC p tco)∧Blk k2 (a1.heap.size) 37 (AC 0 0 0 (tmC 0 0 0 ⟨#[]⟩ (.slice none 0 0)))∧Blk k2 (b0.heap.size) 43 (pmC q.o q.e ur uq ug)∧PmF (Fz (b0.heap.size::a1.heap.size::w.heap.size::xs) (msL bp (.slice (some ⟨g,0,none⟩) fn cf) (.slice ac cn cc) (.slice aw wn cw) cv) k2) k2 q ur uq ug from⟨HK1.out.1.setX List.mem_cons_self HSG.out hc,HK1.out.2.1.keep hc (fun e=> absurd (show w.heap.size=b0.heap.size from e) (by have h1:=HRL.out;have:=HG.out;omega)),HK1.out.2.2.1.keep hc (fun e=> absurd (show a1.heap.size=b0.heap.size from e) (by have h1:=HRL.out;have:=HG.out;omega)),hb,HK1.out.2.2.2.2.fz1 hc List.mem_cons_self⟩);clear hb hc hs))
   try simp only[Al,Ad,Ae,Af]
   clear c0
   by_cases hz:er≠0
   ·have hze:(er==0)=false:=by simpa using hz
    have hze2:(er !=0)=true:=by simpa using hz
    have HX:=Ag (show SR=((⟨fs,cv.map CirV.m,ws⟩:IdM),A1 er) from by rw[←HSR.out];unfold Bg;rw[HSK.out,if_neg (by simp),show(⟨fs,cv.map CirV.m,ws⟩:IdM).fs[ix]?=some f from HFI.out];simp only;rw[HQR.out,if_pos hz])
    clear hz
    go_wp2_with fail
    refine(Bc (er) k2).mono ?_
    rintro e' u9 ⟨rfl,hb⟩
    have K10:=Ag (show OwnX w0 m0 (b0.heap.size::a1.heap.size::w.heap.size::xs) u9 bp 97 [(.slice (some ⟨g,0,none⟩) fn cf),(.slice ac cn cc),(.slice aw wn cw)] (.slice (some ⟨g,0,none⟩) fn cf) (.slice ac cn cc) (.slice aw wn cw) fs cv ws ex∧Blk u9 (w.heap.size) 31 (opC p tco)∧Blk u9 (a1.heap.size) 37 (AC 0 0 0 (tmC 0 0 0 ⟨#[]⟩ (.slice none 0 0)))∧Blk u9 (b0.heap.size) 43 (pmC q.o q.e ur uq ug)∧PmF (Fz (b0.heap.size::a1.heap.size::w.heap.size::xs) (msL bp (.slice (some ⟨g,0,none⟩) fn cf) (.slice ac cn cc) (.slice aw wn cw) cv) u9) u9 q ur uq ug from⟨(HK2w.out.1.below hb),HK2w.out.2.1.below hb HK2w.out.2.1.lt,HK2w.out.2.2.1.below hb HK2w.out.2.2.1.lt,HK2w.out.2.2.2.1.below hb HK2w.out.2.2.2.1.lt,(PmF.keep' HK2w.out.2.2.2.2 (Ch.of_below (S:=fun _=> False) hb (Ah _)) (fun _ _ e=> e) (fun k hk=> ⟨hk.1,Ak hk.2 hb.size⟩))⟩)
    clear hb
    go_wp2_with (first
  | ((with_reducible refine Ao u9 rfl 37 (.tmp 4) (.tmp 113) rfl (a1.heap.size) 37 (AC 0 0 0 (tmC 0 0 0 ⟨#[]⟩ (.slice none 0 0))) (AC (er) 0 0 (tmC 0 0 0 ⟨#[]⟩ (.slice none 0 0))) K10.out.2.2.1 rfl rfl rfl (Ax rfl) (AM (AR _ _ _ _ _ _ _)) ?_);intro z9 hb hc hs;have HZ:=Ag (Ai (K10.out.1.setX (show a1.heap.size∈_ by simp) HSZ.out hc) hb);clear hb hc hs))
    refine bodyPost_ret (AA Tryz.results75 _ _ (a1.heap.size) _ _ rfl HZ.out.2 _ Tryz.underlying37 rfl (Ax rfl)) rfl ?_
    rw[HX.out]
    exact⟨_,_,_,_,cv,rfl,rfl,HALL.out,((HZ.out.1).keepoff (fun k hk=> by simp[hk])).exadd (Bm _ _)⟩
   ·have hz0:er=0:=by omega
    subst hz0
    have HX:=Ag (show SR=(⟨fs.set ix ⟨f.nm,q,f.v,f.e,f.u,f.b⟩,cv.map CirV.m,ws⟩,A1 0) from by rw[←HSR.out];unfold Bg;rw[HSK.out,if_neg (by simp),show(⟨fs,cv.map CirV.m,ws⟩:IdM).fs[ix]?=some f from HFI.out];simp only;rw[HQR.out,if_neg (by simp)])
    clear hz
    obtain⟨-,_,_,_,_,-,-,-,hth,-,-,-,-,hkp⟩:=OwnX.elF (f:=f) (by rw[HSET.out];exact HK2w.out.1) HIXL.out
    have HONQ:=Ag HK2w.out.2.2.2.2.ones
    have HTH:=Ag (show k2.there g (ix* 14+1) ((pmC q.o q.e ur uq ug):List Value).toArray.size from fun j hj=> by rw[Nat.add_assoc];exact hth (1+j) (by simp[pmC] at hj;omega))
    have HPUT:=Ag ((hkp q ur uq ug HK2w.out.2.2.2.2).keepoff (xs':=(a1.heap.size::w.heap.size::xs)) (fun k hk=> List.mem_cons_of_mem _ hk))
    clear hth hkp
    go_upto_region 23 with(first
  | (with_reducible refine Ap rfl 43 (.tmp 8) rfl (b0.heap.size) 0 rfl (pmC q.o q.e ur uq ug) _ (As HK2w.out.2.2.2.1) Tryz.underlying43 rfl (Ay _ _ _ _ _) ?_)
  | ((with_reducible refine wpList_store_mid rfl 43 (.tmp 117) (.tmp 115) rfl g (ix* 14+1) ((pmC q.o q.e ur uq ug):List Value).toArray rfl rfl HTH.out (Ay _ _ _ _ _) (all_oneCell_toArray (Bt HONQ.out.1 HONQ.out.2.1 HONQ.out.2.2)) ?_);have HY9:=Ag (show OwnX w0 m0 (a1.heap.size::w.heap.size::xs) (k2.setCells g (ix* 14+1) (pmC q.o q.e ur uq ug)) bp 97 [(.slice (some ⟨g,0,none⟩) fn cf),(.slice ac cn cc),(.slice aw wn cw)] (.slice (some ⟨g,0,none⟩) fn cf) (.slice ac cn cc) (.slice aw wn cw) (fs.set ix ⟨f.nm,q,f.v,f.e,f.u,f.b⟩) cv ws ex∧Blk (k2.setCells g (ix* 14+1) (pmC q.o q.e ur uq ug)) (w.heap.size) 31 (opC p tco)∧Blk (k2.setCells g (ix* 14+1) (pmC q.o q.e ur uq ug)) (a1.heap.size) 37 (AC 0 0 0 (tmC 0 0 0 ⟨#[]⟩ (.slice none 0 0))) from⟨HPUT.out,HK2w.out.2.1.keep (AH g _ _ _) (fun e=> (HK2w.out.1.ne (show w.heap.size∈(b0.heap.size::a1.heap.size::w.heap.size::xs) by simp)).2.1 (by rw[show w.heap.size=g from e];exact AF.2 rfl)),HK2w.out.2.2.1.keep (AH g _ _ _) (fun e=> (HK2w.out.1.ne (show a1.heap.size∈(b0.heap.size::a1.heap.size::w.heap.size::xs) by simp)).2.1 (by rw[show a1.heap.size=g from e];exact AF.2 rfl))⟩);try simp only[List.toList_toArray];generalize (k2.setCells g (ix* 14+1) (pmC q.o q.e ur uq ug))=y9 at HY9 ⊢))
    try simp only[Al,Ad,Ae,Af]
    go_wp2_with (first
  | (with_reducible refine Ba rfl rfl ?_)
  | ((with_reducible refine Ao y9 rfl 37 (.tmp 4) (.tmp 118) rfl (a1.heap.size) 37 (AC 0 0 0 (tmC 0 0 0 ⟨#[]⟩ (.slice none 0 0))) (AC 0 0 0 (tmC 0 0 0 ⟨#[]⟩ (.slice none 0 0))) HY9.out.2.2 rfl rfl rfl (Ax rfl) (AM (AR _ _ _ _ _ _ _)) ?_);intro z9 hb hc hs;have HZ:=Ag (Ai (HY9.out.1.setX (show a1.heap.size∈_ by simp) HSZ.out hc) hb);clear hb hc hs))
    refine bodyPost_ret (AA Tryz.results75 _ _ (a1.heap.size) _ _ rfl HZ.out.2 _ Tryz.underlying37 rfl (Ax rfl)) rfl ?_
    rw[HX.out]
    exact⟨_,_,_,_,cv,rfl,rfl,HALL.out,((HZ.out.1).keepoff (fun k hk=> by simp[hk])).exadd (Bm _ _)⟩
  ·skip
   have HK2:=Ag hk
   have HC0:=Ag (show(opC p tco)[0]?=some (.int .i64 6) from by show some (Value.int .i64 p.k)=_;rw[hk])
   clear hk
   have HRB:=Ag (show a1.heap.size<b0.heap.size from HEL.out.2.2.1.lt)
   have HSB:=Ag (show w0.heap.size≤b0.heap.size from HEL.out.1.ch.size)
   have c0:b3.cell? ⟨w.heap.size,0,none⟩=some (.int .i64 6):=(HB3.out.2.1.cell 0).trans HC0.out
   go_wp2_with fail
   clear c0
   go_wp2_with fail
   refine Az (fun W=> W.rangeAt bp 0 [(.slice (some ⟨g,0,none⟩) fn cf),(.slice ac cn cc),(.slice aw wn cw)]∧W.cell? ⟨w.heap.size,4,none⟩=some (.int .i64 p.g)) [0,1,2,3,4,5] 6 (by kernel_rfl) rfl (by kernel_rfl) (by kernel_rfl) ⟨As HB3.out.1.bl,HB3.out.2.1.cell 4⟩ ?_
   iterate 6(refine' AK.run ?_ ?_ ?_ ?_;rotate_left 2;(simp only[Aa,Ab,Ac];rfl);rfl;(rintro w' ⟨k0,k1⟩;first|exact AB rfl rfl k0 Tryz.underlying26 rfl (At Tryz.infoId rfl)|(go_simp;with_reducible rfl));simp only[Al,Ad,Ae,Af])
   have sm:=(Sm.refl b3).drew
   have HV12:=hJ7 (HB3.out.1.below (sm.below _)) (HB3.out.2.1.below (sm.below _) HB3.out.2.1.lt) (HB3.out.2.2.1.below (sm.below _) HB3.out.2.2.1.lt) (AD HB3.out.2.2.2.1 (sm.below _)) (HB3.out.2.2.2.2.1.below (sm.below _)) (HB3.out.2.2.2.2.2.1.below (sm.below _)) (HB3.out.2.2.2.2.2.2.below (sm.below _) HB3.out.2.2.2.2.2.2.lt)
   clear sm
   generalize b3.drew=v11 at HV12 ⊢
   refine' Ar 6 (by kernel_rfl) ?_ ?_;rotate_left;(simp only[Aa,Ab,Ac];rfl)
   try simp only[Al,Ad,Ae,Af]
   go_wp2_with fail
   refine Calls.mono (HFC.out v11 HV12.out.1.idc) ?_
   rintro e' u13 ⟨rfl,hb⟩
   have K14:=hJ7 (HV12.out.1.below hb) (HV12.out.2.1.below hb HV12.out.2.1.lt) (HV12.out.2.2.1.below hb HV12.out.2.2.1.lt) (AD HV12.out.2.2.2.1 hb) (HV12.out.2.2.2.2.1.below hb) (HV12.out.2.2.2.2.2.1.below hb) (HV12.out.2.2.2.2.2.2.below hb HV12.out.2.2.2.2.2.2.lt)
   clear hb
   go_wp2_with fail
   refine QK.normal ⟨⟨As K14.out.1.bl,K14.out.2.1.cell 4⟩,?_⟩
   refine Bi (fuel:=0) (by kernel_rfl) AG ⟨As K14.out.1.bl,K14.out.2.1.cell 4⟩ [7,8,9,10,11] _ _ (by kernel_rfl) ?_
   try simp only[Al]
   iterate 5(refine' AK.run ?_ ?_ ?_ ?_;rotate_left 2;(simp only[Aa,Ab,Ac];rfl);rfl;(rintro w' ⟨k0,k1⟩;first|exact AB rfl rfl k0 Tryz.underlying26 rfl (At Tryz.infoId rfl)|(go_simp;with_reducible rfl));simp only[Al,Ad,Ae,Af])
   refine wpAnyH_done (by kernel_rfl) ?_ _
   refine NoPanic.normal ?_
   cases is
   ·skip
    have hqe:(q,er)=(f.p,4):=by rw[←HQR.out];unfold Co;rw[if_neg (by rw[HK2.out];omega),if_neg (by rw[HK2.out];omega),if_pos HK2.out,HSC.out];rw[if_pos rfl]
    obtain⟨rfl,rfl⟩:q=f.p∧er=4:=by simpa using hqe
    have HX:=Ag (show SR=((⟨fs,cv.map CirV.m,ws⟩:IdM),A1 4) from by rw[←HSR.out];unfold Bg;rw[HSK.out,if_neg (by simp),show(⟨fs,cv.map CirV.m,ws⟩:IdM).fs[ix]?=some f from HFI.out];simp only;rw[HQR.out,if_pos (by simp)])
    clear hqe
    go_wp2_with fail
    refine(Bc (4) u13).mono ?_
    rintro e' u15 ⟨rfl,hb⟩
    have K16:=hJ7 (K14.out.1.below hb) (K14.out.2.1.below hb K14.out.2.1.lt) (K14.out.2.2.1.below hb K14.out.2.2.1.lt) (AD K14.out.2.2.2.1 hb) (K14.out.2.2.2.2.1.below hb) (K14.out.2.2.2.2.2.1.below hb) (K14.out.2.2.2.2.2.2.below hb K14.out.2.2.2.2.2.2.lt)
    clear hb
    go_wp2_with (first
  | ((with_reducible refine Ao u15 rfl 37 (.tmp 4) (.tmp 113) rfl (a1.heap.size) 37 (AC 0 0 0 (tmC 0 0 0 ⟨#[]⟩ (.slice none 0 0))) (AC (4) 0 0 (tmC 0 0 0 ⟨#[]⟩ (.slice none 0 0))) K16.out.2.2.1 rfl rfl rfl (Ax rfl) (AM (AR _ _ _ _ _ _ _)) ?_);intro z9 hb hc hs;have HZ:=Ag (Ai (K16.out.1.setX (show a1.heap.size∈_ by simp) HSZ.out hc) hb);clear hb hc hs))
    refine bodyPost_ret (AA Tryz.results75 _ _ (a1.heap.size) _ _ rfl HZ.out.2 _ Tryz.underlying37 rfl (Ax rfl)) rfl ?_
    rw[HX.out]
    exact⟨_,_,_,_,cv,rfl,rfl,HALL.out,((HZ.out.1).keepoff (fun k hk=> by simp[hk])).exadd (Bm _ _)⟩
   ·skip
    have hjl:jx<cv.length:=by
     have h:=(DM (c:=fun x:CirM=> Bx x.n p.g) (l:=cv.map CirV.m) (by rw[show AW (fun x:CirM=> Bx x.n p.g) (cv.map CirV.m)=(jx,true) from HSC.out])).1
     rw[show AW (fun x:CirM=> Bx x.n p.g) (cv.map CirV.m)=(jx,true) from HSC.out,List.length_map] at h
     exact h
    obtain⟨gc,cc',e,-⟩:=K14.out.1.rc.ptr hjl
    rw[HN.out.2.1] at e
    obtain⟨rfl,rfl⟩:ac=some ⟨gc,0,none⟩∧cc=cc':=by simpa using e
    obtain⟨-,-,ccs,-,hra,hcv,-,-⟩:=K14.out.1.rc.focus hjl
    obtain⟨hcs,-⟩:=hcv
    have y1:=hra 1 (.int .i64 cv[jx].o) (by rw[hcs];rfl)
    have HCO:=Ag (show((((⟨fs,cv.map CirV.m,ws⟩:IdM).cs)[jx]?.map CirM.o).getD 0)=cv[jx].o from by show(((cv.map CirV.m)[jx]?.map CirM.o).getD 0)=_;rw[List.getElem?_map,List.getElem?_eq_getElem hjl];rfl)
    obtain⟨cjo,hcjo⟩:∃ x,cv[jx].o=x:=⟨_,rfl⟩
    rw[hcjo] at y1 HCO
    have hjz:(jx:Int)<(cn:Int):=by have:=HN.out.2.1;omega
    have hj0:(0:Int)≤(jx:Int):=by omega
    have b1:=K14.out.1.bl.cell 1
    simp only[Ab,Ac] at b1
    have d1:u13.cell? ⟨w.heap.size,1,none⟩=some (.int .i64 p.u):=K14.out.2.1.cell 1
    clear e hra hcs hcjo hjl
    by_cases hcu:cjo=p.u
    ·have hce:(cjo==p.u)=true:=by simpa using hcu
     have hce2:(cjo !=p.u)=false:=by simpa using hcu
     have HPQ:=Ag (show Bj f.p (Cg f.p p.u p.g)=(q,er) from by rw[←HQR.out];unfold Co;rw[if_neg (by rw[HK2.out];omega),if_neg (by rw[HK2.out];omega),if_pos HK2.out,HSC.out];rw[if_neg (by simp),HCO.out,if_neg (by simpa using hcu)])
     clear hcu
     go_wp2_with fail
     go_quiet (fail)
     clear y1 b1 d1
     have sm:=((Sm.refl u13).drewN nq)
     have HQ4:=hJ7 (K14.out.1.below (sm.below _)) (K14.out.2.1.below (sm.below _) K14.out.2.1.lt) (K14.out.2.2.1.below (sm.below _) K14.out.2.2.1.lt) (AD K14.out.2.2.2.1 (sm.below _)) (K14.out.2.2.2.2.1.below (sm.below _)) (K14.out.2.2.2.2.2.1.below (sm.below _)) (K14.out.2.2.2.2.2.2.below (sm.below _) K14.out.2.2.2.2.2.2.lt)
     generalize u13.drewN nq=q4 at HQ4 ⊢
     clear sm
     have d1:q4.cell? ⟨w.heap.size,1,none⟩=some (.int .i64 p.u):=HQ4.out.2.1.cell 1
     have d4:q4.cell? ⟨w.heap.size,4,none⟩=some (.int .i64 p.g):=HQ4.out.2.1.cell 4
     go_wp2_with (first
  | (with_reducible refine Ap rfl 43 (.tmp 8) rfl (b0.heap.size) 0 rfl (pmC f.p.o f.p.e vr vq vg) _ (As HQ4.out.2.2.2.2.2.2) Tryz.underlying43 rfl (Ay _ _ _ _ _) ?_))
     refine(Gh f.p p.u p.g vr vq vg q4 HQ4.out.2.2.2.2.1.s HFP.out.1.pml).mono ?_
     rintro e' k1 ⟨ur,uq,ug,rfl,hps,hb,hab⟩
     rw[show Bj f.p (Cg f.p p.u p.g)=(q,er) from HPQ.out] at hps ⊢
     have HRL:=Ag (show a1.heap.size<b0.heap.size from HRB.out)
     have HSG:=Ag (show w0.heap.size≤b0.heap.size from HSB.out)
     have HK1:=hJ5 (HQ4.out.1.below hb) (HQ4.out.2.1.below hb HQ4.out.2.1.lt) (HQ4.out.2.2.1.below hb HQ4.out.2.2.1.lt) (HQ4.out.2.2.2.2.2.2.below hb HQ4.out.2.2.2.2.2.2.lt) (HQ4.out.1.pm hb hps hab)
     have HONK:=Ag HK1.out.2.2.2.2.ones
     clear hps hb hab d1 d4
     go_upto_region 20 with(first
  | ((with_reducible refine Ao k1 rfl 43 (.tmp 8) (.tmp 81) rfl (b0.heap.size) 43 (pmC f.p.o f.p.e vr vq vg) (pmC q.o q.e ur uq ug) HK1.out.2.2.2.1 rfl rfl rfl (Ay _ _ _ _ _) (Bt HONK.out.1 HONK.out.2.1 HONK.out.2.2) ?_);intro k2 hb hc hs;have HK2w:=Ag (show OwnX w0 m0 (b0.heap.size::a1.heap.size::w.heap.size::xs) k2 bp 97 [(.slice (some ⟨g,0,none⟩) fn cf),(.slice (some ⟨gc,0,none⟩) cn cc),(.slice aw wn cw)] (.slice (some ⟨g,0,none⟩) fn cf) (.slice (some ⟨gc,0,none⟩) cn cc) (.slice aw wn cw) fs cv ws ex∧Blk k2 (w.heap.size) 31 (opC p tco)∧Blk k2 (a1.heap.size) 37 (AC 0 0 0 (tmC 0 0 0 ⟨#[]⟩ (.slice none 0 0)))∧Blk k2 (b0.heap.size) 43 (pmC q.o q.e ur uq ug)∧PmF (Fz (b0.heap.size::a1.heap.size::w.heap.size::xs) (msL bp (.slice (some ⟨g,0,none⟩) fn cf) (.slice (some ⟨gc,0,none⟩) cn cc) (.slice aw wn cw) cv) k2) k2 q ur uq ug from⟨HK1.out.1.setX List.mem_cons_self HSG.out hc,HK1.out.2.1.keep hc (fun e=> absurd (show w.heap.size=b0.heap.size from e) (by have h1:=HRL.out;have:=HG.out;omega)),HK1.out.2.2.1.keep hc (fun e=> absurd (show a1.heap.size=b0.heap.size from e) (by have h1:=HRL.out;have:=HG.out;omega)),hb,HK1.out.2.2.2.2.fz1 hc List.mem_cons_self⟩);clear hb hc hs))
     try simp only[Al,Ad,Ae,Af]
     by_cases hz:er≠0
     ·have hze:(er==0)=false:=by simpa using hz
      have hze2:(er !=0)=true:=by simpa using hz
      have HX:=Ag (show SR=((⟨fs,cv.map CirV.m,ws⟩:IdM),A1 er) from by rw[←HSR.out];unfold Bg;rw[HSK.out,if_neg (by simp),show(⟨fs,cv.map CirV.m,ws⟩:IdM).fs[ix]?=some f from HFI.out];simp only;rw[HQR.out,if_pos hz])
      clear hz
      go_wp2_with fail
      refine(Bc (er) k2).mono ?_
      rintro e' u17 ⟨rfl,hb⟩
      have K18:=Ag (show OwnX w0 m0 (b0.heap.size::a1.heap.size::w.heap.size::xs) u17 bp 97 [(.slice (some ⟨g,0,none⟩) fn cf),(.slice (some ⟨gc,0,none⟩) cn cc),(.slice aw wn cw)] (.slice (some ⟨g,0,none⟩) fn cf) (.slice (some ⟨gc,0,none⟩) cn cc) (.slice aw wn cw) fs cv ws ex∧Blk u17 (w.heap.size) 31 (opC p tco)∧Blk u17 (a1.heap.size) 37 (AC 0 0 0 (tmC 0 0 0 ⟨#[]⟩ (.slice none 0 0)))∧Blk u17 (b0.heap.size) 43 (pmC q.o q.e ur uq ug)∧PmF (Fz (b0.heap.size::a1.heap.size::w.heap.size::xs) (msL bp (.slice (some ⟨g,0,none⟩) fn cf) (.slice (some ⟨gc,0,none⟩) cn cc) (.slice aw wn cw) cv) u17) u17 q ur uq ug from⟨(HK2w.out.1.below hb),HK2w.out.2.1.below hb HK2w.out.2.1.lt,HK2w.out.2.2.1.below hb HK2w.out.2.2.1.lt,HK2w.out.2.2.2.1.below hb HK2w.out.2.2.2.1.lt,(PmF.keep' HK2w.out.2.2.2.2 (Ch.of_below (S:=fun _=> False) hb (Ah _)) (fun _ _ e=> e) (fun k hk=> ⟨hk.1,Ak hk.2 hb.size⟩))⟩)
      clear hb
      go_wp2_with (first
  | ((with_reducible refine Ao u17 rfl 37 (.tmp 4) (.tmp 113) rfl (a1.heap.size) 37 (AC 0 0 0 (tmC 0 0 0 ⟨#[]⟩ (.slice none 0 0))) (AC (er) 0 0 (tmC 0 0 0 ⟨#[]⟩ (.slice none 0 0))) K18.out.2.2.1 rfl rfl rfl (Ax rfl) (AM (AR _ _ _ _ _ _ _)) ?_);intro z9 hb hc hs;have HZ:=Ag (Ai (K18.out.1.setX (show a1.heap.size∈_ by simp) HSZ.out hc) hb);clear hb hc hs))
      refine bodyPost_ret (AA Tryz.results75 _ _ (a1.heap.size) _ _ rfl HZ.out.2 _ Tryz.underlying37 rfl (Ax rfl)) rfl ?_
      rw[HX.out]
      exact⟨_,_,_,_,cv,rfl,rfl,HALL.out,((HZ.out.1).keepoff (fun k hk=> by simp[hk])).exadd (Bm _ _)⟩
     ·have hz0:er=0:=by omega
      subst hz0
      have HX:=Ag (show SR=(⟨fs.set ix ⟨f.nm,q,f.v,f.e,f.u,f.b⟩,cv.map CirV.m,ws⟩,A1 0) from by rw[←HSR.out];unfold Bg;rw[HSK.out,if_neg (by simp),show(⟨fs,cv.map CirV.m,ws⟩:IdM).fs[ix]?=some f from HFI.out];simp only;rw[HQR.out,if_neg (by simp)])
      clear hz
      obtain⟨-,_,_,_,_,-,-,-,hth,-,-,-,-,hkp⟩:=OwnX.elF (f:=f) (by rw[HSET.out];exact HK2w.out.1) HIXL.out
      have HONQ:=Ag HK2w.out.2.2.2.2.ones
      have HTH:=Ag (show k2.there g (ix* 14+1) ((pmC q.o q.e ur uq ug):List Value).toArray.size from fun j hj=> by rw[Nat.add_assoc];exact hth (1+j) (by simp[pmC] at hj;omega))
      have HPUT:=Ag ((hkp q ur uq ug HK2w.out.2.2.2.2).keepoff (xs':=(a1.heap.size::w.heap.size::xs)) (fun k hk=> List.mem_cons_of_mem _ hk))
      clear hth hkp
      go_upto_region 23 with(first
  | (with_reducible refine Ap rfl 43 (.tmp 8) rfl (b0.heap.size) 0 rfl (pmC q.o q.e ur uq ug) _ (As HK2w.out.2.2.2.1) Tryz.underlying43 rfl (Ay _ _ _ _ _) ?_)
  | ((with_reducible refine wpList_store_mid rfl 43 (.tmp 117) (.tmp 115) rfl g (ix* 14+1) ((pmC q.o q.e ur uq ug):List Value).toArray rfl rfl HTH.out (Ay _ _ _ _ _) (all_oneCell_toArray (Bt HONQ.out.1 HONQ.out.2.1 HONQ.out.2.2)) ?_);have HY9:=Ag (show OwnX w0 m0 (a1.heap.size::w.heap.size::xs) (k2.setCells g (ix* 14+1) (pmC q.o q.e ur uq ug)) bp 97 [(.slice (some ⟨g,0,none⟩) fn cf),(.slice (some ⟨gc,0,none⟩) cn cc),(.slice aw wn cw)] (.slice (some ⟨g,0,none⟩) fn cf) (.slice (some ⟨gc,0,none⟩) cn cc) (.slice aw wn cw) (fs.set ix ⟨f.nm,q,f.v,f.e,f.u,f.b⟩) cv ws ex∧Blk (k2.setCells g (ix* 14+1) (pmC q.o q.e ur uq ug)) (w.heap.size) 31 (opC p tco)∧Blk (k2.setCells g (ix* 14+1) (pmC q.o q.e ur uq ug)) (a1.heap.size) 37 (AC 0 0 0 (tmC 0 0 0 ⟨#[]⟩ (.slice none 0 0))) from⟨HPUT.out,HK2w.out.2.1.keep (AH g _ _ _) (fun e=> (HK2w.out.1.ne (show w.heap.size∈(b0.heap.size::a1.heap.size::w.heap.size::xs) by simp)).2.1 (by rw[show w.heap.size=g from e];exact AF.2 rfl)),HK2w.out.2.2.1.keep (AH g _ _ _) (fun e=> (HK2w.out.1.ne (show a1.heap.size∈(b0.heap.size::a1.heap.size::w.heap.size::xs) by simp)).2.1 (by rw[show a1.heap.size=g from e];exact AF.2 rfl))⟩);try simp only[List.toList_toArray];generalize (k2.setCells g (ix* 14+1) (pmC q.o q.e ur uq ug))=y9 at HY9 ⊢))
      try simp only[Al,Ad,Ae,Af]
      go_wp2_with (first
  | (with_reducible refine Ba rfl rfl ?_)
  | ((with_reducible refine Ao y9 rfl 37 (.tmp 4) (.tmp 118) rfl (a1.heap.size) 37 (AC 0 0 0 (tmC 0 0 0 ⟨#[]⟩ (.slice none 0 0))) (AC 0 0 0 (tmC 0 0 0 ⟨#[]⟩ (.slice none 0 0))) HY9.out.2.2 rfl rfl rfl (Ax rfl) (AM (AR _ _ _ _ _ _ _)) ?_);intro z9 hb hc hs;have HZ:=Ag (Ai (HY9.out.1.setX (show a1.heap.size∈_ by simp) HSZ.out hc) hb);clear hb hc hs))
      refine bodyPost_ret (AA Tryz.results75 _ _ (a1.heap.size) _ _ rfl HZ.out.2 _ Tryz.underlying37 rfl (Ax rfl)) rfl ?_
      rw[HX.out]
      exact⟨_,_,_,_,cv,rfl,rfl,HALL.out,((HZ.out.1).keepoff (fun k hk=> by simp[hk])).exadd (Bm _ _)⟩
    ·have hce:(cjo==p.u)=false:=by simpa using hcu
     have hce2:(cjo !=p.u)=true:=by simpa using hcu
     have hqe:(q,er)=(f.p,211):=by rw[←HQR.out];unfold Co;rw[if_neg (by rw[HK2.out];omega),if_neg (by rw[HK2.out];omega),if_pos HK2.out,HSC.out];rw[if_neg (by simp),HCO.out,if_pos (by simpa using hcu)]
     obtain⟨rfl,rfl⟩:q=f.p∧er=211:=by simpa using hqe
     have HX:=Ag (show SR=((⟨fs,cv.map CirV.m,ws⟩:IdM),A1 211) from by rw[←HSR.out];unfold Bg;rw[HSK.out,if_neg (by simp),show(⟨fs,cv.map CirV.m,ws⟩:IdM).fs[ix]?=some f from HFI.out];simp only;rw[HQR.out,if_pos (by simp)])
     clear hqe hcu
     go_wp2_with fail
     go_quiet (fail)
     clear y1 b1 d1
     have sm:=((Sm.refl u13).drewN nq)
     have HQ4:=hJ7 (K14.out.1.below (sm.below _)) (K14.out.2.1.below (sm.below _) K14.out.2.1.lt) (K14.out.2.2.1.below (sm.below _) K14.out.2.2.1.lt) (AD K14.out.2.2.2.1 (sm.below _)) (K14.out.2.2.2.2.1.below (sm.below _)) (K14.out.2.2.2.2.2.1.below (sm.below _)) (K14.out.2.2.2.2.2.2.below (sm.below _) K14.out.2.2.2.2.2.2.lt)
     generalize u13.drewN nq=q4 at HQ4 ⊢
     clear sm
     go_wp2_with fail
     refine(Bc (211) q4).mono ?_
     rintro e' u19 ⟨rfl,hb⟩
     have K20:=hJ7 (HQ4.out.1.below hb) (HQ4.out.2.1.below hb HQ4.out.2.1.lt) (HQ4.out.2.2.1.below hb HQ4.out.2.2.1.lt) (AD HQ4.out.2.2.2.1 hb) (HQ4.out.2.2.2.2.1.below hb) (HQ4.out.2.2.2.2.2.1.below hb) (HQ4.out.2.2.2.2.2.2.below hb HQ4.out.2.2.2.2.2.2.lt)
     clear hb
     go_wp2_with (first
  | ((with_reducible refine Ao u19 rfl 37 (.tmp 4) (.tmp 113) rfl (a1.heap.size) 37 (AC 0 0 0 (tmC 0 0 0 ⟨#[]⟩ (.slice none 0 0))) (AC (211) 0 0 (tmC 0 0 0 ⟨#[]⟩ (.slice none 0 0))) K20.out.2.2.1 rfl rfl rfl (Ax rfl) (AM (AR _ _ _ _ _ _ _)) ?_);intro z9 hb hc hs;have HZ:=Ag (Ai (K20.out.1.setX (show a1.heap.size∈_ by simp) HSZ.out hc) hb);clear hb hc hs))
     refine bodyPost_ret (AA Tryz.results75 _ _ (a1.heap.size) _ _ rfl HZ.out.2 _ Tryz.underlying37 rfl (Ax rfl)) rfl ?_
     rw[HX.out]
     exact⟨_,_,_,_,cv,rfl,rfl,HALL.out,((HZ.out.1).keepoff (fun k hk=> by simp[hk])).exadd (Bm _ _)⟩
  ·skip
   have HK2:=Ag hk
   have HC0:=Ag (show(opC p tco)[0]?=some (.int .i64 7) from by show some (Value.int .i64 p.k)=_;rw[hk])
   clear hk
   have HRB:=Ag (show a1.heap.size<b0.heap.size from HEL.out.2.2.1.lt)
   have HSB:=Ag (show w0.heap.size≤b0.heap.size from HEL.out.1.ch.size)
   have c0:b3.cell? ⟨w.heap.size,0,none⟩=some (.int .i64 7):=(HB3.out.2.1.cell 0).trans HC0.out
   have HPQ:=Ag (show Bj f.p (CO f.p p.u p.g)=(q,er) from by rw[←HQR.out];unfold Co;rw[if_neg (by rw[HK2.out];omega),if_neg (by rw[HK2.out];omega),if_neg (by rw[HK2.out];omega),if_pos HK2.out])
   have d1:b3.cell? ⟨w.heap.size,1,none⟩=some (.int .i64 p.u):=HB3.out.2.1.cell 1
   have d4:b3.cell? ⟨w.heap.size,4,none⟩=some (.int .i64 p.g):=HB3.out.2.1.cell 4
   go_wp2_with (first
  | (with_reducible refine Ap rfl 43 (.tmp 8) rfl (b0.heap.size) 0 rfl (pmC f.p.o f.p.e vr vq vg) _ (As HB3.out.2.2.2.2.2.2) Tryz.underlying43 rfl (Ay _ _ _ _ _) ?_))
   refine(GO f.p p.u p.g vr vq vg b3 HB3.out.2.2.2.2.1.s HFP.out.1.pml).mono ?_
   rintro e' k1 ⟨ur,uq,ug,rfl,hps,hb,hab⟩
   rw[show Bj f.p (CO f.p p.u p.g)=(q,er) from HPQ.out] at hps ⊢
   have HRL:=Ag (show a1.heap.size<b0.heap.size from HRB.out)
   have HSG:=Ag (show w0.heap.size≤b0.heap.size from HSB.out)
   have HK1:=hJ5 (HB3.out.1.below hb) (HB3.out.2.1.below hb HB3.out.2.1.lt) (HB3.out.2.2.1.below hb HB3.out.2.2.1.lt) (HB3.out.2.2.2.2.2.2.below hb HB3.out.2.2.2.2.2.2.lt) (HB3.out.1.pm hb hps hab)
   have HONK:=Ag HK1.out.2.2.2.2.ones
   clear hps hb hab d1 d4
   go_upto_region 20 with(first
  | ((with_reducible refine Ao k1 rfl 43 (.tmp 8) (.tmp 108) rfl (b0.heap.size) 43 (pmC f.p.o f.p.e vr vq vg) (pmC q.o q.e ur uq ug) HK1.out.2.2.2.1 rfl rfl rfl (Ay _ _ _ _ _) (Bt HONK.out.1 HONK.out.2.1 HONK.out.2.2) ?_);intro k2 hb hc hs;have HK2w:=Ag (show OwnX w0 m0 (b0.heap.size::a1.heap.size::w.heap.size::xs) k2 bp 97 [(.slice (some ⟨g,0,none⟩) fn cf),(.slice ac cn cc),(.slice aw wn cw)] (.slice (some ⟨g,0,none⟩) fn cf) (.slice ac cn cc) (.slice aw wn cw) fs cv ws ex∧Blk k2 (w.heap.size) 31 (opC p tco)∧Blk k2 (a1.heap.size) 37 (AC 0 0 0 (tmC 0 0 0 ⟨#[]⟩ (.slice none 0 0)))∧Blk k2 (b0.heap.size) 43 (pmC q.o q.e ur uq ug)∧PmF (Fz (b0.heap.size::a1.heap.size::w.heap.size::xs) (msL bp (.slice (some ⟨g,0,none⟩) fn cf) (.slice ac cn cc) (.slice aw wn cw) cv) k2) k2 q ur uq ug from⟨HK1.out.1.setX List.mem_cons_self HSG.out hc,HK1.out.2.1.keep hc (fun e=> absurd (show w.heap.size=b0.heap.size from e) (by have h1:=HRL.out;have:=HG.out;omega)),HK1.out.2.2.1.keep hc (fun e=> absurd (show a1.heap.size=b0.heap.size from e) (by have h1:=HRL.out;have:=HG.out;omega)),hb,HK1.out.2.2.2.2.fz1 hc List.mem_cons_self⟩);clear hb hc hs))
   try simp only[Al,Ad,Ae,Af]
   clear c0
   by_cases hz:er≠0
   ·have hze:(er==0)=false:=by simpa using hz
    have hze2:(er !=0)=true:=by simpa using hz
    have HX:=Ag (show SR=((⟨fs,cv.map CirV.m,ws⟩:IdM),A1 er) from by rw[←HSR.out];unfold Bg;rw[HSK.out,if_neg (by simp),show(⟨fs,cv.map CirV.m,ws⟩:IdM).fs[ix]?=some f from HFI.out];simp only;rw[HQR.out,if_pos hz])
    clear hz
    go_wp2_with fail
    refine(Bc (er) k2).mono ?_
    rintro e' u21 ⟨rfl,hb⟩
    have K22:=Ag (show OwnX w0 m0 (b0.heap.size::a1.heap.size::w.heap.size::xs) u21 bp 97 [(.slice (some ⟨g,0,none⟩) fn cf),(.slice ac cn cc),(.slice aw wn cw)] (.slice (some ⟨g,0,none⟩) fn cf) (.slice ac cn cc) (.slice aw wn cw) fs cv ws ex∧Blk u21 (w.heap.size) 31 (opC p tco)∧Blk u21 (a1.heap.size) 37 (AC 0 0 0 (tmC 0 0 0 ⟨#[]⟩ (.slice none 0 0)))∧Blk u21 (b0.heap.size) 43 (pmC q.o q.e ur uq ug)∧PmF (Fz (b0.heap.size::a1.heap.size::w.heap.size::xs) (msL bp (.slice (some ⟨g,0,none⟩) fn cf) (.slice ac cn cc) (.slice aw wn cw) cv) u21) u21 q ur uq ug from⟨(HK2w.out.1.below hb),HK2w.out.2.1.below hb HK2w.out.2.1.lt,HK2w.out.2.2.1.below hb HK2w.out.2.2.1.lt,HK2w.out.2.2.2.1.below hb HK2w.out.2.2.2.1.lt,(PmF.keep' HK2w.out.2.2.2.2 (Ch.of_below (S:=fun _=> False) hb (Ah _)) (fun _ _ e=> e) (fun k hk=> ⟨hk.1,Ak hk.2 hb.size⟩))⟩)
    clear hb
    go_wp2_with (first
  | ((with_reducible refine Ao u21 rfl 37 (.tmp 4) (.tmp 113) rfl (a1.heap.size) 37 (AC 0 0 0 (tmC 0 0 0 ⟨#[]⟩ (.slice none 0 0))) (AC (er) 0 0 (tmC 0 0 0 ⟨#[]⟩ (.slice none 0 0))) K22.out.2.2.1 rfl rfl rfl (Ax rfl) (AM (AR _ _ _ _ _ _ _)) ?_);intro z9 hb hc hs;have HZ:=Ag (Ai (K22.out.1.setX (show a1.heap.size∈_ by simp) HSZ.out hc) hb);clear hb hc hs))
    refine bodyPost_ret (AA Tryz.results75 _ _ (a1.heap.size) _ _ rfl HZ.out.2 _ Tryz.underlying37 rfl (Ax rfl)) rfl ?_
    rw[HX.out]
    exact⟨_,_,_,_,cv,rfl,rfl,HALL.out,((HZ.out.1).keepoff (fun k hk=> by simp[hk])).exadd (Bm _ _)⟩
   ·have hz0:er=0:=by omega
    subst hz0
    have HX:=Ag (show SR=(⟨fs.set ix ⟨f.nm,q,f.v,f.e,f.u,f.b⟩,cv.map CirV.m,ws⟩,A1 0) from by rw[←HSR.out];unfold Bg;rw[HSK.out,if_neg (by simp),show(⟨fs,cv.map CirV.m,ws⟩:IdM).fs[ix]?=some f from HFI.out];simp only;rw[HQR.out,if_neg (by simp)])
    clear hz
    obtain⟨-,_,_,_,_,-,-,-,hth,-,-,-,-,hkp⟩:=OwnX.elF (f:=f) (by rw[HSET.out];exact HK2w.out.1) HIXL.out
    have HONQ:=Ag HK2w.out.2.2.2.2.ones
    have HTH:=Ag (show k2.there g (ix* 14+1) ((pmC q.o q.e ur uq ug):List Value).toArray.size from fun j hj=> by rw[Nat.add_assoc];exact hth (1+j) (by simp[pmC] at hj;omega))
    have HPUT:=Ag ((hkp q ur uq ug HK2w.out.2.2.2.2).keepoff (xs':=(a1.heap.size::w.heap.size::xs)) (fun k hk=> List.mem_cons_of_mem _ hk))
    clear hth hkp
    go_upto_region 23 with(first
  | (with_reducible refine Ap rfl 43 (.tmp 8) rfl (b0.heap.size) 0 rfl (pmC q.o q.e ur uq ug) _ (As HK2w.out.2.2.2.1) Tryz.underlying43 rfl (Ay _ _ _ _ _) ?_)
  | ((with_reducible refine wpList_store_mid rfl 43 (.tmp 117) (.tmp 115) rfl g (ix* 14+1) ((pmC q.o q.e ur uq ug):List Value).toArray rfl rfl HTH.out (Ay _ _ _ _ _) (all_oneCell_toArray (Bt HONQ.out.1 HONQ.out.2.1 HONQ.out.2.2)) ?_);have HY9:=Ag (show OwnX w0 m0 (a1.heap.size::w.heap.size::xs) (k2.setCells g (ix* 14+1) (pmC q.o q.e ur uq ug)) bp 97 [(.slice (some ⟨g,0,none⟩) fn cf),(.slice ac cn cc),(.slice aw wn cw)] (.slice (some ⟨g,0,none⟩) fn cf) (.slice ac cn cc) (.slice aw wn cw) (fs.set ix ⟨f.nm,q,f.v,f.e,f.u,f.b⟩) cv ws ex∧Blk (k2.setCells g (ix* 14+1) (pmC q.o q.e ur uq ug)) (w.heap.size) 31 (opC p tco)∧Blk (k2.setCells g (ix* 14+1) (pmC q.o q.e ur uq ug)) (a1.heap.size) 37 (AC 0 0 0 (tmC 0 0 0 ⟨#[]⟩ (.slice none 0 0))) from⟨HPUT.out,HK2w.out.2.1.keep (AH g _ _ _) (fun e=> (HK2w.out.1.ne (show w.heap.size∈(b0.heap.size::a1.heap.size::w.heap.size::xs) by simp)).2.1 (by rw[show w.heap.size=g from e];exact AF.2 rfl)),HK2w.out.2.2.1.keep (AH g _ _ _) (fun e=> (HK2w.out.1.ne (show a1.heap.size∈(b0.heap.size::a1.heap.size::w.heap.size::xs) by simp)).2.1 (by rw[show a1.heap.size=g from e];exact AF.2 rfl))⟩);try simp only[List.toList_toArray];generalize (k2.setCells g (ix* 14+1) (pmC q.o q.e ur uq ug))=y9 at HY9 ⊢))
    try simp only[Al,Ad,Ae,Af]
    go_wp2_with (first
  | (with_reducible refine Ba rfl rfl ?_)
  | ((with_reducible refine Ao y9 rfl 37 (.tmp 4) (.tmp 118) rfl (a1.heap.size) 37 (AC 0 0 0 (tmC 0 0 0 ⟨#[]⟩ (.slice none 0 0))) (AC 0 0 0 (tmC 0 0 0 ⟨#[]⟩ (.slice none 0 0))) HY9.out.2.2 rfl rfl rfl (Ax rfl) (AM (AR _ _ _ _ _ _ _)) ?_);intro z9 hb hc hs;have HZ:=Ag (Ai (HY9.out.1.setX (show a1.heap.size∈_ by simp) HSZ.out hc) hb);clear hb hc hs))
    refine bodyPost_ret (AA Tryz.results75 _ _ (a1.heap.size) _ _ rfl HZ.out.2 _ Tryz.underlying37 rfl (Ax rfl)) rfl ?_
    rw[HX.out]
    exact⟨_,_,_,_,cv,rfl,rfl,HALL.out,((HZ.out.1).keepoff (fun k hk=> by simp[hk])).exadd (Bm _ _)⟩
def SeqK {α:Type} (F:Fence) (n:Nat) (P:Program) (g:Nat) (lb:Array Value) (encs:α→Array Value) (Kn:World→Prop) (Pr:List α→α→Prop) (S Sp:List α→Prop) (w:World):Prop:=
 ∀ (l:Nat) (J Jx:List α→World→Prop) (W:World),Below w.heap.size w W→
  (∀ s A B,J s A→Below A.heap.size A B→J s B)→(∀ s A B,Jx s A→Below A.heap.size A B→Jx s B)→
  (∀ pre W,J pre W→Kn W)→
  (∀ pre x W0 W1,J pre W0→Below W0.heap.size W0 W1→Pr pre x→YieldAt F (n - 1) P l (encs x) W1 fun e W'=>
   (e=.returned (.bool true)∧J (pre ++ [x]) W')∨(e=.returned (.bool false)∧Jx (pre ++ [x]) W'))→
  J [] W→
  CallsIn F n P g (#[.func (.yield l) #[] #[]] ++ lb) W fun e W'=> (∃ v,e=.returned v)∧((∃ xs,S xs∧J xs W')∨(∃ pre,Sp pre∧Jx pre W'))
theorem Cj {A B:World} (h:Below A.heap.size A B) (row:Option Nat):A.grownBy B row:=⟨h.os,h.tape,h.output,h.size,fun k hk _=> h.block k hk⟩
section
variable {F:Fence} {n:Nat} {P:Program} {ops:Array Oper} {Q:Exit→Act→World→Prop} {md:Region.Mode}
theorem Kg {o:Oper} {a:Act} {K:Act→World→Prop} (r:Result Next) (h:o.uponIn F n P a (wpListIn F n P ops (QK Q K) []) (QK Q K) r):o.uponIn F n P a K Q r:=by
 cases r with
 | ok m w=>
  cases m <;> first|exact h|(simp only[Oper.uponIn] at h ⊢;exact h)
 | halt x w=> first|exact h|(simp only[Oper.uponIn] at h ⊢;exact h)
theorem De {i:Nat} {o:Oper} {K:Act→World→Prop} {a:Act} {w:World} (hi:ops[i]?=some o) (h:wpListIn F n P ops (QK Q K) [o] a w):wpOpIn F n P ops Q i K a w:=by
 unfold wpOpIn
 simp only[hi]
 unfold wpListIn at h
 split at h
 ·rename_i hw
  rw[if_pos hw]
  exact⟨h.1,Kg _ h.2⟩
 ·rename_i hw
  rw[if_neg hw]
  exact h
theorem Aq (i:Nat) {o:Oper} {f:Nat} {l:Array Bool} {a:Act} {w:World} (hr:Region.ready md ops l=[i]) (ho:ops[i]?=some o)
  (h:wpListIn F n P ops (QK Q (wpAnyIn F n P md ops Q f (l.setIfInBounds i true))) [o] a w):wpAnyIn F n P md ops Q (f+1) l a w:=
 wpAnyIn_all hr (by simp) (fun j hj=> by
   obtain rfl:j=i:=by simpa using hj
   exact De ho h)
theorem AZ (i j:Nat) {o p:Oper} {f:Nat} {l:Array Bool} {a:Act} {w:World} (hr:Region.ready md ops l=[i,j]) (ho:ops[i]?=some o) (hp:ops[j]?=some p)
  (h:wpListIn F n P ops (QK Q (wpAnyIn F n P md ops Q f (l.setIfInBounds i true))) [o] a w) (k:wpListIn F n P ops (QK Q (wpAnyIn F n P md ops Q f (l.setIfInBounds j true))) [p] a w):wpAnyIn F n P md ops Q (f+1) l a w:=
 wpAnyIn_all hr (by simp) (fun m hm=> by
  rcases (show m=i∨m=j by simpa using hm) with rfl|rfl
  ·exact De ho h
  ·exact De hp k)
end
section
variable {F:Fence} {n:Nat} {P:Program}
theorem ER {α:Type} {g:Operand} {ps:Array Tmp} {assign body:Code} {Q:Exit→Act→World→Prop} {a:Act} {w:World}
  (hro:F.round=none) (h1:1≤n) {gf:Nat} {lb:Array Value} (hg:a.eval g=.func (.func gf) #[] lb) (hFg:F.fn gf) (eg:∀ args w,(callFunc gf args).run P w=.ok (.enter gf args) w)
  {encs:α→Array Value} {Kn:World→Prop} {Pr:List α→α→Prop} {S Sp:List α→Prop} {w0:World} (hseq:SeqK F (n - 1) P gf lb encs Kn Pr S Sp w0)
  (hb0:Below w0.heap.size w0 w) (hps:∀ x,(encs x).size=ps.size)
  (I:List α→World→Prop) (Ix:Code→List α→World→Prop) (hI:OwnFrom w.heap.size I) (hIx:∀ c,OwnFrom w.heap.size (Ix c)) (hKn:∀ pre W,I pre W→Kn W) (h0:I [] w) (a₁:α→Act)
  (hassign:∀ (l:Nat) (x:α) (W:World) (K:Act→World→Prop),K (a₁ x) W→
   assign.wpIn (F.inRound l) (n - 1 - 1) P (Exit.then K (fun _ _ _=> False)) {tmps:=(ps.zip (encs x)).foldl (fun t (p,v)=> t.setIfInBounds p v) a.tmps,defers:=[]} W)
  (hbody:∀ (l:Nat) (pre:List α) (x:α) (W0 W:World),w.heap.size<l→(∃ r,W0.heap[l]?=some (.loop r))→I pre W0→I pre W→W0.grownBy W (some l)→Pr pre x→
   body.wpIn (F.inRound l) (n - 1 - 1) P (ownPostG w.heap.size (fun _ _=> True) I Ix (pre ++ [x]) W) (a₁ x) W)
  (hdone:∀ (D:Nat) (xs:List α) (W:World),w.heap.size≤D→S xs→I xs W→W.heap[D]?=some (.deferred (some []))→Q .normal {a with defers:={target:=.collected D,args:=#[]}::a.defers} W)
  (hstop:∀ (D:Nat) (c:Code) (pre:List α) (W:World),w.heap.size≤D→Sp pre→Ix c pre W→W.heap[D]?=some (.deferred (some []))→c.wpIn F n P Q {a with defers:={target:=.collected D,args:=#[]}::a.defers} W):
  (Code.rangeFunc g ps assign body).wpIn F n P Q a w:=by
 refine wpIn_rangeFunc fun fn hfn=> ?_
 rw[hro]
 have hnew:=run_enterLoop_outer (P:=P) (w:=w) fn a.tmps ps assign body
 obtain⟨L,hL⟩:∃ L:Loop,L={state:=.ready,pending:=none,fn:=fn,tmps:=a.tmps,params:=ps,assign:=assign,body:=body,defers:=w.heap.size}:=⟨_,rfl⟩
 rw[←hL] at hnew
 have pL:L.pending=none:=by rw[hL]
 have sL:L.state=.ready:=by rw[hL]
 obtain⟨V,hV⟩:∃ V,(w.alloc (.deferred (some []))).alloc (.loop L)=V:=⟨_,rfl⟩
 rw[hV] at hnew
 have hgV:w.grownBy V none:=by rw[←hV];exact(World.grownBy_alloc w (.deferred (some [])) none).trans (World.grownBy_alloc _ (.loop L) none)
 have hloop:V.heap[w.heap.size+1]?=some (.loop L):=by
  rw[←hV]
  have h:=World.alloc_heap_new (w.alloc (.deferred (some []))) (.loop L)
  rwa [World.size_alloc] at h
 have hdef:V.heap[w.heap.size]?=some (.deferred (some [])):=by
  rw[←hV,(World.grownBy_alloc (w.alloc (.deferred (some []))) (.loop L) none).block _ (by simp) (by simp)]
  exact World.alloc_heap_new w _
 have hbV:Below w0.heap.size w0 V:=⟨hgV.os.trans hb0.os,hgV.tape.trans hb0.tape,hgV.output.trans hb0.output,Aj hb0.size hgV.size,fun k hk=> (hgV.block k (Ak hk hb0.size) (by simp)).trans (hb0.block k hk)⟩
 have none_:∀ {A:World} (r:Nat),(none:Option Nat)=some r→w.heap.size≤r∧∃ o:Obj,A.heap[r]?=some o∧o.isCells=false:=fun r e=> by cases e
 have later:∀ {A B:World} {k:Nat} {o:Obj},Below A.heap.size A B→A.heap[k]?=some o→B.heap[k]?=some o:=fun h hk=> (h.block _ (Array.getElem?_eq_some_iff.1 hk).1).trans hk
 refine⟨w.heap.size+1,_,V,{target:=.fn (.func gf) lb,args:=#[.func (.yield (w.heap.size+1)) #[] #[]]},V,gf,#[.func (.yield (w.heap.size+1)) #[] #[]] ++ lb,V,hnew,?_,?_,?_,fun _=> h1,?_⟩
 ·simp only[resolve,hg]
  simp[go_sem]
 ·intro f' hf'
  simp[Target.leads] at hf'
  subst hf'
  exact hFg
 ·simp[invoke,go_sem,eg]
 refine(hseq (w.heap.size+1)
  (fun pre W=> I pre W∧W.heap[w.heap.size+1]?=some (.loop L)∧W.heap[w.heap.size]?=some (.deferred (some [])))
  (fun pre W=> ∃ c,Ix c pre W∧W.heap[w.heap.size+1]?=some (.loop {L with state:=.done,pending:=some c})∧W.heap[w.heap.size]?=some (.deferred (some [])))
  V hbV (fun s A B h hb=> ⟨hI s A B none h.1 (Cj hb none) none_,later hb h.2.1,later hb h.2.2⟩)
  (fun s A B h hb=> by
   obtain⟨c,x,y,z⟩:=h
   exact⟨c,hIx c s A B none x (Cj hb none) none_,later hb y,later hb z⟩)
  (fun pre W h=> hKn pre W h.1) ?_ ⟨hI [] w V none h0 hgV none_,hloop,hdef⟩).mono ?_
 ·rintro pre x W0 W1 ⟨hi0,hl0,hd0⟩ hb01 hpr
  have hlt0:=(Array.getElem?_eq_some_iff.1 hl0).1
  have hl1:=later hb01 hl0
  have hd1:=later hb01 hd0
  have hlt1:=(Array.getElem?_eq_some_iff.1 hl1).1
  have hi1:I pre W1:=hI pre W0 W1 none hi0 (Cj hb01 none) none_
  have hy:=run_yield (P:=P) (args:=encs x) hl1 (by rw[hL];exact hps x)
  rw[hL] at hy
  refine⟨fn,_,assign,body,hy,roundIn_of_wpIn hfn (hassign _ x W1 _ ?_)⟩
  clear hy
  refine⟨_,run_beginRound hl1 sL,?_⟩
  obtain⟨W,hW⟩:∃ W,W1.putObj (w.heap.size+1) (.loop {L with state:=.busy})=W:=⟨_,rfl⟩
  rw[hW]
  have hg1:W1.grownBy W (some (w.heap.size+1)):=by rw[←hW];exact grownBy_putObj' _ _ _
  have hl2:W.heap[w.heap.size+1]?=some (.loop {L with state:=.busy}):=by rw[←hW];exact World.putObj_heap_same hlt1
  have hd2:W.heap[w.heap.size]?=some (.deferred (some [])):=(hg1.block _ (by omega) (fun e=> by injection e with e;omega)).trans hd1
  have hrow:∀ r,some (w.heap.size+1)=some r→w.heap.size≤r∧∃ o:Obj,W1.heap[r]?=some o∧o.isCells=false:=fun r e=> by cases e;exact⟨by omega,_,hl1,rfl⟩
  have hi2:I pre W:=hI pre W1 W _ hi1 hg1 hrow
  have hg0:W0.grownBy W (some (w.heap.size+1)):=(Cj hb01 _).trans hg1
  refine wpIn_mono (hbody _ pre x W0 W (by omega) ⟨_,hl0⟩ hi0 hi2 hg0 hpr) ?_
  have shut:∀ (c:Option Code) (Z:World),KeepsFrom w.heap.size W Z→
    (Instr.endRound (w.heap.size+1) c).run P Z=.ok (.bool c.isNone) (Z.putObj (w.heap.size+1) (.loop {L with state:=if c.isNone then .ready else .done,pending:=c}))∧
    Z.heap[w.heap.size+1]?=some (.loop {L with state:=.busy})∧
    (Z.putObj (w.heap.size+1) (.loop {L with state:=if c.isNone then .ready else .done,pending:=c})).heap[w.heap.size]?=some (.deferred (some [])):=fun c Z hk=> by
   have hl3:=hk.same _ _ (by omega) hl2 rfl
   have hr3:=run_endRound (P:=P) (r:={L with state:=.busy}) c hl3
   exact⟨hr3,hl3,(World.putObj_heap_other (by omega)).trans (hk.same _ _ (Ah _) hd2 rfl)⟩
  have back:∀ (c:Code) (Z:World),KeepsFrom w.heap.size W Z→Ix c (pre ++ [x]) Z→∃ v Z',(Instr.endRound (w.heap.size+1) (some c)).run P Z=.ok v Z'∧v=.bool false∧∃ c,Ix c (pre ++ [x]) Z'∧Z'.heap[w.heap.size+1]?=some (.loop {L with state:=.done,pending:=some c})∧Z'.heap[w.heap.size]?=some (.deferred (some [])):=fun c Z hk hx=> by
   obtain⟨hr,hl3,hd3⟩:=shut (some c) Z hk
   exact⟨_,_,hr,rfl,c,(hIx c).putObj _ hx (by omega) hl3 rfl,World.putObj_heap_same (Array.getElem?_eq_some_iff.1 hl3).1,hd3⟩
  rintro e a3 Z hp
  cases e with
  | normal=>
   obtain⟨hk,hkp,hi3⟩:=hp
   obtain⟨hr,hl3,hd3⟩:=shut none Z hk
   have hes:({L with state:=.ready,pending:=none}:Loop)=L:=by rw[hL]
   refine⟨_,_,hr,.inl ⟨rfl,⟨hI.putObj _ hi3 (by omega) hl3 rfl,?_,hd3⟩⟩⟩
   refine(World.putObj_heap_same (Array.getElem?_eq_some_iff.1 hl3).1).trans ?_
   exact congrArg (fun y=> some (Obj.loop y)) hes
  | ret=>
   obtain⟨v,Z',hr,rfl,h⟩:=back .ret Z hp.1 hp.2
   exact⟨_,_,hr,.inr ⟨rfl,h⟩⟩
  | exit id=>
   obtain⟨v,Z',hr,rfl,h⟩:=back (.exit id) Z hp.1 hp.2
   exact⟨_,_,hr,.inr ⟨rfl,h⟩⟩
  | goto t=>
   obtain⟨v,Z',hr,rfl,h⟩:=back (.goto t) Z hp.1 hp.2
   exact⟨_,_,hr,.inr ⟨rfl,h⟩⟩
  | panic ch=> exact hp.elim
  | outgrown=> exact hp.elim
 ·rintro e Z ⟨⟨v,rfl⟩,(⟨xs,hS,hi,hl,hd⟩|⟨pre,hSp,c,hi,hl,hd⟩)⟩
  ·have hr:=run_endLoop (P:=P) hl (by rw[sL];simp)
   rw[pL] at hr
   exact⟨none,_,hr,hdone _ xs _ (Ah _) hS (hI.putObj _ hi (by omega) hl rfl) ((World.putObj_heap_other (by omega)).trans hd)⟩
  ·exact⟨some c,_,run_endLoop (P:=P) hl (by simp),hstop _ c pre _ (Ah _) hSp ((hIx c).putObj _ hi (by omega) hl rfl) ((World.putObj_heap_other (by omega)).trans hd)⟩
end
end Go.Proofs.YtgdlfiphihaooaaGreat

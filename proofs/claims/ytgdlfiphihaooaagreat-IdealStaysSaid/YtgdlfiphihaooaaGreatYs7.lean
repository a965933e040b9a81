import Derived.Test.YtgdlfiphihaooaaGreatYs6
set_option linter.unusedSimpArgs false
set_option linter.unusedVariables false
set_option maxRecDepth 100000
set_option maxHeartbeats 8000000
open _root_.List renaming getElem?_toArray→Aa,getElem?_cons_zero→Ab,getElem?_cons_succ→Ac,setIfInBounds_toArray→Ad,set_cons_zero→Ae,set_cons_succ→Af
open _root_.Go.Lib renaming hid→Ag
open _root_.Nat renaming le_refl→Ah,le_trans→Aj,lt_of_lt_of_le→Ak
open _root_.And renaming intro→Ai
open _root_.Go.Act renaming put→Al
namespace Go.Proofs.YtgdlfiphihaooaaGreat
open Go Go.RowKit
theorem Tryz.zeroCi:∀ w,(zeroValue 49).run Tryz.prog w=.ok (.agg (ciC 0 0 (.slice none 0 0)).toArray) w:=fun w=> by kernel_rfl
theorem Tryz.zeroFl:∀ w,(zeroValue 45).run Tryz.prog w=.ok (.agg (flC ⟨#[]⟩ 0 0 (.slice none 0 0) (.slice none 0 0) (.slice none 0 0) 0 0 0 (tmC 0 0 0 ⟨#[]⟩ (.slice none 0 0))).toArray) w:=fun w=> by kernel_rfl
def Bz (s:IdM) (n:Int):Nat × Bool:=AW (fun x=> Bx x.n n) s.cs
def Dx (s:IdM) (o n:Int):Bool:=(Bz s n).2 && (((s.cs[(Bz s n).1]?.map CirM.o).getD 0)==o)
def Dg (s:IdM) (f:FileM):Bool:=(okB f.p && ((BE f.nm==f.p.o) && (decide (f.e≤f.p.e) && wrB (BO f)))) && f.p.g.all (Dx s f.p.o)
def Hm (s:IdM):Bool:=decide (s.fs.length≤6) && decide (s.ws.length≤400)
def upB (s:IdM):Bool:=BC (fun x y:FileM=> geS x.nm y.nm) s.fs && BC (fun x y:CirM=> geN x.n y.n) s.cs
def D0 (s:IdM):Bool:=(((Hm s && upB s) && s.cs.all Ek) && s.fs.all (Dg s)) && s.ws.all wrB
theorem DM {α:Type} {c:α→Int} {l:List α} (h:(AW c l).2=true):(AW c l).1<l.length∧C6 c l (AW c l).1=0:=by
 unfold AW at h ⊢
 simp only[Bool.and_eq_true,decide_eq_true_eq,beq_iff_eq] at h
 exact h
theorem C7 (s:IdM) (cs:List Value) (F:Nat→Prop) (w:World) (hs:IdC F w cs s) (hl:s.cs.length≤1000000000):
  Calls Tryz.prog 16 #[.agg cs.toArray] w (fun e w'=> e=.returned (.int .i64 (if D0 s=true then 0 else 282))∧Below w.heap.size w w'):=by
 have HID:=Ag (Ai hs hl)
 obtain⟨vf,vc,vw,rfl,hf,hc,hw⟩:=hs
 obtain⟨fa,fq,rfl,f2,f3⟩:=RwC.shape hf
 obtain⟨ca,cq,rfl,c2,c3⟩:=RwC.shape hc
 obtain⟨wa,wq,rfl,w2,w3⟩:=RwC.shape hw
 have HF:=Ag (show RwC (FlC F) 14 F w (.slice fa s.fs.length fq) s.fs from hf)
 have HC:=Ag (show RwC (CiC F) 3 F w (.slice ca s.cs.length cq) s.cs from hc)
 have HW:=Ag (show RwC (WrC F) 9 F w (.slice wa s.ws.length wq) s.ws from hw)
 obtain⟨R,hR⟩:∃ R:Int,(if D0 s=true then 0 else 282)=R:=⟨_,rfl⟩
 rw[hR]
 have HR:=Ag hR
 obtain⟨fn,hfn⟩:∃ n,s.fs.length=n:=⟨_,rfl⟩
 obtain⟨cn,hcn⟩:∃ n,s.cs.length=n:=⟨_,rfl⟩
 obtain⟨wn,hwn⟩:∃ n,s.ws.length=n:=⟨_,rfl⟩
 have HN:=Ag (Ai hfn (Ai hcn hwn))
 have hb1:fn≤9223372036854775807:=by unfold maxLen at f3;omega
 have hb2:cn≤9223372036854775807:=by unfold maxLen at c3;omega
 have hb3:wn≤9223372036854775807:=by unfold maxLen at w3;omega
 rw[hfn] at HF f2
 rw[hcn] at HC c2
 rw[hwn] at HW w2
 rw[hfn,hcn,hwn] at HID ⊢
 clear hf hc hw hl hR hfn hcn hwn f3 c3 w3
 obtain⟨ics,hics⟩:∃ l:List Value,[.slice fa fn fq,.slice ca cn cq,.slice wa wn wq]=l:=⟨_,rfl⟩
 have HIC:=Ag (show ics[0]?=some (.slice fa fn fq)∧ics[1]?=some (.slice ca cn cq)∧ics[2]?=some (.slice wa wn wq)∧ics.length=3 from by rw[←hics];exact⟨rfl,rfl,rfl,rfl⟩)
 rw[hics] at HID ⊢
 clear hics
 have H0:=Ag (Below.refl w.heap.size w)
 go_enter Tryz.func16,Tryz.ntmps16
 go_upto_region 1 with(first
  | ((with_reducible refine Au w rfl 26 (.tmp 0) rfl (ics) rfl ?_);intro a1 hb hbel hsz;have H1:=hJ2 (An H0.out hbel (Ah _)) hb;clear hb hbel hsz))
 have x0:=H1.out.2.cell 0;have x1:=H1.out.2.cell 1;have x2:=H1.out.2.cell 2;rw[HIC.out.1] at x0;rw[HIC.out.2.1] at x1;rw[HIC.out.2.2.1] at x2
 go_cut [3] from 14 to 130 (fun s3 wc=> s3=.bool (Hm s)∧a1=wc)
 case first=>
  have hlb:Hm s=(decide (fn≤6) && decide (wn≤400)):=by unfold Hm;rw[HN.out.1,HN.out.2.2]
  have HLB:=Ag hlb
  clear hlb
  by_cases q0:(fn:Int)≤6
  ·by_cases q1:(wn:Int)≤400
   ·have HE:=Ag (show Hm s=true from by rw[HLB.out,decide_eq_true (show fn≤6 by omega),decide_eq_true (show wn≤400 by omega)];rfl)
    go_wp2_with fail
    go_meet
    exact⟨by rw[HE.out],rfl⟩
   ·have HE:=Ag (show Hm s=false from by rw[HLB.out,decide_eq_false (show ¬ wn≤400 by omega),Bool.and_false])
    go_wp2_with fail
    go_meet
    exact⟨by rw[HE.out],rfl⟩
  ·have HE:=Ag (show Hm s=false from by rw[HLB.out,decide_eq_false (show ¬ fn≤6 by omega),Bool.false_and])
   go_wp2_with fail
   go_meet
   exact⟨by rw[HE.out],rfl⟩
 case rest=>
  obtain⟨rfl,rfl⟩:=hcut
  generalize hlb:Hm s=lb
  have HLB:=Ag hlb
  clear hlb
  have HRF:=Ag (fun W (h:Below w.heap.size w W)=> show RwF F W (.slice fa fn fq) s.fs from by have h2:=HF.out;rw[←HN.out.1] at h2 ⊢;exact RwF.below (F:=F) h2 h)
  have HRC:=Ag (fun W (h:Below w.heap.size w W)=> show RwI F W (.slice ca cn cq) s.cs from by have h2:=HC.out;rw[←HN.out.2.1] at h2 ⊢;exact RwI.below (F:=F) h2 h)
  obtain⟨uf,huf⟩:∃ b,BC (fun x y:FileM=> geS x.nm y.nm) s.fs=b:=⟨_,rfl⟩
  obtain⟨uc,huc⟩:∃ b,BC (fun x y:CirM=> geN x.n y.n) s.cs=b:=⟨_,rfl⟩
  have HU:=Ag (Ai huf huc)
  have HUB:=Ag (show upB s=(uf && uc) from by unfold upB;rw[huf,huc])
  clear huf huc
  go_upto_region 2 with fail
  go_cut [3] from 24 to 130 (fun s3 wc=> s3=.bool (lb && upB s)∧Hid (Below w.heap.size w wc∧Blk wc w.heap.size 26 (ics)))
  case first=>
   cases lb
   ·go_wp2_with fail
    go_meet
    exact⟨rfl,H1⟩
   ·go_wp2_with fail
    refine Calls.mono (Jb _ s.fs F a1 (HRF.out a1 H1.out.1)) ?_
    rintro e' a2 ⟨rfl,hb⟩
    have H2:=hJ2 (An H1.out.1 hb (Ah _)) (H1.out.2.below hb H1.out.2.lt)
    clear hb x0 x1 x2
    have x0:=H2.out.2.cell 0;have x1:=H2.out.2.cell 1;have x2:=H2.out.2.cell 2;rw[HIC.out.1] at x0;rw[HIC.out.2.1] at x1;rw[HIC.out.2.2.1] at x2
    rw[HU.out.1]
    cases uf
    ·go_wp2_with fail
     go_meet
     exact⟨by rw[HUB.out];rfl,H2⟩
    ·go_wp2_with fail
     refine Calls.mono (Jc _ s.cs F a2 (HRC.out a2 H2.out.1)) ?_
     rintro e' a3 ⟨rfl,hb⟩
     have H3:=hJ2 (An H2.out.1 hb (Ah _)) (H2.out.2.below hb H2.out.2.lt)
     clear hb x0 x1 x2
     have x0:=H3.out.2.cell 0;have x1:=H3.out.2.cell 1;have x2:=H3.out.2.cell 2;rw[HIC.out.1] at x0;rw[HIC.out.2.1] at x1;rw[HIC.out.2.2.1] at x2
     rw[HU.out.2]
     go_wp2_with fail
     go_meet
     exact⟨by rw[HUB.out];rfl,H3⟩
  case rest=>
   obtain⟨rfl,HD⟩:=hcut
   generalize hlu:(lb && upB s)=lu
   have HLU:=Ag hlu
   clear hlu x0 x1 x2 H1 HU HUB
   have x0:=HD.out.2.cell 0;have x1:=HD.out.2.cell 1;have x2:=HD.out.2.cell 2;rw[HIC.out.1] at x0;rw[HIC.out.2.1] at x1;rw[HIC.out.2.2.1] at x2
   obtain⟨R1,hR1⟩:∃ b,(lu && s.cs.all Ek)=b:=⟨_,rfl⟩
   have HR1:=Ag hR1
   clear hR1
   go_wp2_with fail
   clear x0 x1 x2
   go_loopw [3,5,38] (fun s3 s5 s38 wr=> ∃ (k:Nat) (b:Bool),s3=.bool b∧s38=.int .i64 k∧k≤cn∧Hid ((b && (s.cs.drop k).all Ek)=R1)∧Hid (Below w.heap.size w wr∧Blk wr w.heap.size 26 (ics))) (fun _ _ s38 _=> cn - (intOf s38).toNat)
   case atStart=> exact⟨0,lu,rfl,rfl,Nat.zero_le _,Ag HR1.out,HD⟩
   case round=>
    clear HD
    obtain⟨k,ok,rfl,rfl,hk,HT,HG⟩:=hrel
    by_cases hlt:k<cn
    ·have hkl:k<s.cs.length:=by rw[HN.out.2.1];exact hlt
     have hklz:(k:Int)<(cn:Int):=by omega
     have hk0:(0:Int)≤(k:Int):=by omega
     obtain⟨b,o,cs,rfl,-,-,hlen,hra,hta⟩:=RwC.get HC.out hkl
     have HT2:=Ag (show(ok && (Ek s.cs[k] && (s.cs.drop (k+1)).all Ek))=R1 from by rw[←HT.out,List.drop_eq_getElem_cons hkl,List.all_cons])
     generalize s.cs[k]=y at hta HT2
     have HRA:=Ag (Ai hra hlen)
     have HTA:=Ag hta
     have HRA2:=Ag hta.one
     have HZL:=Ag (show cs.length=(ciC 0 0 (.slice none 0 0)).length from hlen)
     clear hra hlen hta
     cases ok
     ·go_wp2_with (first
  | (with_reducible refine Ap rfl 49 (.tmp 40) rfl b (o+k* 3) rfl cs _ (AD HRA.out.1 HG.out.1) Tryz.underlying49 rfl (At Tryz.infoCi HRA.out.2) ?_)
  | ((with_reducible refine Av wr rfl 49 rfl (ciC 0 0 (.slice none 0 0)) Tryz.zeroCi ?_);intro d1 hb hbel hsz;have HD1:=hJ3 (An HG.out.1 hbel (Ah _)) (HG.out.2.below hbel HG.out.2.lt) hb;have HBL:=Ag hbel;clear hb hbel hsz)
  | ((with_reducible refine Ao d1 rfl 49 (.tmp 5) (.tmp 41) rfl wr.heap.size 49 (ciC 0 0 (.slice none 0 0)) (cs) HD1.out.2.2 rfl rfl (HZL.out) (At Tryz.infoCi HRA.out.2) (HRA2.out) ?_);intro d2 hb hc hs;have hbw:Below wr.heap.size wr d2:=Aw HBL.out hc (Ah _) (fun k hk=> by have e:k=wr.heap.size:=hk;omega);have HD2:=Ag (show Below w.heap.size w d2∧Blk d2 w.heap.size 26 (ics)∧Blk d2 wr.heap.size 49 (cs) from⟨An HG.out.1 hbw (Ah _),HG.out.2.below hbw HG.out.2.lt,hb⟩);clear hb hc hs hbw))
      go_roundw
      case measure=> simp[intOf];omega
      case rel=> exact⟨k+1,false,rfl,by go_num,by omega,Ag (by rw[←HT2.out,Bool.false_and,Bool.false_and]),Ag ⟨HD2.out.1,HD2.out.2.1⟩⟩
     ·go_wp2_with (first
  | (with_reducible refine Ap rfl 49 (.tmp 40) rfl b (o+k* 3) rfl cs _ (AD HRA.out.1 HG.out.1) Tryz.underlying49 rfl (At Tryz.infoCi HRA.out.2) ?_)
  | ((with_reducible refine Av wr rfl 49 rfl (ciC 0 0 (.slice none 0 0)) Tryz.zeroCi ?_);intro d1 hb hbel hsz;have HD1:=hJ3 (An HG.out.1 hbel (Ah _)) (HG.out.2.below hbel HG.out.2.lt) hb;have HBL:=Ag hbel;clear hb hbel hsz)
  | ((with_reducible refine Ao d1 rfl 49 (.tmp 5) (.tmp 41) rfl wr.heap.size 49 (ciC 0 0 (.slice none 0 0)) (cs) HD1.out.2.2 rfl rfl (HZL.out) (At Tryz.infoCi HRA.out.2) (HRA2.out) ?_);intro d2 hb hc hs;have hbw:Below wr.heap.size wr d2:=Aw HBL.out hc (Ah _) (fun k hk=> by have e:k=wr.heap.size:=hk;omega);have HD2:=Ag (show Below w.heap.size w d2∧Blk d2 w.heap.size 26 (ics)∧Blk d2 wr.heap.size 49 (cs) from⟨An HG.out.1 hbw (Ah _),HG.out.2.below hbw HG.out.2.lt,hb⟩);clear hb hc hs hbw)
  | (with_reducible refine Ap rfl 49 (.tmp 5) rfl wr.heap.size 0 rfl cs _ (As HD2.out.2.2) Tryz.underlying49 rfl (At Tryz.infoCi HRA.out.2) ?_))
      refine(Ij y cs F d2 (HTA.out.below HD2.out.1)).mono ?_
      rintro e' d3 ⟨rfl,hb⟩
      have HD3:=hJ3 (An HD2.out.1 hb (Ah _)) (HD2.out.2.1.below hb HD2.out.2.1.lt) (HD2.out.2.2.below hb HD2.out.2.2.lt)
      clear hb
      go_wp2_with fail
      go_roundw
      case measure=> simp[intOf];omega
      case rel=> exact⟨k+1,Ek y,rfl,by go_num,by omega,Ag (by rw[←HT2.out,Bool.true_and]),Ag ⟨HD3.out.1,HD3.out.2.1⟩⟩
    ·have hge:¬ (k:Int)<(cn:Int):=by omega
     have HE1:=Ag (show ok=R1 from by rw[←HT.out,List.drop_of_length_le (by rw[HN.out.2.1];omega),List.all_nil,Bool.and_true])
     rw[HE1.out]
     have x0:=HG.out.2.cell 0;have x1:=HG.out.2.cell 1;have x2:=HG.out.2.cell 2;rw[HIC.out.1] at x0;rw[HIC.out.2.1] at x1;rw[HIC.out.2.2.1] at x2
     obtain⟨R2,hR2⟩:∃ b,(R1 && s.fs.all (Dg s))=b:=⟨_,rfl⟩
     have HR2:=Ag hR2
     clear hR2
     go_wp2_with fail
     clear x0 x1 x2
     go_loopw [3,7,9,10,11,51] (fun s3 s7 s9 s10 s11 s51 wr=> ∃ (k:Nat) (b:Bool),s3=.bool b∧s51=.int .i64 k∧k≤fn∧Hid ((b && (s.fs.drop k).all (Dg s))=R2)∧Hid (Below w.heap.size w wr∧Blk wr w.heap.size 26 (ics))) (fun _ _ _ _ _ s51 _=> fn - (intOf s51).toNat)
     case atStart=> exact⟨0,R1,rfl,rfl,Nat.zero_le _,Ag HR2.out,HG⟩
     case round=>
      clear HG HT
      have HR2':=HR2
      clear HR2
      obtain⟨k,ok,rfl,rfl,hk,HT,HG2⟩:=hrel
      by_cases hlt:k<fn
      ·have hkl:k<s.fs.length:=by rw[HN.out.1];exact hlt
       have hklz:(k:Int)<(fn:Int):=by omega
       have hk0:(0:Int)≤(k:Int):=by omega
       obtain⟨b,o,fcs,rfl,-,-,hlen,hra,hta⟩:=RwC.get HF.out hkl
       have HT2:=Ag (show(ok && (Dg s s.fs[k] && (s.fs.drop (k+1)).all (Dg s)))=R2 from by rw[←HT.out,List.drop_eq_getElem_cons hkl,List.all_cons])
       generalize s.fs[k]=f at hta HT2
       have HFR:=Ag hra
       have HFL:=Ag (Ai hlen (Ai (show fcs.length=(flC ⟨#[]⟩ 0 0 (.slice none 0 0) (.slice none 0 0) (.slice none 0 0) 0 0 0 (tmC 0 0 0 ⟨#[]⟩ (.slice none 0 0))).length from hlen) hta.one))
       obtain⟨vr,vq,vg,tc,hcs,hpf,htm⟩:=hta
       obtain⟨ga,gq,rfl,g2,g3,-⟩:=hpf.2.2.1.nums
       have HFC:=Ag (show fcs[0]?=some (.string f.nm)∧fcs[1]?=some (.int .i64 f.p.o)∧fcs[2]?=some (.int .i64 f.p.e)∧fcs[5]?=some (.slice ga f.p.g.length gq)∧fcs[7]?=some (.int .i64 f.e) from by rw[hcs];exact⟨rfl,rfl,rfl,rfl,rfl⟩)
       have HFE:=Ag hcs
       have HPF:=Ag (Ai hpf htm)
       obtain⟨gn,hgn⟩:∃ n,f.p.g.length=n:=⟨_,rfl⟩
       have HGN:=Ag hgn
       rw[hgn] at HFC HFE HPF g2
       clear hra hlen hcs hpf htm hgn
       obtain⟨B,hB⟩:∃ b,(ok && (okB f.p && ((BE f.nm==f.p.o) && (decide (f.e≤f.p.e) && wrB (BO f)))))=b:=⟨_,rfl⟩
       have HB:=Ag hB
       have HT3:=Ag (show((B && f.p.g.all (Dx s f.p.o)) && (s.fs.drop (k+1)).all (Dg s))=R2 from by rw[←HT2.out,←hB];unfold Dg;simp only[Bool.and_assoc])
       clear hB HT HT2
       go_upto_region 11 with(first
  | (with_reducible refine Ap rfl 45 (.tmp 53) rfl b (o+k* 14) rfl fcs _ (AD HFR.out HG2.out.1) Tryz.underlying45 rfl (At Tryz.infoFl HFL.out.1) ?_)
  | ((with_reducible refine Av wr rfl 45 rfl (flC ⟨#[]⟩ 0 0 (.slice none 0 0) (.slice none 0 0) (.slice none 0 0) 0 0 0 (tmC 0 0 0 ⟨#[]⟩ (.slice none 0 0))) Tryz.zeroFl ?_);intro d1 hb hbel hsz;have HD1:=hJ3 (An HG2.out.1 hbel (Ah _)) (HG2.out.2.below hbel HG2.out.2.lt) hb;have HBL:=Ag hbel;clear hb hbel hsz)
  | ((with_reducible refine Ao d1 rfl 45 (.tmp 7) (.tmp 54) rfl wr.heap.size 45 (flC ⟨#[]⟩ 0 0 (.slice none 0 0) (.slice none 0 0) (.slice none 0 0) 0 0 0 (tmC 0 0 0 ⟨#[]⟩ (.slice none 0 0))) (fcs) HD1.out.2.2 rfl rfl (HFL.out.2.1) (At Tryz.infoFl HFL.out.1) (HFL.out.2.2) ?_);intro d2 hb hc hs;have hbw:Below wr.heap.size wr d2:=Aw HBL.out hc (Ah _) (fun k hk=> by have e:k=wr.heap.size:=hk;omega);have HD2:=Ag (show Below w.heap.size w d2∧Blk d2 w.heap.size 26 (ics)∧Blk d2 wr.heap.size 45 (fcs) from⟨An HG2.out.1 hbw (Ah _),HG2.out.2.below hbw HG2.out.2.lt,hb⟩);clear hb hc hs hbw))
       have y0:=HD2.out.2.2.cell 0;have y1:=HD2.out.2.2.cell 1;have y2:=HD2.out.2.2.cell 2;have y7:=HD2.out.2.2.cell 7;rw[HFC.out.1] at y0;rw[HFC.out.2.1] at y1;rw[HFC.out.2.2.1] at y2;rw[HFC.out.2.2.2.2] at y7
       simp only[Al,Ad,Ae,Af]
       go_cut [3] from 55 to 115 (fun s3 wc=> s3=.bool B∧Hid (Below w.heap.size w wc∧Blk wc w.heap.size 26 (ics)∧Blk wc wr.heap.size 45 (fcs)))
       case first=>
        obtain⟨b1,hb1⟩:∃ b,okB f.p=b:=⟨_,rfl⟩
        obtain⟨nu,hnu⟩:∃ b,BE f.nm=b:=⟨_,rfl⟩
        obtain⟨b4,hb4⟩:∃ b,wrB (BO f)=b:=⟨_,rfl⟩
        have C1:=Ag (fun x=> show Calls Tryz.prog 28 #[.agg (pmC f.p.o f.p.e vr vq (.slice ga gn gq)).toArray] (Bf d2 x) (fun e w'=> e=.returned (.int .i64 (if b1=true then 0 else 210))∧Below (Bf d2 x).heap.size (Bf d2 x) w') from EC f.p b1 hb1 _ _ _ (Bf d2 x) (((HPF.out.1.below HD2.out.1).below (AN d2 x)).s))
        have C2:=Ag (fun x=> show Calls Tryz.prog 36 #[.string f.nm] (Bf d2 x) (fun e w'=> e=.returned (.int .i64 nu)∧Below (Bf d2 x).heap.size (Bf d2 x) w') from by have h:=Eb f.nm (Bf d2 x);rw[hnu] at h;exact h)
        have C3:=Ag (fun x=> show Calls Tryz.prog 38 #[.agg fcs.toArray] (Bf d2 x) (fun e w'=> e=.returned (.agg (wrC f.nm f.v f.e f.u tc).toArray)∧Below (Bf d2 x).heap.size (Bf d2 x) w') from by rw[HFE.out];exact EL f _ _ _ tc F (Bf d2 x) ((HPF.out.2.below HD2.out.1).below (AN d2 x)))
        have C4:=Ag (fun x=> show Calls Tryz.prog 37 #[.agg (wrC f.nm f.v f.e f.u tc).toArray] (Bf d2 x) (fun e w'=> e=.returned (.bool b4)∧Below (Bf d2 x).heap.size (Bf d2 x) w') from by have h:=Fx (BO f) (wrC f.nm f.v f.e f.u tc) F (Bf d2 x) ⟨tc,rfl,(HPF.out.2.below HD2.out.1).below (AN d2 x)⟩;rw[hb4] at h;exact h)
        have HRG:=Ag (show d2.rangeAt wr.heap.size 1 (pmC f.p.o f.p.e vr vq (.slice ga gn gq))∧d2.rangeAt wr.heap.size 0 fcs from⟨fun j x hx=> by rw[HD2.out.2.2.cell,HFE.out,show 1+j=j+1 by omega];match j,hx with|0,hx=> exact hx|1,hx=> exact hx|2,hx=> exact hx|3,hx=> exact hx|4,hx=> exact hx,Ie HD2.out.2.2⟩)
        obtain⟨po,hpo⟩:∃ b,f.p.o=b:=⟨_,rfl⟩
        obtain⟨pe,hpe⟩:∃ b,f.p.e=b:=⟨_,rfl⟩
        obtain⟨fe,hfe⟩:∃ b,f.e=b:=⟨_,rfl⟩
        have HB2:=Ag (show(ok && (b1 && ((nu==po) && (decide (fe≤pe) && b4))))=B from by rw[←HB.out,hb1,hnu,hb4,hpo,hpe,hfe])
        rw[hpo,hpe] at HRG C1
        rw[hpo] at y1
        rw[hpe] at y2
        rw[hfe] at y7
        obtain⟨b2,hb2'⟩:∃ b,(nu==po)=b:=⟨_,rfl⟩
        obtain⟨b3,hb3'⟩:∃ b,decide (fe≤pe)=b:=⟨_,rfl⟩
        rw[hb2',hb3'] at HB2
        generalize f.nm=fnm at y0 C2 C3 C4
        clear hb1 hnu hb4 hpo hpe hfe
        replace y0:=fun q=> AS y0 q
        replace y1:=fun q=> AS y1 q
        replace y2:=fun q=> AS y2 q
        replace y7:=fun q=> AS y7 q
        cases ok
        ·have HX:=Ag (show B=false from by rw[←HB2.out];rfl)
         go_wp2_with fail
         refine A3 (by kernel_rfl) (by kernel_rfl) ?_
         repeat (first|go_big_quiet_skip|(go_big_quiet_want;(first|(refine A0 43 (.tmp 57) rfl wr.heap.size 1 rfl (pmC po pe vr vq (.slice ga gn gq)) _ (fun w' hw'=> A6 HRG.out.1 w' hw') Tryz.underlying43 rfl (Ay _ _ _ _ _) ?_;go_simp;go_big_quiet_on)|(refine A0 45 (.tmp 7) rfl wr.heap.size 0 rfl fcs _ (fun w' hw'=> A6 HRG.out.2 w' hw') Tryz.underlying45 rfl (At Tryz.infoFl HFL.out.1) ?_;go_simp;go_big_quiet_on)|(go_big_quiet_op;(first|go_big_quiet_on|(apply Exists.intro;refine⟨fun _=> ?_,?_⟩;(focus (first|(go_at_call 28;with_reducible exact AT (C1.out _))|(go_at_call 36;with_reducible exact AT (C2.out _))|(go_at_call 38;with_reducible exact AT (C3.out _))|(go_at_call 37;with_reducible exact AT (C4.out _))));go_big_quiet_on))))))
         refine wpQuiet_nil ?_
         intro w9 hw9
         obtain⟨x9,rfl⟩:=hw9
         go_wp2_with fail
         go_meet
         exact⟨by rw[HX.out],Ag ⟨An HD2.out.1 (AN d2 x9) (Ah _),HD2.out.2.1.below (AN d2 x9) HD2.out.2.1.lt,HD2.out.2.2.below (AN d2 x9) HD2.out.2.2.lt⟩⟩
        cases b1
        ·have HX:=Ag (show B=false from by rw[←HB2.out];rfl)
         go_wp2_with fail
         refine A3 (by kernel_rfl) (by kernel_rfl) ?_
         repeat (first|go_big_quiet_skip|(go_big_quiet_want;(first|(refine A0 43 (.tmp 57) rfl wr.heap.size 1 rfl (pmC po pe vr vq (.slice ga gn gq)) _ (fun w' hw'=> A6 HRG.out.1 w' hw') Tryz.underlying43 rfl (Ay _ _ _ _ _) ?_;go_simp;go_big_quiet_on)|(refine A0 45 (.tmp 7) rfl wr.heap.size 0 rfl fcs _ (fun w' hw'=> A6 HRG.out.2 w' hw') Tryz.underlying45 rfl (At Tryz.infoFl HFL.out.1) ?_;go_simp;go_big_quiet_on)|(go_big_quiet_op;(first|go_big_quiet_on|(apply Exists.intro;refine⟨fun _=> ?_,?_⟩;(focus (first|(go_at_call 28;with_reducible exact AT (C1.out _))|(go_at_call 36;with_reducible exact AT (C2.out _))|(go_at_call 38;with_reducible exact AT (C3.out _))|(go_at_call 37;with_reducible exact AT (C4.out _))));go_big_quiet_on))))))
         refine wpQuiet_nil ?_
         intro w9 hw9
         obtain⟨x9,rfl⟩:=hw9
         go_wp2_with fail
         go_meet
         exact⟨by rw[HX.out],Ag ⟨An HD2.out.1 (AN d2 x9) (Ah _),HD2.out.2.1.below (AN d2 x9) HD2.out.2.1.lt,HD2.out.2.2.below (AN d2 x9) HD2.out.2.2.lt⟩⟩
        cases b2
        ·have HX:=Ag (show B=false from by rw[←HB2.out];rfl)
         go_wp2_with fail
         refine A3 (by kernel_rfl) (by kernel_rfl) ?_
         repeat (first|go_big_quiet_skip|(go_big_quiet_want;(first|(refine A0 43 (.tmp 57) rfl wr.heap.size 1 rfl (pmC po pe vr vq (.slice ga gn gq)) _ (fun w' hw'=> A6 HRG.out.1 w' hw') Tryz.underlying43 rfl (Ay _ _ _ _ _) ?_;go_simp;go_big_quiet_on)|(refine A0 45 (.tmp 7) rfl wr.heap.size 0 rfl fcs _ (fun w' hw'=> A6 HRG.out.2 w' hw') Tryz.underlying45 rfl (At Tryz.infoFl HFL.out.1) ?_;go_simp;go_big_quiet_on)|(go_big_quiet_op;(first|go_big_quiet_on|(apply Exists.intro;refine⟨fun _=> ?_,?_⟩;(focus (first|(go_at_call 28;with_reducible exact AT (C1.out _))|(go_at_call 36;with_reducible exact AT (C2.out _))|(go_at_call 38;with_reducible exact AT (C3.out _))|(go_at_call 37;with_reducible exact AT (C4.out _))));go_big_quiet_on))))))
         refine wpQuiet_nil ?_
         intro w9 hw9
         obtain⟨x9,rfl⟩:=hw9
         go_wp2_with fail
         go_meet
         exact⟨by rw[HX.out],Ag ⟨An HD2.out.1 (AN d2 x9) (Ah _),HD2.out.2.1.below (AN d2 x9) HD2.out.2.1.lt,HD2.out.2.2.below (AN d2 x9) HD2.out.2.2.lt⟩⟩
        cases b3
        ·have HX:=Ag (show B=false from by rw[←HB2.out];rfl)
         go_wp2_with fail
         refine A3 (by kernel_rfl) (by kernel_rfl) ?_
         repeat (first|go_big_quiet_skip|(go_big_quiet_want;(first|(refine A0 43 (.tmp 57) rfl wr.heap.size 1 rfl (pmC po pe vr vq (.slice ga gn gq)) _ (fun w' hw'=> A6 HRG.out.1 w' hw') Tryz.underlying43 rfl (Ay _ _ _ _ _) ?_;go_simp;go_big_quiet_on)|(refine A0 45 (.tmp 7) rfl wr.heap.size 0 rfl fcs _ (fun w' hw'=> A6 HRG.out.2 w' hw') Tryz.underlying45 rfl (At Tryz.infoFl HFL.out.1) ?_;go_simp;go_big_quiet_on)|(go_big_quiet_op;(first|go_big_quiet_on|(apply Exists.intro;refine⟨fun _=> ?_,?_⟩;(focus (first|(go_at_call 28;with_reducible exact AT (C1.out _))|(go_at_call 36;with_reducible exact AT (C2.out _))|(go_at_call 38;with_reducible exact AT (C3.out _))|(go_at_call 37;with_reducible exact AT (C4.out _))));go_big_quiet_on))))))
         refine wpQuiet_nil ?_
         intro w9 hw9
         obtain⟨x9,rfl⟩:=hw9
         go_wp2_with fail
         go_meet
         exact⟨by rw[HX.out],Ag ⟨An HD2.out.1 (AN d2 x9) (Ah _),HD2.out.2.1.below (AN d2 x9) HD2.out.2.1.lt,HD2.out.2.2.below (AN d2 x9) HD2.out.2.2.lt⟩⟩
        ·have HX:=Ag (show B=b4 from by rw[←HB2.out];rfl)
         go_wp2_with fail
         refine A3 (by kernel_rfl) (by kernel_rfl) ?_
         repeat (first|go_big_quiet_skip|(go_big_quiet_want;(first|(refine A0 43 (.tmp 57) rfl wr.heap.size 1 rfl (pmC po pe vr vq (.slice ga gn gq)) _ (fun w' hw'=> A6 HRG.out.1 w' hw') Tryz.underlying43 rfl (Ay _ _ _ _ _) ?_;go_simp;go_big_quiet_on)|(refine A0 45 (.tmp 7) rfl wr.heap.size 0 rfl fcs _ (fun w' hw'=> A6 HRG.out.2 w' hw') Tryz.underlying45 rfl (At Tryz.infoFl HFL.out.1) ?_;go_simp;go_big_quiet_on)|(go_big_quiet_op;(first|go_big_quiet_on|(apply Exists.intro;refine⟨fun _=> ?_,?_⟩;(focus (first|(go_at_call 28;with_reducible exact AT (C1.out _))|(go_at_call 36;with_reducible exact AT (C2.out _))|(go_at_call 38;with_reducible exact AT (C3.out _))|(go_at_call 37;with_reducible exact AT (C4.out _))));go_big_quiet_on))))))
         refine wpQuiet_nil ?_
         intro w9 hw9
         obtain⟨x9,rfl⟩:=hw9
         go_wp2_with fail
         go_meet
         exact⟨by rw[HX.out],Ag ⟨An HD2.out.1 (AN d2 x9) (Ah _),HD2.out.2.1.below (AN d2 x9) HD2.out.2.1.lt,HD2.out.2.2.below (AN d2 x9) HD2.out.2.2.lt⟩⟩
       case rest=>
        obtain⟨rfl,HE⟩:=hcut
        clear y0 y1 y2 y7 HG2 HD1 HD2 HBL
        have y5:=HE.out.2.2.cell 5
        rw[HFC.out.2.2.2.1] at y5
        generalize wr.heap.size=gF at HE y5 ⊢
        obtain⟨R3,hR3⟩:∃ b,(B && f.p.g.all (Dx s f.p.o))=b:=⟨_,rfl⟩
        have HR3:=Ag hR3
        have HT4:=Ag (show(R3 && (s.fs.drop (k+1)).all (Dg s))=R2 from by rw[←HT3.out,hR3])
        clear hR3 HT3 HB
        have hgn63:gn≤9223372036854775807:=by omega
        go_wp2_with fail
        clear y5
        go_loopw [3,9,10,11,88] (fun s3 s9 s10 s11 s88 wr=> ∃ (j:Nat) (b:Bool),s3=.bool b∧s88=.int .i64 j∧j≤gn∧Hid ((b && (f.p.g.drop j).all (Dx s f.p.o))=R3)∧Hid (Below w.heap.size w wr∧Blk wr w.heap.size 26 (ics)∧Blk wr gF 45 (fcs))) (fun _ _ _ _ s88 _=> gn - (intOf s88).toNat)
        case atStart=> exact⟨0,B,rfl,rfl,Nat.zero_le _,Ag HR3.out,HE⟩
        case round=>
         clear HE HR3
         obtain⟨j,b,rfl,rfl,hj,HQ,HG3⟩:=hrel
         by_cases hjt:j<gn
         ·have hjl:j<f.p.g.length:=by rw[HGN.out];exact hjt
          have hjz:(j:Int)<(gn:Int):=by omega
          have hj0:(0:Int)≤(j:Int):=by omega
          have hsl:=HPF.out.1.2.2.1
          rw[←HGN.out] at hsl
          obtain⟨ga',gq',e1,-,-,hcl⟩:=hsl.nums
          obtain⟨gb,go_,e2,-,hcell⟩:=hcl (by rw[HGN.out];omega)
          obtain rfl:ga=ga':=by simpa using (Value.slice.inj e1).1
          subst e2
          have z1:=hcell j hjl
          have HQ2:=Ag (show(b && (Dx s f.p.o f.p.g[j] && (f.p.g.drop (j+1)).all (Dx s f.p.o)))=R3 from by rw[←HQ.out,List.drop_eq_getElem_cons hjl,List.all_cons])
          generalize f.p.g[j]=gx at z1 HQ2
          clear hsl hcl hcell e1 hjl
          replace z1:=(HG3.out.1.cell (p:=⟨gb,go_+j,none⟩) (Am z1)).trans z1
          obtain⟨⟨ix,th⟩,hsk⟩:∃ r,Bz s gx=r:=⟨_,rfl⟩
          have HSK:=Ag hsk
          have HCC:=Ag (show Calls Tryz.prog 39 #[.agg ics.toArray,.int .i64 gx] wr (fun e w'=> e=.returned (.tuple #[.int .i64 ix,.bool th])∧Below wr.heap.size wr w') from by
           have h:=DL s gx ics F wr (HID.out.1.below HG3.out.1) (by rw[HN.out.2.1];exact HID.out.2)
           rw[show AW (fun x=> Bx x.n gx) s.cs=(ix,th) from hsk] at h
           exact h)
          clear hsk
          go_wp2_with (first
  | (with_reducible refine Ap rfl 26 (.tmp 1) rfl w.heap.size 0 rfl ics _ (As HG3.out.2.1) Tryz.underlying26 rfl (At Tryz.infoId HIC.out.2.2.2) ?_))
          refine HCC.out.mono ?_
          rintro e' d4 ⟨rfl,hb⟩
          have HG4:=hJ3 (An HG3.out.1 hb (Ah _)) (HG3.out.2.1.below hb HG3.out.2.1.lt) (HG3.out.2.2.below hb HG3.out.2.2.lt)
          clear hb z1 HCC
          have x0:=HG4.out.2.1.cell 0;have x1:=HG4.out.2.1.cell 1;have x2:=HG4.out.2.1.cell 2;rw[HIC.out.1] at x0;rw[HIC.out.2.1] at x1;rw[HIC.out.2.2.1] at x2
          have y1:=HG4.out.2.2.cell 1
          rw[HFC.out.2.1] at y1
          cases b
          ·go_wp2_with fail
           go_quiet (fail)
           go_wp2_with fail
           go_roundw
           case measure=> simp[intOf];omega
           case rel=> exact⟨j+1,false,rfl,by go_num,by omega,Ag (by rw[←HQ2.out,Bool.false_and,Bool.false_and]),Ag ⟨An HG4.out.1 (((Sm.refl _).drewN _).below _) (Ah _),((Sm.refl _).drewN _).blk HG4.out.2.1,((Sm.refl _).drewN _).blk HG4.out.2.2⟩⟩
          cases th
          ·have HX:=Ag (show Dx s f.p.o gx=false from by unfold Dx;rw[HSK.out];rfl)
           go_wp2_with fail
           go_quiet (fail)
           go_wp2_with fail
           go_roundw
           case measure=> simp[intOf];omega
           case rel=> exact⟨j+1,false,rfl,by go_num,by omega,Ag (by rw[←HQ2.out,HX.out];rfl),Ag ⟨An HG4.out.1 (((Sm.refl _).drewN _).below _) (Ah _),((Sm.refl _).drewN _).blk HG4.out.2.1,((Sm.refl _).drewN _).blk HG4.out.2.2⟩⟩
          ·have hix:ix<s.cs.length:=by
            have h:=(DM (c:=fun x:CirM=> Bx x.n gx) (l:=s.cs) (by rw[show AW (fun x:CirM=> Bx x.n gx) s.cs=(ix,true) from HSK.out])).1
            rw[show AW (fun x:CirM=> Bx x.n gx) s.cs=(ix,true) from HSK.out] at h
            exact h
           have hixz:(ix:Int)<(cn:Int):=by rw[HN.out.2.1] at hix;omega
           have hix0:(0:Int)≤(ix:Int):=by omega
           obtain⟨cb,co,ccs,rfl,-,-,-,hra,hta⟩:=RwC.get HC.out hix
           have HX:=Ag (show Dx s f.p.o gx=(s.cs[ix].o==f.p.o) from by unfold Dx;rw[HSK.out];simp[List.getElem?_eq_getElem hix])
           generalize s.cs[ix]=cx at hta HX
           obtain⟨vu,rfl,-⟩:=hta
           have z2:=hra 1 (.int .i64 cx.o) rfl
           replace z2:=(HG4.out.1.cell (p:=⟨cb,co+ix* 3+1,none⟩) (Am z2)).trans z2
           generalize cx.o=cxo at z2 HX
           have HF0:=Ag (show f.p.o=f.p.o from rfl)
           obtain⟨po,hpo⟩:∃ b,f.p.o=b:=⟨_,rfl⟩
           have HPO:=Ag hpo
           obtain⟨be,hbe⟩:∃ b,(cxo==po)=b:=⟨_,rfl⟩
           have HX2:=Ag (show Dx s f.p.o gx=be from by rw[HX.out,hpo,hbe])
           rw[hpo] at y1
           clear hra hix HF0 hpo
           go_wp2_with fail
           go_quiet (fail)
           go_wp2_with fail
           go_roundw
           case measure=> simp[intOf];omega
           case rel=> exact⟨j+1,be,rfl,by go_num,by omega,Ag (by rw[←HQ2.out,HX2.out,Bool.true_and]),Ag ⟨An HG4.out.1 (((Sm.refl _).drewN _).below _) (Ah _),((Sm.refl _).drewN _).blk HG4.out.2.1,((Sm.refl _).drewN _).blk HG4.out.2.2⟩⟩
         ·have hge:¬ (j:Int)<(gn:Int):=by omega
          have HQ3:=Ag (show b=R3 from by rw[←HQ.out,List.drop_of_length_le (by rw[HGN.out];omega),List.all_nil,Bool.and_true])
          rw[HQ3.out]
          go_wp2_with fail
          go_roundw
          case measure=> simp[intOf];omega
          case rel=> exact⟨k+1,R3,rfl,by go_num,by omega,Ag HT4.out,Ag ⟨HG3.out.1,HG3.out.2.1⟩⟩
      ·have hge:¬ (k:Int)<(fn:Int):=by omega
       have HE2:=Ag (show ok=R2 from by rw[←HT.out,List.drop_of_length_le (by rw[HN.out.1];omega),List.all_nil,Bool.and_true])
       rw[HE2.out]
       have x0:=HG2.out.2.cell 0;have x1:=HG2.out.2.cell 1;have x2:=HG2.out.2.cell 2;rw[HIC.out.1] at x0;rw[HIC.out.2.1] at x1;rw[HIC.out.2.2.1] at x2
       obtain⟨R4,hR4⟩:∃ b,(R2 && s.ws.all wrB)=b:=⟨_,rfl⟩
       have HR4:=Ag hR4
       clear hR4
       go_wp2_with fail
       clear x0 x1 x2
       go_loopw [3,13,119] (fun s3 s13 s119 wr=> ∃ (k:Nat) (b:Bool),s3=.bool b∧s119=.int .i64 k∧k≤wn∧Hid ((b && (s.ws.drop k).all wrB)=R4)∧Hid (Below w.heap.size w wr∧Blk wr w.heap.size 26 (ics))) (fun _ _ s119 _=> wn - (intOf s119).toNat)
       case atStart=> exact⟨0,R2,rfl,rfl,Nat.zero_le _,Ag HR4.out,HG2⟩
       case round=>
        clear HG2 HT hge
        obtain⟨k,ok,rfl,rfl,hk,HT,HG⟩:=hrel
        by_cases hlt:k<wn
        ·have hkl:k<s.ws.length:=by rw[HN.out.2.2];exact hlt
         have hklz:(k:Int)<(wn:Int):=by omega
         have hk0:(0:Int)≤(k:Int):=by omega
         obtain⟨b,o,cs,rfl,-,-,hlen,hra,hta⟩:=RwC.get HW.out hkl
         have HT2:=Ag (show(ok && (wrB s.ws[k] && (s.ws.drop (k+1)).all wrB))=R4 from by rw[←HT.out,List.drop_eq_getElem_cons hkl,List.all_cons])
         generalize s.ws[k]=y at hta HT2
         have HRA:=Ag (Ai hra hlen)
         have HTA:=Ag hta
         have HRA2:=Ag hta.one
         have HZL:=Ag (show cs.length=(wrC ⟨#[]⟩ 0 0 0 (tmC 0 0 0 ⟨#[]⟩ (.slice none 0 0))).length from hlen)
         clear hra hlen hta
         cases ok
         ·go_wp2_with (first
  | (with_reducible refine Ap rfl 56 (.tmp 121) rfl b (o+k* 9) rfl cs _ (AD HRA.out.1 HG.out.1) Tryz.underlying56 rfl (At Tryz.infoWr HRA.out.2) ?_)
  | ((with_reducible refine Av wr rfl 56 rfl (wrC ⟨#[]⟩ 0 0 0 (tmC 0 0 0 ⟨#[]⟩ (.slice none 0 0))) Tryz.zeroWr ?_);intro d1 hb hbel hsz;have HD1:=hJ3 (An HG.out.1 hbel (Ah _)) (HG.out.2.below hbel HG.out.2.lt) hb;have HBL:=Ag hbel;clear hb hbel hsz)
  | ((with_reducible refine Ao d1 rfl 56 (.tmp 13) (.tmp 122) rfl wr.heap.size 56 (wrC ⟨#[]⟩ 0 0 0 (tmC 0 0 0 ⟨#[]⟩ (.slice none 0 0))) (cs) HD1.out.2.2 rfl rfl (HZL.out) (At Tryz.infoWr HRA.out.2) (HRA2.out) ?_);intro d2 hb hc hs;have hbw:Below wr.heap.size wr d2:=Aw HBL.out hc (Ah _) (fun k hk=> by have e:k=wr.heap.size:=hk;omega);have HD2:=Ag (show Below w.heap.size w d2∧Blk d2 w.heap.size 26 (ics)∧Blk d2 wr.heap.size 56 (cs) from⟨An HG.out.1 hbw (Ah _),HG.out.2.below hbw HG.out.2.lt,hb⟩);clear hb hc hs hbw))
          go_roundw
          case measure=> simp[intOf];omega
          case rel=> exact⟨k+1,false,rfl,by go_num,by omega,Ag (by rw[←HT2.out,Bool.false_and,Bool.false_and]),Ag ⟨HD2.out.1,HD2.out.2.1⟩⟩
         ·go_wp2_with (first
  | (with_reducible refine Ap rfl 56 (.tmp 121) rfl b (o+k* 9) rfl cs _ (AD HRA.out.1 HG.out.1) Tryz.underlying56 rfl (At Tryz.infoWr HRA.out.2) ?_)
  | ((with_reducible refine Av wr rfl 56 rfl (wrC ⟨#[]⟩ 0 0 0 (tmC 0 0 0 ⟨#[]⟩ (.slice none 0 0))) Tryz.zeroWr ?_);intro d1 hb hbel hsz;have HD1:=hJ3 (An HG.out.1 hbel (Ah _)) (HG.out.2.below hbel HG.out.2.lt) hb;have HBL:=Ag hbel;clear hb hbel hsz)
  | ((with_reducible refine Ao d1 rfl 56 (.tmp 13) (.tmp 122) rfl wr.heap.size 56 (wrC ⟨#[]⟩ 0 0 0 (tmC 0 0 0 ⟨#[]⟩ (.slice none 0 0))) (cs) HD1.out.2.2 rfl rfl (HZL.out) (At Tryz.infoWr HRA.out.2) (HRA2.out) ?_);intro d2 hb hc hs;have hbw:Below wr.heap.size wr d2:=Aw HBL.out hc (Ah _) (fun k hk=> by have e:k=wr.heap.size:=hk;omega);have HD2:=Ag (show Below w.heap.size w d2∧Blk d2 w.heap.size 26 (ics)∧Blk d2 wr.heap.size 56 (cs) from⟨An HG.out.1 hbw (Ah _),HG.out.2.below hbw HG.out.2.lt,hb⟩);clear hb hc hs hbw)
  | (with_reducible refine Ap rfl 56 (.tmp 13) rfl wr.heap.size 0 rfl cs _ (As HD2.out.2.2) Tryz.underlying56 rfl (At Tryz.infoWr HRA.out.2) ?_))
          refine(Fx y cs F d2 (HTA.out.below HD2.out.1)).mono ?_
          rintro e' d3 ⟨rfl,hb⟩
          have HD3:=hJ3 (An HD2.out.1 hb (Ah _)) (HD2.out.2.1.below hb HD2.out.2.1.lt) (HD2.out.2.2.below hb HD2.out.2.2.lt)
          clear hb
          go_wp2_with fail
          go_roundw
          case measure=> simp[intOf];omega
          case rel=> exact⟨k+1,wrB y,rfl,by go_num,by omega,Ag (by rw[←HT2.out,Bool.true_and]),Ag ⟨HD3.out.1,HD3.out.2.1⟩⟩
        ·have hge:¬ (k:Int)<(wn:Int):=by omega
         have HE4:=Ag (show D0 s=ok from by
          have h1:ok=R4:=by rw[←HT.out,List.drop_of_length_le (by rw[HN.out.2.2];omega),List.all_nil,Bool.and_true]
          rw[h1,←HR4.out,←HR2'.out,←HR1.out,←HLU.out,←HLB.out]
          rfl)
         have HRR:=Ag (show R=if ok=true then 0 else 282 from by rw[←HR.out,HE4.out])
         cases ok
         ·go_wp2_with fail
          go_ret
          exact⟨by rw[HRR.out];rfl,HG.out.1⟩
         ·go_wp2_with fail
          go_ret
          exact⟨by rw[HRR.out];rfl,HG.out.1⟩
theorem CX {sz:Nat}:∀ {css:List (List Value)} {j i:Nat} (hl:∀ c∈css,c.length=sz) (hj:j<css.length) (hi:i<sz),css.flatten[j* sz+i]?=css[j][i]?
 | c::css,0,i,hl,_,hi=> by
  rw[List.flatten_cons,List.getElem?_append_left (by have:=hl c List.mem_cons_self;omega)]
  simp
 | c::css,j+1,i,hl,hj,hi=> by
  have h5:=hl c List.mem_cons_self
  have e:(j+1)* sz=j* sz+sz:=Nat.succ_mul j sz
  rw[List.flatten_cons,List.getElem?_append_right (by omega),h5,show(j+1)* sz+i - sz=j* sz+i by omega,CX (fun c hc=> hl c (List.mem_cons_of_mem _ hc)) (by simpa using hj) hi]
  simp
theorem BA {sz:Nat}:∀ {css:List (List Value)} (hl:∀ c∈css,c.length=sz),css.flatten.length=css.length* sz
 | [],_=> by simp
 | c::css,hl=> by
  rw[List.flatten_cons,List.length_append,BA (fun c hc=> hl c (List.mem_cons_of_mem _ hc)),hl c List.mem_cons_self,List.length_cons,Nat.succ_mul];omega
theorem C8 {w:World} {b o sz:Nat} {css:List (List Value)} (hl:∀ c∈css,c.length=sz) (ha:∀ j (hj:j<css.length),w.rangeAt b (o+j* sz) css[j]):∀ i u,css.flatten[i]?=some u→w.cell? ((⟨b,o,none⟩:Addr).add i)=some u:=fun i u hu=> by
 have hi:i<css.length* sz:=by have:=(List.getElem?_eq_some_iff.1 hu).1;rwa [BA hl] at this
 have hz:0<sz:=by
  rcases Nat.eq_zero_or_pos sz with h|h
  ·subst h;simp at hi
  ·exact h
 have hj:i / sz<css.length:=(Nat.div_lt_iff_lt_mul hz).2 hi
 have hm:=Nat.mod_lt i hz
 have he:i / sz* sz+i % sz=i:=by rw[Nat.mul_comm];exact Nat.div_add_mod i sz
 have hu2:css.flatten[i / sz* sz+i % sz]?=some u:=by rw[he];exact hu
 rw[CX hl hj hm] at hu2
 have h:=ha _ hj _ _ hu2
 rw[Nat.add_assoc,he] at h
 rw[Addr.add_lit];exact h
def OwR {α:Type} (C:World→List Value→α→Prop) (sz:Nat) (ty:TypeId) (B:Nat) (w:World) (v:Value) (l:List α):Prop:=
 ∃ css:List (List Value),w.ownsRow B ty sz v l.length css.flatten∧css.length=l.length∧∀ j (h1:j<css.length) (h2:j<l.length),css[j].length=sz∧C w css[j] l[j]
section
variable {α:Type} {C C':World→List Value→α→Prop} {sz B:Nat} {ty:TypeId} {w w':World} {v:Value} {l:List α}
theorem B1 {css:List (List Value)} {P:∀ j,j<css.length→j<l.length→Prop} (he:css.length=l.length) (h:∀ j (h1:j<css.length) (h2:j<l.length),css[j].length=sz∧P j h1 h2):∀ c∈css,c.length=sz:=fun c hc=> by
 obtain⟨j,hj,rfl⟩:=List.mem_iff_getElem.1 hc
 exact(h j hj (by omega)).1
theorem OwR.nil:OwR C sz ty B w (.slice none 0 0) ([]:List α):=⟨[],World.ownsRow_nil _ _ _ _,rfl,fun j h=> absurd h (by simp)⟩
theorem OwR.lt (h:OwR C sz ty B w v l):∀ k,v.ownBlock=some k→B≤k∧k<w.heap.size:=by
 obtain⟨css,h1,_⟩:=h;exact fun k hk=> h1.lt k hk
theorem OwR.shape (h:OwR C sz ty B w v l):∃ ao c,v=.slice ao l.length c∧l.length≤c∧c≤maxLen:=by
 obtain⟨css,⟨_,⟨rfl,hn⟩|⟨g,cap,cur,rfl,_,_,h1,h2,_⟩⟩,_⟩:=h
 ·exact⟨none,0,by rw[hn],by omega,by unfold maxLen;omega⟩
 ·exact⟨_,_,rfl,h1,h2⟩
theorem OwR.keep' {S:Nat→Prop} (h:OwR C sz ty B w v l) (hc:Ch S w w') (hS:∀ k,v.ownBlock=some k→¬ S k) (hC:∀ cs,∀ a∈l,C w cs a→C' w' cs a):OwR C' sz ty B w' v l:=by
 obtain⟨css,h1,h2,h3⟩:=h
 exact⟨css,A9 h1 hc hS,h2,fun j a b=> ⟨(h3 j a b).1,hC _ _ (List.getElem_mem b) (h3 j a b).2⟩⟩
theorem OwR.rwc (h:OwR C sz ty B w v l):RwC C sz (fun k=> v.ownBlock=some k) w v l:=by
 obtain⟨css,h1,h2,h3⟩:=h
 have h5:=B1 h2 h3
 obtain⟨hl,⟨rfl,hn⟩|⟨g,cap,cur,rfl,hbg,hg,hnc,hcm,hcs,htake⟩⟩:=id h1
 ·obtain rfl:l=[]:=List.eq_nil_of_length_eq_zero hn
  exact RwC.nil _ _ _ _
 ·refine⟨some ⟨g,0,none⟩,cap,rfl,hnc,hcm,fun h0=> ⟨g,0,rfl,rfl,lt_of_block hg,fun j hj=> ?_⟩⟩
  have hj':j<css.length:=by omega
  refine⟨css[j],(h3 j hj' hj).1,fun i u hu=> ?_,(h3 j hj' hj).2⟩
  have hi:i<sz:=by have:=(List.getElem?_eq_some_iff.1 hu).1;rw[h5 _ (List.getElem_mem hj')] at this;exact this
  have hc:=h1.cells (g:=g) rfl (j* sz+i) u (by rw[CX h5 hj' hi];exact hu)
  rw[Addr.add_lit,Nat.zero_add] at hc
  rw[Nat.zero_add];exact hc
theorem RwC.mono {F G:Nat→Prop} (h:RwC C sz F w v l) (hG:∀ k,F k→G k) (hC:∀ cs,∀ a∈l,C w cs a→C' w cs a):RwC C' sz G w v l:=by
 obtain⟨ao,c,h1,h2,h3,h4⟩:=h
 refine⟨ao,c,h1,h2,h3,fun h0=> ?_⟩
 obtain⟨b,o,e,hF,hb,ha⟩:=h4 h0
 refine⟨b,o,e,hG b hF,hb,fun j hj=> ?_⟩
 obtain⟨cs,h5,h6,h7⟩:=ha j hj
 exact⟨cs,h5,h6,hC _ _ (List.getElem_mem hj) h7⟩
theorem RwC.css {F:Nat→Prop} (h:RwC C sz F w v l):∃ css:List (List Value),css.length=l.length∧(∀ j (h1:j<css.length) (h2:j<l.length),css[j].length=sz∧C w css[j] l[j])∧(0<l.length→∃ b o c,v=.slice (some ⟨b,o,none⟩) l.length c∧∀ j (hj:j<css.length),w.rangeAt b (o+j* sz) css[j]):=by
 obtain⟨ao,c,h1,h2,h3,h4⟩:=h
 by_cases h0:0<l.length
 ·obtain⟨b,o,e,hF,hb,ha⟩:=h4 h0
  refine⟨List.ofFn (fun j:Fin l.length=> Classical.choose (ha j j.2)),by simp,fun j a b=> ?_,fun _=> ⟨b,o,c,by rw[h1,e],fun j hj=> ?_⟩⟩
  ·rw[List.getElem_ofFn]
   have h:=Classical.choose_spec (ha j b)
   exact⟨h.1,h.2.2⟩
  ·rw[List.getElem_ofFn]
   have hj':j<l.length:=by simpa using hj
   exact(Classical.choose_spec (ha j hj')).2.1
 ·obtain rfl:l=[]:=List.eq_nil_of_length_eq_zero (by omega)
  exact⟨[],rfl,fun j h=> absurd h (by simp),fun h=> absurd h (by simp)⟩
end
theorem Bv {P:Program} {w:World} {ops:Array Oper} {rest:List Oper} {o:Oper} {a:Act} {Q:Exit→Act→World→Prop} (hgd:o.guard=none) (s x':Operand) (st:TypeId)
  (ho:o.op=.call {callee:=.builtin .append,args:=#[s,x'],argTypes:=#[st,st]}) {α:Type} {C C':World→List Value→α→Prop} {sz B:Nat} {ty:TypeId} (hu:P.underlying st=some (.slice ty))
  (i:TypeInfo) (z:Value) (bytes:Nat) (hi:P.info? ty=some i) (hz:i.zero=some z) (hsize:i.size=sz) (hby:i.bytes=bytes) (hzs:z.cells.size=sz) (hsz:0<sz)
  {v:Value} {l r:List α} (hI:OwR C sz ty B w v l) (hs:a.eval s=v) {F:Nat→Prop} {b off c:Nat} (hx:a.eval x'=.slice (some ⟨b,off,none⟩) r.length c) (hr:RwC C sz F w (.slice (some ⟨b,off,none⟩) r.length c) r)
  (hone:∀ cs,∀ a∈r,C w cs a→∀ u∈cs,u.oneCell'=true) (N:Nat) (hN:l.length+r.length=N) (hn:N≤1000000000) (hbn:bytes≤100000) (hB:B≤w.heap.size) (hC:∀ w',Ch (fun k=> v.ownBlock=some k) w w'→∀ cs a,a∈l ++ r→C w cs a→C' w' cs a)
  (h:∀ ao c w',OwR C' sz ty B w' (.slice ao N c) (l ++ r)→Ch (fun k=> v.ownBlock=some k) w w'→((Value.slice ao N c).ownBlock=v.ownBlock∨(Value.slice ao N c).ownBlock=some w.heap.size)→wpList P ops Q rest (a.put o.dst (.slice ao N c)) w'):
  wpList P ops Q (o::rest) a w:=by
 obtain⟨css,h1,h2,h3⟩:=hI
 obtain⟨csr,k1,k2,k3⟩:=hr.css
 have h5:=B1 h2 h3
 have k5:=B1 k1 k2
 have k6:∀ u∈csr.flatten,u.oneCell'=true:=fun u hu=> by
  obtain⟨cs,hcs,hu⟩:=List.mem_flatten.1 hu
  obtain⟨j,hj,rfl⟩:=List.mem_iff_getElem.1 hcs
  exact hone _ _ (List.getElem_mem (by omega)) (k2 j hj (by omega)).2 u hu
 refine wpList_append_own_at w hgd s x' _ ho B ty i z sz bytes hu hi hz hsize hby hzs hsz v l.length css.flatten hs h1 ⟨b,off,none⟩ r.length c csr.flatten hx (by rw[BA k5,k1]) (fun j u hu=> ?_) k6 (by unfold maxLen;omega) ?_ hB ?_
 ·rcases Nat.eq_zero_or_pos r.length with h0|h0
  ·have:csr=[]:=List.eq_nil_of_length_eq_zero (by omega)
   subst this;simp at hu
  ·obtain⟨b',o',c',e,hra⟩:=k3 h0
   simp only[Value.slice.injEq,Option.some.injEq,Addr.mk.injEq,and_true,true_and] at e
   obtain⟨⟨rfl,rfl⟩,-⟩:=e
   exact C8 k5 hra j u hu
 ·rw[hN]
  exact Aj (Nat.mul_le_mul hn hbn) (by omega)
 intro v' w' hown hgr _ hob
 obtain⟨ao,c2,rfl⟩:=AY hown
 rw[hN] at hown hob ⊢
 have hch:Ch (fun k=> v.ownBlock=some k) w w':=⟨hgr.os,hgr.tape,hgr.output,hgr.size,fun k hk hn=> hgr.block k hk (fun e=> hn e.symm)⟩
 refine h ao c2 w' ⟨css ++ csr,by rw[List.flatten_append,List.length_append,hN];exact hown,by simp[h2,k1],fun j a b=> ?_⟩ hch hob
 by_cases hj:j<css.length
 ·have e1:(css ++ csr)[j]=css[j]:=List.getElem_append_left hj
  have e2:(l ++ r)[j]=l[j]:=List.getElem_append_left (by omega)
  rw[e1,e2]
  exact⟨(h3 j hj (by omega)).1,hC w' hch _ _ (List.mem_append_left _ (List.getElem_mem _)) (h3 j hj (by omega)).2⟩
 ·have e1:(css ++ csr)[j]=csr[j - css.length]'(by rw[List.length_append] at a;omega):=List.getElem_append_right (by omega)
  have e2:(l ++ r)[j]=r[j - l.length]'(by rw[List.length_append] at b;omega):=List.getElem_append_right (by omega)
  rw[e1,e2]
  have e3:j - l.length=j - css.length:=by omega
  simp only[e3]
  have:=k2 (j - css.length) (by rw[List.length_append] at a;omega) (by rw[List.length_append] at b;omega)
  exact⟨this.1,hC w' hch _ _ (List.mem_append_right _ (List.getElem_mem _)) this.2⟩
theorem Tryz.infoRT:(Tryz.prog.info? 29).map (fun i=> (i.zero,i.size,i.bytes))=some (some (.agg (tmC 0 0 0 ⟨#[]⟩ (.slice none 0 0)).toArray),5,64):=by kernel_rfl
theorem FN (w:World) {ops:Array Oper} {rest:List Oper} {o:Oper} {a:Act} {Q:Exit→Act→World→Prop} (hgd:o.guard=none) (ho:o.op=.buildSlice 27 0 #[])
  (h:∀ w',(∀ (C:World→List Value→Tm→Prop),OwR C 5 29 w.heap.size w' (.slice (some ⟨w.heap.size,0,none⟩) 0 0) [])→Below w.heap.size w w'→w'.heap.size=w.heap.size+1→wpList Tryz.prog ops Q rest (a.put o.dst (.slice (some ⟨w.heap.size,0,none⟩) 0 0)) w'):
  wpList Tryz.prog ops Q (o::rest) a w:=by
 refine wpList_plain hgd fun K hK=> ?_
 have hrun:(execOp a.eval o).run Tryz.prog w=.ok (.value (.slice (some ⟨w.heap.size,0,none⟩) 0 0)) (w.alloc (.cells #[] 29)):=by
  have hb:(Instr.buildSlice 27 0 #[]).run Tryz.prog w=.ok (.slice (some ⟨w.heap.size,0,none⟩) 0 0) (w.alloc (.cells #[] 29)):=by
   have sz:∀ w,(sizeOf 29).run Tryz.prog w=.ok 5 w:=fun w=> by kernel_rfl
   have zv:∀ w,(zeroValue 29).run Tryz.prog w=.ok (.agg (tmC 0 0 0 ⟨#[]⟩ (.slice none 0 0)).toArray) w:=fun w=> by kernel_rfl
   have nr:∀ cs,(newRow 29 cs).run Tryz.prog w=.ok ⟨w.heap.size,0,none⟩ (w.alloc (.cells cs 29)):=fun cs=> by simp[newRow,Result.andThen]
   simp[Instr.buildSlice,run_underlying Tryz.underlying27,sz,zv,Result.andThen,Instr.fill,nr]
   first|done|(have e:∀ f:Nat→Value,Array.map f (Array.range 0)=#[]:=fun f=> Array.eq_empty_of_size_eq_zero (by simp);rw[e])
  unfold execOp
  simp[ho,hb,Result.andThen]
 unfold Oper.wp
 rw[hrun]
 refine hK _ _ (h _ (fun C=> ⟨[],⟨by simp,.inr ⟨w.heap.size,0,#[],rfl,Ah _,(Blk.new w [] _),Ah _,by unfold maxLen;omega,by simp,by simp⟩⟩,rfl,fun j h=> absurd h (by simp)⟩) ((Below.refl w.heap.size w).alloc (Ah _) _) (World.size_alloc _ _))
theorem Je (v:Value) (l:List Tm) (F:Nat→Prop) (w:World) (hv:RwC (TmC F) 5 F w v l) (hl:l.length≤1000000000):
  Calls Tryz.prog 62 #[v] w (fun e w'=> ∃ v',e=.returned v'∧OwR (TmC F) 5 29 w.heap.size w' v' l∧Below w.heap.size w w'):=by
 have q22:∀ (w:World) (a:Option Addr) (n c n' c':Nat),(binOp .eql 27 (.slice a n c) (.slice none n' c')).run Tryz.prog w=.ok (.bool a.isNone) w:=fun w a n c n' c'=> Lib.run_eql_slice_nil w _ _ a n c n' c' Tryz.underlying27
 obtain⟨ao,c,rfl,hlc,hcm⟩:=hv.shape
 cases ao with
 | none=>
  obtain rfl:l=[]:=by
   cases l with
   | nil=> rfl
   | cons x t=>
    obtain⟨b,o,cs,e,-⟩:=hv.get (j:=0) (by simp)
    cases e
  clear hv hl hlc hcm
  go_enter Tryz.func62,Tryz.ntmps62
  go_wp2_with fail
  go_ret
  exact⟨_,rfl,OwR.nil,Below.refl _ _⟩
 | some ad=>
  obtain⟨i0,hi0,hz0,hz1,hz2⟩:=info_parts Tryz.infoRT
  obtain⟨css,k1,k2,k3⟩:=hv.css
  have k5:=B1 k1 k2
  have k6:∀ u∈css.flatten,u.oneCell'=true:=fun u hu=> by
   obtain⟨cs,hcs,hu⟩:=List.mem_flatten.1 hu
   obtain⟨j,hj,rfl⟩:=List.mem_iff_getElem.1 hcs
   exact(fun cs a _ h=> TmC.one h) _ _ (List.getElem_mem (show j<l.length by omega)) (k2 j hj (by omega)).2 u hu
  have k7:∀ j u,css.flatten[j]?=some u→w.cell? (ad.add j)=some u:=fun j u hu=> by
   rcases Nat.eq_zero_or_pos l.length with h0|h0
   ·have:css=[]:=List.eq_nil_of_length_eq_zero (by omega)
    subst this;simp at hu
   ·obtain⟨b',o',c',e,hra⟩:=k3 h0
    simp only[Value.slice.injEq,Option.some.injEq,true_and] at e
    obtain⟨rfl,-⟩:=e
    exact C8 k5 hra j u hu
  have HI:=Ag (Ai hi0 (Ai hz0 (Ai hz1 hz2)))
  have HK:=Ag (Ai k1 (Ai k2 (Ai k5 (Ai k6 k7))))
  have HL:=Ag hl
  obtain⟨L,hL⟩:∃ L,l.length=L:=⟨_,rfl⟩
  have HLL:=Ag hL
  rw[hL] at hlc hl ⊢
  clear hv hL hi0 hz0 hz1 hz2 k1 k2 k3 k5 k6 k7
  go_enter Tryz.func62,Tryz.ntmps62
  go_wp2_with (first
   | ((with_reducible refine FN w rfl rfl ?_);intro w1 hown hbel hsz;have H1:=Ag (Ai (hown (TmC F)) (Ai hbel hsz));clear hown hbel hsz)
   | (at_builtin;refine wpList_append_own_at w1 rfl (.tmp 5) (.tmp 6) _ rfl w.heap.size 29 i0 _ 5 64 Tryz.underlying27 HI.out.1 HI.out.2.1 HI.out.2.2.1 HI.out.2.2.2 rfl (by omega) _ 0 [] rfl (by obtain⟨q,q1,q2,-⟩:=H1.out.1;obtain rfl:q=[]:=List.eq_nil_of_length_eq_zero q2;exact q1) ad L c css.flatten rfl (by rw[BA HK.out.2.2.1,HK.out.1,HLL.out]) (fun j u hu=> by have h:=HK.out.2.2.2.2 j u hu;exact(H1.out.2.1.cell (Am h)).trans h) HK.out.2.2.2.1 (by unfold maxLen;omega) (by omega) H1.out.2.1.size ?_))
  intro v2 w2 hown hgr _ _
  have hb2:Below w.heap.size w w2:=H1.out.2.1.grown hgr H1.out.2.1.size (fun j e=> by cases e;exact Ah _)
  have H2:=Ag (show OwR (TmC F) 5 29 w.heap.size w2 v2 l from⟨css,by rw[HLL.out];simpa using hown,HK.out.1,fun j a b=> ⟨(HK.out.2.1 j a b).1,by have h:=(HK.out.2.1 j a b).2;have hb:=hb2;exact TmC.keep' (Ch.of_below (S:=fun _=> False) hb (Ah _)) (Hk F) (idf F) _ _ h⟩⟩)
  have H3:=Ag hb2
  obtain⟨ao2,c2,rfl⟩:=AY hown
  clear hown hgr hb2
  go_wp2_with fail
  go_ret
  exact⟨_,rfl,H2.out,H3.out⟩
theorem Tryz.infoRF:(Tryz.prog.info? 45).map (fun i=> (i.zero,i.size,i.bytes))=some (some (.agg (flC ⟨#[]⟩ 0 0 (.slice none 0 0) (.slice none 0 0) (.slice none 0 0) 0 0 0 (tmC 0 0 0 ⟨#[]⟩ (.slice none 0 0))).toArray),14,192):=by kernel_rfl
theorem FO (w:World) {ops:Array Oper} {rest:List Oper} {o:Oper} {a:Act} {Q:Exit→Act→World→Prop} (hgd:o.guard=none) (ho:o.op=.buildSlice 22 0 #[])
  (h:∀ w',(∀ (C:World→List Value→FileM→Prop),OwR C 14 45 w.heap.size w' (.slice (some ⟨w.heap.size,0,none⟩) 0 0) [])→Below w.heap.size w w'→w'.heap.size=w.heap.size+1→wpList Tryz.prog ops Q rest (a.put o.dst (.slice (some ⟨w.heap.size,0,none⟩) 0 0)) w'):
  wpList Tryz.prog ops Q (o::rest) a w:=by
 refine wpList_plain hgd fun K hK=> ?_
 have hrun:(execOp a.eval o).run Tryz.prog w=.ok (.value (.slice (some ⟨w.heap.size,0,none⟩) 0 0)) (w.alloc (.cells #[] 45)):=by
  have hb:(Instr.buildSlice 22 0 #[]).run Tryz.prog w=.ok (.slice (some ⟨w.heap.size,0,none⟩) 0 0) (w.alloc (.cells #[] 45)):=by
   have sz:∀ w,(sizeOf 45).run Tryz.prog w=.ok 14 w:=fun w=> by kernel_rfl
   have zv:∀ w,(zeroValue 45).run Tryz.prog w=.ok (.agg (flC ⟨#[]⟩ 0 0 (.slice none 0 0) (.slice none 0 0) (.slice none 0 0) 0 0 0 (tmC 0 0 0 ⟨#[]⟩ (.slice none 0 0))).toArray) w:=fun w=> by kernel_rfl
   have nr:∀ cs,(newRow 45 cs).run Tryz.prog w=.ok ⟨w.heap.size,0,none⟩ (w.alloc (.cells cs 45)):=fun cs=> by simp[newRow,Result.andThen]
   simp[Instr.buildSlice,run_underlying Tryz.underlying22,sz,zv,Result.andThen,Instr.fill,nr]
   first|done|(have e:∀ f:Nat→Value,Array.map f (Array.range 0)=#[]:=fun f=> Array.eq_empty_of_size_eq_zero (by simp);rw[e])
  unfold execOp
  simp[ho,hb,Result.andThen]
 unfold Oper.wp
 rw[hrun]
 refine hK _ _ (h _ (fun C=> ⟨[],⟨by simp,.inr ⟨w.heap.size,0,#[],rfl,Ah _,(Blk.new w [] _),Ah _,by unfold maxLen;omega,by simp,by simp⟩⟩,rfl,fun j h=> absurd h (by simp)⟩) ((Below.refl w.heap.size w).alloc (Ah _) _) (World.size_alloc _ _))
theorem Jf (v:Value) (l:List FileM) (F:Nat→Prop) (w:World) (hv:RwC (FlC F) 14 F w v l) (hl:l.length≤1000000000):
  Calls Tryz.prog 72 #[v] w (fun e w'=> ∃ v',e=.returned v'∧OwR (FlC F) 14 45 w.heap.size w' v' l∧Below w.heap.size w w'):=by
 have q22:∀ (w:World) (a:Option Addr) (n c n' c':Nat),(binOp .eql 22 (.slice a n c) (.slice none n' c')).run Tryz.prog w=.ok (.bool a.isNone) w:=fun w a n c n' c'=> Lib.run_eql_slice_nil w _ _ a n c n' c' Tryz.underlying22
 obtain⟨ao,c,rfl,hlc,hcm⟩:=hv.shape
 cases ao with
 | none=>
  obtain rfl:l=[]:=by
   cases l with
   | nil=> rfl
   | cons x t=>
    obtain⟨b,o,cs,e,-⟩:=hv.get (j:=0) (by simp)
    cases e
  clear hv hl hlc hcm
  go_enter Tryz.func72,Tryz.ntmps72
  go_wp2_with fail
  go_ret
  exact⟨_,rfl,OwR.nil,Below.refl _ _⟩
 | some ad=>
  obtain⟨i0,hi0,hz0,hz1,hz2⟩:=info_parts Tryz.infoRF
  obtain⟨css,k1,k2,k3⟩:=hv.css
  have k5:=B1 k1 k2
  have k6:∀ u∈css.flatten,u.oneCell'=true:=fun u hu=> by
   obtain⟨cs,hcs,hu⟩:=List.mem_flatten.1 hu
   obtain⟨j,hj,rfl⟩:=List.mem_iff_getElem.1 hcs
   exact(fun cs a _ h=> FlC.one h) _ _ (List.getElem_mem (show j<l.length by omega)) (k2 j hj (by omega)).2 u hu
  have k7:∀ j u,css.flatten[j]?=some u→w.cell? (ad.add j)=some u:=fun j u hu=> by
   rcases Nat.eq_zero_or_pos l.length with h0|h0
   ·have:css=[]:=List.eq_nil_of_length_eq_zero (by omega)
    subst this;simp at hu
   ·obtain⟨b',o',c',e,hra⟩:=k3 h0
    simp only[Value.slice.injEq,Option.some.injEq,true_and] at e
    obtain⟨rfl,-⟩:=e
    exact C8 k5 hra j u hu
  have HI:=Ag (Ai hi0 (Ai hz0 (Ai hz1 hz2)))
  have HK:=Ag (Ai k1 (Ai k2 (Ai k5 (Ai k6 k7))))
  have HL:=Ag hl
  obtain⟨L,hL⟩:∃ L,l.length=L:=⟨_,rfl⟩
  have HLL:=Ag hL
  rw[hL] at hlc hl ⊢
  clear hv hL hi0 hz0 hz1 hz2 k1 k2 k3 k5 k6 k7
  go_enter Tryz.func72,Tryz.ntmps72
  go_wp2_with (first
   | ((with_reducible refine FO w rfl rfl ?_);intro w1 hown hbel hsz;have H1:=Ag (Ai (hown (FlC F)) (Ai hbel hsz));clear hown hbel hsz)
   | (at_builtin;refine wpList_append_own_at w1 rfl (.tmp 5) (.tmp 6) _ rfl w.heap.size 45 i0 _ 14 192 Tryz.underlying22 HI.out.1 HI.out.2.1 HI.out.2.2.1 HI.out.2.2.2 rfl (by omega) _ 0 [] rfl (by obtain⟨q,q1,q2,-⟩:=H1.out.1;obtain rfl:q=[]:=List.eq_nil_of_length_eq_zero q2;exact q1) ad L c css.flatten rfl (by rw[BA HK.out.2.2.1,HK.out.1,HLL.out]) (fun j u hu=> by have h:=HK.out.2.2.2.2 j u hu;exact(H1.out.2.1.cell (Am h)).trans h) HK.out.2.2.2.1 (by unfold maxLen;omega) (by omega) H1.out.2.1.size ?_))
  intro v2 w2 hown hgr _ _
  have hb2:Below w.heap.size w w2:=H1.out.2.1.grown hgr H1.out.2.1.size (fun j e=> by cases e;exact Ah _)
  have H2:=Ag (show OwR (FlC F) 14 45 w.heap.size w2 v2 l from⟨css,by rw[HLL.out];simpa using hown,HK.out.1,fun j a b=> ⟨(HK.out.2.1 j a b).1,by have h:=(HK.out.2.1 j a b).2;have hb:=hb2;exact FlC.below h hb⟩⟩)
  have H3:=Ag hb2
  obtain⟨ao2,c2,rfl⟩:=AY hown
  clear hown hgr hb2
  go_wp2_with fail
  go_ret
  exact⟨_,rfl,H2.out,H3.out⟩
theorem Tryz.infoRI:(Tryz.prog.info? 49).map (fun i=> (i.zero,i.size,i.bytes))=some (some (.agg (ciC 0 0 (.slice none 0 0)).toArray),3,40):=by kernel_rfl
theorem FP (w:World) {ops:Array Oper} {rest:List Oper} {o:Oper} {a:Act} {Q:Exit→Act→World→Prop} (hgd:o.guard=none) (ho:o.op=.buildSlice 23 0 #[])
  (h:∀ w',(∀ (C:World→List Value→CirM→Prop),OwR C 3 49 w.heap.size w' (.slice (some ⟨w.heap.size,0,none⟩) 0 0) [])→Below w.heap.size w w'→w'.heap.size=w.heap.size+1→wpList Tryz.prog ops Q rest (a.put o.dst (.slice (some ⟨w.heap.size,0,none⟩) 0 0)) w'):
  wpList Tryz.prog ops Q (o::rest) a w:=by
 refine wpList_plain hgd fun K hK=> ?_
 have hrun:(execOp a.eval o).run Tryz.prog w=.ok (.value (.slice (some ⟨w.heap.size,0,none⟩) 0 0)) (w.alloc (.cells #[] 49)):=by
  have hb:(Instr.buildSlice 23 0 #[]).run Tryz.prog w=.ok (.slice (some ⟨w.heap.size,0,none⟩) 0 0) (w.alloc (.cells #[] 49)):=by
   have sz:∀ w,(sizeOf 49).run Tryz.prog w=.ok 3 w:=fun w=> by kernel_rfl
   have zv:∀ w,(zeroValue 49).run Tryz.prog w=.ok (.agg (ciC 0 0 (.slice none 0 0)).toArray) w:=fun w=> by kernel_rfl
   have nr:∀ cs,(newRow 49 cs).run Tryz.prog w=.ok ⟨w.heap.size,0,none⟩ (w.alloc (.cells cs 49)):=fun cs=> by simp[newRow,Result.andThen]
   simp[Instr.buildSlice,run_underlying Tryz.underlying23,sz,zv,Result.andThen,Instr.fill,nr]
   first|done|(have e:∀ f:Nat→Value,Array.map f (Array.range 0)=#[]:=fun f=> Array.eq_empty_of_size_eq_zero (by simp);rw[e])
  unfold execOp
  simp[ho,hb,Result.andThen]
 unfold Oper.wp
 rw[hrun]
 refine hK _ _ (h _ (fun C=> ⟨[],⟨by simp,.inr ⟨w.heap.size,0,#[],rfl,Ah _,(Blk.new w [] _),Ah _,by unfold maxLen;omega,by simp,by simp⟩⟩,rfl,fun j h=> absurd h (by simp)⟩) ((Below.refl w.heap.size w).alloc (Ah _) _) (World.size_alloc _ _))
theorem Jg (v:Value) (l:List CirM) (F:Nat→Prop) (w:World) (hv:RwC (CiC F) 3 F w v l) (hl:l.length≤1000000000):
  Calls Tryz.prog 73 #[v] w (fun e w'=> ∃ v',e=.returned v'∧OwR (CiC F) 3 49 w.heap.size w' v' l∧Below w.heap.size w w'):=by
 have q22:∀ (w:World) (a:Option Addr) (n c n' c':Nat),(binOp .eql 23 (.slice a n c) (.slice none n' c')).run Tryz.prog w=.ok (.bool a.isNone) w:=fun w a n c n' c'=> Lib.run_eql_slice_nil w _ _ a n c n' c' Tryz.underlying23
 obtain⟨ao,c,rfl,hlc,hcm⟩:=hv.shape
 cases ao with
 | none=>
  obtain rfl:l=[]:=by
   cases l with
   | nil=> rfl
   | cons x t=>
    obtain⟨b,o,cs,e,-⟩:=hv.get (j:=0) (by simp)
    cases e
  clear hv hl hlc hcm
  go_enter Tryz.func73,Tryz.ntmps73
  go_wp2_with fail
  go_ret
  exact⟨_,rfl,OwR.nil,Below.refl _ _⟩
 | some ad=>
  obtain⟨i0,hi0,hz0,hz1,hz2⟩:=info_parts Tryz.infoRI
  obtain⟨css,k1,k2,k3⟩:=hv.css
  have k5:=B1 k1 k2
  have k6:∀ u∈css.flatten,u.oneCell'=true:=fun u hu=> by
   obtain⟨cs,hcs,hu⟩:=List.mem_flatten.1 hu
   obtain⟨j,hj,rfl⟩:=List.mem_iff_getElem.1 hcs
   exact(fun cs a _ h=> CiC.one h) _ _ (List.getElem_mem (show j<l.length by omega)) (k2 j hj (by omega)).2 u hu
  have k7:∀ j u,css.flatten[j]?=some u→w.cell? (ad.add j)=some u:=fun j u hu=> by
   rcases Nat.eq_zero_or_pos l.length with h0|h0
   ·have:css=[]:=List.eq_nil_of_length_eq_zero (by omega)
    subst this;simp at hu
   ·obtain⟨b',o',c',e,hra⟩:=k3 h0
    simp only[Value.slice.injEq,Option.some.injEq,true_and] at e
    obtain⟨rfl,-⟩:=e
    exact C8 k5 hra j u hu
  have HI:=Ag (Ai hi0 (Ai hz0 (Ai hz1 hz2)))
  have HK:=Ag (Ai k1 (Ai k2 (Ai k5 (Ai k6 k7))))
  have HL:=Ag hl
  obtain⟨L,hL⟩:∃ L,l.length=L:=⟨_,rfl⟩
  have HLL:=Ag hL
  rw[hL] at hlc hl ⊢
  clear hv hL hi0 hz0 hz1 hz2 k1 k2 k3 k5 k6 k7
  go_enter Tryz.func73,Tryz.ntmps73
  go_wp2_with (first
   | ((with_reducible refine FP w rfl rfl ?_);intro w1 hown hbel hsz;have H1:=Ag (Ai (hown (CiC F)) (Ai hbel hsz));clear hown hbel hsz)
   | (at_builtin;refine wpList_append_own_at w1 rfl (.tmp 5) (.tmp 6) _ rfl w.heap.size 49 i0 _ 3 40 Tryz.underlying23 HI.out.1 HI.out.2.1 HI.out.2.2.1 HI.out.2.2.2 rfl (by omega) _ 0 [] rfl (by obtain⟨q,q1,q2,-⟩:=H1.out.1;obtain rfl:q=[]:=List.eq_nil_of_length_eq_zero q2;exact q1) ad L c css.flatten rfl (by rw[BA HK.out.2.2.1,HK.out.1,HLL.out]) (fun j u hu=> by have h:=HK.out.2.2.2.2 j u hu;exact(H1.out.2.1.cell (Am h)).trans h) HK.out.2.2.2.1 (by unfold maxLen;omega) (by omega) H1.out.2.1.size ?_))
  intro v2 w2 hown hgr _ _
  have hb2:Below w.heap.size w w2:=H1.out.2.1.grown hgr H1.out.2.1.size (fun j e=> by cases e;exact Ah _)
  have H2:=Ag (show OwR (CiC F) 3 49 w.heap.size w2 v2 l from⟨css,by rw[HLL.out];simpa using hown,HK.out.1,fun j a b=> ⟨(HK.out.2.1 j a b).1,by have h:=(HK.out.2.1 j a b).2;have hb:=hb2;exact CiC.below h hb⟩⟩)
  have H3:=Ag hb2
  obtain⟨ao2,c2,rfl⟩:=AY hown
  clear hown hgr hb2
  go_wp2_with fail
  go_ret
  exact⟨_,rfl,H2.out,H3.out⟩
theorem Tryz.infoRW:(Tryz.prog.info? 56).map (fun i=> (i.zero,i.size,i.bytes))=some (some (.agg (wrC ⟨#[]⟩ 0 0 0 (tmC 0 0 0 ⟨#[]⟩ (.slice none 0 0))).toArray),9,104):=by kernel_rfl
theorem FQ (w:World) {ops:Array Oper} {rest:List Oper} {o:Oper} {a:Act} {Q:Exit→Act→World→Prop} (hgd:o.guard=none) (ho:o.op=.buildSlice 24 0 #[])
  (h:∀ w',(∀ (C:World→List Value→WrM→Prop),OwR C 9 56 w.heap.size w' (.slice (some ⟨w.heap.size,0,none⟩) 0 0) [])→Below w.heap.size w w'→w'.heap.size=w.heap.size+1→wpList Tryz.prog ops Q rest (a.put o.dst (.slice (some ⟨w.heap.size,0,none⟩) 0 0)) w'):
  wpList Tryz.prog ops Q (o::rest) a w:=by
 refine wpList_plain hgd fun K hK=> ?_
 have hrun:(execOp a.eval o).run Tryz.prog w=.ok (.value (.slice (some ⟨w.heap.size,0,none⟩) 0 0)) (w.alloc (.cells #[] 56)):=by
  have hb:(Instr.buildSlice 24 0 #[]).run Tryz.prog w=.ok (.slice (some ⟨w.heap.size,0,none⟩) 0 0) (w.alloc (.cells #[] 56)):=by
   have sz:∀ w,(sizeOf 56).run Tryz.prog w=.ok 9 w:=fun w=> by kernel_rfl
   have zv:∀ w,(zeroValue 56).run Tryz.prog w=.ok (.agg (wrC ⟨#[]⟩ 0 0 0 (tmC 0 0 0 ⟨#[]⟩ (.slice none 0 0))).toArray) w:=fun w=> by kernel_rfl
   have nr:∀ cs,(newRow 56 cs).run Tryz.prog w=.ok ⟨w.heap.size,0,none⟩ (w.alloc (.cells cs 56)):=fun cs=> by simp[newRow,Result.andThen]
   simp[Instr.buildSlice,run_underlying Tryz.underlying24,sz,zv,Result.andThen,Instr.fill,nr]
   first|done|(have e:∀ f:Nat→Value,Array.map f (Array.range 0)=#[]:=fun f=> Array.eq_empty_of_size_eq_zero (by simp);rw[e])
  unfold execOp
  simp[ho,hb,Result.andThen]
 unfold Oper.wp
 rw[hrun]
 refine hK _ _ (h _ (fun C=> ⟨[],⟨by simp,.inr ⟨w.heap.size,0,#[],rfl,Ah _,(Blk.new w [] _),Ah _,by unfold maxLen;omega,by simp,by simp⟩⟩,rfl,fun j h=> absurd h (by simp)⟩) ((Below.refl w.heap.size w).alloc (Ah _) _) (World.size_alloc _ _))
theorem Jh (v:Value) (l:List WrM) (F:Nat→Prop) (w:World) (hv:RwC (WrC F) 9 F w v l) (hl:l.length≤1000000000):
  Calls Tryz.prog 74 #[v] w (fun e w'=> ∃ v',e=.returned v'∧OwR (WrC F) 9 56 w.heap.size w' v' l∧Below w.heap.size w w'):=by
 have q22:∀ (w:World) (a:Option Addr) (n c n' c':Nat),(binOp .eql 24 (.slice a n c) (.slice none n' c')).run Tryz.prog w=.ok (.bool a.isNone) w:=fun w a n c n' c'=> Lib.run_eql_slice_nil w _ _ a n c n' c' Tryz.underlying24
 obtain⟨ao,c,rfl,hlc,hcm⟩:=hv.shape
 cases ao with
 | none=>
  obtain rfl:l=[]:=by
   cases l with
   | nil=> rfl
   | cons x t=>
    obtain⟨b,o,cs,e,-⟩:=hv.get (j:=0) (by simp)
    cases e
  clear hv hl hlc hcm
  go_enter Tryz.func74,Tryz.ntmps74
  go_wp2_with fail
  go_ret
  exact⟨_,rfl,OwR.nil,Below.refl _ _⟩
 | some ad=>
  obtain⟨i0,hi0,hz0,hz1,hz2⟩:=info_parts Tryz.infoRW
  obtain⟨css,k1,k2,k3⟩:=hv.css
  have k5:=B1 k1 k2
  have k6:∀ u∈css.flatten,u.oneCell'=true:=fun u hu=> by
   obtain⟨cs,hcs,hu⟩:=List.mem_flatten.1 hu
   obtain⟨j,hj,rfl⟩:=List.mem_iff_getElem.1 hcs
   exact(fun cs a _ h=> WrC.one h) _ _ (List.getElem_mem (show j<l.length by omega)) (k2 j hj (by omega)).2 u hu
  have k7:∀ j u,css.flatten[j]?=some u→w.cell? (ad.add j)=some u:=fun j u hu=> by
   rcases Nat.eq_zero_or_pos l.length with h0|h0
   ·have:css=[]:=List.eq_nil_of_length_eq_zero (by omega)
    subst this;simp at hu
   ·obtain⟨b',o',c',e,hra⟩:=k3 h0
    simp only[Value.slice.injEq,Option.some.injEq,true_and] at e
    obtain⟨rfl,-⟩:=e
    exact C8 k5 hra j u hu
  have HI:=Ag (Ai hi0 (Ai hz0 (Ai hz1 hz2)))
  have HK:=Ag (Ai k1 (Ai k2 (Ai k5 (Ai k6 k7))))
  have HL:=Ag hl
  obtain⟨L,hL⟩:∃ L,l.length=L:=⟨_,rfl⟩
  have HLL:=Ag hL
  rw[hL] at hlc hl ⊢
  clear hv hL hi0 hz0 hz1 hz2 k1 k2 k3 k5 k6 k7
  go_enter Tryz.func74,Tryz.ntmps74
  go_wp2_with (first
   | ((with_reducible refine FQ w rfl rfl ?_);intro w1 hown hbel hsz;have H1:=Ag (Ai (hown (WrC F)) (Ai hbel hsz));clear hown hbel hsz)
   | (at_builtin;refine wpList_append_own_at w1 rfl (.tmp 5) (.tmp 6) _ rfl w.heap.size 56 i0 _ 9 104 Tryz.underlying24 HI.out.1 HI.out.2.1 HI.out.2.2.1 HI.out.2.2.2 rfl (by omega) _ 0 [] rfl (by obtain⟨q,q1,q2,-⟩:=H1.out.1;obtain rfl:q=[]:=List.eq_nil_of_length_eq_zero q2;exact q1) ad L c css.flatten rfl (by rw[BA HK.out.2.2.1,HK.out.1,HLL.out]) (fun j u hu=> by have h:=HK.out.2.2.2.2 j u hu;exact(H1.out.2.1.cell (Am h)).trans h) HK.out.2.2.2.1 (by unfold maxLen;omega) (by omega) H1.out.2.1.size ?_))
  intro v2 w2 hown hgr _ _
  have hb2:Below w.heap.size w w2:=H1.out.2.1.grown hgr H1.out.2.1.size (fun j e=> by cases e;exact Ah _)
  have H2:=Ag (show OwR (WrC F) 9 56 w.heap.size w2 v2 l from⟨css,by rw[HLL.out];simpa using hown,HK.out.1,fun j a b=> ⟨(HK.out.2.1 j a b).1,by have h:=(HK.out.2.1 j a b).2;have hb:=hb2;exact WrC.below h hb⟩⟩)
  have H3:=Ag hb2
  obtain⟨ao2,c2,rfl⟩:=AY hown
  clear hown hgr hb2
  go_wp2_with fail
  go_ret
  exact⟨_,rfl,H2.out,H3.out⟩
mutual
def Fd:Tm→Bool
 | .mk _ _ _ _ ks=> decide (ks.length≤10) && Fy ks
def Fy:List Tm→Bool
 | []=> true
 | t::ts=> Fd t && Fy ts
end
theorem G0:∀ {ts:List Tm},Fy ts=true↔∀ t∈ts,Fd t=true
 | []=> by rw[Fy];simp
 | t::ts=> by rw[Fy,Bool.and_eq_true,G0];simp
theorem Tryz.sizeTs1:(Tryz.prog.info? 27).map (·.size)=some 1:=by kernel_rfl
theorem SlT.rwc {F:Nat→Prop} {w:World} {v:Value} {ts:List Tm} (h:SlT F w v ts):RwC (TmC F) 5 F w v ts:=by
 obtain⟨ao,c,h1,h2,h3,h4⟩:=h
 refine⟨ao,c,h1,h2,h3,fun h0=> ?_⟩
 obtain⟨b,o,e,hF,hb,ha⟩:=h4 h0
 refine⟨b,o,e,hF,hb,fun j hj=> ?_⟩
 obtain⟨cs,k1,k2⟩:=ha.get j hj
 exact⟨cs,k2.len,k1,k2⟩
theorem RwC.slt {F:Nat→Prop} {w:World} {v:Value} {ts:List Tm} (h:RwC (TmC F) 5 F w v ts):SlT F w v ts:=by
 obtain⟨ao,c,h1,h2,h3,h4⟩:=h
 refine⟨ao,c,h1,h2,h3,fun h0=> ?_⟩
 obtain⟨b,o,e,hF,hb,ha⟩:=h4 h0
 refine⟨b,o,e,hF,hb,AtC.mk' fun j hj=> ?_⟩
 obtain⟨cs,k0,k1,k2⟩:=ha j hj
 exact⟨cs,k1,k2⟩
theorem Di {P c0 c R:List Value} (h:c.length=c0.length):AU (P ++ (c0 ++ R)) P.length c=P ++ (c ++ R):=by
 apply List.ext_getElem?
 intro i
 rw[Cm _ _ _ (by simp;omega) i]
 by_cases h1:i<P.length
 ·rw[if_neg (by omega),List.getElem?_append_left h1,List.getElem?_append_left h1]
 ·have e1:(P ++ (c ++ R))[i]?=(c ++ R)[i - P.length]?:=List.getElem?_append_right (by omega)
  have e2:(P ++ (c0 ++ R))[i]?=(c0 ++ R)[i - P.length]?:=List.getElem?_append_right (by omega)
  rw[e1,e2]
  by_cases h2:i - P.length<c.length
  ·rw[if_pos (by omega),List.getElem?_append_left h2]
  ·rw[if_neg (by omega),List.getElem?_append_right (by omega),List.getElem?_append_right (by omega),h]
theorem KL {sz:Nat} {css:List (List Value)} {j:Nat} {c:List Value} (hl:∀ x∈css,x.length=sz) (hj:j<css.length) (hc:c.length=sz):AU css.flatten (j* sz) c=(css.set j c).flatten:=by
 have e:css=css.take j ++ css[j]::css.drop (j+1):=by rw[←List.drop_eq_getElem_cons hj,List.take_append_drop]
 have e2:css.set j c=css.take j ++ c::css.drop (j+1):=by rw[List.set_eq_take_append_cons_drop,if_pos hj]
 have hp:(css.take j).flatten.length=j* sz:=by
  rw[BA (fun x hx=> hl x (List.mem_of_mem_take hx)),List.length_take,Nat.min_eq_left (by omega)]
 have e3:css.flatten=(css.take j).flatten ++ (css[j] ++ (css.drop (j+1)).flatten):=by
  have:=congrArg List.flatten e
  rw[List.flatten_append,List.flatten_cons] at this
  exact this
 rw[e3,e2,List.flatten_append,List.flatten_cons,←hp,Di (by rw[hc,hl _ (List.getElem_mem hj)])]
theorem CU {base:Nat} {e:TypeId} {size g n cap:Nat}:∀ (cs:List Value) (j:Nat) (w:World) (xs:List Value),w.ownsRow base e size (.slice (some ⟨g,0,none⟩) n cap) n xs→(w.setCells g j cs).ownsRow base e size (.slice (some ⟨g,0,none⟩) n cap) n (AU xs j cs)
 | [],_,_,_,h=> h
 | c::cs,j,w,xs,h=> CU cs (j+1) _ _ (h.stored j c).1
def C9 (F:Nat→Prop) (B:Nat) (w:World) (v:Value) (ks:List Tm) (j:Nat):Prop:=
 ∃ css:List (List Value),w.ownsRow B 29 5 v ks.length css.flatten∧css.length=ks.length∧∀ i (h1:i<css.length) (h2:i<ks.length),css[i].length=5∧(i<j→TmC (fun k=> B≤k∧v.ownBlock≠some k) w css[i] ks[i])∧(j≤i→TmC F w css[i] ks[i])
section
variable {F:Nat→Prop} {B:Nat} {w w':World} {v:Value} {ks:List Tm} {j:Nat}
theorem C9.of (h:OwR (TmC F) 5 29 B w v ks):C9 F B w v ks 0:=by
 obtain⟨css,h1,h2,h3⟩:=h
 exact⟨css,h1,h2,fun i a b=> ⟨(h3 i a b).1,fun h=> absurd h (Nat.not_lt_zero _),fun _=> (h3 i a b).2⟩⟩
theorem C9.keep {S:Nat→Prop} (h:C9 F B w v ks j) (hc:Ch S w w') (h1:∀ k,B≤k→¬ S k) (h2:∀ k,F k→¬ S k):C9 F B w' v ks j:=by
 obtain⟨css,k1,k2,k3⟩:=h
 exact⟨css,A9 k1 hc (fun k hk=> h1 k (k1.lt k hk).1),k2,fun i a b=> ⟨(k3 i a b).1,fun h=> ((k3 i a b).2.1 h).keep hc (fun k hk=> h1 k hk.1),fun h=> ((k3 i a b).2.2 h).keep hc h2⟩⟩
theorem C9.below (h:C9 F B w v ks j) (hb:Below w.heap.size w w'):C9 F B w' v ks j:=h.keep (Ch.of_below (S:=fun _=> False) hb (Ah _)) (fun _ _ h=> h) (fun _ _ h=> h)
theorem C9.at (h:C9 F B w v ks j) (hj:j<ks.length):∃ g c cs,v=.slice (some ⟨g,0,none⟩) ks.length c∧B≤g∧g<w.heap.size∧cs.length=5∧w.rangeAt g (j* 5) cs∧TmC F w cs ks[j]∧w.there g (j* 5) 5∧
  ∀ cs',TmC (fun k=> B≤k∧k≠g) w cs' ks[j]→(∀ k,F k→k<B)→C9 F B (w.setCells g (j* 5) cs') v ks (j+1):=by
 obtain⟨css,k1,k2,k3⟩:=h
 have h5:=B1 k2 k3
 obtain⟨hl,⟨rfl,hn⟩|⟨g,cap,cur,rfl,hbg,hg,hnc,hcm,hcs,htake⟩⟩:=id k1
 ·omega
 have hj':j<css.length:=by omega
 have hcell:∀ i u,css[j][i]?=some u→w.cell? ⟨g,j* 5+i,none⟩=some u:=fun i u hu=> by
  have hi:i<5:=by have:=(List.getElem?_eq_some_iff.1 hu).1;rw[h5 _ (List.getElem_mem hj')] at this;exact this
  have hc:=k1.cells (g:=g) rfl (j* 5+i) u (by rw[CX h5 hj' hi];exact hu)
  rw[Addr.add_lit,Nat.zero_add] at hc
  exact hc
 refine⟨g,cap,css[j],rfl,hbg,lt_of_block hg,h5 _ (List.getElem_mem hj'),hcell,(k3 j hj' hj).2.2 (Ah _),fun i hi=> ?_,fun cs' ht hF=> ⟨css.set j cs',?_,by rw[List.length_set];exact k2,fun i a b=> ?_⟩⟩
 ·have hi':i<css[j].length:=by rw[h5 _ (List.getElem_mem hj')];exact hi
  rw[hcell i css[j][i] (List.getElem?_eq_getElem hi'),k1.frozenAt];simp
 ·rw[←KL h5 hj' ht.len]
  exact CU _ _ _ _ k1
 ·have hch:=AH g cs' (j* 5) w
  have hnew:∀ (cs:List Value) (u:Tm),TmC (fun k=> B≤k∧k≠g) w cs u→TmC (fun k=> B≤k∧(Value.slice (some ⟨g,0,none⟩) ks.length cap).ownBlock≠some k) (w.setCells g (j* 5) cs') cs u:=fun cs u hu=> (hu.keep hch (fun k hk e=> hk.2 e)).mono fun k hk=> ⟨hk.1,fun e=> hk.2 (by cases e;rfl)⟩
  by_cases hij:i=j
  ·subst hij
   rw[List.getElem_set_self]
   exact⟨ht.len,fun _=> hnew _ _ ht,fun h=> by omega⟩
  ·rw[List.getElem_set_ne (fun e=> hij e.symm)]
   have h0:=k3 i (by rw[List.length_set] at a;exact a) b
   exact⟨h0.1,fun h=> hnew _ _ ((h0.2.1 (by omega)).mono fun k hk=> ⟨hk.1,fun e=> hk.2 (by rw[e];rfl)⟩),fun h=> (h0.2.2 (by omega)).keep hch (fun k hk e=> by have e:k=g:=e;have:=hF k hk;omega)⟩
theorem C9.at' {g n c:Nat} (h:C9 F B w (.slice (some ⟨g,0,none⟩) n c) ks j) (hj:j<ks.length):B≤g∧g<w.heap.size∧∃ cs,cs.length=5∧w.rangeAt g (j* 5) cs∧TmC F w cs ks[j]∧w.there g (j* 5) 5∧
  ∀ cs',TmC (fun k=> B≤k∧k≠g) w cs' ks[j]→(∀ k,F k→k<B)→C9 F B (w.setCells g (j* 5) cs') (.slice (some ⟨g,0,none⟩) n c) ks (j+1):=by
 obtain⟨g',c',cs,e,h1,h2,h3,h4,h5,h6,h7⟩:=h.at hj
 simp only[Value.slice.injEq,Option.some.injEq,Addr.mk.injEq,and_true,true_and] at e
 obtain⟨rfl,-,-⟩:=e
 exact⟨h1,h2,cs,h3,h4,h5,h6,h7⟩
theorem C9.done (h:C9 F B w v ks j) (hj:ks.length≤j):SlT (B≤·) w v ks:=by
 obtain⟨css,k1,k2,k3⟩:=h
 have h:OwR (TmC (B≤·)) 5 29 B w v ks:=⟨css,k1,k2,fun i a b=> ⟨(k3 i a b).1,((k3 i a b).2.1 (by omega)).mono fun k hk=> hk.1⟩⟩
 exact(h.rwc.mono (C':=TmC (B≤·)) (G:=(B≤·)) (fun k hk=> (h.lt k hk).1) (fun _ _ _ h=> h)).slt
end
def CopyT (w:World) (t:Tm) (e:Ending) (w':World):Prop:=∃ cs,e=.returned (.agg cs.toArray)∧TmC (w.heap.size≤·) w' cs t∧Below w.heap.size w w'
theorem B4:∀ (t:Tm) (cs:List Value) (F:Nat→Prop) (w:World),Fd t=true→TmC F w cs t→Calls Tryz.prog 29 #[.agg cs.toArray] w (CopyT w t):=by
 refine Tm.ind fun k u n s ks ih cs F w hf ht=> ?_
 obtain⟨ao,c,rfl,hmc,hcm,hsl⟩:=ht.shape
 simp only[Tm.k,Tm.u,Tm.n,Tm.s,Tm.ks] at hmc hsl ⊢
 rw[Fd,Bool.and_eq_true,decide_eq_true_eq] at hf
 have HIH:=Ag (show ∀ t∈ks,_ from fun t ht=> fun cs F w h=> ih t ht cs F w (G0.1 hf.2 t ht) h)
 obtain⟨m,hm⟩:∃ m,ks.length=m:=⟨_,rfl⟩
 have HM:=Ag hm
 have hm10:m≤10:=by omega
 rw[hm] at hsl hmc ⊢
 have HSL:=Ag hsl.old
 clear ht hsl hm hmc hcm ih hf
 go_enter Tryz.func29,Tryz.ntmps29
 go_upto_region 1 with(first
  | ((with_reducible refine Au w rfl 29 (.tmp 0) rfl (tmC k u n s (.slice ao m c)) rfl ?_);intro a1 hb hbel hsz;have H1:=Ag (Ai hb hbel);clear hb hbel hsz)
  | ((with_reducible refine Av a1 rfl 29 rfl (tmC 0 0 0 ⟨#[]⟩ (.slice none 0 0)) Tryz.zeroTm ?_);intro a2 hb hbel hsz;have H2:=hJ3 (H1.out.1.below hbel H1.out.1.lt) hb (An H1.out.2 hbel (Ah _));clear hb hbel hsz))
 simp only[Al,Ad,Ae,Af]
 have HG:=hJ2 H1.out.1.lt H2.out.2.1.lt
 have c4:=H2.out.1.cell 4
 simp only[tmC,Ab,Ac] at c4
 go_wp2_with fail
 refine(Je _ ks _ a2 (HSL.out.below H2.out.2.2).rwc (by rw[HM.out];omega)).mono ?_
 rintro e' b1 ⟨v1,rfl,hown,hb⟩
 obtain⟨oz,pz,rfl,-,-⟩:=hown.shape
 rw[HM.out] at hown ⊢
 have HO:=Ag (C9.of hown)
 have HB1:=hJ3 (H2.out.1.below hb H2.out.1.lt) (H2.out.2.1.below hb H2.out.2.1.lt) (An H2.out.2.2 hb (Ah _))
 have HS1:=Ag (show a2.heap.size≤b1.heap.size from hb.size)
 clear hown hb c4
 go_upto_region 2 with(first
  | ((with_reducible refine AI b1 rfl 27 (.tmp 7) (.tmp 6) rfl w.heap.size 4 29 _ HB1.out.1 rfl (.slice oz m pz) rfl (by simp[tmC]) Tryz.sizeTs1 rfl rfl ?_);intro z1 hb hc hs;have HY:=Ag (show(Blk z1 w.heap.size 29 (tmC k u n s (.slice oz m pz))∧Blk z1 a1.heap.size 29 (tmC 0 0 0 ⟨#[]⟩ (.slice none 0 0))∧Below w.heap.size w z1)∧C9 (·<w.heap.size) (a2.heap.size) z1 (.slice oz m pz) ks 0∧a2.heap.size≤z1.heap.size from⟨⟨hb,HB1.out.2.1.keep hc (fun e=> by have e:a1.heap.size=w.heap.size:=e;have:=HG.out;omega),Aw HB1.out.2.2 hc (Ah _) (fun q hq=> by have e:q=w.heap.size:=hq;omega)⟩,(HO.out.keep hc (fun k hk e=> by have e:k=w.heap.size:=e;have:=HG.out;omega) (fun k hk e=> by have e:k=w.heap.size:=e;have hk:k<w.heap.size:=hk;omega)),by rw[hs];exact HS1.out⟩);clear hb hc hs))
 try simp only[Al,Ad,Ae,Af]
 have c4:=HY.out.1.1.cell 4
 simp only[tmC,Ab,Ac] at c4
 go_wp2_with fail
 clear c4
 have HY2:=Ag (show Blk z1 w.heap.size 29 (tmC k u n s (.slice oz m pz))∧Blk z1 a1.heap.size 29 (tmC 0 0 0 ⟨#[]⟩ (.slice none 0 0))∧a2.heap.size≤z1.heap.size∧C9 (·<w.heap.size) (a2.heap.size) z1 (.slice oz m pz) ks 0∧Below w.heap.size w z1 from⟨HY.out.1.1,HY.out.1.2.1,HY.out.2.2,HY.out.2.1,HY.out.1.2.2⟩)
 go_loopw [3,11] (fun s3 s11 wr=> ∃ j:Nat,s11=.int .i64 j∧j≤m∧Hid (Blk wr w.heap.size 29 (tmC k u n s (.slice oz m pz))∧Blk wr a1.heap.size 29 (tmC 0 0 0 ⟨#[]⟩ (.slice none 0 0))∧a2.heap.size≤wr.heap.size∧C9 (·<w.heap.size) (a2.heap.size) wr (.slice oz m pz) ks j∧Below w.heap.size w wr)) (fun _ s11 _=> m - (intOf s11).toNat)
 case atStart=> exact⟨0,rfl,Nat.zero_le _,HY2⟩
 case round=>
  clear HY HY2 H1 H2 HB1 HS1 HO
  obtain⟨j,rfl,hj,HZ⟩:=hrel
  by_cases hlt:j<m
  ·have hjk:j<ks.length:=by rw[HM.out];exact hlt
   have hjz:(j:Int)<(m:Int):=by omega
   have hj0:(0:Int)≤(j:Int):=by omega
   have hmix:=HZ.out.2.2.2.1
   obtain⟨g,cg,cs,e,hg1,hg2,hcl,hra,htm,hth,hput⟩:=hmix.at hjk
   rw[HM.out] at e
   obtain⟨rfl,rfl⟩:oz=some ⟨g,0,none⟩∧pz=cg:=by simpa using e
   have HGG:=Ag (show a2.heap.size≤g from hg1)
   have HMEM:=Ag (List.getElem_mem hjk)
   have c4:=HZ.out.1.cell 4
   simp only[tmC,Ab,Ac] at c4
   clear hmix e hra htm hth hput hg1 hg2 hcl
   go_wp2_with fail
   refine Az (fun W=> W.cell? ⟨w.heap.size,4,none⟩=some (.slice (some ⟨g,0,none⟩) m pz)) [0,1,2,3,4,5,6] 4 (by kernel_rfl) rfl (by kernel_rfl) (by kernel_rfl) (HZ.out.1.cell 4) ?_
   clear c4
   iterate 7(refine' AK.run ?_ ?_ ?_ ?_;rotate_left 2;(simp only[Aa,Ab,Ac];rfl);rfl;(rintro w' k0;go_simp;with_reducible rfl);simp only[Al,Ad,Ae,Af])
   have sm:=(Sm.refl wr).drew
   have HV2:=Ag (show Blk wr.drew w.heap.size 29 (tmC k u n s (.slice (some ⟨g,0,none⟩) m pz))∧Blk wr.drew a1.heap.size 29 (tmC 0 0 0 ⟨#[]⟩ (.slice none 0 0))∧a2.heap.size≤wr.drew.heap.size∧C9 (·<w.heap.size) (a2.heap.size) wr.drew (.slice (some ⟨g,0,none⟩) m pz) ks j∧Below w.heap.size w wr.drew from⟨HZ.out.1.below (sm.below _) HZ.out.1.lt,HZ.out.2.1.below (sm.below _) HZ.out.2.1.lt,(Aj HZ.out.2.2.1 (sm.below 0).size),HZ.out.2.2.2.1.below (sm.below _),An HZ.out.2.2.2.2 (sm.below _) (Ah _)⟩)
   clear sm
   generalize wr.drew=v1 at HV2 ⊢
   refine' Ar 7 (by kernel_rfl) ?_ ?_;rotate_left;(simp only[Aa,Ab,Ac];rfl)
   obtain⟨hg1,hg2,cs,hcl,hra,htm,hth,-⟩:=HV2.out.2.2.2.1.at' hjk
   have HK:=Ag (Ai hg2 htm)
   try simp only[Al,Ad,Ae,Af]
   refine Ap rfl 29 (.tmp 20) rfl g (j* 5) rfl cs _ hra Tryz.underlying29 rfl (At Tryz.infoTm hcl) ?_
   clear hg1 hg2 hcl hra htm hth
   refine QK.normal ⟨(HV2.out.1.cell 4),?_⟩
   refine' Ar 8 (by kernel_rfl) ?_ ?_;rotate_left;(simp only[Aa,Ab,Ac];rfl)
   try simp only[Al,Ad,Ae,Af]
   go_wp2_with fail
   refine(HIH.out ks[j] HMEM.out cs _ _ HK.out.2).mono ?_
   rintro e' y1 ⟨cs',rfl,htm,hb⟩
   have HY1:=Ag (show Blk y1 w.heap.size 29 (tmC k u n s (.slice (some ⟨g,0,none⟩) m pz))∧Blk y1 a1.heap.size 29 (tmC 0 0 0 ⟨#[]⟩ (.slice none 0 0))∧a2.heap.size≤y1.heap.size∧C9 (·<w.heap.size) (a2.heap.size) y1 (.slice (some ⟨g,0,none⟩) m pz) ks j∧Below w.heap.size w y1∧TmC (fun k=> a2.heap.size≤k∧k≠g) y1 cs' ks[j] from⟨HV2.out.1.below hb HV2.out.1.lt,HV2.out.2.1.below hb HV2.out.2.1.lt,(Aj HV2.out.2.2.1 hb.size),HV2.out.2.2.2.1.below hb,An HV2.out.2.2.2.2 hb (Ah _),htm.mono fun k hk=> ⟨Aj HV2.out.2.2.1 hk,fun e=> by have h1:=HK.out.1;have hk:v1.heap.size≤k:=hk;omega⟩⟩)
   clear htm hb
   go_wp2_with fail
   refine QK.normal ⟨(HY1.out.1.cell 4),?_⟩
   refine' Ar 9 (by kernel_rfl) ?_ ?_;rotate_left;(simp only[Aa,Ab,Ac];rfl)
   try simp only[Al,Ad,Ae,Af]
   go_wp2_with fail
   refine QK.normal ⟨(HY1.out.1.cell 4),?_⟩
   refine' Ar 10 (by kernel_rfl) ?_ ?_;rotate_left;(simp only[Aa,Ab,Ac];rfl)
   try simp only[Al,Ad,Ae,Af]
   obtain⟨hg1,hg2,cs2,-,-,-,hth,hput⟩:=HY1.out.2.2.2.1.at' hjk
   have HNL:=Ag HY1.out.2.2.2.2.2.len
   refine wpList_store_mid rfl 29 (.tmp 23) (.tmp 22) rfl g (j* 5) cs'.toArray rfl rfl (by simp only[List.size_toArray];rw[HNL.out];exact hth) (by simp only[List.size_toArray];rw[HNL.out];exact Tryz.infoTm) (all_oneCell_toArray HY1.out.2.2.2.2.2.one) ?_
   have hc:=AH g cs' (j* 5) y1
   have HY2:=Ag (show Blk (y1.setCells g (j* 5) cs') w.heap.size 29 (tmC k u n s (.slice (some ⟨g,0,none⟩) m pz))∧Blk (y1.setCells g (j* 5) cs') a1.heap.size 29 (tmC 0 0 0 ⟨#[]⟩ (.slice none 0 0))∧a2.heap.size≤(y1.setCells g (j* 5) cs').heap.size∧C9 (·<w.heap.size) (a2.heap.size) (y1.setCells g (j* 5) cs') (.slice (some ⟨g,0,none⟩) m pz) ks (j+1)∧Below w.heap.size w (y1.setCells g (j* 5) cs') from⟨HY1.out.1.keep hc (fun e=> by have e:w.heap.size=g:=e;have:=HG.out;have:=HGG.out;omega),HY1.out.2.1.keep hc (fun e=> by have e:a1.heap.size=g:=e;have:=HG.out;have:=HGG.out;omega),(Aj HY1.out.2.2.1 hc.size),hput _ HY1.out.2.2.2.2.2 (fun k hk=> by have hk:k<w.heap.size:=hk;have:=HG.out;omega),Aw HY1.out.2.2.2.2.1 hc (Ah _) (fun q hq=> by have e:q=g:=hq;have:=HG.out;have:=HGG.out;omega)⟩)
   clear hc hg1 hg2 hth hput
   try simp only[List.toList_toArray]
   generalize y1.setCells g (j* 5) cs'=y2 at HY2 ⊢
   refine QK.normal ⟨(HY2.out.1.cell 4),?_⟩
   refine wpAnyH_done (by kernel_rfl) ?_ _
   refine NoPanic.normal ?_
   go_wp2_with fail
   go_roundw
   case measure=> simp[intOf];omega
   case rel=> exact⟨j+1,by go_num,by omega,HY2⟩
  ·have hge:¬ (j:Int)<(m:Int):=by omega
   go_wp2_with (first
  | (with_reducible refine Ap rfl 29 (.tmp 1) rfl (w.heap.size) 0 rfl (tmC k u n s (.slice oz m pz)) _ (As HZ.out.1) Tryz.underlying29 rfl (A8 _ _ _ _ _) ?_)
  | ((with_reducible refine Ao wr rfl 29 (.tmp 2) (.tmp 25) rfl (a1.heap.size) 29 (tmC 0 0 0 ⟨#[]⟩ (.slice none 0 0)) (tmC k u n s (.slice oz m pz)) HZ.out.2.1 rfl rfl rfl (A8 _ _ _ _ _) (AR _ _ _ _ _ _ _) ?_);intro z2 hb hc hs;have HX:=Ag (Ai hb hc);clear hb hc hs))
   refine bodyPost_ret (AA Tryz.results29 _ _ (a1.heap.size) _ _ rfl HX.out.1 _ Tryz.underlying29 rfl (A8 _ _ _ _ _)) rfl ?_
   have k0:=HZ.out.2.2.2.1.keep HX.out.2 (fun q hq e=> by have e:q=a1.heap.size:=e;have:=HG.out;omega) (fun q hq e=> by have e:q=a1.heap.size:=e;have hq:q<w.heap.size:=hq;have:=HG.out;omega)
   have k1:=(k0.done (by rw[HM.out];omega)).mono (G:=(w.heap.size≤·)) (fun q hq=> by have hq:a2.heap.size≤q:=hq;have:=HG.out;omega)
   obtain⟨ao',c',e,k2⟩:=k1
   exact⟨_,rfl,B0.2 ⟨_,rfl,ao',c',e,k2⟩,Aw HZ.out.2.2.2.2 HX.out.2 (Ah _) (fun q hq=> by have e:q=a1.heap.size:=hq;have:=HG.out;omega)⟩
end Go.Proofs.YtgdlfiphihaooaaGreat

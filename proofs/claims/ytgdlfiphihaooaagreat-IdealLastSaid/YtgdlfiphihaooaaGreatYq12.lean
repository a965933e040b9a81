import Derived.Test.YtgdlfiphihaooaaGreatYq11
set_option linter.unusedSimpArgs false
set_option linter.unusedVariables false
set_option maxRecDepth 100000
set_option maxHeartbeats 8000000
open _root_.List renaming getElem?_toArray→Aa,getElem?_cons_zero→Ab,getElem?_cons_succ→Ac,setIfInBounds_toArray→Ad,set_cons_zero→Ae,set_cons_succ→Af
open _root_.Go.Lib renaming hid→Ag
open _root_.Nat renaming le_refl→Ah,le_trans→Aj,lt_of_lt_of_le→Ak
open _root_.And renaming intro→Ai
open _root_.Go.Act renaming put→Al
namespace Go.Proofs.YtgdlfiphihaooaaGreat
open Go Go.RowKit
theorem Tryz.zeroCi:∀ w,(zeroValue 49).run Tryz.prog w=.ok (.agg (ciC 0 0 (.slice none 0 0)).toArray) w:=fun w=> by kernel_rfl
theorem Tryz.zeroFl:∀ w,(zeroValue 45).run Tryz.prog w=.ok (.agg (flC ⟨#[]⟩ 0 0 (.slice none 0 0) (.slice none 0 0) (.slice none 0 0) 0 0 0 (tmC 0 0 0 ⟨#[]⟩ (.slice none 0 0))).toArray) w:=fun w=> by kernel_rfl
def By (s:IdM) (n:Int):Nat × Bool:=AU (fun x=> BA x.n n) s.cs
def DG (s:IdM) (o n:Int):Bool:=(By s n).2 && (((s.cs[(By s n).1]?.map CirM.o).getD 0)==o)
def Dr (s:IdM) (f:FileM):Bool:=(okB f.p && ((BI f.nm==f.p.o) && (decide (f.e≤f.p.e) && wrB (Bl f)))) && f.p.g.all (DG s f.p.o)
def Hm (s:IdM):Bool:=decide (s.fs.length≤6) && decide (s.ws.length≤400)
def upB (s:IdM):Bool:=BF (fun x y:FileM=> geS x.nm y.nm) s.fs && BF (fun x y:CirM=> geN x.n y.n) s.cs
def Es (s:IdM):Bool:=(((Hm s && upB s) && s.cs.all Er) && s.fs.all (Dr s)) && s.ws.all wrB
theorem DV {α:Type} {c:α→Int} {l:List α} (h:(AU c l).2=true):(AU c l).1<l.length∧Dh c l (AU c l).1=0:=by
 unfold AU at h ⊢
 simp only[Bool.and_eq_true,decide_eq_true_eq,beq_iff_eq] at h
 exact h
theorem Di (s:IdM) (cs:List Value) (F:Nat→Prop) (w:World) (hs:IdC F w cs s) (hl:s.cs.length≤1000000000):
  Calls Tryz.prog 16 #[.agg cs.toArray] w (fun e w'=> e=.returned (.int .i64 (if Es s=true then 0 else 282))∧Below w.heap.size w w'):=by
 have HID:=Ag (Ai hs hl)
 obtain⟨vf,vc,vw,rfl,hf,hc,hw⟩:=hs
 obtain⟨fa,fq,rfl,f2,f3⟩:=RwC.shape hf
 obtain⟨ca,cq,rfl,c2,c3⟩:=RwC.shape hc
 obtain⟨wa,wq,rfl,w2,w3⟩:=RwC.shape hw
 have HF:=Ag (show RwC (FlC F) 14 F w (.slice fa s.fs.length fq) s.fs from hf)
 have HC:=Ag (show RwC (CiC F) 3 F w (.slice ca s.cs.length cq) s.cs from hc)
 have HW:=Ag (show RwC (WrC F) 9 F w (.slice wa s.ws.length wq) s.ws from hw)
 obtain⟨R,hR⟩:∃ R:Int,(if Es s=true then 0 else 282)=R:=⟨_,rfl⟩
 rw[hR]
 have HR:=Ag hR
 obtain⟨fn,hfn⟩:∃ n,s.fs.length=n:=⟨_,rfl⟩
 obtain⟨cn,hcn⟩:∃ n,s.cs.length=n:=⟨_,rfl⟩
 obtain⟨wn,hwn⟩:∃ n,s.ws.length=n:=⟨_,rfl⟩
 have HN:=Ag (Ai hfn (Ai hcn hwn))
 have hb1:fn≤9223372036854775807:=by unfold maxLen at f3;omega
 have hb2:cn≤9223372036854775807:=by unfold maxLen at c3;omega
 have hb3:wn≤9223372036854775807:=by unfold maxLen at w3;omega
 rw[hfn] at HF f2
 rw[hcn] at HC c2
 rw[hwn] at HW w2
 rw[hfn,hcn,hwn] at HID ⊢
 clear hf hc hw hl hR hfn hcn hwn f3 c3 w3
 obtain⟨ics,hics⟩:∃ l:List Value,[.slice fa fn fq,.slice ca cn cq,.slice wa wn wq]=l:=⟨_,rfl⟩
 have HIC:=Ag (show ics[0]?=some (.slice fa fn fq)∧ics[1]?=some (.slice ca cn cq)∧ics[2]?=some (.slice wa wn wq)∧ics.length=3 from by rw[←hics];exact⟨rfl,rfl,rfl,rfl⟩)
 rw[hics] at HID ⊢
 clear hics
 have H0:=Ag (Below.refl w.heap.size w)
 go_enter Tryz.func16,Tryz.ntmps16
 go_upto_region 1 with(first
  | ((with_reducible refine Au w rfl 26 (.tmp 0) rfl (ics) rfl ?_);intro a1 hb hbel hsz;have H1:=hJ2 (An H0.out hbel (Ah _)) hb;clear hb hbel hsz))
 have x0:=H1.out.2.cell 0;have x1:=H1.out.2.cell 1;have x2:=H1.out.2.cell 2;rw[HIC.out.1] at x0;rw[HIC.out.2.1] at x1;rw[HIC.out.2.2.1] at x2
 go_cut [3] from 14 to 130 (fun s3 wc=> s3=.bool (Hm s)∧a1=wc)
 case first=>
  have hlb:Hm s=(decide (fn≤6) && decide (wn≤400)):=by unfold Hm;rw[HN.out.1,HN.out.2.2]
  have HLB:=Ag hlb
  clear hlb
  by_cases q0:(fn:Int)≤6
  ·by_cases q1:(wn:Int)≤400
   ·have HE:=Ag (show Hm s=true from by rw[HLB.out,decide_eq_true (show fn≤6 by omega),decide_eq_true (show wn≤400 by omega)];rfl)
    go_wp2_with fail
    go_meet
    exact⟨by rw[HE.out],rfl⟩
   ·have HE:=Ag (show Hm s=false from by rw[HLB.out,decide_eq_false (show ¬ wn≤400 by omega),Bool.and_false])
    go_wp2_with fail
    go_meet
    exact⟨by rw[HE.out],rfl⟩
  ·have HE:=Ag (show Hm s=false from by rw[HLB.out,decide_eq_false (show ¬ fn≤6 by omega),Bool.false_and])
   go_wp2_with fail
   go_meet
   exact⟨by rw[HE.out],rfl⟩
 case rest=>
  obtain⟨rfl,rfl⟩:=hcut
  generalize hlb:Hm s=lb
  have HLB:=Ag hlb
  clear hlb
  have HRF:=Ag (fun W (h:Below w.heap.size w W)=> show RwF F W (.slice fa fn fq) s.fs from by have h2:=HF.out;rw[←HN.out.1] at h2 ⊢;exact RwF.below (F:=F) h2 h)
  have HRC:=Ag (fun W (h:Below w.heap.size w W)=> show RwI F W (.slice ca cn cq) s.cs from by have h2:=HC.out;rw[←HN.out.2.1] at h2 ⊢;exact RwI.below (F:=F) h2 h)
  obtain⟨uf,huf⟩:∃ b,BF (fun x y:FileM=> geS x.nm y.nm) s.fs=b:=⟨_,rfl⟩
  obtain⟨uc,huc⟩:∃ b,BF (fun x y:CirM=> geN x.n y.n) s.cs=b:=⟨_,rfl⟩
  have HU:=Ag (Ai huf huc)
  have HUB:=Ag (show upB s=(uf && uc) from by unfold upB;rw[huf,huc])
  clear huf huc
  go_upto_region 2 with fail
  go_cut [3] from 24 to 130 (fun s3 wc=> s3=.bool (lb && upB s)∧Hid (Below w.heap.size w wc∧Blk wc w.heap.size 26 (ics)))
  case first=>
   cases lb
   ·go_wp2_with fail
    go_meet
    exact⟨rfl,H1⟩
   ·go_wp2_with fail
    refine Calls.mono (Jc _ s.fs F a1 (HRF.out a1 H1.out.1)) ?_
    rintro e' a2 ⟨rfl,hb⟩
    have H2:=hJ2 (An H1.out.1 hb (Ah _)) (H1.out.2.below hb H1.out.2.lt)
    clear hb x0 x1 x2
    have x0:=H2.out.2.cell 0;have x1:=H2.out.2.cell 1;have x2:=H2.out.2.cell 2;rw[HIC.out.1] at x0;rw[HIC.out.2.1] at x1;rw[HIC.out.2.2.1] at x2
    rw[HU.out.1]
    cases uf
    ·go_wp2_with fail
     go_meet
     exact⟨by rw[HUB.out];rfl,H2⟩
    ·go_wp2_with fail
     refine Calls.mono (Jd _ s.cs F a2 (HRC.out a2 H2.out.1)) ?_
     rintro e' a3 ⟨rfl,hb⟩
     have H3:=hJ2 (An H2.out.1 hb (Ah _)) (H2.out.2.below hb H2.out.2.lt)
     clear hb x0 x1 x2
     have x0:=H3.out.2.cell 0;have x1:=H3.out.2.cell 1;have x2:=H3.out.2.cell 2;rw[HIC.out.1] at x0;rw[HIC.out.2.1] at x1;rw[HIC.out.2.2.1] at x2
     rw[HU.out.2]
     go_wp2_with fail
     go_meet
     exact⟨by rw[HUB.out];rfl,H3⟩
  case rest=>
   obtain⟨rfl,HD⟩:=hcut
   generalize hlu:(lb && upB s)=lu
   have HLU:=Ag hlu
   clear hlu x0 x1 x2 H1 HU HUB
   have x0:=HD.out.2.cell 0;have x1:=HD.out.2.cell 1;have x2:=HD.out.2.cell 2;rw[HIC.out.1] at x0;rw[HIC.out.2.1] at x1;rw[HIC.out.2.2.1] at x2
   obtain⟨R1,hR1⟩:∃ b,(lu && s.cs.all Er)=b:=⟨_,rfl⟩
   have HR1:=Ag hR1
   clear hR1
   go_wp2_with fail
   clear x0 x1 x2
   go_loopw [3,5,38] (fun s3 s5 s38 wr=> ∃ (k:Nat) (b:Bool),s3=.bool b∧s38=.int .i64 k∧k≤cn∧Hid ((b && (s.cs.drop k).all Er)=R1)∧Hid (Below w.heap.size w wr∧Blk wr w.heap.size 26 (ics))) (fun _ _ s38 _=> cn - (intOf s38).toNat)
   case atStart=> exact⟨0,lu,rfl,rfl,Nat.zero_le _,Ag HR1.out,HD⟩
   case round=>
    clear HD
    obtain⟨k,ok,rfl,rfl,hk,HT,HG⟩:=hrel
    by_cases hlt:k<cn
    ·have hkl:k<s.cs.length:=by rw[HN.out.2.1];exact hlt
     have hklz:(k:Int)<(cn:Int):=by omega
     have hk0:(0:Int)≤(k:Int):=by omega
     obtain⟨b,o,cs,rfl,-,-,hlen,hra,hta⟩:=RwC.get HC.out hkl
     have HT2:=Ag (show(ok && (Er s.cs[k] && (s.cs.drop (k+1)).all Er))=R1 from by rw[←HT.out,List.drop_eq_getElem_cons hkl,List.all_cons])
     generalize s.cs[k]=y at hta HT2
     have HRA:=Ag (Ai hra hlen)
     have HTA:=Ag hta
     have HRA2:=Ag hta.one
     have HZL:=Ag (show cs.length=(ciC 0 0 (.slice none 0 0)).length from hlen)
     clear hra hlen hta
     cases ok
     ·go_wp2_with (first
  | (with_reducible refine Ap rfl 49 (.tmp 40) rfl b (o+k* 3) rfl cs _ (AF HRA.out.1 HG.out.1) Tryz.underlying49 rfl (At Tryz.infoCi HRA.out.2) ?_)
  | ((with_reducible refine Av wr rfl 49 rfl (ciC 0 0 (.slice none 0 0)) Tryz.zeroCi ?_);intro d1 hb hbel hsz;have HD1:=hJ3 (An HG.out.1 hbel (Ah _)) (HG.out.2.below hbel HG.out.2.lt) hb;have HBL:=Ag hbel;clear hb hbel hsz)
  | ((with_reducible refine Ao d1 rfl 49 (.tmp 5) (.tmp 41) rfl wr.heap.size 49 (ciC 0 0 (.slice none 0 0)) (cs) HD1.out.2.2 rfl rfl (HZL.out) (At Tryz.infoCi HRA.out.2) (HRA2.out) ?_);intro d2 hb hc hs;have hbw:Below wr.heap.size wr d2:=Aw HBL.out hc (Ah _) (fun k hk=> by have e:k=wr.heap.size:=hk;omega);have HD2:=Ag (show Below w.heap.size w d2∧Blk d2 w.heap.size 26 (ics)∧Blk d2 wr.heap.size 49 (cs) from⟨An HG.out.1 hbw (Ah _),HG.out.2.below hbw HG.out.2.lt,hb⟩);clear hb hc hs hbw))
      go_roundw
      case measure=> simp[intOf];omega
      case rel=> exact⟨k+1,false,rfl,by go_num,by omega,Ag (by rw[←HT2.out,Bool.false_and,Bool.false_and]),Ag ⟨HD2.out.1,HD2.out.2.1⟩⟩
     ·go_wp2_with (first
  | (with_reducible refine Ap rfl 49 (.tmp 40) rfl b (o+k* 3) rfl cs _ (AF HRA.out.1 HG.out.1) Tryz.underlying49 rfl (At Tryz.infoCi HRA.out.2) ?_)
  | ((with_reducible refine Av wr rfl 49 rfl (ciC 0 0 (.slice none 0 0)) Tryz.zeroCi ?_);intro d1 hb hbel hsz;have HD1:=hJ3 (An HG.out.1 hbel (Ah _)) (HG.out.2.below hbel HG.out.2.lt) hb;have HBL:=Ag hbel;clear hb hbel hsz)
  | ((with_reducible refine Ao d1 rfl 49 (.tmp 5) (.tmp 41) rfl wr.heap.size 49 (ciC 0 0 (.slice none 0 0)) (cs) HD1.out.2.2 rfl rfl (HZL.out) (At Tryz.infoCi HRA.out.2) (HRA2.out) ?_);intro d2 hb hc hs;have hbw:Below wr.heap.size wr d2:=Aw HBL.out hc (Ah _) (fun k hk=> by have e:k=wr.heap.size:=hk;omega);have HD2:=Ag (show Below w.heap.size w d2∧Blk d2 w.heap.size 26 (ics)∧Blk d2 wr.heap.size 49 (cs) from⟨An HG.out.1 hbw (Ah _),HG.out.2.below hbw HG.out.2.lt,hb⟩);clear hb hc hs hbw)
  | (with_reducible refine Ap rfl 49 (.tmp 5) rfl wr.heap.size 0 rfl cs _ (As HD2.out.2.2) Tryz.underlying49 rfl (At Tryz.infoCi HRA.out.2) ?_))
      refine(Il y cs F d2 (HTA.out.below HD2.out.1)).mono ?_
      rintro e' d3 ⟨rfl,hb⟩
      have HD3:=hJ3 (An HD2.out.1 hb (Ah _)) (HD2.out.2.1.below hb HD2.out.2.1.lt) (HD2.out.2.2.below hb HD2.out.2.2.lt)
      clear hb
      go_wp2_with fail
      go_roundw
      case measure=> simp[intOf];omega
      case rel=> exact⟨k+1,Er y,rfl,by go_num,by omega,Ag (by rw[←HT2.out,Bool.true_and]),Ag ⟨HD3.out.1,HD3.out.2.1⟩⟩
    ·have hge:¬ (k:Int)<(cn:Int):=by omega
     have HE1:=Ag (show ok=R1 from by rw[←HT.out,List.drop_of_length_le (by rw[HN.out.2.1];omega),List.all_nil,Bool.and_true])
     rw[HE1.out]
     have x0:=HG.out.2.cell 0;have x1:=HG.out.2.cell 1;have x2:=HG.out.2.cell 2;rw[HIC.out.1] at x0;rw[HIC.out.2.1] at x1;rw[HIC.out.2.2.1] at x2
     obtain⟨R2,hR2⟩:∃ b,(R1 && s.fs.all (Dr s))=b:=⟨_,rfl⟩
     have HR2:=Ag hR2
     clear hR2
     go_wp2_with fail
     clear x0 x1 x2
     go_loopw [3,7,9,10,11,51] (fun s3 s7 s9 s10 s11 s51 wr=> ∃ (k:Nat) (b:Bool),s3=.bool b∧s51=.int .i64 k∧k≤fn∧Hid ((b && (s.fs.drop k).all (Dr s))=R2)∧Hid (Below w.heap.size w wr∧Blk wr w.heap.size 26 (ics))) (fun _ _ _ _ _ s51 _=> fn - (intOf s51).toNat)
     case atStart=> exact⟨0,R1,rfl,rfl,Nat.zero_le _,Ag HR2.out,HG⟩
     case round=>
      clear HG HT
      have HR2':=HR2
      clear HR2
      obtain⟨k,ok,rfl,rfl,hk,HT,HG2⟩:=hrel
      by_cases hlt:k<fn
      ·have hkl:k<s.fs.length:=by rw[HN.out.1];exact hlt
       have hklz:(k:Int)<(fn:Int):=by omega
       have hk0:(0:Int)≤(k:Int):=by omega
       obtain⟨b,o,fcs,rfl,-,-,hlen,hra,hta⟩:=RwC.get HF.out hkl
       have HT2:=Ag (show(ok && (Dr s s.fs[k] && (s.fs.drop (k+1)).all (Dr s)))=R2 from by rw[←HT.out,List.drop_eq_getElem_cons hkl,List.all_cons])
       generalize s.fs[k]=f at hta HT2
       have HFR:=Ag hra
       have HFL:=Ag (Ai hlen (Ai (show fcs.length=(flC ⟨#[]⟩ 0 0 (.slice none 0 0) (.slice none 0 0) (.slice none 0 0) 0 0 0 (tmC 0 0 0 ⟨#[]⟩ (.slice none 0 0))).length from hlen) hta.one))
       obtain⟨vr,vq,vg,tc,hcs,hpf,htm⟩:=hta
       obtain⟨ga,gq,rfl,g2,g3,-⟩:=hpf.2.2.1.nums
       have HFC:=Ag (show fcs[0]?=some (.string f.nm)∧fcs[1]?=some (.int .i64 f.p.o)∧fcs[2]?=some (.int .i64 f.p.e)∧fcs[5]?=some (.slice ga f.p.g.length gq)∧fcs[7]?=some (.int .i64 f.e) from by rw[hcs];exact⟨rfl,rfl,rfl,rfl,rfl⟩)
       have HFE:=Ag hcs
       have HPF:=Ag (Ai hpf htm)
       obtain⟨gn,hgn⟩:∃ n,f.p.g.length=n:=⟨_,rfl⟩
       have HGN:=Ag hgn
       rw[hgn] at HFC HFE HPF g2
       clear hra hlen hcs hpf htm hgn
       obtain⟨B,hB⟩:∃ b,(ok && (okB f.p && ((BI f.nm==f.p.o) && (decide (f.e≤f.p.e) && wrB (Bl f)))))=b:=⟨_,rfl⟩
       have HB:=Ag hB
       have HT3:=Ag (show((B && f.p.g.all (DG s f.p.o)) && (s.fs.drop (k+1)).all (Dr s))=R2 from by rw[←HT2.out,←hB];unfold Dr;simp only[Bool.and_assoc])
       clear hB HT HT2
       go_upto_region 11 with(first
  | (with_reducible refine Ap rfl 45 (.tmp 53) rfl b (o+k* 14) rfl fcs _ (AF HFR.out HG2.out.1) Tryz.underlying45 rfl (At Tryz.infoFl HFL.out.1) ?_)
  | ((with_reducible refine Av wr rfl 45 rfl (flC ⟨#[]⟩ 0 0 (.slice none 0 0) (.slice none 0 0) (.slice none 0 0) 0 0 0 (tmC 0 0 0 ⟨#[]⟩ (.slice none 0 0))) Tryz.zeroFl ?_);intro d1 hb hbel hsz;have HD1:=hJ3 (An HG2.out.1 hbel (Ah _)) (HG2.out.2.below hbel HG2.out.2.lt) hb;have HBL:=Ag hbel;clear hb hbel hsz)
  | ((with_reducible refine Ao d1 rfl 45 (.tmp 7) (.tmp 54) rfl wr.heap.size 45 (flC ⟨#[]⟩ 0 0 (.slice none 0 0) (.slice none 0 0) (.slice none 0 0) 0 0 0 (tmC 0 0 0 ⟨#[]⟩ (.slice none 0 0))) (fcs) HD1.out.2.2 rfl rfl (HFL.out.2.1) (At Tryz.infoFl HFL.out.1) (HFL.out.2.2) ?_);intro d2 hb hc hs;have hbw:Below wr.heap.size wr d2:=Aw HBL.out hc (Ah _) (fun k hk=> by have e:k=wr.heap.size:=hk;omega);have HD2:=Ag (show Below w.heap.size w d2∧Blk d2 w.heap.size 26 (ics)∧Blk d2 wr.heap.size 45 (fcs) from⟨An HG2.out.1 hbw (Ah _),HG2.out.2.below hbw HG2.out.2.lt,hb⟩);clear hb hc hs hbw))
       have y0:=HD2.out.2.2.cell 0;have y1:=HD2.out.2.2.cell 1;have y2:=HD2.out.2.2.cell 2;have y7:=HD2.out.2.2.cell 7;rw[HFC.out.1] at y0;rw[HFC.out.2.1] at y1;rw[HFC.out.2.2.1] at y2;rw[HFC.out.2.2.2.2] at y7
       simp only[Al,Ad,Ae,Af]
       go_cut [3] from 55 to 115 (fun s3 wc=> s3=.bool B∧Hid (Below w.heap.size w wc∧Blk wc w.heap.size 26 (ics)∧Blk wc wr.heap.size 45 (fcs)))
       case first=>
        obtain⟨b1,hb1⟩:∃ b,okB f.p=b:=⟨_,rfl⟩
        obtain⟨nu,hnu⟩:∃ b,BI f.nm=b:=⟨_,rfl⟩
        obtain⟨b4,hb4⟩:∃ b,wrB (Bl f)=b:=⟨_,rfl⟩
        have C1:=Ag (fun x=> show Calls Tryz.prog 28 #[.agg (pmC f.p.o f.p.e vr vq (.slice ga gn gq)).toArray] (Bh d2 x) (fun e w'=> e=.returned (.int .i64 (if b1=true then 0 else 210))∧Below (Bh d2 x).heap.size (Bh d2 x) w') from EK f.p b1 hb1 _ _ _ (Bh d2 x) (((HPF.out.1.below HD2.out.1).below (AO d2 x)).s))
        have C2:=Ag (fun x=> show Calls Tryz.prog 36 #[.string f.nm] (Bh d2 x) (fun e w'=> e=.returned (.int .i64 nu)∧Below (Bh d2 x).heap.size (Bh d2 x) w') from by have h:=Ei f.nm (Bh d2 x);rw[hnu] at h;exact h)
        have C3:=Ag (fun x=> show Calls Tryz.prog 38 #[.agg fcs.toArray] (Bh d2 x) (fun e w'=> e=.returned (.agg (wrC f.nm f.v f.e f.u tc).toArray)∧Below (Bh d2 x).heap.size (Bh d2 x) w') from by rw[HFE.out];exact Hk f _ _ _ tc F (Bh d2 x) ((HPF.out.2.below HD2.out.1).below (AO d2 x)))
        have C4:=Ag (fun x=> show Calls Tryz.prog 37 #[.agg (wrC f.nm f.v f.e f.u tc).toArray] (Bh d2 x) (fun e w'=> e=.returned (.bool b4)∧Below (Bh d2 x).heap.size (Bh d2 x) w') from by have h:=Fy (Bl f) (wrC f.nm f.v f.e f.u tc) F (Bh d2 x) ⟨tc,rfl,(HPF.out.2.below HD2.out.1).below (AO d2 x)⟩;rw[hb4] at h;exact h)
        have HRG:=Ag (show d2.rangeAt wr.heap.size 1 (pmC f.p.o f.p.e vr vq (.slice ga gn gq))∧d2.rangeAt wr.heap.size 0 fcs from⟨fun j x hx=> by rw[HD2.out.2.2.cell,HFE.out,show 1+j=j+1 by omega];match j,hx with|0,hx=> exact hx|1,hx=> exact hx|2,hx=> exact hx|3,hx=> exact hx|4,hx=> exact hx,Ig HD2.out.2.2⟩)
        obtain⟨po,hpo⟩:∃ b,f.p.o=b:=⟨_,rfl⟩
        obtain⟨pe,hpe⟩:∃ b,f.p.e=b:=⟨_,rfl⟩
        obtain⟨fe,hfe⟩:∃ b,f.e=b:=⟨_,rfl⟩
        have HB2:=Ag (show(ok && (b1 && ((nu==po) && (decide (fe≤pe) && b4))))=B from by rw[←HB.out,hb1,hnu,hb4,hpo,hpe,hfe])
        rw[hpo,hpe] at HRG C1
        rw[hpo] at y1
        rw[hpe] at y2
        rw[hfe] at y7
        obtain⟨b2,hb2'⟩:∃ b,(nu==po)=b:=⟨_,rfl⟩
        obtain⟨b3,hb3'⟩:∃ b,decide (fe≤pe)=b:=⟨_,rfl⟩
        rw[hb2',hb3'] at HB2
        generalize f.nm=fnm at y0 C2 C3 C4
        clear hb1 hnu hb4 hpo hpe hfe
        replace y0:=fun q=> AT y0 q
        replace y1:=fun q=> AT y1 q
        replace y2:=fun q=> AT y2 q
        replace y7:=fun q=> AT y7 q
        cases ok
        ·have HX:=Ag (show B=false from by rw[←HB2.out];rfl)
         go_wp2_with fail
         refine A4 (by kernel_rfl) (by kernel_rfl) ?_
         repeat (first|go_big_quiet_skip|(go_big_quiet_want;(first|(refine A1 43 (.tmp 57) rfl wr.heap.size 1 rfl (pmC po pe vr vq (.slice ga gn gq)) _ (fun w' hw'=> A7 HRG.out.1 w' hw') Tryz.underlying43 rfl (Ay _ _ _ _ _) ?_;go_simp;go_big_quiet_on)|(refine A1 45 (.tmp 7) rfl wr.heap.size 0 rfl fcs _ (fun w' hw'=> A7 HRG.out.2 w' hw') Tryz.underlying45 rfl (At Tryz.infoFl HFL.out.1) ?_;go_simp;go_big_quiet_on)|(go_big_quiet_op;(first|go_big_quiet_on|(apply Exists.intro;refine⟨fun _=> ?_,?_⟩;(focus (first|(go_at_call 28;with_reducible exact AV (C1.out _))|(go_at_call 36;with_reducible exact AV (C2.out _))|(go_at_call 38;with_reducible exact AV (C3.out _))|(go_at_call 37;with_reducible exact AV (C4.out _))));go_big_quiet_on))))))
         refine wpQuiet_nil ?_
         intro w9 hw9
         obtain⟨x9,rfl⟩:=hw9
         go_wp2_with fail
         go_meet
         exact⟨by rw[HX.out],Ag ⟨An HD2.out.1 (AO d2 x9) (Ah _),HD2.out.2.1.below (AO d2 x9) HD2.out.2.1.lt,HD2.out.2.2.below (AO d2 x9) HD2.out.2.2.lt⟩⟩
        cases b1
        ·have HX:=Ag (show B=false from by rw[←HB2.out];rfl)
         go_wp2_with fail
         refine A4 (by kernel_rfl) (by kernel_rfl) ?_
         repeat (first|go_big_quiet_skip|(go_big_quiet_want;(first|(refine A1 43 (.tmp 57) rfl wr.heap.size 1 rfl (pmC po pe vr vq (.slice ga gn gq)) _ (fun w' hw'=> A7 HRG.out.1 w' hw') Tryz.underlying43 rfl (Ay _ _ _ _ _) ?_;go_simp;go_big_quiet_on)|(refine A1 45 (.tmp 7) rfl wr.heap.size 0 rfl fcs _ (fun w' hw'=> A7 HRG.out.2 w' hw') Tryz.underlying45 rfl (At Tryz.infoFl HFL.out.1) ?_;go_simp;go_big_quiet_on)|(go_big_quiet_op;(first|go_big_quiet_on|(apply Exists.intro;refine⟨fun _=> ?_,?_⟩;(focus (first|(go_at_call 28;with_reducible exact AV (C1.out _))|(go_at_call 36;with_reducible exact AV (C2.out _))|(go_at_call 38;with_reducible exact AV (C3.out _))|(go_at_call 37;with_reducible exact AV (C4.out _))));go_big_quiet_on))))))
         refine wpQuiet_nil ?_
         intro w9 hw9
         obtain⟨x9,rfl⟩:=hw9
         go_wp2_with fail
         go_meet
         exact⟨by rw[HX.out],Ag ⟨An HD2.out.1 (AO d2 x9) (Ah _),HD2.out.2.1.below (AO d2 x9) HD2.out.2.1.lt,HD2.out.2.2.below (AO d2 x9) HD2.out.2.2.lt⟩⟩
        cases b2
        ·have HX:=Ag (show B=false from by rw[←HB2.out];rfl)
         go_wp2_with fail
         refine A4 (by kernel_rfl) (by kernel_rfl) ?_
         repeat (first|go_big_quiet_skip|(go_big_quiet_want;(first|(refine A1 43 (.tmp 57) rfl wr.heap.size 1 rfl (pmC po pe vr vq (.slice ga gn gq)) _ (fun w' hw'=> A7 HRG.out.1 w' hw') Tryz.underlying43 rfl (Ay _ _ _ _ _) ?_;go_simp;go_big_quiet_on)|(refine A1 45 (.tmp 7) rfl wr.heap.size 0 rfl fcs _ (fun w' hw'=> A7 HRG.out.2 w' hw') Tryz.underlying45 rfl (At Tryz.infoFl HFL.out.1) ?_;go_simp;go_big_quiet_on)|(go_big_quiet_op;(first|go_big_quiet_on|(apply Exists.intro;refine⟨fun _=> ?_,?_⟩;(focus (first|(go_at_call 28;with_reducible exact AV (C1.out _))|(go_at_call 36;with_reducible exact AV (C2.out _))|(go_at_call 38;with_reducible exact AV (C3.out _))|(go_at_call 37;with_reducible exact AV (C4.out _))));go_big_quiet_on))))))
         refine wpQuiet_nil ?_
         intro w9 hw9
         obtain⟨x9,rfl⟩:=hw9
         go_wp2_with fail
         go_meet
         exact⟨by rw[HX.out],Ag ⟨An HD2.out.1 (AO d2 x9) (Ah _),HD2.out.2.1.below (AO d2 x9) HD2.out.2.1.lt,HD2.out.2.2.below (AO d2 x9) HD2.out.2.2.lt⟩⟩
        cases b3
        ·have HX:=Ag (show B=false from by rw[←HB2.out];rfl)
         go_wp2_with fail
         refine A4 (by kernel_rfl) (by kernel_rfl) ?_
         repeat (first|go_big_quiet_skip|(go_big_quiet_want;(first|(refine A1 43 (.tmp 57) rfl wr.heap.size 1 rfl (pmC po pe vr vq (.slice ga gn gq)) _ (fun w' hw'=> A7 HRG.out.1 w' hw') Tryz.underlying43 rfl (Ay _ _ _ _ _) ?_;go_simp;go_big_quiet_on)|(refine A1 45 (.tmp 7) rfl wr.heap.size 0 rfl fcs _ (fun w' hw'=> A7 HRG.out.2 w' hw') Tryz.underlying45 rfl (At Tryz.infoFl HFL.out.1) ?_;go_simp;go_big_quiet_on)|(go_big_quiet_op;(first|go_big_quiet_on|(apply Exists.intro;refine⟨fun _=> ?_,?_⟩;(focus (first|(go_at_call 28;with_reducible exact AV (C1.out _))|(go_at_call 36;with_reducible exact AV (C2.out _))|(go_at_call 38;with_reducible exact AV (C3.out _))|(go_at_call 37;with_reducible exact AV (C4.out _))));go_big_quiet_on))))))
         refine wpQuiet_nil ?_
         intro w9 hw9
         obtain⟨x9,rfl⟩:=hw9
         go_wp2_with fail
         go_meet
         exact⟨by rw[HX.out],Ag ⟨An HD2.out.1 (AO d2 x9) (Ah _),HD2.out.2.1.below (AO d2 x9) HD2.out.2.1.lt,HD2.out.2.2.below (AO d2 x9) HD2.out.2.2.lt⟩⟩
        ·have HX:=Ag (show B=b4 from by rw[←HB2.out];rfl)
         go_wp2_with fail
         refine A4 (by kernel_rfl) (by kernel_rfl) ?_
         repeat (first|go_big_quiet_skip|(go_big_quiet_want;(first|(refine A1 43 (.tmp 57) rfl wr.heap.size 1 rfl (pmC po pe vr vq (.slice ga gn gq)) _ (fun w' hw'=> A7 HRG.out.1 w' hw') Tryz.underlying43 rfl (Ay _ _ _ _ _) ?_;go_simp;go_big_quiet_on)|(refine A1 45 (.tmp 7) rfl wr.heap.size 0 rfl fcs _ (fun w' hw'=> A7 HRG.out.2 w' hw') Tryz.underlying45 rfl (At Tryz.infoFl HFL.out.1) ?_;go_simp;go_big_quiet_on)|(go_big_quiet_op;(first|go_big_quiet_on|(apply Exists.intro;refine⟨fun _=> ?_,?_⟩;(focus (first|(go_at_call 28;with_reducible exact AV (C1.out _))|(go_at_call 36;with_reducible exact AV (C2.out _))|(go_at_call 38;with_reducible exact AV (C3.out _))|(go_at_call 37;with_reducible exact AV (C4.out _))));go_big_quiet_on))))))
         refine wpQuiet_nil ?_
         intro w9 hw9
         obtain⟨x9,rfl⟩:=hw9
         go_wp2_with fail
         go_meet
         exact⟨by rw[HX.out],Ag ⟨An HD2.out.1 (AO d2 x9) (Ah _),HD2.out.2.1.below (AO d2 x9) HD2.out.2.1.lt,HD2.out.2.2.below (AO d2 x9) HD2.out.2.2.lt⟩⟩
       case rest=>
        obtain⟨rfl,HE⟩:=hcut
        clear y0 y1 y2 y7 HG2 HD1 HD2 HBL
        have y5:=HE.out.2.2.cell 5
        rw[HFC.out.2.2.2.1] at y5
        generalize wr.heap.size=gF at HE y5 ⊢
        obtain⟨R3,hR3⟩:∃ b,(B && f.p.g.all (DG s f.p.o))=b:=⟨_,rfl⟩
        have HR3:=Ag hR3
        have HT4:=Ag (show(R3 && (s.fs.drop (k+1)).all (Dr s))=R2 from by rw[←HT3.out,hR3])
        clear hR3 HT3 HB
        have hgn63:gn≤9223372036854775807:=by omega
        go_wp2_with fail
        clear y5
        go_loopw [3,9,10,11,88] (fun s3 s9 s10 s11 s88 wr=> ∃ (j:Nat) (b:Bool),s3=.bool b∧s88=.int .i64 j∧j≤gn∧Hid ((b && (f.p.g.drop j).all (DG s f.p.o))=R3)∧Hid (Below w.heap.size w wr∧Blk wr w.heap.size 26 (ics)∧Blk wr gF 45 (fcs))) (fun _ _ _ _ s88 _=> gn - (intOf s88).toNat)
        case atStart=> exact⟨0,B,rfl,rfl,Nat.zero_le _,Ag HR3.out,HE⟩
        case round=>
         clear HE HR3
         obtain⟨j,b,rfl,rfl,hj,HQ,HG3⟩:=hrel
         by_cases hjt:j<gn
         ·have hjl:j<f.p.g.length:=by rw[HGN.out];exact hjt
          have hjz:(j:Int)<(gn:Int):=by omega
          have hj0:(0:Int)≤(j:Int):=by omega
          have hsl:=HPF.out.1.2.2.1
          rw[←HGN.out] at hsl
          obtain⟨ga',gq',e1,-,-,hcl⟩:=hsl.nums
          obtain⟨gb,go_,e2,-,hcell⟩:=hcl (by rw[HGN.out];omega)
          obtain rfl:ga=ga':=by simpa using (Value.slice.inj e1).1
          subst e2
          have z1:=hcell j hjl
          have HQ2:=Ag (show(b && (DG s f.p.o f.p.g[j] && (f.p.g.drop (j+1)).all (DG s f.p.o)))=R3 from by rw[←HQ.out,List.drop_eq_getElem_cons hjl,List.all_cons])
          generalize f.p.g[j]=gx at z1 HQ2
          clear hsl hcl hcell e1 hjl
          replace z1:=(HG3.out.1.cell (p:=⟨gb,go_+j,none⟩) (Am z1)).trans z1
          obtain⟨⟨ix,th⟩,hsk⟩:∃ r,By s gx=r:=⟨_,rfl⟩
          have HSK:=Ag hsk
          have HCC:=Ag (show Calls Tryz.prog 39 #[.agg ics.toArray,.int .i64 gx] wr (fun e w'=> e=.returned (.tuple #[.int .i64 ix,.bool th])∧Below wr.heap.size wr w') from by
           have h:=DU s gx ics F wr (HID.out.1.below HG3.out.1) (by rw[HN.out.2.1];exact HID.out.2)
           rw[show AU (fun x=> BA x.n gx) s.cs=(ix,th) from hsk] at h
           exact h)
          clear hsk
          go_wp2_with (first
  | (with_reducible refine Ap rfl 26 (.tmp 1) rfl w.heap.size 0 rfl ics _ (As HG3.out.2.1) Tryz.underlying26 rfl (At Tryz.infoId HIC.out.2.2.2) ?_))
          refine HCC.out.mono ?_
          rintro e' d4 ⟨rfl,hb⟩
          have HG4:=hJ3 (An HG3.out.1 hb (Ah _)) (HG3.out.2.1.below hb HG3.out.2.1.lt) (HG3.out.2.2.below hb HG3.out.2.2.lt)
          clear hb z1 HCC
          have x0:=HG4.out.2.1.cell 0;have x1:=HG4.out.2.1.cell 1;have x2:=HG4.out.2.1.cell 2;rw[HIC.out.1] at x0;rw[HIC.out.2.1] at x1;rw[HIC.out.2.2.1] at x2
          have y1:=HG4.out.2.2.cell 1
          rw[HFC.out.2.1] at y1
          cases b
          ·go_wp2_with fail
           go_quiet (fail)
           go_wp2_with fail
           go_roundw
           case measure=> simp[intOf];omega
           case rel=> exact⟨j+1,false,rfl,by go_num,by omega,Ag (by rw[←HQ2.out,Bool.false_and,Bool.false_and]),Ag ⟨An HG4.out.1 (((Sm.refl _).drewN _).below _) (Ah _),((Sm.refl _).drewN _).blk HG4.out.2.1,((Sm.refl _).drewN _).blk HG4.out.2.2⟩⟩
          cases th
          ·have HX:=Ag (show DG s f.p.o gx=false from by unfold DG;rw[HSK.out];rfl)
           go_wp2_with fail
           go_quiet (fail)
           go_wp2_with fail
           go_roundw
           case measure=> simp[intOf];omega
           case rel=> exact⟨j+1,false,rfl,by go_num,by omega,Ag (by rw[←HQ2.out,HX.out];rfl),Ag ⟨An HG4.out.1 (((Sm.refl _).drewN _).below _) (Ah _),((Sm.refl _).drewN _).blk HG4.out.2.1,((Sm.refl _).drewN _).blk HG4.out.2.2⟩⟩
          ·have hix:ix<s.cs.length:=by
            have h:=(DV (c:=fun x:CirM=> BA x.n gx) (l:=s.cs) (by rw[show AU (fun x:CirM=> BA x.n gx) s.cs=(ix,true) from HSK.out])).1
            rw[show AU (fun x:CirM=> BA x.n gx) s.cs=(ix,true) from HSK.out] at h
            exact h
           have hixz:(ix:Int)<(cn:Int):=by rw[HN.out.2.1] at hix;omega
           have hix0:(0:Int)≤(ix:Int):=by omega
           obtain⟨cb,co,ccs,rfl,-,-,-,hra,hta⟩:=RwC.get HC.out hix
           have HX:=Ag (show DG s f.p.o gx=(s.cs[ix].o==f.p.o) from by unfold DG;rw[HSK.out];simp[List.getElem?_eq_getElem hix])
           generalize s.cs[ix]=cx at hta HX
           obtain⟨vu,rfl,-⟩:=hta
           have z2:=hra 1 (.int .i64 cx.o) rfl
           replace z2:=(HG4.out.1.cell (p:=⟨cb,co+ix* 3+1,none⟩) (Am z2)).trans z2
           generalize cx.o=cxo at z2 HX
           have HF0:=Ag (show f.p.o=f.p.o from rfl)
           obtain⟨po,hpo⟩:∃ b,f.p.o=b:=⟨_,rfl⟩
           have HPO:=Ag hpo
           obtain⟨be,hbe⟩:∃ b,(cxo==po)=b:=⟨_,rfl⟩
           have HX2:=Ag (show DG s f.p.o gx=be from by rw[HX.out,hpo,hbe])
           rw[hpo] at y1
           clear hra hix HF0 hpo
           go_wp2_with fail
           go_quiet (fail)
           go_wp2_with fail
           go_roundw
           case measure=> simp[intOf];omega
           case rel=> exact⟨j+1,be,rfl,by go_num,by omega,Ag (by rw[←HQ2.out,HX2.out,Bool.true_and]),Ag ⟨An HG4.out.1 (((Sm.refl _).drewN _).below _) (Ah _),((Sm.refl _).drewN _).blk HG4.out.2.1,((Sm.refl _).drewN _).blk HG4.out.2.2⟩⟩
         ·have hge:¬ (j:Int)<(gn:Int):=by omega
          have HQ3:=Ag (show b=R3 from by rw[←HQ.out,List.drop_of_length_le (by rw[HGN.out];omega),List.all_nil,Bool.and_true])
          rw[HQ3.out]
          go_wp2_with fail
          go_roundw
          case measure=> simp[intOf];omega
          case rel=> exact⟨k+1,R3,rfl,by go_num,by omega,Ag HT4.out,Ag ⟨HG3.out.1,HG3.out.2.1⟩⟩
      ·have hge:¬ (k:Int)<(fn:Int):=by omega
       have HE2:=Ag (show ok=R2 from by rw[←HT.out,List.drop_of_length_le (by rw[HN.out.1];omega),List.all_nil,Bool.and_true])
       rw[HE2.out]
       have x0:=HG2.out.2.cell 0;have x1:=HG2.out.2.cell 1;have x2:=HG2.out.2.cell 2;rw[HIC.out.1] at x0;rw[HIC.out.2.1] at x1;rw[HIC.out.2.2.1] at x2
       obtain⟨R4,hR4⟩:∃ b,(R2 && s.ws.all wrB)=b:=⟨_,rfl⟩
       have HR4:=Ag hR4
       clear hR4
       go_wp2_with fail
       clear x0 x1 x2
       go_loopw [3,13,119] (fun s3 s13 s119 wr=> ∃ (k:Nat) (b:Bool),s3=.bool b∧s119=.int .i64 k∧k≤wn∧Hid ((b && (s.ws.drop k).all wrB)=R4)∧Hid (Below w.heap.size w wr∧Blk wr w.heap.size 26 (ics))) (fun _ _ s119 _=> wn - (intOf s119).toNat)
       case atStart=> exact⟨0,R2,rfl,rfl,Nat.zero_le _,Ag HR4.out,HG2⟩
       case round=>
        clear HG2 HT hge
        obtain⟨k,ok,rfl,rfl,hk,HT,HG⟩:=hrel
        by_cases hlt:k<wn
        ·have hkl:k<s.ws.length:=by rw[HN.out.2.2];exact hlt
         have hklz:(k:Int)<(wn:Int):=by omega
         have hk0:(0:Int)≤(k:Int):=by omega
         obtain⟨b,o,cs,rfl,-,-,hlen,hra,hta⟩:=RwC.get HW.out hkl
         have HT2:=Ag (show(ok && (wrB s.ws[k] && (s.ws.drop (k+1)).all wrB))=R4 from by rw[←HT.out,List.drop_eq_getElem_cons hkl,List.all_cons])
         generalize s.ws[k]=y at hta HT2
         have HRA:=Ag (Ai hra hlen)
         have HTA:=Ag hta
         have HRA2:=Ag hta.one
         have HZL:=Ag (show cs.length=(wrC ⟨#[]⟩ 0 0 0 (tmC 0 0 0 ⟨#[]⟩ (.slice none 0 0))).length from hlen)
         clear hra hlen hta
         cases ok
         ·go_wp2_with (first
  | (with_reducible refine Ap rfl 56 (.tmp 121) rfl b (o+k* 9) rfl cs _ (AF HRA.out.1 HG.out.1) Tryz.underlying56 rfl (At Tryz.infoWr HRA.out.2) ?_)
  | ((with_reducible refine Av wr rfl 56 rfl (wrC ⟨#[]⟩ 0 0 0 (tmC 0 0 0 ⟨#[]⟩ (.slice none 0 0))) Tryz.zeroWr ?_);intro d1 hb hbel hsz;have HD1:=hJ3 (An HG.out.1 hbel (Ah _)) (HG.out.2.below hbel HG.out.2.lt) hb;have HBL:=Ag hbel;clear hb hbel hsz)
  | ((with_reducible refine Ao d1 rfl 56 (.tmp 13) (.tmp 122) rfl wr.heap.size 56 (wrC ⟨#[]⟩ 0 0 0 (tmC 0 0 0 ⟨#[]⟩ (.slice none 0 0))) (cs) HD1.out.2.2 rfl rfl (HZL.out) (At Tryz.infoWr HRA.out.2) (HRA2.out) ?_);intro d2 hb hc hs;have hbw:Below wr.heap.size wr d2:=Aw HBL.out hc (Ah _) (fun k hk=> by have e:k=wr.heap.size:=hk;omega);have HD2:=Ag (show Below w.heap.size w d2∧Blk d2 w.heap.size 26 (ics)∧Blk d2 wr.heap.size 56 (cs) from⟨An HG.out.1 hbw (Ah _),HG.out.2.below hbw HG.out.2.lt,hb⟩);clear hb hc hs hbw))
          go_roundw
          case measure=> simp[intOf];omega
          case rel=> exact⟨k+1,false,rfl,by go_num,by omega,Ag (by rw[←HT2.out,Bool.false_and,Bool.false_and]),Ag ⟨HD2.out.1,HD2.out.2.1⟩⟩
         ·go_wp2_with (first
  | (with_reducible refine Ap rfl 56 (.tmp 121) rfl b (o+k* 9) rfl cs _ (AF HRA.out.1 HG.out.1) Tryz.underlying56 rfl (At Tryz.infoWr HRA.out.2) ?_)
  | ((with_reducible refine Av wr rfl 56 rfl (wrC ⟨#[]⟩ 0 0 0 (tmC 0 0 0 ⟨#[]⟩ (.slice none 0 0))) Tryz.zeroWr ?_);intro d1 hb hbel hsz;have HD1:=hJ3 (An HG.out.1 hbel (Ah _)) (HG.out.2.below hbel HG.out.2.lt) hb;have HBL:=Ag hbel;clear hb hbel hsz)
  | ((with_reducible refine Ao d1 rfl 56 (.tmp 13) (.tmp 122) rfl wr.heap.size 56 (wrC ⟨#[]⟩ 0 0 0 (tmC 0 0 0 ⟨#[]⟩ (.slice none 0 0))) (cs) HD1.out.2.2 rfl rfl (HZL.out) (At Tryz.infoWr HRA.out.2) (HRA2.out) ?_);intro d2 hb hc hs;have hbw:Below wr.heap.size wr d2:=Aw HBL.out hc (Ah _) (fun k hk=> by have e:k=wr.heap.size:=hk;omega);have HD2:=Ag (show Below w.heap.size w d2∧Blk d2 w.heap.size 26 (ics)∧Blk d2 wr.heap.size 56 (cs) from⟨An HG.out.1 hbw (Ah _),HG.out.2.below hbw HG.out.2.lt,hb⟩);clear hb hc hs hbw)
  | (with_reducible refine Ap rfl 56 (.tmp 13) rfl wr.heap.size 0 rfl cs _ (As HD2.out.2.2) Tryz.underlying56 rfl (At Tryz.infoWr HRA.out.2) ?_))
          refine(Fy y cs F d2 (HTA.out.below HD2.out.1)).mono ?_
          rintro e' d3 ⟨rfl,hb⟩
          have HD3:=hJ3 (An HD2.out.1 hb (Ah _)) (HD2.out.2.1.below hb HD2.out.2.1.lt) (HD2.out.2.2.below hb HD2.out.2.2.lt)
          clear hb
          go_wp2_with fail
          go_roundw
          case measure=> simp[intOf];omega
          case rel=> exact⟨k+1,wrB y,rfl,by go_num,by omega,Ag (by rw[←HT2.out,Bool.true_and]),Ag ⟨HD3.out.1,HD3.out.2.1⟩⟩
        ·have hge:¬ (k:Int)<(wn:Int):=by omega
         have HE4:=Ag (show Es s=ok from by
          have h1:ok=R4:=by rw[←HT.out,List.drop_of_length_le (by rw[HN.out.2.2];omega),List.all_nil,Bool.and_true]
          rw[h1,←HR4.out,←HR2'.out,←HR1.out,←HLU.out,←HLB.out]
          rfl)
         have HRR:=Ag (show R=if ok=true then 0 else 282 from by rw[←HR.out,HE4.out])
         cases ok
         ·go_wp2_with fail
          go_ret
          exact⟨by rw[HRR.out];rfl,HG.out.1⟩
         ·go_wp2_with fail
          go_ret
          exact⟨by rw[HRR.out];rfl,HG.out.1⟩
end Go.Proofs.YtgdlfiphihaooaaGreat

import Derived.Test.YtgdlfiphihaooaaGreatYq34
set_option linter.unusedSimpArgs false
set_option linter.unusedVariables false
set_option maxRecDepth 100000
set_option maxHeartbeats 8000000
open _root_.List renaming getElem?_toArray→Aa,getElem?_cons_zero→Ab,getElem?_cons_succ→Ac,setIfInBounds_toArray→Ad,set_cons_zero→Ae,set_cons_succ→Af
open _root_.Go.Lib renaming hid→Ag
open _root_.Nat renaming le_refl→Ah,le_trans→Aj,lt_of_lt_of_le→Ak
open _root_.And renaming intro→Ai
open _root_.Go.Act renaming put→Al
namespace Go.Proofs.YtgdlfiphihaooaaGreat
open Go Go.RowKit
theorem GL (vl:Value) (l:List OpM) (F F':Nat→Prop) (w:World) (hv:RwC (OpC F) 11 F' w vl l):Calls Tryz.prog 4 #[vl] w (fun e w'=> e=.returned (.bool true)∧Below w.heap.size w w'):=by
 obtain⟨la,lc,rfl,hl1,hl2⟩:=hv.shape
 obtain⟨n,hn⟩:∃ m,l.length=m:=⟨_,rfl⟩
 have HN:=Ag hn
 rw[hn] at hv hl1 ⊢
 have hn63:n≤9223372036854775807:=by unfold maxLen at hl2;have:=hl1;omega
 have HV:=Ag hv
 clear hv hl1 hl2 hn
 go_enter Tryz.func4,Tryz.ntmps4
 go_wp2_with fail
 refine(FF BG w).mono ?_
 rintro e' w1 ⟨rfl,hb⟩
 have HB1:=Ag hb
 clear hb
 go_wp2_with (first
  | ((with_reducible refine Av w1 rfl 26 rfl ([(.slice none 0 0),(.slice none 0 0),(.slice none 0 0)]) Tryz.zeroId3b ?_);intro w2 hb hbel hsz;have H0:=Ag (show Blk w2 (w1.heap.size) 26 ([(.slice none 0 0),(.slice none 0 0),(.slice none 0 0)])∧IdC (·∉[w1.heap.size]) w2 [(.slice none 0 0),(.slice none 0 0),(.slice none 0 0)] C5∧Below w.heap.size w w2 from⟨hb,id0_C,An HB1.out hbel (Ah _)⟩);have HGW:=hJ2 HB1.out.size hb.lt;clear hb hbel hsz))
 go_loopw [16] (fun s16 wr=> ∃ (j:Nat) (cs:List Value) (s:IdM),s16=.int .i64 j∧j≤n∧j≤30∧Hid (InvL s)∧Hid (Blk wr (w1.heap.size) 26 (cs)∧IdC (·∉[w1.heap.size]) wr cs s∧Below w.heap.size w wr)) (fun s16 _=> n - (intOf s16).toNat)
 case atStart=> exact⟨0,[(.slice none 0 0),(.slice none 0 0),(.slice none 0 0)],C5,rfl,Nat.zero_le _,Nat.zero_le _,Ag Lk,H0⟩
 case round=>
  clear H0
  obtain⟨j,cs,s,rfl,hj,hj30,HI,HO⟩:=hrel
  by_cases hlt:j<n
  rotate_left
  ·have hge:¬ (j:Int)<(n:Int):=by omega
   have HSL:=Ag HO.out.2.1.len
   go_wp2_with (first
  | (with_reducible refine Ap rfl 26 (.tmp 3) rfl (w1.heap.size) 0 rfl (cs) _ (As HO.out.1) Tryz.underlying26 rfl (At Tryz.infoId HSL.out) ?_))
   have hck:=Di s cs (·∉[w1.heap.size]) wr HO.out.2.1 (by have:=HI.out.chk.cl;omega)
   rw[if_pos (CO.2 HI.out.chk)] at hck
   refine Calls.mono hck ?_
   clear hck
   rintro e' z1 ⟨rfl,hb⟩
   have HZ1:=Ag (An HO.out.2.2 hb (Ah _))
   clear hb
   go_wp2_with fail
   go_ret
   exact⟨rfl,HZ1.out⟩
  have hjl:j<l.length:=by rw[HN.out];exact hlt
  have hjz:(j:Int)<(n:Int):=by omega
  have hj0:(0:Int)≤(j:Int):=by omega
  obtain⟨b,o,xcs,rfl,-,-,hlen,hra,hxc⟩:=HV.out.get (by exact hjl)
  generalize hx:l[j]=x at hxc
  have HXC:=Ag hxc
  have HXO:=Ag hxc.one
  have HXL:=Ag hlen
  have HZL:=Ag (show xcs.length=(opC ⟨0,0,⟨#[]⟩,0,0,false,tm0⟩ (tmC 0 0 0 ⟨#[]⟩ (.slice none 0 0))).length from hlen)
  have HRA:=Ag (show wr.rangeAt b (o+j* 11) xcs from fun i z hz=> (HO.out.2.2.cell (Am (hra i z hz))).trans (hra i z hz))
  clear hra hlen hx hjl hxc
  go_upto_region 7 with(first
  | (with_reducible refine Ap rfl 31 (.tmp 19) rfl b (o+j* 11) rfl xcs _ HRA.out Tryz.underlying31 rfl (At Tryz.infoOp HXL.out) ?_)
  | ((with_reducible refine Av wr rfl 31 rfl (opC ⟨0,0,⟨#[]⟩,0,0,false,tm0⟩ (tmC 0 0 0 ⟨#[]⟩ (.slice none 0 0))) Tryz.zeroOp ?_);intro x2 hb hbel hsz;have HX2:=Ag (Ai hb hbel);clear hb hbel hsz)
  | ((with_reducible refine Ao x2 rfl 31 (.tmp 5) (.tmp 20) rfl (wr.heap.size) 31 (opC ⟨0,0,⟨#[]⟩,0,0,false,tm0⟩ (tmC 0 0 0 ⟨#[]⟩ (.slice none 0 0))) (xcs) HX2.out.1 rfl rfl HZL.out (At Tryz.infoOp HXL.out) HXO.out ?_);intro x3 hb hc hs;have hbx:=B0 HX2.out.2 hc;have HX3:=hJ4 (HO.out.1.below hbx HO.out.1.lt) (HO.out.2.1.below hbx) (An HO.out.2.2 hbx (Ah _)) hb;clear hb hc hs hbx))
  try simp only[Al,Ad,Ae,Af]
  by_cases hj6:j=30
  ·subst hj6
   have HSL:=Ag HX3.out.2.1.len
   go_wp2_with (first
  | (with_reducible refine Ap rfl 26 (.tmp 3) rfl (w1.heap.size) 0 rfl (cs) _ (As HX3.out.1) Tryz.underlying26 rfl (At Tryz.infoId HSL.out) ?_))
   have hck:=Di s cs (·∉[w1.heap.size]) x3 HX3.out.2.1 (by have:=HI.out.chk.cl;omega)
   rw[if_pos (CO.2 HI.out.chk)] at hck
   refine Calls.mono hck ?_
   clear hck
   rintro e' z1 ⟨rfl,hb⟩
   have HZ1:=Ag (An HX3.out.2.2.1 hb (Ah _))
   clear hb
   go_wp2_with fail
   go_ret
   exact⟨rfl,HZ1.out⟩
  have hj7:¬ (j:Int)=30:=by omega
  have hj8:((j:Int)==30)=false:=by simp;omega
  obtain⟨tc0,hxe,ht0⟩:=HXC.out
  subst hxe
  have HT0:=Ag ht0
  clear ht0
  go_wp2_with (first
  | (with_reducible refine Ap rfl 31 (.tmp 5) rfl (wr.heap.size) 0 rfl (opC x tc0) _ (As HX3.out.2.2.2) Tryz.underlying31 rfl (At Tryz.infoOp HXL.out) ?_))
  refine(Fo x tc0 F x3 (HT0.out.below HX3.out.2.2.1)).mono ?_
  rintro e' x4 ⟨pcs,p,rfl,⟨tco,rfl,hto⟩,hb⟩
  have HTL:=Ag hto.len
  have HTO:=Ag hto.one
  have HX4:=Ag (show Blk x4 (w1.heap.size) 26 (cs)∧IdC (·∉[w1.heap.size]) x4 cs s∧Below w.heap.size w x4∧Blk x4 (wr.heap.size) 31 (opC x tc0)∧TmC (·∉[w1.heap.size]) x4 tco (p.b) from⟨HX3.out.1.below hb HX3.out.1.lt,(HX3.out.2.1.below hb),(An HX3.out.2.2.1 hb (Ah _)),HX3.out.2.2.2.below hb HX3.out.2.2.2.lt,(hto.mono fun k hk e=> by have h1:x3.heap.size≤k:=hk;have h2:k=w1.heap.size:=List.mem_singleton.1 e;have h3:=HX3.out.1.lt;omega)⟩)
  have HPL:=Ag (show(opC p tco).length=11 from by simp[opC,HTL.out])
  have HPZ:=Ag (show(opC p tco).length=(opC ⟨0,0,⟨#[]⟩,0,0,false,tm0⟩ (tmC 0 0 0 ⟨#[]⟩ (.slice none 0 0))).length from by rw[HPL.out];rfl)
  clear hto hb
  have HSL:=Ag HX4.out.2.1.len
  have HSO:=Ag HX4.out.2.1.one
  go_wp2_with (first
  | ((with_reducible refine Av x4 rfl 31 rfl (opC ⟨0,0,⟨#[]⟩,0,0,false,tm0⟩ (tmC 0 0 0 ⟨#[]⟩ (.slice none 0 0))) Tryz.zeroOp ?_);intro x5 hb hbel hsz;have HX5:=Ag (Ai hb hbel);clear hb hbel hsz)
  | ((with_reducible refine Ao x5 rfl 31 (.tmp 6) (.tmp 24) rfl (x4.heap.size) 31 (opC ⟨0,0,⟨#[]⟩,0,0,false,tm0⟩ (tmC 0 0 0 ⟨#[]⟩ (.slice none 0 0))) (opC p tco) HX5.out.1 rfl rfl HPZ.out (At Tryz.infoOp HPL.out) (Ek HTO.out) ?_);intro x6 hb hc hs;have hbx:=B0 HX5.out.2 hc;have HX6:=hJ6 (HX4.out.1.below hbx HX4.out.1.lt) (HX4.out.2.1.below hbx) (An HX4.out.2.2.1 hbx (Ah _)) (HX4.out.2.2.2.1.below hbx HX4.out.2.2.2.1.lt) (HX4.out.2.2.2.2.below hbx) hb;clear hb hc hs hbx)
  | (with_reducible refine Ap rfl 26 (.tmp 3) rfl (w1.heap.size) 0 rfl (cs) _ (As HX6.out.1) Tryz.underlying26 rfl (At Tryz.infoId HSL.out) ?_)
  | (with_reducible refine Ap rfl 31 (.tmp 6) rfl (x4.heap.size) 0 rfl (opC p tco) _ (As HX6.out.2.2.2.2.2) Tryz.underlying31 rfl (At Tryz.infoOp HPL.out) ?_))
  have HDO:=Ag (KZ BG s cs p tco (·∉[w1.heap.size]) [w1.heap.size] x6 HX6.out.2.1 (fun _ h=> h) (fun k hk=> by rw[List.mem_singleton.1 hk];exact HX6.out.1.lt) (by have:=HI.out.chk.cl;omega) HX6.out.2.2.2.2.1)
  obtain⟨⟨s2,⟨re,rv,ru,rb⟩,e⟩,hR⟩:∃ R,doM s p=R:=⟨_,rfl⟩
  rw[hR] at HDO
  have HR:=Ag hR
  clear hR
  refine HDO.out.mono ?_
  rintro e' x7 ⟨csn,rtc,rfl,hs2,hrt,hb⟩
  clear HDO
  simp only at hs2 hrt
  have HX7:=hJ8 (HX6.out.1.below hb HX6.out.1.lt) (HX6.out.2.1.below hb) (An HX6.out.2.2.1 hb (Ah _)) (HX6.out.2.2.2.1.below hb HX6.out.2.2.2.1.lt) (HX6.out.2.2.2.2.1.below hb) (HX6.out.2.2.2.2.2.below hb HX6.out.2.2.2.2.2.lt) hs2 hrt
  have HNL:=Ag hs2.len
  have HNO:=Ag hs2.one
  have HRL:=Ag hrt.len
  have HRO:=Ag hrt.one
  have HNZ:=Ag (show csn.length=([(.slice none 0 0),(.slice none 0 0),(.slice none 0 0)]:List Value).length from hs2.len)
  have HRZ:=Ag (show(AD re rv ru rtc).length=(AD 0 0 0 (tmC 0 0 0 ⟨#[]⟩ (.slice none 0 0))).length from by simp[AD,hrt.len,tmC])
  clear hs2 hrt hb
  go_upto_region 10 with(first
  | ((with_reducible refine Av x7 rfl 26 rfl ([(.slice none 0 0),(.slice none 0 0),(.slice none 0 0)]) Tryz.zeroId3b ?_);intro x8 hb hbel hsz;have HX8:=Ag (Ai hb hbel);clear hb hbel hsz)
  | ((with_reducible refine Av x8 rfl 37 rfl (AD 0 0 0 (tmC 0 0 0 ⟨#[]⟩ (.slice none 0 0))) Tryz.zeroRs ?_);intro x9 hb hbel hsz;have HX9:=hJ4 (HX8.out.1.below hbel HX8.out.1.lt) hb (An HX8.out.2 hbel (Ah _)) HX8.out.1.lt;clear hb hbel hsz)
  | ((with_reducible refine Ao x9 rfl 26 (.tmp 7) (.tmp 29) rfl (x7.heap.size) 26 ([(.slice none 0 0),(.slice none 0 0),(.slice none 0 0)]) (csn) HX9.out.1 rfl rfl HNZ.out (At Tryz.infoId HNL.out) HNO.out ?_);intro y1 hb hc hs;have HY1:=hJ4 hb (HX9.out.2.1.keep hc (fun e=> absurd (show _=_ from e) (by have:=HX9.out.2.2.2;omega))) (Aw HX9.out.2.2.1 hc (Ah _) (fun k hk=> by have e:=(show _=_ from hk);omega)) HX9.out.2.2.2;clear hb hc hs)
  | ((with_reducible refine Ao y1 rfl 37 (.tmp 8) (.tmp 30) rfl (x8.heap.size) 37 (AD 0 0 0 (tmC 0 0 0 ⟨#[]⟩ (.slice none 0 0))) (AD re rv ru rtc) HY1.out.2.1 rfl rfl HRZ.out (Ax HRL.out) (AN HRO.out) ?_);intro y2 hb hc hs;have hbx:=Aw HY1.out.2.2.1 hc (Ah _) (fun k hk=> by have e:=(show _=_ from hk);have:=HY1.out.2.2.2;omega);have HY2:=hJ10 (HX7.out.1.below hbx HX7.out.1.lt) (HX7.out.2.1.below hbx) (An HX7.out.2.2.1 hbx (Ah _)) (HX7.out.2.2.2.1.below hbx HX7.out.2.2.2.1.lt) (HX7.out.2.2.2.2.1.below hbx) (HX7.out.2.2.2.2.2.1.below hbx HX7.out.2.2.2.2.2.1.lt) (HX7.out.2.2.2.2.2.2.1.below hbx) (HX7.out.2.2.2.2.2.2.2.below hbx) (HY1.out.1.keep hc (fun e=> absurd (show _=_ from e) (by have:=HY1.out.2.2.2;omega))) hb;clear hb hc hs hbx))
  try simp only[Al,Ad,Ae,Af]
  clear HX2 HX3 HX4 HX5 HX6 HX7 HX8 HX9 HY1 HO
  by_cases he:e=0
  rotate_left
  ·have hne:(e==0)=false:=by simp[he]
   go_wp2_with fail
   go_roundw
   case measure=> simp[intOf];omega
   case rel=> exact⟨j+1,cs,s,by go_num,by omega,by omega,HI,Ag ⟨HY2.out.1,HY2.out.2.1,HY2.out.2.2.1⟩⟩
  subst he
  have HI2:=Ag (show InvL s2 from by have h:=LL (s:=s) (o:=p) HI.out (by rw[HR.out]);rw[HR.out] at h;exact h)
  obtain⟨pk,pu,pn,pt,pg,pw,pb⟩:=p
  have c0:=HY2.out.2.2.2.2.2.1.cell 0
  simp only[opC,Ab,Ac] at c0
  have c1:=HY2.out.2.2.2.2.2.2.2.2.2.cell 0
  simp only[AD,Ab,Ac] at c1
  by_cases hk:pk=3
  rotate_left
  ·have hk2:(pk==3)=false:=by simp[hk]
   have HNS:=Ag (show csn.length=cs.length from HNL.out.trans HSL.out.symm)
   go_wp2_with (first
  | (with_reducible refine Ap rfl 26 (.tmp 7) rfl (x7.heap.size) 0 rfl (csn) _ (As HY2.out.2.2.2.2.2.2.2.2.1) Tryz.underlying26 rfl (At Tryz.infoId HNL.out) ?_)
  | ((with_reducible refine Ao y2 rfl 26 (.tmp 3) (.tmp 92) rfl (w1.heap.size) 26 (cs) (csn) HY2.out.1 rfl rfl HNS.out (At Tryz.infoId HNL.out) HNO.out ?_);intro z1 hb hc hs;have HZ1:=Ag (show Blk z1 (w1.heap.size) 26 (csn)∧IdC (·∉[w1.heap.size]) z1 csn s2∧Below w.heap.size w z1 from⟨hb,HY2.out.2.2.2.2.2.2.1.keep' hc (fun k hk e=> hk (List.mem_singleton.2 e)) (fun _ h=> h),Aw HY2.out.2.2.1 hc (Ah _) (fun k hk=> by have e:=(show _=_ from hk);have:=HGW.out;omega)⟩);clear hb hc hs))
   go_roundw
   case measure=> simp[intOf];omega
   case rel=> exact⟨j+1,csn,s2,by go_num,by omega,by omega,HI2,HZ1⟩
  by_cases hr:re=0
  rotate_left
  ·have hr2:(re==0)=false:=by simp[hr]
   subst hk
   have HNS:=Ag (show csn.length=cs.length from HNL.out.trans HSL.out.symm)
   go_wp2_with (first
  | (with_reducible refine Ap rfl 26 (.tmp 7) rfl (x7.heap.size) 0 rfl (csn) _ (As HY2.out.2.2.2.2.2.2.2.2.1) Tryz.underlying26 rfl (At Tryz.infoId HNL.out) ?_)
  | ((with_reducible refine Ao y2 rfl 26 (.tmp 3) (.tmp 92) rfl (w1.heap.size) 26 (cs) (csn) HY2.out.1 rfl rfl HNS.out (At Tryz.infoId HNL.out) HNO.out ?_);intro z1 hb hc hs;have HZ1:=Ag (show Blk z1 (w1.heap.size) 26 (csn)∧IdC (·∉[w1.heap.size]) z1 csn s2∧Below w.heap.size w z1 from⟨hb,HY2.out.2.2.2.2.2.2.1.keep' hc (fun k hk e=> hk (List.mem_singleton.2 e)) (fun _ h=> h),Aw HY2.out.2.2.1 hc (Ah _) (fun k hk=> by have e:=(show _=_ from hk);have:=HGW.out;omega)⟩);clear hb hc hs))
   go_roundw
   case measure=> simp[intOf];omega
   case rel=> exact⟨j+1,csn,s2,by go_num,by omega,by omega,HI2,HZ1⟩
  subst hk
  subst hr
  obtain⟨l0,⟨xn,xv,xe,xu,xb⟩,hh1,hh2,hh3,hh4,hh5,hh6⟩:=Kr (s:=s) (o:=⟨3,pu,pn,pt,pg,pw,pb⟩) HI.out (by rw[HR.out]) rfl (by rw[HR.out])
  rw[HR.out] at hh2 hh3 hh4 hh5
  simp only at hh2 hh3 hh4 hh5 hh6 hh1
  subst hh3 hh4 hh5
  have HRD:=Ag hh6
  have HHS:=Ag hh1
  obtain⟨q,hq⟩:∃ q,l0.length=q:=⟨_,rfl⟩
  have HQ:=Ag hq
  rw[hq] at hh2
  subst hh2
  clear hh1 hh6 hq
  have c2:=HY2.out.2.2.2.2.2.1.cell 2
  simp only[opC,Ab,Ac] at c2
  go_wp2_with (first
  | (with_reducible refine Ap rfl 26 (.tmp 3) rfl (w1.heap.size) 0 rfl (cs) _ (As HY2.out.1) Tryz.underlying26 rfl (At Tryz.infoId HSL.out) ?_))
  refine(FE s pn cs (·∉[w1.heap.size]) y2 HY2.out.2.1 (by have:=HI.out.chk.cl;omega)).mono ?_
  rintro e' y3 ⟨hv,rfl,hrow,hb⟩
  rw[HHS.out] at hrow
  obtain⟨ha,hcap,rfl,hsh1,hsh2⟩:=hrow.shape
  have hlq:(l0 ++ [(⟨xn,((q+1:Nat):Int),xe,xu,xb⟩:WrM)]).length=q+1:=by rw[List.length_append,List.length_singleton,HQ.out]
  obtain⟨hb_,ho_,wcs,rfl,hge_,-,hwl,hwra,hwc⟩:=hrow.get (j:=q) (by omega)
  have hlast:(l0 ++ [(⟨xn,((q+1:Nat):Int),xe,xu,xb⟩:WrM)])[q]'(by omega)=⟨xn,((q+1:Nat):Int),xe,xu,xb⟩:=by have:=HQ.out;simp[this.symm]
  rw[hlast] at hwc
  rw[hlq] at hsh1 ⊢
  have hq63:q+1≤9223372036854775807:=by unfold maxLen at hsh2;omega
  obtain⟨wtc,rfl,hwt⟩:=hwc
  have HY3:=hJ12 (HY2.out.1.below hb HY2.out.1.lt) (HY2.out.2.1.below hb) (An HY2.out.2.2.1 hb (Ah _)) (HY2.out.2.2.2.1.below hb HY2.out.2.2.2.1.lt) (HY2.out.2.2.2.2.1.below hb) (HY2.out.2.2.2.2.2.1.below hb HY2.out.2.2.2.2.2.1.lt) (HY2.out.2.2.2.2.2.2.1.below hb) (HY2.out.2.2.2.2.2.2.2.1.below hb) (HY2.out.2.2.2.2.2.2.2.2.1.below hb HY2.out.2.2.2.2.2.2.2.2.1.lt) (HY2.out.2.2.2.2.2.2.2.2.2.below hb HY2.out.2.2.2.2.2.2.2.2.2.lt) hwra hwt
  have HWL:=Ag hwl
  have HWT:=Ag hwt.len
  have HWO:=Ag hwt.one
  clear hrow hb hwra hwt hwl hlast hlq hsh1 hsh2 hge_
  clear c0 c1 c2
  go_upto_region 13 with fail
  try simp only[Al,Ad,Ae,Af]
  have hq0:¬ ((q:Int)+1=0):=by omega
  have hq1:(((q:Int)+1)==0)=false:=by simp;omega
  go_wp2_with fail
  refine Az (fun W=> W.rangeAt (w1.heap.size) 0 cs∧W.cell? ⟨x4.heap.size,2,none⟩=some (.string pn)∧W.cell? ⟨x4.heap.size,1,none⟩=some (.int .i64 pu)∧W.cell? ⟨x8.heap.size,1,none⟩=some (.int .i64 (((q+1:Nat):Int)))) [0,1,2,3,4,5,6,7,8,9,10,11,12,13,15,16] 4 (by kernel_rfl) rfl (by kernel_rfl) (by kernel_rfl) ⟨As HY3.out.1,HY3.out.2.2.2.2.2.1.cell 2,HY3.out.2.2.2.2.2.1.cell 1,HY3.out.2.2.2.2.2.2.2.2.2.1.cell 1⟩ ?_
  iterate 16(refine' AH.run ?_ ?_ ?_ ?_;rotate_left 2;(simp only[Aa,Ab,Ac];rfl);rfl;(rintro w' ⟨k0,k1,k2,k3⟩;first|exact AA rfl rfl k0 Tryz.underlying26 rfl (At Tryz.infoId HSL.out)|(go_simp;with_reducible rfl));simp only[Al,Ad,Ae,Af])
  have sm:=(Sm.refl y3).drew
  have HV2:=hJ12 (HY3.out.1.below (sm.below _) HY3.out.1.lt) (HY3.out.2.1.below (sm.below _)) (An HY3.out.2.2.1 (sm.below _) (Ah _)) (HY3.out.2.2.2.1.below (sm.below _) HY3.out.2.2.2.1.lt) (HY3.out.2.2.2.2.1.below (sm.below _)) (HY3.out.2.2.2.2.2.1.below (sm.below _) HY3.out.2.2.2.2.2.1.lt) (HY3.out.2.2.2.2.2.2.1.below (sm.below _)) (HY3.out.2.2.2.2.2.2.2.1.below (sm.below _)) (HY3.out.2.2.2.2.2.2.2.2.1.below (sm.below _) HY3.out.2.2.2.2.2.2.2.2.1.lt) (HY3.out.2.2.2.2.2.2.2.2.2.1.below (sm.below _) HY3.out.2.2.2.2.2.2.2.2.2.1.lt) (AF HY3.out.2.2.2.2.2.2.2.2.2.2.1 (sm.below _)) (HY3.out.2.2.2.2.2.2.2.2.2.2.2.below (sm.below _))
  clear sm
  generalize y3.drew=v1 at HV2 ⊢
  refine' Ar 14 (by kernel_rfl) ?_ ?_;rotate_left;(simp only[Aa,Ab,Ac];rfl)
  try simp only[Al,Ad,Ae,Af]
  go_wp2_with fail
  refine(Dx s pn cs (·∉[w1.heap.size]) v1 HV2.out.2.1 (by have:=HI.out.chk.cl;omega) (by have:=HI.out.chk.fl;omega)).mono ?_
  rintro e' u3 ⟨v,rfl,hv,hb⟩
  obtain⟨ra,rc,rfl,-⟩:=hv.1.nums
  obtain⟨rn,hrn⟩:∃ m,(AQ s pn).length=m:=⟨_,rfl⟩
  rw[hrn] at hv ⊢
  have K4:=Ag (show Blk u3 (w1.heap.size) 26 (cs)∧IdC (·∉[w1.heap.size]) u3 cs s∧Below w.heap.size w u3∧Blk u3 (wr.heap.size) 31 (opC x tc0)∧TmC (·∉[w1.heap.size]) u3 tco (pb)∧Blk u3 (x4.heap.size) 31 (opC ⟨3,pu,pn,pt,pg,pw,pb⟩ tco)∧IdC (·∉[w1.heap.size]) u3 csn s2∧TmC (·∉[w1.heap.size]) u3 rtc (xb)∧Blk u3 (x7.heap.size) 26 (csn)∧Blk u3 (x8.heap.size) 37 (AD 0 (((q+1:Nat):Int)) xu rtc)∧u3.rangeAt hb_ (ho_+q* 9) (wrC xn (((q+1:Nat):Int)) xe xu wtc)∧TmC (y2.heap.size≤·) u3 wtc xb∧Sl u3 (.slice ra rn rc) (ofK .i64 (AQ s pn)) from⟨HV2.out.1.below hb HV2.out.1.lt,(HV2.out.2.1.below hb),(An HV2.out.2.2.1 hb (Ah _)),HV2.out.2.2.2.1.below hb HV2.out.2.2.2.1.lt,(HV2.out.2.2.2.2.1.below hb),HV2.out.2.2.2.2.2.1.below hb HV2.out.2.2.2.2.2.1.lt,(HV2.out.2.2.2.2.2.2.1.below hb),(HV2.out.2.2.2.2.2.2.2.1.below hb),HV2.out.2.2.2.2.2.2.2.2.1.below hb HV2.out.2.2.2.2.2.2.2.2.1.lt,HV2.out.2.2.2.2.2.2.2.2.2.1.below hb HV2.out.2.2.2.2.2.2.2.2.2.1.lt,(AF HV2.out.2.2.2.2.2.2.2.2.2.2.1 hb),(HV2.out.2.2.2.2.2.2.2.2.2.2.2.below hb),hv.1⟩)
  clear hv hb hrn
  go_wp2_with fail
  refine QK.normal ⟨⟨As K4.out.1,K4.out.2.2.2.2.2.1.cell 2,K4.out.2.2.2.2.2.1.cell 1,K4.out.2.2.2.2.2.2.2.2.2.1.cell 1⟩,?_⟩
  refine' Ar 17 (by kernel_rfl) ?_ ?_;rotate_left;(simp only[Aa,Ab,Ac];rfl)
  try simp only[Al,Ad,Ae,Af]
  go_wp2_with fail
  refine(AM pu _ _ u3 K4.out.2.2.2.2.2.2.2.2.2.2.2.2).mono ?_
  rintro e' u5 ⟨rfl,rfl⟩
  rw[HRD.out]
  go_wp2_with fail
  refine QK.normal ⟨⟨As K4.out.1,K4.out.2.2.2.2.2.1.cell 2,K4.out.2.2.2.2.2.1.cell 1,K4.out.2.2.2.2.2.2.2.2.2.1.cell 1⟩,?_⟩
  refine' Ar 18 (by kernel_rfl) ?_ ?_;rotate_left;(simp only[Aa,Ab,Ac];rfl)
  try simp only[Al]
  go_wp2_with fail
  refine QK.normal ⟨⟨As K4.out.1,K4.out.2.2.2.2.2.1.cell 2,K4.out.2.2.2.2.2.1.cell 1,K4.out.2.2.2.2.2.2.2.2.2.1.cell 1⟩,?_⟩
  refine' Ar 19 (by kernel_rfl) ?_ ?_;rotate_left;(simp only[Aa,Ab,Ac];rfl)
  try simp only[Al]
  go_wp2_with fail
  refine QK.normal ⟨⟨As K4.out.1,K4.out.2.2.2.2.2.1.cell 2,K4.out.2.2.2.2.2.1.cell 1,K4.out.2.2.2.2.2.2.2.2.2.1.cell 1⟩,?_⟩
  refine wpAnyH_done (by kernel_rfl) ?_ _
  refine NoPanic.normal ?_
  have hqq:((q:Int)+1 - 1)=(q:Int):=by omega
  have hq2:(0:Int)≤(q:Int):=by omega
  have hq3:(q:Int)<(q:Int)+1:=by omega
  have HWZ:=Ag (show(wrC xn (((q+1:Nat):Int)) xe xu wtc).length=(wrC ⟨#[]⟩ 0 0 0 (tmC 0 0 0 ⟨#[]⟩ (.slice none 0 0))).length from by simp[wrC,HWT.out,tmC])
  have HWN:=Ag (show ∀ v∈wrC xn (((q+1:Nat):Int)) xe xu wtc,v.oneCell'=true from WrC.one (F:=(y2.heap.size≤·)) (w:=u3) (f:=(⟨xn,((q+1:Nat):Int),xe,xu,xb⟩:WrM)) ⟨wtc,rfl,K4.out.2.2.2.2.2.2.2.2.2.2.2.1⟩)
  go_upto_region 16 with(first
  | (with_reducible refine Ap rfl 56 (.tmp 70) rfl hb_ (ho_+q* 9) rfl (wrC xn (((q+1:Nat):Int)) xe xu wtc) _ K4.out.2.2.2.2.2.2.2.2.2.2.1 Tryz.underlying56 rfl (At Tryz.infoWr HWL.out) ?_)
  | ((with_reducible refine Av u3 rfl 56 rfl (wrC ⟨#[]⟩ 0 0 0 (tmC 0 0 0 ⟨#[]⟩ (.slice none 0 0))) Tryz.zeroWr9 ?_);intro z8 hb hbel hsz;have HZ8:=Ag (Ai hb hbel);clear hb hbel hsz)
  | ((with_reducible refine Ao z8 rfl 56 (.tmp 11) (.tmp 71) rfl (u3.heap.size) 56 (wrC ⟨#[]⟩ 0 0 0 (tmC 0 0 0 ⟨#[]⟩ (.slice none 0 0))) (wrC xn (((q+1:Nat):Int)) xe xu wtc) HZ8.out.1 rfl rfl HWZ.out (At Tryz.infoWr HWL.out) HWN.out ?_);intro z9 hb hc hs;have hbx:=B0 HZ8.out.2 hc;have HZ9:=Ag (show Blk z9 (w1.heap.size) 26 (cs)∧IdC (·∉[w1.heap.size]) z9 cs s∧Below w.heap.size w z9∧Blk z9 (wr.heap.size) 31 (opC x tc0)∧TmC (·∉[w1.heap.size]) z9 tco (pb)∧Blk z9 (x4.heap.size) 31 (opC ⟨3,pu,pn,pt,pg,pw,pb⟩ tco)∧IdC (·∉[w1.heap.size]) z9 csn s2∧TmC (·∉[w1.heap.size]) z9 rtc (xb)∧Blk z9 (x7.heap.size) 26 (csn)∧Blk z9 (x8.heap.size) 37 (AD 0 (((q+1:Nat):Int)) xu rtc)∧z9.rangeAt hb_ (ho_+q* 9) (wrC xn (((q+1:Nat):Int)) xe xu wtc)∧TmC (y2.heap.size≤·) z9 wtc xb∧Sl z9 (.slice ra rn rc) (ofK .i64 (AQ s pn))∧Blk z9 (u3.heap.size) 56 (wrC xn (((q+1:Nat):Int)) xe xu wtc) from⟨K4.out.1.below hbx K4.out.1.lt,(K4.out.2.1.below hbx),(An K4.out.2.2.1 hbx (Ah _)),K4.out.2.2.2.1.below hbx K4.out.2.2.2.1.lt,(K4.out.2.2.2.2.1.below hbx),K4.out.2.2.2.2.2.1.below hbx K4.out.2.2.2.2.2.1.lt,(K4.out.2.2.2.2.2.2.1.below hbx),(K4.out.2.2.2.2.2.2.2.1.below hbx),K4.out.2.2.2.2.2.2.2.2.1.below hbx K4.out.2.2.2.2.2.2.2.2.1.lt,K4.out.2.2.2.2.2.2.2.2.2.1.below hbx K4.out.2.2.2.2.2.2.2.2.2.1.lt,(AF K4.out.2.2.2.2.2.2.2.2.2.2.1 hbx),(K4.out.2.2.2.2.2.2.2.2.2.2.2.1.below hbx),K4.out.2.2.2.2.2.2.2.2.2.2.2.2.below hbx (Ah _),hb⟩);clear hb hc hs hbx))
  try simp only[Al,Ad,Ae,Af]
  have HRT:=Ag (show ∀ W:World,Blk W (x8.heap.size) 37 (AD 0 (((q+1:Nat):Int)) xu rtc)→W.rangeAt (x8.heap.size) 3 rtc from fun W h j x hx=> (h.cell (3+j)).trans (by rw[Nat.add_comm 3 j];exact hx))
  have d1:=HZ9.out.2.2.2.2.2.2.2.2.2.2.2.2.2.cell 1
  simp only[wrC,Ab,Ac] at d1
  have d3:=HZ9.out.2.2.2.2.2.2.2.2.2.2.2.2.2.cell 3
  simp only[wrC,Ab,Ac] at d3
  have e1:=HZ9.out.2.2.2.2.2.2.2.2.2.1.cell 1
  simp only[AD,Ab,Ac] at e1
  have e2:=HZ9.out.2.2.2.2.2.2.2.2.2.1.cell 2
  simp only[AD,Ab,Ac] at e2
  go_wp2_with (first
  | ((with_reducible refine BR ?_ 29 (.tmp 85) rfl (u3.heap.size) 4 rfl wtc _ (Dl HZ9.out.2.2.2.2.2.2.2.2.2.2.2.2.2) Tryz.underlying29 rfl (At Tryz.infoTm HWT.out) ?_);focus rfl)
  | ((with_reducible refine BR ?_ 29 (.tmp 87) rfl (x8.heap.size) 3 rfl rtc _ (HRT.out _ HZ9.out.2.2.2.2.2.2.2.2.2.1) Tryz.underlying29 rfl (At Tryz.infoTm HRL.out) ?_);focus rfl))
  clear d1 d3 e1 e2
  refine(JT xb xb wtc rtc _ _ z9 HZ9.out.2.2.2.2.2.2.2.2.2.2.2.1 HZ9.out.2.2.2.2.2.2.2.1).mono ?_
  rintro e' z10 ⟨rfl,hb⟩
  rw[(JS xb xb).2 rfl]
  have HZ10:=Ag (show Blk z10 (w1.heap.size) 26 (cs)∧IdC (·∉[w1.heap.size]) z10 cs s∧Below w.heap.size w z10∧Blk z10 (wr.heap.size) 31 (opC x tc0)∧TmC (·∉[w1.heap.size]) z10 tco (pb)∧Blk z10 (x4.heap.size) 31 (opC ⟨3,pu,pn,pt,pg,pw,pb⟩ tco)∧IdC (·∉[w1.heap.size]) z10 csn s2∧TmC (·∉[w1.heap.size]) z10 rtc (xb)∧Blk z10 (x7.heap.size) 26 (csn)∧Blk z10 (x8.heap.size) 37 (AD 0 (((q+1:Nat):Int)) xu rtc)∧z10.rangeAt hb_ (ho_+q* 9) (wrC xn (((q+1:Nat):Int)) xe xu wtc)∧TmC (y2.heap.size≤·) z10 wtc xb∧Sl z10 (.slice ra rn rc) (ofK .i64 (AQ s pn))∧Blk z10 (u3.heap.size) 56 (wrC xn (((q+1:Nat):Int)) xe xu wtc) from⟨HZ9.out.1.below hb HZ9.out.1.lt,(HZ9.out.2.1.below hb),(An HZ9.out.2.2.1 hb (Ah _)),HZ9.out.2.2.2.1.below hb HZ9.out.2.2.2.1.lt,(HZ9.out.2.2.2.2.1.below hb),HZ9.out.2.2.2.2.2.1.below hb HZ9.out.2.2.2.2.2.1.lt,(HZ9.out.2.2.2.2.2.2.1.below hb),(HZ9.out.2.2.2.2.2.2.2.1.below hb),HZ9.out.2.2.2.2.2.2.2.2.1.below hb HZ9.out.2.2.2.2.2.2.2.2.1.lt,HZ9.out.2.2.2.2.2.2.2.2.2.1.below hb HZ9.out.2.2.2.2.2.2.2.2.2.1.lt,(AF HZ9.out.2.2.2.2.2.2.2.2.2.2.1 hb),(HZ9.out.2.2.2.2.2.2.2.2.2.2.2.1.below hb),HZ9.out.2.2.2.2.2.2.2.2.2.2.2.2.1.below hb (Ah _),HZ9.out.2.2.2.2.2.2.2.2.2.2.2.2.2.below hb HZ9.out.2.2.2.2.2.2.2.2.2.2.2.2.2.lt⟩)
  clear hb
  have HNS:=Ag (show csn.length=cs.length from HNL.out.trans HSL.out.symm)
  go_wp2_with (first
  | (with_reducible refine Ap rfl 26 (.tmp 7) rfl (x7.heap.size) 0 rfl (csn) _ (As HZ10.out.2.2.2.2.2.2.2.2.1) Tryz.underlying26 rfl (At Tryz.infoId HNL.out) ?_)
  | ((with_reducible refine Ao z10 rfl 26 (.tmp 3) (.tmp 92) rfl (w1.heap.size) 26 (cs) (csn) HZ10.out.1 rfl rfl HNS.out (At Tryz.infoId HNL.out) HNO.out ?_);intro z1 hb hc hs;have HZ1:=Ag (show Blk z1 (w1.heap.size) 26 (csn)∧IdC (·∉[w1.heap.size]) z1 csn s2∧Below w.heap.size w z1 from⟨hb,HZ10.out.2.2.2.2.2.2.1.keep' hc (fun k hk e=> hk (List.mem_singleton.2 e)) (fun _ h=> h),Aw HZ10.out.2.2.1 hc (Ah _) (fun k hk=> by have e:=(show _=_ from hk);have:=HGW.out;omega)⟩);clear hb hc hs))
  go_roundw
  case measure=> simp[intOf];omega
  case rel=> exact⟨j+1,csn,s2,by go_num,by omega,by omega,HI2,HZ1⟩
end Go.Proofs.YtgdlfiphihaooaaGreat

import Derived.Test.YtgdlfiphihaooaaGreatYs18
set_option linter.unusedSimpArgs false
set_option linter.unusedVariables false
set_option maxRecDepth 100000
set_option maxHeartbeats 8000000
open _root_.List renaming getElem?_toArray→Aa,getElem?_cons_zero→Ab,getElem?_cons_succ→Ac,setIfInBounds_toArray→Ad,set_cons_zero→Ae,set_cons_succ→Af
open _root_.Go.Lib renaming hid→Ag
open _root_.Nat renaming le_refl→Ah,le_trans→Aj,lt_of_lt_of_le→Ak
open _root_.And renaming intro→Ai
open _root_.Go.Act renaming put→Al
namespace Go.Proofs.YtgdlfiphihaooaaGreat
open Go Go.RowKit
theorem Tryz.buildtm0:∀ w,(Instr.build 29 #[]).run Tryz.prog w=.ok (.agg (tmC 0 0 0 ⟨#[]⟩ (.slice none 0 0)).toArray) w:=fun w=> by kernel_rfl
theorem Fq {ops:Array Oper} {rest:List Oper} {op:Oper} {a:Act} {w:World} {Q:Exit→Act→World→Prop} (hgd:Region.wanted op (yielded ops a.tmps)=true) (ho:op.op=.build 29 #[])
  (h:wpList Tryz.prog ops Q rest (a.put op.dst (.agg (tmC 0 0 0 ⟨#[]⟩ (.slice none 0 0)).toArray)) w):wpList Tryz.prog ops Q (op::rest) a w:=
 wpList_step fun K hK=> by
  rw[if_pos hgd]
  have hrun:(execOp a.eval op).run Tryz.prog w=.ok (.value (.agg (tmC 0 0 0 ⟨#[]⟩ (.slice none 0 0)).toArray)) w:=by
   unfold execOp
   simp only[ho]
   simp[Tryz.buildtm0,Result.andThen]
  unfold Oper.wp
  rw[hrun]
  exact hK _ _ h
theorem F1 (s0:IdM) (c0s:List Value) (F0:Nat→Prop) (vl:Value) (l:List OpM) (F F':Nat→Prop) (w:World) (hs0:IdC F0 w c0s s0) (hv:RwC (OpC F) 11 F' w vl l):Calls Tryz.prog 5 #[.agg c0s.toArray,vl] w (fun e w'=> e=.returned (.bool true)∧Below w.heap.size w w'):=by
 obtain⟨la,lc,rfl,hl1,hl2⟩:=hv.shape
 obtain⟨n,hn⟩:∃ m,l.length=m:=⟨_,rfl⟩
 have HN:=Ag hn
 rw[hn] at hv hl1 ⊢
 have hn63:n≤9223372036854775807:=by unfold maxLen at hl2;have:=hl1;omega
 have HV:=Ag hv
 have HS0:=Ag (Ai hs0 hs0.len)
 clear hv hl1 hl2 hn hs0
 go_enter Tryz.func5,Tryz.ntmps5
 go_wp2_with (first
  | ((with_reducible refine Au w rfl 26 (.tmp 0) rfl (c0s) rfl ?_);intro a1 hb hbel hsz;have H1:=Ag (Ai hb hbel);have HG0:=Ag hb.lt;clear hb hbel hsz))
 refine(IB Cv a1).mono ?_
 rintro e' a2 ⟨rfl,hb⟩
 have H2:=hJ2 (H1.out.1.below hb H1.out.1.lt) (An H1.out.2 hb (Ah _))
 clear hb
 go_wp2_with (first
  | (with_reducible refine Ap rfl 26 (.tmp 2) rfl (w.heap.size) 0 rfl (c0s) _ (As H2.out.1) Tryz.underlying26 rfl (At Tryz.infoId HS0.out.2) ?_))
 refine(Kj s0 c0s F0 a2 (HS0.out.1.below H2.out.2)).mono ?_
 rintro e' a3 ⟨cs1,s1,rfl,hs1,hk1,hk2,hk3,hb⟩
 have H3:=Ag (show Blk a3 (w.heap.size) 26 (c0s)∧IdC (·∉[w.heap.size]) a3 cs1 s1∧Below w.heap.size w a3 from⟨H2.out.1.below hb H2.out.1.lt,hs1.keep' (Ch.refl (fun _=> False) _) (fun _ _ e=> e) (fun k hk e=> by have h1:a2.heap.size≤k:=hk;have h2:k=w.heap.size:=List.mem_singleton.1 e;have h3:=H2.out.1.lt;omega),An H2.out.2 hb (Ah _)⟩)
 have HCL:=Ag hs1.len
 have HCO:=Ag hs1.one
 have HCK:=Ag hk2
 clear hs1 hk1 hk2 hk3 hb H1 H2
 go_upto_region 4 with(first
  | ((with_reducible refine Ao a3 rfl 26 (.tmp 2) (.tmp 19) rfl (w.heap.size) 26 (c0s) (cs1) H3.out.1 rfl rfl (HCL.out.trans HS0.out.2.symm) (At Tryz.infoId HCL.out) HCO.out ?_);intro a4 hb hc hs;have H4:=Ag (show Blk a4 (w.heap.size) 26 (cs1)∧IdC (·∉[w.heap.size]) a4 cs1 s1∧Below w.heap.size w a4 from⟨hb,H3.out.2.1.keep' hc (fun k hk e=> hk (List.mem_singleton.2 e)) (fun _ h=> h),Aw H3.out.2.2 hc (Ah _) (fun k hk=> by have e:=(show _=_ from hk);omega)⟩);have HGW:=Ag (show w.heap.size<a4.heap.size from hb.lt);clear hb hc hs))
 try simp only[Al,Ad,Ae,Af]
 clear H3
 go_wp2_with (first
  | (with_reducible refine Ap rfl 26 (.tmp 2) rfl (w.heap.size) 0 rfl (cs1) _ (As H4.out.1) Tryz.underlying26 rfl (At Tryz.infoId HCL.out) ?_))
 refine(C7 s1 cs1 _ a4 H4.out.2.1 (by have:=HCK.out;omega)).mono ?_
 rintro e' a5 ⟨rfl,hb⟩
 have H5:=hJ3 (H4.out.1.below hb H4.out.1.lt) (H4.out.2.1.below hb) (An H4.out.2.2 hb (Ah _))
 clear hb
 by_cases hck:D0 s1=true
 rotate_left
 ·rw[if_neg hck]
  go_wp2_with fail
  go_ret
  exact⟨rfl,H5.out.2.2⟩
 rw[if_pos hck]
 have HI0:=Ag (Dj.1 hck)
 clear hck H4
 have H0:=H5
 clear H5
 go_wp2_with fail
 go_loopw [25] (fun s16 wr=> ∃ (j:Nat) (cs:List Value) (s:IdM),s16=.int .i64 j∧j≤n∧j≤24∧Hid (ChkP s)∧Hid (Blk wr (w.heap.size) 26 (cs)∧IdC (·∉[w.heap.size]) wr cs s∧Below w.heap.size w wr)) (fun s16 _=> n - (intOf s16).toNat)
 case atStart=> exact⟨0,cs1,s1,rfl,Nat.zero_le _,Nat.zero_le _,HI0,H0⟩
 case round=>
  clear H0
  obtain⟨j,cs,s,rfl,hj,hj30,HI,HO⟩:=hrel
  by_cases hlt:j<n
  rotate_left
  ·have hge:¬ (j:Int)<(n:Int):=by omega
   go_wp2_with fail
   go_ret
   exact⟨rfl,HO.out.2.2⟩
  have hjl:j<l.length:=by rw[HN.out];exact hlt
  have hjz:(j:Int)<(n:Int):=by omega
  have hj0:(0:Int)≤(j:Int):=by omega
  obtain⟨b,o,xcs,rfl,-,-,hlen,hra,hxc⟩:=HV.out.get (by exact hjl)
  generalize hx:l[j]=x at hxc
  have HXC:=Ag hxc
  have HXO:=Ag hxc.one
  have HXL:=Ag hlen
  have HZL:=Ag (show xcs.length=(opC ⟨0,0,⟨#[]⟩,0,0,false,tm0⟩ (tmC 0 0 0 ⟨#[]⟩ (.slice none 0 0))).length from hlen)
  have HRA:=Ag (show wr.rangeAt b (o+j* 11) xcs from fun i z hz=> (HO.out.2.2.cell (Am (hra i z hz))).trans (hra i z hz))
  clear hra hlen hx hjl hxc
  go_upto_region 9 with(first
  | (with_reducible refine Ap rfl 31 (.tmp 28) rfl b (o+j* 11) rfl xcs _ HRA.out Tryz.underlying31 rfl (At Tryz.infoOp HXL.out) ?_)
  | ((with_reducible refine Av wr rfl 31 rfl (opC ⟨0,0,⟨#[]⟩,0,0,false,tm0⟩ (tmC 0 0 0 ⟨#[]⟩ (.slice none 0 0))) Tryz.zeroOp ?_);intro x2 hb hbel hsz;have HX2:=Ag (Ai hb hbel);clear hb hbel hsz)
  | ((with_reducible refine Ao x2 rfl 31 (.tmp 6) (.tmp 29) rfl (wr.heap.size) 31 (opC ⟨0,0,⟨#[]⟩,0,0,false,tm0⟩ (tmC 0 0 0 ⟨#[]⟩ (.slice none 0 0))) (xcs) HX2.out.1 rfl rfl HZL.out (At Tryz.infoOp HXL.out) HXO.out ?_);intro x3 hb hc hs;have hbx:=By HX2.out.2 hc;have HX3:=hJ4 (HO.out.1.below hbx HO.out.1.lt) (HO.out.2.1.below hbx) (An HO.out.2.2 hbx (Ah _)) hb;clear hb hc hs hbx))
  try simp only[Al,Ad,Ae,Af]
  by_cases hj6:j=24
  ·subst hj6
   go_wp2_with fail
   go_ret
   exact⟨rfl,HX3.out.2.2.1⟩
  have hj7:¬ (j:Int)=24:=by omega
  have hj8:((j:Int)==24)=false:=by simp;omega
  obtain⟨tc0,hxe,ht0⟩:=HXC.out
  subst hxe
  have HT0:=Ag ht0
  clear ht0
  go_wp2_with (first
  | (with_reducible refine Ap rfl 31 (.tmp 6) rfl (wr.heap.size) 0 rfl (opC x tc0) _ (As HX3.out.2.2.2) Tryz.underlying31 rfl (At Tryz.infoOp HXL.out) ?_))
  refine(Ki x tc0 F x3 (HT0.out.below HX3.out.2.2.1)).mono ?_
  rintro e' x4 ⟨pcs,p,rfl,⟨tco,rfl,hto⟩,hb⟩
  have HTL:=Ag hto.len
  have HTO:=Ag hto.one
  have HX4:=Ag (show Blk x4 (w.heap.size) 26 (cs)∧IdC (·∉[w.heap.size]) x4 cs s∧Below w.heap.size w x4∧Blk x4 (wr.heap.size) 31 (opC x tc0)∧TmC (·∉[w.heap.size]) x4 tco (p.b) from⟨HX3.out.1.below hb HX3.out.1.lt,(HX3.out.2.1.below hb),(An HX3.out.2.2.1 hb (Ah _)),HX3.out.2.2.2.below hb HX3.out.2.2.2.lt,(hto.mono fun k hk e=> by have h1:x3.heap.size≤k:=hk;have h2:k=w.heap.size:=List.mem_singleton.1 e;have h3:=HX3.out.1.lt;omega)⟩)
  have HPL:=Ag (show(opC p tco).length=11 from by simp[opC,HTL.out])
  have HPZ:=Ag (show(opC p tco).length=(opC ⟨0,0,⟨#[]⟩,0,0,false,tm0⟩ (tmC 0 0 0 ⟨#[]⟩ (.slice none 0 0))).length from by rw[HPL.out];rfl)
  clear hto hb
  have HSL:=Ag HX4.out.2.1.len
  have HSO:=Ag HX4.out.2.1.one
  go_wp2_with (first
  | ((with_reducible refine Av x4 rfl 31 rfl (opC ⟨0,0,⟨#[]⟩,0,0,false,tm0⟩ (tmC 0 0 0 ⟨#[]⟩ (.slice none 0 0))) Tryz.zeroOp ?_);intro x5 hb hbel hsz;have HX5:=Ag (Ai hb hbel);clear hb hbel hsz)
  | ((with_reducible refine Ao x5 rfl 31 (.tmp 7) (.tmp 33) rfl (x4.heap.size) 31 (opC ⟨0,0,⟨#[]⟩,0,0,false,tm0⟩ (tmC 0 0 0 ⟨#[]⟩ (.slice none 0 0))) (opC p tco) HX5.out.1 rfl rfl HPZ.out (At Tryz.infoOp HPL.out) (F2 HTO.out) ?_);intro x6 hb hc hs;have hbx:=By HX5.out.2 hc;have HX6:=hJ6 (HX4.out.1.below hbx HX4.out.1.lt) (HX4.out.2.1.below hbx) (An HX4.out.2.2.1 hbx (Ah _)) (HX4.out.2.2.2.1.below hbx HX4.out.2.2.2.1.lt) (HX4.out.2.2.2.2.below hbx) hb;clear hb hc hs hbx)
  | (with_reducible refine Ap rfl 26 (.tmp 2) rfl (w.heap.size) 0 rfl (cs) _ (As HX6.out.1) Tryz.underlying26 rfl (At Tryz.infoId HSL.out) ?_)
  | (with_reducible refine Ap rfl 31 (.tmp 7) rfl (x4.heap.size) 0 rfl (opC p tco) _ (As HX6.out.2.2.2.2.2) Tryz.underlying31 rfl (At Tryz.infoOp HPL.out) ?_))
  have HDO:=Ag (do_any Cv s cs p tco (·∉[w.heap.size]) [w.heap.size] x6 HX6.out.2.1 (fun _ h=> h) (fun k hk=> by rw[List.mem_singleton.1 hk];exact HX6.out.1.lt) (by have:=HI.out.cl;omega) HX6.out.2.2.2.2.1)
  obtain⟨⟨s2,⟨re,rv,ru,rb⟩,e⟩,hR⟩:∃ R,doM s p=R:=⟨_,rfl⟩
  rw[hR] at HDO
  have HR:=Ag hR
  clear hR
  refine HDO.out.mono ?_
  rintro e' x7 ⟨csn,rtc,rfl,hs2,hrt,hb⟩
  clear HDO
  simp only at hs2 hrt
  have HX7:=hJ8 (HX6.out.1.below hb HX6.out.1.lt) (HX6.out.2.1.below hb) (An HX6.out.2.2.1 hb (Ah _)) (HX6.out.2.2.2.1.below hb HX6.out.2.2.2.1.lt) (HX6.out.2.2.2.2.1.below hb) (HX6.out.2.2.2.2.2.below hb HX6.out.2.2.2.2.2.lt) hs2 hrt
  have HNL:=Ag hs2.len
  have HNO:=Ag hs2.one
  have HRL:=Ag hrt.len
  have HRO:=Ag hrt.one
  have HNZ:=Ag (show csn.length=([(.slice none 0 0),(.slice none 0 0),(.slice none 0 0)]:List Value).length from hs2.len)
  have HRZ:=Ag (show(AC re rv ru rtc).length=(AC 0 0 0 (tmC 0 0 0 ⟨#[]⟩ (.slice none 0 0))).length from by simp[AC,hrt.len,tmC])
  clear hs2 hrt hb
  go_upto_region 12 with(first
  | ((with_reducible refine Av x7 rfl 26 rfl ([(.slice none 0 0),(.slice none 0 0),(.slice none 0 0)]) Tryz.zeroId3b ?_);intro x8 hb hbel hsz;have HX8:=Ag (Ai hb hbel);clear hb hbel hsz)
  | ((with_reducible refine Av x8 rfl 37 rfl (AC 0 0 0 (tmC 0 0 0 ⟨#[]⟩ (.slice none 0 0))) Tryz.zeroRs ?_);intro x9 hb hbel hsz;have HX9:=hJ4 (HX8.out.1.below hbel HX8.out.1.lt) hb (An HX8.out.2 hbel (Ah _)) HX8.out.1.lt;clear hb hbel hsz)
  | ((with_reducible refine Ao x9 rfl 26 (.tmp 8) (.tmp 38) rfl (x7.heap.size) 26 ([(.slice none 0 0),(.slice none 0 0),(.slice none 0 0)]) (csn) HX9.out.1 rfl rfl HNZ.out (At Tryz.infoId HNL.out) HNO.out ?_);intro y1 hb hc hs;have HY1:=hJ4 hb (HX9.out.2.1.keep hc (fun e=> absurd (show _=_ from e) (by have:=HX9.out.2.2.2;omega))) (Aw HX9.out.2.2.1 hc (Ah _) (fun k hk=> by have e:=(show _=_ from hk);omega)) HX9.out.2.2.2;clear hb hc hs)
  | ((with_reducible refine Ao y1 rfl 37 (.tmp 9) (.tmp 39) rfl (x8.heap.size) 37 (AC 0 0 0 (tmC 0 0 0 ⟨#[]⟩ (.slice none 0 0))) (AC re rv ru rtc) HY1.out.2.1 rfl rfl HRZ.out (Ax HRL.out) (AM HRO.out) ?_);intro y2 hb hc hs;have hbx:=Aw HY1.out.2.2.1 hc (Ah _) (fun k hk=> by have e:=(show _=_ from hk);have:=HY1.out.2.2.2;omega);have HY2:=hJ10 (HX7.out.1.below hbx HX7.out.1.lt) (HX7.out.2.1.below hbx) (An HX7.out.2.2.1 hbx (Ah _)) (HX7.out.2.2.2.1.below hbx HX7.out.2.2.2.1.lt) (HX7.out.2.2.2.2.1.below hbx) (HX7.out.2.2.2.2.2.1.below hbx HX7.out.2.2.2.2.2.1.lt) (HX7.out.2.2.2.2.2.2.1.below hbx) (HX7.out.2.2.2.2.2.2.2.below hbx) (HY1.out.1.keep hc (fun e=> absurd (show _=_ from e) (by have:=HY1.out.2.2.2;omega))) hb;clear hb hc hs hbx))
  try simp only[Al,Ad,Ae,Af]
  clear HX2 HX3 HX4 HX5 HX6 HX7 HX8 HX9 HY1 HO
  by_cases he:e=0
  rotate_left
  ·have hne:(e==0)=false:=by simp[he]
   go_wp2_with fail
   go_roundw
   case measure=> simp[intOf];omega
   case rel=> exact⟨j+1,cs,s,by go_num,by omega,by omega,HI,Ag ⟨HY2.out.1,HY2.out.2.1,HY2.out.2.2.1⟩⟩
  subst he
  have HSD:=Ag (show ChkP s2∧(re≠0∨p.k=3→s2=s)∧(p.k≠3→rv=0∧ru=0∧rb=tm0)∧∀ f∈s.fs,∃ g,Dn s2 f.nm=(g,true)∧f.v≤9999∧1≤f.v∧Kept p ⟨re,rv,ru,rb⟩ f g from by have h:=(LH (s:=s) (o:=p) (by rw[HR.out])).2;rw[HR.out] at h;exact h)
  obtain⟨pk,pu,pn,pt,pg,pw,pb⟩:=p
  go_upto_region 13 with fail
  try simp only[Al,Ad,Ae,Af]
  go_wp2_with (first
  | (with_reducible refine Ap rfl 26 (.tmp 8) rfl (x7.heap.size) 0 rfl (csn) _ (As HY2.out.2.2.2.2.2.2.2.2.1) Tryz.underlying26 rfl (At Tryz.infoId HNL.out) ?_))
  have hck:=C7 s2 csn _ y2 HY2.out.2.2.2.2.2.2.1 (by have:=HSD.out.1.cl;omega)
  rw[if_pos (Dj.2 HSD.out.1)] at hck
  refine Calls.mono hck ?_
  clear hck
  rintro e' y3 ⟨rfl,hb⟩
  have HY3:=hJ10 (HY2.out.1.below hb HY2.out.1.lt) (HY2.out.2.1.below hb) (An HY2.out.2.2.1 hb (Ah _)) (HY2.out.2.2.2.1.below hb HY2.out.2.2.2.1.lt) (HY2.out.2.2.2.2.1.below hb) (HY2.out.2.2.2.2.2.1.below hb HY2.out.2.2.2.2.2.1.lt) (HY2.out.2.2.2.2.2.2.1.below hb) (HY2.out.2.2.2.2.2.2.2.1.below hb) (HY2.out.2.2.2.2.2.2.2.2.1.below hb HY2.out.2.2.2.2.2.2.2.2.1.lt) (HY2.out.2.2.2.2.2.2.2.2.2.below hb HY2.out.2.2.2.2.2.2.2.2.2.lt)
  clear hb HY2
  go_upto_region 15 with fail
  try simp only[Al,Ad,Ae,Af]
  go_cut [59] from 46 to 60 (fun c wc=> c=.bool false∧Hid (Blk wc (w.heap.size) 26 (cs)∧IdC (·∉[w.heap.size]) wc cs s∧Below w.heap.size w wc∧TmC (·∉[w.heap.size]) wc tco (pb)∧Blk wc (x4.heap.size) 31 (opC ⟨pk,pu,pn,pt,pg,pw,pb⟩ tco)∧IdC (·∉[w.heap.size]) wc csn s2∧TmC (·∉[w.heap.size]) wc rtc (rb)∧Blk wc (x7.heap.size) 26 (csn)∧Blk wc (x8.heap.size) 37 (AC re rv ru rtc)))
  case first=>
   have c0:=HY3.out.2.2.2.2.2.1.cell 0
   simp only[opC,Ab,Ac] at c0
   have c1:=HY3.out.2.2.2.2.2.2.2.2.2.cell 0
   simp only[AC,Ab,Ac] at c1
   by_cases hk:pk=3
   ·rw[hk] at c0
    have HKK:=Ag hk
    clear hk
    by_cases hr:re=0
    ·rw[hr] at c1
     have HRR:=Ag hr
     clear hr
     have HEQ:=Ag (show s2=s from HSD.out.2.1 (.inr HKK.out))
     go_wp2_with (first
  | ((with_reducible refine AO ?_ 26 (.tmp 2) rfl (w.heap.size) 0 rfl (cs) _ (As HY3.out.1) Tryz.underlying26 rfl (At Tryz.infoId HSL.out) ?_);focus rfl)
  | ((with_reducible refine AO ?_ 26 (.tmp 8) rfl (x7.heap.size) 0 rfl (csn) _ (As HY3.out.2.2.2.2.2.2.2.2.1) Tryz.underlying26 rfl (At Tryz.infoId HNL.out) ?_);focus rfl))
     refine(D6 s cs csn _ _ y3 HY3.out.2.1 (by have h:=HY3.out.2.2.2.2.2.2.1;rw[HEQ.out] at h;exact h)).mono ?_
     rintro e' q1 ⟨rfl,hb⟩
     have HQ2:=hJ10 (HY3.out.1.below hb HY3.out.1.lt) (HY3.out.2.1.below hb) (An HY3.out.2.2.1 hb (Ah _)) (HY3.out.2.2.2.1.below hb HY3.out.2.2.2.1.lt) (HY3.out.2.2.2.2.1.below hb) (HY3.out.2.2.2.2.2.1.below hb HY3.out.2.2.2.2.2.1.lt) (HY3.out.2.2.2.2.2.2.1.below hb) (HY3.out.2.2.2.2.2.2.2.1.below hb) (HY3.out.2.2.2.2.2.2.2.2.1.below hb HY3.out.2.2.2.2.2.2.2.2.1.lt) (HY3.out.2.2.2.2.2.2.2.2.2.below hb HY3.out.2.2.2.2.2.2.2.2.2.lt)
     clear hb
     go_wp2_with fail
     go_meet
     case rel=> exact⟨rfl,Ag ⟨HQ2.out.1,HQ2.out.2.1,HQ2.out.2.2.1,HQ2.out.2.2.2.2.1,HQ2.out.2.2.2.2.2.1,HQ2.out.2.2.2.2.2.2.1,HQ2.out.2.2.2.2.2.2.2.1,HQ2.out.2.2.2.2.2.2.2.2.1,HQ2.out.2.2.2.2.2.2.2.2.2⟩⟩
    ·have hr2:(re==0)=false:=by simp[hr]
     have HRR:=Ag hr
     clear hr
     have HEQ:=Ag (show s2=s from HSD.out.2.1 (.inr HKK.out))
     go_wp2_with (first
  | ((with_reducible refine AO ?_ 26 (.tmp 2) rfl (w.heap.size) 0 rfl (cs) _ (As HY3.out.1) Tryz.underlying26 rfl (At Tryz.infoId HSL.out) ?_);focus rfl)
  | ((with_reducible refine AO ?_ 26 (.tmp 8) rfl (x7.heap.size) 0 rfl (csn) _ (As HY3.out.2.2.2.2.2.2.2.2.1) Tryz.underlying26 rfl (At Tryz.infoId HNL.out) ?_);focus rfl))
     refine(D6 s cs csn _ _ y3 HY3.out.2.1 (by have h:=HY3.out.2.2.2.2.2.2.1;rw[HEQ.out] at h;exact h)).mono ?_
     rintro e' q3 ⟨rfl,hb⟩
     have HQ4:=hJ10 (HY3.out.1.below hb HY3.out.1.lt) (HY3.out.2.1.below hb) (An HY3.out.2.2.1 hb (Ah _)) (HY3.out.2.2.2.1.below hb HY3.out.2.2.2.1.lt) (HY3.out.2.2.2.2.1.below hb) (HY3.out.2.2.2.2.2.1.below hb HY3.out.2.2.2.2.2.1.lt) (HY3.out.2.2.2.2.2.2.1.below hb) (HY3.out.2.2.2.2.2.2.2.1.below hb) (HY3.out.2.2.2.2.2.2.2.2.1.below hb HY3.out.2.2.2.2.2.2.2.2.1.lt) (HY3.out.2.2.2.2.2.2.2.2.2.below hb HY3.out.2.2.2.2.2.2.2.2.2.lt)
     clear hb
     go_wp2_with fail
     go_meet
     case rel=> exact⟨rfl,Ag ⟨HQ4.out.1,HQ4.out.2.1,HQ4.out.2.2.1,HQ4.out.2.2.2.2.1,HQ4.out.2.2.2.2.2.1,HQ4.out.2.2.2.2.2.2.1,HQ4.out.2.2.2.2.2.2.2.1,HQ4.out.2.2.2.2.2.2.2.2.1,HQ4.out.2.2.2.2.2.2.2.2.2⟩⟩
   ·have hk':(pk==3)=false:=by simp[hk]
    have HKK:=Ag hk
    clear hk
    by_cases hr:re=0
    ·rw[hr] at c1
     have HRR:=Ag hr
     clear hr
     go_wp2_with fail
     go_meet
     case rel=> exact⟨rfl,Ag ⟨HY3.out.1,HY3.out.2.1,HY3.out.2.2.1,HY3.out.2.2.2.2.1,HY3.out.2.2.2.2.2.1,HY3.out.2.2.2.2.2.2.1,HY3.out.2.2.2.2.2.2.2.1,HY3.out.2.2.2.2.2.2.2.2.1,HY3.out.2.2.2.2.2.2.2.2.2⟩⟩
    ·have hr2:(re==0)=false:=by simp[hr]
     have HRR:=Ag hr
     clear hr
     have HEQ:=Ag (show s2=s from HSD.out.2.1 (.inl HRR.out))
     go_wp2_with (first
  | ((with_reducible refine AO ?_ 26 (.tmp 2) rfl (w.heap.size) 0 rfl (cs) _ (As HY3.out.1) Tryz.underlying26 rfl (At Tryz.infoId HSL.out) ?_);focus rfl)
  | ((with_reducible refine AO ?_ 26 (.tmp 8) rfl (x7.heap.size) 0 rfl (csn) _ (As HY3.out.2.2.2.2.2.2.2.2.1) Tryz.underlying26 rfl (At Tryz.infoId HNL.out) ?_);focus rfl))
     refine(D6 s cs csn _ _ y3 HY3.out.2.1 (by have h:=HY3.out.2.2.2.2.2.2.1;rw[HEQ.out] at h;exact h)).mono ?_
     rintro e' q5 ⟨rfl,hb⟩
     have HQ6:=hJ10 (HY3.out.1.below hb HY3.out.1.lt) (HY3.out.2.1.below hb) (An HY3.out.2.2.1 hb (Ah _)) (HY3.out.2.2.2.1.below hb HY3.out.2.2.2.1.lt) (HY3.out.2.2.2.2.1.below hb) (HY3.out.2.2.2.2.2.1.below hb HY3.out.2.2.2.2.2.1.lt) (HY3.out.2.2.2.2.2.2.1.below hb) (HY3.out.2.2.2.2.2.2.2.1.below hb) (HY3.out.2.2.2.2.2.2.2.2.1.below hb HY3.out.2.2.2.2.2.2.2.2.1.lt) (HY3.out.2.2.2.2.2.2.2.2.2.below hb HY3.out.2.2.2.2.2.2.2.2.2.lt)
     clear hb
     go_wp2_with fail
     go_meet
     case rel=> exact⟨rfl,Ag ⟨HQ6.out.1,HQ6.out.2.1,HQ6.out.2.2.1,HQ6.out.2.2.2.2.1,HQ6.out.2.2.2.2.2.1,HQ6.out.2.2.2.2.2.2.1,HQ6.out.2.2.2.2.2.2.2.1,HQ6.out.2.2.2.2.2.2.2.2.1,HQ6.out.2.2.2.2.2.2.2.2.2⟩⟩
  case rest=>
   obtain⟨rfl,HWC⟩:=hcut
   clear HY3
   go_upto_region 17 with fail
   try simp only[Al,Ad,Ae,Af]
   go_cut [79] from 60 to 80 (fun c wd=> c=.bool false∧Hid (Blk wd (w.heap.size) 26 (cs)∧IdC (·∉[w.heap.size]) wd cs s∧Below w.heap.size w wd∧TmC (·∉[w.heap.size]) wd tco (pb)∧Blk wd (x4.heap.size) 31 (opC ⟨pk,pu,pn,pt,pg,pw,pb⟩ tco)∧IdC (·∉[w.heap.size]) wd csn s2∧TmC (·∉[w.heap.size]) wd rtc (rb)∧Blk wd (x7.heap.size) 26 (csn)∧Blk wd (x8.heap.size) 37 (AC re rv ru rtc)))
   case first=>
    have c0:=HWC.out.2.2.2.2.1.cell 0
    simp only[opC,Ab,Ac] at c0
    by_cases hk:pk=3
    ·rw[hk] at c0
     clear hk
     go_wp2_with fail
     go_meet
     case rel=> exact⟨rfl,Ag ⟨HWC.out.1,HWC.out.2.1,HWC.out.2.2.1,HWC.out.2.2.2.1,HWC.out.2.2.2.2.1,HWC.out.2.2.2.2.2.1,HWC.out.2.2.2.2.2.2.1,HWC.out.2.2.2.2.2.2.2.1,HWC.out.2.2.2.2.2.2.2.2⟩⟩
    ·have hk':(pk==3)=false:=by simp[hk]
     obtain⟨hv0,hu0,hb0⟩:=HSD.out.2.2.1 hk
     have e1:=HWC.out.2.2.2.2.2.2.2.2.cell 1
     simp only[AC,Ab,Ac] at e1
     have e2:=HWC.out.2.2.2.2.2.2.2.2.cell 2
     simp only[AC,Ab,Ac] at e2
     rw[hv0] at e1
     rw[hu0] at e2
     have HRT:=Ag (show wc.rangeAt (x8.heap.size) 3 rtc from fun j x hx=> (HWC.out.2.2.2.2.2.2.2.2.cell (3+j)).trans (by rw[Nat.add_comm 3 j];exact hx))
     have HB0:=Ag hb0
     clear hv0 hu0 hb0
     go_wp2_with (first
  | ((with_reducible refine AO ?_ 29 (.tmp 73) rfl (x8.heap.size) 3 rfl (rtc) _ (HRT.out) Tryz.underlying29 rfl (At Tryz.infoTm HRL.out) ?_);focus rfl)
  | ((with_reducible refine Fq ?_ rfl ?_);focus rfl))
     refine(Dq rb tm0 rtc (tmC 0 0 0 ⟨#[]⟩ (.slice none 0 0)) _ (fun _=> True) wc HWC.out.2.2.2.2.2.2.1 (Bm _ _)).mono ?_
     rintro e' q7 ⟨rfl,hb⟩
     rw[HB0.out,(Dp tm0 tm0).2 rfl]
     have HQ8:=hJ9 (HWC.out.1.below hb HWC.out.1.lt) (HWC.out.2.1.below hb) (An HWC.out.2.2.1 hb (Ah _)) (HWC.out.2.2.2.1.below hb) (HWC.out.2.2.2.2.1.below hb HWC.out.2.2.2.2.1.lt) (HWC.out.2.2.2.2.2.1.below hb) (HWC.out.2.2.2.2.2.2.1.below hb) (HWC.out.2.2.2.2.2.2.2.1.below hb HWC.out.2.2.2.2.2.2.2.1.lt) (HWC.out.2.2.2.2.2.2.2.2.below hb HWC.out.2.2.2.2.2.2.2.2.lt)
     clear hb
     go_wp2_with fail
     go_meet
     case rel=> exact⟨rfl,Ag ⟨HQ8.out.1,HQ8.out.2.1,HQ8.out.2.2.1,HQ8.out.2.2.2.1,HQ8.out.2.2.2.2.1,HQ8.out.2.2.2.2.2.1,HQ8.out.2.2.2.2.2.2.1,HQ8.out.2.2.2.2.2.2.2.1,HQ8.out.2.2.2.2.2.2.2.2⟩⟩
   case rest=>
    obtain⟨rfl,HWD⟩:=hcut
    clear HWC
    obtain⟨nvf,nvc,nvw,hcs,hif,hic,hiw⟩:=HWD.out.2.1
    obtain⟨nca,ncc,rfl,hnc1,hnc2⟩:=hif.shape
    obtain⟨cn,hcn⟩:∃ m,s.fs.length=m:=⟨_,rfl⟩
    have HCN:=Ag hcn
    rw[hcn] at hif hnc1 hcs
    have hcn63:cn≤9223372036854775807:=by unfold maxLen at hnc2;have:=hnc1;omega
    have HIC:=Ag hif
    have c1:=HWD.out.1.cell 0
    rw[hcs] at c1
    simp only[Ab,Ac] at c1
    clear hcs hif hic hiw hnc1 hnc2 hcn
    have H0:=Ag (show Blk wc (w.heap.size) 26 (cs)∧IdC (·∉[w.heap.size]) wc cs s∧Below w.heap.size w wc∧TmC (·∉[w.heap.size]) wc tco (pb)∧Blk wc (x4.heap.size) 31 (opC ⟨pk,pu,pn,pt,pg,pw,pb⟩ tco)∧IdC (·∉[w.heap.size]) wc csn s2∧TmC (·∉[w.heap.size]) wc rtc (rb)∧Blk wc (x7.heap.size) 26 (csn)∧Blk wc (x8.heap.size) 37 (AC re rv ru rtc)∧Below wc.heap.size wc wc from⟨HWD.out.1,HWD.out.2.1,HWD.out.2.2.1,HWD.out.2.2.2.1,HWD.out.2.2.2.2.1,HWD.out.2.2.2.2.2.1,HWD.out.2.2.2.2.2.2.1,HWD.out.2.2.2.2.2.2.2.1,HWD.out.2.2.2.2.2.2.2.2,Below.refl _ _⟩)
    go_wp2_with fail
    clear c1
    go_loopw [83] (fun s61 wr=> ∃ i:Nat,s61=.int .i64 i∧i≤cn∧Hid (Blk wr (w.heap.size) 26 (cs)∧IdC (·∉[w.heap.size]) wr cs s∧Below w.heap.size w wr∧TmC (·∉[w.heap.size]) wr tco (pb)∧Blk wr (x4.heap.size) 31 (opC ⟨pk,pu,pn,pt,pg,pw,pb⟩ tco)∧IdC (·∉[w.heap.size]) wr csn s2∧TmC (·∉[w.heap.size]) wr rtc (rb)∧Blk wr (x7.heap.size) 26 (csn)∧Blk wr (x8.heap.size) 37 (AC re rv ru rtc)∧Below wc.heap.size wc wr)) (fun s61 _=> cn - (intOf s61).toNat)
    case atStart=> exact⟨0,rfl,Nat.zero_le _,H0⟩
    case round=>
     clear H0 HWD
     obtain⟨i,rfl,hi,HQ⟩:=hrel
     by_cases hlt2:i<cn
     rotate_left
     ·have hge:¬ (i:Int)<(cn:Int):=by omega
      have HNS:=Ag (show csn.length=cs.length from HNL.out.trans HSL.out.symm)
      go_wp2_with (first
  | (with_reducible refine Ap rfl 26 (.tmp 8) rfl (x7.heap.size) 0 rfl (csn) _ (As HQ.out.2.2.2.2.2.2.2.1) Tryz.underlying26 rfl (At Tryz.infoId HNL.out) ?_)
  | ((with_reducible refine Ao wr rfl 26 (.tmp 2) (.tmp 174) rfl (w.heap.size) 26 (cs) (csn) HQ.out.1 rfl rfl HNS.out (At Tryz.infoId HNL.out) HNO.out ?_);intro z1 hb hc hs;have HZ1:=Ag (show Blk z1 (w.heap.size) 26 (csn)∧IdC (·∉[w.heap.size]) z1 csn s2∧Below w.heap.size w z1 from⟨hb,HQ.out.2.2.2.2.2.1.keep' hc (fun k hk e=> hk (List.mem_singleton.2 e)) (fun _ h=> h),Aw HQ.out.2.2.1 hc (Ah _) (fun k hk=> by have e:=(show _=_ from hk);omega)⟩);clear hb hc hs))
      go_roundw
      case measure=> simp[intOf];omega
      case rel=> exact⟨j+1,csn,s2,by go_num,by omega,by omega,Ag HSD.out.1,HZ1⟩
     have hil:i<s.fs.length:=by rw[HCN.out];exact hlt2
     have hiz:(i:Int)<(cn:Int):=by omega
     have hi0:(0:Int)≤(i:Int):=by omega
     obtain⟨b2,o2,ycs,rfl,-,-,hlen,hra,hxc⟩:=HIC.out.get (by exact hil)
     obtain⟨g,hg1,hg2,hg3,hg4⟩:=HSD.out.2.2.2 _ (List.getElem_mem hil)
     generalize hx:s.fs[i]=x2 at hxc hg1 hg2 hg3 hg4
     have HXO2:=Ag hxc.one
     obtain⟨xr,xq,xg,xt,rfl,hxp,hxt⟩:=hxc
     have HZL2:=Ag (show(flC x2.nm x2.p.o x2.p.e xr xq xg x2.v x2.e x2.u xt).length=(flC ⟨#[]⟩ 0 0 (.slice none 0 0) (.slice none 0 0) (.slice none 0 0) 0 0 0 (tmC 0 0 0 ⟨#[]⟩ (.slice none 0 0))).length from hlen)
     have HRA2:=Ag (Ai (show wr.rangeAt b2 (o2+i* 14) (flC x2.nm x2.p.o x2.p.e xr xq xg x2.v x2.e x2.u xt) from fun i z hz=> (HQ.out.2.2.2.2.2.2.2.2.2.cell (Am (hra i z hz))).trans (hra i z hz)) hlen)
     have HXP:=Ag (Ai (hxp.below HQ.out.2.2.2.2.2.2.2.2.2) (Ai (hxt.below HQ.out.2.2.2.2.2.2.2.2.2) hxt.len))
     have HGF:=Ag hg1
     have HKP:=Ag (Ai hg4 (Ai hg2 hg3))
     clear hra hlen hx hil hxp hxt hg1 hg2 hg3 hg4
     go_upto_region 22 with(first
  | (with_reducible refine Ap rfl 45 (.tmp 85) rfl b2 (o2+i* 14) rfl (flC x2.nm x2.p.o x2.p.e xr xq xg x2.v x2.e x2.u xt) _ HRA2.out.1 Tryz.underlying45 rfl (At Tryz.infoFl HRA2.out.2) ?_)
  | ((with_reducible refine Av wr rfl 45 rfl (flC ⟨#[]⟩ 0 0 (.slice none 0 0) (.slice none 0 0) (.slice none 0 0) 0 0 0 (tmC 0 0 0 ⟨#[]⟩ (.slice none 0 0))) Tryz.zeroFl14 ?_);intro m2 hb hbel hsz;have HM2:=Ag (Ai hb hbel);clear hb hbel hsz)
  | ((with_reducible refine Ao m2 rfl 45 (.tmp 12) (.tmp 86) rfl (wr.heap.size) 45 (flC ⟨#[]⟩ 0 0 (.slice none 0 0) (.slice none 0 0) (.slice none 0 0) 0 0 0 (tmC 0 0 0 ⟨#[]⟩ (.slice none 0 0))) (flC x2.nm x2.p.o x2.p.e xr xq xg x2.v x2.e x2.u xt) HM2.out.1 rfl rfl HZL2.out (At Tryz.infoFl HRA2.out.2) HXO2.out ?_);intro m3 hb hc hs;have hbx:=By HM2.out.2 hc;have HM3:=hJ11 (HQ.out.1.below hbx HQ.out.1.lt) (HQ.out.2.1.below hbx) (An HQ.out.2.2.1 hbx (Ah _)) (HQ.out.2.2.2.1.below hbx) (HQ.out.2.2.2.2.1.below hbx HQ.out.2.2.2.2.1.lt) (HQ.out.2.2.2.2.2.1.below hbx) (HQ.out.2.2.2.2.2.2.1.below hbx) (HQ.out.2.2.2.2.2.2.2.1.below hbx HQ.out.2.2.2.2.2.2.2.1.lt) (HQ.out.2.2.2.2.2.2.2.2.1.below hbx HQ.out.2.2.2.2.2.2.2.2.1.lt) (An HQ.out.2.2.2.2.2.2.2.2.2 hbx (Ah _)) hb;have HXQ:=Ag (Ai (HXP.out.1.below hbx) (HXP.out.2.1.below hbx));clear hb hc hs hbx))
     try simp only[Al,Ad,Ae,Af]
     have c0:=HM3.out.2.2.2.2.2.2.2.2.2.2.cell 0
     simp only[flC,Ab,Ac] at c0
     go_wp2_with (first
  | (with_reducible refine Ap rfl 26 (.tmp 8) rfl (x7.heap.size) 0 rfl (csn) _ (As HM3.out.2.2.2.2.2.2.2.1) Tryz.underlying26 rfl (At Tryz.infoId HNL.out) ?_))
     clear c0
     refine(Ha s2 x2.nm csn _ m3 HM3.out.2.2.2.2.2.1 (by have h2:=HSD.out.1.cl;omega) (by have h2:=HSD.out.1.fl;omega)).mono ?_
     rintro e' m4 ⟨cf2,rfl,hfl,hb⟩
     rw[HGF.out] at hfl ⊢
     simp only at hfl ⊢
     have HFO2:=Ag hfl.one
     have HFL2:=Ag hfl.len
     obtain⟨gr_,gq_,gg_,gt_,rfl,hpm,htf⟩:=hfl
     have HGT:=Ag htf.len
     have HM4:=hJ12 (HM3.out.1.below hb HM3.out.1.lt) (HM3.out.2.1.below hb) (An HM3.out.2.2.1 hb (Ah _)) (HM3.out.2.2.2.1.below hb) (HM3.out.2.2.2.2.1.below hb HM3.out.2.2.2.2.1.lt) (HM3.out.2.2.2.2.2.1.below hb) (HM3.out.2.2.2.2.2.2.1.below hb) (HM3.out.2.2.2.2.2.2.2.1.below hb HM3.out.2.2.2.2.2.2.2.1.lt) (HM3.out.2.2.2.2.2.2.2.2.1.below hb HM3.out.2.2.2.2.2.2.2.2.1.lt) (An HM3.out.2.2.2.2.2.2.2.2.2.1 hb (Ah _)) (HM3.out.2.2.2.2.2.2.2.2.2.2.below hb HM3.out.2.2.2.2.2.2.2.2.2.2.lt) htf
     have HFZ2:=Ag (show(flC g.nm g.p.o g.p.e gr_ gq_ gg_ g.v g.e g.u gt_).length=(flC ⟨#[]⟩ 0 0 (.slice none 0 0) (.slice none 0 0) (.slice none 0 0) 0 0 0 (tmC 0 0 0 ⟨#[]⟩ (.slice none 0 0))).length from by rw[HFL2.out];simp[flC,tmC])
     have HXS:=Ag (Ai (HXQ.out.1.below hb) (HXQ.out.2.below hb))
     clear hpm htf hb
     go_upto_region 23 with(first
  | ((with_reducible refine Av m4 rfl 45 rfl (flC ⟨#[]⟩ 0 0 (.slice none 0 0) (.slice none 0 0) (.slice none 0 0) 0 0 0 (tmC 0 0 0 ⟨#[]⟩ (.slice none 0 0))) Tryz.zeroFl14 ?_);intro m5 hb hbel hsz;have HM5:=Ag (Ai hb hbel);clear hb hbel hsz)
  | ((with_reducible refine Ao m5 rfl 45 (.tmp 13) (.tmp 92) rfl (m4.heap.size) 45 (flC ⟨#[]⟩ 0 0 (.slice none 0 0) (.slice none 0 0) (.slice none 0 0) 0 0 0 (tmC 0 0 0 ⟨#[]⟩ (.slice none 0 0))) (flC g.nm g.p.o g.p.e gr_ gq_ gg_ g.v g.e g.u gt_) HM5.out.1 rfl rfl HFZ2.out (At Tryz.infoFl HFL2.out) HFO2.out ?_);intro m6 hb hc hs;have hbx:=By HM5.out.2 hc;have HM6:=Ag (show Blk m6 (w.heap.size) 26 (cs)∧IdC (·∉[w.heap.size]) m6 cs s∧Below w.heap.size w m6∧TmC (·∉[w.heap.size]) m6 tco (pb)∧Blk m6 (x4.heap.size) 31 (opC ⟨pk,pu,pn,pt,pg,pw,pb⟩ tco)∧IdC (·∉[w.heap.size]) m6 csn s2∧TmC (·∉[w.heap.size]) m6 rtc (rb)∧Blk m6 (x7.heap.size) 26 (csn)∧Blk m6 (x8.heap.size) 37 (AC re rv ru rtc)∧Below wc.heap.size wc m6∧Blk m6 (wr.heap.size) 45 (flC x2.nm x2.p.o x2.p.e xr xq xg x2.v x2.e x2.u xt)∧TmC (m3.heap.size≤·) m6 gt_ g.b∧Blk m6 (m4.heap.size) 45 (flC g.nm g.p.o g.p.e gr_ gq_ gg_ g.v g.e g.u gt_) from⟨HM4.out.1.below hbx HM4.out.1.lt,(HM4.out.2.1.below hbx),(An HM4.out.2.2.1 hbx (Ah _)),(HM4.out.2.2.2.1.below hbx),HM4.out.2.2.2.2.1.below hbx HM4.out.2.2.2.2.1.lt,(HM4.out.2.2.2.2.2.1.below hbx),(HM4.out.2.2.2.2.2.2.1.below hbx),HM4.out.2.2.2.2.2.2.2.1.below hbx HM4.out.2.2.2.2.2.2.2.1.lt,HM4.out.2.2.2.2.2.2.2.2.1.below hbx HM4.out.2.2.2.2.2.2.2.2.1.lt,(An HM4.out.2.2.2.2.2.2.2.2.2.1 hbx (Ah _)),HM4.out.2.2.2.2.2.2.2.2.2.2.1.below hbx HM4.out.2.2.2.2.2.2.2.2.2.2.1.lt,(HM4.out.2.2.2.2.2.2.2.2.2.2.2.below hbx),hb⟩);have HXT:=Ag (Ai (HXS.out.1.below hbx) (HXS.out.2.below hbx));clear hb hc hs hbx))
     try simp only[Al,Ad,Ae,Af]
     have e1:=HM6.out.2.2.2.2.2.2.2.2.2.2.1.cell 1
     simp only[flC,Ab,Ac] at e1
     have e2:=HM6.out.2.2.2.2.2.2.2.2.2.2.1.cell 2
     simp only[flC,Ab,Ac] at e2
     have d1:=HM6.out.2.2.2.2.2.2.2.2.2.2.2.2.cell 1
     simp only[flC,Ab,Ac] at d1
     have d2:=HM6.out.2.2.2.2.2.2.2.2.2.2.2.2.cell 2
     simp only[flC,Ab,Ac] at d2
     rw[HKP.out.1.own] at d1
     have hep:¬ (g.p.e<x2.p.e):=by have:=HKP.out.1.ep;omega
     go_upto_region 25 with fail
     try simp only[Al,Ad,Ae,Af]
     clear e1 e2 d1 d2
     have c0:=HM6.out.2.2.2.2.1.cell 0
     simp only[opC,Ab,Ac] at c0
     have c2:=HM6.out.2.2.2.2.1.cell 2
     simp only[opC,Ab,Ac] at c2
     have r0:=HM6.out.2.2.2.2.2.2.2.2.1.cell 0
     simp only[AC,Ab,Ac] at r0
     have f0:=HM6.out.2.2.2.2.2.2.2.2.2.2.1.cell 0
     simp only[flC,Ab,Ac] at f0
     by_cases h2:pk=2
     rotate_left
     ·have h2':(pk==2)=false:=by simp[h2]
      have hnw:=HKP.out.1.n (fun h=> h2 h.1)
      go_upto_region 26 with fail
      try simp only[Al,Ad,Ae,Af]
      clear c0 c2 r0 f0
      have k1:=HM6.out.2.2.2.2.2.2.2.2.2.2.2.2.cell 6
      simp only[flC,Ab,Ac] at k1
      have k2:=HM6.out.2.2.2.2.2.2.2.2.2.2.1.cell 6
      simp only[flC,Ab,Ac] at k2
      rw[hnw.1] at k1
      have HGB:=Ag hnw.2
      clear hnw
      go_wp2_with (first
  | ((with_reducible refine AO ?_ 29 (.tmp 164) rfl (m4.heap.size) 9 rfl (gt_) _ (Db HM6.out.2.2.2.2.2.2.2.2.2.2.2.2) Tryz.underlying29 rfl (At Tryz.infoTm HGT.out) ?_);focus rfl)
  | ((with_reducible refine AO ?_ 29 (.tmp 166) rfl (wr.heap.size) 9 rfl (xt) _ (Db HM6.out.2.2.2.2.2.2.2.2.2.2.1) Tryz.underlying29 rfl (At Tryz.infoTm HXP.out.2.2) ?_);focus rfl))
      refine(Dq g.b x2.b gt_ xt _ _ m6 HM6.out.2.2.2.2.2.2.2.2.2.2.2.1 HXT.out.2).mono ?_
      rintro e' q9 ⟨rfl,hb⟩
      rw[HGB.out,(Dp x2.b x2.b).2 rfl]
      have HQ10:=Ag (show Blk q9 (w.heap.size) 26 (cs)∧IdC (·∉[w.heap.size]) q9 cs s∧Below w.heap.size w q9∧TmC (·∉[w.heap.size]) q9 tco (pb)∧Blk q9 (x4.heap.size) 31 (opC ⟨pk,pu,pn,pt,pg,pw,pb⟩ tco)∧IdC (·∉[w.heap.size]) q9 csn s2∧TmC (·∉[w.heap.size]) q9 rtc (rb)∧Blk q9 (x7.heap.size) 26 (csn)∧Blk q9 (x8.heap.size) 37 (AC re rv ru rtc)∧Below wc.heap.size wc q9∧Blk q9 (wr.heap.size) 45 (flC x2.nm x2.p.o x2.p.e xr xq xg x2.v x2.e x2.u xt)∧TmC (m3.heap.size≤·) q9 gt_ g.b∧Blk q9 (m4.heap.size) 45 (flC g.nm g.p.o g.p.e gr_ gq_ gg_ g.v g.e g.u gt_) from⟨HM6.out.1.below hb HM6.out.1.lt,(HM6.out.2.1.below hb),(An HM6.out.2.2.1 hb (Ah _)),(HM6.out.2.2.2.1.below hb),HM6.out.2.2.2.2.1.below hb HM6.out.2.2.2.2.1.lt,(HM6.out.2.2.2.2.2.1.below hb),(HM6.out.2.2.2.2.2.2.1.below hb),HM6.out.2.2.2.2.2.2.2.1.below hb HM6.out.2.2.2.2.2.2.2.1.lt,HM6.out.2.2.2.2.2.2.2.2.1.below hb HM6.out.2.2.2.2.2.2.2.2.1.lt,(An HM6.out.2.2.2.2.2.2.2.2.2.1 hb (Ah _)),HM6.out.2.2.2.2.2.2.2.2.2.2.1.below hb HM6.out.2.2.2.2.2.2.2.2.2.2.1.lt,(HM6.out.2.2.2.2.2.2.2.2.2.2.2.1.below hb),HM6.out.2.2.2.2.2.2.2.2.2.2.2.2.below hb HM6.out.2.2.2.2.2.2.2.2.2.2.2.2.lt⟩)
      clear hb k1 k2
      go_wp2_with fail
      go_roundw
      case measure=> simp[intOf];omega
      case rel=> exact⟨i+1,by go_num,by omega,Ag ⟨HQ10.out.1,HQ10.out.2.1,HQ10.out.2.2.1,HQ10.out.2.2.2.1,HQ10.out.2.2.2.2.1,HQ10.out.2.2.2.2.2.1,HQ10.out.2.2.2.2.2.2.1,HQ10.out.2.2.2.2.2.2.2.1,HQ10.out.2.2.2.2.2.2.2.2.1,HQ10.out.2.2.2.2.2.2.2.2.2.1⟩⟩
     by_cases hr0:re=0
     rotate_left
     ·rw[h2] at c0
      have h3':(re==0)=false:=by simp[hr0]
      clear h2
      have hnw:=HKP.out.1.n (fun h=> hr0 h.2.1)
      go_upto_region 26 with fail
      try simp only[Al,Ad,Ae,Af]
      clear c0 c2 r0 f0
      have k1:=HM6.out.2.2.2.2.2.2.2.2.2.2.2.2.cell 6
      simp only[flC,Ab,Ac] at k1
      have k2:=HM6.out.2.2.2.2.2.2.2.2.2.2.1.cell 6
      simp only[flC,Ab,Ac] at k2
      rw[hnw.1] at k1
      have HGB:=Ag hnw.2
      clear hnw
      go_wp2_with (first
  | ((with_reducible refine AO ?_ 29 (.tmp 164) rfl (m4.heap.size) 9 rfl (gt_) _ (Db HM6.out.2.2.2.2.2.2.2.2.2.2.2.2) Tryz.underlying29 rfl (At Tryz.infoTm HGT.out) ?_);focus rfl)
  | ((with_reducible refine AO ?_ 29 (.tmp 166) rfl (wr.heap.size) 9 rfl (xt) _ (Db HM6.out.2.2.2.2.2.2.2.2.2.2.1) Tryz.underlying29 rfl (At Tryz.infoTm HXP.out.2.2) ?_);focus rfl))
      refine(Dq g.b x2.b gt_ xt _ _ m6 HM6.out.2.2.2.2.2.2.2.2.2.2.2.1 HXT.out.2).mono ?_
      rintro e' q11 ⟨rfl,hb⟩
      rw[HGB.out,(Dp x2.b x2.b).2 rfl]
      have HQ12:=Ag (show Blk q11 (w.heap.size) 26 (cs)∧IdC (·∉[w.heap.size]) q11 cs s∧Below w.heap.size w q11∧TmC (·∉[w.heap.size]) q11 tco (pb)∧Blk q11 (x4.heap.size) 31 (opC ⟨pk,pu,pn,pt,pg,pw,pb⟩ tco)∧IdC (·∉[w.heap.size]) q11 csn s2∧TmC (·∉[w.heap.size]) q11 rtc (rb)∧Blk q11 (x7.heap.size) 26 (csn)∧Blk q11 (x8.heap.size) 37 (AC re rv ru rtc)∧Below wc.heap.size wc q11∧Blk q11 (wr.heap.size) 45 (flC x2.nm x2.p.o x2.p.e xr xq xg x2.v x2.e x2.u xt)∧TmC (m3.heap.size≤·) q11 gt_ g.b∧Blk q11 (m4.heap.size) 45 (flC g.nm g.p.o g.p.e gr_ gq_ gg_ g.v g.e g.u gt_) from⟨HM6.out.1.below hb HM6.out.1.lt,(HM6.out.2.1.below hb),(An HM6.out.2.2.1 hb (Ah _)),(HM6.out.2.2.2.1.below hb),HM6.out.2.2.2.2.1.below hb HM6.out.2.2.2.2.1.lt,(HM6.out.2.2.2.2.2.1.below hb),(HM6.out.2.2.2.2.2.2.1.below hb),HM6.out.2.2.2.2.2.2.2.1.below hb HM6.out.2.2.2.2.2.2.2.1.lt,HM6.out.2.2.2.2.2.2.2.2.1.below hb HM6.out.2.2.2.2.2.2.2.2.1.lt,(An HM6.out.2.2.2.2.2.2.2.2.2.1 hb (Ah _)),HM6.out.2.2.2.2.2.2.2.2.2.2.1.below hb HM6.out.2.2.2.2.2.2.2.2.2.2.1.lt,(HM6.out.2.2.2.2.2.2.2.2.2.2.2.1.below hb),HM6.out.2.2.2.2.2.2.2.2.2.2.2.2.below hb HM6.out.2.2.2.2.2.2.2.2.2.2.2.2.lt⟩)
      clear hb k1 k2
      go_wp2_with fail
      go_roundw
      case measure=> simp[intOf];omega
      case rel=> exact⟨i+1,by go_num,by omega,Ag ⟨HQ12.out.1,HQ12.out.2.1,HQ12.out.2.2.1,HQ12.out.2.2.2.1,HQ12.out.2.2.2.2.1,HQ12.out.2.2.2.2.2.1,HQ12.out.2.2.2.2.2.2.1,HQ12.out.2.2.2.2.2.2.2.1,HQ12.out.2.2.2.2.2.2.2.2.1,HQ12.out.2.2.2.2.2.2.2.2.2.1⟩⟩
     rw[h2] at c0
     rw[hr0] at r0
     have HP2:=Ag (Ai h2 hr0)
     clear h2 hr0
     by_cases hnm:pn=x2.nm
     rotate_left
     ·have h4':(pn.toList==x2.nm.toList)=false:=by
       cases e:(pn.toList==x2.nm.toList) with
       | false=> rfl
       | true=> exact absurd (LG.1 e) hnm
      have hnw:=HKP.out.1.n (fun h=> hnm h.2.2)
      go_upto_region 26 with fail
      try simp only[Al,Ad,Ae,Af]
      clear c0 c2 r0 f0
      have k1:=HM6.out.2.2.2.2.2.2.2.2.2.2.2.2.cell 6
      simp only[flC,Ab,Ac] at k1
      have k2:=HM6.out.2.2.2.2.2.2.2.2.2.2.1.cell 6
      simp only[flC,Ab,Ac] at k2
      rw[hnw.1] at k1
      have HGB:=Ag hnw.2
      clear hnw
      go_wp2_with (first
  | ((with_reducible refine AO ?_ 29 (.tmp 164) rfl (m4.heap.size) 9 rfl (gt_) _ (Db HM6.out.2.2.2.2.2.2.2.2.2.2.2.2) Tryz.underlying29 rfl (At Tryz.infoTm HGT.out) ?_);focus rfl)
  | ((with_reducible refine AO ?_ 29 (.tmp 166) rfl (wr.heap.size) 9 rfl (xt) _ (Db HM6.out.2.2.2.2.2.2.2.2.2.2.1) Tryz.underlying29 rfl (At Tryz.infoTm HXP.out.2.2) ?_);focus rfl))
      refine(Dq g.b x2.b gt_ xt _ _ m6 HM6.out.2.2.2.2.2.2.2.2.2.2.2.1 HXT.out.2).mono ?_
      rintro e' q13 ⟨rfl,hb⟩
      rw[HGB.out,(Dp x2.b x2.b).2 rfl]
      have HQ14:=Ag (show Blk q13 (w.heap.size) 26 (cs)∧IdC (·∉[w.heap.size]) q13 cs s∧Below w.heap.size w q13∧TmC (·∉[w.heap.size]) q13 tco (pb)∧Blk q13 (x4.heap.size) 31 (opC ⟨pk,pu,pn,pt,pg,pw,pb⟩ tco)∧IdC (·∉[w.heap.size]) q13 csn s2∧TmC (·∉[w.heap.size]) q13 rtc (rb)∧Blk q13 (x7.heap.size) 26 (csn)∧Blk q13 (x8.heap.size) 37 (AC re rv ru rtc)∧Below wc.heap.size wc q13∧Blk q13 (wr.heap.size) 45 (flC x2.nm x2.p.o x2.p.e xr xq xg x2.v x2.e x2.u xt)∧TmC (m3.heap.size≤·) q13 gt_ g.b∧Blk q13 (m4.heap.size) 45 (flC g.nm g.p.o g.p.e gr_ gq_ gg_ g.v g.e g.u gt_) from⟨HM6.out.1.below hb HM6.out.1.lt,(HM6.out.2.1.below hb),(An HM6.out.2.2.1 hb (Ah _)),(HM6.out.2.2.2.1.below hb),HM6.out.2.2.2.2.1.below hb HM6.out.2.2.2.2.1.lt,(HM6.out.2.2.2.2.2.1.below hb),(HM6.out.2.2.2.2.2.2.1.below hb),HM6.out.2.2.2.2.2.2.2.1.below hb HM6.out.2.2.2.2.2.2.2.1.lt,HM6.out.2.2.2.2.2.2.2.2.1.below hb HM6.out.2.2.2.2.2.2.2.2.1.lt,(An HM6.out.2.2.2.2.2.2.2.2.2.1 hb (Ah _)),HM6.out.2.2.2.2.2.2.2.2.2.2.1.below hb HM6.out.2.2.2.2.2.2.2.2.2.2.1.lt,(HM6.out.2.2.2.2.2.2.2.2.2.2.2.1.below hb),HM6.out.2.2.2.2.2.2.2.2.2.2.2.2.below hb HM6.out.2.2.2.2.2.2.2.2.2.2.2.2.lt⟩)
      clear hb k1 k2
      go_wp2_with fail
      go_roundw
      case measure=> simp[intOf];omega
      case rel=> exact⟨i+1,by go_num,by omega,Ag ⟨HQ14.out.1,HQ14.out.2.1,HQ14.out.2.2.1,HQ14.out.2.2.2.1,HQ14.out.2.2.2.2.1,HQ14.out.2.2.2.2.2.1,HQ14.out.2.2.2.2.2.2.1,HQ14.out.2.2.2.2.2.2.2.1,HQ14.out.2.2.2.2.2.2.2.2.1,HQ14.out.2.2.2.2.2.2.2.2.2.1⟩⟩
     rw[hnm] at c2
     have hyw:=HKP.out.1.y ⟨HP2.out.1,HP2.out.2,hnm⟩
     clear hnm
     go_upto_region 26 with fail
     try simp only[Al,Ad,Ae,Af]
     clear c0 c2 r0 f0
     have k1:=HM6.out.2.2.2.2.2.2.2.2.2.2.2.2.cell 6
     simp only[flC,Ab,Ac] at k1
     have k2:=HM6.out.2.2.2.2.2.2.2.2.2.2.1.cell 6
     simp only[flC,Ab,Ac] at k2
     have k3:=HM6.out.2.2.2.2.2.2.2.2.2.2.2.2.cell 7
     simp only[flC,Ab,Ac] at k3
     have k4:=HM6.out.2.2.2.2.2.2.2.2.2.2.1.cell 2
     simp only[flC,Ab,Ac] at k4
     have k5:=HM6.out.2.2.2.2.2.2.2.2.2.2.2.2.cell 8
     simp only[flC,Ab,Ac] at k5
     rw[hyw.1] at k1
     rw[hyw.2.1] at k3
     have HMW:=Ag hyw.2.2
     have hv8:=HKP.out.2
     have hv9:x2.v+1≤(9223372036854775807:Int):=by omega
     have hv7:(-9223372036854775808:Int)≤x2.v+1:=by omega
     clear hyw hv8
     go_wp2_with (first
  | ((with_reducible refine AO ?_ 43 (.tmp 146) rfl (wr.heap.size) 1 rfl (pmC x2.p.o x2.p.e xr xq xg) _ (BQ HM6.out.2.2.2.2.2.2.2.2.2.2.1) Tryz.underlying43 rfl (Ay _ _ _ _ _) ?_);focus rfl))
     refine(EH x2.p g.u xr xq xg m6 HXT.out.1.s).mono ?_
     rintro e' q15 ⟨rfl,hb⟩
     rw[HMW.out]
     have HQ16:=Ag (show Blk q15 (w.heap.size) 26 (cs)∧IdC (·∉[w.heap.size]) q15 cs s∧Below w.heap.size w q15∧TmC (·∉[w.heap.size]) q15 tco (pb)∧Blk q15 (x4.heap.size) 31 (opC ⟨pk,pu,pn,pt,pg,pw,pb⟩ tco)∧IdC (·∉[w.heap.size]) q15 csn s2∧TmC (·∉[w.heap.size]) q15 rtc (rb)∧Blk q15 (x7.heap.size) 26 (csn)∧Blk q15 (x8.heap.size) 37 (AC re rv ru rtc)∧Below wc.heap.size wc q15∧Blk q15 (wr.heap.size) 45 (flC x2.nm x2.p.o x2.p.e xr xq xg x2.v x2.e x2.u xt)∧TmC (m3.heap.size≤·) q15 gt_ g.b∧Blk q15 (m4.heap.size) 45 (flC g.nm g.p.o g.p.e gr_ gq_ gg_ g.v g.e g.u gt_) from⟨HM6.out.1.below hb HM6.out.1.lt,(HM6.out.2.1.below hb),(An HM6.out.2.2.1 hb (Ah _)),(HM6.out.2.2.2.1.below hb),HM6.out.2.2.2.2.1.below hb HM6.out.2.2.2.2.1.lt,(HM6.out.2.2.2.2.2.1.below hb),(HM6.out.2.2.2.2.2.2.1.below hb),HM6.out.2.2.2.2.2.2.2.1.below hb HM6.out.2.2.2.2.2.2.2.1.lt,HM6.out.2.2.2.2.2.2.2.2.1.below hb HM6.out.2.2.2.2.2.2.2.2.1.lt,(An HM6.out.2.2.2.2.2.2.2.2.2.1 hb (Ah _)),HM6.out.2.2.2.2.2.2.2.2.2.2.1.below hb HM6.out.2.2.2.2.2.2.2.2.2.2.1.lt,(HM6.out.2.2.2.2.2.2.2.2.2.2.2.1.below hb),HM6.out.2.2.2.2.2.2.2.2.2.2.2.2.below hb HM6.out.2.2.2.2.2.2.2.2.2.2.2.2.lt⟩)
     clear hb k1 k2 k3 k4 k5
     go_wp2_with fail
     go_roundw
     case measure=> simp[intOf];omega
     case rel=> exact⟨i+1,by go_num,by omega,Ag ⟨HQ16.out.1,HQ16.out.2.1,HQ16.out.2.2.1,HQ16.out.2.2.2.1,HQ16.out.2.2.2.2.1,HQ16.out.2.2.2.2.2.1,HQ16.out.2.2.2.2.2.2.1,HQ16.out.2.2.2.2.2.2.2.1,HQ16.out.2.2.2.2.2.2.2.2.1,HQ16.out.2.2.2.2.2.2.2.2.2.1⟩⟩
end Go.Proofs.YtgdlfiphihaooaaGreat
namespace Go.Proofs.YtgdlfiphihaooaaGreat
open Go Go.RowKit Go.ChangeShapes Go.WideShapes Go.ChangeAt
def CC:Nat→Prop:=fun _=> True
section
variable {H:Type} {enc:TypeId × Value→H} {W:World}
theorem Kr {t e:TypeId} {n:Nat} {c0:Value} {x:DataW H × List MemPlace} (ht:Tryz.prog.underlying t=some (.slice e)) (hC:Tryz.prog.cellsOf e=5)
  (hread:∀ m,m+1≤n→∀ (cs:List Value) (x:DataW H × List MemPlace),DataW.trod enc Tryz.prog W 0 (fun _=> true) true m e cs=some x→∃ t,TmC CC W cs t)
  (h:DataW.trod enc Tryz.prog W 0 (fun _=> true) true n t [c0]=some x):∃ ts,SlT CC W c0 ts:=by
 rcases DataW.trod_slice ht h with⟨hcs,_⟩|⟨a,len,cap,elems,rest,n',hn,hcs,hx,hb,hl,hm,hlen,hel,-,-⟩
 ·simp only[List.cons.injEq,and_true] at hcs
  subst hcs
  exact⟨[],SlT.nil _ _⟩
 ·simp only[List.cons.injEq,and_true] at hcs
  subst hcs
  rw[hC] at hel
  have each:∀ i,i<len→∃ q:Tm × List Value,W.cells? 0 (a.add (i* 5)) 5=some q.2∧TmC CC W q.2 q.1:=by
   intro i hi
   have hi':=hel i hi
   rw[List.getElem?_eq_getElem (by omega)] at hi'
   obtain⟨cs',h1,h2⟩:=Option.bind_eq_some_iff.1 hi'
   obtain⟨t',ht'⟩:=hread n' (by omega) _ _ h2
   exact⟨(t',cs'),h1,ht'⟩
  haveI:Inhabited (Tm × List Value):=⟨(.mk 0 0 0 ⟨#[]⟩ [],[])⟩
  obtain⟨q,hq⟩:=Deep.choose_lt each
  have hlen':((List.range len).map fun i=> (q i).1).length=len:=by simp
  refine⟨(List.range len).map fun i=> (q i).1,some a,cap,by rw[hlen'],by rw[hlen'];exact hl,hm,fun h0=> ?_⟩
  rw[hlen'] at h0
  obtain⟨b,o,sp⟩:=a
  have h5:=(hq 0 h0).2.len
  have hc0:=(World.cells?_some (hq 0 h0).1).2.2 0 (by omega)
  rw[List.getElem?_eq_getElem (by omega)] at hc0
  have hsp:sp=none:=by simpa [Addr.add] using World.cell?_spot hc0
  subst hsp
  have hblk:b<W.heap.size:=by
   rw[CH,CH] at hc0
   exact Am hc0
  refine⟨b,o,rfl,trivial,hblk,AtC.mk' fun j hj=> ?_⟩
  rw[hlen'] at hj
  refine⟨(q j).2,fun i u hu=> ?_,?_⟩
  ·have hi:i<5:=by have:=(List.getElem?_eq_some_iff.1 hu).1;rwa [(hq j hj).2.len] at this
   have hh:=(World.cells?_some (hq j hj).1).2.2 i hi
   rw[CH,CH] at hh
   rw[hh];exact hu
  ·have e:((List.range len).map fun i=> (q i).1)[j]=(q j).1:=by simp
   rw[e];exact(hq j hj).2
theorem Fr {t:TypeId} {f0 f1 f2 f3 f4:Field} (hs:Tryz.prog.underlying t=some (.struct #[f0,f1,f2,f3,f4])) (hone:Deep.oneCellFields Tryz.prog #[f0,f1,f2,f3,f4]=true) (hC:Tryz.prog.cellsOf t=5)
  (u0:Tryz.prog.underlying f0.type=some (.int .i64)) (u1:Tryz.prog.underlying f1.type=some (.int .i64)) (u2:Tryz.prog.underlying f2.type=some (.int .i64)) (u3:Tryz.prog.underlying f3.type=some .string) (u4:Tryz.prog.underlying f4.type=some (.slice t)):
  ∀ (fuel:Nat) (cs:List Value) (x:DataW H × List MemPlace),DataW.trod enc Tryz.prog W 0 (fun _=> true) true fuel t cs=some x→∃ t,TmC CC W cs t:=by
 intro fuel
 induction fuel using Nat.strongRecOn with
 | ind fuel ih=>
  intro cs x h
  obtain⟨xs,n,hf,hx,hlen,hxl,hfd⟩:=DataW.trod_struct hs h
  rw[hC] at hlen
  obtain⟨v0,v1,v2,v3,v4,rfl⟩:∃ v0 v1 v2 v3 v4,cs=[v0,v1,v2,v3,v4]:=by
   match cs,hlen with
   | [c0,c1,c2,c3,c4],_=> exact⟨_,_,_,_,_,rfl⟩
  have hx5:xs.length=5:=hxl
  have g0:=hfd 0 f0 rfl
  have g1:=hfd 1 f1 rfl
  have g2:=hfd 2 f2 rfl
  have g3:=hfd 3 f3 rfl
  have g4:=hfd 4 f4 rfl
  obtain⟨o0,k0⟩:=Deep.hone_of hone 0 f0 rfl
  obtain⟨o1,k1⟩:=Deep.hone_of hone 1 f1 rfl
  obtain⟨o2,k2⟩:=Deep.hone_of hone 2 f2 rfl
  obtain⟨o3,k3⟩:=Deep.hone_of hone 3 f3 rfl
  obtain⟨o4,k4⟩:=Deep.hone_of hone 4 f4 rfl
  rw[List.getElem?_eq_getElem (by omega)] at g0 g1 g2 g3 g4
  simp only[o0,o1,o2,o3,o4,k0,k1,k2,k3,k4,List.drop_succ_cons,List.drop_zero,List.take_succ_cons,List.take_zero] at g0 g1 g2 g3 g4
  obtain⟨n0,e0,-,-⟩:=DataW.trod_int u0 g0
  obtain⟨n1,e1,-,-⟩:=DataW.trod_int u1 g1
  obtain⟨n2,e2,-,-⟩:=DataW.trod_int u2 g2
  obtain⟨s,e3,-,-⟩:=DataW.trod_string u3 g3
  obtain⟨ts,h4⟩:=Kr u4 hC (fun m hm cs x h=> ih m (by omega) cs x h) g4
  simp only[List.cons.injEq,and_true] at e0 e1 e2 e3
  subst e0 e1 e2 e3
  exact⟨.mk n0 n1 n2 s ts,B0.2 ⟨_,rfl,h4⟩⟩
end
section
variable {H:Type} {enc:TypeId × Value→H} {W:World}
theorem Ej {α:Type} [Inhabited α] {C:World→List Value→α→Prop} {sz:Nat} {t e:TypeId} {n:Nat} {c0:Value} {x:DataW H × List MemPlace} (hsz:0<sz) (ht:Tryz.prog.underlying t=some (.slice e)) (hC:Tryz.prog.cellsOf e=sz) (hCl:∀ cs a,C W cs a→cs.length=sz)
  (hread:∀ (m:Nat) (cs:List Value) (x:DataW H × List MemPlace),DataW.trod enc Tryz.prog W 0 (fun _=> true) true m e cs=some x→∃ a,C W cs a)
  (h:DataW.trod enc Tryz.prog W 0 (fun _=> true) true n t [c0]=some x):∃ l:List α,RwC C sz CC W c0 l:=by
 rcases DataW.trod_slice ht h with⟨hcs,_⟩|⟨a,len,cap,elems,rest,n',hn,hcs,hx,hb,hl,hm,hlen,hel,-,-⟩
 ·simp only[List.cons.injEq,and_true] at hcs
  subst hcs
  exact⟨[],RwC.nil _ _ _ _⟩
 ·simp only[List.cons.injEq,and_true] at hcs
  subst hcs
  rw[hC] at hel
  have each:∀ i,i<len→∃ q:α × List Value,W.cells? 0 (a.add (i* sz)) sz=some q.2∧C W q.2 q.1:=by
   intro i hi
   have hi':=hel i hi
   rw[List.getElem?_eq_getElem (by omega)] at hi'
   obtain⟨cs',h1,h2⟩:=Option.bind_eq_some_iff.1 hi'
   obtain⟨t',ht'⟩:=hread n' _ _ h2
   exact⟨(t',cs'),h1,ht'⟩
  haveI:Inhabited (α × List Value):=⟨(default,[])⟩
  obtain⟨q,hq⟩:=Deep.choose_lt each
  have hlen':((List.range len).map fun i=> (q i).1).length=len:=by simp
  refine⟨(List.range len).map fun i=> (q i).1,some a,cap,by rw[hlen'],by rw[hlen'];exact hl,hm,fun h0=> ?_⟩
  rw[hlen'] at h0
  obtain⟨b,o,sp⟩:=a
  have h5:=hCl _ _ (hq 0 h0).2
  have hc0:=(World.cells?_some (hq 0 h0).1).2.2 0 (by omega)
  rw[List.getElem?_eq_getElem (by omega)] at hc0
  have hsp:sp=none:=by simpa [Addr.add] using World.cell?_spot hc0
  subst hsp
  have hblk:b<W.heap.size:=by
   rw[CH,CH] at hc0
   exact Am hc0
  refine⟨b,o,rfl,trivial,hblk,fun j hj=> ?_⟩
  rw[hlen'] at hj
  have e:((List.range len).map fun i=> (q i).1)[j]=(q j).1:=by simp
  refine⟨(q j).2,hCl _ _ (hq j hj).2,fun i u hu=> ?_,?_⟩
  ·have hi:i<sz:=by have:=(List.getElem?_eq_some_iff.1 hu).1;rwa [hCl _ _ (hq j hj).2] at this
   have hh:=(World.cells?_some (hq j hj).1).2.2 i hi
   rw[CH,CH] at hh
   rw[hh];exact hu
  ·rw[e];exact(hq j hj).2
instance:Inhabited OpM:=⟨⟨0,0,⟨#[]⟩,0,0,false,tm0⟩⟩
instance:Inhabited FileM:=⟨⟨⟨#[]⟩,⟨0,0,[],[],[]⟩,0,0,0,tm0⟩⟩
instance:Inhabited CirM:=⟨⟨0,0,[]⟩⟩
instance:Inhabited WrM:=⟨⟨⟨#[]⟩,0,0,0,tm0⟩⟩
theorem LI {t:TypeId} {f0 f1 f2 f3 f4 f5 f6:Field} {fuel:Nat} {cs:List Value} {x:DataW H × List MemPlace} (hs:Tryz.prog.underlying t=some (.struct #[f0,f1,f2,f3,f4,f5,f6])) (hC:Tryz.prog.cellsOf t=11)
  (ho:f0.offset=0∧f1.offset=1∧f2.offset=2∧f3.offset=3∧f4.offset=4∧f5.offset=5∧f6.offset=6)
  (c0:Tryz.prog.cellsOf f0.type=1) (c1:Tryz.prog.cellsOf f1.type=1) (c2:Tryz.prog.cellsOf f2.type=1) (c3:Tryz.prog.cellsOf f3.type=1) (c4:Tryz.prog.cellsOf f4.type=1) (c5:Tryz.prog.cellsOf f5.type=1) (c6:Tryz.prog.cellsOf f6.type=5)
  (u0:Tryz.prog.underlying f0.type=some (.int .i64)) (u1:Tryz.prog.underlying f1.type=some (.int .i64)) (u2:Tryz.prog.underlying f2.type=some .string) (u3:Tryz.prog.underlying f3.type=some (.int .i64)) (u4:Tryz.prog.underlying f4.type=some (.int .i64)) (u5:Tryz.prog.underlying f5.type=some .bool)
  (hT:∀ (fuel:Nat) (cs:List Value) (x:DataW H × List MemPlace),DataW.trod enc Tryz.prog W 0 (fun _=> true) true fuel f6.type cs=some x→∃ t,TmC CC W cs t)
  (h:DataW.trod enc Tryz.prog W 0 (fun _=> true) true fuel t cs=some x):∃ p,OpC CC W cs p:=by
 obtain⟨xs,n,_,hx,hlen,hxl,hfd⟩:=DataW.trod_struct hs h
 rw[hC] at hlen
 obtain⟨o0,o1,o2,o3,o4,o5,o6⟩:=ho
 obtain⟨v0,v1,v2,v3,v4,v5,v6,v7,v8,v9,v10,rfl⟩:∃ v0 v1 v2 v3 v4 v5 v6 v7 v8 v9 v10,cs=[v0,v1,v2,v3,v4,v5,v6,v7,v8,v9,v10]:=by
  match cs,hlen with
  | [c0,c1,c2,c3,c4,c5,c6,c7,c8,c9,c10],_=> exact⟨_,_,_,_,_,_,_,_,_,_,_,rfl⟩
 have hx7:xs.length=7:=hxl
 have g0:=hfd 0 f0 rfl
 have g1:=hfd 1 f1 rfl
 have g2:=hfd 2 f2 rfl
 have g3:=hfd 3 f3 rfl
 have g4:=hfd 4 f4 rfl
 have g5:=hfd 5 f5 rfl
 have g6:=hfd 6 f6 rfl
 rw[List.getElem?_eq_getElem (by omega)] at g0 g1 g2 g3 g4 g5 g6
 simp only[o0,o1,o2,o3,o4,o5,o6,c0,c1,c2,c3,c4,c5,c6,List.drop_succ_cons,List.drop_zero,List.take_succ_cons,List.take_zero] at g0 g1 g2 g3 g4 g5 g6
 obtain⟨n0,e0,-,-⟩:=DataW.trod_int u0 g0
 obtain⟨n1,e1,-,-⟩:=DataW.trod_int u1 g1
 obtain⟨s2,e2,-,-⟩:=DataW.trod_string u2 g2
 obtain⟨n3,e3,-,-⟩:=DataW.trod_int u3 g3
 obtain⟨n4,e4,-,-⟩:=DataW.trod_int u4 g4
 obtain⟨b5,e5,-⟩:=DataW.trod_bool u5 g5
 obtain⟨t6,h6⟩:=hT _ _ _ g6
 simp only[List.cons.injEq,and_true] at e0 e1 e2 e3 e4 e5
 subst e0 e1 e2 e3 e4 e5
 exact⟨⟨n0,n1,s2,n3,n4,b5,t6⟩,_,rfl,h6⟩
theorem Hu {v:Value} {l:List Int} (h:Sl W v (ofK .i64 l)):SlI CC W v l:=⟨h,fun _ _ _=> trivial⟩
theorem Ks {t:TypeId} {f0 f1 f2 f3 f4 f5:Field} {fuel:Nat} {cs:List Value} {x:DataW H × List MemPlace} (hs:Tryz.prog.underlying t=some (.struct #[f0,f1,f2,f3,f4,f5])) (hC:Tryz.prog.cellsOf t=14)
  (ho:f0.offset=0∧f1.offset=1∧f2.offset=6∧f3.offset=7∧f4.offset=8∧f5.offset=9)
  (c0:Tryz.prog.cellsOf f0.type=1) (c1:Tryz.prog.cellsOf f1.type=5) (c2:Tryz.prog.cellsOf f2.type=1) (c3:Tryz.prog.cellsOf f3.type=1) (c4:Tryz.prog.cellsOf f4.type=1) (c5:Tryz.prog.cellsOf f5.type=5)
  (u0:Tryz.prog.underlying f0.type=some .string) (u2:Tryz.prog.underlying f2.type=some (.int .i64)) (u3:Tryz.prog.underlying f3.type=some (.int .i64)) (u4:Tryz.prog.underlying f4.type=some (.int .i64))
  (hP:∀ (fuel:Nat) (cs:List Value) (x:DataW H × List MemPlace),DataW.trod enc Tryz.prog W 0 (fun _=> true) true fuel f1.type cs=some x→∃ p vr vq vg,cs=pmC p.o p.e vr vq vg∧PmS W p vr vq vg∧PmI p)
  (hT:∀ (fuel:Nat) (cs:List Value) (x:DataW H × List MemPlace),DataW.trod enc Tryz.prog W 0 (fun _=> true) true fuel f5.type cs=some x→∃ t,TmC CC W cs t)
  (h:DataW.trod enc Tryz.prog W 0 (fun _=> true) true fuel t cs=some x):∃ p,FlC CC W cs p:=by
 obtain⟨xs,n,_,hx,hlen,hxl,hfd⟩:=DataW.trod_struct hs h
 rw[hC] at hlen
 obtain⟨o0,o1,o2,o3,o4,o5⟩:=ho
 obtain⟨v0,v1,v2,v3,v4,v5,v6,v7,v8,v9,v10,v11,v12,v13,rfl⟩:∃ v0 v1 v2 v3 v4 v5 v6 v7 v8 v9 v10 v11 v12 v13,cs=[v0,v1,v2,v3,v4,v5,v6,v7,v8,v9,v10,v11,v12,v13]:=by
  match cs,hlen with
  | [c0,c1,c2,c3,c4,c5,c6,c7,c8,c9,c10,c11,c12,c13],_=> exact⟨_,_,_,_,_,_,_,_,_,_,_,_,_,_,rfl⟩
 have hx6:xs.length=6:=hxl
 have g0:=hfd 0 f0 rfl
 have g1:=hfd 1 f1 rfl
 have g2:=hfd 2 f2 rfl
 have g3:=hfd 3 f3 rfl
 have g4:=hfd 4 f4 rfl
 have g5:=hfd 5 f5 rfl
 rw[List.getElem?_eq_getElem (by omega)] at g0 g1 g2 g3 g4 g5
 simp only[o0,o1,o2,o3,o4,o5,c0,c1,c2,c3,c4,c5,List.drop_succ_cons,List.drop_zero,List.take_succ_cons,List.take_zero] at g0 g1 g2 g3 g4 g5
 obtain⟨s0,e0,-,-⟩:=DataW.trod_string u0 g0
 obtain⟨p,vr,vq,vg,e1,⟨p1,p2,p3⟩,-⟩:=hP _ _ _ g1
 obtain⟨n2,e2,-,-⟩:=DataW.trod_int u2 g2
 obtain⟨n3,e3,-,-⟩:=DataW.trod_int u3 g3
 obtain⟨n4,e4,-,-⟩:=DataW.trod_int u4 g4
 obtain⟨t5,h5⟩:=hT _ _ _ g5
 simp only[pmC,List.cons.injEq,and_true] at e0 e1 e2 e3 e4
 obtain⟨rfl,rfl,rfl,rfl,rfl⟩:=e1
 subst e0 e2 e3 e4
 exact⟨⟨s0,p,n2,n3,n4,t5⟩,_,_,_,_,rfl,⟨Hu p1,Hu p2,Hu p3⟩,h5⟩
theorem Lm {t b:TypeId} {f0 f1 f2:Field} {fuel:Nat} {cs:List Value} {x:DataW H × List MemPlace} (hs:Tryz.prog.underlying t=some (.struct #[f0,f1,f2])) (hone:Deep.oneCellFields Tryz.prog #[f0,f1,f2]=true) (hC:Tryz.prog.cellsOf t=3)
  (u0:Tryz.prog.underlying f0.type=some (.int .i64)) (u1:Tryz.prog.underlying f1.type=some (.int .i64)) (u2:Tryz.prog.underlying f2.type=some (.slice b)) (ub:Tryz.prog.underlying b=some (.int .i64)) (cb:Tryz.prog.cellsOf b=1)
  (h:DataW.trod enc Tryz.prog W 0 (fun _=> true) true fuel t cs=some x):∃ p,CiC CC W cs p:=by
 obtain⟨xs,n,_,hx,hlen,hxl,hfd⟩:=DataW.trod_struct hs h
 rw[hC] at hlen
 obtain⟨v0,v1,v2,rfl⟩:∃ v0 v1 v2,cs=[v0,v1,v2]:=by
  match cs,hlen with
  | [c0,c1,c2],_=> exact⟨_,_,_,rfl⟩
 have hx3:xs.length=3:=hxl
 have g0:=hfd 0 f0 rfl
 have g1:=hfd 1 f1 rfl
 have g2:=hfd 2 f2 rfl
 obtain⟨o0,k0⟩:=Deep.hone_of hone 0 f0 rfl
 obtain⟨o1,k1⟩:=Deep.hone_of hone 1 f1 rfl
 obtain⟨o2,k2⟩:=Deep.hone_of hone 2 f2 rfl
 rw[List.getElem?_eq_getElem (by omega)] at g0 g1 g2
 simp only[o0,o1,o2,k0,k1,k2,List.drop_succ_cons,List.drop_zero,List.take_succ_cons,List.take_zero] at g0 g1 g2
 obtain⟨n0,e0,-,-⟩:=DataW.trod_int u0 g0
 obtain⟨n1,e1,-,-⟩:=DataW.trod_int u1 g1
 obtain⟨l2,h2,-⟩:=Ea u2 ub cb g2
 simp only[List.cons.injEq,and_true] at e0 e1
 subst e0 e1
 exact⟨⟨n0,n1,l2⟩,_,rfl,Hu h2⟩
theorem LJ {t:TypeId} {f0 f1 f2 f3 f4:Field} {fuel:Nat} {cs:List Value} {x:DataW H × List MemPlace} (hs:Tryz.prog.underlying t=some (.struct #[f0,f1,f2,f3,f4])) (hC:Tryz.prog.cellsOf t=9)
  (ho:f0.offset=0∧f1.offset=1∧f2.offset=2∧f3.offset=3∧f4.offset=4)
  (c0:Tryz.prog.cellsOf f0.type=1) (c1:Tryz.prog.cellsOf f1.type=1) (c2:Tryz.prog.cellsOf f2.type=1) (c3:Tryz.prog.cellsOf f3.type=1) (c4:Tryz.prog.cellsOf f4.type=5)
  (u0:Tryz.prog.underlying f0.type=some .string) (u1:Tryz.prog.underlying f1.type=some (.int .i64)) (u2:Tryz.prog.underlying f2.type=some (.int .i64)) (u3:Tryz.prog.underlying f3.type=some (.int .i64))
  (hT:∀ (fuel:Nat) (cs:List Value) (x:DataW H × List MemPlace),DataW.trod enc Tryz.prog W 0 (fun _=> true) true fuel f4.type cs=some x→∃ t,TmC CC W cs t)
  (h:DataW.trod enc Tryz.prog W 0 (fun _=> true) true fuel t cs=some x):∃ p,WrC CC W cs p:=by
 obtain⟨xs,n,_,hx,hlen,hxl,hfd⟩:=DataW.trod_struct hs h
 rw[hC] at hlen
 obtain⟨o0,o1,o2,o3,o4⟩:=ho
 obtain⟨v0,v1,v2,v3,v4,v5,v6,v7,v8,rfl⟩:∃ v0 v1 v2 v3 v4 v5 v6 v7 v8,cs=[v0,v1,v2,v3,v4,v5,v6,v7,v8]:=by
  match cs,hlen with
  | [c0,c1,c2,c3,c4,c5,c6,c7,c8],_=> exact⟨_,_,_,_,_,_,_,_,_,rfl⟩
 have hx5:xs.length=5:=hxl
 have g0:=hfd 0 f0 rfl
 have g1:=hfd 1 f1 rfl
 have g2:=hfd 2 f2 rfl
 have g3:=hfd 3 f3 rfl
 have g4:=hfd 4 f4 rfl
 rw[List.getElem?_eq_getElem (by omega)] at g0 g1 g2 g3 g4
 simp only[o0,o1,o2,o3,o4,c0,c1,c2,c3,c4,List.drop_succ_cons,List.drop_zero,List.take_succ_cons,List.take_zero] at g0 g1 g2 g3 g4
 obtain⟨s0,e0,-,-⟩:=DataW.trod_string u0 g0
 obtain⟨n1,e1,-,-⟩:=DataW.trod_int u1 g1
 obtain⟨n2,e2,-,-⟩:=DataW.trod_int u2 g2
 obtain⟨n3,e3,-,-⟩:=DataW.trod_int u3 g3
 obtain⟨t4,h4⟩:=hT _ _ _ g4
 simp only[List.cons.injEq,and_true] at e0 e1 e2 e3
 subst e0 e1 e2 e3
 exact⟨⟨s0,n1,n2,n3,t4⟩,_,rfl,h4⟩
theorem Jw {t:TypeId} {f0 f1 f2:Field} {e0 e1 e2:TypeId} {fuel:Nat} {cs:List Value} {x:DataW H × List MemPlace} (hs:Tryz.prog.underlying t=some (.struct #[f0,f1,f2])) (hone:Deep.oneCellFields Tryz.prog #[f0,f1,f2]=true) (hC:Tryz.prog.cellsOf t=3)
  (u0:Tryz.prog.underlying f0.type=some (.slice e0)) (u1:Tryz.prog.underlying f1.type=some (.slice e1)) (u2:Tryz.prog.underlying f2.type=some (.slice e2)) (k0:Tryz.prog.cellsOf e0=14) (k1:Tryz.prog.cellsOf e1=3) (k2:Tryz.prog.cellsOf e2=9)
  (hF:∀ (fuel:Nat) (cs:List Value) (x:DataW H × List MemPlace),DataW.trod enc Tryz.prog W 0 (fun _=> true) true fuel e0 cs=some x→∃ t,FlC CC W cs t)
  (hI:∀ (fuel:Nat) (cs:List Value) (x:DataW H × List MemPlace),DataW.trod enc Tryz.prog W 0 (fun _=> true) true fuel e1 cs=some x→∃ t,CiC CC W cs t)
  (hW:∀ (fuel:Nat) (cs:List Value) (x:DataW H × List MemPlace),DataW.trod enc Tryz.prog W 0 (fun _=> true) true fuel e2 cs=some x→∃ t,WrC CC W cs t)
  (h:DataW.trod enc Tryz.prog W 0 (fun _=> true) true fuel t cs=some x):∃ s,IdC CC W cs s:=by
 obtain⟨xs,n,_,hx,hlen,hxl,hfd⟩:=DataW.trod_struct hs h
 rw[hC] at hlen
 obtain⟨v0,v1,v2,rfl⟩:∃ v0 v1 v2,cs=[v0,v1,v2]:=by
  match cs,hlen with
  | [c0,c1,c2],_=> exact⟨_,_,_,rfl⟩
 have hx3:xs.length=3:=hxl
 have g0:=hfd 0 f0 rfl
 have g1:=hfd 1 f1 rfl
 have g2:=hfd 2 f2 rfl
 obtain⟨o0,q0⟩:=Deep.hone_of hone 0 f0 rfl
 obtain⟨o1,q1⟩:=Deep.hone_of hone 1 f1 rfl
 obtain⟨o2,q2⟩:=Deep.hone_of hone 2 f2 rfl
 rw[List.getElem?_eq_getElem (by omega)] at g0 g1 g2
 simp only[o0,o1,o2,q0,q1,q2,List.drop_succ_cons,List.drop_zero,List.take_succ_cons,List.take_zero] at g0 g1 g2
 obtain⟨l0,h0⟩:=Ej (C:=FlC CC) (by omega) u0 k0 (fun _ _ h=> h.len) hF g0
 obtain⟨l1,h1⟩:=Ej (C:=CiC CC) (by omega) u1 k1 (fun _ _ h=> h.len) hI g1
 obtain⟨l2,h2⟩:=Ej (C:=WrC CC) (by omega) u2 k2 (fun _ _ h=> h.len) hW g2
 exact⟨⟨l0,l1,l2⟩,v0,v1,v2,rfl,h0,h1,h2⟩
theorem Ln {t e:TypeId} {v:Value} {d:DataW H} {p:List MemPlace} (ht:Tryz.prog.underlying t=some (.slice e)) (hC:Tryz.prog.cellsOf e=11)
  (hread:∀ (fuel:Nat) (cs:List Value) (x:DataW H × List MemPlace),DataW.trod enc Tryz.prog W 0 (fun _=> true) true fuel e cs=some x→∃ t,OpC CC W cs t)
  (hv:∃ a len cap,v=.slice a len cap) (h:DataW.Trod enc Tryz.prog W 0 (fun _=> true) true t v d p):∃ l,RwC (OpC CC) 11 CC W v l:=by
 obtain⟨a,len,cap,rfl⟩:=hv
 obtain⟨fuel,hfu⟩:=h
 exact Ej (C:=OpC CC) (by omega) ht hC (fun _ _ h=> h.len) hread (show DataW.trod enc Tryz.prog W 0 (fun _=> true) true fuel t [.slice a len cap]=some (d,p) from by simpa [Value.cells] using hfu)
end
end Go.Proofs.YtgdlfiphihaooaaGreat

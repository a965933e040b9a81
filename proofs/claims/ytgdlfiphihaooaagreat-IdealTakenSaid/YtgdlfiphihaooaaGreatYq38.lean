import Derived.Test.YtgdlfiphihaooaaGreatYq37
set_option linter.unusedSimpArgs false
set_option linter.unusedVariables false
set_option maxRecDepth 100000
set_option maxHeartbeats 8000000
open _root_.List renaming getElem?_toArray→Aa,getElem?_cons_zero→Ab,getElem?_cons_succ→Ac,setIfInBounds_toArray→Ad,set_cons_zero→Ae,set_cons_succ→Af
open _root_.Go.Lib renaming hid→Ag
open _root_.Nat renaming le_refl→Ah,le_trans→Aj,lt_of_lt_of_le→Ak
open _root_.And renaming intro→Ai
open _root_.Go.Act renaming put→Al
namespace Go.Proofs.YtgdlfiphihaooaaGreat
open Go Go.RowKit
theorem AH.skip {P:Program} {ops:Array Oper} {S:World→Prop} {i:Nat} {is:List Nat} {o:Oper} {K:Act→Prop} {a:Act} (hi:ops[i]?=some o) (hw:Region.wanted o (yielded ops a.tmps)=false) (h:AH P ops S is K (a.put o.dst undef)):AH P ops S (i::is) K a:=⟨o,undef,hi,.inr ⟨hw,rfl⟩,h⟩
theorem Ls {α:Type} {P:α→Bool} {l:List α} {j:Nat} (h:j<l.length):(l.take (j+1)).any P=((l.take j).any P ||P l[j]):=by
 rw[List.take_succ_eq_append_getElem h,List.any_append]
 simp
theorem F5 (s0:IdM) (cs:List Value) (F:Nat→Prop) (p0:OpM) (pc:List Value) (F':Nat→Prop) (w:World) (hs:IdC F w cs s0) (hp:OpC F' w pc p0):Calls Tryz.prog 3 #[.agg cs.toArray,.agg pc.toArray] w (fun e w'=> e=.returned (.bool true)∧Below w.heap.size w w'):=by
 obtain⟨tc0,rfl,ht0⟩:=hp
 have HS:=Ag hs
 have HT0:=Ag ht0
 have HSL:=Ag hs.len
 have HTL:=Ag ht0.len
 have HPL:=Ag (show(opC p0 tc0).length=11 from by simp[opC,ht0.len])
 clear hs ht0
 go_enter Tryz.func3,Tryz.ntmps3
 go_wp2_with (first
  | ((with_reducible refine Au w rfl 26 (.tmp 0) rfl (cs) rfl ?_);intro a1 hb hbel hsz;have H1:=hJ2 hb hbel;clear hb hbel hsz)
  | ((with_reducible refine Au a1 rfl 31 (.tmp 1) rfl (opC p0 tc0) rfl ?_);intro a2 hb hbel hsz;have H2:=hJ3 (H1.out.1.below hbel H1.out.1.lt) (An H1.out.2 hbel (Ah _)) hb;have HG:=hJ2 H1.out.1.lt hb.lt;clear hb hbel hsz))
 refine(FF BG a2).mono ?_
 rintro e' a3 ⟨rfl,hb⟩
 have H3:=Ag (show Blk a3 (w.heap.size) 26 (cs)∧Below w.heap.size w a3∧Blk a3 (a1.heap.size) 31 (opC p0 tc0)∧a3.heap.size≤a3.heap.size from⟨H2.out.1.below hb H2.out.1.lt,(An H2.out.2.1 hb (Ah _)),H2.out.2.2.below hb H2.out.2.2.lt,(Ah _)⟩)
 have HGB:=HG
 have HG:=hJ2 HGB.out.1 H3.out.2.2.1.lt
 clear hb H1 H2 HGB
 go_upto_region 3 with fail
 try simp only[Al,Ad,Ae,Af]
 go_cut [] from 21 to 25 (fun wc=> ∃ (cs1:List Value) (s1:IdM) (p:OpM) (tco:List Value),Hid ((s1.fs.length≤7∧s1.cs.length≤6)∧(cs1.length=3∧∀ v∈cs1,v.oneCell'=true)∧(tco.length=5∧∀ v∈tco,v.oneCell'=true))∧Hid (Blk wc (w.heap.size) 26 (cs1)∧Blk wc (a1.heap.size) 31 (opC p tco)∧Below w.heap.size w wc∧IdC (a3.heap.size≤·) wc cs1 s1∧TmC (a3.heap.size≤·) wc tco (p.b)))
 case first=>
  go_wp2_with fail
  refine AZ (fun W=> W.rangeAt w.heap.size 0 cs∧W.rangeAt a1.heap.size 0 (opC p0 tc0)) 4 [0] 5 (by kernel_rfl) rfl (by kernel_rfl) (by kernel_rfl) ⟨As H3.out.1,As H3.out.2.2.1⟩ ?_
  iterate 1(refine' AH.run ?_ ?_ ?_ ?_;rotate_left 2;(simp only[Aa,Ab,Ac];rfl);rfl;(rintro w' ⟨k0,k1⟩;first|exact AA rfl rfl k0 Tryz.underlying26 rfl (At Tryz.infoId HSL.out)|exact AA rfl rfl k1 Tryz.underlying31 rfl (At Tryz.infoOp HPL.out));simp only[Al,Ad,Ae,Af])
  have sm:=(Sm.refl a3).drew
  have HV2:=hJ4 (H3.out.1.below (sm.below _) H3.out.1.lt) (An H3.out.2.1 (sm.below _) (Ah _)) (H3.out.2.2.1.below (sm.below _) H3.out.2.2.1.lt) (Aj H3.out.2.2.2 (sm.below 0).size)
  clear sm
  generalize a3.drew=v1 at HV2 ⊢
  refine' IR 1 2 (by kernel_rfl) ?_ ?_ ?_ ?_;rotate_left 2;(simp only[Aa,Ab,Ac];rfl);(simp only[Aa,Ab,Ac];rfl)
  ·skip
   try simp only[Al,Ad,Ae,Af]
   go_wp2_with fail
   refine(Hb s0 cs F v1 (HS.out.below HV2.out.2.1)).mono ?_
   rintro e' u3 ⟨cs1,s1,rfl,hs1,hl1,hl2,hl3,hb⟩
   have K4:=Ag (show Blk u3 (w.heap.size) 26 (cs)∧Below w.heap.size w u3∧Blk u3 (a1.heap.size) 31 (opC p0 tc0)∧a3.heap.size≤u3.heap.size∧IdC (a3.heap.size≤·) u3 cs1 s1 from⟨HV2.out.1.below hb HV2.out.1.lt,(An HV2.out.2.1 hb (Ah _)),HV2.out.2.2.1.below hb HV2.out.2.2.1.lt,(Aj HV2.out.2.2.2 hb.size),(hs1.keep' (Ch.refl (fun _=> False) _) (fun _ _ e=> e) (fun k hk=> Aj HV2.out.2.2.2 hk))⟩)
   have HL1:=Ag (Ai hl1 hl2)
   have HCL:=Ag hs1.len
   have HCO:=Ag hs1.one
   clear hs1 hl1 hl2 hl3 hb
   go_wp2_with fail
   refine QK.normal ⟨fun _=> ⟨As K4.out.1,As K4.out.2.2.1⟩,?_⟩
   refine' AB 2 (by kernel_rfl) ?_ ?_;rotate_left;(simp only[Aa,Ab,Ac];rfl)
   try simp only[Al,Ad,Ae,Af]
   go_wp2_with (first
  | (with_reducible refine Ap rfl 31 (.tmp 3) rfl (a1.heap.size) 0 rfl (opC p0 tc0) _ (As K4.out.2.2.1) Tryz.underlying31 rfl (At Tryz.infoOp HPL.out) ?_))
   refine QK.normal ⟨fun _=> ⟨As K4.out.1,As K4.out.2.2.1⟩,?_⟩
   refine' AB 3 (by kernel_rfl) ?_ ?_;rotate_left;(simp only[Aa,Ab,Ac];rfl)
   try simp only[Al,Ad,Ae,Af]
   go_wp2_with fail
   refine(Fo p0 tc0 F' u3 (HT0.out.below K4.out.2.1)).mono ?_
   rintro e' u5 ⟨pcs,p,rfl,⟨tco,rfl,hto⟩,hb⟩
   have K6:=Ag (show Blk u5 (w.heap.size) 26 (cs)∧Below w.heap.size w u5∧Blk u5 (a1.heap.size) 31 (opC p0 tc0)∧a3.heap.size≤u5.heap.size∧IdC (a3.heap.size≤·) u5 cs1 s1∧TmC (a3.heap.size≤·) u5 tco (p.b) from⟨K4.out.1.below hb K4.out.1.lt,(An K4.out.2.1 hb (Ah _)),K4.out.2.2.1.below hb K4.out.2.2.1.lt,(Aj K4.out.2.2.2.1 hb.size),(K4.out.2.2.2.2.below hb),(hto.mono fun k hk=> Aj K4.out.2.2.2.1 hk)⟩)
   have HQL:=Ag hto.len
   have HQO:=Ag hto.one
   have HOL:=Ag (show(opC p tco).length=11 from by simp[opC,hto.len])
   clear hto hb
   go_wp2_with fail
   refine QK.normal ⟨fun _=> ⟨As K6.out.1,As K6.out.2.2.1⟩,?_⟩
   refine' AB 4 (by kernel_rfl) ?_ ?_;rotate_left;(simp only[Aa,Ab,Ac];rfl)
   try simp only[Al,Ad,Ae,Af]
   refine Ao u5 rfl 26 (.tmp 2) (.tmp 22) rfl (w.heap.size) 26 (cs) (cs1) K6.out.1 rfl rfl (HCL.out.trans HSL.out.symm) (At Tryz.infoId HCL.out) HCO.out ?_
   intro u7 hb hc hs
   have K8:=Ag (show Blk u7 (w.heap.size) 26 (cs1)∧Below w.heap.size w u7∧Blk u7 (a1.heap.size) 31 (opC p0 tc0)∧a3.heap.size≤u7.heap.size∧IdC (a3.heap.size≤·) u7 cs1 s1∧TmC (a3.heap.size≤·) u7 tco (p.b) from⟨hb,(Aw K6.out.2.1 hc (Ah _) (fun k hk=> by have e:=(show _=_ from hk);have:=HG.out;omega)),K6.out.2.2.1.keep hc (fun e=> absurd (show _=_ from e) (by have:=HG.out;omega)),(Aj K6.out.2.2.2.1 hc.size),(K6.out.2.2.2.2.1.keep' hc (fun k hk e=> absurd (show _=_ from e) (by have hk:a3.heap.size≤k:=hk;have:=HG.out;omega)) (fun _ h=> h)),(TmC.keep' hc (fun k hk e=> absurd (show _=_ from e) (by have hk:a3.heap.size≤k:=hk;have:=HG.out;omega)) (fun _ h=> h) _ _ K6.out.2.2.2.2.2)⟩)
   clear hb hc hs
   refine QK.normal ⟨fun h=> absurd h (by decide),?_⟩
   refine' AB 5 (by kernel_rfl) ?_ ?_;rotate_left;(simp only[Aa,Ab,Ac];rfl)
   try simp only[Al,Ad,Ae,Af]
   refine Ao u7 rfl 31 (.tmp 3) (.tmp 24) rfl (a1.heap.size) 31 (opC p0 tc0) (opC p tco) K8.out.2.2.1 rfl rfl (HOL.out.trans HPL.out.symm) (At Tryz.infoOp HOL.out) (Ek HQO.out) ?_
   intro b0 hb hc hs
   have HB0:=Ag (show Blk b0 (w.heap.size) 26 (cs1)∧Below w.heap.size w b0∧Blk b0 (a1.heap.size) 31 (opC p tco)∧a3.heap.size≤b0.heap.size∧IdC (a3.heap.size≤·) b0 cs1 s1∧TmC (a3.heap.size≤·) b0 tco (p.b) from⟨K8.out.1.keep hc (fun e=> absurd (show _=_ from e) (by have:=HG.out;omega)),(Aw K8.out.2.1 hc (Ah _) (fun k hk=> by have e:=(show _=_ from hk);have:=HG.out;omega)),hb,(Aj K8.out.2.2.2.1 hc.size),(K8.out.2.2.2.2.1.keep' hc (fun k hk e=> absurd (show _=_ from e) (by have hk:a3.heap.size≤k:=hk;have:=HG.out;omega)) (fun _ h=> h)),(TmC.keep' hc (fun k hk e=> absurd (show _=_ from e) (by have hk:a3.heap.size≤k:=hk;have:=HG.out;omega)) (fun _ h=> h) _ _ K8.out.2.2.2.2.2)⟩)
   clear hb hc hs
   refine QK.normal ⟨fun h=> absurd h (by decide),?_⟩
   refine Bc (by kernel_rfl) ?_ _
   refine NoPanic.normal ?_
   go_wp2_with fail
   go_meet
   case rel=> exact⟨cs1,s1,p,tco,Ag ⟨HL1.out,⟨HCL.out,HCO.out⟩,⟨HQL.out,HQO.out⟩⟩,Ag ⟨HB0.out.1,HB0.out.2.2.1,HB0.out.2.1,HB0.out.2.2.2.2.1,HB0.out.2.2.2.2.2⟩⟩
  ·skip
   try simp only[Al,Ad,Ae,Af]
   go_wp2_with (first
  | (with_reducible refine Ap rfl 31 (.tmp 3) rfl (a1.heap.size) 0 rfl (opC p0 tc0) _ (As HV2.out.2.2.1) Tryz.underlying31 rfl (At Tryz.infoOp HPL.out) ?_))
   refine QK.normal ⟨fun _=> ⟨As HV2.out.1,As HV2.out.2.2.1⟩,?_⟩
   refine' AB 1 (by kernel_rfl) ?_ ?_;rotate_left;(simp only[Aa,Ab,Ac];rfl)
   try simp only[Al,Ad,Ae,Af]
   go_wp2_with fail
   refine(Hb s0 cs F v1 (HS.out.below HV2.out.2.1)).mono ?_
   rintro e' u9 ⟨cs1,s1,rfl,hs1,hl1,hl2,hl3,hb⟩
   have K10:=Ag (show Blk u9 (w.heap.size) 26 (cs)∧Below w.heap.size w u9∧Blk u9 (a1.heap.size) 31 (opC p0 tc0)∧a3.heap.size≤u9.heap.size∧IdC (a3.heap.size≤·) u9 cs1 s1 from⟨HV2.out.1.below hb HV2.out.1.lt,(An HV2.out.2.1 hb (Ah _)),HV2.out.2.2.1.below hb HV2.out.2.2.1.lt,(Aj HV2.out.2.2.2 hb.size),(hs1.keep' (Ch.refl (fun _=> False) _) (fun _ _ e=> e) (fun k hk=> Aj HV2.out.2.2.2 hk))⟩)
   have HL1:=Ag (Ai hl1 hl2)
   have HCL:=Ag hs1.len
   have HCO:=Ag hs1.one
   clear hs1 hl1 hl2 hl3 hb
   go_wp2_with fail
   refine QK.normal ⟨fun _=> ⟨As K10.out.1,As K10.out.2.2.1⟩,?_⟩
   refine' AB 3 (by kernel_rfl) ?_ ?_;rotate_left;(simp only[Aa,Ab,Ac];rfl)
   try simp only[Al,Ad,Ae,Af]
   go_wp2_with fail
   refine(Fo p0 tc0 F' u9 (HT0.out.below K10.out.2.1)).mono ?_
   rintro e' u11 ⟨pcs,p,rfl,⟨tco,rfl,hto⟩,hb⟩
   have K12:=Ag (show Blk u11 (w.heap.size) 26 (cs)∧Below w.heap.size w u11∧Blk u11 (a1.heap.size) 31 (opC p0 tc0)∧a3.heap.size≤u11.heap.size∧IdC (a3.heap.size≤·) u11 cs1 s1∧TmC (a3.heap.size≤·) u11 tco (p.b) from⟨K10.out.1.below hb K10.out.1.lt,(An K10.out.2.1 hb (Ah _)),K10.out.2.2.1.below hb K10.out.2.2.1.lt,(Aj K10.out.2.2.2.1 hb.size),(K10.out.2.2.2.2.below hb),(hto.mono fun k hk=> Aj K10.out.2.2.2.1 hk)⟩)
   have HQL:=Ag hto.len
   have HQO:=Ag hto.one
   have HOL:=Ag (show(opC p tco).length=11 from by simp[opC,hto.len])
   clear hto hb
   go_wp2_with fail
   refine QK.normal ⟨fun _=> ⟨As K12.out.1,As K12.out.2.2.1⟩,?_⟩
   refine' AB 4 (by kernel_rfl) ?_ ?_;rotate_left;(simp only[Aa,Ab,Ac];rfl)
   try simp only[Al,Ad,Ae,Af]
   refine Ao u11 rfl 26 (.tmp 2) (.tmp 22) rfl (w.heap.size) 26 (cs) (cs1) K12.out.1 rfl rfl (HCL.out.trans HSL.out.symm) (At Tryz.infoId HCL.out) HCO.out ?_
   intro u13 hb hc hs
   have K14:=Ag (show Blk u13 (w.heap.size) 26 (cs1)∧Below w.heap.size w u13∧Blk u13 (a1.heap.size) 31 (opC p0 tc0)∧a3.heap.size≤u13.heap.size∧IdC (a3.heap.size≤·) u13 cs1 s1∧TmC (a3.heap.size≤·) u13 tco (p.b) from⟨hb,(Aw K12.out.2.1 hc (Ah _) (fun k hk=> by have e:=(show _=_ from hk);have:=HG.out;omega)),K12.out.2.2.1.keep hc (fun e=> absurd (show _=_ from e) (by have:=HG.out;omega)),(Aj K12.out.2.2.2.1 hc.size),(K12.out.2.2.2.2.1.keep' hc (fun k hk e=> absurd (show _=_ from e) (by have hk:a3.heap.size≤k:=hk;have:=HG.out;omega)) (fun _ h=> h)),(TmC.keep' hc (fun k hk e=> absurd (show _=_ from e) (by have hk:a3.heap.size≤k:=hk;have:=HG.out;omega)) (fun _ h=> h) _ _ K12.out.2.2.2.2.2)⟩)
   clear hb hc hs
   refine QK.normal ⟨fun h=> absurd h (by decide),?_⟩
   refine' AB 5 (by kernel_rfl) ?_ ?_;rotate_left;(simp only[Aa,Ab,Ac];rfl)
   try simp only[Al,Ad,Ae,Af]
   refine Ao u13 rfl 31 (.tmp 3) (.tmp 24) rfl (a1.heap.size) 31 (opC p0 tc0) (opC p tco) K14.out.2.2.1 rfl rfl (HOL.out.trans HPL.out.symm) (At Tryz.infoOp HOL.out) (Ek HQO.out) ?_
   intro b0 hb hc hs
   have HB0:=Ag (show Blk b0 (w.heap.size) 26 (cs1)∧Below w.heap.size w b0∧Blk b0 (a1.heap.size) 31 (opC p tco)∧a3.heap.size≤b0.heap.size∧IdC (a3.heap.size≤·) b0 cs1 s1∧TmC (a3.heap.size≤·) b0 tco (p.b) from⟨K14.out.1.keep hc (fun e=> absurd (show _=_ from e) (by have:=HG.out;omega)),(Aw K14.out.2.1 hc (Ah _) (fun k hk=> by have e:=(show _=_ from hk);have:=HG.out;omega)),hb,(Aj K14.out.2.2.2.1 hc.size),(K14.out.2.2.2.2.1.keep' hc (fun k hk e=> absurd (show _=_ from e) (by have hk:a3.heap.size≤k:=hk;have:=HG.out;omega)) (fun _ h=> h)),(TmC.keep' hc (fun k hk e=> absurd (show _=_ from e) (by have hk:a3.heap.size≤k:=hk;have:=HG.out;omega)) (fun _ h=> h) _ _ K14.out.2.2.2.2.2)⟩)
   clear hb hc hs
   refine QK.normal ⟨fun h=> absurd h (by decide),?_⟩
   refine Bc (by kernel_rfl) ?_ _
   refine NoPanic.normal ?_
   go_wp2_with fail
   go_meet
   case rel=> exact⟨cs1,s1,p,tco,Ag ⟨HL1.out,⟨HCL.out,HCO.out⟩,⟨HQL.out,HQO.out⟩⟩,Ag ⟨HB0.out.1,HB0.out.2.2.1,HB0.out.2.1,HB0.out.2.2.2.2.1,HB0.out.2.2.2.2.2⟩⟩
 case rest=>
  obtain⟨cs1,s1,p,tco,HFA,HWC⟩:=hcut
  have HL1:=Ag HFA.out.1
  have HCL:=Ag HFA.out.2.1.1
  have HCO:=Ag HFA.out.2.1.2
  have HQL:=Ag HFA.out.2.2.1
  have HQO:=Ag HFA.out.2.2.2
  have HOL:=Ag (show(opC p tco).length=11 from by simp[opC,HQL.out])
  generalize wc=b0 at HWC ⊢
  have HB0:=HWC
  clear HWC HFA H3
  go_wp2_with (first
  | (with_reducible refine Ap rfl 26 (.tmp 2) rfl (w.heap.size) 0 rfl (cs1) _ (As HB0.out.1) Tryz.underlying26 rfl (At Tryz.infoId HCL.out) ?_)
  | (with_reducible refine Ap rfl 31 (.tmp 3) rfl (a1.heap.size) 0 rfl (opC p tco) _ (As HB0.out.2.1) Tryz.underlying31 rfl (At Tryz.infoOp HOL.out) ?_))
  have HDO:=Ag (KZ BG s1 cs1 p tco (a3.heap.size≤·) [] b0 HB0.out.2.2.2.1 (fun _ _ h=> absurd h (by simp)) (fun _ h=> absurd h (by simp)) (by have:=HL1.out.2;omega) HB0.out.2.2.2.2)
  obtain⟨⟨s2,⟨re,rv,ru,rb⟩,e⟩,hR⟩:∃ R,doM s1 p=R:=⟨_,rfl⟩
  rw[hR] at HDO
  have HR:=Ag hR
  clear hR
  refine HDO.out.mono ?_
  rintro e' b1 ⟨csn,rtc,rfl,hs2,hrt,hb⟩
  clear HDO
  simp only at hs2 hrt
  have HB1:=hJ7 (HB0.out.1.below hb HB0.out.1.lt) (HB0.out.2.1.below hb HB0.out.2.1.lt) (An HB0.out.2.2.1 hb (Ah _)) (HB0.out.2.2.2.1.below hb) (HB0.out.2.2.2.2.below hb) hs2 hrt
  have HNL:=Ag hs2.len
  have HNO:=Ag hs2.one
  have HRL:=Ag hrt.len
  have HRO:=Ag hrt.one
  have HNZ:=Ag (show csn.length=([(.slice none 0 0),(.slice none 0 0),(.slice none 0 0)]:List Value).length from hs2.len)
  have HRZ:=Ag (show(AD re rv ru rtc).length=(AD 0 0 0 (tmC 0 0 0 ⟨#[]⟩ (.slice none 0 0))).length from by simp[AD,hrt.len,tmC])
  clear hs2 hrt hb
  go_upto_region 5 with(first
  | ((with_reducible refine Av b1 rfl 26 rfl ([(.slice none 0 0),(.slice none 0 0),(.slice none 0 0)]) Tryz.zeroId3b ?_);intro b2 hb hbel hsz;have HX8:=Ag (Ai hb hbel);clear hb hbel hsz)
  | ((with_reducible refine Av b2 rfl 37 rfl (AD 0 0 0 (tmC 0 0 0 ⟨#[]⟩ (.slice none 0 0))) Tryz.zeroRs ?_);intro b3 hb hbel hsz;have HX9:=hJ4 (HX8.out.1.below hbel HX8.out.1.lt) hb (An HX8.out.2 hbel (Ah _)) HX8.out.1.lt;clear hb hbel hsz)
  | ((with_reducible refine Ao b3 rfl 26 (.tmp 5) (.tmp 29) rfl (b1.heap.size) 26 ([(.slice none 0 0),(.slice none 0 0),(.slice none 0 0)]) (csn) HX9.out.1 rfl rfl HNZ.out (At Tryz.infoId HNL.out) HNO.out ?_);intro b4 hb hc hs;have HY1:=hJ4 hb (HX9.out.2.1.keep hc (fun e=> absurd (show _=_ from e) (by have:=HX9.out.2.2.2;omega))) (Aw HX9.out.2.2.1 hc (Ah _) (fun k hk=> by have e:=(show _=_ from hk);omega)) HX9.out.2.2.2;clear hb hc hs)
  | ((with_reducible refine Ao b4 rfl 37 (.tmp 6) (.tmp 30) rfl (b2.heap.size) 37 (AD 0 0 0 (tmC 0 0 0 ⟨#[]⟩ (.slice none 0 0))) (AD re rv ru rtc) HY1.out.2.1 rfl rfl HRZ.out (Ax HRL.out) (AN HRO.out) ?_);intro b5 hb hc hs;have hbx:=Aw HY1.out.2.2.1 hc (Ah _) (fun k hk=> by have e:=(show _=_ from hk);have:=HY1.out.2.2.2;omega);have HB5:=hJ9 (HB1.out.1.below hbx HB1.out.1.lt) (HB1.out.2.1.below hbx HB1.out.2.1.lt) (An HB1.out.2.2.1 hbx (Ah _)) (HB1.out.2.2.2.1.below hbx) (HB1.out.2.2.2.2.1.below hbx) (HB1.out.2.2.2.2.2.1.below hbx) (HB1.out.2.2.2.2.2.2.below hbx) (HY1.out.1.keep hc (fun e=> absurd (show _=_ from e) (by have:=HY1.out.2.2.2;omega))) hb;clear hb hc hs hbx))
  try simp only[Al,Ad,Ae,Af]
  clear HX8 HX9 HY1 HB1 HB0
  by_cases he:e=0
  rotate_left
  ·have hne:(e==0)=false:=by simp[he]
   go_wp2_with fail
   go_ret
   exact⟨rfl,HB5.out.2.2.1⟩
  subst he
  have c0:=HB5.out.2.2.2.2.2.2.2.2.cell 0
  simp only[AD,Ab,Ac] at c0
  by_cases hr:re=0
  rotate_left
  ·have hr2:(re==0)=false:=by simp[hr]
   go_wp2_with fail
   go_ret
   exact⟨rfl,HB5.out.2.2.1⟩
  subst hr
  have HE:=Ag (show(doM s1 p).2.2=0∧(doM s1 p).2.1.e=0∧(doM s1 p).1=s2 from by rw[HR.out];exact⟨rfl,rfl,rfl⟩)
  have HK:=Ag (show ChkP s1∧ChkP s2 from by have h:=LO HE.out.1;rw[HE.out.2.2] at h;exact h)
  obtain⟨pk,pu,pn,pt,pg,pw,pb⟩:=p
  go_upto_region 7 with fail
  try simp only[Al,Ad,Ae,Af]
  clear c0
  go_wp2_with fail
  refine Az (fun W=> W.rangeAt w.heap.size 0 cs1∧W.cell? ⟨a1.heap.size,2,none⟩=some (.string pn)∧W.rangeAt (b1.heap.size) 0 csn) [0,1,2,4,5,6] 4 (by kernel_rfl) rfl (by kernel_rfl) (by kernel_rfl) ⟨As HB5.out.1,HB5.out.2.1.cell 2,As HB5.out.2.2.2.2.2.2.2.1⟩ ?_
  iterate 6(refine' AH.run ?_ ?_ ?_ ?_;rotate_left 2;(simp only[Aa,Ab,Ac];rfl);rfl;(rintro w' ⟨k0,k1,k2⟩;first|exact AA rfl rfl k0 Tryz.underlying26 rfl (At Tryz.infoId HCL.out)|exact AA rfl rfl k2 Tryz.underlying26 rfl (At Tryz.infoId HNL.out)|(go_simp;with_reducible rfl));simp only[Al,Ad,Ae,Af])
  have sm:=(Sm.refl b5).drew
  have HV16:=hJ9 (HB5.out.1.below (sm.below _) HB5.out.1.lt) (HB5.out.2.1.below (sm.below _) HB5.out.2.1.lt) (An HB5.out.2.2.1 (sm.below _) (Ah _)) (HB5.out.2.2.2.1.below (sm.below _)) (HB5.out.2.2.2.2.1.below (sm.below _)) (HB5.out.2.2.2.2.2.1.below (sm.below _)) (HB5.out.2.2.2.2.2.2.1.below (sm.below _)) (HB5.out.2.2.2.2.2.2.2.1.below (sm.below _) HB5.out.2.2.2.2.2.2.2.1.lt) (HB5.out.2.2.2.2.2.2.2.2.below (sm.below _) HB5.out.2.2.2.2.2.2.2.2.lt)
  clear sm
  generalize b5.drew=v15 at HV16 ⊢
  refine' Ar 3 (by kernel_rfl) ?_ ?_;rotate_left;(simp only[Aa,Ab,Ac];rfl)
  try simp only[Al,Ad,Ae,Af]
  go_wp2_with fail
  refine(Dx s1 pn cs1 _ v15 HV16.out.2.2.2.1 (by have h1:=HK.out.1.cl;have h2:=HK.out.2.cl;omega) (by have h1:=HK.out.1.fl;have h2:=HK.out.2.fl;omega)).mono ?_
  rintro e' u17 ⟨v,rfl,hv,hb⟩
  obtain⟨wa,wc,rfl,-⟩:=hv.1.nums
  obtain⟨wn,hwn⟩:∃ m,(AQ s1 pn).length=m:=⟨_,rfl⟩
  rw[hwn] at hv ⊢
  have Hwn:=Ag hwn
  have K18:=hJ10 (HV16.out.1.below hb HV16.out.1.lt) (HV16.out.2.1.below hb HV16.out.2.1.lt) (An HV16.out.2.2.1 hb (Ah _)) (HV16.out.2.2.2.1.below hb) (HV16.out.2.2.2.2.1.below hb) (HV16.out.2.2.2.2.2.1.below hb) (HV16.out.2.2.2.2.2.2.1.below hb) (HV16.out.2.2.2.2.2.2.2.1.below hb HV16.out.2.2.2.2.2.2.2.1.lt) (HV16.out.2.2.2.2.2.2.2.2.below hb HV16.out.2.2.2.2.2.2.2.2.lt) hv.1
  clear hv hb hwn
  go_wp2_with fail
  refine QK.normal ⟨⟨As K18.out.1,K18.out.2.1.cell 2,As K18.out.2.2.2.2.2.2.2.1⟩,?_⟩
  refine' Ar 7 (by kernel_rfl) ?_ ?_;rotate_left;(simp only[Aa,Ab,Ac];rfl)
  try simp only[Al,Ad,Ae,Af]
  go_wp2_with fail
  refine(Dx s2 pn csn _ u17 K18.out.2.2.2.2.2.1 (by have h1:=HK.out.1.cl;have h2:=HK.out.2.cl;omega) (by have h1:=HK.out.1.fl;have h2:=HK.out.2.fl;omega)).mono ?_
  rintro e' u19 ⟨v,rfl,hv,hb⟩
  obtain⟨na,nc,rfl,-⟩:=hv.1.nums
  obtain⟨nn,hnn⟩:∃ m,(AQ s2 pn).length=m:=⟨_,rfl⟩
  rw[hnn] at hv ⊢
  have Hnn:=Ag hnn
  have K20:=hJ11 (K18.out.1.below hb K18.out.1.lt) (K18.out.2.1.below hb K18.out.2.1.lt) (An K18.out.2.2.1 hb (Ah _)) (K18.out.2.2.2.1.below hb) (K18.out.2.2.2.2.1.below hb) (K18.out.2.2.2.2.2.1.below hb) (K18.out.2.2.2.2.2.2.1.below hb) (K18.out.2.2.2.2.2.2.2.1.below hb K18.out.2.2.2.2.2.2.2.1.lt) (K18.out.2.2.2.2.2.2.2.2.1.below hb K18.out.2.2.2.2.2.2.2.2.1.lt) (K18.out.2.2.2.2.2.2.2.2.2.below hb (Ah _)) hv.1
  clear hv hb hnn
  go_wp2_with fail
  refine QK.normal ⟨⟨As K20.out.1,K20.out.2.1.cell 2,As K20.out.2.2.2.2.2.2.2.1⟩,?_⟩
  refine' Ar 8 (by kernel_rfl) ?_ ?_;rotate_left;(simp only[Aa,Ab,Ac];rfl)
  try simp only[Al]
  go_wp2_with fail
  refine QK.normal ⟨⟨As K20.out.1,K20.out.2.1.cell 2,As K20.out.2.2.2.2.2.2.2.1⟩,?_⟩
  refine' Ar 9 (by kernel_rfl) ?_ ?_;rotate_left;(simp only[Aa,Ab,Ac];rfl)
  try simp only[Al]
  go_wp2_with fail
  refine QK.normal ⟨⟨As K20.out.1,K20.out.2.1.cell 2,As K20.out.2.2.2.2.2.2.2.1⟩,?_⟩
  refine wpAnyH_done (by kernel_rfl) ?_ _
  refine NoPanic.normal ?_
  try simp only[Al,Ad,Ae,Af]
  have c2:=K20.out.2.1.cell 2
  simp only[opC,Ab,Ac] at c2
  go_wp2_with (first
  | (with_reducible refine Ap rfl 26 (.tmp 5) rfl (b1.heap.size) 0 rfl (csn) _ (As K20.out.2.2.2.2.2.2.2.1) Tryz.underlying26 rfl (At Tryz.infoId HNL.out) ?_))
  clear c2
  refine(Fm s2 pn csn _ u19 K20.out.2.2.2.2.2.1 (by have h2:=HK.out.2.cl;omega) (by have h2:=HK.out.2.fl;omega)).mono ?_
  rintro e' d1 ⟨cf,rfl,hfl,hb⟩
  obtain⟨⟨ff,fb⟩,hfm⟩:∃ r,Cl s2 pn=r:=⟨_,rfl⟩
  rw[hfm] at hfl ⊢
  have HFM:=Ag hfm
  simp only at hfl ⊢
  have HFO:=Ag hfl.one
  have HFL:=Ag hfl.len
  obtain⟨vr,vq,vg,tcf,rfl,hpm,htf⟩:=hfl
  have HD1:=hJ12 (K20.out.1.below hb K20.out.1.lt) (K20.out.2.1.below hb K20.out.2.1.lt) (An K20.out.2.2.1 hb (Ah _)) (K20.out.2.2.2.1.below hb) (K20.out.2.2.2.2.1.below hb) (K20.out.2.2.2.2.2.1.below hb) (K20.out.2.2.2.2.2.2.1.below hb) (K20.out.2.2.2.2.2.2.2.1.below hb K20.out.2.2.2.2.2.2.2.1.lt) (K20.out.2.2.2.2.2.2.2.2.1.below hb K20.out.2.2.2.2.2.2.2.2.1.lt) (K20.out.2.2.2.2.2.2.2.2.2.1.below hb (Ah _)) (K20.out.2.2.2.2.2.2.2.2.2.2.below hb (Ah _)) hpm
  have HTF:=Ag htf.len
  have HFZ:=Ag (show(flC ff.nm ff.p.o ff.p.e vr vq vg ff.v ff.e ff.u tcf).length=(flC ⟨#[]⟩ 0 0 (.slice none 0 0) (.slice none 0 0) (.slice none 0 0) 0 0 0 (tmC 0 0 0 ⟨#[]⟩ (.slice none 0 0))).length from by rw[HFL.out];simp[flC,tmC])
  have HON:=hJ3 hpm.1.one hpm.2.1.one hpm.2.2.one
  clear hpm htf hfm hb
  go_upto_region 9 with(first
  | ((with_reducible refine Av d1 rfl 45 rfl (flC ⟨#[]⟩ 0 0 (.slice none 0 0) (.slice none 0 0) (.slice none 0 0) 0 0 0 (tmC 0 0 0 ⟨#[]⟩ (.slice none 0 0))) Tryz.zeroFl14 ?_);intro d2 hb hbel hsz;have HD2:=Ag (Ai hb hbel);clear hb hbel hsz)
  | ((with_reducible refine Ao d2 rfl 45 (.tmp 10) (.tmp 52) rfl (d1.heap.size) 45 (flC ⟨#[]⟩ 0 0 (.slice none 0 0) (.slice none 0 0) (.slice none 0 0) 0 0 0 (tmC 0 0 0 ⟨#[]⟩ (.slice none 0 0))) (flC ff.nm ff.p.o ff.p.e vr vq vg ff.v ff.e ff.u tcf) HD2.out.1 rfl rfl HFZ.out (At Tryz.infoFl HFL.out) HFO.out ?_);intro d3 hb hc hs;have hbx:=B0 HD2.out.2 hc;have HD3:=Ag (show Blk d3 (w.heap.size) 26 (cs1)∧Blk d3 (a1.heap.size) 31 (opC ⟨pk,pu,pn,pt,pg,pw,pb⟩ tco)∧Below w.heap.size w d3∧IdC (a3.heap.size≤·) d3 cs1 s1∧TmC (a3.heap.size≤·) d3 tco (pb)∧IdC (·∉[]) d3 csn s2∧TmC (·∉[]) d3 rtc (rb)∧Blk d3 (b1.heap.size) 26 (csn)∧Blk d3 (b2.heap.size) 37 (AD 0 rv ru rtc)∧Sl d3 (.slice wa wn wc) (ofK .i64 (AQ s1 pn))∧Sl d3 (.slice na nn nc) (ofK .i64 (AQ s2 pn))∧PmF (u19.heap.size≤·) d3 ff.p vr vq vg∧Blk d3 (d1.heap.size) 45 (flC ff.nm ff.p.o ff.p.e vr vq vg ff.v ff.e ff.u tcf) from⟨HD1.out.1.below hbx HD1.out.1.lt,HD1.out.2.1.below hbx HD1.out.2.1.lt,(An HD1.out.2.2.1 hbx (Ah _)),(HD1.out.2.2.2.1.below hbx),(HD1.out.2.2.2.2.1.below hbx),(HD1.out.2.2.2.2.2.1.below hbx),(HD1.out.2.2.2.2.2.2.1.below hbx),HD1.out.2.2.2.2.2.2.2.1.below hbx HD1.out.2.2.2.2.2.2.2.1.lt,HD1.out.2.2.2.2.2.2.2.2.1.below hbx HD1.out.2.2.2.2.2.2.2.2.1.lt,HD1.out.2.2.2.2.2.2.2.2.2.1.below hbx (Ah _),HD1.out.2.2.2.2.2.2.2.2.2.2.1.below hbx (Ah _),(HD1.out.2.2.2.2.2.2.2.2.2.2.2.below hbx),hb⟩);clear hb hc hs hbx))
  try simp only[Al,Ad,Ae,Af]
  have c0:=HD3.out.2.1.cell 0
  simp only[opC,Ab,Ac] at c0
  by_cases h5:pk=5
  ·subst h5
   obtain⟨nvf,nvc,nvw,hcs,hif,hic,hiw⟩:=HD3.out.2.2.2.2.2.1
   obtain⟨nca,ncc,rfl,hnc1,hnc2⟩:=hic.shape
   obtain⟨cn,hcn⟩:∃ m,s2.cs.length=m:=⟨_,rfl⟩
   have HCN:=Ag hcn
   rw[hcn] at hic hnc1 hcs
   have hcn63:cn≤9223372036854775807:=by unfold maxLen at hnc2;have:=hnc1;omega
   have HIC:=Ag hic
   have c1:=HD3.out.2.2.2.2.2.2.2.1.cell 1
   rw[hcs] at c1
   simp only[Ab,Ac] at c1
   clear hcs hif hic hiw hnc1 hnc2 hcn
   have H0:=Ag (show Blk d3 (a1.heap.size) 31 (opC ⟨5,pu,pn,pt,pg,pw,pb⟩ tco)∧Below w.heap.size w d3∧Sl d3 (.slice na nn nc) (ofK .i64 (AQ s2 pn))∧PmF (u19.heap.size≤·) d3 ff.p vr vq vg∧Blk d3 (d1.heap.size) 45 (flC ff.nm ff.p.o ff.p.e vr vq vg ff.v ff.e ff.u tcf)∧Below d3.heap.size d3 d3 from⟨HD3.out.2.1,HD3.out.2.2.1,HD3.out.2.2.2.2.2.2.2.2.2.2.1,HD3.out.2.2.2.2.2.2.2.2.2.2.2.1,HD3.out.2.2.2.2.2.2.2.2.2.2.2.2,Below.refl _ _⟩)
   go_wp2_with fail
   clear c0 c1
   go_loopw [12,61] (fun s12 s61 wr=> ∃ j:Nat,s61=.int .i64 j∧j≤cn∧s12=.bool ((s2.cs.take j).any (fun c:CirM=> ff.p.g.any (c.n==·) && c.us.any (pt==·)))∧Hid (Blk wr (a1.heap.size) 31 (opC ⟨5,pu,pn,pt,pg,pw,pb⟩ tco)∧Below w.heap.size w wr∧Sl wr (.slice na nn nc) (ofK .i64 (AQ s2 pn))∧PmF (u19.heap.size≤·) wr ff.p vr vq vg∧Blk wr (d1.heap.size) 45 (flC ff.nm ff.p.o ff.p.e vr vq vg ff.v ff.e ff.u tcf)∧Below d3.heap.size d3 wr)) (fun _ s61 _=> cn - (intOf s61).toNat)
   case atStart=> exact⟨0,rfl,Nat.zero_le _,rfl,H0⟩
   case round=>
    clear H0
    obtain⟨j,rfl,hj,rfl,HO⟩:=hrel
    by_cases hlt:j<cn
    rotate_left
    ·have hge:¬ (j:Int)<(cn:Int):=by omega
     have HTB:=Ag (show(AQ s2 pn).any (pt==·)=(s2.cs.take j).any (fun c:CirM=> ff.p.g.any (c.n==·) && c.us.any (pt==·)) from by have h:=Jv HE.out.1 HE.out.2.1 rfl;rw[HE.out.2.2] at h;simp only at h;rw[HFM.out] at h;rw[h,List.take_of_length_le (by rw[HCN.out];omega)])
     generalize (s2.cs.take j).any (fun c:CirM=> ff.p.g.any (c.n==·) && c.us.any (pt==·))=B at HTB ⊢
     have c3:=HO.out.1.cell 3
     simp only[opC,Ab,Ac] at c3
     go_wp2_with fail
     refine(AM pt _ _ wr HO.out.2.2.1).mono ?_
     rintro e' z1 ⟨rfl,rfl⟩
     rw[HTB.out]
     have hBB:(B==B)=true:=by simp
     go_wp2_with fail
     go_ret
     exact⟨by simp,HO.out.2.1⟩
    have hjl:j<s2.cs.length:=by rw[HCN.out];exact hlt
    have hjz:(j:Int)<(cn:Int):=by omega
    have hj0:(0:Int)≤(j:Int):=by omega
    have HAT:=Ag (Ls (P:=(fun c:CirM=> ff.p.g.any (c.n==·) && c.us.any (pt==·))) hjl)
    obtain⟨b,o,xcs,rfl,-,-,hlen,hra,hxc⟩:=HIC.out.get (by exact hjl)
    generalize hx:s2.cs[j]=x at hxc HAT
    have HXO:=Ag hxc.one
    obtain⟨vu,rfl,hsu⟩:=hxc
    have HZL:=Ag (show(ciC x.n x.o vu).length=(ciC 0 0 (.slice none 0 0)).length from hlen)
    have HRA:=Ag (Ai (show wr.rangeAt b (o+j* 3) (ciC x.n x.o vu) from fun i z hz=> (HO.out.2.2.2.2.2.cell (Am (hra i z hz))).trans (hra i z hz)) hlen)
    have HSU:=Ag (show Sl wr vu (ofK .i64 x.us) from hsu.1.below HO.out.2.2.2.2.2 (Ah _))
    clear hra hlen hx hjl hsu
    go_upto_region 15 with(first
  | (with_reducible refine Ap rfl 49 (.tmp 63) rfl b (o+j* 3) rfl (ciC x.n x.o vu) _ HRA.out.1 Tryz.underlying49 rfl (At Tryz.infoCi HRA.out.2) ?_)
  | ((with_reducible refine Av wr rfl 49 rfl (ciC 0 0 (.slice none 0 0)) Tryz.zeroCi3 ?_);intro x2 hb hbel hsz;have HX2:=Ag (Ai hb hbel);clear hb hbel hsz)
  | ((with_reducible refine Ao x2 rfl 49 (.tmp 14) (.tmp 64) rfl (wr.heap.size) 49 (ciC 0 0 (.slice none 0 0)) (ciC x.n x.o vu) HX2.out.1 rfl rfl HZL.out (At Tryz.infoCi HRA.out.2) HXO.out ?_);intro x3 hb hc hs;have hbx:=B0 HX2.out.2 hc;have HX3:=hJ7 (HO.out.1.below hbx HO.out.1.lt) (An HO.out.2.1 hbx (Ah _)) (HO.out.2.2.1.below hbx (Ah _)) (HO.out.2.2.2.1.below hbx) (HO.out.2.2.2.2.1.below hbx HO.out.2.2.2.2.1.lt) (An HO.out.2.2.2.2.2 hbx (Ah _)) hb;have HSV:=Ag (HSU.out.below hbx (Ah _));clear hb hc hs hbx))
    try simp only[Al,Ad,Ae,Af]
    cases hB:(s2.cs.take j).any (fun c:CirM=> ff.p.g.any (c.n==·) && c.us.any (pt==·))
    rotate_left
    ·skip
     go_wp2_with fail
     go_roundw
     case measure=> simp[intOf];omega
     case rel=> exact⟨j+1,by go_num,by omega,by rw[HAT.out];rw[hB];rfl,Ag ⟨HX3.out.1,HX3.out.2.1,HX3.out.2.2.1,HX3.out.2.2.2.1,HX3.out.2.2.2.2.1,HX3.out.2.2.2.2.2.1⟩⟩
    have c5:=HX3.out.2.2.2.2.1.cell 5
    simp only[flC,Ab,Ac] at c5
    have d0:=HX3.out.2.2.2.2.2.2.cell 0
    simp only[ciC,Ab,Ac] at d0
    go_wp2_with fail
    refine(AM x.n _ _ x3 HX3.out.2.2.2.1.2.2.1).mono ?_
    rintro e' z1 ⟨rfl,rfl⟩
    cases hb1:ff.p.g.any (x.n==·)
    ·skip
     go_wp2_with fail
     go_roundw
     case measure=> simp[intOf];omega
     case rel=> exact⟨j+1,by go_num,by omega,by rw[HAT.out];simp only[hB,hb1];rfl,Ag ⟨HX3.out.1,HX3.out.2.1,HX3.out.2.2.1,HX3.out.2.2.2.1,HX3.out.2.2.2.2.1,HX3.out.2.2.2.2.2.1⟩⟩
    have d2:=HX3.out.2.2.2.2.2.2.cell 2
    simp only[ciC,Ab,Ac] at d2
    have c3:=HX3.out.1.cell 3
    simp only[opC,Ab,Ac] at c3
    go_wp2_with fail
    refine(AM pt _ _ x3 HSV.out).mono ?_
    rintro e' z1 ⟨rfl,rfl⟩
    go_wp2_with fail
    go_roundw
    case measure=> simp[intOf];omega
    case rel=> exact⟨j+1,by go_num,by omega,by rw[HAT.out];simp only[hB,hb1];rfl,Ag ⟨HX3.out.1,HX3.out.2.1,HX3.out.2.2.1,HX3.out.2.2.2.1,HX3.out.2.2.2.2.1,HX3.out.2.2.2.2.2.1⟩⟩
  have h5':(pk==5)=false:=by simp[h5]
  by_cases h4:pk=4
  ·subst h4
   have HTS:=Ag (show(AQ s2 pn).any (pt==·)=true∧Dt ff.p pt=(pw ||ff.p.q.any (pt==·))∧wn≤nn from by have h:=IP HE.out.1 HE.out.2.1 rfl;rw[HE.out.2.2] at h;simp only at h;rw[HFM.out,Hwn.out,Hnn.out] at h;exact h)
   go_upto_region 19 with fail
   try simp only[Al,Ad,Ae,Af]
   clear c0
   have HPMR:=Ag (show ∀ W:World,Blk W (d1.heap.size) 45 (flC ff.nm ff.p.o ff.p.e vr vq vg ff.v ff.e ff.u tcf)→W.rangeAt (d1.heap.size) 1 (pmC ff.p.o ff.p.e vr vq vg) from fun W h=> Bx h)
   have hge:(wn:Int)≤(nn:Int):=by have:=HTS.out.2.2;omega
   obtain⟨qb,hqb⟩:∃ b,ff.p.q.any (pt==·)=b:=⟨_,rfl⟩
   have HQB:=Ag hqb
   clear hqb
   cases pw
   rotate_left
   ·skip
    have HTM:=Ag (show Dt ff.p pt=true from by rw[HTS.out.2.1,HQB.out];rfl)
    go_wp2_with fail
    refine Az (fun W=> W.cell? ⟨a1.heap.size,3,none⟩=some (.int .i64 pt)∧W.cell? ⟨a1.heap.size,5,none⟩=some (.bool true)∧W.rangeAt (d1.heap.size) 1 (pmC ff.p.o ff.p.e vr vq vg)∧W.cell? ⟨d1.heap.size,4,none⟩=some vq) [0,1,2] 27 (by kernel_rfl) rfl (by kernel_rfl) (by kernel_rfl) ⟨HD3.out.2.1.cell 3,HD3.out.2.1.cell 5,Bx HD3.out.2.2.2.2.2.2.2.2.2.2.2.2,HD3.out.2.2.2.2.2.2.2.2.2.2.2.2.cell 4⟩ ?_
    iterate 3((first|(refine' AH.run ?_ ?_ ?_ ?_;rotate_left 2;(simp only[Aa,Ab,Ac];rfl);rfl;(rintro w' ⟨k0,k1,k2,k3⟩;first|exact AA rfl rfl k2 Tryz.underlying43 rfl (Ay _ _ _ _ _)|(go_simp;with_reducible rfl));simp only[Al,Ad,Ae,Af])|(refine' AH.skip ?_ ?_ ?_;rotate_left;(simp only[Aa,Ab,Ac];rfl);rfl;simp only[Al,Ad,Ae,Af])))
    have sm:=(Sm.refl d3).drew
    have HV22:=Ag (show Blk d3.drew (w.heap.size) 26 (cs1)∧Blk d3.drew (a1.heap.size) 31 (opC ⟨4,pu,pn,pt,pg,true,pb⟩ tco)∧Below w.heap.size w d3.drew∧IdC (a3.heap.size≤·) d3.drew cs1 s1∧TmC (a3.heap.size≤·) d3.drew tco (pb)∧IdC (·∉[]) d3.drew csn s2∧TmC (·∉[]) d3.drew rtc (rb)∧Blk d3.drew (b1.heap.size) 26 (csn)∧Blk d3.drew (b2.heap.size) 37 (AD 0 rv ru rtc)∧Sl d3.drew (.slice wa wn wc) (ofK .i64 (AQ s1 pn))∧Sl d3.drew (.slice na nn nc) (ofK .i64 (AQ s2 pn))∧PmF (u19.heap.size≤·) d3.drew ff.p vr vq vg∧Blk d3.drew (d1.heap.size) 45 (flC ff.nm ff.p.o ff.p.e vr vq vg ff.v ff.e ff.u tcf) from⟨HD3.out.1.below (sm.below _) HD3.out.1.lt,HD3.out.2.1.below (sm.below _) HD3.out.2.1.lt,(An HD3.out.2.2.1 (sm.below _) (Ah _)),(HD3.out.2.2.2.1.below (sm.below _)),(HD3.out.2.2.2.2.1.below (sm.below _)),(HD3.out.2.2.2.2.2.1.below (sm.below _)),(HD3.out.2.2.2.2.2.2.1.below (sm.below _)),HD3.out.2.2.2.2.2.2.2.1.below (sm.below _) HD3.out.2.2.2.2.2.2.2.1.lt,HD3.out.2.2.2.2.2.2.2.2.1.below (sm.below _) HD3.out.2.2.2.2.2.2.2.2.1.lt,HD3.out.2.2.2.2.2.2.2.2.2.1.below (sm.below _) (Ah _),HD3.out.2.2.2.2.2.2.2.2.2.2.1.below (sm.below _) (Ah _),(HD3.out.2.2.2.2.2.2.2.2.2.2.2.1.below (sm.below _)),HD3.out.2.2.2.2.2.2.2.2.2.2.2.2.below (sm.below _) HD3.out.2.2.2.2.2.2.2.2.2.2.2.2.lt⟩)
    clear sm
    generalize d3.drew=v21 at HV22 ⊢
    refine' Ar 3 (by kernel_rfl) ?_ ?_;rotate_left;(simp only[Aa,Ab,Ac];rfl)
    try simp only[Al,Ad,Ae,Af]
    go_wp2_with fail
    refine(AM pt _ _ v21 HV22.out.2.2.2.2.2.2.2.2.2.2.1).mono ?_
    rintro e' u23 ⟨rfl,rfl⟩
    rw[HTS.out.1]
    go_wp2_with fail
    refine QK.normal ⟨⟨HV22.out.2.1.cell 3,HV22.out.2.1.cell 5,Bx HV22.out.2.2.2.2.2.2.2.2.2.2.2.2,HV22.out.2.2.2.2.2.2.2.2.2.2.2.2.cell 4⟩,?_⟩
    refine A2 (fuel:=19) (by kernel_rfl) AE ⟨HV22.out.2.1.cell 3,HV22.out.2.1.cell 5,Bx HV22.out.2.2.2.2.2.2.2.2.2.2.2.2,HV22.out.2.2.2.2.2.2.2.2.2.2.2.2.cell 4⟩ [4,5,7,10,6,8,11] _ _ (by kernel_rfl) ?_
    try simp only[Al]
    iterate 7((first|(refine' AH.run ?_ ?_ ?_ ?_;rotate_left 2;(simp only[Aa,Ab,Ac];rfl);rfl;(rintro w' ⟨k0,k1,k2,k3⟩;first|exact AA rfl rfl k2 Tryz.underlying43 rfl (Ay _ _ _ _ _)|(go_simp;with_reducible rfl));simp only[Al,Ad,Ae,Af])|(refine' AH.skip ?_ ?_ ?_;rotate_left;(simp only[Aa,Ab,Ac];rfl);rfl;simp only[Al,Ad,Ae,Af])))
    refine' Ar 9 (by kernel_rfl) ?_ ?_;rotate_left;(simp only[Aa,Ab,Ac];rfl)
    try simp only[Al,Ad,Ae,Af]
    go_wp2_with fail
    refine(C7 ff.p pt vr vq vg v21 HV22.out.2.2.2.2.2.2.2.2.2.2.2.1.s).mono ?_
    rintro e' u24 ⟨rfl,hb⟩
    rw[show Dt ff.p pt=true from HTM.out]
    have K25:=Ag (show Blk u24 (w.heap.size) 26 (cs1)∧Blk u24 (a1.heap.size) 31 (opC ⟨4,pu,pn,pt,pg,true,pb⟩ tco)∧Below w.heap.size w u24∧IdC (a3.heap.size≤·) u24 cs1 s1∧TmC (a3.heap.size≤·) u24 tco (pb)∧IdC (·∉[]) u24 csn s2∧TmC (·∉[]) u24 rtc (rb)∧Blk u24 (b1.heap.size) 26 (csn)∧Blk u24 (b2.heap.size) 37 (AD 0 rv ru rtc)∧Sl u24 (.slice wa wn wc) (ofK .i64 (AQ s1 pn))∧Sl u24 (.slice na nn nc) (ofK .i64 (AQ s2 pn))∧PmF (u19.heap.size≤·) u24 ff.p vr vq vg∧Blk u24 (d1.heap.size) 45 (flC ff.nm ff.p.o ff.p.e vr vq vg ff.v ff.e ff.u tcf) from⟨HV22.out.1.below hb HV22.out.1.lt,HV22.out.2.1.below hb HV22.out.2.1.lt,(An HV22.out.2.2.1 hb (Ah _)),(HV22.out.2.2.2.1.below hb),(HV22.out.2.2.2.2.1.below hb),(HV22.out.2.2.2.2.2.1.below hb),(HV22.out.2.2.2.2.2.2.1.below hb),HV22.out.2.2.2.2.2.2.2.1.below hb HV22.out.2.2.2.2.2.2.2.1.lt,HV22.out.2.2.2.2.2.2.2.2.1.below hb HV22.out.2.2.2.2.2.2.2.2.1.lt,HV22.out.2.2.2.2.2.2.2.2.2.1.below hb (Ah _),HV22.out.2.2.2.2.2.2.2.2.2.2.1.below hb (Ah _),(HV22.out.2.2.2.2.2.2.2.2.2.2.2.1.below hb),HV22.out.2.2.2.2.2.2.2.2.2.2.2.2.below hb HV22.out.2.2.2.2.2.2.2.2.2.2.2.2.lt⟩)
    clear hb
    go_wp2_with fail
    refine QK.normal ⟨⟨K25.out.2.1.cell 3,K25.out.2.1.cell 5,Bx K25.out.2.2.2.2.2.2.2.2.2.2.2.2,K25.out.2.2.2.2.2.2.2.2.2.2.2.2.cell 4⟩,?_⟩
    refine A2 (fuel:=1) (by kernel_rfl) AE ⟨K25.out.2.1.cell 3,K25.out.2.1.cell 5,Bx K25.out.2.2.2.2.2.2.2.2.2.2.2.2,K25.out.2.2.2.2.2.2.2.2.2.2.2.2.cell 4⟩ [12,13,16,14,17,15,18,19,20,21,22,23,25,24,26,27,28] _ _ (by kernel_rfl) ?_
    try simp only[Al]
    iterate 17((first|(refine' AH.run ?_ ?_ ?_ ?_;rotate_left 2;(simp only[Aa,Ab,Ac];rfl);rfl;(rintro w' ⟨k0,k1,k2,k3⟩;first|exact AA rfl rfl k2 Tryz.underlying43 rfl (Ay _ _ _ _ _)|(go_simp;with_reducible rfl));simp only[Al,Ad,Ae,Af])|(refine' AH.skip ?_ ?_ ?_;rotate_left;(simp only[Aa,Ab,Ac];rfl);rfl;simp only[Al,Ad,Ae,Af])))
    refine' Ar 29 (by kernel_rfl) ?_ ?_;rotate_left;(simp only[Aa,Ab,Ac];rfl)
    try simp only[Al]
    go_wp2_with fail
    refine QK.normal ⟨⟨K25.out.2.1.cell 3,K25.out.2.1.cell 5,Bx K25.out.2.2.2.2.2.2.2.2.2.2.2.2,K25.out.2.2.2.2.2.2.2.2.2.2.2.2.cell 4⟩,?_⟩
    refine wpAnyH_done (by kernel_rfl) ?_ _
    refine NoPanic.normal ?_
    go_wp2_with fail
    go_ret
    exact⟨rfl,K25.out.2.2.1⟩
   have HTM:=Ag (show Dt ff.p pt=qb from by rw[HTS.out.2.1,HQB.out];rfl)
   cases qb
   ·skip
    go_wp2_with fail
    refine Az (fun W=> W.cell? ⟨a1.heap.size,3,none⟩=some (.int .i64 pt)∧W.cell? ⟨a1.heap.size,5,none⟩=some (.bool false)∧W.rangeAt (d1.heap.size) 1 (pmC ff.p.o ff.p.e vr vq vg)∧W.cell? ⟨d1.heap.size,4,none⟩=some vq) [0,1,2] 27 (by kernel_rfl) rfl (by kernel_rfl) (by kernel_rfl) ⟨HD3.out.2.1.cell 3,HD3.out.2.1.cell 5,Bx HD3.out.2.2.2.2.2.2.2.2.2.2.2.2,HD3.out.2.2.2.2.2.2.2.2.2.2.2.2.cell 4⟩ ?_
    iterate 3((first|(refine' AH.run ?_ ?_ ?_ ?_;rotate_left 2;(simp only[Aa,Ab,Ac];rfl);rfl;(rintro w' ⟨k0,k1,k2,k3⟩;first|exact AA rfl rfl k2 Tryz.underlying43 rfl (Ay _ _ _ _ _)|(go_simp;with_reducible rfl));simp only[Al,Ad,Ae,Af])|(refine' AH.skip ?_ ?_ ?_;rotate_left;(simp only[Aa,Ab,Ac];rfl);rfl;simp only[Al,Ad,Ae,Af])))
    have sm:=(Sm.refl d3).drew
    have HV27:=Ag (show Blk d3.drew (w.heap.size) 26 (cs1)∧Blk d3.drew (a1.heap.size) 31 (opC ⟨4,pu,pn,pt,pg,false,pb⟩ tco)∧Below w.heap.size w d3.drew∧IdC (a3.heap.size≤·) d3.drew cs1 s1∧TmC (a3.heap.size≤·) d3.drew tco (pb)∧IdC (·∉[]) d3.drew csn s2∧TmC (·∉[]) d3.drew rtc (rb)∧Blk d3.drew (b1.heap.size) 26 (csn)∧Blk d3.drew (b2.heap.size) 37 (AD 0 rv ru rtc)∧Sl d3.drew (.slice wa wn wc) (ofK .i64 (AQ s1 pn))∧Sl d3.drew (.slice na nn nc) (ofK .i64 (AQ s2 pn))∧PmF (u19.heap.size≤·) d3.drew ff.p vr vq vg∧Blk d3.drew (d1.heap.size) 45 (flC ff.nm ff.p.o ff.p.e vr vq vg ff.v ff.e ff.u tcf) from⟨HD3.out.1.below (sm.below _) HD3.out.1.lt,HD3.out.2.1.below (sm.below _) HD3.out.2.1.lt,(An HD3.out.2.2.1 (sm.below _) (Ah _)),(HD3.out.2.2.2.1.below (sm.below _)),(HD3.out.2.2.2.2.1.below (sm.below _)),(HD3.out.2.2.2.2.2.1.below (sm.below _)),(HD3.out.2.2.2.2.2.2.1.below (sm.below _)),HD3.out.2.2.2.2.2.2.2.1.below (sm.below _) HD3.out.2.2.2.2.2.2.2.1.lt,HD3.out.2.2.2.2.2.2.2.2.1.below (sm.below _) HD3.out.2.2.2.2.2.2.2.2.1.lt,HD3.out.2.2.2.2.2.2.2.2.2.1.below (sm.below _) (Ah _),HD3.out.2.2.2.2.2.2.2.2.2.2.1.below (sm.below _) (Ah _),(HD3.out.2.2.2.2.2.2.2.2.2.2.2.1.below (sm.below _)),HD3.out.2.2.2.2.2.2.2.2.2.2.2.2.below (sm.below _) HD3.out.2.2.2.2.2.2.2.2.2.2.2.2.lt⟩)
    clear sm
    generalize d3.drew=v26 at HV27 ⊢
    refine' Ar 3 (by kernel_rfl) ?_ ?_;rotate_left;(simp only[Aa,Ab,Ac];rfl)
    try simp only[Al,Ad,Ae,Af]
    go_wp2_with fail
    refine(AM pt _ _ v26 HV27.out.2.2.2.2.2.2.2.2.2.2.1).mono ?_
    rintro e' u28 ⟨rfl,rfl⟩
    rw[HTS.out.1]
    go_wp2_with fail
    refine QK.normal ⟨⟨HV27.out.2.1.cell 3,HV27.out.2.1.cell 5,Bx HV27.out.2.2.2.2.2.2.2.2.2.2.2.2,HV27.out.2.2.2.2.2.2.2.2.2.2.2.2.cell 4⟩,?_⟩
    refine A2 (fuel:=19) (by kernel_rfl) AE ⟨HV27.out.2.1.cell 3,HV27.out.2.1.cell 5,Bx HV27.out.2.2.2.2.2.2.2.2.2.2.2.2,HV27.out.2.2.2.2.2.2.2.2.2.2.2.2.cell 4⟩ [4,5,7,10,6,8,11] _ _ (by kernel_rfl) ?_
    try simp only[Al]
    iterate 7((first|(refine' AH.run ?_ ?_ ?_ ?_;rotate_left 2;(simp only[Aa,Ab,Ac];rfl);rfl;(rintro w' ⟨k0,k1,k2,k3⟩;first|exact AA rfl rfl k2 Tryz.underlying43 rfl (Ay _ _ _ _ _)|(go_simp;with_reducible rfl));simp only[Al,Ad,Ae,Af])|(refine' AH.skip ?_ ?_ ?_;rotate_left;(simp only[Aa,Ab,Ac];rfl);rfl;simp only[Al,Ad,Ae,Af])))
    refine' Ar 9 (by kernel_rfl) ?_ ?_;rotate_left;(simp only[Aa,Ab,Ac];rfl)
    try simp only[Al,Ad,Ae,Af]
    go_wp2_with fail
    refine(C7 ff.p pt vr vq vg v26 HV27.out.2.2.2.2.2.2.2.2.2.2.2.1.s).mono ?_
    rintro e' u29 ⟨rfl,hb⟩
    rw[show Dt ff.p pt=false from HTM.out]
    have K30:=Ag (show Blk u29 (w.heap.size) 26 (cs1)∧Blk u29 (a1.heap.size) 31 (opC ⟨4,pu,pn,pt,pg,false,pb⟩ tco)∧Below w.heap.size w u29∧IdC (a3.heap.size≤·) u29 cs1 s1∧TmC (a3.heap.size≤·) u29 tco (pb)∧IdC (·∉[]) u29 csn s2∧TmC (·∉[]) u29 rtc (rb)∧Blk u29 (b1.heap.size) 26 (csn)∧Blk u29 (b2.heap.size) 37 (AD 0 rv ru rtc)∧Sl u29 (.slice wa wn wc) (ofK .i64 (AQ s1 pn))∧Sl u29 (.slice na nn nc) (ofK .i64 (AQ s2 pn))∧PmF (u19.heap.size≤·) u29 ff.p vr vq vg∧Blk u29 (d1.heap.size) 45 (flC ff.nm ff.p.o ff.p.e vr vq vg ff.v ff.e ff.u tcf) from⟨HV27.out.1.below hb HV27.out.1.lt,HV27.out.2.1.below hb HV27.out.2.1.lt,(An HV27.out.2.2.1 hb (Ah _)),(HV27.out.2.2.2.1.below hb),(HV27.out.2.2.2.2.1.below hb),(HV27.out.2.2.2.2.2.1.below hb),(HV27.out.2.2.2.2.2.2.1.below hb),HV27.out.2.2.2.2.2.2.2.1.below hb HV27.out.2.2.2.2.2.2.2.1.lt,HV27.out.2.2.2.2.2.2.2.2.1.below hb HV27.out.2.2.2.2.2.2.2.2.1.lt,HV27.out.2.2.2.2.2.2.2.2.2.1.below hb (Ah _),HV27.out.2.2.2.2.2.2.2.2.2.2.1.below hb (Ah _),(HV27.out.2.2.2.2.2.2.2.2.2.2.2.1.below hb),HV27.out.2.2.2.2.2.2.2.2.2.2.2.2.below hb HV27.out.2.2.2.2.2.2.2.2.2.2.2.2.lt⟩)
    clear hb
    go_wp2_with fail
    refine QK.normal ⟨⟨K30.out.2.1.cell 3,K30.out.2.1.cell 5,Bx K30.out.2.2.2.2.2.2.2.2.2.2.2.2,K30.out.2.2.2.2.2.2.2.2.2.2.2.2.cell 4⟩,?_⟩
    refine A2 (fuel:=12) (by kernel_rfl) AE ⟨K30.out.2.1.cell 3,K30.out.2.1.cell 5,Bx K30.out.2.2.2.2.2.2.2.2.2.2.2.2,K30.out.2.2.2.2.2.2.2.2.2.2.2.2.cell 4⟩ [12,13,16,14,17,15] _ _ (by kernel_rfl) ?_
    try simp only[Al]
    iterate 6((first|(refine' AH.run ?_ ?_ ?_ ?_;rotate_left 2;(simp only[Aa,Ab,Ac];rfl);rfl;(rintro w' ⟨k0,k1,k2,k3⟩;first|exact AA rfl rfl k2 Tryz.underlying43 rfl (Ay _ _ _ _ _)|(go_simp;with_reducible rfl));simp only[Al,Ad,Ae,Af])|(refine' AH.skip ?_ ?_ ?_;rotate_left;(simp only[Aa,Ab,Ac];rfl);rfl;simp only[Al,Ad,Ae,Af])))
    refine' Ar 18 (by kernel_rfl) ?_ ?_;rotate_left;(simp only[Aa,Ab,Ac];rfl)
    try simp only[Al,Ad,Ae,Af]
    go_wp2_with fail
    refine(AM pt _ _ u29 K30.out.2.2.2.2.2.2.2.2.2.2.2.1.2.1.1).mono ?_
    rintro e' u31 ⟨rfl,rfl⟩
    rw[HQB.out]
    go_wp2_with fail
    refine QK.normal ⟨⟨K30.out.2.1.cell 3,K30.out.2.1.cell 5,Bx K30.out.2.2.2.2.2.2.2.2.2.2.2.2,K30.out.2.2.2.2.2.2.2.2.2.2.2.2.cell 4⟩,?_⟩
    refine A2 (fuel:=1) (by kernel_rfl) AE ⟨K30.out.2.1.cell 3,K30.out.2.1.cell 5,Bx K30.out.2.2.2.2.2.2.2.2.2.2.2.2,K30.out.2.2.2.2.2.2.2.2.2.2.2.2.cell 4⟩ [19,20,21,22,23,25,24,26,27,28] _ _ (by kernel_rfl) ?_
    try simp only[Al]
    iterate 10((first|(refine' AH.run ?_ ?_ ?_ ?_;rotate_left 2;(simp only[Aa,Ab,Ac];rfl);rfl;(rintro w' ⟨k0,k1,k2,k3⟩;first|exact AA rfl rfl k2 Tryz.underlying43 rfl (Ay _ _ _ _ _)|(go_simp;with_reducible rfl));simp only[Al,Ad,Ae,Af])|(refine' AH.skip ?_ ?_ ?_;rotate_left;(simp only[Aa,Ab,Ac];rfl);rfl;simp only[Al,Ad,Ae,Af])))
    refine' Ar 29 (by kernel_rfl) ?_ ?_;rotate_left;(simp only[Aa,Ab,Ac];rfl)
    try simp only[Al]
    go_wp2_with fail
    refine QK.normal ⟨⟨K30.out.2.1.cell 3,K30.out.2.1.cell 5,Bx K30.out.2.2.2.2.2.2.2.2.2.2.2.2,K30.out.2.2.2.2.2.2.2.2.2.2.2.2.cell 4⟩,?_⟩
    refine wpAnyH_done (by kernel_rfl) ?_ _
    refine NoPanic.normal ?_
    go_wp2_with fail
    go_ret
    exact⟨rfl,K30.out.2.2.1⟩
   ·skip
    go_wp2_with fail
    refine Az (fun W=> W.cell? ⟨a1.heap.size,3,none⟩=some (.int .i64 pt)∧W.cell? ⟨a1.heap.size,5,none⟩=some (.bool false)∧W.rangeAt (d1.heap.size) 1 (pmC ff.p.o ff.p.e vr vq vg)∧W.cell? ⟨d1.heap.size,4,none⟩=some vq) [0,1,2] 27 (by kernel_rfl) rfl (by kernel_rfl) (by kernel_rfl) ⟨HD3.out.2.1.cell 3,HD3.out.2.1.cell 5,Bx HD3.out.2.2.2.2.2.2.2.2.2.2.2.2,HD3.out.2.2.2.2.2.2.2.2.2.2.2.2.cell 4⟩ ?_
    iterate 3((first|(refine' AH.run ?_ ?_ ?_ ?_;rotate_left 2;(simp only[Aa,Ab,Ac];rfl);rfl;(rintro w' ⟨k0,k1,k2,k3⟩;first|exact AA rfl rfl k2 Tryz.underlying43 rfl (Ay _ _ _ _ _)|(go_simp;with_reducible rfl));simp only[Al,Ad,Ae,Af])|(refine' AH.skip ?_ ?_ ?_;rotate_left;(simp only[Aa,Ab,Ac];rfl);rfl;simp only[Al,Ad,Ae,Af])))
    have sm:=(Sm.refl d3).drew
    have HV33:=Ag (show Blk d3.drew (w.heap.size) 26 (cs1)∧Blk d3.drew (a1.heap.size) 31 (opC ⟨4,pu,pn,pt,pg,false,pb⟩ tco)∧Below w.heap.size w d3.drew∧IdC (a3.heap.size≤·) d3.drew cs1 s1∧TmC (a3.heap.size≤·) d3.drew tco (pb)∧IdC (·∉[]) d3.drew csn s2∧TmC (·∉[]) d3.drew rtc (rb)∧Blk d3.drew (b1.heap.size) 26 (csn)∧Blk d3.drew (b2.heap.size) 37 (AD 0 rv ru rtc)∧Sl d3.drew (.slice wa wn wc) (ofK .i64 (AQ s1 pn))∧Sl d3.drew (.slice na nn nc) (ofK .i64 (AQ s2 pn))∧PmF (u19.heap.size≤·) d3.drew ff.p vr vq vg∧Blk d3.drew (d1.heap.size) 45 (flC ff.nm ff.p.o ff.p.e vr vq vg ff.v ff.e ff.u tcf) from⟨HD3.out.1.below (sm.below _) HD3.out.1.lt,HD3.out.2.1.below (sm.below _) HD3.out.2.1.lt,(An HD3.out.2.2.1 (sm.below _) (Ah _)),(HD3.out.2.2.2.1.below (sm.below _)),(HD3.out.2.2.2.2.1.below (sm.below _)),(HD3.out.2.2.2.2.2.1.below (sm.below _)),(HD3.out.2.2.2.2.2.2.1.below (sm.below _)),HD3.out.2.2.2.2.2.2.2.1.below (sm.below _) HD3.out.2.2.2.2.2.2.2.1.lt,HD3.out.2.2.2.2.2.2.2.2.1.below (sm.below _) HD3.out.2.2.2.2.2.2.2.2.1.lt,HD3.out.2.2.2.2.2.2.2.2.2.1.below (sm.below _) (Ah _),HD3.out.2.2.2.2.2.2.2.2.2.2.1.below (sm.below _) (Ah _),(HD3.out.2.2.2.2.2.2.2.2.2.2.2.1.below (sm.below _)),HD3.out.2.2.2.2.2.2.2.2.2.2.2.2.below (sm.below _) HD3.out.2.2.2.2.2.2.2.2.2.2.2.2.lt⟩)
    clear sm
    generalize d3.drew=v32 at HV33 ⊢
    refine' Ar 3 (by kernel_rfl) ?_ ?_;rotate_left;(simp only[Aa,Ab,Ac];rfl)
    try simp only[Al,Ad,Ae,Af]
    go_wp2_with fail
    refine(AM pt _ _ v32 HV33.out.2.2.2.2.2.2.2.2.2.2.1).mono ?_
    rintro e' u34 ⟨rfl,rfl⟩
    rw[HTS.out.1]
    go_wp2_with fail
    refine QK.normal ⟨⟨HV33.out.2.1.cell 3,HV33.out.2.1.cell 5,Bx HV33.out.2.2.2.2.2.2.2.2.2.2.2.2,HV33.out.2.2.2.2.2.2.2.2.2.2.2.2.cell 4⟩,?_⟩
    refine A2 (fuel:=19) (by kernel_rfl) AE ⟨HV33.out.2.1.cell 3,HV33.out.2.1.cell 5,Bx HV33.out.2.2.2.2.2.2.2.2.2.2.2.2,HV33.out.2.2.2.2.2.2.2.2.2.2.2.2.cell 4⟩ [4,5,7,10,6,8,11] _ _ (by kernel_rfl) ?_
    try simp only[Al]
    iterate 7((first|(refine' AH.run ?_ ?_ ?_ ?_;rotate_left 2;(simp only[Aa,Ab,Ac];rfl);rfl;(rintro w' ⟨k0,k1,k2,k3⟩;first|exact AA rfl rfl k2 Tryz.underlying43 rfl (Ay _ _ _ _ _)|(go_simp;with_reducible rfl));simp only[Al,Ad,Ae,Af])|(refine' AH.skip ?_ ?_ ?_;rotate_left;(simp only[Aa,Ab,Ac];rfl);rfl;simp only[Al,Ad,Ae,Af])))
    refine' Ar 9 (by kernel_rfl) ?_ ?_;rotate_left;(simp only[Aa,Ab,Ac];rfl)
    try simp only[Al,Ad,Ae,Af]
    go_wp2_with fail
    refine(C7 ff.p pt vr vq vg v32 HV33.out.2.2.2.2.2.2.2.2.2.2.2.1.s).mono ?_
    rintro e' u35 ⟨rfl,hb⟩
    rw[show Dt ff.p pt=true from HTM.out]
    have K36:=Ag (show Blk u35 (w.heap.size) 26 (cs1)∧Blk u35 (a1.heap.size) 31 (opC ⟨4,pu,pn,pt,pg,false,pb⟩ tco)∧Below w.heap.size w u35∧IdC (a3.heap.size≤·) u35 cs1 s1∧TmC (a3.heap.size≤·) u35 tco (pb)∧IdC (·∉[]) u35 csn s2∧TmC (·∉[]) u35 rtc (rb)∧Blk u35 (b1.heap.size) 26 (csn)∧Blk u35 (b2.heap.size) 37 (AD 0 rv ru rtc)∧Sl u35 (.slice wa wn wc) (ofK .i64 (AQ s1 pn))∧Sl u35 (.slice na nn nc) (ofK .i64 (AQ s2 pn))∧PmF (u19.heap.size≤·) u35 ff.p vr vq vg∧Blk u35 (d1.heap.size) 45 (flC ff.nm ff.p.o ff.p.e vr vq vg ff.v ff.e ff.u tcf) from⟨HV33.out.1.below hb HV33.out.1.lt,HV33.out.2.1.below hb HV33.out.2.1.lt,(An HV33.out.2.2.1 hb (Ah _)),(HV33.out.2.2.2.1.below hb),(HV33.out.2.2.2.2.1.below hb),(HV33.out.2.2.2.2.2.1.below hb),(HV33.out.2.2.2.2.2.2.1.below hb),HV33.out.2.2.2.2.2.2.2.1.below hb HV33.out.2.2.2.2.2.2.2.1.lt,HV33.out.2.2.2.2.2.2.2.2.1.below hb HV33.out.2.2.2.2.2.2.2.2.1.lt,HV33.out.2.2.2.2.2.2.2.2.2.1.below hb (Ah _),HV33.out.2.2.2.2.2.2.2.2.2.2.1.below hb (Ah _),(HV33.out.2.2.2.2.2.2.2.2.2.2.2.1.below hb),HV33.out.2.2.2.2.2.2.2.2.2.2.2.2.below hb HV33.out.2.2.2.2.2.2.2.2.2.2.2.2.lt⟩)
    clear hb
    go_wp2_with fail
    refine QK.normal ⟨⟨K36.out.2.1.cell 3,K36.out.2.1.cell 5,Bx K36.out.2.2.2.2.2.2.2.2.2.2.2.2,K36.out.2.2.2.2.2.2.2.2.2.2.2.2.cell 4⟩,?_⟩
    refine A2 (fuel:=12) (by kernel_rfl) AE ⟨K36.out.2.1.cell 3,K36.out.2.1.cell 5,Bx K36.out.2.2.2.2.2.2.2.2.2.2.2.2,K36.out.2.2.2.2.2.2.2.2.2.2.2.2.cell 4⟩ [12,13,16,14,17,15] _ _ (by kernel_rfl) ?_
    try simp only[Al]
    iterate 6((first|(refine' AH.run ?_ ?_ ?_ ?_;rotate_left 2;(simp only[Aa,Ab,Ac];rfl);rfl;(rintro w' ⟨k0,k1,k2,k3⟩;first|exact AA rfl rfl k2 Tryz.underlying43 rfl (Ay _ _ _ _ _)|(go_simp;with_reducible rfl));simp only[Al,Ad,Ae,Af])|(refine' AH.skip ?_ ?_ ?_;rotate_left;(simp only[Aa,Ab,Ac];rfl);rfl;simp only[Al,Ad,Ae,Af])))
    refine' Ar 18 (by kernel_rfl) ?_ ?_;rotate_left;(simp only[Aa,Ab,Ac];rfl)
    try simp only[Al,Ad,Ae,Af]
    go_wp2_with fail
    refine(AM pt _ _ u35 K36.out.2.2.2.2.2.2.2.2.2.2.2.1.2.1.1).mono ?_
    rintro e' u37 ⟨rfl,rfl⟩
    rw[HQB.out]
    go_wp2_with fail
    refine QK.normal ⟨⟨K36.out.2.1.cell 3,K36.out.2.1.cell 5,Bx K36.out.2.2.2.2.2.2.2.2.2.2.2.2,K36.out.2.2.2.2.2.2.2.2.2.2.2.2.cell 4⟩,?_⟩
    refine A2 (fuel:=1) (by kernel_rfl) AE ⟨K36.out.2.1.cell 3,K36.out.2.1.cell 5,Bx K36.out.2.2.2.2.2.2.2.2.2.2.2.2,K36.out.2.2.2.2.2.2.2.2.2.2.2.2.cell 4⟩ [19,20,21,22,23,25,24,26,27,28] _ _ (by kernel_rfl) ?_
    try simp only[Al]
    iterate 10((first|(refine' AH.run ?_ ?_ ?_ ?_;rotate_left 2;(simp only[Aa,Ab,Ac];rfl);rfl;(rintro w' ⟨k0,k1,k2,k3⟩;first|exact AA rfl rfl k2 Tryz.underlying43 rfl (Ay _ _ _ _ _)|(go_simp;with_reducible rfl));simp only[Al,Ad,Ae,Af])|(refine' AH.skip ?_ ?_ ?_;rotate_left;(simp only[Aa,Ab,Ac];rfl);rfl;simp only[Al,Ad,Ae,Af])))
    refine' Ar 29 (by kernel_rfl) ?_ ?_;rotate_left;(simp only[Aa,Ab,Ac];rfl)
    try simp only[Al]
    go_wp2_with fail
    refine QK.normal ⟨⟨K36.out.2.1.cell 3,K36.out.2.1.cell 5,Bx K36.out.2.2.2.2.2.2.2.2.2.2.2.2,K36.out.2.2.2.2.2.2.2.2.2.2.2.2.cell 4⟩,?_⟩
    refine wpAnyH_done (by kernel_rfl) ?_ _
    refine NoPanic.normal ?_
    go_wp2_with fail
    go_ret
    exact⟨rfl,K36.out.2.2.1⟩
  have h4':(pk==4)=false:=by simp[h4]
  by_cases h10:pk=10
  rotate_left
  ·have h10':(pk==10)=false:=by simp[h10]
   go_wp2_with fail
   go_ret
   exact⟨rfl,HD3.out.2.2.1⟩
  subst h10
  have HTV:=Ag (show ∀ g∈s2.fs,g.p.g.any (pg==·)=true→(Cl s1 g.nm).2=true∧g.p.e=(Cl s1 g.nm).1.p.e+1∧1≤g.p.e∧g.p.e≤8 from by have h:=IQ HE.out.1 HE.out.2.1 rfl;rw[HE.out.2.2] at h;exact h)
  obtain⟨nvf,nvc,nvw,hcs,hif,hic,hiw⟩:=HD3.out.2.2.2.2.2.1
  obtain⟨nca,ncc,rfl,hnc1,hnc2⟩:=hif.shape
  obtain⟨cn,hcn⟩:∃ m,s2.fs.length=m:=⟨_,rfl⟩
  have HCN:=Ag hcn
  rw[hcn] at hif hnc1 hcs
  have hcn63:cn≤9223372036854775807:=by unfold maxLen at hnc2;have:=hnc1;omega
  have HIC:=Ag hif
  have c1:=HD3.out.2.2.2.2.2.2.2.1.cell 0
  rw[hcs] at c1
  simp only[Ab,Ac] at c1
  clear hcs hif hic hiw hnc1 hnc2 hcn
  have H0:=Ag (show Blk d3 (w.heap.size) 26 (cs1)∧Blk d3 (a1.heap.size) 31 (opC ⟨10,pu,pn,pt,pg,pw,pb⟩ tco)∧Below w.heap.size w d3∧IdC (a3.heap.size≤·) d3 cs1 s1∧Below d3.heap.size d3 d3 from⟨HD3.out.1,HD3.out.2.1,HD3.out.2.2.1,HD3.out.2.2.2.1,Below.refl _ _⟩)
  go_wp2_with fail
  clear c0 c1
  go_loopw [124] (fun s61 wr=> ∃ j:Nat,s61=.int .i64 j∧j≤cn∧Hid (Blk wr (w.heap.size) 26 (cs1)∧Blk wr (a1.heap.size) 31 (opC ⟨10,pu,pn,pt,pg,pw,pb⟩ tco)∧Below w.heap.size w wr∧IdC (a3.heap.size≤·) wr cs1 s1∧Below d3.heap.size d3 wr)) (fun s61 _=> cn - (intOf s61).toNat)
  case atStart=> exact⟨0,rfl,Nat.zero_le _,H0⟩
  case round=>
   clear H0
   obtain⟨j,rfl,hj,HO⟩:=hrel
   by_cases hlt:j<cn
   rotate_left
   ·have hge:¬ (j:Int)<(cn:Int):=by omega
    go_wp2_with fail
    go_ret
    exact⟨rfl,HO.out.2.2.1⟩
   have hjl:j<s2.fs.length:=by rw[HCN.out];exact hlt
   have hjz:(j:Int)<(cn:Int):=by omega
   have hj0:(0:Int)≤(j:Int):=by omega
   obtain⟨b,o,xcs,rfl,-,-,hlen,hra,hxc⟩:=HIC.out.get (by exact hjl)
   have HXM:=Ag (List.getElem_mem hjl)
   generalize hx:s2.fs[j]=x at hxc HXM
   have HXO:=Ag hxc.one
   obtain⟨xr,xq,xg,xt,rfl,hxp,hxt⟩:=hxc
   have HZL:=Ag (show(flC x.nm x.p.o x.p.e xr xq xg x.v x.e x.u xt).length=(flC ⟨#[]⟩ 0 0 (.slice none 0 0) (.slice none 0 0) (.slice none 0 0) 0 0 0 (tmC 0 0 0 ⟨#[]⟩ (.slice none 0 0))).length from hlen)
   have HRA:=Ag (Ai (show wr.rangeAt b (o+j* 14) (flC x.nm x.p.o x.p.e xr xq xg x.v x.e x.u xt) from fun i z hz=> (HO.out.2.2.2.2.cell (Am (hra i z hz))).trans (hra i z hz)) hlen)
   have HSU:=Ag (show Sl wr xg (ofK .i64 x.p.g) from hxp.2.2.1.below HO.out.2.2.2.2 (Ah _))
   clear hra hlen hx hjl hxp hxt
   go_upto_region 24 with(first
  | (with_reducible refine Ap rfl 45 (.tmp 126) rfl b (o+j* 14) rfl (flC x.nm x.p.o x.p.e xr xq xg x.v x.e x.u xt) _ HRA.out.1 Tryz.underlying45 rfl (At Tryz.infoFl HRA.out.2) ?_)
  | ((with_reducible refine Av wr rfl 45 rfl (flC ⟨#[]⟩ 0 0 (.slice none 0 0) (.slice none 0 0) (.slice none 0 0) 0 0 0 (tmC 0 0 0 ⟨#[]⟩ (.slice none 0 0))) Tryz.zeroFl14 ?_);intro x2 hb hbel hsz;have HX2:=Ag (Ai hb hbel);clear hb hbel hsz)
  | ((with_reducible refine Ao x2 rfl 45 (.tmp 16) (.tmp 127) rfl (wr.heap.size) 45 (flC ⟨#[]⟩ 0 0 (.slice none 0 0) (.slice none 0 0) (.slice none 0 0) 0 0 0 (tmC 0 0 0 ⟨#[]⟩ (.slice none 0 0))) (flC x.nm x.p.o x.p.e xr xq xg x.v x.e x.u xt) HX2.out.1 rfl rfl HZL.out (At Tryz.infoFl HRA.out.2) HXO.out ?_);intro x3 hb hc hs;have hbx:=B0 HX2.out.2 hc;have HX3:=hJ6 (HO.out.1.below hbx HO.out.1.lt) (HO.out.2.1.below hbx HO.out.2.1.lt) (An HO.out.2.2.1 hbx (Ah _)) (HO.out.2.2.2.1.below hbx) (An HO.out.2.2.2.2 hbx (Ah _)) hb;have HSV:=Ag (HSU.out.below hbx (Ah _));clear hb hc hs hbx))
   try simp only[Al,Ad,Ae,Af]
   have c5:=HX3.out.2.2.2.2.2.cell 5
   simp only[flC,Ab,Ac] at c5
   have c4:=HX3.out.2.1.cell 4
   simp only[opC,Ab,Ac] at c4
   have e0:=HX3.out.2.2.2.2.2.cell 0
   simp only[flC,Ab,Ac] at e0
   go_wp2_with fail
   refine(AM pg _ _ x3 HSV.out).mono ?_
   rintro e' z1 ⟨rfl,rfl⟩
   cases hb1:x.p.g.any (pg==·)
   ·skip
    go_wp2_with fail
    go_roundw
    case measure=> simp[intOf];omega
    case rel=> exact⟨j+1,by go_num,by omega,Ag ⟨HX3.out.1,HX3.out.2.1,HX3.out.2.2.1,HX3.out.2.2.2.1,HX3.out.2.2.2.2.1⟩⟩
   obtain⟨hv1,hv2,hv3,hv4⟩:=HTV.out x HXM.out hb1
   go_wp2_with (first
  | (with_reducible refine Ap rfl 26 (.tmp 2) rfl (w.heap.size) 0 rfl (cs1) _ (As HX3.out.1) Tryz.underlying26 rfl (At Tryz.infoId HCL.out) ?_))
   refine(Fm s1 x.nm cs1 _ x3 HX3.out.2.2.2.1 (by have h2:=HK.out.1.cl;omega) (by have h2:=HK.out.1.fl;omega)).mono ?_
   rintro e' z2 ⟨cf2,rfl,hfl,hb⟩
   obtain⟨⟨fo,fb2⟩,hfm⟩:∃ r,Cl s1 x.nm=r:=⟨_,rfl⟩
   rw[hfm] at hfl hv1 hv2 ⊢
   simp only at hfl hv1 hv2 ⊢
   subst hv1
   have HFO2:=Ag hfl.one
   have HFL2:=Ag hfl.len
   obtain⟨or_,oq,og,ot,rfl,hpm,htf⟩:=hfl
   have HZ2:=hJ6 (HX3.out.1.below hb HX3.out.1.lt) (HX3.out.2.1.below hb HX3.out.2.1.lt) (An HX3.out.2.2.1 hb (Ah _)) (HX3.out.2.2.2.1.below hb) (An HX3.out.2.2.2.2.1 hb (Ah _)) (HX3.out.2.2.2.2.2.below hb HX3.out.2.2.2.2.2.lt)
   have HFZ2:=Ag (show(flC fo.nm fo.p.o fo.p.e or_ oq og fo.v fo.e fo.u ot).length=(flC ⟨#[]⟩ 0 0 (.slice none 0 0) (.slice none 0 0) (.slice none 0 0) 0 0 0 (tmC 0 0 0 ⟨#[]⟩ (.slice none 0 0))).length from by rw[HFL2.out];simp[flC,tmC])
   have HV2:=Ag hv2
   have hv5:(-9223372036854775808:Int)≤fo.p.e+1:=by omega
   have hv6:fo.p.e+1≤(9223372036854775807:Int):=by omega
   clear hpm htf hfm hb hv2 c5 c4 e0
   go_upto_region 26 with(first
  | ((with_reducible refine Av z2 rfl 45 rfl (flC ⟨#[]⟩ 0 0 (.slice none 0 0) (.slice none 0 0) (.slice none 0 0) 0 0 0 (tmC 0 0 0 ⟨#[]⟩ (.slice none 0 0))) Tryz.zeroFl14 ?_);intro z3 hb hbel hsz;have HZ3:=Ag (Ai hb hbel);clear hb hbel hsz)
  | ((with_reducible refine Ao z3 rfl 45 (.tmp 17) (.tmp 140) rfl (z2.heap.size) 45 (flC ⟨#[]⟩ 0 0 (.slice none 0 0) (.slice none 0 0) (.slice none 0 0) 0 0 0 (tmC 0 0 0 ⟨#[]⟩ (.slice none 0 0))) (flC fo.nm fo.p.o fo.p.e or_ oq og fo.v fo.e fo.u ot) HZ3.out.1 rfl rfl HFZ2.out (At Tryz.infoFl HFL2.out) HFO2.out ?_);intro z4 hb hc hs;have hbx:=B0 HZ3.out.2 hc;have HZ4:=hJ7 (HZ2.out.1.below hbx HZ2.out.1.lt) (HZ2.out.2.1.below hbx HZ2.out.2.1.lt) (An HZ2.out.2.2.1 hbx (Ah _)) (HZ2.out.2.2.2.1.below hbx) (An HZ2.out.2.2.2.2.1 hbx (Ah _)) (HZ2.out.2.2.2.2.2.below hbx HZ2.out.2.2.2.2.2.lt) hb;clear hb hc hs hbx))
   try simp only[Al,Ad,Ae,Af]
   have e2:=HZ4.out.2.2.2.2.2.1.cell 2
   simp only[flC,Ab,Ac] at e2
   have d2:=HZ4.out.2.2.2.2.2.2.cell 2
   simp only[flC,Ab,Ac] at d2
   rw[HV2.out] at e2
   go_wp2_with fail
   go_roundw
   case measure=> simp[intOf];omega
   case rel=> exact⟨j+1,by go_num,by omega,Ag ⟨HZ4.out.1,HZ4.out.2.1,HZ4.out.2.2.1,HZ4.out.2.2.2.1,HZ4.out.2.2.2.2.1⟩⟩
end Go.Proofs.YtgdlfiphihaooaaGreat

import Derived.Test.YtgdlfiphihaooaaGreatYs16
set_option linter.unusedSimpArgs false
set_option linter.unusedVariables false
set_option maxRecDepth 100000
set_option maxHeartbeats 8000000
open _root_.List renaming getElem?_toArray→Aa,getElem?_cons_zero→Ab,getElem?_cons_succ→Ac,setIfInBounds_toArray→Ad,set_cons_zero→Ae,set_cons_succ→Af
open _root_.Go.Lib renaming hid→Ag
open _root_.Nat renaming le_refl→Ah,le_trans→Aj,lt_of_lt_of_le→Ak
open _root_.And renaming intro→Ai
open _root_.Go.Act renaming put→Al
namespace Go.Proofs.YtgdlfiphihaooaaGreat
open Go Go.RowKit
theorem Iz (k u:Int) (s v:ByteArray) (t g:Int) (wr:Bool) (b:Tm) (tc:List Value):(opC ⟨k,u,s,t,g,wr,b⟩ tc).set 2 (.string v)=opC ⟨k,u,v,t,g,wr,b⟩ tc:=rfl
theorem IA (p:OpM) (tc ts:List Value) (h:ts.length=tc.length):AU (opC p tc) 6 ts=opC p ts:=by
 have:=Di (P:=[.int .i64 p.k,.int .i64 p.u,.string p.nm,.int .i64 p.t,.int .i64 p.g,.bool p.wr]) (R:=[]) h
 simp only[List.append_nil] at this
 exact this
theorem Ki (p:OpM) (tco:List Value) (F:Nat→Prop) (w:World) (ht:TmC F w tco p.b):Calls Tryz.prog 8 #[.agg (opC p tco).toArray] w (fun e w'=> ∃ cs' p',e=.returned (.agg cs'.toArray)∧OpC (w.heap.size≤·) w' cs' p'∧Below w.heap.size w w'):=by
 obtain⟨k0,u0,s0,t0,g0,w0,b0⟩:=p
 have HT:=Ag (show TmC F w tco b0 from ht)
 have HTL:=Ag ht.len
 clear ht
 have hz0:(0:Int)≤(s0.size:Int):=by omega
 by_cases hsz25:25<s0.size
 ·skip
  have hz1:(25:Int)<(s0.size:Int):=by omega
  have hz2:¬ ((s0.size:Int)<25):=by omega
  have hz3:¬ ((s0.size:Int)≤25):=by omega
  have hz4:(25:Int)≤(s0.size:Int):=by omega
  go_enter Tryz.func8,Tryz.ntmps8
  go_upto_region 1 with(first
  | ((with_reducible refine Au w rfl 31 (.tmp 0) rfl (opC ⟨k0,u0,s0,t0,g0,w0,b0⟩ tco) rfl ?_);intro a1 hb hbel hsz;have H1:=hJ2 hb hbel;clear hb hbel hsz)
  | ((with_reducible refine Av a1 rfl 31 rfl (opC ⟨0,0,⟨#[]⟩,0,0,false,tm0⟩ (tmC 0 0 0 ⟨#[]⟩ (.slice none 0 0))) Tryz.zeroOp ?_);intro a2 hb hbel hsz;have H2:=hJ3 (H1.out.1.below hbel H1.out.1.lt) (An H1.out.2 hbel (Ah _)) hb;have HG:=hJ2 H1.out.1.lt hb.lt;clear hb hbel hsz))
  try simp only[Al,Ad,Ae,Af]
  have H2b:=Ag (show Blk a2 (w.heap.size) 31 (opC ⟨k0,u0,s0,t0,g0,w0,b0⟩ tco)∧Below w.heap.size w a2∧Blk a2 (a1.heap.size) 31 (opC ⟨0,0,⟨#[]⟩,0,0,false,tm0⟩ (tmC 0 0 0 ⟨#[]⟩ (.slice none 0 0)))∧a2.heap.size≤a2.heap.size from⟨H2.out.1,H2.out.2.1,H2.out.2.2,Ah _⟩)
  clear H1 H2
  go_wp2_with fail
  refine A2 (fun W=> W.cell? ⟨w.heap.size,2,none⟩=some (.string s0)∧W.rangeAt w.heap.size 6 tco) 11 [0,1,2,3,4,5,6,7,8] 5 (by kernel_rfl) rfl (by kernel_rfl) (by kernel_rfl) ⟨H2b.out.1.cell 2,Da H2b.out.1⟩ ?_
  iterate 9(refine' AK.run ?_ ?_ ?_ ?_;rotate_left 2;(simp only[Aa,Ab,Ac];rfl);rfl;(rintro w' ⟨k0,k1⟩;first|exact AB rfl rfl k1 Tryz.underlying29 rfl (At Tryz.infoTm HTL.out)|(go_simp;with_reducible rfl)|(go_simp;simp only[if_neg (show ¬ (25:Int)<(s0.size:Int) by omega),show(0:Int)≤(s0.size:Int) by omega,Int.le_refl,and_self,if_true];rfl));simp only[Al,Ad,Ae,Af])
  have sm:=(Sm.refl a2).drew
  have HV2:=hJ4 (H2b.out.1.below (sm.below _) H2b.out.1.lt) (An H2b.out.2.1 (sm.below _) (Ah _)) (H2b.out.2.2.1.below (sm.below _) H2b.out.2.2.1.lt) (Aj H2b.out.2.2.2 (sm.below 0).size)
  clear sm
  generalize a2.drew=v1 at HV2 ⊢
  refine AL (by kernel_rfl) AG (fuel:=4) (fun _=> ⟨HV2.out.1.cell 2,Da HV2.out.1⟩) 10 (by kernel_rfl) ?_
  refine' AK.run ?_ ?_ ?_ ?_;rotate_left 2;(simp only[Aa,Ab,Ac];rfl);rfl;(rintro w' -;go_simp;with_reducible rfl);simp only[Al,Ad,Ae,Af]
  refine' AE 9 (by kernel_rfl) ?_ ?_;rotate_left;(simp only[Aa,Ab,Ac];rfl)
  try simp only[Al,Ad,Ae,Af]
  go_wp2_with fail
  refine(Eh 6 (by omega) b0 tco F v1 (HT.out.below HV2.out.2.1)).mono ?_
  rintro e' u3 ⟨tcn,tn,rfl,ht,hb⟩
  have K4:=Ag (show Blk u3 (w.heap.size) 31 (opC ⟨k0,u0,s0,t0,g0,w0,b0⟩ tco)∧Below w.heap.size w u3∧Blk u3 (a1.heap.size) 31 (opC ⟨0,0,⟨#[]⟩,0,0,false,tm0⟩ (tmC 0 0 0 ⟨#[]⟩ (.slice none 0 0)))∧a2.heap.size≤u3.heap.size∧TmC (a2.heap.size≤·) u3 tcn tn from⟨HV2.out.1.below hb HV2.out.1.lt,(An HV2.out.2.1 hb (Ah _)),HV2.out.2.2.1.below hb HV2.out.2.2.1.lt,(Aj HV2.out.2.2.2 hb.size),(ht.mono fun i hi=> Aj HV2.out.2.2.2 hi)⟩)
  have HTN:=Ag ht.len
  have HTO:=Ag ht.one
  clear ht hb
  go_wp2_with fail
  refine QK.normal ⟨fun _=> ⟨K4.out.1.cell 2,Da K4.out.1⟩,?_⟩
  refine' AE 11 (by kernel_rfl) ?_ ?_;rotate_left;(simp only[Aa,Ab,Ac];rfl)
  try simp only[Al,Ad,Ae,Af]
  refine AI u3 rfl 9 (.tmp 13) (.tmp 9) rfl (w.heap.size) 2 31 _ K4.out.1 rfl (.string _) rfl (by simp[opC]) Tryz.sizeStr18 rfl rfl ?_
  intro u5 hb hc hs
  generalize hxs:(opC ⟨k0,u0,s0,t0,g0,w0,b0⟩ tco:List Value).set 2 _=xs3 at hb
  obtain⟨s1,hx1⟩:∃ s1,xs3=opC ⟨k0,u0,s1,t0,g0,w0,b0⟩ tco:=⟨_,by rw[←hxs];exact Iz _ _ _ _ _ _ _ _ _⟩
  subst hx1
  have K6:=Ag (show Blk u5 (w.heap.size) 31 (opC ⟨k0,u0,s1,t0,g0,w0,b0⟩ tco)∧Below w.heap.size w u5∧Blk u5 (a1.heap.size) 31 (opC ⟨0,0,⟨#[]⟩,0,0,false,tm0⟩ (tmC 0 0 0 ⟨#[]⟩ (.slice none 0 0)))∧a2.heap.size≤u5.heap.size∧TmC (a2.heap.size≤·) u5 tcn tn from⟨hb,(Aw K4.out.2.1 hc (Ah _) (fun k hk=> by have e:=(show _=_ from hk);have:=HG.out;omega)),K4.out.2.2.1.keep hc (fun e=> absurd (show _=_ from e) (by have:=HG.out;omega)),(Aj K4.out.2.2.2.1 hc.size),(TmC.keep' hc (fun i hi e=> by have e:=(show _=_ from e);have h1:a2.heap.size≤i:=hi;have h2:=HG.out;omega) (fun _ h=> h) _ _ K4.out.2.2.2.2)⟩)
  clear hb hc hs hxs
  refine QK.normal ⟨fun h=> absurd h (by decide),?_⟩
  refine AL (by kernel_rfl) AG (fuel:=1) (fun h=> absurd h (by decide)) 12 (by kernel_rfl) ?_
  refine' AK.run ?_ ?_ ?_ ?_;rotate_left 2;(simp only[Aa,Ab,Ac];rfl);rfl;(rintro w' -;go_simp;with_reducible rfl);simp only[Al,Ad,Ae,Af]
  refine' AE 13 (by kernel_rfl) ?_ ?_;rotate_left;(simp only[Aa,Ab,Ac];rfl)
  try simp only[Al,Ad,Ae,Af]
  refine Be u5 rfl 29 (.tmp 14) (.tmp 12) rfl (w.heap.size) 6 31 _ (tcn) (opC ⟨k0,u0,s1,t0,g0,w0,b0⟩ tcn) K6.out.1 rfl rfl (by rw[HTN.out];simp[opC,HTL.out]) (At Tryz.infoTm HTN.out) HTO.out (IA _ _ _ (HTN.out.trans HTL.out.symm)) ?_
  intro u7 hb hc hs
  have K8:=Ag (show Blk u7 (w.heap.size) 31 (opC ⟨k0,u0,s1,t0,g0,w0,b0⟩ tcn)∧Below w.heap.size w u7∧Blk u7 (a1.heap.size) 31 (opC ⟨0,0,⟨#[]⟩,0,0,false,tm0⟩ (tmC 0 0 0 ⟨#[]⟩ (.slice none 0 0)))∧a2.heap.size≤u7.heap.size∧TmC (a2.heap.size≤·) u7 tcn tn from⟨hb,(Aw K6.out.2.1 hc (Ah _) (fun k hk=> by have e:=(show _=_ from hk);have:=HG.out;omega)),K6.out.2.2.1.keep hc (fun e=> absurd (show _=_ from e) (by have:=HG.out;omega)),(Aj K6.out.2.2.2.1 hc.size),(TmC.keep' hc (fun i hi e=> by have e:=(show _=_ from e);have h1:a2.heap.size≤i:=hi;have h2:=HG.out;omega) (fun _ h=> h) _ _ K6.out.2.2.2.2)⟩)
  clear hb hc hs
  refine QK.normal ⟨fun h=> absurd h (by decide),?_⟩
  refine Bd (by kernel_rfl) ?_ _
  refine NoPanic.normal ?_
  have HOL:=Ag (show(opC ⟨k0,u0,s1,t0,g0,w0,b0⟩ tcn).length=11 from by simp[opC,HTN.out])
  have HOZ:=Ag (show(opC ⟨k0,u0,s1,t0,g0,w0,b0⟩ tcn).length=(opC ⟨0,0,⟨#[]⟩,0,0,false,tm0⟩ (tmC 0 0 0 ⟨#[]⟩ (.slice none 0 0))).length from by simp[opC,HTN.out,tmC])
  go_wp2_with (first
  | (with_reducible refine Ap rfl 31 (.tmp 1) rfl (w.heap.size) 0 rfl (opC ⟨k0,u0,s1,t0,g0,w0,b0⟩ tcn) _ (As K8.out.1) Tryz.underlying31 rfl (At Tryz.infoOp HOL.out) ?_)
  | ((with_reducible refine Ao u7 rfl 31 (.tmp 2) (.tmp 15) rfl (a1.heap.size) 31 (opC ⟨0,0,⟨#[]⟩,0,0,false,tm0⟩ (tmC 0 0 0 ⟨#[]⟩ (.slice none 0 0))) (opC ⟨k0,u0,s1,t0,g0,w0,b0⟩ tcn) K8.out.2.2.1 rfl rfl HOZ.out (At Tryz.infoOp HOL.out) (F2 HTO.out) ?_);intro y3 hb hc hs;have HY3:=Ag (show Blk y3 (a1.heap.size) 31 (opC ⟨k0,u0,s1,t0,g0,w0,b0⟩ tcn)∧TmC (a2.heap.size≤·) y3 tcn tn∧Below w.heap.size w y3 from⟨hb,(TmC.keep' hc (fun i hi e=> by have e:=(show _=_ from e);have h1:a2.heap.size≤i:=hi;have h2:=HG.out;omega) (fun _ h=> h) _ _ K8.out.2.2.2.2),(Aw K8.out.2.1 hc (Ah _) (fun k hk=> by have e:=(show _=_ from hk);have:=HG.out;omega))⟩);clear hb hc hs))
  refine bodyPost_ret (AA Tryz.results8 _ _ (a1.heap.size) _ _ rfl HY3.out.1 _ Tryz.underlying31 rfl (At Tryz.infoOp HOL.out)) rfl ?_
  exact⟨_,⟨k0,u0,s1,t0,g0,w0,tn⟩,rfl,⟨tcn,rfl,HY3.out.2.1.mono fun i hi=> by have h1:a2.heap.size≤i:=hi;have h2:=HG.out;show w.heap.size≤i;omega⟩,HY3.out.2.2⟩
 ·skip
  have hz1:(s0.size:Int)≤25:=by omega
  have hz2:¬ ((25:Int)<(s0.size:Int)):=by omega
  have hz3:(0:Int)≤(s0.size:Int):=by omega
  have hz4:(s0.size:Int)≤(s0.size:Int):=by omega
  go_enter Tryz.func8,Tryz.ntmps8
  go_upto_region 1 with(first
  | ((with_reducible refine Au w rfl 31 (.tmp 0) rfl (opC ⟨k0,u0,s0,t0,g0,w0,b0⟩ tco) rfl ?_);intro a1 hb hbel hsz;have H1:=hJ2 hb hbel;clear hb hbel hsz)
  | ((with_reducible refine Av a1 rfl 31 rfl (opC ⟨0,0,⟨#[]⟩,0,0,false,tm0⟩ (tmC 0 0 0 ⟨#[]⟩ (.slice none 0 0))) Tryz.zeroOp ?_);intro a2 hb hbel hsz;have H2:=hJ3 (H1.out.1.below hbel H1.out.1.lt) (An H1.out.2 hbel (Ah _)) hb;have HG:=hJ2 H1.out.1.lt hb.lt;clear hb hbel hsz))
  try simp only[Al,Ad,Ae,Af]
  have H2b:=Ag (show Blk a2 (w.heap.size) 31 (opC ⟨k0,u0,s0,t0,g0,w0,b0⟩ tco)∧Below w.heap.size w a2∧Blk a2 (a1.heap.size) 31 (opC ⟨0,0,⟨#[]⟩,0,0,false,tm0⟩ (tmC 0 0 0 ⟨#[]⟩ (.slice none 0 0)))∧a2.heap.size≤a2.heap.size from⟨H2.out.1,H2.out.2.1,H2.out.2.2,Ah _⟩)
  clear H1 H2
  go_wp2_with fail
  refine A2 (fun W=> W.cell? ⟨w.heap.size,2,none⟩=some (.string s0)∧W.rangeAt w.heap.size 6 tco) 11 [0,1,2,3,4,5,6,7,8] 5 (by kernel_rfl) rfl (by kernel_rfl) (by kernel_rfl) ⟨H2b.out.1.cell 2,Da H2b.out.1⟩ ?_
  iterate 9(refine' AK.run ?_ ?_ ?_ ?_;rotate_left 2;(simp only[Aa,Ab,Ac];rfl);rfl;(rintro w' ⟨k0,k1⟩;first|exact AB rfl rfl k1 Tryz.underlying29 rfl (At Tryz.infoTm HTL.out)|(go_simp;with_reducible rfl)|(go_simp;simp only[if_neg (show ¬ (25:Int)<(s0.size:Int) by omega),show(0:Int)≤(s0.size:Int) by omega,Int.le_refl,and_self,if_true];rfl));simp only[Al,Ad,Ae,Af])
  have sm:=(Sm.refl a2).drew
  have HV10:=hJ4 (H2b.out.1.below (sm.below _) H2b.out.1.lt) (An H2b.out.2.1 (sm.below _) (Ah _)) (H2b.out.2.2.1.below (sm.below _) H2b.out.2.2.1.lt) (Aj H2b.out.2.2.2 (sm.below 0).size)
  clear sm
  generalize a2.drew=v9 at HV10 ⊢
  refine AL (by kernel_rfl) AG (fuel:=4) (fun _=> ⟨HV10.out.1.cell 2,Da HV10.out.1⟩) 10 (by kernel_rfl) ?_
  refine' AK.run ?_ ?_ ?_ ?_;rotate_left 2;(simp only[Aa,Ab,Ac];rfl);rfl;(rintro w' -;go_simp;with_reducible rfl);simp only[Al,Ad,Ae,Af]
  refine' AE 9 (by kernel_rfl) ?_ ?_;rotate_left;(simp only[Aa,Ab,Ac];rfl)
  try simp only[Al,Ad,Ae,Af]
  go_wp2_with fail
  refine(Eh 6 (by omega) b0 tco F v9 (HT.out.below HV10.out.2.1)).mono ?_
  rintro e' u11 ⟨tcn,tn,rfl,ht,hb⟩
  have K12:=Ag (show Blk u11 (w.heap.size) 31 (opC ⟨k0,u0,s0,t0,g0,w0,b0⟩ tco)∧Below w.heap.size w u11∧Blk u11 (a1.heap.size) 31 (opC ⟨0,0,⟨#[]⟩,0,0,false,tm0⟩ (tmC 0 0 0 ⟨#[]⟩ (.slice none 0 0)))∧a2.heap.size≤u11.heap.size∧TmC (a2.heap.size≤·) u11 tcn tn from⟨HV10.out.1.below hb HV10.out.1.lt,(An HV10.out.2.1 hb (Ah _)),HV10.out.2.2.1.below hb HV10.out.2.2.1.lt,(Aj HV10.out.2.2.2 hb.size),(ht.mono fun i hi=> Aj HV10.out.2.2.2 hi)⟩)
  have HTN:=Ag ht.len
  have HTO:=Ag ht.one
  clear ht hb
  go_wp2_with fail
  refine QK.normal ⟨fun _=> ⟨K12.out.1.cell 2,Da K12.out.1⟩,?_⟩
  refine' AE 11 (by kernel_rfl) ?_ ?_;rotate_left;(simp only[Aa,Ab,Ac];rfl)
  try simp only[Al,Ad,Ae,Af]
  refine AI u11 rfl 9 (.tmp 13) (.tmp 9) rfl (w.heap.size) 2 31 _ K12.out.1 rfl (.string _) rfl (by simp[opC]) Tryz.sizeStr18 rfl rfl ?_
  intro u13 hb hc hs
  generalize hxs:(opC ⟨k0,u0,s0,t0,g0,w0,b0⟩ tco:List Value).set 2 _=xs3 at hb
  obtain⟨s1,hx1⟩:∃ s1,xs3=opC ⟨k0,u0,s1,t0,g0,w0,b0⟩ tco:=⟨_,by rw[←hxs];exact Iz _ _ _ _ _ _ _ _ _⟩
  subst hx1
  have K14:=Ag (show Blk u13 (w.heap.size) 31 (opC ⟨k0,u0,s1,t0,g0,w0,b0⟩ tco)∧Below w.heap.size w u13∧Blk u13 (a1.heap.size) 31 (opC ⟨0,0,⟨#[]⟩,0,0,false,tm0⟩ (tmC 0 0 0 ⟨#[]⟩ (.slice none 0 0)))∧a2.heap.size≤u13.heap.size∧TmC (a2.heap.size≤·) u13 tcn tn from⟨hb,(Aw K12.out.2.1 hc (Ah _) (fun k hk=> by have e:=(show _=_ from hk);have:=HG.out;omega)),K12.out.2.2.1.keep hc (fun e=> absurd (show _=_ from e) (by have:=HG.out;omega)),(Aj K12.out.2.2.2.1 hc.size),(TmC.keep' hc (fun i hi e=> by have e:=(show _=_ from e);have h1:a2.heap.size≤i:=hi;have h2:=HG.out;omega) (fun _ h=> h) _ _ K12.out.2.2.2.2)⟩)
  clear hb hc hs hxs
  refine QK.normal ⟨fun h=> absurd h (by decide),?_⟩
  refine AL (by kernel_rfl) AG (fuel:=1) (fun h=> absurd h (by decide)) 12 (by kernel_rfl) ?_
  refine' AK.run ?_ ?_ ?_ ?_;rotate_left 2;(simp only[Aa,Ab,Ac];rfl);rfl;(rintro w' -;go_simp;with_reducible rfl);simp only[Al,Ad,Ae,Af]
  refine' AE 13 (by kernel_rfl) ?_ ?_;rotate_left;(simp only[Aa,Ab,Ac];rfl)
  try simp only[Al,Ad,Ae,Af]
  refine Be u13 rfl 29 (.tmp 14) (.tmp 12) rfl (w.heap.size) 6 31 _ (tcn) (opC ⟨k0,u0,s1,t0,g0,w0,b0⟩ tcn) K14.out.1 rfl rfl (by rw[HTN.out];simp[opC,HTL.out]) (At Tryz.infoTm HTN.out) HTO.out (IA _ _ _ (HTN.out.trans HTL.out.symm)) ?_
  intro u15 hb hc hs
  have K16:=Ag (show Blk u15 (w.heap.size) 31 (opC ⟨k0,u0,s1,t0,g0,w0,b0⟩ tcn)∧Below w.heap.size w u15∧Blk u15 (a1.heap.size) 31 (opC ⟨0,0,⟨#[]⟩,0,0,false,tm0⟩ (tmC 0 0 0 ⟨#[]⟩ (.slice none 0 0)))∧a2.heap.size≤u15.heap.size∧TmC (a2.heap.size≤·) u15 tcn tn from⟨hb,(Aw K14.out.2.1 hc (Ah _) (fun k hk=> by have e:=(show _=_ from hk);have:=HG.out;omega)),K14.out.2.2.1.keep hc (fun e=> absurd (show _=_ from e) (by have:=HG.out;omega)),(Aj K14.out.2.2.2.1 hc.size),(TmC.keep' hc (fun i hi e=> by have e:=(show _=_ from e);have h1:a2.heap.size≤i:=hi;have h2:=HG.out;omega) (fun _ h=> h) _ _ K14.out.2.2.2.2)⟩)
  clear hb hc hs
  refine QK.normal ⟨fun h=> absurd h (by decide),?_⟩
  refine Bd (by kernel_rfl) ?_ _
  refine NoPanic.normal ?_
  have HOL:=Ag (show(opC ⟨k0,u0,s1,t0,g0,w0,b0⟩ tcn).length=11 from by simp[opC,HTN.out])
  have HOZ:=Ag (show(opC ⟨k0,u0,s1,t0,g0,w0,b0⟩ tcn).length=(opC ⟨0,0,⟨#[]⟩,0,0,false,tm0⟩ (tmC 0 0 0 ⟨#[]⟩ (.slice none 0 0))).length from by simp[opC,HTN.out,tmC])
  go_wp2_with (first
  | (with_reducible refine Ap rfl 31 (.tmp 1) rfl (w.heap.size) 0 rfl (opC ⟨k0,u0,s1,t0,g0,w0,b0⟩ tcn) _ (As K16.out.1) Tryz.underlying31 rfl (At Tryz.infoOp HOL.out) ?_)
  | ((with_reducible refine Ao u15 rfl 31 (.tmp 2) (.tmp 15) rfl (a1.heap.size) 31 (opC ⟨0,0,⟨#[]⟩,0,0,false,tm0⟩ (tmC 0 0 0 ⟨#[]⟩ (.slice none 0 0))) (opC ⟨k0,u0,s1,t0,g0,w0,b0⟩ tcn) K16.out.2.2.1 rfl rfl HOZ.out (At Tryz.infoOp HOL.out) (F2 HTO.out) ?_);intro y3 hb hc hs;have HY3:=Ag (show Blk y3 (a1.heap.size) 31 (opC ⟨k0,u0,s1,t0,g0,w0,b0⟩ tcn)∧TmC (a2.heap.size≤·) y3 tcn tn∧Below w.heap.size w y3 from⟨hb,(TmC.keep' hc (fun i hi e=> by have e:=(show _=_ from e);have h1:a2.heap.size≤i:=hi;have h2:=HG.out;omega) (fun _ h=> h) _ _ K16.out.2.2.2.2),(Aw K16.out.2.1 hc (Ah _) (fun k hk=> by have e:=(show _=_ from hk);have:=HG.out;omega))⟩);clear hb hc hs))
  refine bodyPost_ret (AA Tryz.results8 _ _ (a1.heap.size) _ _ rfl HY3.out.1 _ Tryz.underlying31 rfl (At Tryz.infoOp HOL.out)) rfl ?_
  exact⟨_,⟨k0,u0,s1,t0,g0,w0,tn⟩,rfl,⟨tcn,rfl,HY3.out.2.1.mono fun i hi=> by have h1:a2.heap.size≤i:=hi;have h2:=HG.out;show w.heap.size≤i;omega⟩,HY3.out.2.2⟩
theorem KX (a b:ByteArray) (o pe:Int) (vr vq vg:Value) (v e u:Int) (tc:List Value):(flC a o pe vr vq vg v e u tc).set 0 (.string b)=flC b o pe vr vq vg v e u tc:=rfl
theorem KY (a b:ByteArray) (v e u:Int) (tc:List Value):(wrC a v e u tc).set 0 (.string b)=wrC b v e u tc:=rfl
def Mid (lo hi k:Nat):Prop:=lo≤k∧k<hi
section
variable {α:Type} {C:(Nat→Prop)→World→List Value→α→Prop}
theorem OwR.mid {sz N:Nat} {ty:TypeId} (hK:Ep C) {w:World} {v:Value} {l:List α} (h:OwR (C (FH N v w)) sz ty N w v l):RwC (C (Mid N w.heap.size)) sz (Mid N w.heap.size) w v l:=
 h.rwc.mono (fun k hk=> h.lt k hk) (fun cs a _ hc=> hK hc (Ch.refl (fun _=> False) w) (fun _ _ e=> e) fun k hk=> ⟨hk.2.1,hk.2.2⟩)
theorem RwC.midB {sz lo hi:Nat} (hK:Ep C) {w w':World} {v:Value} {l:List α} (h:RwC (C (Mid lo hi)) sz (Mid lo hi) w v l) (hb:Below w.heap.size w w'):RwC (C (Mid lo hi)) sz (Mid lo hi) w' v l:=
 RwC.keep' h (Ch.of_below (S:=fun _=> False) hb (Ah _)) (fun _ _ e=> e) (fun _ h=> h) fun cs a _ hc=> hK hc (Ch.of_below (S:=fun _=> False) hb (Ah _)) (fun _ _ e=> e) (fun _ h=> h)
theorem RwC.midS {sz lo hi:Nat} {S:Nat→Prop} (hK:Ep C) {w w':World} {v:Value} {l:List α} (h:RwC (C (Mid lo hi)) sz (Mid lo hi) w v l) (hc:Ch S w w') (hS:∀ k,S k→k<lo∨hi≤k):RwC (C (Mid lo hi)) sz (Mid lo hi) w' v l:=by
 have hn:∀ k,Mid lo hi k→¬ S k:=fun k hk e=> by
  rcases hS k e with h|h
  ·exact absurd hk.1 (by omega)
  ·exact absurd hk.2 (by omega)
 exact RwC.keep' h hc hn (fun _ h=> h) fun cs a _ hc'=> hK hc' hc hn (fun _ h=> h)
end
theorem SlI.mono' {a b:Nat} {w:World} {v:Value} {l:List Int} (h:SlI (b≤·) w v l) (hab:a≤b):SlI (a≤·) w v l:=⟨h.1,fun k h0 hk=> Aj hab (h.2 k h0 hk)⟩
theorem Tryz.sizeSf18:(Tryz.prog.info? 22).map (·.size)=some 1:=by kernel_rfl
theorem Tryz.sizeSc18:(Tryz.prog.info? 23).map (·.size)=some 1:=by kernel_rfl
theorem Tryz.sizeSw18:(Tryz.prog.info? 24).map (·.size)=some 1:=by kernel_rfl
theorem Tryz.buildcius (x y:Int) (ua:Option Addr) (un uc:Nat):∀ w,(Instr.build 49 #[(0,.int .i64 x),(1,.int .i64 y),(2,.slice ua un uc)]).run Tryz.prog w=.ok (.agg (ciC x y (.slice ua un uc)).toArray) w:=fun w=> by kernel_rfl
theorem EX {ops:Array Oper} {rest:List Oper} {op:Oper} {a:Act} {w:World} {Q:Exit→Act→World→Prop} (hgd:op.guard=none) (x0 x1 x2:Operand) (ho:op.op=.build 49 #[(0,x0),(1,x1),(2,x2)])
  (x y:Int) (ua:Option Addr) (un uc:Nat) (h0:a.eval x0=.int .i64 x) (h1:a.eval x1=.int .i64 y) (h2:a.eval x2=.slice ua un uc)
  (h:wpList Tryz.prog ops Q rest (a.put op.dst (.agg (ciC x y (.slice ua un uc)).toArray)) w):wpList Tryz.prog ops Q (op::rest) a w:=by
 refine wpList_plain hgd fun K hK=> ?_
 have hrun:(execOp a.eval op).run Tryz.prog w=.ok (.value (.agg (ciC x y (.slice ua un uc)).toArray)) w:=by
  unfold execOp
  simp only[ho]
  rw[show((#[((0:Nat),x0),(1,x1),(2,x2)]:Array (Nat × Operand)).map fun (i,x)=> (i,a.eval x))=#[(0,.int .i64 x),(1,.int .i64 y),(2,.slice ua un uc)] by simp[h0,h1,h2]]
  simp[Tryz.buildcius,Result.andThen]
 unfold Oper.wp
 rw[hrun]
 exact hK _ _ h
theorem Kj (s:IdM) (cs:List Value) (F:Nat→Prop) (w:World) (hs:IdC F w cs s):Calls Tryz.prog 7 #[.agg cs.toArray] w (fun e w'=> ∃ cs' s',e=.returned (.agg cs'.toArray)∧IdC (w.heap.size≤·) w' cs' s'∧s'.fs.length≤7∧s'.cs.length≤6∧s'.ws.length≤401∧Below w.heap.size w w'):=by
 obtain⟨vf,vc,vw,rfl,hf,hc,hw⟩:=hs
 obtain⟨af,cf,rfl,hf1,hf2⟩:=hf.shape
 obtain⟨ac,cc,rfl,hc1,hc2⟩:=hc.shape
 obtain⟨aw,cw,rfl,hw1,hw2⟩:=hw.shape
 obtain⟨fs,cl,ws⟩:=s
 simp only at hf hc hw hf1 hc1 hw1
 obtain⟨fn,hfn⟩:∃ m,fs.length=m:=⟨_,rfl⟩
 obtain⟨cn,hcn⟩:∃ m,cl.length=m:=⟨_,rfl⟩
 obtain⟨wn,hwn⟩:∃ m,ws.length=m:=⟨_,rfl⟩
 have HN:=Ag (Ai hfn (Ai hcn hwn))
 rw[hfn] at hf hf1 ⊢
 rw[hcn] at hc hc1 ⊢
 rw[hwn] at hw hw1 ⊢
 have hfn63:fn≤9223372036854775807:=by unfold maxLen at hf2;have:=hf1;omega
 have hcn63:cn≤9223372036854775807:=by unfold maxLen at hc2;have:=hc1;omega
 have hwn63:wn≤9223372036854775807:=by unfold maxLen at hw2;have:=hw1;omega
 have HF:=Ag hf
 have HC:=Ag hc
 have HW:=Ag hw
 clear hf hc hw hf1 hf2 hc1 hc2 hw1 hw2 hfn hcn hwn
 go_enter Tryz.func7,Tryz.ntmps7
 go_upto_block 0 with(first
  | ((with_reducible refine Au w rfl 26 (.tmp 0) rfl ([.slice af fn cf,.slice ac cn cc,.slice aw wn cw]) rfl ?_);intro a1 hb hbel hsz;have H1:=hJ2 hb hbel;clear hb hbel hsz)
  | ((with_reducible refine Av a1 rfl 26 rfl ([(.slice none 0 0),(.slice none 0 0),(.slice none 0 0)]) Tryz.zeroId3b ?_);intro a2 hb hbel hsz;have H2:=hJ3 (H1.out.1.below hbel H1.out.1.lt) (An H1.out.2 hbel (Ah _)) hb;clear hb hbel hsz)
  | ((with_reducible refine Av a2 rfl 26 rfl ([(.slice none 0 0),(.slice none 0 0),(.slice none 0 0)]) Tryz.zeroId3b ?_);intro a3 hb hbel hsz;have H3:=hJ4 (H2.out.1.below hbel H2.out.1.lt) (An H2.out.2.1 hbel (Ah _)) (H2.out.2.2.below hbel H2.out.2.2.lt) hb;have HG:=hJ3 H1.out.1.lt H2.out.2.2.lt hb.lt;have c0:=H3.out.1.cell 0;simp only[Ab,Ac] at c0;clear hb hbel hsz))
 try simp only[Al,Ad,Ae,Af]
 have H0:=Ag (show Blk a3 (w.heap.size) 26 ([.slice af fn cf,.slice ac cn cc,.slice aw wn cw])∧Blk a3 (a1.heap.size) 26 ([(.slice none 0 0),(.slice none 0 0),(.slice none 0 0)])∧Blk a3 (a2.heap.size) 26 ([(.slice none 0 0),(.slice none 0 0),(.slice none 0 0)])∧OwR (FlC (FH a3.heap.size (.slice none 0 0) a3)) 14 45 a3.heap.size a3 (.slice none 0 0) ([])∧a3.heap.size≤a3.heap.size∧Below w.heap.size w a3 from⟨H3.out.1,H3.out.2.2.1,H3.out.2.2.2,OwR.nil,Ah _,H3.out.2.1⟩)
 clear H1 H2 H3
 go_cut [] from 4 to 57 (fun wc=> ∃ (v1:Value) (l1:List FileM) (n2:Nat),Hid (l1.length≤7∧a3.heap.size≤n2∧n2=wc.heap.size)∧Hid (Blk wc (w.heap.size) 26 ([.slice af fn cf,.slice ac cn cc,.slice aw wn cw])∧Blk wc (a1.heap.size) 26 ([(.slice none 0 0),(.slice none 0 0),(.slice none 0 0)])∧Blk wc (a2.heap.size) 26 ([v1,(.slice none 0 0),(.slice none 0 0)])∧RwC (FlC (Mid a3.heap.size n2)) 14 (Mid a3.heap.size n2) wc v1 l1∧Below w.heap.size w wc))
 case first=>
  go_wp2_with fail
  clear c0
  go_loopw [13] (fun s13 wr=> ∃ (j:Nat) (l:List FileM) (oz:Option Addr) (pz:Nat),s13=.int .i64 j∧j≤fn∧Hid (l.length≤j∧l.length≤7)∧Hid (Blk wr (w.heap.size) 26 ([.slice af fn cf,.slice ac cn cc,.slice aw wn cw])∧Blk wr (a1.heap.size) 26 ([(.slice none 0 0),(.slice none 0 0),(.slice none 0 0)])∧Blk wr (a2.heap.size) 26 ([(.slice oz l.length pz),(.slice none 0 0),(.slice none 0 0)])∧OwR (FlC (FH a3.heap.size (.slice oz l.length pz) wr)) 14 45 a3.heap.size wr (.slice oz l.length pz) (l)∧a3.heap.size≤wr.heap.size∧Below w.heap.size w wr)) (fun s13 _=> fn - (intOf s13).toNat)
  case atStart=> exact⟨0,[],none,0,rfl,Nat.zero_le _,Ag ⟨Ah _,by simp⟩,H0⟩
  case round=>
   clear H0
   obtain⟨j,l,oz,pz,rfl,hj,HT,HO⟩:=hrel
   by_cases hlt:j<fn
   ·skip
    have hjl:j<fs.length:=by rw[HN.out.1];exact hlt
    have hjz:(j:Int)<(fn:Int):=by omega
    have hj0:(0:Int)≤(j:Int):=by omega
    obtain⟨b,o,xcs,rfl,-,-,hlen,hra,hxc⟩:=HF.out.get (by exact hjl)
    generalize hx:fs[j]=x at hxc
    have HXO:=Ag hxc.one
    obtain⟨vr,vq,vg,tc,rfl,hpm,htm⟩:=hxc
    have HPM:=Ag hpm
    have HTM:=Ag htm
    have HTL:=Ag htm.len
    have HZL:=Ag (show(flC x.nm x.p.o x.p.e vr vq vg x.v x.e x.u tc).length=(flC ⟨#[]⟩ 0 0 (.slice none 0 0) (.slice none 0 0) (.slice none 0 0) 0 0 0 (tmC 0 0 0 ⟨#[]⟩ (.slice none 0 0))).length from hlen)
    have HRA:=Ag (Ai (show wr.rangeAt b (o+j* 14) (flC x.nm x.p.o x.p.e vr vq vg x.v x.e x.u tc) from fun i z hz=> (HO.out.2.2.2.2.2.cell (Am (hra i z hz))).trans (hra i z hz)) hlen)
    clear hra hlen hx hjl hpm htm
    go_upto_region 5 with(first
  | (with_reducible refine Ap rfl 45 (.tmp 16) rfl b (o+j* 14) rfl (flC x.nm x.p.o x.p.e vr vq vg x.v x.e x.u tc) _ HRA.out.1 Tryz.underlying45 rfl (At Tryz.infoFl HRA.out.2) ?_)
  | ((with_reducible refine Av wr rfl 45 rfl (flC ⟨#[]⟩ 0 0 (.slice none 0 0) (.slice none 0 0) (.slice none 0 0) 0 0 0 (tmC 0 0 0 ⟨#[]⟩ (.slice none 0 0))) Tryz.zeroFl14 ?_);intro x2 hb hbel hsz;have HX2:=hJ2 hbel hb;clear hb hbel hsz)
  | ((with_reducible refine Ao x2 rfl 45 (.tmp 5) (.tmp 17) rfl (wr.heap.size) 45 (flC ⟨#[]⟩ 0 0 (.slice none 0 0) (.slice none 0 0) (.slice none 0 0) 0 0 0 (tmC 0 0 0 ⟨#[]⟩ (.slice none 0 0))) (flC x.nm x.p.o x.p.e vr vq vg x.v x.e x.u tc) HX2.out.2 rfl rfl HZL.out (At Tryz.infoFl HRA.out.2) HXO.out ?_);intro x3 hb hc hs;have HX3:=Ag (show Below wr.heap.size wr x3∧Blk x3 (wr.heap.size) 45 (flC x.nm x.p.o x.p.e vr vq vg x.v x.e x.u tc)∧x3.heap.size≤x3.heap.size from⟨Aw HX2.out.1 hc (Ah _) (fun k hk=> by have e:=(show _=_ from hk);omega),hb,Ah _⟩);have HGX:=Ag (show wr.heap.size<x3.heap.size from hb.lt);clear hb hc hs))
    try simp only[Al,Ad,Ae,Af]
    by_cases hj6:6<j
    ·have h6:(6:Int)<(j:Int):=by omega
     go_wp2_with fail
     go_meet
     case rel=> exact⟨(.slice oz l.length pz),l,x3.heap.size,Ag ⟨HT.out.2,(Aj HO.out.2.2.2.2.1 HX3.out.1.size),rfl⟩,Ag ⟨HO.out.1.below HX3.out.1 HO.out.1.lt,HO.out.2.1.below HX3.out.1 HO.out.2.1.lt,HO.out.2.2.1.below HX3.out.1 HO.out.2.2.1.lt,(HO.out.2.2.2.1.fhQ @CJ HX3.out.1).mid @CJ,(An HO.out.2.2.2.2.2 HX3.out.1 (Ah _))⟩⟩
    have h6:¬ (6:Int)<(j:Int):=by omega
    obtain⟨mm,hmm⟩:∃ mm:Nat,(if (25:Int)<(x.nm.size:Int) then (25:Int) else (x.nm.size:Int))=(mm:Int):=by
     by_cases h:(25:Int)<(x.nm.size:Int)
     ·exact⟨25,by rw[if_pos h];rfl⟩
     ·exact⟨x.nm.size,by rw[if_neg h]⟩
    have hm0:(0:Int)≤(mm:Int):=by omega
    have hm1:(mm:Int)≤(x.nm.size:Int):=by
     rw[←hmm]
     by_cases h:(25:Int)<(x.nm.size:Int)
     ·rw[if_pos h];omega
     ·rw[if_neg h];omega
    have c0:=HX3.out.2.1.cell 0
    simp only[flC,Ab] at c0
    have HL0:=Ag (show 0<(flC x.nm x.p.o x.p.e vr vq vg x.v x.e x.u tc:List Value).length from by simp[flC])
    go_upto_region 7 with(first
  | ((with_reducible refine AI x3 rfl 9 (.tmp 27) (.tmp 26) rfl (wr.heap.size) 0 45 _ HX3.out.2.1 rfl (.string _) rfl HL0.out Tryz.sizeStr18 rfl rfl ?_);intro x4 hb hc hs;clear c0))
    try simp only[Al,Ad,Ae,Af]
    generalize hxs:(flC x.nm x.p.o x.p.e vr vq vg x.v x.e x.u tc:List Value).set 0 _=xs3 at hb
    obtain⟨s1,hx1⟩:∃ s1,xs3=flC s1 x.p.o x.p.e vr vq vg x.v x.e x.u tc:=⟨_,by rw[←hxs];exact KX _ _ _ _ _ _ _ _ _ _ _⟩
    subst hx1
    have HX4:=Ag (show Below wr.heap.size wr x4∧Blk x4 (wr.heap.size) 45 (flC s1 x.p.o x.p.e vr vq vg x.v x.e x.u tc)∧x3.heap.size≤x4.heap.size from⟨(Aw HX3.out.1 hc (Ah _) (fun k hk=> by have e:=(show _=_ from hk);omega)),hb,(Aj HX3.out.2.2 hc.size)⟩)
    clear hb hc hs hxs hmm hm0 hm1
    go_wp2_with fail
    refine A2 (fun W=> W.cell? ⟨wr.heap.size,3,none⟩=some vr∧W.cell? ⟨wr.heap.size,4,none⟩=some vq∧W.cell? ⟨wr.heap.size,5,none⟩=some vg) 14 [0,1,2,4,5,6,8,9,10] 12 (by kernel_rfl) rfl (by kernel_rfl) (by kernel_rfl) ⟨HX4.out.2.1.cell 3,HX4.out.2.1.cell 4,HX4.out.2.1.cell 5⟩ ?_
    iterate 9(refine' AK.run ?_ ?_ ?_ ?_;rotate_left 2;(simp only[Aa,Ab,Ac];rfl);rfl;(rintro w' ⟨k0,k1,k2⟩;go_simp;with_reducible rfl);simp only[Al,Ad,Ae,Af])
    have sm:=(Sm.refl x4).drew
    have HV2:=Ag (show Below wr.heap.size wr x4.drew∧Blk x4.drew (wr.heap.size) 45 (flC s1 x.p.o x.p.e vr vq vg x.v x.e x.u tc)∧x3.heap.size≤x4.drew.heap.size from⟨(An HX4.out.1 (sm.below _) (Ah _)),HX4.out.2.1.below (sm.below _) HX4.out.2.1.lt,(Aj HX4.out.2.2 (sm.below 0).size)⟩)
    clear sm
    generalize x4.drew=v1 at HV2 ⊢
    refine' AE 3 (by kernel_rfl) ?_ ?_;rotate_left;(simp only[Aa,Ab,Ac];rfl)
    try simp only[Al,Ad,Ae,Af]
    go_wp2_with fail
    refine(EW vr (x.p.r) v1 (HPM.out.1.1.below (An HO.out.2.2.2.2.2 HV2.out.1 (Ah _)) (Ah _))).mono ?_
    rintro e' u3 ⟨ur,mr,rfl,-,hsl,hb⟩
    have K4:=Ag (show Below wr.heap.size wr u3∧Blk u3 (wr.heap.size) 45 (flC s1 x.p.o x.p.e vr vq vg x.v x.e x.u tc)∧x3.heap.size≤u3.heap.size∧SlI (x3.heap.size≤·) u3 ur mr from⟨(An HV2.out.1 hb (Ah _)),HV2.out.2.1.below hb HV2.out.2.1.lt,(Aj HV2.out.2.2 hb.size),(SlI.mono' hsl HV2.out.2.2)⟩)
    clear hsl hb
    go_wp2_with fail
    refine QK.normal ⟨fun _=> ⟨K4.out.2.1.cell 3,K4.out.2.1.cell 4,K4.out.2.1.cell 5⟩,?_⟩
    refine AL (by kernel_rfl) AG (fuel:=10) (fun _=> ⟨K4.out.2.1.cell 3,K4.out.2.1.cell 4,K4.out.2.1.cell 5⟩) 12 (by kernel_rfl) ?_
    refine' AK.run ?_ ?_ ?_ ?_;rotate_left 2;(simp only[Aa,Ab,Ac];rfl);rfl;(rintro w' -;go_simp;with_reducible rfl);simp only[Al,Ad,Ae,Af]
    refine AL (by kernel_rfl) AG (fuel:=9) (fun _=> ⟨K4.out.2.1.cell 3,K4.out.2.1.cell 4,K4.out.2.1.cell 5⟩) 13 (by kernel_rfl) ?_
    refine' AK.run ?_ ?_ ?_ ?_;rotate_left 2;(simp only[Aa,Ab,Ac];rfl);rfl;(rintro w' -;go_simp;with_reducible rfl);simp only[Al,Ad,Ae,Af]
    refine' AE 7 (by kernel_rfl) ?_ ?_;rotate_left;(simp only[Aa,Ab,Ac];rfl)
    try simp only[Al,Ad,Ae,Af]
    go_wp2_with fail
    refine(EW vq (x.p.q) u3 (HPM.out.2.1.1.below (An HO.out.2.2.2.2.2 K4.out.1 (Ah _)) (Ah _))).mono ?_
    rintro e' u5 ⟨uq,mq,rfl,-,hsl,hb⟩
    have K6:=Ag (show Below wr.heap.size wr u5∧Blk u5 (wr.heap.size) 45 (flC s1 x.p.o x.p.e vr vq vg x.v x.e x.u tc)∧x3.heap.size≤u5.heap.size∧SlI (x3.heap.size≤·) u5 ur mr∧SlI (x3.heap.size≤·) u5 uq mq from⟨(An K4.out.1 hb (Ah _)),K4.out.2.1.below hb K4.out.2.1.lt,(Aj K4.out.2.2.1 hb.size),(K4.out.2.2.2.below hb),(SlI.mono' hsl K4.out.2.2.1)⟩)
    clear hsl hb
    go_wp2_with fail
    refine QK.normal ⟨fun _=> ⟨K6.out.2.1.cell 3,K6.out.2.1.cell 4,K6.out.2.1.cell 5⟩,?_⟩
    refine' AE 11 (by kernel_rfl) ?_ ?_;rotate_left;(simp only[Aa,Ab,Ac];rfl)
    try simp only[Al,Ad,Ae,Af]
    go_wp2_with fail
    refine(EW vg (x.p.g) u5 (HPM.out.2.2.1.below (An HO.out.2.2.2.2.2 K6.out.1 (Ah _)) (Ah _))).mono ?_
    rintro e' u7 ⟨ug,mg,rfl,-,hsl,hb⟩
    have K8:=Ag (show Below wr.heap.size wr u7∧Blk u7 (wr.heap.size) 45 (flC s1 x.p.o x.p.e vr vq vg x.v x.e x.u tc)∧x3.heap.size≤u7.heap.size∧SlI (x3.heap.size≤·) u7 ur mr∧SlI (x3.heap.size≤·) u7 uq mq∧SlI (x3.heap.size≤·) u7 ug mg from⟨(An K6.out.1 hb (Ah _)),K6.out.2.1.below hb K6.out.2.1.lt,(Aj K6.out.2.2.1 hb.size),(K6.out.2.2.2.1.below hb),(K6.out.2.2.2.2.below hb),(SlI.mono' hsl K6.out.2.2.1)⟩)
    clear hsl hb
    go_wp2_with fail
    refine QK.normal ⟨fun _=> ⟨K8.out.2.1.cell 3,K8.out.2.1.cell 4,K8.out.2.1.cell 5⟩,?_⟩
    refine' AE 14 (by kernel_rfl) ?_ ?_;rotate_left;(simp only[Aa,Ab,Ac];rfl)
    try simp only[Al,Ad,Ae,Af]
    refine AI u7 rfl 40 (.tmp 41) (.tmp 31) rfl (wr.heap.size) 3 45 _ K8.out.2.1 rfl (ur) rfl (by simp[flC]) Tryz.sizeIs1 K8.out.2.2.2.1.one (B9 K8.out.2.2.2.1.one) ?_
    intro u9 hb hc hs
    have K10:=Ag (show Below wr.heap.size wr u9∧Blk u9 (wr.heap.size) 45 (flC s1 x.p.o x.p.e ur vq vg x.v x.e x.u tc)∧x3.heap.size≤u9.heap.size∧SlI (x3.heap.size≤·) u9 ur mr∧SlI (x3.heap.size≤·) u9 uq mq∧SlI (x3.heap.size≤·) u9 ug mg from⟨(Aw K8.out.1 hc (Ah _) (fun k hk=> by have e:=(show _=_ from hk);omega)),hb,(Aj K8.out.2.2.1 hc.size),(K8.out.2.2.2.1.keep' hc (fun i hi e=> by have e:=(show _=_ from e);have h1:x3.heap.size≤i:=hi;have h2:=HGX.out;omega) (fun _ h=> h)),(K8.out.2.2.2.2.1.keep' hc (fun i hi e=> by have e:=(show _=_ from e);have h1:x3.heap.size≤i:=hi;have h2:=HGX.out;omega) (fun _ h=> h)),(K8.out.2.2.2.2.2.keep' hc (fun i hi e=> by have e:=(show _=_ from e);have h1:x3.heap.size≤i:=hi;have h2:=HGX.out;omega) (fun _ h=> h))⟩)
    clear hb hc hs
    refine QK.normal ⟨fun h=> absurd h (by decide),?_⟩
    refine AL (by kernel_rfl) AG (fuel:=5) (fun h=> absurd h (by decide)) 15 (by kernel_rfl) ?_
    refine' AK.run ?_ ?_ ?_ ?_;rotate_left 2;(simp only[Aa,Ab,Ac];rfl);rfl;(rintro w' -;go_simp;with_reducible rfl);simp only[Al,Ad,Ae,Af]
    refine AL (by kernel_rfl) AG (fuel:=4) (fun h=> absurd h (by decide)) 16 (by kernel_rfl) ?_
    refine' AK.run ?_ ?_ ?_ ?_;rotate_left 2;(simp only[Aa,Ab,Ac];rfl);rfl;(rintro w' -;go_simp;with_reducible rfl);simp only[Al,Ad,Ae,Af]
    refine' AE 17 (by kernel_rfl) ?_ ?_;rotate_left;(simp only[Aa,Ab,Ac];rfl)
    try simp only[Al,Ad,Ae,Af]
    refine AI u9 rfl 40 (.tmp 43) (.tmp 35) rfl (wr.heap.size) 4 45 _ K10.out.2.1 rfl (uq) rfl (by simp[flC]) Tryz.sizeIs1 K10.out.2.2.2.2.1.one (B9 K10.out.2.2.2.2.1.one) ?_
    intro u11 hb hc hs
    have K12:=Ag (show Below wr.heap.size wr u11∧Blk u11 (wr.heap.size) 45 (flC s1 x.p.o x.p.e ur uq vg x.v x.e x.u tc)∧x3.heap.size≤u11.heap.size∧SlI (x3.heap.size≤·) u11 ur mr∧SlI (x3.heap.size≤·) u11 uq mq∧SlI (x3.heap.size≤·) u11 ug mg from⟨(Aw K10.out.1 hc (Ah _) (fun k hk=> by have e:=(show _=_ from hk);omega)),hb,(Aj K10.out.2.2.1 hc.size),(K10.out.2.2.2.1.keep' hc (fun i hi e=> by have e:=(show _=_ from e);have h1:x3.heap.size≤i:=hi;have h2:=HGX.out;omega) (fun _ h=> h)),(K10.out.2.2.2.2.1.keep' hc (fun i hi e=> by have e:=(show _=_ from e);have h1:x3.heap.size≤i:=hi;have h2:=HGX.out;omega) (fun _ h=> h)),(K10.out.2.2.2.2.2.keep' hc (fun i hi e=> by have e:=(show _=_ from e);have h1:x3.heap.size≤i:=hi;have h2:=HGX.out;omega) (fun _ h=> h))⟩)
    clear hb hc hs
    refine QK.normal ⟨fun h=> absurd h (by decide),?_⟩
    refine AL (by kernel_rfl) AG (fuel:=2) (fun h=> absurd h (by decide)) 18 (by kernel_rfl) ?_
    refine' AK.run ?_ ?_ ?_ ?_;rotate_left 2;(simp only[Aa,Ab,Ac];rfl);rfl;(rintro w' -;go_simp;with_reducible rfl);simp only[Al,Ad,Ae,Af]
    refine AL (by kernel_rfl) AG (fuel:=1) (fun h=> absurd h (by decide)) 19 (by kernel_rfl) ?_
    refine' AK.run ?_ ?_ ?_ ?_;rotate_left 2;(simp only[Aa,Ab,Ac];rfl);rfl;(rintro w' -;go_simp;with_reducible rfl);simp only[Al,Ad,Ae,Af]
    refine' AE 20 (by kernel_rfl) ?_ ?_;rotate_left;(simp only[Aa,Ab,Ac];rfl)
    try simp only[Al,Ad,Ae,Af]
    refine AI u11 rfl 40 (.tmp 45) (.tmp 39) rfl (wr.heap.size) 5 45 _ K12.out.2.1 rfl (ug) rfl (by simp[flC]) Tryz.sizeIs1 K12.out.2.2.2.2.2.one (B9 K12.out.2.2.2.2.2.one) ?_
    intro u13 hb hc hs
    have K14:=Ag (show Below wr.heap.size wr u13∧Blk u13 (wr.heap.size) 45 (flC s1 x.p.o x.p.e ur uq ug x.v x.e x.u tc)∧x3.heap.size≤u13.heap.size∧SlI (x3.heap.size≤·) u13 ur mr∧SlI (x3.heap.size≤·) u13 uq mq∧SlI (x3.heap.size≤·) u13 ug mg from⟨(Aw K12.out.1 hc (Ah _) (fun k hk=> by have e:=(show _=_ from hk);omega)),hb,(Aj K12.out.2.2.1 hc.size),(K12.out.2.2.2.1.keep' hc (fun i hi e=> by have e:=(show _=_ from e);have h1:x3.heap.size≤i:=hi;have h2:=HGX.out;omega) (fun _ h=> h)),(K12.out.2.2.2.2.1.keep' hc (fun i hi e=> by have e:=(show _=_ from e);have h1:x3.heap.size≤i:=hi;have h2:=HGX.out;omega) (fun _ h=> h)),(K12.out.2.2.2.2.2.keep' hc (fun i hi e=> by have e:=(show _=_ from e);have h1:x3.heap.size≤i:=hi;have h2:=HGX.out;omega) (fun _ h=> h))⟩)
    clear hb hc hs
    refine QK.normal ⟨fun h=> absurd h (by decide),?_⟩
    refine Bd (by kernel_rfl) ?_ _
    refine NoPanic.normal ?_
    try simp only[Al,Ad,Ae,Af]
    go_wp2_with (first
  | (with_reducible refine Ap rfl 29 (.tmp 46) rfl (wr.heap.size) 9 rfl (tc) _ (Db K14.out.2.1) Tryz.underlying29 rfl (At Tryz.infoTm HTL.out) ?_))
    refine(Eh 6 (by omega) x.b tc F u13 (HTM.out.below (An HO.out.2.2.2.2.2 K14.out.1 (Ah _)))).mono ?_
    rintro e' y1 ⟨tcn,tn,rfl,ht,hb⟩
    have HY1:=Ag (show Below wr.heap.size wr y1∧Blk y1 (wr.heap.size) 45 (flC s1 x.p.o x.p.e ur uq ug x.v x.e x.u tc)∧x3.heap.size≤y1.heap.size∧SlI (x3.heap.size≤·) y1 ur mr∧SlI (x3.heap.size≤·) y1 uq mq∧SlI (x3.heap.size≤·) y1 ug mg∧TmC (x3.heap.size≤·) y1 tcn tn from⟨(An K14.out.1 hb (Ah _)),K14.out.2.1.below hb K14.out.2.1.lt,(Aj K14.out.2.2.1 hb.size),(K14.out.2.2.2.1.below hb),(K14.out.2.2.2.2.1.below hb),(K14.out.2.2.2.2.2.below hb),(ht.mono fun i hi=> Aj K14.out.2.2.1 hi)⟩)
    have HTN:=Ag ht.len
    have HTO:=Ag ht.one
    clear ht hb
    have HLT:=Ag (show 9+tcn.length≤(flC s1 x.p.o x.p.e ur uq ug x.v x.e x.u tc).length from by rw[HTN.out];simp[flC,HTL.out])
    have HLB:=Ag (show tcn.length=tc.length from HTN.out.trans HTL.out.symm)
    have HF14:=Ag (show(flC s1 x.p.o x.p.e ur uq ug x.v x.e x.u tcn).length=14 from by simp[flC,HTN.out])
    go_upto_region 9 with(first
  | ((with_reducible refine Be y1 rfl 29 (.tmp 49) (.tmp 48) rfl (wr.heap.size) 9 45 _ (tcn) (flC s1 x.p.o x.p.e ur uq ug x.v x.e x.u tcn) HY1.out.2.1 rfl rfl HLT.out (At Tryz.infoTm HTN.out) HTO.out (Gs _ _ _ _ _ _ _ _ _ _ _ HLB.out) ?_);intro y2 hb hc hs;have HY2:=Ag (show Below wr.heap.size wr y2∧Blk y2 (wr.heap.size) 45 (flC s1 x.p.o x.p.e ur uq ug x.v x.e x.u tcn)∧x3.heap.size≤y2.heap.size∧SlI (x3.heap.size≤·) y2 ur mr∧SlI (x3.heap.size≤·) y2 uq mq∧SlI (x3.heap.size≤·) y2 ug mg∧TmC (x3.heap.size≤·) y2 tcn tn from⟨(Aw HY1.out.1 hc (Ah _) (fun k hk=> by have e:=(show _=_ from hk);omega)),hb,(Aj HY1.out.2.2.1 hc.size),(HY1.out.2.2.2.1.keep' hc (fun i hi e=> by have e:=(show _=_ from e);have h1:x3.heap.size≤i:=hi;have h2:=HGX.out;omega) (fun _ h=> h)),(HY1.out.2.2.2.2.1.keep' hc (fun i hi e=> by have e:=(show _=_ from e);have h1:x3.heap.size≤i:=hi;have h2:=HGX.out;omega) (fun _ h=> h)),(HY1.out.2.2.2.2.2.1.keep' hc (fun i hi e=> by have e:=(show _=_ from e);have h1:x3.heap.size≤i:=hi;have h2:=HGX.out;omega) (fun _ h=> h)),(TmC.keep' hc (fun i hi e=> by have e:=(show _=_ from e);have h1:x3.heap.size≤i:=hi;have h2:=HGX.out;omega) (fun _ h=> h) _ _ HY1.out.2.2.2.2.2.2)⟩);clear hb hc hs))
    try simp only[Al,Ad,Ae,Af]
    have c0:=(HO.out.2.2.1.below HY2.out.1 HO.out.2.2.1.lt).cell 0
    simp only[Ab] at c0
    have HFT:=Ag (fun (W:World) (h1:SlI (x3.heap.size≤·) W ur mr) (h2:SlI (x3.heap.size≤·) W uq mq) (h3:SlI (x3.heap.size≤·) W ug mg) (h4:TmC (x3.heap.size≤·) W tcn tn)=> show FlC (FH a3.heap.size (.slice oz l.length pz) W) W (flC s1 x.p.o x.p.e ur uq ug x.v x.e x.u tcn) (⟨s1,⟨x.p.o,x.p.e,mr,mq,mg⟩,x.v,x.e,x.u,tn⟩:FileM) from
     have hQ:∀ i,x3.heap.size≤i∧i<W.heap.size→FH a3.heap.size (.slice oz l.length pz) W i:=fun i hi=> ⟨fun e=> by
      have h1:=(HO.out.2.2.2.1.lt i e).2
      have h2:=HGX.out
      omega,by
      have h2:=HO.out.2.2.2.2.1
      have h3:=HGX.out
      omega,hi.2⟩
     ⟨ur,uq,ug,tcn,rfl,⟨h1.old'.keep' (Ch.refl (fun _=> False) W) (fun _ _ e=> e) hQ,h2.old'.keep' (Ch.refl (fun _=> False) W) (fun _ _ e=> e) hQ,h3.old'.keep' (Ch.refl (fun _=> False) W) (fun _ _ e=> e) hQ⟩,(TmC.old' _ _ h4).mono hQ⟩)
    go_wp2_with (first
  | (with_reducible refine Ap rfl 45 (.tmp 5) rfl (wr.heap.size) 0 rfl (flC s1 x.p.o x.p.e ur uq ug x.v x.e x.u tcn) _ (As HY2.out.2.1) Tryz.underlying45 rfl (At Tryz.infoFl HF14.out) ?_)
  | ((with_reducible refine DQ y2 rfl (.tmp 52) rfl (flC s1 x.p.o x.p.e ur uq ug x.v x.e x.u tcn) HF14.out rfl ?_);intro y3 hb hbel hsz;have HY3:=hJ8 (An HY2.out.1 hbel (Ah _)) (HY2.out.2.1.below hbel HY2.out.2.1.lt) (Aj HY2.out.2.2.1 hbel.size) (HY2.out.2.2.2.1.below hbel) (HY2.out.2.2.2.2.1.below hbel) (HY2.out.2.2.2.2.2.1.below hbel) (HY2.out.2.2.2.2.2.2.below hbel) hb;clear hb hbel hsz)
  | (at_builtin;refine BX @CJ Tryz.underlying22 Tryz.infoRF rfl (by omega) (by omega) (fun h=> h.len) (fun h=> h.one) rfl (.tmp 51) (.tmp 53) rfl (HO.out.2.2.2.1.fhQ @CJ HY3.out.1) rfl rfl HY3.out.2.2.2.2.2.2.2 (x:=(⟨s1,⟨x.p.o,x.p.e,mr,mq,mg⟩,x.v,x.e,x.u,tn⟩:FileM)) (HFT.out _ HY3.out.2.2.2.1 HY3.out.2.2.2.2.1 HY3.out.2.2.2.2.2.1 HY3.out.2.2.2.2.2.2.1) (by have:=HT.out;omega) (Aj HO.out.2.2.2.2.1 HY3.out.1.size) ?_))
    intro oy py y4 hrow hc
    have HB7:=Ag (show Below wr.heap.size wr y3 from HY3.out.1)
    have HY4:=hJ6 ((HO.out.1.below HB7.out HO.out.1.lt).keep hc (fun e=> by have h1:=(HO.out.2.2.2.1.lt _ e).1;have h2:=HG.out;omega)) ((HO.out.2.1.below HB7.out HO.out.2.1.lt).keep hc (fun e=> by have h1:=(HO.out.2.2.2.1.lt _ e).1;have h2:=HG.out;omega)) ((HO.out.2.2.1.below HB7.out HO.out.2.2.1.lt).keep hc (fun e=> by have h1:=(HO.out.2.2.2.1.lt _ e).1;have h2:=HG.out;omega)) hrow (Aj HO.out.2.2.2.2.1 (Aj HB7.out.size hc.size)) (Aw (An HO.out.2.2.2.2.2 HB7.out (Ah _)) hc (Ah _) (fun i e=> by have h1:=(HO.out.2.2.2.1.lt _ e).1;have h2:=HG.out;omega))
    clear hrow hc c0
    have HO3:=Ag (show 0<([(.slice oz l.length pz),(.slice none 0 0),(.slice none 0 0)]:List Value).length from by simp)
    go_wp2_with (first
  | ((with_reducible refine AI y4 rfl 22 (.tmp 55) (.tmp 54) rfl (a2.heap.size) 0 26 _ HY4.out.2.2.1 rfl (.slice oy (l.length+1) py) rfl HO3.out Tryz.sizeSf18 rfl rfl ?_);intro y5 hb hc hs;have HY5:=Ag (show Blk y5 (w.heap.size) 26 ([.slice (some ⟨b,o,none⟩) fn cf,.slice ac cn cc,.slice aw wn cw])∧Blk y5 (a1.heap.size) 26 ([(.slice none 0 0),(.slice none 0 0),(.slice none 0 0)])∧Blk y5 (a2.heap.size) 26 ([(.slice oy (l.length+1) py),(.slice none 0 0),(.slice none 0 0)])∧OwR (FlC (FH a3.heap.size (.slice oy (l.length+1) py) y5)) 14 45 a3.heap.size y5 (.slice oy (l.length+1) py) (l ++ [⟨s1,⟨x.p.o,x.p.e,mr,mq,mg⟩,x.v,x.e,x.u,tn⟩])∧a3.heap.size≤y5.heap.size∧Below w.heap.size w y5 from⟨HY4.out.1.keep hc (fun e=> absurd (show _=_ from e) (by have:=HG.out;omega)),HY4.out.2.1.keep hc (fun e=> absurd (show _=_ from e) (by have:=HG.out;omega)),hb,(HY4.out.2.2.2.1.fhS @CJ hc (by have:=HG.out;omega) (by have:=HG.out;omega)),(Aj HY4.out.2.2.2.2.1 hc.size),(Aw HY4.out.2.2.2.2.2 hc (Ah _) (fun k hk=> by have e:=(show _=_ from hk);have:=HG.out;omega))⟩);clear hb hc hs))
    go_roundw
    case measure=> simp[intOf];omega
    case rel=>
     have e:(l ++ [(⟨s1,⟨x.p.o,x.p.e,mr,mq,mg⟩,x.v,x.e,x.u,tn⟩:FileM)]).length=l.length+1:=by simp
     exact⟨j+1,l ++ [(⟨s1,⟨x.p.o,x.p.e,mr,mq,mg⟩,x.v,x.e,x.u,tn⟩:FileM)],oy,py,by go_num,by omega,Ag (by rw[e];have:=HT.out;omega),by rw[e];exact HY5⟩
   ·have hge:¬ (j:Int)<(fn:Int):=by omega
    go_wp2_with fail
    go_meet
    case rel=> exact⟨(.slice oz l.length pz),l,wr.heap.size,Ag ⟨HT.out.2,HO.out.2.2.2.2.1,rfl⟩,Ag ⟨HO.out.1,HO.out.2.1,HO.out.2.2.1,HO.out.2.2.2.1.mid @CJ,HO.out.2.2.2.2.2⟩⟩
 case rest=>
  obtain⟨v1,l1,n2,HL1,HK1⟩:=hcut
  have HG:=Ag (show w.heap.size<a1.heap.size∧a1.heap.size<a2.heap.size∧a2.heap.size<a3.heap.size∧a3.heap.size≤n2 from⟨HG.out.1,HG.out.2.1,HG.out.2.2,HL1.out.2.1⟩)
  have c0:=HK1.out.1.cell 1
  simp only[Ab,Ac] at c0
  have H0:=Ag (show Blk wc (w.heap.size) 26 ([.slice af fn cf,.slice ac cn cc,.slice aw wn cw])∧Blk wc (a1.heap.size) 26 ([(.slice none 0 0),(.slice none 0 0),(.slice none 0 0)])∧Blk wc (a2.heap.size) 26 ([v1,(.slice none 0 0),(.slice none 0 0)])∧RwC (FlC (Mid a3.heap.size n2)) 14 (Mid a3.heap.size n2) wc v1 l1∧OwR (CiC (FH n2 (.slice none 0 0) wc)) 3 49 n2 wc (.slice none 0 0) ([])∧n2≤wc.heap.size∧Below w.heap.size w wc from⟨HK1.out.1,HK1.out.2.1,HK1.out.2.2.1,HK1.out.2.2.2.1,OwR.nil,(by have:=HL1.out.2.2;omega),HK1.out.2.2.2.2⟩)
  clear HK1
  go_upto_block 2 with fail
  go_cut [] from 4 to 81 (fun wc2=> ∃ (v2:Value) (l2:List CirM) (n3:Nat),Hid (l2.length≤6∧n2≤n3∧n3=wc2.heap.size)∧Hid (Blk wc2 (w.heap.size) 26 ([.slice af fn cf,.slice ac cn cc,.slice aw wn cw])∧Blk wc2 (a1.heap.size) 26 ([(.slice none 0 0),(.slice none 0 0),(.slice none 0 0)])∧Blk wc2 (a2.heap.size) 26 ([v1,v2,(.slice none 0 0)])∧RwC (FlC (Mid a3.heap.size n2)) 14 (Mid a3.heap.size n2) wc2 v1 l1∧RwC (CiC (Mid n2 n3)) 3 (Mid n2 n3) wc2 v2 l2∧Below w.heap.size w wc2))
  case first=>
   go_wp2_with fail
   clear c0
   go_loopw [60] (fun s13 wr=> ∃ (j:Nat) (l:List CirM) (oz:Option Addr) (pz:Nat),s13=.int .i64 j∧j≤cn∧Hid (l.length≤j∧l.length≤6)∧Hid (Blk wr (w.heap.size) 26 ([.slice af fn cf,.slice ac cn cc,.slice aw wn cw])∧Blk wr (a1.heap.size) 26 ([(.slice none 0 0),(.slice none 0 0),(.slice none 0 0)])∧Blk wr (a2.heap.size) 26 ([v1,(.slice oz l.length pz),(.slice none 0 0)])∧RwC (FlC (Mid a3.heap.size n2)) 14 (Mid a3.heap.size n2) wr v1 l1∧OwR (CiC (FH n2 (.slice oz l.length pz) wr)) 3 49 n2 wr (.slice oz l.length pz) (l)∧n2≤wr.heap.size∧Below w.heap.size w wr)) (fun s13 _=> cn - (intOf s13).toNat)
   case atStart=> exact⟨0,[],none,0,rfl,Nat.zero_le _,Ag ⟨Ah _,by simp⟩,H0⟩
   case round=>
    clear H0
    obtain⟨j,l,oz,pz,rfl,hj,HT,HO⟩:=hrel
    by_cases hlt:j<cn
    ·skip
     have hjl:j<cl.length:=by rw[HN.out.2.1];exact hlt
     have hjz:(j:Int)<(cn:Int):=by omega
     have hj0:(0:Int)≤(j:Int):=by omega
     obtain⟨b,o,xcs,rfl,-,-,hlen,hra,hxc⟩:=HC.out.get (by exact hjl)
     generalize hx:cl[j]=x at hxc
     have HXO:=Ag hxc.one
     obtain⟨vu,rfl,hsu⟩:=hxc
     have HSU:=Ag hsu
     have HZL:=Ag (show(ciC x.n x.o vu).length=(ciC 0 0 (.slice none 0 0)).length from hlen)
     have HRA:=Ag (Ai (show wr.rangeAt b (o+j* 3) (ciC x.n x.o vu) from fun i z hz=> (HO.out.2.2.2.2.2.2.cell (Am (hra i z hz))).trans (hra i z hz)) hlen)
     clear hra hlen hx hjl hsu
     go_upto_region 14 with(first
  | (with_reducible refine Ap rfl 49 (.tmp 63) rfl b (o+j* 3) rfl (ciC x.n x.o vu) _ HRA.out.1 Tryz.underlying49 rfl (At Tryz.infoCi HRA.out.2) ?_)
  | ((with_reducible refine Av wr rfl 49 rfl (ciC 0 0 (.slice none 0 0)) Tryz.zeroCi3 ?_);intro x2 hb hbel hsz;have HX2:=hJ2 hbel hb;clear hb hbel hsz)
  | ((with_reducible refine Ao x2 rfl 49 (.tmp 7) (.tmp 64) rfl (wr.heap.size) 49 (ciC 0 0 (.slice none 0 0)) (ciC x.n x.o vu) HX2.out.2 rfl rfl HZL.out (At Tryz.infoCi HRA.out.2) HXO.out ?_);intro x3 hb hc hs;have HX3:=Ag (show Below wr.heap.size wr x3∧Blk x3 (wr.heap.size) 49 (ciC x.n x.o vu)∧x3.heap.size≤x3.heap.size from⟨Aw HX2.out.1 hc (Ah _) (fun k hk=> by have e:=(show _=_ from hk);omega),hb,Ah _⟩);have HGX:=Ag (show wr.heap.size<x3.heap.size from hb.lt);clear hb hc hs))
     try simp only[Al,Ad,Ae,Af]
     by_cases hj6:j<6
     rotate_left
     ·have h6:¬ (j:Int)<6:=by omega
      go_wp2_with fail
      go_roundw
      case measure=> simp[intOf];omega
      case rel=> exact⟨j+1,l,oz,pz,by go_num,by omega,Ag (by have:=HT.out;omega),Ag ⟨HO.out.1.below HX3.out.1 HO.out.1.lt,HO.out.2.1.below HX3.out.1 HO.out.2.1.lt,HO.out.2.2.1.below HX3.out.1 HO.out.2.2.1.lt,(HO.out.2.2.2.1.midB @CJ HX3.out.1),(HO.out.2.2.2.2.1.fhQ @DT HX3.out.1),(Aj HO.out.2.2.2.2.2.1 HX3.out.1.size),(An HO.out.2.2.2.2.2.2 HX3.out.1 (Ah _))⟩⟩
     have h6:(j:Int)<6:=by omega
     have HX3b:=Ag (show Below wr.heap.size wr x3∧Blk x3 (wr.heap.size) 49 (ciC x.n x.o vu)∧x3.heap.size≤x3.heap.size∧Blk x3 (a2.heap.size) 26 ([v1,(.slice oz l.length pz),(.slice none 0 0)]) from⟨HX3.out.1,HX3.out.2.1,HX3.out.2.2,HO.out.2.2.1.below HX3.out.1 HO.out.2.2.1.lt⟩)
     go_wp2_with fail
     refine A2 (fun W=> W.cell? ⟨a2.heap.size,1,none⟩=some (.slice oz l.length pz)∧W.cell? ⟨wr.heap.size,0,none⟩=some (.int .i64 x.n)∧W.cell? ⟨wr.heap.size,1,none⟩=some (.int .i64 x.o)∧W.cell? ⟨wr.heap.size,2,none⟩=some vu) 12 [0,1,2,3,4,5,6,7] 6 (by kernel_rfl) rfl (by kernel_rfl) (by kernel_rfl) ⟨HX3b.out.2.2.2.cell 1,HX3b.out.2.1.cell 0,HX3b.out.2.1.cell 1,HX3b.out.2.1.cell 2⟩ ?_
     iterate 8(refine' AK.run ?_ ?_ ?_ ?_;rotate_left 2;(simp only[Aa,Ab,Ac];rfl);rfl;(rintro w' ⟨k0,k1,k2,k3⟩;go_simp;with_reducible rfl);simp only[Al,Ad,Ae,Af])
     have sm:=(Sm.refl x3).drew
     have HV16:=hJ4 (An HX3b.out.1 (sm.below _) (Ah _)) (HX3b.out.2.1.below (sm.below _) HX3b.out.2.1.lt) (Aj HX3b.out.2.2.1 (sm.below 0).size) (HX3b.out.2.2.2.below (sm.below _) HX3b.out.2.2.2.lt)
     clear sm
     generalize x3.drew=v15 at HV16 ⊢
     refine' AE 8 (by kernel_rfl) ?_ ?_;rotate_left;(simp only[Aa,Ab,Ac];rfl)
     try simp only[Al,Ad,Ae,Af]
     go_wp2_with fail
     refine(EW vu x.us v15 (HSU.out.1.below (An HO.out.2.2.2.2.2.2 HV16.out.1 (Ah _)) (Ah _))).mono ?_
     rintro e' u17 ⟨uu,mu,rfl,-,hsl,hb⟩
     obtain⟨ua,uc,rfl,-⟩:=hsl.1.nums
     have K18:=Ag (show Below wr.heap.size wr u17∧Blk u17 (wr.heap.size) 49 (ciC x.n x.o vu)∧x3.heap.size≤u17.heap.size∧Blk u17 (a2.heap.size) 26 ([v1,(.slice oz l.length pz),(.slice none 0 0)])∧SlI (x3.heap.size≤·) u17 (.slice ua mu.length uc) mu from⟨(An HV16.out.1 hb (Ah _)),HV16.out.2.1.below hb HV16.out.2.1.lt,(Aj HV16.out.2.2.1 hb.size),HV16.out.2.2.2.below hb HV16.out.2.2.2.lt,(SlI.mono' hsl HV16.out.2.2.1)⟩)
     clear hsl hb
     go_wp2_with fail
     refine QK.normal ⟨fun _=> ⟨K18.out.2.2.2.1.cell 1,K18.out.2.1.cell 0,K18.out.2.1.cell 1,K18.out.2.1.cell 2⟩,?_⟩
     refine' AE 9 (by kernel_rfl) ?_ ?_;rotate_left;(simp only[Aa,Ab,Ac];rfl)
     try simp only[Al,Ad,Ae,Af]
     refine EX rfl (.tmp 70) (.tmp 72) (.tmp 75) rfl x.n x.o ua mu.length uc rfl rfl rfl ?_
     refine QK.normal ⟨fun _=> ⟨K18.out.2.2.2.1.cell 1,K18.out.2.1.cell 0,K18.out.2.1.cell 1,K18.out.2.1.cell 2⟩,?_⟩
     refine' AE 10 (by kernel_rfl) ?_ ?_;rotate_left;(simp only[Aa,Ab,Ac];rfl)
     try simp only[Al,Ad,Ae,Af]
     refine DR u17 rfl (.tmp 76) rfl (ciC x.n x.o (.slice ua mu.length uc)) rfl rfl ?_
     intro y3 hb hbel hsz
     have HY3:=hJ6 (An K18.out.1 hbel (Ah _)) (K18.out.2.1.below hbel K18.out.2.1.lt) (Aj K18.out.2.2.1 hbel.size) (K18.out.2.2.2.1.below hbel K18.out.2.2.2.1.lt) (K18.out.2.2.2.2.below hbel) hb
     clear hb hbel hsz
     refine QK.normal ⟨fun _=> ⟨HY3.out.2.2.2.1.cell 1,HY3.out.2.1.cell 0,HY3.out.2.1.cell 1,HY3.out.2.1.cell 2⟩,?_⟩
     refine' AE 11 (by kernel_rfl) ?_ ?_;rotate_left;(simp only[Aa,Ab,Ac];rfl)
     have HB7:=Ag (show Below wr.heap.size wr y3 from HY3.out.1)
     have HFT:=Ag (show CiC (FH n2 (.slice oz l.length pz) y3) y3 (ciC x.n x.o (.slice ua mu.length uc)) (⟨x.n,x.o,mu⟩:CirM) from⟨_,rfl,HY3.out.2.2.2.2.1.old'.keep' (Ch.refl (fun _=> False) _) (fun _ _ e=> e) (fun i hi=> ⟨fun e=> by
      have h1:=(HO.out.2.2.2.2.1.lt i e).2
      have h2:=HGX.out
      have h3:x3.heap.size≤i:=hi.1
      omega,by
      have h2:=HO.out.2.2.2.2.2.1
      have h3:=HGX.out
      have h4:x3.heap.size≤i:=hi.1
      omega,hi.2⟩)⟩)
     try simp only[Al,Ad,Ae,Af]
     at_builtin
     refine BX @DT Tryz.underlying23 Tryz.infoRI rfl (by omega) (by omega) (fun h=> h.len) (fun h=> h.one) rfl (.tmp 68) (.tmp 77) rfl (HO.out.2.2.2.2.1.fhQ @DT HY3.out.1) rfl rfl HY3.out.2.2.2.2.2 (x:=(⟨x.n,x.o,mu⟩:CirM)) HFT.out (by have:=HT.out;omega) (Aj HO.out.2.2.2.2.2.1 HY3.out.1.size) ?_
     intro oy py y4 hrow hc
     have HY4:=hJ8 ((HO.out.1.below HB7.out HO.out.1.lt).keep hc (fun e=> by have h1:=(HO.out.2.2.2.2.1.lt _ e).1;have h2:=HG.out;omega)) ((HO.out.2.1.below HB7.out HO.out.2.1.lt).keep hc (fun e=> by have h1:=(HO.out.2.2.2.2.1.lt _ e).1;have h2:=HG.out;omega)) ((HO.out.2.2.1.below HB7.out HO.out.2.2.1.lt).keep hc (fun e=> by have h1:=(HO.out.2.2.2.2.1.lt _ e).1;have h2:=HG.out;omega)) ((HO.out.2.2.2.1.midB @CJ HB7.out).midS @CJ hc (fun i e=> Or.inr (HO.out.2.2.2.2.1.lt _ e).1)) hrow (Aj HO.out.2.2.2.2.2.1 (Aj HB7.out.size hc.size)) (Aw (An HO.out.2.2.2.2.2.2 HB7.out (Ah _)) hc (Ah _) (fun i e=> by have h1:=(HO.out.2.2.2.2.1.lt _ e).1;have h2:=HG.out;omega)) (HY3.out.2.1.keep hc (fun e=> by have h1:=(HO.out.2.2.2.2.1.lt _ e).2;omega))
     clear hrow hc
     refine QK.normal ⟨fun _=> ⟨HY4.out.2.2.1.cell 1,HY4.out.2.2.2.2.2.2.2.cell 0,HY4.out.2.2.2.2.2.2.2.cell 1,HY4.out.2.2.2.2.2.2.2.cell 2⟩,?_⟩
     refine' AE 12 (by kernel_rfl) ?_ ?_;rotate_left;(simp only[Aa,Ab,Ac];rfl)
     try simp only[Al,Ad,Ae,Af]
     go_wp2_with fail
     refine QK.normal ⟨fun h=> absurd h (by decide),?_⟩
     refine' AE 13 (by kernel_rfl) ?_ ?_;rotate_left;(simp only[Aa,Ab,Ac];rfl)
     try simp only[Al,Ad,Ae,Af]
     refine AI y4 rfl 23 (.tmp 79) (.tmp 78) rfl (a2.heap.size) 1 26 _ HY4.out.2.2.1 rfl (.slice oy (l.length+1) py) rfl (by simp) Tryz.sizeSc18 rfl rfl ?_
     intro y5 hb hc hs
     have HY5:=Ag (show Blk y5 (w.heap.size) 26 ([.slice af fn cf,.slice (some ⟨b,o,none⟩) cn cc,.slice aw wn cw])∧Blk y5 (a1.heap.size) 26 ([(.slice none 0 0),(.slice none 0 0),(.slice none 0 0)])∧Blk y5 (a2.heap.size) 26 ([v1,(.slice oy (l.length+1) py),(.slice none 0 0)])∧RwC (FlC (Mid a3.heap.size n2)) 14 (Mid a3.heap.size n2) y5 v1 l1∧OwR (CiC (FH n2 (.slice oy (l.length+1) py) y5)) 3 49 n2 y5 (.slice oy (l.length+1) py) (l ++ [⟨x.n,x.o,mu⟩])∧n2≤y5.heap.size∧Below w.heap.size w y5 from⟨HY4.out.1.keep hc (fun e=> absurd (show _=_ from e) (by have:=HG.out;omega)),HY4.out.2.1.keep hc (fun e=> absurd (show _=_ from e) (by have:=HG.out;omega)),hb,(HY4.out.2.2.2.1.midS @CJ hc (fun k hk=> by have e:=(show _=_ from hk);have:=HG.out;omega)),(HY4.out.2.2.2.2.1.fhS @DT hc (by have:=HG.out;omega) (by have:=HG.out;omega)),(Aj HY4.out.2.2.2.2.2.1 hc.size),(Aw HY4.out.2.2.2.2.2.2.1 hc (Ah _) (fun k hk=> by have e:=(show _=_ from hk);have:=HG.out;omega))⟩)
     clear hb hc hs
     refine QK.normal ⟨fun h=> absurd h (by decide),?_⟩
     refine Bd (by kernel_rfl) ?_ _
     refine NoPanic.normal ?_
     go_wp2_with fail
     go_roundw
     case measure=> simp[intOf];omega
     case rel=>
      have e:(l ++ [(⟨x.n,x.o,mu⟩:CirM)]).length=l.length+1:=by simp
      exact⟨j+1,l ++ [(⟨x.n,x.o,mu⟩:CirM)],oy,py,by go_num,by omega,Ag (by rw[e];have:=HT.out;omega),by rw[e];exact HY5⟩
    ·have hge:¬ (j:Int)<(cn:Int):=by omega
     go_wp2_with fail
     go_meet
     case rel=> exact⟨(.slice oz l.length pz),l,wr.heap.size,Ag ⟨HT.out.2,HO.out.2.2.2.2.2.1,rfl⟩,Ag ⟨HO.out.1,HO.out.2.1,HO.out.2.2.1,HO.out.2.2.2.1,HO.out.2.2.2.2.1.mid @DT,HO.out.2.2.2.2.2.2⟩⟩
  case rest=>
   obtain⟨v2,l2,n3,HL2,HK2⟩:=hcut
   have HG:=Ag (show w.heap.size<a1.heap.size∧a1.heap.size<a2.heap.size∧a2.heap.size<a3.heap.size∧a3.heap.size≤n2∧n2≤n3 from⟨HG.out.1,HG.out.2.1,HG.out.2.2.1,HG.out.2.2.2,HL2.out.2.1⟩)
   have c0:=HK2.out.1.cell 2
   simp only[Ab,Ac] at c0
   have H0:=Ag (show Blk wc (w.heap.size) 26 ([.slice af fn cf,.slice ac cn cc,.slice aw wn cw])∧Blk wc (a1.heap.size) 26 ([(.slice none 0 0),(.slice none 0 0),(.slice none 0 0)])∧Blk wc (a2.heap.size) 26 ([v1,v2,(.slice none 0 0)])∧RwC (FlC (Mid a3.heap.size n2)) 14 (Mid a3.heap.size n2) wc v1 l1∧RwC (CiC (Mid n2 n3)) 3 (Mid n2 n3) wc v2 l2∧OwR (WrC (FH n3 (.slice none 0 0) wc)) 9 56 n3 wc (.slice none 0 0) ([])∧n3≤wc.heap.size∧Below w.heap.size w wc from⟨HK2.out.1,HK2.out.2.1,HK2.out.2.2.1,HK2.out.2.2.2.1,HK2.out.2.2.2.2.1,OwR.nil,(by have:=HL2.out.2.2;omega),HK2.out.2.2.2.2.2⟩)
   clear HK2
   go_upto_block 4 with fail
   go_cut [] from 4 to 110 (fun wc3=> ∃ (v3:Value) (l3:List WrM) (n4:Nat),Hid (l3.length≤401∧n3≤n4∧n4=wc3.heap.size)∧Hid (Blk wc3 (w.heap.size) 26 ([.slice af fn cf,.slice ac cn cc,.slice aw wn cw])∧Blk wc3 (a1.heap.size) 26 ([(.slice none 0 0),(.slice none 0 0),(.slice none 0 0)])∧Blk wc3 (a2.heap.size) 26 ([v1,v2,v3])∧RwC (FlC (Mid a3.heap.size n2)) 14 (Mid a3.heap.size n2) wc3 v1 l1∧RwC (CiC (Mid n2 n3)) 3 (Mid n2 n3) wc3 v2 l2∧RwC (WrC (Mid n3 n4)) 9 (Mid n3 n4) wc3 v3 l3∧Below w.heap.size w wc3))
   case first=>
    go_wp2_with fail
    clear c0
    go_loopw [84] (fun s13 wr=> ∃ (j:Nat) (l:List WrM) (oz:Option Addr) (pz:Nat),s13=.int .i64 j∧j≤wn∧Hid (l.length≤j∧l.length≤401)∧Hid (Blk wr (w.heap.size) 26 ([.slice af fn cf,.slice ac cn cc,.slice aw wn cw])∧Blk wr (a1.heap.size) 26 ([(.slice none 0 0),(.slice none 0 0),(.slice none 0 0)])∧Blk wr (a2.heap.size) 26 ([v1,v2,(.slice oz l.length pz)])∧RwC (FlC (Mid a3.heap.size n2)) 14 (Mid a3.heap.size n2) wr v1 l1∧RwC (CiC (Mid n2 n3)) 3 (Mid n2 n3) wr v2 l2∧OwR (WrC (FH n3 (.slice oz l.length pz) wr)) 9 56 n3 wr (.slice oz l.length pz) (l)∧n3≤wr.heap.size∧Below w.heap.size w wr)) (fun s13 _=> wn - (intOf s13).toNat)
    case atStart=> exact⟨0,[],none,0,rfl,Nat.zero_le _,Ag ⟨Ah _,by simp⟩,H0⟩
    case round=>
     clear H0
     obtain⟨j,l,oz,pz,rfl,hj,HT,HO⟩:=hrel
     by_cases hlt:j<wn
     ·skip
      have hjl:j<ws.length:=by rw[HN.out.2.2];exact hlt
      have hjz:(j:Int)<(wn:Int):=by omega
      have hj0:(0:Int)≤(j:Int):=by omega
      obtain⟨b,o,xcs,rfl,-,-,hlen,hra,hxc⟩:=HW.out.get (by exact hjl)
      generalize hx:ws[j]=x at hxc
      have HXO:=Ag hxc.one
      obtain⟨tc,rfl,htm⟩:=hxc
      have HTM:=Ag htm
      have HTL:=Ag htm.len
      have HZL:=Ag (show(wrC x.nm x.v x.e x.u tc).length=(wrC ⟨#[]⟩ 0 0 0 (tmC 0 0 0 ⟨#[]⟩ (.slice none 0 0))).length from hlen)
      have HRA:=Ag (Ai (show wr.rangeAt b (o+j* 9) (wrC x.nm x.v x.e x.u tc) from fun i z hz=> (HO.out.2.2.2.2.2.2.2.cell (Am (hra i z hz))).trans (hra i z hz)) hlen)
      clear hra hlen hx hjl htm
      go_upto_region 20 with(first
  | (with_reducible refine Ap rfl 56 (.tmp 87) rfl b (o+j* 9) rfl (wrC x.nm x.v x.e x.u tc) _ HRA.out.1 Tryz.underlying56 rfl (At Tryz.infoWr HRA.out.2) ?_)
  | ((with_reducible refine Av wr rfl 56 rfl (wrC ⟨#[]⟩ 0 0 0 (tmC 0 0 0 ⟨#[]⟩ (.slice none 0 0))) Tryz.zeroWr9 ?_);intro x2 hb hbel hsz;have HX2:=hJ2 hbel hb;clear hb hbel hsz)
  | ((with_reducible refine Ao x2 rfl 56 (.tmp 9) (.tmp 88) rfl (wr.heap.size) 56 (wrC ⟨#[]⟩ 0 0 0 (tmC 0 0 0 ⟨#[]⟩ (.slice none 0 0))) (wrC x.nm x.v x.e x.u tc) HX2.out.2 rfl rfl HZL.out (At Tryz.infoWr HRA.out.2) HXO.out ?_);intro x3 hb hc hs;have HX3:=Ag (show Below wr.heap.size wr x3∧Blk x3 (wr.heap.size) 56 (wrC x.nm x.v x.e x.u tc)∧x3.heap.size≤x3.heap.size from⟨Aw HX2.out.1 hc (Ah _) (fun k hk=> by have e:=(show _=_ from hk);omega),hb,Ah _⟩);have HGX:=Ag (show wr.heap.size<x3.heap.size from hb.lt);clear hb hc hs))
      try simp only[Al,Ad,Ae,Af]
      by_cases hj6:400<j
      ·have h6:(400:Int)<(j:Int):=by omega
       go_wp2_with fail
       go_meet
       case rel=> exact⟨(.slice oz l.length pz),l,x3.heap.size,Ag ⟨HT.out.2,(Aj HO.out.2.2.2.2.2.2.1 HX3.out.1.size),rfl⟩,Ag ⟨HO.out.1.below HX3.out.1 HO.out.1.lt,HO.out.2.1.below HX3.out.1 HO.out.2.1.lt,HO.out.2.2.1.below HX3.out.1 HO.out.2.2.1.lt,(HO.out.2.2.2.1.midB @CJ HX3.out.1),(HO.out.2.2.2.2.1.midB @DT HX3.out.1),(HO.out.2.2.2.2.2.1.fhQ @EV HX3.out.1).mid @EV,(An HO.out.2.2.2.2.2.2.2 HX3.out.1 (Ah _))⟩⟩
      have h6:¬ (400:Int)<(j:Int):=by omega
      obtain⟨mm,hmm⟩:∃ mm:Nat,(if (25:Int)<(x.nm.size:Int) then (25:Int) else (x.nm.size:Int))=(mm:Int):=by
       by_cases h:(25:Int)<(x.nm.size:Int)
       ·exact⟨25,by rw[if_pos h];rfl⟩
       ·exact⟨x.nm.size,by rw[if_neg h]⟩
      have hm0:(0:Int)≤(mm:Int):=by omega
      have hm1:(mm:Int)≤(x.nm.size:Int):=by
       rw[←hmm]
       by_cases h:(25:Int)<(x.nm.size:Int)
       ·rw[if_pos h];omega
       ·rw[if_neg h];omega
      go_wp2_with fail
      refine A2 (fun W=> W.cell? ⟨wr.heap.size,0,none⟩=some (.string x.nm)∧W.rangeAt wr.heap.size 4 tc) 11 [0,1,2,3,4,5,6,7,8] 5 (by kernel_rfl) rfl (by kernel_rfl) (by kernel_rfl) ⟨HX3.out.2.1.cell 0,CI HX3.out.2.1⟩ ?_
      iterate 9(refine' AK.run ?_ ?_ ?_ ?_;rotate_left 2;(simp only[Aa,Ab,Ac];rfl);rfl;(rintro w' ⟨k0,k1⟩;first|exact AB rfl rfl k1 Tryz.underlying29 rfl (At Tryz.infoTm HTL.out)|(go_simp;with_reducible rfl)|(go_simp;simp only[hmm,hm0,hm1,and_self,if_true];rfl));simp only[Al,Ad,Ae,Af])
      have sm:=(Sm.refl x3).drew
      have HV20:=hJ3 (An HX3.out.1 (sm.below _) (Ah _)) (HX3.out.2.1.below (sm.below _) HX3.out.2.1.lt) (Aj HX3.out.2.2 (sm.below 0).size)
      clear sm
      generalize x3.drew=v19 at HV20 ⊢
      refine AL (by kernel_rfl) AG (fuel:=4) (fun _=> ⟨HV20.out.2.1.cell 0,CI HV20.out.2.1⟩) 10 (by kernel_rfl) ?_
      refine' AK.run ?_ ?_ ?_ ?_;rotate_left 2;(simp only[Aa,Ab,Ac];rfl);rfl;(rintro w' -;go_simp;with_reducible rfl);simp only[Al,Ad,Ae,Af]
      refine' AE 9 (by kernel_rfl) ?_ ?_;rotate_left;(simp only[Aa,Ab,Ac];rfl)
      try simp only[Al,Ad,Ae,Af]
      go_wp2_with fail
      refine(Eh 6 (by omega) x.b tc F v19 (HTM.out.below (An HO.out.2.2.2.2.2.2.2 HV20.out.1 (Ah _)))).mono ?_
      rintro e' u21 ⟨tcn,tn,rfl,ht,hb⟩
      have K22:=Ag (show Below wr.heap.size wr u21∧Blk u21 (wr.heap.size) 56 (wrC x.nm x.v x.e x.u tc)∧x3.heap.size≤u21.heap.size∧TmC (x3.heap.size≤·) u21 tcn tn from⟨(An HV20.out.1 hb (Ah _)),HV20.out.2.1.below hb HV20.out.2.1.lt,(Aj HV20.out.2.2 hb.size),(ht.mono fun i hi=> Aj HV20.out.2.2 hi)⟩)
      have HTN:=Ag ht.len
      have HTO:=Ag ht.one
      clear ht hb
      go_wp2_with fail
      refine QK.normal ⟨fun _=> ⟨K22.out.2.1.cell 0,CI K22.out.2.1⟩,?_⟩
      refine' AE 11 (by kernel_rfl) ?_ ?_;rotate_left;(simp only[Aa,Ab,Ac];rfl)
      try simp only[Al,Ad,Ae,Af]
      refine AI u21 rfl 9 (.tmp 101) (.tmp 97) rfl (wr.heap.size) 0 56 _ K22.out.2.1 rfl (.string _) rfl (by simp[wrC]) Tryz.sizeStr18 rfl rfl ?_
      intro u23 hb hc hs
      generalize hxs:(wrC x.nm x.v x.e x.u tc:List Value).set 0 _=xs3 at hb
      obtain⟨s1,hx1⟩:∃ s1,xs3=wrC s1 x.v x.e x.u tc:=⟨_,by rw[←hxs];exact KY _ _ _ _ _ _⟩
      subst hx1
      have K24:=Ag (show Below wr.heap.size wr u23∧Blk u23 (wr.heap.size) 56 (wrC s1 x.v x.e x.u tc)∧x3.heap.size≤u23.heap.size∧TmC (x3.heap.size≤·) u23 tcn tn from⟨(Aw K22.out.1 hc (Ah _) (fun k hk=> by have e:=(show _=_ from hk);omega)),hb,(Aj K22.out.2.2.1 hc.size),(TmC.keep' hc (fun i hi e=> by have e:=(show _=_ from e);have h1:x3.heap.size≤i:=hi;have h2:=HGX.out;omega) (fun _ h=> h) _ _ K22.out.2.2.2)⟩)
      clear hb hc hs hxs
      refine QK.normal ⟨fun h=> absurd h (by decide),?_⟩
      refine AL (by kernel_rfl) AG (fuel:=1) (fun h=> absurd h (by decide)) 12 (by kernel_rfl) ?_
      refine' AK.run ?_ ?_ ?_ ?_;rotate_left 2;(simp only[Aa,Ab,Ac];rfl);rfl;(rintro w' -;go_simp;with_reducible rfl);simp only[Al,Ad,Ae,Af]
      refine' AE 13 (by kernel_rfl) ?_ ?_;rotate_left;(simp only[Aa,Ab,Ac];rfl)
      try simp only[Al,Ad,Ae,Af]
      refine Be u23 rfl 29 (.tmp 102) (.tmp 100) rfl (wr.heap.size) 4 56 _ (tcn) (wrC s1 x.v x.e x.u tcn) K24.out.2.1 rfl rfl (by rw[HTN.out];simp[wrC,HTL.out]) (At Tryz.infoTm HTN.out) HTO.out (D1 _ _ _ _ _ _ (HTN.out.trans HTL.out.symm)) ?_
      intro u25 hb hc hs
      have K26:=Ag (show Below wr.heap.size wr u25∧Blk u25 (wr.heap.size) 56 (wrC s1 x.v x.e x.u tcn)∧x3.heap.size≤u25.heap.size∧TmC (x3.heap.size≤·) u25 tcn tn from⟨(Aw K24.out.1 hc (Ah _) (fun k hk=> by have e:=(show _=_ from hk);omega)),hb,(Aj K24.out.2.2.1 hc.size),(TmC.keep' hc (fun i hi e=> by have e:=(show _=_ from e);have h1:x3.heap.size≤i:=hi;have h2:=HGX.out;omega) (fun _ h=> h) _ _ K24.out.2.2.2)⟩)
      clear hb hc hs
      refine QK.normal ⟨fun h=> absurd h (by decide),?_⟩
      refine Bd (by kernel_rfl) ?_ _
      refine NoPanic.normal ?_
      try simp only[Al,Ad,Ae,Af]
      have HF9:=Ag (show(wrC s1 x.v x.e x.u tcn).length=9 from by simp[wrC,HTN.out])
      have c0:=(HO.out.2.2.1.below K26.out.1 HO.out.2.2.1.lt).cell 2
      simp only[Ab,Ac] at c0
      have HFT:=Ag (fun (W:World) (h4:TmC (x3.heap.size≤·) W tcn tn)=> show WrC (FH n3 (.slice oz l.length pz) W) W (wrC s1 x.v x.e x.u tcn) (⟨s1,x.v,x.e,x.u,tn⟩:WrM) from
       ⟨tcn,rfl,(TmC.old' _ _ h4).mono fun i hi=> ⟨fun e=> by
        have h1:=(HO.out.2.2.2.2.2.1.lt i e).2
        have h2:=HGX.out
        have h3:x3.heap.size≤i:=hi.1
        omega,by
        have h2:=HO.out.2.2.2.2.2.2.1
        have h3:=HGX.out
        have h4:x3.heap.size≤i:=hi.1
        omega,hi.2⟩⟩)
      go_wp2_with (first
  | (with_reducible refine Ap rfl 56 (.tmp 9) rfl (wr.heap.size) 0 rfl (wrC s1 x.v x.e x.u tcn) _ (As K26.out.2.1) Tryz.underlying56 rfl (At Tryz.infoWr HF9.out) ?_)
  | ((with_reducible refine Ci u25 rfl (.tmp 105) rfl (wrC s1 x.v x.e x.u tcn) HF9.out rfl ?_);intro y3 hb hbel hsz;have HY3:=hJ5 (An K26.out.1 hbel (Ah _)) (K26.out.2.1.below hbel K26.out.2.1.lt) (Aj K26.out.2.2.1 hbel.size) (K26.out.2.2.2.below hbel) hb;clear hb hbel hsz)
  | (at_builtin;refine BX @EV Tryz.underlying24 Tryz.infoRW rfl (by omega) (by omega) (fun h=> h.len) (fun h=> h.one) rfl (.tmp 104) (.tmp 106) rfl (HO.out.2.2.2.2.2.1.fhQ @EV HY3.out.1) rfl rfl HY3.out.2.2.2.2 (x:=(⟨s1,x.v,x.e,x.u,tn⟩:WrM)) (HFT.out _ HY3.out.2.2.2.1) (by have:=HT.out;omega) (Aj HO.out.2.2.2.2.2.2.1 HY3.out.1.size) ?_))
      intro oy py y4 hrow hc
      have HB7:=Ag (show Below wr.heap.size wr y3 from HY3.out.1)
      have HY4:=hJ8 ((HO.out.1.below HB7.out HO.out.1.lt).keep hc (fun e=> by have h1:=(HO.out.2.2.2.2.2.1.lt _ e).1;have h2:=HG.out;omega)) ((HO.out.2.1.below HB7.out HO.out.2.1.lt).keep hc (fun e=> by have h1:=(HO.out.2.2.2.2.2.1.lt _ e).1;have h2:=HG.out;omega)) ((HO.out.2.2.1.below HB7.out HO.out.2.2.1.lt).keep hc (fun e=> by have h1:=(HO.out.2.2.2.2.2.1.lt _ e).1;have h2:=HG.out;omega)) ((HO.out.2.2.2.1.midB @CJ HB7.out).midS @CJ hc (fun i e=> Or.inr (by have h1:=(HO.out.2.2.2.2.2.1.lt _ e).1;have h2:=HG.out;omega))) ((HO.out.2.2.2.2.1.midB @DT HB7.out).midS @DT hc (fun i e=> Or.inr (HO.out.2.2.2.2.2.1.lt _ e).1)) hrow (Aj HO.out.2.2.2.2.2.2.1 (Aj HB7.out.size hc.size)) (Aw (An HO.out.2.2.2.2.2.2.2 HB7.out (Ah _)) hc (Ah _) (fun i e=> by have h1:=(HO.out.2.2.2.2.2.1.lt _ e).1;have h2:=HG.out;omega))
      clear hrow hc c0
      have HO3:=Ag (show 2<([v1,v2,(.slice oz l.length pz)]:List Value).length from by simp)
      go_wp2_with (first
  | ((with_reducible refine AI y4 rfl 24 (.tmp 108) (.tmp 107) rfl (a2.heap.size) 2 26 _ HY4.out.2.2.1 rfl (.slice oy (l.length+1) py) rfl HO3.out Tryz.sizeSw18 rfl rfl ?_);intro y5 hb hc hs;have HY5:=Ag (show Blk y5 (w.heap.size) 26 ([.slice af fn cf,.slice ac cn cc,.slice (some ⟨b,o,none⟩) wn cw])∧Blk y5 (a1.heap.size) 26 ([(.slice none 0 0),(.slice none 0 0),(.slice none 0 0)])∧Blk y5 (a2.heap.size) 26 ([v1,v2,(.slice oy (l.length+1) py)])∧RwC (FlC (Mid a3.heap.size n2)) 14 (Mid a3.heap.size n2) y5 v1 l1∧RwC (CiC (Mid n2 n3)) 3 (Mid n2 n3) y5 v2 l2∧OwR (WrC (FH n3 (.slice oy (l.length+1) py) y5)) 9 56 n3 y5 (.slice oy (l.length+1) py) (l ++ [⟨s1,x.v,x.e,x.u,tn⟩])∧n3≤y5.heap.size∧Below w.heap.size w y5 from⟨HY4.out.1.keep hc (fun e=> absurd (show _=_ from e) (by have:=HG.out;omega)),HY4.out.2.1.keep hc (fun e=> absurd (show _=_ from e) (by have:=HG.out;omega)),hb,(HY4.out.2.2.2.1.midS @CJ hc (fun k hk=> by have e:=(show _=_ from hk);have:=HG.out;omega)),(HY4.out.2.2.2.2.1.midS @DT hc (fun k hk=> by have e:=(show _=_ from hk);have:=HG.out;omega)),(HY4.out.2.2.2.2.2.1.fhS @EV hc (by have:=HG.out;omega) (by have:=HG.out;omega)),(Aj HY4.out.2.2.2.2.2.2.1 hc.size),(Aw HY4.out.2.2.2.2.2.2.2 hc (Ah _) (fun k hk=> by have e:=(show _=_ from hk);have:=HG.out;omega))⟩);clear hb hc hs))
      go_roundw
      case measure=> simp[intOf];omega
      case rel=>
       have e:(l ++ [(⟨s1,x.v,x.e,x.u,tn⟩:WrM)]).length=l.length+1:=by simp
       exact⟨j+1,l ++ [(⟨s1,x.v,x.e,x.u,tn⟩:WrM)],oy,py,by go_num,by omega,Ag (by rw[e];have:=HT.out;omega),by rw[e];exact HY5⟩
     ·have hge:¬ (j:Int)<(wn:Int):=by omega
      go_wp2_with fail
      go_meet
      case rel=> exact⟨(.slice oz l.length pz),l,wr.heap.size,Ag ⟨HT.out.2,HO.out.2.2.2.2.2.2.1,rfl⟩,Ag ⟨HO.out.1,HO.out.2.1,HO.out.2.2.1,HO.out.2.2.2.1,HO.out.2.2.2.2.1,HO.out.2.2.2.2.2.1.mid @EV,HO.out.2.2.2.2.2.2.2⟩⟩
   case rest=>
    obtain⟨v3,l3,n4,HL3,HK3⟩:=hcut
    have HG:=Ag (show w.heap.size<a1.heap.size∧a1.heap.size<a2.heap.size∧a2.heap.size<a3.heap.size∧a3.heap.size≤n2∧n2≤n3∧n3≤n4 from⟨HG.out.1,HG.out.2.1,HG.out.2.2.1,HG.out.2.2.2.1,HG.out.2.2.2.2,HL3.out.2.1⟩)
    have HOV:=Ag (show ∀ v∈([v1,v2,v3]:List Value),v.oneCell'=true from IdC.one (F:=fun _=> True) (w:=wc) (s:=⟨l1,l2,l3⟩) ⟨v1,v2,v3,rfl,HK3.out.2.2.2.1.mono (fun _ _=> trivial) (fun cs a _ h=> CJ h (Ch.refl (fun _=> False) _) (fun _ _ e=> e) fun _ _=> trivial),HK3.out.2.2.2.2.1.mono (fun _ _=> trivial) (fun cs a _ h=> DT h (Ch.refl (fun _=> False) _) (fun _ _ e=> e) fun _ _=> trivial),HK3.out.2.2.2.2.2.1.mono (fun _ _=> trivial) (fun cs a _ h=> EV h (Ch.refl (fun _=> False) _) (fun _ _ e=> e) fun _ _=> trivial)⟩)
    go_wp2_with (first
  | (with_reducible refine Ap rfl 26 (.tmp 3) rfl (a2.heap.size) 0 rfl ([v1,v2,v3]) _ (As HK3.out.2.2.1) Tryz.underlying26 rfl (At Tryz.infoId rfl) ?_)
  | ((with_reducible refine Ao wc rfl 26 (.tmp 2) (.tmp 110) rfl (a1.heap.size) 26 ([(.slice none 0 0),(.slice none 0 0),(.slice none 0 0)]) ([v1,v2,v3]) HK3.out.2.1 rfl rfl rfl (At Tryz.infoId rfl) HOV.out ?_);intro z1 hb hc hs;have HZ1:=hJ5 hb (HK3.out.2.2.2.1.midS @CJ hc (fun k hk=> by have e:=(show _=_ from hk);have:=HG.out;omega)) (HK3.out.2.2.2.2.1.midS @DT hc (fun k hk=> by have e:=(show _=_ from hk);have:=HG.out;omega)) (HK3.out.2.2.2.2.2.1.midS @EV hc (fun k hk=> by have e:=(show _=_ from hk);have:=HG.out;omega)) (Aw HK3.out.2.2.2.2.2.2 hc (Ah _) (fun k hk=> by have e:=(show _=_ from hk);have:=HG.out;omega));clear hb hc hs))
    refine bodyPost_ret (AA Tryz.results7 _ _ (a1.heap.size) _ _ rfl HZ1.out.1 _ Tryz.underlying26 rfl (At Tryz.infoId rfl)) rfl ?_
    have hm1:∀ k,Mid a3.heap.size n2 k→w.heap.size≤k:=fun k hk=> by have h1:=hk.1;have h2:=HG.out;omega
    have hm2:∀ k,Mid n2 n3 k→w.heap.size≤k:=fun k hk=> by have h1:=hk.1;have h2:=HG.out;omega
    have hm3:∀ k,Mid n3 n4 k→w.heap.size≤k:=fun k hk=> by have h1:=hk.1;have h2:=HG.out;omega
    exact⟨_,⟨l1,l2,l3⟩,rfl,⟨v1,v2,v3,rfl,HZ1.out.2.1.mono hm1 (fun cs a _ h=> CJ h (Ch.refl (fun _=> False) _) (fun _ _ e=> e) hm1),HZ1.out.2.2.1.mono hm2 (fun cs a _ h=> DT h (Ch.refl (fun _=> False) _) (fun _ _ e=> e) hm2),HZ1.out.2.2.2.1.mono hm3 (fun cs a _ h=> EV h (Ch.refl (fun _=> False) _) (fun _ _ e=> e) hm3)⟩,HL1.out.1,HL2.out.1,HL3.out.1,HZ1.out.2.2.2.2⟩
def nmW:ByteArray:=⟨#[49,47,102]⟩
def opsW:List OpM:=[⟨1,1,nmW,0,0,false,txT ⟨#[120]⟩⟩,⟨3,2,nmW,0,0,false,tm0⟩,⟨4,1,nmW,2,0,false,tm0⟩,⟨3,2,nmW,0,0,false,tm0⟩]
def Do:IdM × List ResM × Int:=Hq ES opsW
theorem KZ:Do.2.2=0:=by kernel_rfl
theorem Cu:Do.2.1.length=4:=by kernel_rfl
theorem runW_e:Do.2.1.map (·.e)=[0,280,0,0]:=by kernel_rfl
theorem runW_v:Do.2.1.map (·.v)=[0,0,0,1]:=by kernel_rfl
theorem runW_b:Do.2.1.map (fun r=> C0 r.b (txT ⟨#[120]⟩))=[false,false,false,true]:=by kernel_rfl
theorem runW_r:(ET Do.1 nmW).length=2:=by kernel_rfl
theorem runW_h:(D4 Do.1 nmW).length=1:=by kernel_rfl
theorem Jo:Do.1.cs.length=0∧Do.1.fs.length=1:=by
 constructor <;> kernel_rfl
theorem Hr {α:Type} [BEq α] {a b:α} {c:Bool} (h:(a==b)=c):(a !=b)=!c:=by unfold bne;rw[h]
theorem Jp:∀ (a:Tm),∀ (b:Tm) (ca cb:List Value) (Fa Fb:Nat→Prop) (w:World),TmC Fa w ca a→TmC Fb w cb b→Calls Tryz.prog 20 #[.agg ca.toArray,.agg cb.toArray] w (fun e w'=> e=.returned (.bool (C0 a b))∧Below w.heap.size w w'):=by
 refine Tm.ind fun k u n s ks ih b ca cb Fa Fb w ha hb=> ?_
 obtain⟨k',u',n',s',ks'⟩:=b
 obtain⟨ao,c,rfl,hca,hcm,hsa⟩:=ha.shape
 obtain⟨bo,d,rfl,hdb,hdm,hsb⟩:=hb.shape
 simp only[Tm.k,Tm.u,Tm.n,Tm.s,Tm.ks] at hca hdb hsa hsb ⊢
 have HIH:=Ag ih
 have HS:=Ag (Ai hsa hsb)
 rw[C0]
 obtain⟨l,hl⟩:∃ l,ks.length=l:=⟨_,rfl⟩
 obtain⟨m,hm⟩:∃ l,ks'.length=l:=⟨_,rfl⟩
 have HM:=Ag hl
 have HN:=Ag hm
 rw[hl,hm] at HS
 rw[hl] at hca
 rw[hm] at hdb
 rw[hl,hm]
 have hl63:l≤9223372036854775807:=by unfold maxLen at hcm;omega
 have hm63:m≤9223372036854775807:=by unfold maxLen at hdm;omega
 clear ha hb ih hsa hsb hl hm hca hdb hcm hdm
 obtain⟨bk,hk⟩:∃ b,(k==k')=b:=⟨_,rfl⟩
 obtain⟨bu,hu⟩:∃ b,(u==u')=b:=⟨_,rfl⟩
 obtain⟨bn,hn⟩:∃ b,(n==n')=b:=⟨_,rfl⟩
 obtain⟨bs,hs⟩:∃ b,(s.toList==s'.toList)=b:=⟨_,rfl⟩
 obtain⟨R,hR⟩:∃ R,(bk && (bu && (bn && (bs && BL ks ks'))))=R:=⟨_,rfl⟩
 rw[hk,hu,hn,hs,hR]
 have HR:=Ag hR
 have nk:=Hr hk
 have nu:=Hr hu
 have nn:=Hr hn
 have ns:=Hr hs
 clear hR
 have H0:=Ag (Below.refl w.heap.size w)
 cases bk
 ·simp only[Bool.not_false] at nk
  go_enter Tryz.func20,Tryz.ntmps20
  go_wp2_with (first
  | ((with_reducible refine Au w rfl 29 (.tmp 0) rfl (tmC k u n s (.slice ao l c)) rfl ?_);intro a1 hb hbel hsz;have HA1:=hJ2 (An H0.out hbel (Ah _)) hb;clear hb hbel hsz)
  | ((with_reducible refine Au a1 rfl 29 (.tmp 1) rfl (tmC k' u' n' s' (.slice bo m d)) rfl ?_);intro a2 hb hbel hsz;have HA2:=hJ3 (An HA1.out.1 hbel (Ah _)) (HA1.out.2.below hbel HA1.out.2.lt) hb;have c0:=HA2.out.2.1.cell 0;have d0:=HA2.out.2.2.cell 0;have c1:=HA2.out.2.1.cell 1;have d1:=HA2.out.2.2.cell 1;have c2:=HA2.out.2.1.cell 2;have d2:=HA2.out.2.2.cell 2;have c3:=HA2.out.2.1.cell 3;have d3:=HA2.out.2.2.cell 3;have c4:=HA2.out.2.1.cell 4;have d4:=HA2.out.2.2.cell 4;simp only[tmC,Ab,Ac] at c0 c1 c2 c3 c4 d0 d1 d2 d3 d4;clear hb hbel hsz))
  go_ret
  exact⟨by rw[←HR.out];rfl,HA2.out.1⟩
 simp only[Bool.not_true] at nk
 cases bu
 ·simp only[Bool.not_false] at nu
  go_enter Tryz.func20,Tryz.ntmps20
  go_wp2_with (first
  | ((with_reducible refine Au w rfl 29 (.tmp 0) rfl (tmC k u n s (.slice ao l c)) rfl ?_);intro a1 hb hbel hsz;have HA1:=hJ2 (An H0.out hbel (Ah _)) hb;clear hb hbel hsz)
  | ((with_reducible refine Au a1 rfl 29 (.tmp 1) rfl (tmC k' u' n' s' (.slice bo m d)) rfl ?_);intro a2 hb hbel hsz;have HA2:=hJ3 (An HA1.out.1 hbel (Ah _)) (HA1.out.2.below hbel HA1.out.2.lt) hb;have c0:=HA2.out.2.1.cell 0;have d0:=HA2.out.2.2.cell 0;have c1:=HA2.out.2.1.cell 1;have d1:=HA2.out.2.2.cell 1;have c2:=HA2.out.2.1.cell 2;have d2:=HA2.out.2.2.cell 2;have c3:=HA2.out.2.1.cell 3;have d3:=HA2.out.2.2.cell 3;have c4:=HA2.out.2.1.cell 4;have d4:=HA2.out.2.2.cell 4;simp only[tmC,Ab,Ac] at c0 c1 c2 c3 c4 d0 d1 d2 d3 d4;clear hb hbel hsz))
  go_ret
  exact⟨by rw[←HR.out];rfl,HA2.out.1⟩
 simp only[Bool.not_true] at nu
 cases bn
 ·simp only[Bool.not_false] at nn
  go_enter Tryz.func20,Tryz.ntmps20
  go_wp2_with (first
  | ((with_reducible refine Au w rfl 29 (.tmp 0) rfl (tmC k u n s (.slice ao l c)) rfl ?_);intro a1 hb hbel hsz;have HA1:=hJ2 (An H0.out hbel (Ah _)) hb;clear hb hbel hsz)
  | ((with_reducible refine Au a1 rfl 29 (.tmp 1) rfl (tmC k' u' n' s' (.slice bo m d)) rfl ?_);intro a2 hb hbel hsz;have HA2:=hJ3 (An HA1.out.1 hbel (Ah _)) (HA1.out.2.below hbel HA1.out.2.lt) hb;have c0:=HA2.out.2.1.cell 0;have d0:=HA2.out.2.2.cell 0;have c1:=HA2.out.2.1.cell 1;have d1:=HA2.out.2.2.cell 1;have c2:=HA2.out.2.1.cell 2;have d2:=HA2.out.2.2.cell 2;have c3:=HA2.out.2.1.cell 3;have d3:=HA2.out.2.2.cell 3;have c4:=HA2.out.2.1.cell 4;have d4:=HA2.out.2.2.cell 4;simp only[tmC,Ab,Ac] at c0 c1 c2 c3 c4 d0 d1 d2 d3 d4;clear hb hbel hsz))
  go_ret
  exact⟨by rw[←HR.out];rfl,HA2.out.1⟩
 simp only[Bool.not_true] at nn
 cases bs
 ·simp only[Bool.not_false] at ns
  go_enter Tryz.func20,Tryz.ntmps20
  go_wp2_with (first
  | ((with_reducible refine Au w rfl 29 (.tmp 0) rfl (tmC k u n s (.slice ao l c)) rfl ?_);intro a1 hb hbel hsz;have HA1:=hJ2 (An H0.out hbel (Ah _)) hb;clear hb hbel hsz)
  | ((with_reducible refine Au a1 rfl 29 (.tmp 1) rfl (tmC k' u' n' s' (.slice bo m d)) rfl ?_);intro a2 hb hbel hsz;have HA2:=hJ3 (An HA1.out.1 hbel (Ah _)) (HA1.out.2.below hbel HA1.out.2.lt) hb;have c0:=HA2.out.2.1.cell 0;have d0:=HA2.out.2.2.cell 0;have c1:=HA2.out.2.1.cell 1;have d1:=HA2.out.2.2.cell 1;have c2:=HA2.out.2.1.cell 2;have d2:=HA2.out.2.2.cell 2;have c3:=HA2.out.2.1.cell 3;have d3:=HA2.out.2.2.cell 3;have c4:=HA2.out.2.1.cell 4;have d4:=HA2.out.2.2.cell 4;simp only[tmC,Ab,Ac] at c0 c1 c2 c3 c4 d0 d1 d2 d3 d4;clear hb hbel hsz))
  go_ret
  exact⟨by rw[←HR.out];rfl,HA2.out.1⟩
 simp only[Bool.not_true] at ns
 by_cases hlm:l=m
 rotate_left
 ·have e1:((l:Int) !=(m:Int))=true:=by simp;omega
  have HE:=Ag (show R=false from by rw[←HR.out,E6 (by rw[HM.out,HN.out];exact hlm)];rfl)
  clear hlm
  go_enter Tryz.func20,Tryz.ntmps20
  go_wp2_with (first
  | ((with_reducible refine Au w rfl 29 (.tmp 0) rfl (tmC k u n s (.slice ao l c)) rfl ?_);intro a1 hb hbel hsz;have HA1:=hJ2 (An H0.out hbel (Ah _)) hb;clear hb hbel hsz)
  | ((with_reducible refine Au a1 rfl 29 (.tmp 1) rfl (tmC k' u' n' s' (.slice bo m d)) rfl ?_);intro a2 hb hbel hsz;have HA2:=hJ3 (An HA1.out.1 hbel (Ah _)) (HA1.out.2.below hbel HA1.out.2.lt) hb;have c0:=HA2.out.2.1.cell 0;have d0:=HA2.out.2.2.cell 0;have c1:=HA2.out.2.1.cell 1;have d1:=HA2.out.2.2.cell 1;have c2:=HA2.out.2.1.cell 2;have d2:=HA2.out.2.2.cell 2;have c3:=HA2.out.2.1.cell 3;have d3:=HA2.out.2.2.cell 3;have c4:=HA2.out.2.1.cell 4;have d4:=HA2.out.2.2.cell 4;simp only[tmC,Ab,Ac] at c0 c1 c2 c3 c4 d0 d1 d2 d3 d4;clear hb hbel hsz))
  go_ret
  exact⟨by rw[HE.out];rfl,HA2.out.1⟩
 have e1:((l:Int) !=(m:Int))=false:=by simp;omega
 have HMN:=Ag hlm
 have HL:=Ag (show BL ks ks'=R from by rw[←HR.out];rfl)
 clear hlm
 go_enter Tryz.func20,Tryz.ntmps20
 go_wp2_with (first
  | ((with_reducible refine Au w rfl 29 (.tmp 0) rfl (tmC k u n s (.slice ao l c)) rfl ?_);intro a1 hb hbel hsz;have HA1:=hJ2 (An H0.out hbel (Ah _)) hb;clear hb hbel hsz)
  | ((with_reducible refine Au a1 rfl 29 (.tmp 1) rfl (tmC k' u' n' s' (.slice bo m d)) rfl ?_);intro a2 hb hbel hsz;have HA2:=hJ3 (An HA1.out.1 hbel (Ah _)) (HA1.out.2.below hbel HA1.out.2.lt) hb;have c0:=HA2.out.2.1.cell 0;have d0:=HA2.out.2.2.cell 0;have c1:=HA2.out.2.1.cell 1;have d1:=HA2.out.2.2.cell 1;have c2:=HA2.out.2.1.cell 2;have d2:=HA2.out.2.2.cell 2;have c3:=HA2.out.2.1.cell 3;have d3:=HA2.out.2.2.cell 3;have c4:=HA2.out.2.1.cell 4;have d4:=HA2.out.2.2.cell 4;simp only[tmC,Ab,Ac] at c0 c1 c2 c3 c4 d0 d1 d2 d3 d4;clear hb hbel hsz))
 clear c0 c1 c2 c3 c4 d0 d1 d2 d3 d4 nk nu nn ns hk hu hn hs e1
 go_loopw [5] (fun i wr=> ∃ (j:Nat),i=.int .i64 j∧j≤l∧Hid (BL (ks.drop j) (ks'.drop j)=R)∧Hid (Below w.heap.size w wr∧Blk wr w.heap.size 29 (tmC k u n s (.slice ao l c))∧Blk wr a1.heap.size 29 (tmC k' u' n' s' (.slice bo m d)))) (fun i _=> l - (intOf i).toNat)
 case atStart=> exact⟨0,rfl,Nat.zero_le _,Ag HL.out,HA2⟩
 case round=>
  clear HA2 HA1 HL
  obtain⟨j,rfl,hj,HQ,HZ⟩:=hrel
  have c4:=HZ.out.2.1.cell 4
  have d4:=HZ.out.2.2.cell 4
  simp only[tmC,Ab,Ac] at c4 d4
  by_cases hlt:j<l
  ·have hja:j<ks.length:=by rw[HM.out];exact hlt
   have hjb:j<ks'.length:=by rw[HN.out,←HMN.out];exact hlt
   have hjz:(j:Int)<(l:Int):=by omega
   have hjn:(j:Int)<(m:Int):=by have:=HMN.out;omega
   have hj0:(0:Int)≤(j:Int):=by omega
   obtain⟨b1,o1,ca,rfl,-,-,hra,hta⟩:=(HS.out.1.below HZ.out.1).get hja
   obtain⟨b2,o2,cb,rfl,-,-,hrb,htb⟩:=(HS.out.2.below HZ.out.1).get hjb
   have HMEM:=Ag (List.getElem_mem hja)
   have HQ2:=Ag (show BL (ks[j]::ks.drop (j+1)) (ks'[j]::ks'.drop (j+1))=R from by rw[←List.drop_eq_getElem_cons hja,←List.drop_eq_getElem_cons hjb];exact HQ.out)
   generalize ks[j]=ta at hta HMEM HQ2
   generalize ks'[j]=tb at htb HQ2
   obtain⟨aa,pa,rfl,-,-,-⟩:=hta.shape
   obtain⟨ab,pb,rfl,-,-,-⟩:=htb.shape
   have HRA:=Ag (Ai hra hrb)
   have HTM:=Ag (Ai hta htb)
   obtain⟨rb,hr⟩:∃ r,C0 ta tb=r:=⟨_,rfl⟩
   have HRB:=Ag hr
   have C1:=Ag (fun x=> show Calls Tryz.prog 20 #[.agg (tmC ta.k ta.u ta.n ta.s (.slice aa ta.ks.length pa)).toArray,.agg (tmC tb.k tb.u tb.n tb.s (.slice ab tb.ks.length pb)).toArray] (Bf wr x) (fun e w'=> e=.returned (.bool rb)∧Below (Bf wr x).heap.size (Bf wr x) w') from by have h:=HIH.out ta HMEM.out tb _ _ Fa Fb (Bf wr x) (HTM.out.1.below (AN wr x)) (HTM.out.2.below (AN wr x));rw[HRB.out] at h;exact h)
   clear hra hrb hta htb hja hjb hr
   go_wp2_with fail
   replace c4:=fun q=> AS c4 q
   replace d4:=fun q=> AS d4 q
   refine A3 (by kernel_rfl) (by kernel_rfl) ?_
   repeat (first|go_big_quiet_skip|(go_big_quiet_want;(first|(refine A0 29 (.tmp 51) rfl b1 (o1+j* 5) rfl (tmC ta.k ta.u ta.n ta.s (.slice aa ta.ks.length pa)) _ (fun w' hw'=> A6 HRA.out.1 w' hw') Tryz.underlying29 rfl (A8 _ _ _ _ _) ?_;go_simp;go_big_quiet_on)|(refine A0 29 (.tmp 56) rfl b2 (o2+j* 5) rfl (tmC tb.k tb.u tb.n tb.s (.slice ab tb.ks.length pb)) _ (fun w' hw'=> A6 HRA.out.2 w' hw') Tryz.underlying29 rfl (A8 _ _ _ _ _) ?_;go_simp;go_big_quiet_on)|(go_big_quiet_op;(first|go_big_quiet_on|(apply Exists.intro;refine⟨fun _=> ?_,?_⟩;(focus (first|(go_at_call 20;with_reducible exact AT (C1.out _))));go_big_quiet_on))))))
   refine wpQuiet_nil ?_
   intro w9 hw9
   obtain⟨x9,rfl⟩:=hw9
   clear c4 d4 C1
   have HW:=Ag (show Below w.heap.size w (Bf wr x9)∧Blk (Bf wr x9) w.heap.size 29 (tmC k u n s (.slice (some ⟨b1,o1,none⟩) l c))∧Blk (Bf wr x9) a1.heap.size 29 (tmC k' u' n' s' (.slice (some ⟨b2,o2,none⟩) m d)) from⟨An HZ.out.1 (AN wr x9) (Ah _),HZ.out.2.1.below (AN wr x9) HZ.out.2.1.lt,HZ.out.2.2.below (AN wr x9) HZ.out.2.2.lt⟩)
   generalize Bf wr x9=wz at HW ⊢
   cases rb
   ·have HE:=Ag (show R=false from by rw[←HQ2.out,DJ,HRB.out,Bool.false_and])
    go_wp2_with fail
    go_ret
    exact⟨by rw[HE.out];rfl,HW.out.1⟩
   ·have HQ3:=Ag (show BL (ks.drop (j+1)) (ks'.drop (j+1))=R from by have h:=HQ2.out;rw[DJ,HRB.out,Bool.true_and] at h;exact h)
    go_wp2_with fail
    go_roundw
    case rel=> exact⟨j+1,by go_num,by omega,HQ3,HW⟩
    case measure=> simp[intOf];omega
  ·have hge:¬ (j:Int)<(l:Int):=by omega
   have HE:=Ag (show R=true from by rw[←HQ.out,List.drop_of_length_le (by rw[HM.out];omega),List.drop_of_length_le (by rw[HN.out,←HMN.out];omega),BL])
   go_wp2_with fail
   go_ret
   exact⟨by rw[HE.out];rfl,HZ.out.1⟩
end Go.Proofs.YtgdlfiphihaooaaGreat

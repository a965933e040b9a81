import Derived.Test.YtgdlfiphihaooaaGreatYq30
set_option linter.unusedSimpArgs false
set_option linter.unusedVariables false
set_option maxRecDepth 100000
set_option maxHeartbeats 8000000
open _root_.List renaming getElem?_toArray→Aa,getElem?_cons_zero→Ab,getElem?_cons_succ→Ac,setIfInBounds_toArray→Ad,set_cons_zero→Ae,set_cons_succ→Af
open _root_.Go.Lib renaming hid→Ag
open _root_.Nat renaming le_refl→Ah,le_trans→Aj,lt_of_lt_of_le→Ak
open _root_.And renaming intro→Ai
open _root_.Go.Act renaming put→Al
namespace Go.Proofs.YtgdlfiphihaooaaGreat
open Go Go.RowKit
theorem IA (k u:Int) (s v:ByteArray) (t g:Int) (wr:Bool) (b:Tm) (tc:List Value):(opC ⟨k,u,s,t,g,wr,b⟩ tc).set 2 (.string v)=opC ⟨k,u,v,t,g,wr,b⟩ tc:=rfl
theorem IB (p:OpM) (tc ts:List Value) (h:ts.length=tc.length):AW (opC p tc) 6 ts=opC p ts:=by
 have:=Du (P:=[.int .i64 p.k,.int .i64 p.u,.string p.nm,.int .i64 p.t,.int .i64 p.g,.bool p.wr]) (R:=[]) h
 simp only[List.append_nil] at this
 exact this
theorem Fo (p:OpM) (tco:List Value) (F:Nat→Prop) (w:World) (ht:TmC F w tco p.b):Calls Tryz.prog 8 #[.agg (opC p tco).toArray] w (fun e w'=> ∃ cs' p',e=.returned (.agg cs'.toArray)∧OpC (w.heap.size≤·) w' cs' p'∧Below w.heap.size w w'):=by
 obtain⟨k0,u0,s0,t0,g0,w0,b0⟩:=p
 have HT:=Ag (show TmC F w tco b0 from ht)
 have HTL:=Ag ht.len
 clear ht
 have hz0:(0:Int)≤(s0.size:Int):=by omega
 by_cases hsz25:25<s0.size
 ·skip
  have hz1:(25:Int)<(s0.size:Int):=by omega
  have hz2:¬ ((s0.size:Int)<25):=by omega
  have hz3:¬ ((s0.size:Int)≤25):=by omega
  have hz4:(25:Int)≤(s0.size:Int):=by omega
  go_enter Tryz.func8,Tryz.ntmps8
  go_upto_region 1 with(first
  | ((with_reducible refine Au w rfl 31 (.tmp 0) rfl (opC ⟨k0,u0,s0,t0,g0,w0,b0⟩ tco) rfl ?_);intro a1 hb hbel hsz;have H1:=hJ2 hb hbel;clear hb hbel hsz)
  | ((with_reducible refine Av a1 rfl 31 rfl (opC ⟨0,0,⟨#[]⟩,0,0,false,tm0⟩ (tmC 0 0 0 ⟨#[]⟩ (.slice none 0 0))) Tryz.zeroOp ?_);intro a2 hb hbel hsz;have H2:=hJ3 (H1.out.1.below hbel H1.out.1.lt) (An H1.out.2 hbel (Ah _)) hb;have HG:=hJ2 H1.out.1.lt hb.lt;clear hb hbel hsz))
  try simp only[Al,Ad,Ae,Af]
  have H2b:=Ag (show Blk a2 (w.heap.size) 31 (opC ⟨k0,u0,s0,t0,g0,w0,b0⟩ tco)∧Below w.heap.size w a2∧Blk a2 (a1.heap.size) 31 (opC ⟨0,0,⟨#[]⟩,0,0,false,tm0⟩ (tmC 0 0 0 ⟨#[]⟩ (.slice none 0 0)))∧a2.heap.size≤a2.heap.size from⟨H2.out.1,H2.out.2.1,H2.out.2.2,Ah _⟩)
  clear H1 H2
  go_wp2_with fail
  refine AZ (fun W=> W.cell? ⟨w.heap.size,2,none⟩=some (.string s0)∧W.rangeAt w.heap.size 6 tco) 11 [0,1,2,3,4,5,6,7,8] 5 (by kernel_rfl) rfl (by kernel_rfl) (by kernel_rfl) ⟨H2b.out.1.cell 2,Dm H2b.out.1⟩ ?_
  iterate 9(refine' AH.run ?_ ?_ ?_ ?_;rotate_left 2;(simp only[Aa,Ab,Ac];rfl);rfl;(rintro w' ⟨k0,k1⟩;first|exact AA rfl rfl k1 Tryz.underlying29 rfl (At Tryz.infoTm HTL.out)|(go_simp;with_reducible rfl)|(go_simp;simp only[if_neg (show ¬ (25:Int)<(s0.size:Int) by omega),show(0:Int)≤(s0.size:Int) by omega,Int.le_refl,and_self,if_true];rfl));simp only[Al,Ad,Ae,Af])
  have sm:=(Sm.refl a2).drew
  have HV2:=hJ4 (H2b.out.1.below (sm.below _) H2b.out.1.lt) (An H2b.out.2.1 (sm.below _) (Ah _)) (H2b.out.2.2.1.below (sm.below _) H2b.out.2.2.1.lt) (Aj H2b.out.2.2.2 (sm.below 0).size)
  clear sm
  generalize a2.drew=v1 at HV2 ⊢
  refine AL (by kernel_rfl) AE (fuel:=4) (fun _=> ⟨HV2.out.1.cell 2,Dm HV2.out.1⟩) 10 (by kernel_rfl) ?_
  refine' AH.run ?_ ?_ ?_ ?_;rotate_left 2;(simp only[Aa,Ab,Ac];rfl);rfl;(rintro w' -;go_simp;with_reducible rfl);simp only[Al,Ad,Ae,Af]
  refine' AB 9 (by kernel_rfl) ?_ ?_;rotate_left;(simp only[Aa,Ab,Ac];rfl)
  try simp only[Al,Ad,Ae,Af]
  go_wp2_with fail
  refine(En 6 (by omega) b0 tco F v1 (HT.out.below HV2.out.2.1)).mono ?_
  rintro e' u3 ⟨tcn,tn,rfl,ht,hb⟩
  have K4:=Ag (show Blk u3 (w.heap.size) 31 (opC ⟨k0,u0,s0,t0,g0,w0,b0⟩ tco)∧Below w.heap.size w u3∧Blk u3 (a1.heap.size) 31 (opC ⟨0,0,⟨#[]⟩,0,0,false,tm0⟩ (tmC 0 0 0 ⟨#[]⟩ (.slice none 0 0)))∧a2.heap.size≤u3.heap.size∧TmC (a2.heap.size≤·) u3 tcn tn from⟨HV2.out.1.below hb HV2.out.1.lt,(An HV2.out.2.1 hb (Ah _)),HV2.out.2.2.1.below hb HV2.out.2.2.1.lt,(Aj HV2.out.2.2.2 hb.size),(ht.mono fun i hi=> Aj HV2.out.2.2.2 hi)⟩)
  have HTN:=Ag ht.len
  have HTO:=Ag ht.one
  clear ht hb
  go_wp2_with fail
  refine QK.normal ⟨fun _=> ⟨K4.out.1.cell 2,Dm K4.out.1⟩,?_⟩
  refine' AB 11 (by kernel_rfl) ?_ ?_;rotate_left;(simp only[Aa,Ab,Ac];rfl)
  try simp only[Al,Ad,Ae,Af]
  refine AK u3 rfl 9 (.tmp 13) (.tmp 9) rfl (w.heap.size) 2 31 _ K4.out.1 rfl (.string _) rfl (by simp[opC]) Tryz.sizeStr18 rfl rfl ?_
  intro u5 hb hc hs
  generalize hxs:(opC ⟨k0,u0,s0,t0,g0,w0,b0⟩ tco:List Value).set 2 _=xs3 at hb
  obtain⟨s1,hx1⟩:∃ s1,xs3=opC ⟨k0,u0,s1,t0,g0,w0,b0⟩ tco:=⟨_,by rw[←hxs];exact IA _ _ _ _ _ _ _ _ _⟩
  subst hx1
  have K6:=Ag (show Blk u5 (w.heap.size) 31 (opC ⟨k0,u0,s1,t0,g0,w0,b0⟩ tco)∧Below w.heap.size w u5∧Blk u5 (a1.heap.size) 31 (opC ⟨0,0,⟨#[]⟩,0,0,false,tm0⟩ (tmC 0 0 0 ⟨#[]⟩ (.slice none 0 0)))∧a2.heap.size≤u5.heap.size∧TmC (a2.heap.size≤·) u5 tcn tn from⟨hb,(Aw K4.out.2.1 hc (Ah _) (fun k hk=> by have e:=(show _=_ from hk);have:=HG.out;omega)),K4.out.2.2.1.keep hc (fun e=> absurd (show _=_ from e) (by have:=HG.out;omega)),(Aj K4.out.2.2.2.1 hc.size),(TmC.keep' hc (fun i hi e=> by have e:=(show _=_ from e);have h1:a2.heap.size≤i:=hi;have h2:=HG.out;omega) (fun _ h=> h) _ _ K4.out.2.2.2.2)⟩)
  clear hb hc hs hxs
  refine QK.normal ⟨fun h=> absurd h (by decide),?_⟩
  refine AL (by kernel_rfl) AE (fuel:=1) (fun h=> absurd h (by decide)) 12 (by kernel_rfl) ?_
  refine' AH.run ?_ ?_ ?_ ?_;rotate_left 2;(simp only[Aa,Ab,Ac];rfl);rfl;(rintro w' -;go_simp;with_reducible rfl);simp only[Al,Ad,Ae,Af]
  refine' AB 13 (by kernel_rfl) ?_ ?_;rotate_left;(simp only[Aa,Ab,Ac];rfl)
  try simp only[Al,Ad,Ae,Af]
  refine Bg u5 rfl 29 (.tmp 14) (.tmp 12) rfl (w.heap.size) 6 31 _ (tcn) (opC ⟨k0,u0,s1,t0,g0,w0,b0⟩ tcn) K6.out.1 rfl rfl (by rw[HTN.out];simp[opC,HTL.out]) (At Tryz.infoTm HTN.out) HTO.out (IB _ _ _ (HTN.out.trans HTL.out.symm)) ?_
  intro u7 hb hc hs
  have K8:=Ag (show Blk u7 (w.heap.size) 31 (opC ⟨k0,u0,s1,t0,g0,w0,b0⟩ tcn)∧Below w.heap.size w u7∧Blk u7 (a1.heap.size) 31 (opC ⟨0,0,⟨#[]⟩,0,0,false,tm0⟩ (tmC 0 0 0 ⟨#[]⟩ (.slice none 0 0)))∧a2.heap.size≤u7.heap.size∧TmC (a2.heap.size≤·) u7 tcn tn from⟨hb,(Aw K6.out.2.1 hc (Ah _) (fun k hk=> by have e:=(show _=_ from hk);have:=HG.out;omega)),K6.out.2.2.1.keep hc (fun e=> absurd (show _=_ from e) (by have:=HG.out;omega)),(Aj K6.out.2.2.2.1 hc.size),(TmC.keep' hc (fun i hi e=> by have e:=(show _=_ from e);have h1:a2.heap.size≤i:=hi;have h2:=HG.out;omega) (fun _ h=> h) _ _ K6.out.2.2.2.2)⟩)
  clear hb hc hs
  refine QK.normal ⟨fun h=> absurd h (by decide),?_⟩
  refine Bc (by kernel_rfl) ?_ _
  refine NoPanic.normal ?_
  have HOL:=Ag (show(opC ⟨k0,u0,s1,t0,g0,w0,b0⟩ tcn).length=11 from by simp[opC,HTN.out])
  have HOZ:=Ag (show(opC ⟨k0,u0,s1,t0,g0,w0,b0⟩ tcn).length=(opC ⟨0,0,⟨#[]⟩,0,0,false,tm0⟩ (tmC 0 0 0 ⟨#[]⟩ (.slice none 0 0))).length from by simp[opC,HTN.out,tmC])
  go_wp2_with (first
  | (with_reducible refine Ap rfl 31 (.tmp 1) rfl (w.heap.size) 0 rfl (opC ⟨k0,u0,s1,t0,g0,w0,b0⟩ tcn) _ (As K8.out.1) Tryz.underlying31 rfl (At Tryz.infoOp HOL.out) ?_)
  | ((with_reducible refine Ao u7 rfl 31 (.tmp 2) (.tmp 15) rfl (a1.heap.size) 31 (opC ⟨0,0,⟨#[]⟩,0,0,false,tm0⟩ (tmC 0 0 0 ⟨#[]⟩ (.slice none 0 0))) (opC ⟨k0,u0,s1,t0,g0,w0,b0⟩ tcn) K8.out.2.2.1 rfl rfl HOZ.out (At Tryz.infoOp HOL.out) (Ek HTO.out) ?_);intro y3 hb hc hs;have HY3:=Ag (show Blk y3 (a1.heap.size) 31 (opC ⟨k0,u0,s1,t0,g0,w0,b0⟩ tcn)∧TmC (a2.heap.size≤·) y3 tcn tn∧Below w.heap.size w y3 from⟨hb,(TmC.keep' hc (fun i hi e=> by have e:=(show _=_ from e);have h1:a2.heap.size≤i:=hi;have h2:=HG.out;omega) (fun _ h=> h) _ _ K8.out.2.2.2.2),(Aw K8.out.2.1 hc (Ah _) (fun k hk=> by have e:=(show _=_ from hk);have:=HG.out;omega))⟩);clear hb hc hs))
  refine bodyPost_ret (AC Tryz.results8 _ _ (a1.heap.size) _ _ rfl HY3.out.1 _ Tryz.underlying31 rfl (At Tryz.infoOp HOL.out)) rfl ?_
  exact⟨_,⟨k0,u0,s1,t0,g0,w0,tn⟩,rfl,⟨tcn,rfl,HY3.out.2.1.mono fun i hi=> by have h1:a2.heap.size≤i:=hi;have h2:=HG.out;show w.heap.size≤i;omega⟩,HY3.out.2.2⟩
 ·skip
  have hz1:(s0.size:Int)≤25:=by omega
  have hz2:¬ ((25:Int)<(s0.size:Int)):=by omega
  have hz3:(0:Int)≤(s0.size:Int):=by omega
  have hz4:(s0.size:Int)≤(s0.size:Int):=by omega
  go_enter Tryz.func8,Tryz.ntmps8
  go_upto_region 1 with(first
  | ((with_reducible refine Au w rfl 31 (.tmp 0) rfl (opC ⟨k0,u0,s0,t0,g0,w0,b0⟩ tco) rfl ?_);intro a1 hb hbel hsz;have H1:=hJ2 hb hbel;clear hb hbel hsz)
  | ((with_reducible refine Av a1 rfl 31 rfl (opC ⟨0,0,⟨#[]⟩,0,0,false,tm0⟩ (tmC 0 0 0 ⟨#[]⟩ (.slice none 0 0))) Tryz.zeroOp ?_);intro a2 hb hbel hsz;have H2:=hJ3 (H1.out.1.below hbel H1.out.1.lt) (An H1.out.2 hbel (Ah _)) hb;have HG:=hJ2 H1.out.1.lt hb.lt;clear hb hbel hsz))
  try simp only[Al,Ad,Ae,Af]
  have H2b:=Ag (show Blk a2 (w.heap.size) 31 (opC ⟨k0,u0,s0,t0,g0,w0,b0⟩ tco)∧Below w.heap.size w a2∧Blk a2 (a1.heap.size) 31 (opC ⟨0,0,⟨#[]⟩,0,0,false,tm0⟩ (tmC 0 0 0 ⟨#[]⟩ (.slice none 0 0)))∧a2.heap.size≤a2.heap.size from⟨H2.out.1,H2.out.2.1,H2.out.2.2,Ah _⟩)
  clear H1 H2
  go_wp2_with fail
  refine AZ (fun W=> W.cell? ⟨w.heap.size,2,none⟩=some (.string s0)∧W.rangeAt w.heap.size 6 tco) 11 [0,1,2,3,4,5,6,7,8] 5 (by kernel_rfl) rfl (by kernel_rfl) (by kernel_rfl) ⟨H2b.out.1.cell 2,Dm H2b.out.1⟩ ?_
  iterate 9(refine' AH.run ?_ ?_ ?_ ?_;rotate_left 2;(simp only[Aa,Ab,Ac];rfl);rfl;(rintro w' ⟨k0,k1⟩;first|exact AA rfl rfl k1 Tryz.underlying29 rfl (At Tryz.infoTm HTL.out)|(go_simp;with_reducible rfl)|(go_simp;simp only[if_neg (show ¬ (25:Int)<(s0.size:Int) by omega),show(0:Int)≤(s0.size:Int) by omega,Int.le_refl,and_self,if_true];rfl));simp only[Al,Ad,Ae,Af])
  have sm:=(Sm.refl a2).drew
  have HV10:=hJ4 (H2b.out.1.below (sm.below _) H2b.out.1.lt) (An H2b.out.2.1 (sm.below _) (Ah _)) (H2b.out.2.2.1.below (sm.below _) H2b.out.2.2.1.lt) (Aj H2b.out.2.2.2 (sm.below 0).size)
  clear sm
  generalize a2.drew=v9 at HV10 ⊢
  refine AL (by kernel_rfl) AE (fuel:=4) (fun _=> ⟨HV10.out.1.cell 2,Dm HV10.out.1⟩) 10 (by kernel_rfl) ?_
  refine' AH.run ?_ ?_ ?_ ?_;rotate_left 2;(simp only[Aa,Ab,Ac];rfl);rfl;(rintro w' -;go_simp;with_reducible rfl);simp only[Al,Ad,Ae,Af]
  refine' AB 9 (by kernel_rfl) ?_ ?_;rotate_left;(simp only[Aa,Ab,Ac];rfl)
  try simp only[Al,Ad,Ae,Af]
  go_wp2_with fail
  refine(En 6 (by omega) b0 tco F v9 (HT.out.below HV10.out.2.1)).mono ?_
  rintro e' u11 ⟨tcn,tn,rfl,ht,hb⟩
  have K12:=Ag (show Blk u11 (w.heap.size) 31 (opC ⟨k0,u0,s0,t0,g0,w0,b0⟩ tco)∧Below w.heap.size w u11∧Blk u11 (a1.heap.size) 31 (opC ⟨0,0,⟨#[]⟩,0,0,false,tm0⟩ (tmC 0 0 0 ⟨#[]⟩ (.slice none 0 0)))∧a2.heap.size≤u11.heap.size∧TmC (a2.heap.size≤·) u11 tcn tn from⟨HV10.out.1.below hb HV10.out.1.lt,(An HV10.out.2.1 hb (Ah _)),HV10.out.2.2.1.below hb HV10.out.2.2.1.lt,(Aj HV10.out.2.2.2 hb.size),(ht.mono fun i hi=> Aj HV10.out.2.2.2 hi)⟩)
  have HTN:=Ag ht.len
  have HTO:=Ag ht.one
  clear ht hb
  go_wp2_with fail
  refine QK.normal ⟨fun _=> ⟨K12.out.1.cell 2,Dm K12.out.1⟩,?_⟩
  refine' AB 11 (by kernel_rfl) ?_ ?_;rotate_left;(simp only[Aa,Ab,Ac];rfl)
  try simp only[Al,Ad,Ae,Af]
  refine AK u11 rfl 9 (.tmp 13) (.tmp 9) rfl (w.heap.size) 2 31 _ K12.out.1 rfl (.string _) rfl (by simp[opC]) Tryz.sizeStr18 rfl rfl ?_
  intro u13 hb hc hs
  generalize hxs:(opC ⟨k0,u0,s0,t0,g0,w0,b0⟩ tco:List Value).set 2 _=xs3 at hb
  obtain⟨s1,hx1⟩:∃ s1,xs3=opC ⟨k0,u0,s1,t0,g0,w0,b0⟩ tco:=⟨_,by rw[←hxs];exact IA _ _ _ _ _ _ _ _ _⟩
  subst hx1
  have K14:=Ag (show Blk u13 (w.heap.size) 31 (opC ⟨k0,u0,s1,t0,g0,w0,b0⟩ tco)∧Below w.heap.size w u13∧Blk u13 (a1.heap.size) 31 (opC ⟨0,0,⟨#[]⟩,0,0,false,tm0⟩ (tmC 0 0 0 ⟨#[]⟩ (.slice none 0 0)))∧a2.heap.size≤u13.heap.size∧TmC (a2.heap.size≤·) u13 tcn tn from⟨hb,(Aw K12.out.2.1 hc (Ah _) (fun k hk=> by have e:=(show _=_ from hk);have:=HG.out;omega)),K12.out.2.2.1.keep hc (fun e=> absurd (show _=_ from e) (by have:=HG.out;omega)),(Aj K12.out.2.2.2.1 hc.size),(TmC.keep' hc (fun i hi e=> by have e:=(show _=_ from e);have h1:a2.heap.size≤i:=hi;have h2:=HG.out;omega) (fun _ h=> h) _ _ K12.out.2.2.2.2)⟩)
  clear hb hc hs hxs
  refine QK.normal ⟨fun h=> absurd h (by decide),?_⟩
  refine AL (by kernel_rfl) AE (fuel:=1) (fun h=> absurd h (by decide)) 12 (by kernel_rfl) ?_
  refine' AH.run ?_ ?_ ?_ ?_;rotate_left 2;(simp only[Aa,Ab,Ac];rfl);rfl;(rintro w' -;go_simp;with_reducible rfl);simp only[Al,Ad,Ae,Af]
  refine' AB 13 (by kernel_rfl) ?_ ?_;rotate_left;(simp only[Aa,Ab,Ac];rfl)
  try simp only[Al,Ad,Ae,Af]
  refine Bg u13 rfl 29 (.tmp 14) (.tmp 12) rfl (w.heap.size) 6 31 _ (tcn) (opC ⟨k0,u0,s1,t0,g0,w0,b0⟩ tcn) K14.out.1 rfl rfl (by rw[HTN.out];simp[opC,HTL.out]) (At Tryz.infoTm HTN.out) HTO.out (IB _ _ _ (HTN.out.trans HTL.out.symm)) ?_
  intro u15 hb hc hs
  have K16:=Ag (show Blk u15 (w.heap.size) 31 (opC ⟨k0,u0,s1,t0,g0,w0,b0⟩ tcn)∧Below w.heap.size w u15∧Blk u15 (a1.heap.size) 31 (opC ⟨0,0,⟨#[]⟩,0,0,false,tm0⟩ (tmC 0 0 0 ⟨#[]⟩ (.slice none 0 0)))∧a2.heap.size≤u15.heap.size∧TmC (a2.heap.size≤·) u15 tcn tn from⟨hb,(Aw K14.out.2.1 hc (Ah _) (fun k hk=> by have e:=(show _=_ from hk);have:=HG.out;omega)),K14.out.2.2.1.keep hc (fun e=> absurd (show _=_ from e) (by have:=HG.out;omega)),(Aj K14.out.2.2.2.1 hc.size),(TmC.keep' hc (fun i hi e=> by have e:=(show _=_ from e);have h1:a2.heap.size≤i:=hi;have h2:=HG.out;omega) (fun _ h=> h) _ _ K14.out.2.2.2.2)⟩)
  clear hb hc hs
  refine QK.normal ⟨fun h=> absurd h (by decide),?_⟩
  refine Bc (by kernel_rfl) ?_ _
  refine NoPanic.normal ?_
  have HOL:=Ag (show(opC ⟨k0,u0,s1,t0,g0,w0,b0⟩ tcn).length=11 from by simp[opC,HTN.out])
  have HOZ:=Ag (show(opC ⟨k0,u0,s1,t0,g0,w0,b0⟩ tcn).length=(opC ⟨0,0,⟨#[]⟩,0,0,false,tm0⟩ (tmC 0 0 0 ⟨#[]⟩ (.slice none 0 0))).length from by simp[opC,HTN.out,tmC])
  go_wp2_with (first
  | (with_reducible refine Ap rfl 31 (.tmp 1) rfl (w.heap.size) 0 rfl (opC ⟨k0,u0,s1,t0,g0,w0,b0⟩ tcn) _ (As K16.out.1) Tryz.underlying31 rfl (At Tryz.infoOp HOL.out) ?_)
  | ((with_reducible refine Ao u15 rfl 31 (.tmp 2) (.tmp 15) rfl (a1.heap.size) 31 (opC ⟨0,0,⟨#[]⟩,0,0,false,tm0⟩ (tmC 0 0 0 ⟨#[]⟩ (.slice none 0 0))) (opC ⟨k0,u0,s1,t0,g0,w0,b0⟩ tcn) K16.out.2.2.1 rfl rfl HOZ.out (At Tryz.infoOp HOL.out) (Ek HTO.out) ?_);intro y3 hb hc hs;have HY3:=Ag (show Blk y3 (a1.heap.size) 31 (opC ⟨k0,u0,s1,t0,g0,w0,b0⟩ tcn)∧TmC (a2.heap.size≤·) y3 tcn tn∧Below w.heap.size w y3 from⟨hb,(TmC.keep' hc (fun i hi e=> by have e:=(show _=_ from e);have h1:a2.heap.size≤i:=hi;have h2:=HG.out;omega) (fun _ h=> h) _ _ K16.out.2.2.2.2),(Aw K16.out.2.1 hc (Ah _) (fun k hk=> by have e:=(show _=_ from hk);have:=HG.out;omega))⟩);clear hb hc hs))
  refine bodyPost_ret (AC Tryz.results8 _ _ (a1.heap.size) _ _ rfl HY3.out.1 _ Tryz.underlying31 rfl (At Tryz.infoOp HOL.out)) rfl ?_
  exact⟨_,⟨k0,u0,s1,t0,g0,w0,tn⟩,rfl,⟨tcn,rfl,HY3.out.2.1.mono fun i hi=> by have h1:a2.heap.size≤i:=hi;have h2:=HG.out;show w.heap.size≤i;omega⟩,HY3.out.2.2⟩
end Go.Proofs.YtgdlfiphihaooaaGreat

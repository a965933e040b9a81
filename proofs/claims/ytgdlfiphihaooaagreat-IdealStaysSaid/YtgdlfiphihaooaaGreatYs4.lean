import Derived.Test.YtgdlfiphihaooaaGreatYs3
set_option linter.unusedSimpArgs false
set_option linter.unusedVariables false
set_option maxRecDepth 100000
set_option maxHeartbeats 8000000
open _root_.List renaming getElem?_toArray→Aa,getElem?_cons_zero→Ab,getElem?_cons_succ→Ac,setIfInBounds_toArray→Ad,set_cons_zero→Ae,set_cons_succ→Af
open _root_.Go.Lib renaming hid→Ag
open _root_.Nat renaming le_refl→Ah,le_trans→Aj,lt_of_lt_of_le→Ak
open _root_.And renaming intro→Ai
open _root_.Go.Act renaming put→Al
namespace Go.Proofs.YtgdlfiphihaooaaGreat
open Go Go.RowKit Go.Sort
def PmE (p:PmD):Prop:=1≤p.e∧p.e≤8
def Cg (p:PmD) (by' n:Int):Int × PmD:=if by'≠p.o then (211,p) else if BB n=false then (2,p) else if inB p.g n=true then (5,p) else (0,{p with g:=Bs p.g n})
def CO (p:PmD) (by' n:Int):Int × PmD:=if by'≠p.o then (211,p) else if BB n=false then (2,p) else if inB p.g n=false then (4,p) else BN {p with g:=Bb (n==·) p.g}
def DO (p:PmD) (by' who:Int):Int × PmD:=if by'≠p.o then (211,p) else if AX who=false∨who=p.o then (2,p) else if inB p.r who=false then (4,p) else BN {p with r:=Bb (who==·) p.r,q:=Bb (who==·) p.q}
structure Apart2 (w:World) (b1 b2 g B:Nat) (vr vq vg:Value):Prop where
 n1:b1≠g
 n2:b2≠g
 or:∀ k,vr.ownBlock=some k→k≠g
 oqq:∀ k,vq.ownBlock=some k→k≠g
 ogg:∀ k,vg.ownBlock=some k→k≠g
 ab:BD B vr vq vg
 hB:B≤w.heap.size
theorem FF (p:PmD) (by_ who:Int) (b1 b2 g B:Nat) (vr vq vg:Value) (w:World) (hb:Blk w g 43 (pmC p.o p.e vr vq vg)) (hp:PmS w p vr vq vg) (hn:Off g vr vq vg) (hB:BD B vr vq vg) (hBw:B≤w.heap.size) (hR:PmR p) (hE:PmE p)
  (k1:w.cell? ⟨b1,0,none⟩=some (.int .i64 by_)) (n1:b1≠g) (k2:w.cell? ⟨b2,0,none⟩=some (.int .i64 who)) (n2:b2≠g):
  Calls Tryz.prog 111 #[.pointer (some ⟨g,0,none⟩),.pointer (some ⟨b1,0,none⟩),.pointer (some ⟨b2,0,none⟩)] w (fun e w'=> En w g B (Cg p by_ who) e w'):=by
 obtain⟨ra,rc,rfl,-⟩:=hp.1.nums
 obtain⟨qa,qc,rfl,-⟩:=hp.2.1.nums
 obtain⟨ga,gc,rfl,-⟩:=hp.2.2.nums
 obtain⟨o,pe,pr,pq,pg⟩:=p
 simp only at hb hp hn hB hR hE ⊢
 generalize pr.length=rl at hb hp hn hB ⊢
 generalize pq.length=ql at hb hp hn hB ⊢
 generalize pg.length=gl at hb hp hn hB ⊢
 have HN:=Ag (show Apart2 w b1 b2 g B (Value.slice ra rl rc) (Value.slice qa ql qc) (Value.slice ga gl gc) from⟨n1,n2,hn.1,hn.2.1,hn.2.2,hB,hBw⟩)
 have HR:=Ag (Ai hR hE)
 have H0:=Ag (show Blk w g 43 (pmC o pe (Value.slice ra rl rc) (Value.slice qa ql qc) (Value.slice ga gl gc))∧Sl w (Value.slice ra rl rc) (ofK .i64 pr)∧Sl w (Value.slice qa ql qc) (ofK .i64 pq)∧Sl w (Value.slice ga gl gc) (ofK .i64 pg)∧Ch (·=g) w w∧w.cell? ⟨b1,0,none⟩=some (.int .i64 by_)∧w.cell? ⟨b2,0,none⟩=some (.int .i64 who) from⟨hb,hp.1,hp.2.1,hp.2.2,Ch.refl _ _,k1,k2⟩)
 obtain⟨R,hRR⟩:∃ R,Cg ⟨o,pe,pr,pq,pg⟩ by_ who=R:=⟨_,rfl⟩
 have HRR:=Ag (show(if by_≠o then (211,⟨o,pe,pr,pq,pg⟩) else if BB who=false then (2,⟨o,pe,pr,pq,pg⟩) else if inB pg who=true then (5,⟨o,pe,pr,pq,pg⟩) else (0,(⟨o,pe,pr,pq,Bs pg who⟩:PmD)))=R from hRR)
 rw[hRR]
 have HU:=Ag (E7 who)
 obtain⟨u,hu⟩:∃ b,BB who=b:=⟨_,rfl⟩
 obtain⟨m,hm⟩:∃ b,inB pg who=b:=⟨_,rfl⟩
 rw[hu,hm] at HRR
 rw[hu] at HU
 have HM:=Ag (show pg.any (who==·)=m from hm)
 clear hb hp hn hB hR hE k1 n1 k2 n2 hBw hRR hu hm
 by_cases h1:by_=o
 ·have t1:(by_ !=o)=false:=by simpa using h1
  rw[if_neg (by simpa using h1)] at HRR
  clear h1
  cases u
  ·have HE:=Ag (show R=(2,⟨o,pe,pr,pq,pg⟩) from by rw[←HRR.out,if_pos rfl])
   go_enter Tryz.func111,Tryz.ntmps111
   have c0:=H0.out.1.cell 0
   simp only[pmC,Ab,Ac] at c0
   have k1:=H0.out.2.2.2.2.2.1
   have k2:=H0.out.2.2.2.2.2.2
   go_wp2_with fail
   go_quiet (fail)
   rename_i nq
   clear c0 k1 k2
   have sm:=(Sm.refl w).drewN nq
   have H2:=hJ7 (H0.out.1.below (sm.below _) H0.out.1.lt) (H0.out.2.1.below (sm.below _) (Ah _)) (H0.out.2.2.1.below (sm.below _) (Ah _)) (H0.out.2.2.2.1.below (sm.below _) (Ah _)) (H0.out.2.2.2.2.1.trans (Ch.of_below (sm.below _) (Ah _))) (((sm.below _).cell (p:=⟨b1,0,none⟩) (Am H0.out.2.2.2.2.2.1)).trans H0.out.2.2.2.2.2.1) (((sm.below _).cell (p:=⟨b2,0,none⟩) (Am H0.out.2.2.2.2.2.2)).trans H0.out.2.2.2.2.2.2)
   clear sm
   generalize w.drewN nq=w1 at H2 ⊢
   clear nq
   have c4:=H2.out.1.cell 4
   simp only[pmC,Ab,Ac] at c4
   have k1:=H2.out.2.2.2.2.2.1
   have k2:=H2.out.2.2.2.2.2.2
   go_wp2_with fail
   refine(HU.out w1).mono ?_
   rintro e w' ⟨rfl,rfl⟩
   clear c4 k1 k2
   go_wp2_with fail
   go_ret
   rw[HE.out]
   exact⟨rfl,_,_,_,H2.out.1,⟨H2.out.2.1,H2.out.2.2.1,H2.out.2.2.2.1⟩,H2.out.2.2.2.2.1,HN.out.ab⟩
  ·rw[if_neg (by simp)] at HRR
   cases m
   ·rw[if_neg (by simp)] at HRR
    go_enter Tryz.func111,Tryz.ntmps111
    have c0:=H0.out.1.cell 0
    simp only[pmC,Ab,Ac] at c0
    have k1:=H0.out.2.2.2.2.2.1
    have k2:=H0.out.2.2.2.2.2.2
    go_wp2_with fail
    go_quiet (fail)
    rename_i nq
    clear c0 k1 k2
    have sm:=(Sm.refl w).drewN nq
    have H4:=hJ7 (H0.out.1.below (sm.below _) H0.out.1.lt) (H0.out.2.1.below (sm.below _) (Ah _)) (H0.out.2.2.1.below (sm.below _) (Ah _)) (H0.out.2.2.2.1.below (sm.below _) (Ah _)) (H0.out.2.2.2.2.1.trans (Ch.of_below (sm.below _) (Ah _))) (((sm.below _).cell (p:=⟨b1,0,none⟩) (Am H0.out.2.2.2.2.2.1)).trans H0.out.2.2.2.2.2.1) (((sm.below _).cell (p:=⟨b2,0,none⟩) (Am H0.out.2.2.2.2.2.2)).trans H0.out.2.2.2.2.2.2)
    clear sm
    generalize w.drewN nq=w3 at H4 ⊢
    clear nq
    have c4:=H4.out.1.cell 4
    simp only[pmC,Ab,Ac] at c4
    have k1:=H4.out.2.2.2.2.2.1
    have k2:=H4.out.2.2.2.2.2.2
    go_wp2_with fail
    refine(HU.out w3).mono ?_
    rintro e w' ⟨rfl,rfl⟩
    clear c4 k1 k2
    have HCa:=Ag (fun n=> AV who (Value.slice ga gl gc) pg (World.drewN w3 n) (((Sm.refl w3).drewN n).sl H4.out.2.2.2.1))
    rw[HM.out] at HCa
    have c4:=H4.out.1.cell 4
    simp only[pmC,Ab,Ac] at c4
    have k1:=H4.out.2.2.2.2.2.1
    have k2:=H4.out.2.2.2.2.2.2
    go_wp2_with fail
    go_quiet (((go_at_call 12;exact Calls.quiet_eq (HCa.out _))))
    rename_i nq
    clear c4 k1 k2
    have sm:=(Sm.refl w3).drewN nq
    have H6:=hJ7 (H4.out.1.below (sm.below _) H4.out.1.lt) (H4.out.2.1.below (sm.below _) (Ah _)) (H4.out.2.2.1.below (sm.below _) (Ah _)) (H4.out.2.2.2.1.below (sm.below _) (Ah _)) (H4.out.2.2.2.2.1.trans (Ch.of_below (sm.below _) (Ah _))) (((sm.below _).cell (p:=⟨b1,0,none⟩) (Am H4.out.2.2.2.2.2.1)).trans H4.out.2.2.2.2.2.1) (((sm.below _).cell (p:=⟨b2,0,none⟩) (Am H4.out.2.2.2.2.2.2)).trans H4.out.2.2.2.2.2.2)
    clear sm
    generalize w3.drewN nq=w5 at H6 ⊢
    clear nq
    clear HCa
    go_wp2_with fail
    refine Az (fun w'=> w'.cell? ⟨b2,0,none⟩=some (.int .i64 who)) [0,1,2,3,5] 5 (by kernel_rfl) rfl (by kernel_rfl) (by kernel_rfl) H6.out.2.2.2.2.2.2 ?_
    iterate 5(refine' AK.run ?_ ?_ ?_ ?_;rotate_left 2;(simp only[Aa,Ab,Ac];rfl);rfl;(rintro w' k0;go_simp;with_reducible rfl);simp only[Al,Ad,Ae,Af])
    have sm:=(Sm.refl w5).drew
    have HV11:=hJ7 (H6.out.1.below (sm.below _) H6.out.1.lt) (H6.out.2.1.below (sm.below _) (Ah _)) (H6.out.2.2.1.below (sm.below _) (Ah _)) (H6.out.2.2.2.1.below (sm.below _) (Ah _)) (H6.out.2.2.2.2.1.trans (Ch.of_below (sm.below _) (Ah _))) (((sm.below _).cell (p:=⟨b1,0,none⟩) (Am H6.out.2.2.2.2.2.1)).trans H6.out.2.2.2.2.2.1) (((sm.below _).cell (p:=⟨b2,0,none⟩) (Am H6.out.2.2.2.2.2.2)).trans H6.out.2.2.2.2.2.2)
    clear sm
    generalize w5.drew=v10 at HV11 ⊢
    refine' Ar 4 (by kernel_rfl) ?_ ?_;rotate_left;(simp only[Aa,Ab,Ac];rfl)
    have cc:=HV11.out.1.cell 4
    simp only[pmC,Ab,Ac] at cc
    try simp only[Al]
    go_wp2_with fail
    clear cc
    refine QK.normal ⟨HV11.out.2.2.2.2.2.2,?_⟩
    refine' Ar 6 (by kernel_rfl) ?_ ?_;rotate_left;(simp only[Aa,Ab,Ac];rfl)
    try simp only[Al]
    go_wp2_with fail
    refine(Du who (Value.slice ga gl gc) pg v10 HV11.out.2.2.2.1 HR.out.1.2.2.1 HR.out.1.2.2.2.2.2).mono ?_
    rintro e' u12 ⟨xa7,xl8,xc9,rfl,hs,hb,hab⟩
    have HO:=Ag (show(∀ k,(Value.slice xa7 xl8 xc9).ownBlock=some k→k≠g)∧Abv B (Value.slice xa7 xl8 xc9) from⟨fun k hk e=> by have:=hab k hk;have:=HV11.out.1.lt;omega,fun k hk=> Aj HN.out.hB (Aj HV11.out.2.2.2.2.1.size (hab k hk))⟩)
    have HU13:=hJ8 (HV11.out.1.below hb HV11.out.1.lt) (HV11.out.2.1.below hb (Ah _)) (HV11.out.2.2.1.below hb (Ah _)) (HV11.out.2.2.2.1.below hb (Ah _)) (HV11.out.2.2.2.2.1.trans (Ch.of_below hb (Ah _))) ((hb.cell (p:=⟨b1,0,none⟩) (Am HV11.out.2.2.2.2.2.1)).trans HV11.out.2.2.2.2.2.1) ((hb.cell (p:=⟨b2,0,none⟩) (Am HV11.out.2.2.2.2.2.2)).trans HV11.out.2.2.2.2.2.2) hs
    clear hs hb hab
    go_wp2_with fail
    refine QK.normal ⟨HU13.out.2.2.2.2.2.2.1,?_⟩
    refine' Ar 7 (by kernel_rfl) ?_ ?_;rotate_left;(simp only[Aa,Ab,Ac];rfl)
    try simp only[Al]
    go_wp2_with fail
    refine QK.normal ⟨HU13.out.2.2.2.2.2.2.1,?_⟩
    refine' Ar 8 (by kernel_rfl) ?_ ?_;rotate_left;(simp only[Aa,Ab,Ac];rfl)
    try simp only[Al]
    go_wp2_with fail
    refine QK.normal ⟨HU13.out.2.2.2.2.2.2.1,?_⟩
    refine' Ar 9 (by kernel_rfl) ?_ ?_;rotate_left;(simp only[Aa,Ab,Ac];rfl)
    have cc:=HU13.out.1.cell 4
    have ff:=HU13.out.1.free 4
    simp only[pmC,Ab,Ac] at cc
    try simp only[Al]
    go_wp2_with fail
    clear cc ff
    have hc:=Ch.set u12 ⟨g,4,none⟩ (Value.slice xa7 xl8 xc9)
    have HU15:=Ag (show Blk (u12.setCell ⟨g,4,none⟩ (Value.slice xa7 xl8 xc9)) g 43 (pmC o pe (Value.slice ra rl rc) (Value.slice qa ql qc) (Value.slice xa7 xl8 xc9))∧Sl (u12.setCell ⟨g,4,none⟩ (Value.slice xa7 xl8 xc9)) (Value.slice ra rl rc) (ofK .i64 pr)∧Sl (u12.setCell ⟨g,4,none⟩ (Value.slice xa7 xl8 xc9)) (Value.slice qa ql qc) (ofK .i64 pq)∧Sl (u12.setCell ⟨g,4,none⟩ (Value.slice xa7 xl8 xc9)) (Value.slice xa7 xl8 xc9) (ofK .i64 (Bs pg who))∧Ch (·=g) w (u12.setCell ⟨g,4,none⟩ (Value.slice xa7 xl8 xc9))∧(u12.setCell ⟨g,4,none⟩ (Value.slice xa7 xl8 xc9)).cell? ⟨b1,0,none⟩=some (.int .i64 by_)∧(u12.setCell ⟨g,4,none⟩ (Value.slice xa7 xl8 xc9)).cell? ⟨b2,0,none⟩=some (.int .i64 who) from⟨HU13.out.1.set 4 (Value.slice xa7 xl8 xc9),HU13.out.2.1.keep hc HN.out.or,HU13.out.2.2.1.keep hc HN.out.oqq,HU13.out.2.2.2.2.2.2.2.keep hc HO.out.1,HU13.out.2.2.2.2.1.trans hc,(hc.cell (p:=⟨b1,0,none⟩) (Am HU13.out.2.2.2.2.2.1) (fun e=> HN.out.n1 e)).trans HU13.out.2.2.2.2.2.1,(hc.cell (p:=⟨b2,0,none⟩) (Am HU13.out.2.2.2.2.2.2.1) (fun e=> HN.out.n2 e)).trans HU13.out.2.2.2.2.2.2.1⟩)
    clear hc
    generalize (u12.setCell ⟨g,4,none⟩ (Value.slice xa7 xl8 xc9))=u14 at HU15 ⊢
    refine QK.normal ⟨HU15.out.2.2.2.2.2.2,?_⟩
    refine wpAnyH_done (by kernel_rfl) ?_ _
    refine NoPanic.normal ?_
    go_wp2_with fail
    go_ret
    rw[←HRR.out]
    exact⟨rfl,_,_,_,HU15.out.1,⟨HU15.out.2.1,HU15.out.2.2.1,HU15.out.2.2.2.1⟩,HU15.out.2.2.2.2.1,⟨HN.out.ab.1,HN.out.ab.2.1,HO.out.2⟩⟩
   ·have HE:=Ag (show R=(5,⟨o,pe,pr,pq,pg⟩) from by rw[←HRR.out,if_pos rfl])
    go_enter Tryz.func111,Tryz.ntmps111
    have c0:=H0.out.1.cell 0
    simp only[pmC,Ab,Ac] at c0
    have k1:=H0.out.2.2.2.2.2.1
    have k2:=H0.out.2.2.2.2.2.2
    go_wp2_with fail
    go_quiet (fail)
    rename_i nq
    clear c0 k1 k2
    have sm:=(Sm.refl w).drewN nq
    have H17:=hJ7 (H0.out.1.below (sm.below _) H0.out.1.lt) (H0.out.2.1.below (sm.below _) (Ah _)) (H0.out.2.2.1.below (sm.below _) (Ah _)) (H0.out.2.2.2.1.below (sm.below _) (Ah _)) (H0.out.2.2.2.2.1.trans (Ch.of_below (sm.below _) (Ah _))) (((sm.below _).cell (p:=⟨b1,0,none⟩) (Am H0.out.2.2.2.2.2.1)).trans H0.out.2.2.2.2.2.1) (((sm.below _).cell (p:=⟨b2,0,none⟩) (Am H0.out.2.2.2.2.2.2)).trans H0.out.2.2.2.2.2.2)
    clear sm
    generalize w.drewN nq=w16 at H17 ⊢
    clear nq
    have c4:=H17.out.1.cell 4
    simp only[pmC,Ab,Ac] at c4
    have k1:=H17.out.2.2.2.2.2.1
    have k2:=H17.out.2.2.2.2.2.2
    go_wp2_with fail
    refine(HU.out w16).mono ?_
    rintro e w' ⟨rfl,rfl⟩
    clear c4 k1 k2
    have HCa:=Ag (fun n=> AV who (Value.slice ga gl gc) pg (World.drewN w16 n) (((Sm.refl w16).drewN n).sl H17.out.2.2.2.1))
    rw[HM.out] at HCa
    have c4:=H17.out.1.cell 4
    simp only[pmC,Ab,Ac] at c4
    have k1:=H17.out.2.2.2.2.2.1
    have k2:=H17.out.2.2.2.2.2.2
    go_wp2_with fail
    go_quiet (((go_at_call 12;exact Calls.quiet_eq (HCa.out _))))
    rename_i nq
    clear c4 k1 k2
    have sm:=(Sm.refl w16).drewN nq
    have H19:=hJ7 (H17.out.1.below (sm.below _) H17.out.1.lt) (H17.out.2.1.below (sm.below _) (Ah _)) (H17.out.2.2.1.below (sm.below _) (Ah _)) (H17.out.2.2.2.1.below (sm.below _) (Ah _)) (H17.out.2.2.2.2.1.trans (Ch.of_below (sm.below _) (Ah _))) (((sm.below _).cell (p:=⟨b1,0,none⟩) (Am H17.out.2.2.2.2.2.1)).trans H17.out.2.2.2.2.2.1) (((sm.below _).cell (p:=⟨b2,0,none⟩) (Am H17.out.2.2.2.2.2.2)).trans H17.out.2.2.2.2.2.2)
    clear sm
    generalize w16.drewN nq=w18 at H19 ⊢
    clear nq
    clear HCa
    go_wp2_with fail
    go_ret
    rw[HE.out]
    exact⟨rfl,_,_,_,H19.out.1,⟨H19.out.2.1,H19.out.2.2.1,H19.out.2.2.2.1⟩,H19.out.2.2.2.2.1,HN.out.ab⟩
 ·have HE:=Ag (show R=(211,⟨o,pe,pr,pq,pg⟩) from by rw[←HRR.out,if_pos h1])
  have t1:(by_ !=o)=true:=by simpa using h1
  clear h1
  go_enter Tryz.func111,Tryz.ntmps111
  have c0:=H0.out.1.cell 0
  simp only[pmC,Ab,Ac] at c0
  have k1:=H0.out.2.2.2.2.2.1
  have k2:=H0.out.2.2.2.2.2.2
  go_wp2_with fail
  go_quiet (fail)
  rename_i nq
  clear c0 k1 k2
  have sm:=(Sm.refl w).drewN nq
  have H21:=hJ7 (H0.out.1.below (sm.below _) H0.out.1.lt) (H0.out.2.1.below (sm.below _) (Ah _)) (H0.out.2.2.1.below (sm.below _) (Ah _)) (H0.out.2.2.2.1.below (sm.below _) (Ah _)) (H0.out.2.2.2.2.1.trans (Ch.of_below (sm.below _) (Ah _))) (((sm.below _).cell (p:=⟨b1,0,none⟩) (Am H0.out.2.2.2.2.2.1)).trans H0.out.2.2.2.2.2.1) (((sm.below _).cell (p:=⟨b2,0,none⟩) (Am H0.out.2.2.2.2.2.2)).trans H0.out.2.2.2.2.2.2)
  clear sm
  generalize w.drewN nq=w20 at H21 ⊢
  clear nq
  go_wp2_with fail
  go_ret
  rw[HE.out]
  exact⟨rfl,_,_,_,H21.out.1,⟨H21.out.2.1,H21.out.2.2.1,H21.out.2.2.2.1⟩,H21.out.2.2.2.2.1,HN.out.ab⟩
theorem Gg (p:PmD) (by_ who:Int) (b1 b2 g B:Nat) (vr vq vg:Value) (w:World) (hb:Blk w g 43 (pmC p.o p.e vr vq vg)) (hp:PmS w p vr vq vg) (hn:Off g vr vq vg) (hB:BD B vr vq vg) (hBw:B≤w.heap.size) (hR:PmR p) (hE:PmE p)
  (k1:w.cell? ⟨b1,0,none⟩=some (.int .i64 by_)) (n1:b1≠g) (k2:w.cell? ⟨b2,0,none⟩=some (.int .i64 who)) (n2:b2≠g):
  Calls Tryz.prog 112 #[.pointer (some ⟨g,0,none⟩),.pointer (some ⟨b1,0,none⟩),.pointer (some ⟨b2,0,none⟩)] w (fun e w'=> En w g B (CO p by_ who) e w'):=by
 obtain⟨ra,rc,rfl,-⟩:=hp.1.nums
 obtain⟨qa,qc,rfl,-⟩:=hp.2.1.nums
 obtain⟨ga,gc,rfl,-⟩:=hp.2.2.nums
 obtain⟨o,pe,pr,pq,pg⟩:=p
 simp only at hb hp hn hB hR hE ⊢
 generalize pr.length=rl at hb hp hn hB ⊢
 generalize pq.length=ql at hb hp hn hB ⊢
 generalize pg.length=gl at hb hp hn hB ⊢
 have HN:=Ag (show Apart2 w b1 b2 g B (Value.slice ra rl rc) (Value.slice qa ql qc) (Value.slice ga gl gc) from⟨n1,n2,hn.1,hn.2.1,hn.2.2,hB,hBw⟩)
 have HR:=Ag (Ai hR hE)
 have H0:=Ag (show Blk w g 43 (pmC o pe (Value.slice ra rl rc) (Value.slice qa ql qc) (Value.slice ga gl gc))∧Sl w (Value.slice ra rl rc) (ofK .i64 pr)∧Sl w (Value.slice qa ql qc) (ofK .i64 pq)∧Sl w (Value.slice ga gl gc) (ofK .i64 pg)∧Ch (·=g) w w∧w.cell? ⟨b1,0,none⟩=some (.int .i64 by_)∧w.cell? ⟨b2,0,none⟩=some (.int .i64 who) from⟨hb,hp.1,hp.2.1,hp.2.2,Ch.refl _ _,k1,k2⟩)
 obtain⟨R,hRR⟩:∃ R,CO ⟨o,pe,pr,pq,pg⟩ by_ who=R:=⟨_,rfl⟩
 have HRR:=Ag (show(if by_≠o then (211,⟨o,pe,pr,pq,pg⟩) else if BB who=false then (2,⟨o,pe,pr,pq,pg⟩) else if inB pg who=false then (4,⟨o,pe,pr,pq,pg⟩) else BN (⟨o,pe,pr,pq,Bb (who==·) pg⟩:PmD))=R from hRR)
 rw[hRR]
 have HU:=Ag (E7 who)
 obtain⟨u,hu⟩:∃ b,BB who=b:=⟨_,rfl⟩
 obtain⟨m,hm⟩:∃ b,inB pg who=b:=⟨_,rfl⟩
 rw[hu,hm] at HRR
 rw[hu] at HU
 have HM:=Ag (show pg.any (who==·)=m from hm)
 clear hb hp hn hB hR hE k1 n1 k2 n2 hBw hRR hu hm
 by_cases h1:by_=o
 ·have t1:(by_ !=o)=false:=by simpa using h1
  rw[if_neg (by simpa using h1)] at HRR
  clear h1
  cases u
  ·have HE:=Ag (show R=(2,⟨o,pe,pr,pq,pg⟩) from by rw[←HRR.out,if_pos rfl])
   go_enter Tryz.func112,Tryz.ntmps112
   have c0:=H0.out.1.cell 0
   simp only[pmC,Ab,Ac] at c0
   have k1:=H0.out.2.2.2.2.2.1
   have k2:=H0.out.2.2.2.2.2.2
   go_wp2_with fail
   go_quiet (fail)
   rename_i nq
   clear c0 k1 k2
   have sm:=(Sm.refl w).drewN nq
   have H23:=hJ7 (H0.out.1.below (sm.below _) H0.out.1.lt) (H0.out.2.1.below (sm.below _) (Ah _)) (H0.out.2.2.1.below (sm.below _) (Ah _)) (H0.out.2.2.2.1.below (sm.below _) (Ah _)) (H0.out.2.2.2.2.1.trans (Ch.of_below (sm.below _) (Ah _))) (((sm.below _).cell (p:=⟨b1,0,none⟩) (Am H0.out.2.2.2.2.2.1)).trans H0.out.2.2.2.2.2.1) (((sm.below _).cell (p:=⟨b2,0,none⟩) (Am H0.out.2.2.2.2.2.2)).trans H0.out.2.2.2.2.2.2)
   clear sm
   generalize w.drewN nq=w22 at H23 ⊢
   clear nq
   have c4:=H23.out.1.cell 4
   simp only[pmC,Ab,Ac] at c4
   have k1:=H23.out.2.2.2.2.2.1
   have k2:=H23.out.2.2.2.2.2.2
   go_wp2_with fail
   refine(HU.out w22).mono ?_
   rintro e w' ⟨rfl,rfl⟩
   clear c4 k1 k2
   go_wp2_with fail
   go_ret
   rw[HE.out]
   exact⟨rfl,_,_,_,H23.out.1,⟨H23.out.2.1,H23.out.2.2.1,H23.out.2.2.2.1⟩,H23.out.2.2.2.2.1,HN.out.ab⟩
  ·rw[if_neg (by simp)] at HRR
   cases m
   ·have HE:=Ag (show R=(4,⟨o,pe,pr,pq,pg⟩) from by rw[←HRR.out,if_pos rfl])
    go_enter Tryz.func112,Tryz.ntmps112
    have c0:=H0.out.1.cell 0
    simp only[pmC,Ab,Ac] at c0
    have k1:=H0.out.2.2.2.2.2.1
    have k2:=H0.out.2.2.2.2.2.2
    go_wp2_with fail
    go_quiet (fail)
    rename_i nq
    clear c0 k1 k2
    have sm:=(Sm.refl w).drewN nq
    have H25:=hJ7 (H0.out.1.below (sm.below _) H0.out.1.lt) (H0.out.2.1.below (sm.below _) (Ah _)) (H0.out.2.2.1.below (sm.below _) (Ah _)) (H0.out.2.2.2.1.below (sm.below _) (Ah _)) (H0.out.2.2.2.2.1.trans (Ch.of_below (sm.below _) (Ah _))) (((sm.below _).cell (p:=⟨b1,0,none⟩) (Am H0.out.2.2.2.2.2.1)).trans H0.out.2.2.2.2.2.1) (((sm.below _).cell (p:=⟨b2,0,none⟩) (Am H0.out.2.2.2.2.2.2)).trans H0.out.2.2.2.2.2.2)
    clear sm
    generalize w.drewN nq=w24 at H25 ⊢
    clear nq
    have c4:=H25.out.1.cell 4
    simp only[pmC,Ab,Ac] at c4
    have k1:=H25.out.2.2.2.2.2.1
    have k2:=H25.out.2.2.2.2.2.2
    go_wp2_with fail
    refine(HU.out w24).mono ?_
    rintro e w' ⟨rfl,rfl⟩
    clear c4 k1 k2
    have HCa:=Ag (fun n=> AV who (Value.slice ga gl gc) pg (World.drewN w24 n) (((Sm.refl w24).drewN n).sl H25.out.2.2.2.1))
    rw[HM.out] at HCa
    have c4:=H25.out.1.cell 4
    simp only[pmC,Ab,Ac] at c4
    have k1:=H25.out.2.2.2.2.2.1
    have k2:=H25.out.2.2.2.2.2.2
    go_wp2_with fail
    go_quiet (((go_at_call 12;exact Calls.quiet_eq (HCa.out _))))
    rename_i nq
    clear c4 k1 k2
    have sm:=(Sm.refl w24).drewN nq
    have H27:=hJ7 (H25.out.1.below (sm.below _) H25.out.1.lt) (H25.out.2.1.below (sm.below _) (Ah _)) (H25.out.2.2.1.below (sm.below _) (Ah _)) (H25.out.2.2.2.1.below (sm.below _) (Ah _)) (H25.out.2.2.2.2.1.trans (Ch.of_below (sm.below _) (Ah _))) (((sm.below _).cell (p:=⟨b1,0,none⟩) (Am H25.out.2.2.2.2.2.1)).trans H25.out.2.2.2.2.2.1) (((sm.below _).cell (p:=⟨b2,0,none⟩) (Am H25.out.2.2.2.2.2.2)).trans H25.out.2.2.2.2.2.2)
    clear sm
    generalize w24.drewN nq=w26 at H27 ⊢
    clear nq
    clear HCa
    go_wp2_with fail
    go_ret
    rw[HE.out]
    exact⟨rfl,_,_,_,H27.out.1,⟨H27.out.2.1,H27.out.2.2.1,H27.out.2.2.2.1⟩,H27.out.2.2.2.2.1,HN.out.ab⟩
   ·rw[if_neg (by simp)] at HRR
    go_enter Tryz.func112,Tryz.ntmps112
    have c0:=H0.out.1.cell 0
    simp only[pmC,Ab,Ac] at c0
    have k1:=H0.out.2.2.2.2.2.1
    have k2:=H0.out.2.2.2.2.2.2
    go_wp2_with fail
    go_quiet (fail)
    rename_i nq
    clear c0 k1 k2
    have sm:=(Sm.refl w).drewN nq
    have H29:=hJ7 (H0.out.1.below (sm.below _) H0.out.1.lt) (H0.out.2.1.below (sm.below _) (Ah _)) (H0.out.2.2.1.below (sm.below _) (Ah _)) (H0.out.2.2.2.1.below (sm.below _) (Ah _)) (H0.out.2.2.2.2.1.trans (Ch.of_below (sm.below _) (Ah _))) (((sm.below _).cell (p:=⟨b1,0,none⟩) (Am H0.out.2.2.2.2.2.1)).trans H0.out.2.2.2.2.2.1) (((sm.below _).cell (p:=⟨b2,0,none⟩) (Am H0.out.2.2.2.2.2.2)).trans H0.out.2.2.2.2.2.2)
    clear sm
    generalize w.drewN nq=w28 at H29 ⊢
    clear nq
    have c4:=H29.out.1.cell 4
    simp only[pmC,Ab,Ac] at c4
    have k1:=H29.out.2.2.2.2.2.1
    have k2:=H29.out.2.2.2.2.2.2
    go_wp2_with fail
    refine(HU.out w28).mono ?_
    rintro e w' ⟨rfl,rfl⟩
    clear c4 k1 k2
    have HCa:=Ag (fun n=> AV who (Value.slice ga gl gc) pg (World.drewN w28 n) (((Sm.refl w28).drewN n).sl H29.out.2.2.2.1))
    rw[HM.out] at HCa
    have c4:=H29.out.1.cell 4
    simp only[pmC,Ab,Ac] at c4
    have k1:=H29.out.2.2.2.2.2.1
    have k2:=H29.out.2.2.2.2.2.2
    go_wp2_with fail
    go_quiet (((go_at_call 12;exact Calls.quiet_eq (HCa.out _))))
    rename_i nq
    clear c4 k1 k2
    have sm:=(Sm.refl w28).drewN nq
    have H31:=hJ7 (H29.out.1.below (sm.below _) H29.out.1.lt) (H29.out.2.1.below (sm.below _) (Ah _)) (H29.out.2.2.1.below (sm.below _) (Ah _)) (H29.out.2.2.2.1.below (sm.below _) (Ah _)) (H29.out.2.2.2.2.1.trans (Ch.of_below (sm.below _) (Ah _))) (((sm.below _).cell (p:=⟨b1,0,none⟩) (Am H29.out.2.2.2.2.2.1)).trans H29.out.2.2.2.2.2.1) (((sm.below _).cell (p:=⟨b2,0,none⟩) (Am H29.out.2.2.2.2.2.2)).trans H29.out.2.2.2.2.2.2)
    clear sm
    generalize w28.drewN nq=w30 at H31 ⊢
    clear nq
    clear HCa
    go_wp2_with fail
    refine Az (fun w'=> w'.cell? ⟨b2,0,none⟩=some (.int .i64 who)) [0,1,2,3,5] 5 (by kernel_rfl) rfl (by kernel_rfl) (by kernel_rfl) H31.out.2.2.2.2.2.2 ?_
    iterate 5(refine' AK.run ?_ ?_ ?_ ?_;rotate_left 2;(simp only[Aa,Ab,Ac];rfl);rfl;(rintro w' k0;go_simp;with_reducible rfl);simp only[Al,Ad,Ae,Af])
    have sm:=(Sm.refl w30).drew
    have HV36:=hJ7 (H31.out.1.below (sm.below _) H31.out.1.lt) (H31.out.2.1.below (sm.below _) (Ah _)) (H31.out.2.2.1.below (sm.below _) (Ah _)) (H31.out.2.2.2.1.below (sm.below _) (Ah _)) (H31.out.2.2.2.2.1.trans (Ch.of_below (sm.below _) (Ah _))) (((sm.below _).cell (p:=⟨b1,0,none⟩) (Am H31.out.2.2.2.2.2.1)).trans H31.out.2.2.2.2.2.1) (((sm.below _).cell (p:=⟨b2,0,none⟩) (Am H31.out.2.2.2.2.2.2)).trans H31.out.2.2.2.2.2.2)
    clear sm
    generalize w30.drew=v35 at HV36 ⊢
    refine' Ar 4 (by kernel_rfl) ?_ ?_;rotate_left;(simp only[Aa,Ab,Ac];rfl)
    have cc:=HV36.out.1.cell 4
    simp only[pmC,Ab,Ac] at cc
    try simp only[Al]
    go_wp2_with fail
    clear cc
    refine QK.normal ⟨HV36.out.2.2.2.2.2.2,?_⟩
    refine' Ar 6 (by kernel_rfl) ?_ ?_;rotate_left;(simp only[Aa,Ab,Ac];rfl)
    try simp only[Al]
    go_wp2_with fail
    refine(B3 who (Value.slice ga gl gc) pg v35 HV36.out.2.2.2.1 HR.out.1.2.2.2.2.2).mono ?_
    rintro e' u37 ⟨xa32,xl33,xc34,rfl,hs,hb,hab⟩
    have HO:=Ag (show(∀ k,(Value.slice xa32 xl33 xc34).ownBlock=some k→k≠g)∧Abv B (Value.slice xa32 xl33 xc34) from⟨fun k hk e=> by have:=hab k hk;have:=HV36.out.1.lt;omega,fun k hk=> Aj HN.out.hB (Aj HV36.out.2.2.2.2.1.size (hab k hk))⟩)
    have HU38:=hJ8 (HV36.out.1.below hb HV36.out.1.lt) (HV36.out.2.1.below hb (Ah _)) (HV36.out.2.2.1.below hb (Ah _)) (HV36.out.2.2.2.1.below hb (Ah _)) (HV36.out.2.2.2.2.1.trans (Ch.of_below hb (Ah _))) ((hb.cell (p:=⟨b1,0,none⟩) (Am HV36.out.2.2.2.2.2.1)).trans HV36.out.2.2.2.2.2.1) ((hb.cell (p:=⟨b2,0,none⟩) (Am HV36.out.2.2.2.2.2.2)).trans HV36.out.2.2.2.2.2.2) hs
    clear hs hb hab
    go_wp2_with fail
    refine QK.normal ⟨HU38.out.2.2.2.2.2.2.1,?_⟩
    refine' Ar 7 (by kernel_rfl) ?_ ?_;rotate_left;(simp only[Aa,Ab,Ac];rfl)
    try simp only[Al]
    go_wp2_with fail
    refine QK.normal ⟨HU38.out.2.2.2.2.2.2.1,?_⟩
    refine' Ar 8 (by kernel_rfl) ?_ ?_;rotate_left;(simp only[Aa,Ab,Ac];rfl)
    try simp only[Al]
    go_wp2_with fail
    refine QK.normal ⟨HU38.out.2.2.2.2.2.2.1,?_⟩
    refine' Ar 9 (by kernel_rfl) ?_ ?_;rotate_left;(simp only[Aa,Ab,Ac];rfl)
    have cc:=HU38.out.1.cell 4
    have ff:=HU38.out.1.free 4
    simp only[pmC,Ab,Ac] at cc
    try simp only[Al]
    go_wp2_with fail
    clear cc ff
    have hc:=Ch.set u37 ⟨g,4,none⟩ (Value.slice xa32 xl33 xc34)
    have HU40:=Ag (show Blk (u37.setCell ⟨g,4,none⟩ (Value.slice xa32 xl33 xc34)) g 43 (pmC o pe (Value.slice ra rl rc) (Value.slice qa ql qc) (Value.slice xa32 xl33 xc34))∧Sl (u37.setCell ⟨g,4,none⟩ (Value.slice xa32 xl33 xc34)) (Value.slice ra rl rc) (ofK .i64 pr)∧Sl (u37.setCell ⟨g,4,none⟩ (Value.slice xa32 xl33 xc34)) (Value.slice qa ql qc) (ofK .i64 pq)∧Sl (u37.setCell ⟨g,4,none⟩ (Value.slice xa32 xl33 xc34)) (Value.slice xa32 xl33 xc34) (ofK .i64 (Bb (who==·) pg))∧Ch (·=g) w (u37.setCell ⟨g,4,none⟩ (Value.slice xa32 xl33 xc34))∧(u37.setCell ⟨g,4,none⟩ (Value.slice xa32 xl33 xc34)).cell? ⟨b1,0,none⟩=some (.int .i64 by_)∧(u37.setCell ⟨g,4,none⟩ (Value.slice xa32 xl33 xc34)).cell? ⟨b2,0,none⟩=some (.int .i64 who) from⟨HU38.out.1.set 4 (Value.slice xa32 xl33 xc34),HU38.out.2.1.keep hc HN.out.or,HU38.out.2.2.1.keep hc HN.out.oqq,HU38.out.2.2.2.2.2.2.2.keep hc HO.out.1,HU38.out.2.2.2.2.1.trans hc,(hc.cell (p:=⟨b1,0,none⟩) (Am HU38.out.2.2.2.2.2.1) (fun e=> HN.out.n1 e)).trans HU38.out.2.2.2.2.2.1,(hc.cell (p:=⟨b2,0,none⟩) (Am HU38.out.2.2.2.2.2.2.1) (fun e=> HN.out.n2 e)).trans HU38.out.2.2.2.2.2.2.1⟩)
    clear hc
    generalize (u37.setCell ⟨g,4,none⟩ (Value.slice xa32 xl33 xc34))=u39 at HU40 ⊢
    refine QK.normal ⟨HU40.out.2.2.2.2.2.2,?_⟩
    refine wpAnyH_done (by kernel_rfl) ?_ _
    refine NoPanic.normal ?_
    go_wp2_with fail
    refine(DY ⟨o,pe,pr,pq,Bb (who==·) pg⟩ g B _ _ _ u39 HU40.out.1 ⟨HU40.out.2.1,HU40.out.2.2.1,HU40.out.2.2.2.1⟩ ⟨HN.out.or,HN.out.oqq,HO.out.1⟩ ⟨HN.out.ab.1,HN.out.ab.2.1,HO.out.2⟩ HR.out.2.1 HR.out.2.2).mono ?_
    rw[HRR.out]
    rintro e uz ⟨rfl,yr,yq,yg,d1,d2,d3,d4⟩
    have HD:=Ag (show En w g B R (.returned (.int .i64 R.1)) uz from⟨rfl,yr,yq,yg,d1,d2,HU40.out.2.2.2.2.1.trans d3,d4⟩)
    clear d1 d2 d3 d4
    go_wp2_with fail
    go_ret
    exact HD.out
 ·have HE:=Ag (show R=(211,⟨o,pe,pr,pq,pg⟩) from by rw[←HRR.out,if_pos h1])
  have t1:(by_ !=o)=true:=by simpa using h1
  clear h1
  go_enter Tryz.func112,Tryz.ntmps112
  have c0:=H0.out.1.cell 0
  simp only[pmC,Ab,Ac] at c0
  have k1:=H0.out.2.2.2.2.2.1
  have k2:=H0.out.2.2.2.2.2.2
  go_wp2_with fail
  go_quiet (fail)
  rename_i nq
  clear c0 k1 k2
  have sm:=(Sm.refl w).drewN nq
  have H42:=hJ7 (H0.out.1.below (sm.below _) H0.out.1.lt) (H0.out.2.1.below (sm.below _) (Ah _)) (H0.out.2.2.1.below (sm.below _) (Ah _)) (H0.out.2.2.2.1.below (sm.below _) (Ah _)) (H0.out.2.2.2.2.1.trans (Ch.of_below (sm.below _) (Ah _))) (((sm.below _).cell (p:=⟨b1,0,none⟩) (Am H0.out.2.2.2.2.2.1)).trans H0.out.2.2.2.2.2.1) (((sm.below _).cell (p:=⟨b2,0,none⟩) (Am H0.out.2.2.2.2.2.2)).trans H0.out.2.2.2.2.2.2)
  clear sm
  generalize w.drewN nq=w41 at H42 ⊢
  clear nq
  go_wp2_with fail
  go_ret
  rw[HE.out]
  exact⟨rfl,_,_,_,H42.out.1,⟨H42.out.2.1,H42.out.2.2.1,H42.out.2.2.2.1⟩,H42.out.2.2.2.2.1,HN.out.ab⟩
theorem JU (p:PmD) (by_ who:Int) (b1 b2 g B:Nat) (vr vq vg:Value) (w:World) (hb:Blk w g 43 (pmC p.o p.e vr vq vg)) (hp:PmS w p vr vq vg) (hn:Off g vr vq vg) (hB:BD B vr vq vg) (hBw:B≤w.heap.size) (hR:PmR p) (hE:PmE p)
  (k1:w.cell? ⟨b1,0,none⟩=some (.int .i64 by_)) (n1:b1≠g) (k2:w.cell? ⟨b2,0,none⟩=some (.int .i64 who)) (n2:b2≠g):
  Calls Tryz.prog 108 #[.pointer (some ⟨g,0,none⟩),.pointer (some ⟨b1,0,none⟩),.pointer (some ⟨b2,0,none⟩)] w (fun e w'=> En w g B (DO p by_ who) e w'):=by
 obtain⟨ra,rc,rfl,-⟩:=hp.1.nums
 obtain⟨qa,qc,rfl,-⟩:=hp.2.1.nums
 obtain⟨ga,gc,rfl,-⟩:=hp.2.2.nums
 obtain⟨o,pe,pr,pq,pg⟩:=p
 simp only at hb hp hn hB hR hE ⊢
 generalize pr.length=rl at hb hp hn hB ⊢
 generalize pq.length=ql at hb hp hn hB ⊢
 generalize pg.length=gl at hb hp hn hB ⊢
 have HN:=Ag (show Apart2 w b1 b2 g B (Value.slice ra rl rc) (Value.slice qa ql qc) (Value.slice ga gl gc) from⟨n1,n2,hn.1,hn.2.1,hn.2.2,hB,hBw⟩)
 have HR:=Ag (Ai hR hE)
 have H0:=Ag (show Blk w g 43 (pmC o pe (Value.slice ra rl rc) (Value.slice qa ql qc) (Value.slice ga gl gc))∧Sl w (Value.slice ra rl rc) (ofK .i64 pr)∧Sl w (Value.slice qa ql qc) (ofK .i64 pq)∧Sl w (Value.slice ga gl gc) (ofK .i64 pg)∧Ch (·=g) w w∧w.cell? ⟨b1,0,none⟩=some (.int .i64 by_)∧w.cell? ⟨b2,0,none⟩=some (.int .i64 who) from⟨hb,hp.1,hp.2.1,hp.2.2,Ch.refl _ _,k1,k2⟩)
 obtain⟨R,hRR⟩:∃ R,DO ⟨o,pe,pr,pq,pg⟩ by_ who=R:=⟨_,rfl⟩
 have HRR:=Ag (show(if by_≠o then (211,⟨o,pe,pr,pq,pg⟩) else if AX who=false∨who=o then (2,⟨o,pe,pr,pq,pg⟩) else if inB pr who=false then (4,⟨o,pe,pr,pq,pg⟩) else BN (⟨o,pe,Bb (who==·) pr,Bb (who==·) pq,pg⟩:PmD))=R from hRR)
 rw[hRR]
 have HU:=Ag (Dr who)
 obtain⟨u,hu⟩:∃ b,AX who=b:=⟨_,rfl⟩
 obtain⟨m,hm⟩:∃ b,inB pr who=b:=⟨_,rfl⟩
 rw[hu,hm] at HRR
 rw[hu] at HU
 have HM:=Ag (show pr.any (who==·)=m from hm)
 clear hb hp hn hB hR hE k1 n1 k2 n2 hBw hRR hu hm
 by_cases h1:by_=o
 ·have t1:(by_ !=o)=false:=by simpa using h1
  rw[if_neg (by simpa using h1)] at HRR
  clear h1
  cases u
  ·have HE:=Ag (show R=(2,⟨o,pe,pr,pq,pg⟩) from by rw[←HRR.out,if_pos (.inl rfl)])
   go_enter Tryz.func108,Tryz.ntmps108
   have c0:=H0.out.1.cell 0
   simp only[pmC,Ab,Ac] at c0
   have k1:=H0.out.2.2.2.2.2.1
   have k2:=H0.out.2.2.2.2.2.2
   go_wp2_with fail
   go_quiet (fail)
   rename_i nq
   clear c0 k1 k2
   have sm:=(Sm.refl w).drewN nq
   have H44:=hJ7 (H0.out.1.below (sm.below _) H0.out.1.lt) (H0.out.2.1.below (sm.below _) (Ah _)) (H0.out.2.2.1.below (sm.below _) (Ah _)) (H0.out.2.2.2.1.below (sm.below _) (Ah _)) (H0.out.2.2.2.2.1.trans (Ch.of_below (sm.below _) (Ah _))) (((sm.below _).cell (p:=⟨b1,0,none⟩) (Am H0.out.2.2.2.2.2.1)).trans H0.out.2.2.2.2.2.1) (((sm.below _).cell (p:=⟨b2,0,none⟩) (Am H0.out.2.2.2.2.2.2)).trans H0.out.2.2.2.2.2.2)
   clear sm
   generalize w.drewN nq=w43 at H44 ⊢
   clear nq
   have c0:=H44.out.1.cell 0
   simp only[pmC,Ab,Ac] at c0
   have k1:=H44.out.2.2.2.2.2.1
   have k2:=H44.out.2.2.2.2.2.2
   go_wp2_with fail
   go_quiet (((go_at_call 52;exact Calls.quiet_eq (HU.out _))))
   rename_i nq
   clear c0 k1 k2
   have sm:=(Sm.refl w43).drewN nq
   have H46:=hJ7 (H44.out.1.below (sm.below _) H44.out.1.lt) (H44.out.2.1.below (sm.below _) (Ah _)) (H44.out.2.2.1.below (sm.below _) (Ah _)) (H44.out.2.2.2.1.below (sm.below _) (Ah _)) (H44.out.2.2.2.2.1.trans (Ch.of_below (sm.below _) (Ah _))) (((sm.below _).cell (p:=⟨b1,0,none⟩) (Am H44.out.2.2.2.2.2.1)).trans H44.out.2.2.2.2.2.1) (((sm.below _).cell (p:=⟨b2,0,none⟩) (Am H44.out.2.2.2.2.2.2)).trans H44.out.2.2.2.2.2.2)
   clear sm
   generalize w43.drewN nq=w45 at H46 ⊢
   clear nq
   go_wp2_with fail
   go_ret
   rw[HE.out]
   exact⟨rfl,_,_,_,H46.out.1,⟨H46.out.2.1,H46.out.2.2.1,H46.out.2.2.2.1⟩,H46.out.2.2.2.2.1,HN.out.ab⟩
  ·by_cases h2:who=o
   ·have HE:=Ag (show R=(2,⟨o,pe,pr,pq,pg⟩) from by rw[←HRR.out,if_pos (.inr h2)])
    have t2:(who==o)=true:=by simpa using h2
    clear h2
    go_enter Tryz.func108,Tryz.ntmps108
    have c0:=H0.out.1.cell 0
    simp only[pmC,Ab,Ac] at c0
    have k1:=H0.out.2.2.2.2.2.1
    have k2:=H0.out.2.2.2.2.2.2
    go_wp2_with fail
    go_quiet (fail)
    rename_i nq
    clear c0 k1 k2
    have sm:=(Sm.refl w).drewN nq
    have H48:=hJ7 (H0.out.1.below (sm.below _) H0.out.1.lt) (H0.out.2.1.below (sm.below _) (Ah _)) (H0.out.2.2.1.below (sm.below _) (Ah _)) (H0.out.2.2.2.1.below (sm.below _) (Ah _)) (H0.out.2.2.2.2.1.trans (Ch.of_below (sm.below _) (Ah _))) (((sm.below _).cell (p:=⟨b1,0,none⟩) (Am H0.out.2.2.2.2.2.1)).trans H0.out.2.2.2.2.2.1) (((sm.below _).cell (p:=⟨b2,0,none⟩) (Am H0.out.2.2.2.2.2.2)).trans H0.out.2.2.2.2.2.2)
    clear sm
    generalize w.drewN nq=w47 at H48 ⊢
    clear nq
    have c0:=H48.out.1.cell 0
    simp only[pmC,Ab,Ac] at c0
    have k1:=H48.out.2.2.2.2.2.1
    have k2:=H48.out.2.2.2.2.2.2
    go_wp2_with fail
    go_quiet (((go_at_call 52;exact Calls.quiet_eq (HU.out _))))
    rename_i nq
    clear c0 k1 k2
    have sm:=(Sm.refl w47).drewN nq
    have H50:=hJ7 (H48.out.1.below (sm.below _) H48.out.1.lt) (H48.out.2.1.below (sm.below _) (Ah _)) (H48.out.2.2.1.below (sm.below _) (Ah _)) (H48.out.2.2.2.1.below (sm.below _) (Ah _)) (H48.out.2.2.2.2.1.trans (Ch.of_below (sm.below _) (Ah _))) (((sm.below _).cell (p:=⟨b1,0,none⟩) (Am H48.out.2.2.2.2.2.1)).trans H48.out.2.2.2.2.2.1) (((sm.below _).cell (p:=⟨b2,0,none⟩) (Am H48.out.2.2.2.2.2.2)).trans H48.out.2.2.2.2.2.2)
    clear sm
    generalize w47.drewN nq=w49 at H50 ⊢
    clear nq
    go_wp2_with fail
    go_ret
    rw[HE.out]
    exact⟨rfl,_,_,_,H50.out.1,⟨H50.out.2.1,H50.out.2.2.1,H50.out.2.2.2.1⟩,H50.out.2.2.2.2.1,HN.out.ab⟩
   ·have t2:(who==o)=false:=by simpa using h2
    rw[if_neg (by rintro(h|h);cases h;exact h2 h)] at HRR
    clear h2
    cases m
    ·have HE:=Ag (show R=(4,⟨o,pe,pr,pq,pg⟩) from by rw[←HRR.out,if_pos rfl])
     go_enter Tryz.func108,Tryz.ntmps108
     have c0:=H0.out.1.cell 0
     simp only[pmC,Ab,Ac] at c0
     have k1:=H0.out.2.2.2.2.2.1
     have k2:=H0.out.2.2.2.2.2.2
     go_wp2_with fail
     go_quiet (fail)
     rename_i nq
     clear c0 k1 k2
     have sm:=(Sm.refl w).drewN nq
     have H52:=hJ7 (H0.out.1.below (sm.below _) H0.out.1.lt) (H0.out.2.1.below (sm.below _) (Ah _)) (H0.out.2.2.1.below (sm.below _) (Ah _)) (H0.out.2.2.2.1.below (sm.below _) (Ah _)) (H0.out.2.2.2.2.1.trans (Ch.of_below (sm.below _) (Ah _))) (((sm.below _).cell (p:=⟨b1,0,none⟩) (Am H0.out.2.2.2.2.2.1)).trans H0.out.2.2.2.2.2.1) (((sm.below _).cell (p:=⟨b2,0,none⟩) (Am H0.out.2.2.2.2.2.2)).trans H0.out.2.2.2.2.2.2)
     clear sm
     generalize w.drewN nq=w51 at H52 ⊢
     clear nq
     have c0:=H52.out.1.cell 0
     simp only[pmC,Ab,Ac] at c0
     have k1:=H52.out.2.2.2.2.2.1
     have k2:=H52.out.2.2.2.2.2.2
     go_wp2_with fail
     go_quiet (((go_at_call 52;exact Calls.quiet_eq (HU.out _))))
     rename_i nq
     clear c0 k1 k2
     have sm:=(Sm.refl w51).drewN nq
     have H54:=hJ7 (H52.out.1.below (sm.below _) H52.out.1.lt) (H52.out.2.1.below (sm.below _) (Ah _)) (H52.out.2.2.1.below (sm.below _) (Ah _)) (H52.out.2.2.2.1.below (sm.below _) (Ah _)) (H52.out.2.2.2.2.1.trans (Ch.of_below (sm.below _) (Ah _))) (((sm.below _).cell (p:=⟨b1,0,none⟩) (Am H52.out.2.2.2.2.2.1)).trans H52.out.2.2.2.2.2.1) (((sm.below _).cell (p:=⟨b2,0,none⟩) (Am H52.out.2.2.2.2.2.2)).trans H52.out.2.2.2.2.2.2)
     clear sm
     generalize w51.drewN nq=w53 at H54 ⊢
     clear nq
     have HCa:=Ag (fun n=> AV who (Value.slice ra rl rc) pr (World.drewN w53 n) (((Sm.refl w53).drewN n).sl H54.out.2.1))
     rw[HM.out] at HCa
     have c2:=H54.out.1.cell 2
     simp only[pmC,Ab,Ac] at c2
     have k1:=H54.out.2.2.2.2.2.1
     have k2:=H54.out.2.2.2.2.2.2
     go_wp2_with fail
     go_quiet (((go_at_call 12;exact Calls.quiet_eq (HCa.out _))))
     rename_i nq
     clear c2 k1 k2
     have sm:=(Sm.refl w53).drewN nq
     have H56:=hJ7 (H54.out.1.below (sm.below _) H54.out.1.lt) (H54.out.2.1.below (sm.below _) (Ah _)) (H54.out.2.2.1.below (sm.below _) (Ah _)) (H54.out.2.2.2.1.below (sm.below _) (Ah _)) (H54.out.2.2.2.2.1.trans (Ch.of_below (sm.below _) (Ah _))) (((sm.below _).cell (p:=⟨b1,0,none⟩) (Am H54.out.2.2.2.2.2.1)).trans H54.out.2.2.2.2.2.1) (((sm.below _).cell (p:=⟨b2,0,none⟩) (Am H54.out.2.2.2.2.2.2)).trans H54.out.2.2.2.2.2.2)
     clear sm
     generalize w53.drewN nq=w55 at H56 ⊢
     clear nq
     clear HCa
     go_wp2_with fail
     go_ret
     rw[HE.out]
     exact⟨rfl,_,_,_,H56.out.1,⟨H56.out.2.1,H56.out.2.2.1,H56.out.2.2.2.1⟩,H56.out.2.2.2.2.1,HN.out.ab⟩
    ·rw[if_neg (by simp)] at HRR
     go_enter Tryz.func108,Tryz.ntmps108
     have c0:=H0.out.1.cell 0
     simp only[pmC,Ab,Ac] at c0
     have k1:=H0.out.2.2.2.2.2.1
     have k2:=H0.out.2.2.2.2.2.2
     go_wp2_with fail
     go_quiet (fail)
     rename_i nq
     clear c0 k1 k2
     have sm:=(Sm.refl w).drewN nq
     have H58:=hJ7 (H0.out.1.below (sm.below _) H0.out.1.lt) (H0.out.2.1.below (sm.below _) (Ah _)) (H0.out.2.2.1.below (sm.below _) (Ah _)) (H0.out.2.2.2.1.below (sm.below _) (Ah _)) (H0.out.2.2.2.2.1.trans (Ch.of_below (sm.below _) (Ah _))) (((sm.below _).cell (p:=⟨b1,0,none⟩) (Am H0.out.2.2.2.2.2.1)).trans H0.out.2.2.2.2.2.1) (((sm.below _).cell (p:=⟨b2,0,none⟩) (Am H0.out.2.2.2.2.2.2)).trans H0.out.2.2.2.2.2.2)
     clear sm
     generalize w.drewN nq=w57 at H58 ⊢
     clear nq
     have c0:=H58.out.1.cell 0
     simp only[pmC,Ab,Ac] at c0
     have k1:=H58.out.2.2.2.2.2.1
     have k2:=H58.out.2.2.2.2.2.2
     go_wp2_with fail
     go_quiet (((go_at_call 52;exact Calls.quiet_eq (HU.out _))))
     rename_i nq
     clear c0 k1 k2
     have sm:=(Sm.refl w57).drewN nq
     have H60:=hJ7 (H58.out.1.below (sm.below _) H58.out.1.lt) (H58.out.2.1.below (sm.below _) (Ah _)) (H58.out.2.2.1.below (sm.below _) (Ah _)) (H58.out.2.2.2.1.below (sm.below _) (Ah _)) (H58.out.2.2.2.2.1.trans (Ch.of_below (sm.below _) (Ah _))) (((sm.below _).cell (p:=⟨b1,0,none⟩) (Am H58.out.2.2.2.2.2.1)).trans H58.out.2.2.2.2.2.1) (((sm.below _).cell (p:=⟨b2,0,none⟩) (Am H58.out.2.2.2.2.2.2)).trans H58.out.2.2.2.2.2.2)
     clear sm
     generalize w57.drewN nq=w59 at H60 ⊢
     clear nq
     have HCa:=Ag (fun n=> AV who (Value.slice ra rl rc) pr (World.drewN w59 n) (((Sm.refl w59).drewN n).sl H60.out.2.1))
     rw[HM.out] at HCa
     have c2:=H60.out.1.cell 2
     simp only[pmC,Ab,Ac] at c2
     have k1:=H60.out.2.2.2.2.2.1
     have k2:=H60.out.2.2.2.2.2.2
     go_wp2_with fail
     go_quiet (((go_at_call 12;exact Calls.quiet_eq (HCa.out _))))
     rename_i nq
     clear c2 k1 k2
     have sm:=(Sm.refl w59).drewN nq
     have H62:=hJ7 (H60.out.1.below (sm.below _) H60.out.1.lt) (H60.out.2.1.below (sm.below _) (Ah _)) (H60.out.2.2.1.below (sm.below _) (Ah _)) (H60.out.2.2.2.1.below (sm.below _) (Ah _)) (H60.out.2.2.2.2.1.trans (Ch.of_below (sm.below _) (Ah _))) (((sm.below _).cell (p:=⟨b1,0,none⟩) (Am H60.out.2.2.2.2.2.1)).trans H60.out.2.2.2.2.2.1) (((sm.below _).cell (p:=⟨b2,0,none⟩) (Am H60.out.2.2.2.2.2.2)).trans H60.out.2.2.2.2.2.2)
     clear sm
     generalize w59.drewN nq=w61 at H62 ⊢
     clear nq
     clear HCa
     go_wp2_with fail
     refine Az (fun w'=> w'.cell? ⟨b2,0,none⟩=some (.int .i64 who)) [0,1,2,3,4,6,8,9,10,12] 10 (by kernel_rfl) rfl (by kernel_rfl) (by kernel_rfl) H62.out.2.2.2.2.2.2 ?_
     iterate 10(refine' AK.run ?_ ?_ ?_ ?_;rotate_left 2;(simp only[Aa,Ab,Ac];rfl);rfl;(rintro w' k0;go_simp;with_reducible rfl);simp only[Al,Ad,Ae,Af])
     have sm:=(Sm.refl w61).drew
     have HV70:=hJ7 (H62.out.1.below (sm.below _) H62.out.1.lt) (H62.out.2.1.below (sm.below _) (Ah _)) (H62.out.2.2.1.below (sm.below _) (Ah _)) (H62.out.2.2.2.1.below (sm.below _) (Ah _)) (H62.out.2.2.2.2.1.trans (Ch.of_below (sm.below _) (Ah _))) (((sm.below _).cell (p:=⟨b1,0,none⟩) (Am H62.out.2.2.2.2.2.1)).trans H62.out.2.2.2.2.2.1) (((sm.below _).cell (p:=⟨b2,0,none⟩) (Am H62.out.2.2.2.2.2.2)).trans H62.out.2.2.2.2.2.2)
     clear sm
     generalize w61.drew=v69 at HV70 ⊢
     refine' Ck 5 11 (by kernel_rfl) ?_ ?_ ?_ ?_;rotate_left 2;(simp only[Aa,Ab,Ac];rfl);(simp only[Aa,Ab,Ac];rfl)
     ·skip
      have cc:=HV70.out.1.cell 2
      simp only[pmC,Ab,Ac] at cc
      try simp only[Al]
      go_wp2_with fail
      clear cc
      refine QK.normal ⟨HV70.out.2.2.2.2.2.2,?_⟩
      refine' Ck 7 11 (by kernel_rfl) ?_ ?_ ?_ ?_;rotate_left 2;(simp only[Aa,Ab,Ac];rfl);(simp only[Aa,Ab,Ac];rfl)
      ·skip
       try simp only[Al]
       go_wp2_with fail
       refine(B3 who (Value.slice ra rl rc) pr v69 HV70.out.2.1 HR.out.1.2.2.2.1).mono ?_
       rintro e' u71 ⟨xa63,xl64,xc65,rfl,hs,hb,hab⟩
       have HO0:=Ag (show(∀ k,(Value.slice xa63 xl64 xc65).ownBlock=some k→k≠g)∧Abv B (Value.slice xa63 xl64 xc65) from⟨fun k hk e=> by have:=hab k hk;have:=HV70.out.1.lt;omega,fun k hk=> Aj HN.out.hB (Aj HV70.out.2.2.2.2.1.size (hab k hk))⟩)
       have HU72:=hJ8 (HV70.out.1.below hb HV70.out.1.lt) (HV70.out.2.1.below hb (Ah _)) (HV70.out.2.2.1.below hb (Ah _)) (HV70.out.2.2.2.1.below hb (Ah _)) (HV70.out.2.2.2.2.1.trans (Ch.of_below hb (Ah _))) ((hb.cell (p:=⟨b1,0,none⟩) (Am HV70.out.2.2.2.2.2.1)).trans HV70.out.2.2.2.2.2.1) ((hb.cell (p:=⟨b2,0,none⟩) (Am HV70.out.2.2.2.2.2.2)).trans HV70.out.2.2.2.2.2.2) hs
       clear hs hb hab
       go_wp2_with fail
       refine QK.normal ⟨HU72.out.2.2.2.2.2.2.1,?_⟩
       refine' Ar 11 (by kernel_rfl) ?_ ?_;rotate_left;(simp only[Aa,Ab,Ac];rfl)
       have cc:=HU72.out.1.cell 3
       simp only[pmC,Ab,Ac] at cc
       try simp only[Al]
       go_wp2_with fail
       clear cc
       refine QK.normal ⟨HU72.out.2.2.2.2.2.2.1,?_⟩
       refine' Ar 13 (by kernel_rfl) ?_ ?_;rotate_left;(simp only[Aa,Ab,Ac];rfl)
       try simp only[Al]
       go_wp2_with fail
       refine(B3 who (Value.slice qa ql qc) pq u71 HU72.out.2.2.1 HR.out.1.2.2.2.2.1).mono ?_
       rintro e' u73 ⟨xa66,xl67,xc68,rfl,hs,hb,hab⟩
       have HO1:=Ag (show(∀ k,(Value.slice xa66 xl67 xc68).ownBlock=some k→k≠g)∧Abv B (Value.slice xa66 xl67 xc68) from⟨fun k hk e=> by have:=hab k hk;have:=HU72.out.1.lt;omega,fun k hk=> Aj HN.out.hB (Aj HU72.out.2.2.2.2.1.size (hab k hk))⟩)
       have HU74:=hJ9 (HU72.out.1.below hb HU72.out.1.lt) (HU72.out.2.1.below hb (Ah _)) (HU72.out.2.2.1.below hb (Ah _)) (HU72.out.2.2.2.1.below hb (Ah _)) (HU72.out.2.2.2.2.1.trans (Ch.of_below hb (Ah _))) ((hb.cell (p:=⟨b1,0,none⟩) (Am HU72.out.2.2.2.2.2.1)).trans HU72.out.2.2.2.2.2.1) ((hb.cell (p:=⟨b2,0,none⟩) (Am HU72.out.2.2.2.2.2.2.1)).trans HU72.out.2.2.2.2.2.2.1) (HU72.out.2.2.2.2.2.2.2.below hb (Ah _)) hs
       clear hs hb hab
       go_wp2_with fail
       refine QK.normal ⟨HU74.out.2.2.2.2.2.2.1,?_⟩
       refine' Ar 14 (by kernel_rfl) ?_ ?_;rotate_left;(simp only[Aa,Ab,Ac];rfl)
       try simp only[Al]
       go_wp2_with fail
       refine QK.normal ⟨HU74.out.2.2.2.2.2.2.1,?_⟩
       refine' Ar 15 (by kernel_rfl) ?_ ?_;rotate_left;(simp only[Aa,Ab,Ac];rfl)
       try simp only[Al]
       go_wp2_with fail
       refine QK.normal ⟨HU74.out.2.2.2.2.2.2.1,?_⟩
       refine' Ar 16 (by kernel_rfl) ?_ ?_;rotate_left;(simp only[Aa,Ab,Ac];rfl)
       have cc:=HU74.out.1.cell 2
       have ff:=HU74.out.1.free 2
       simp only[pmC,Ab,Ac] at cc
       try simp only[Al]
       go_wp2_with fail
       clear cc ff
       have hc:=Ch.set u73 ⟨g,2,none⟩ (Value.slice xa63 xl64 xc65)
       have HU76:=Ag (show Blk (u73.setCell ⟨g,2,none⟩ (Value.slice xa63 xl64 xc65)) g 43 (pmC o pe (Value.slice xa63 xl64 xc65) (Value.slice qa ql qc) (Value.slice ga gl gc))∧Sl (u73.setCell ⟨g,2,none⟩ (Value.slice xa63 xl64 xc65)) (Value.slice xa63 xl64 xc65) (ofK .i64 (Bb (who==·) pr))∧Sl (u73.setCell ⟨g,2,none⟩ (Value.slice xa63 xl64 xc65)) (Value.slice qa ql qc) (ofK .i64 pq)∧Sl (u73.setCell ⟨g,2,none⟩ (Value.slice xa63 xl64 xc65)) (Value.slice ga gl gc) (ofK .i64 pg)∧Ch (·=g) w (u73.setCell ⟨g,2,none⟩ (Value.slice xa63 xl64 xc65))∧(u73.setCell ⟨g,2,none⟩ (Value.slice xa63 xl64 xc65)).cell? ⟨b1,0,none⟩=some (.int .i64 by_)∧(u73.setCell ⟨g,2,none⟩ (Value.slice xa63 xl64 xc65)).cell? ⟨b2,0,none⟩=some (.int .i64 who)∧Sl (u73.setCell ⟨g,2,none⟩ (Value.slice xa63 xl64 xc65)) (Value.slice xa66 xl67 xc68) (ofK .i64 (Bb (who==·) pq)) from⟨HU74.out.1.set 2 (Value.slice xa63 xl64 xc65),HU74.out.2.2.2.2.2.2.2.1.keep hc HO0.out.1,HU74.out.2.2.1.keep hc HN.out.oqq,HU74.out.2.2.2.1.keep hc HN.out.ogg,HU74.out.2.2.2.2.1.trans hc,(hc.cell (p:=⟨b1,0,none⟩) (Am HU74.out.2.2.2.2.2.1) (fun e=> HN.out.n1 e)).trans HU74.out.2.2.2.2.2.1,(hc.cell (p:=⟨b2,0,none⟩) (Am HU74.out.2.2.2.2.2.2.1) (fun e=> HN.out.n2 e)).trans HU74.out.2.2.2.2.2.2.1,HU74.out.2.2.2.2.2.2.2.2.keep hc HO1.out.1⟩)
       clear hc
       generalize (u73.setCell ⟨g,2,none⟩ (Value.slice xa63 xl64 xc65))=u75 at HU76 ⊢
       refine QK.normal ⟨HU76.out.2.2.2.2.2.2.1,?_⟩
       refine' Ar 17 (by kernel_rfl) ?_ ?_;rotate_left;(simp only[Aa,Ab,Ac];rfl)
       try simp only[Al]
       go_wp2_with fail
       refine QK.normal ⟨HU76.out.2.2.2.2.2.2.1,?_⟩
       refine' Ar 18 (by kernel_rfl) ?_ ?_;rotate_left;(simp only[Aa,Ab,Ac];rfl)
       try simp only[Al]
       go_wp2_with fail
       refine QK.normal ⟨HU76.out.2.2.2.2.2.2.1,?_⟩
       refine' Ar 19 (by kernel_rfl) ?_ ?_;rotate_left;(simp only[Aa,Ab,Ac];rfl)
       have cc:=HU76.out.1.cell 3
       have ff:=HU76.out.1.free 3
       simp only[pmC,Ab,Ac] at cc
       try simp only[Al]
       go_wp2_with fail
       clear cc ff
       have hc:=Ch.set u75 ⟨g,3,none⟩ (Value.slice xa66 xl67 xc68)
       have HU78:=Ag (show Blk (u75.setCell ⟨g,3,none⟩ (Value.slice xa66 xl67 xc68)) g 43 (pmC o pe (Value.slice xa63 xl64 xc65) (Value.slice xa66 xl67 xc68) (Value.slice ga gl gc))∧Sl (u75.setCell ⟨g,3,none⟩ (Value.slice xa66 xl67 xc68)) (Value.slice xa63 xl64 xc65) (ofK .i64 (Bb (who==·) pr))∧Sl (u75.setCell ⟨g,3,none⟩ (Value.slice xa66 xl67 xc68)) (Value.slice xa66 xl67 xc68) (ofK .i64 (Bb (who==·) pq))∧Sl (u75.setCell ⟨g,3,none⟩ (Value.slice xa66 xl67 xc68)) (Value.slice ga gl gc) (ofK .i64 pg)∧Ch (·=g) w (u75.setCell ⟨g,3,none⟩ (Value.slice xa66 xl67 xc68))∧(u75.setCell ⟨g,3,none⟩ (Value.slice xa66 xl67 xc68)).cell? ⟨b1,0,none⟩=some (.int .i64 by_)∧(u75.setCell ⟨g,3,none⟩ (Value.slice xa66 xl67 xc68)).cell? ⟨b2,0,none⟩=some (.int .i64 who) from⟨HU76.out.1.set 3 (Value.slice xa66 xl67 xc68),HU76.out.2.1.keep hc HO0.out.1,HU76.out.2.2.2.2.2.2.2.keep hc HO1.out.1,HU76.out.2.2.2.1.keep hc HN.out.ogg,HU76.out.2.2.2.2.1.trans hc,(hc.cell (p:=⟨b1,0,none⟩) (Am HU76.out.2.2.2.2.2.1) (fun e=> HN.out.n1 e)).trans HU76.out.2.2.2.2.2.1,(hc.cell (p:=⟨b2,0,none⟩) (Am HU76.out.2.2.2.2.2.2.1) (fun e=> HN.out.n2 e)).trans HU76.out.2.2.2.2.2.2.1⟩)
       clear hc
       generalize (u75.setCell ⟨g,3,none⟩ (Value.slice xa66 xl67 xc68))=u77 at HU78 ⊢
       refine QK.normal ⟨HU78.out.2.2.2.2.2.2,?_⟩
       refine wpAnyH_done (by kernel_rfl) ?_ _
       refine NoPanic.normal ?_
       go_wp2_with fail
       refine(DY ⟨o,pe,Bb (who==·) pr,Bb (who==·) pq,pg⟩ g B _ _ _ u77 HU78.out.1 ⟨HU78.out.2.1,HU78.out.2.2.1,HU78.out.2.2.2.1⟩ ⟨HO0.out.1,HO1.out.1,HN.out.ogg⟩ ⟨HO0.out.2,HO1.out.2,HN.out.ab.2.2⟩ HR.out.2.1 HR.out.2.2).mono ?_
       rw[HRR.out]
       rintro e uz ⟨rfl,yr,yq,yg,d1,d2,d3,d4⟩
       have HD:=Ag (show En w g B R (.returned (.int .i64 R.1)) uz from⟨rfl,yr,yq,yg,d1,d2,HU78.out.2.2.2.2.1.trans d3,d4⟩)
       clear d1 d2 d3 d4
       go_wp2_with fail
       go_ret
       exact HD.out
      ·skip
       have cc:=HV70.out.1.cell 3
       simp only[pmC,Ab,Ac] at cc
       try simp only[Al]
       go_wp2_with fail
       clear cc
       refine QK.normal ⟨HV70.out.2.2.2.2.2.2,?_⟩
       refine' Ar 7 (by kernel_rfl) ?_ ?_;rotate_left;(simp only[Aa,Ab,Ac];rfl)
       try simp only[Al]
       go_wp2_with fail
       refine(B3 who (Value.slice ra rl rc) pr v69 HV70.out.2.1 HR.out.1.2.2.2.1).mono ?_
       rintro e' u79 ⟨xa63,xl64,xc65,rfl,hs,hb,hab⟩
       have HO0:=Ag (show(∀ k,(Value.slice xa63 xl64 xc65).ownBlock=some k→k≠g)∧Abv B (Value.slice xa63 xl64 xc65) from⟨fun k hk e=> by have:=hab k hk;have:=HV70.out.1.lt;omega,fun k hk=> Aj HN.out.hB (Aj HV70.out.2.2.2.2.1.size (hab k hk))⟩)
       have HU80:=hJ8 (HV70.out.1.below hb HV70.out.1.lt) (HV70.out.2.1.below hb (Ah _)) (HV70.out.2.2.1.below hb (Ah _)) (HV70.out.2.2.2.1.below hb (Ah _)) (HV70.out.2.2.2.2.1.trans (Ch.of_below hb (Ah _))) ((hb.cell (p:=⟨b1,0,none⟩) (Am HV70.out.2.2.2.2.2.1)).trans HV70.out.2.2.2.2.2.1) ((hb.cell (p:=⟨b2,0,none⟩) (Am HV70.out.2.2.2.2.2.2)).trans HV70.out.2.2.2.2.2.2) hs
       clear hs hb hab
       go_wp2_with fail
       refine QK.normal ⟨HU80.out.2.2.2.2.2.2.1,?_⟩
       refine' Ar 13 (by kernel_rfl) ?_ ?_;rotate_left;(simp only[Aa,Ab,Ac];rfl)
       try simp only[Al]
       go_wp2_with fail
       refine(B3 who (Value.slice qa ql qc) pq u79 HU80.out.2.2.1 HR.out.1.2.2.2.2.1).mono ?_
       rintro e' u81 ⟨xa66,xl67,xc68,rfl,hs,hb,hab⟩
       have HO1:=Ag (show(∀ k,(Value.slice xa66 xl67 xc68).ownBlock=some k→k≠g)∧Abv B (Value.slice xa66 xl67 xc68) from⟨fun k hk e=> by have:=hab k hk;have:=HU80.out.1.lt;omega,fun k hk=> Aj HN.out.hB (Aj HU80.out.2.2.2.2.1.size (hab k hk))⟩)
       have HU82:=hJ9 (HU80.out.1.below hb HU80.out.1.lt) (HU80.out.2.1.below hb (Ah _)) (HU80.out.2.2.1.below hb (Ah _)) (HU80.out.2.2.2.1.below hb (Ah _)) (HU80.out.2.2.2.2.1.trans (Ch.of_below hb (Ah _))) ((hb.cell (p:=⟨b1,0,none⟩) (Am HU80.out.2.2.2.2.2.1)).trans HU80.out.2.2.2.2.2.1) ((hb.cell (p:=⟨b2,0,none⟩) (Am HU80.out.2.2.2.2.2.2.1)).trans HU80.out.2.2.2.2.2.2.1) (HU80.out.2.2.2.2.2.2.2.below hb (Ah _)) hs
       clear hs hb hab
       go_wp2_with fail
       refine QK.normal ⟨HU82.out.2.2.2.2.2.2.1,?_⟩
       refine' Ar 14 (by kernel_rfl) ?_ ?_;rotate_left;(simp only[Aa,Ab,Ac];rfl)
       try simp only[Al]
       go_wp2_with fail
       refine QK.normal ⟨HU82.out.2.2.2.2.2.2.1,?_⟩
       refine' Ar 15 (by kernel_rfl) ?_ ?_;rotate_left;(simp only[Aa,Ab,Ac];rfl)
       try simp only[Al]
       go_wp2_with fail
       refine QK.normal ⟨HU82.out.2.2.2.2.2.2.1,?_⟩
       refine' Ar 16 (by kernel_rfl) ?_ ?_;rotate_left;(simp only[Aa,Ab,Ac];rfl)
       have cc:=HU82.out.1.cell 2
       have ff:=HU82.out.1.free 2
       simp only[pmC,Ab,Ac] at cc
       try simp only[Al]
       go_wp2_with fail
       clear cc ff
       have hc:=Ch.set u81 ⟨g,2,none⟩ (Value.slice xa63 xl64 xc65)
       have HU84:=Ag (show Blk (u81.setCell ⟨g,2,none⟩ (Value.slice xa63 xl64 xc65)) g 43 (pmC o pe (Value.slice xa63 xl64 xc65) (Value.slice qa ql qc) (Value.slice ga gl gc))∧Sl (u81.setCell ⟨g,2,none⟩ (Value.slice xa63 xl64 xc65)) (Value.slice xa63 xl64 xc65) (ofK .i64 (Bb (who==·) pr))∧Sl (u81.setCell ⟨g,2,none⟩ (Value.slice xa63 xl64 xc65)) (Value.slice qa ql qc) (ofK .i64 pq)∧Sl (u81.setCell ⟨g,2,none⟩ (Value.slice xa63 xl64 xc65)) (Value.slice ga gl gc) (ofK .i64 pg)∧Ch (·=g) w (u81.setCell ⟨g,2,none⟩ (Value.slice xa63 xl64 xc65))∧(u81.setCell ⟨g,2,none⟩ (Value.slice xa63 xl64 xc65)).cell? ⟨b1,0,none⟩=some (.int .i64 by_)∧(u81.setCell ⟨g,2,none⟩ (Value.slice xa63 xl64 xc65)).cell? ⟨b2,0,none⟩=some (.int .i64 who)∧Sl (u81.setCell ⟨g,2,none⟩ (Value.slice xa63 xl64 xc65)) (Value.slice xa66 xl67 xc68) (ofK .i64 (Bb (who==·) pq)) from⟨HU82.out.1.set 2 (Value.slice xa63 xl64 xc65),HU82.out.2.2.2.2.2.2.2.1.keep hc HO0.out.1,HU82.out.2.2.1.keep hc HN.out.oqq,HU82.out.2.2.2.1.keep hc HN.out.ogg,HU82.out.2.2.2.2.1.trans hc,(hc.cell (p:=⟨b1,0,none⟩) (Am HU82.out.2.2.2.2.2.1) (fun e=> HN.out.n1 e)).trans HU82.out.2.2.2.2.2.1,(hc.cell (p:=⟨b2,0,none⟩) (Am HU82.out.2.2.2.2.2.2.1) (fun e=> HN.out.n2 e)).trans HU82.out.2.2.2.2.2.2.1,HU82.out.2.2.2.2.2.2.2.2.keep hc HO1.out.1⟩)
       clear hc
       generalize (u81.setCell ⟨g,2,none⟩ (Value.slice xa63 xl64 xc65))=u83 at HU84 ⊢
       refine QK.normal ⟨HU84.out.2.2.2.2.2.2.1,?_⟩
       refine' Ar 17 (by kernel_rfl) ?_ ?_;rotate_left;(simp only[Aa,Ab,Ac];rfl)
       try simp only[Al]
       go_wp2_with fail
       refine QK.normal ⟨HU84.out.2.2.2.2.2.2.1,?_⟩
       refine' Ar 18 (by kernel_rfl) ?_ ?_;rotate_left;(simp only[Aa,Ab,Ac];rfl)
       try simp only[Al]
       go_wp2_with fail
       refine QK.normal ⟨HU84.out.2.2.2.2.2.2.1,?_⟩
       refine' Ar 19 (by kernel_rfl) ?_ ?_;rotate_left;(simp only[Aa,Ab,Ac];rfl)
       have cc:=HU84.out.1.cell 3
       have ff:=HU84.out.1.free 3
       simp only[pmC,Ab,Ac] at cc
       try simp only[Al]
       go_wp2_with fail
       clear cc ff
       have hc:=Ch.set u83 ⟨g,3,none⟩ (Value.slice xa66 xl67 xc68)
       have HU86:=Ag (show Blk (u83.setCell ⟨g,3,none⟩ (Value.slice xa66 xl67 xc68)) g 43 (pmC o pe (Value.slice xa63 xl64 xc65) (Value.slice xa66 xl67 xc68) (Value.slice ga gl gc))∧Sl (u83.setCell ⟨g,3,none⟩ (Value.slice xa66 xl67 xc68)) (Value.slice xa63 xl64 xc65) (ofK .i64 (Bb (who==·) pr))∧Sl (u83.setCell ⟨g,3,none⟩ (Value.slice xa66 xl67 xc68)) (Value.slice xa66 xl67 xc68) (ofK .i64 (Bb (who==·) pq))∧Sl (u83.setCell ⟨g,3,none⟩ (Value.slice xa66 xl67 xc68)) (Value.slice ga gl gc) (ofK .i64 pg)∧Ch (·=g) w (u83.setCell ⟨g,3,none⟩ (Value.slice xa66 xl67 xc68))∧(u83.setCell ⟨g,3,none⟩ (Value.slice xa66 xl67 xc68)).cell? ⟨b1,0,none⟩=some (.int .i64 by_)∧(u83.setCell ⟨g,3,none⟩ (Value.slice xa66 xl67 xc68)).cell? ⟨b2,0,none⟩=some (.int .i64 who) from⟨HU84.out.1.set 3 (Value.slice xa66 xl67 xc68),HU84.out.2.1.keep hc HO0.out.1,HU84.out.2.2.2.2.2.2.2.keep hc HO1.out.1,HU84.out.2.2.2.1.keep hc HN.out.ogg,HU84.out.2.2.2.2.1.trans hc,(hc.cell (p:=⟨b1,0,none⟩) (Am HU84.out.2.2.2.2.2.1) (fun e=> HN.out.n1 e)).trans HU84.out.2.2.2.2.2.1,(hc.cell (p:=⟨b2,0,none⟩) (Am HU84.out.2.2.2.2.2.2.1) (fun e=> HN.out.n2 e)).trans HU84.out.2.2.2.2.2.2.1⟩)
       clear hc
       generalize (u83.setCell ⟨g,3,none⟩ (Value.slice xa66 xl67 xc68))=u85 at HU86 ⊢
       refine QK.normal ⟨HU86.out.2.2.2.2.2.2,?_⟩
       refine wpAnyH_done (by kernel_rfl) ?_ _
       refine NoPanic.normal ?_
       go_wp2_with fail
       refine(DY ⟨o,pe,Bb (who==·) pr,Bb (who==·) pq,pg⟩ g B _ _ _ u85 HU86.out.1 ⟨HU86.out.2.1,HU86.out.2.2.1,HU86.out.2.2.2.1⟩ ⟨HO0.out.1,HO1.out.1,HN.out.ogg⟩ ⟨HO0.out.2,HO1.out.2,HN.out.ab.2.2⟩ HR.out.2.1 HR.out.2.2).mono ?_
       rw[HRR.out]
       rintro e uz ⟨rfl,yr,yq,yg,d1,d2,d3,d4⟩
       have HD:=Ag (show En w g B R (.returned (.int .i64 R.1)) uz from⟨rfl,yr,yq,yg,d1,d2,HU86.out.2.2.2.2.1.trans d3,d4⟩)
       clear d1 d2 d3 d4
       go_wp2_with fail
       go_ret
       exact HD.out
     ·skip
      have cc:=HV70.out.1.cell 3
      simp only[pmC,Ab,Ac] at cc
      try simp only[Al]
      go_wp2_with fail
      clear cc
      refine QK.normal ⟨HV70.out.2.2.2.2.2.2,?_⟩
      refine' Ar 5 (by kernel_rfl) ?_ ?_;rotate_left;(simp only[Aa,Ab,Ac];rfl)
      have cc:=HV70.out.1.cell 2
      simp only[pmC,Ab,Ac] at cc
      try simp only[Al]
      go_wp2_with fail
      clear cc
      refine QK.normal ⟨HV70.out.2.2.2.2.2.2,?_⟩
      refine' Ar 7 (by kernel_rfl) ?_ ?_;rotate_left;(simp only[Aa,Ab,Ac];rfl)
      try simp only[Al]
      go_wp2_with fail
      refine(B3 who (Value.slice ra rl rc) pr v69 HV70.out.2.1 HR.out.1.2.2.2.1).mono ?_
      rintro e' u87 ⟨xa63,xl64,xc65,rfl,hs,hb,hab⟩
      have HO0:=Ag (show(∀ k,(Value.slice xa63 xl64 xc65).ownBlock=some k→k≠g)∧Abv B (Value.slice xa63 xl64 xc65) from⟨fun k hk e=> by have:=hab k hk;have:=HV70.out.1.lt;omega,fun k hk=> Aj HN.out.hB (Aj HV70.out.2.2.2.2.1.size (hab k hk))⟩)
      have HU88:=hJ8 (HV70.out.1.below hb HV70.out.1.lt) (HV70.out.2.1.below hb (Ah _)) (HV70.out.2.2.1.below hb (Ah _)) (HV70.out.2.2.2.1.below hb (Ah _)) (HV70.out.2.2.2.2.1.trans (Ch.of_below hb (Ah _))) ((hb.cell (p:=⟨b1,0,none⟩) (Am HV70.out.2.2.2.2.2.1)).trans HV70.out.2.2.2.2.2.1) ((hb.cell (p:=⟨b2,0,none⟩) (Am HV70.out.2.2.2.2.2.2)).trans HV70.out.2.2.2.2.2.2) hs
      clear hs hb hab
      go_wp2_with fail
      refine QK.normal ⟨HU88.out.2.2.2.2.2.2.1,?_⟩
      refine' Ar 13 (by kernel_rfl) ?_ ?_;rotate_left;(simp only[Aa,Ab,Ac];rfl)
      try simp only[Al]
      go_wp2_with fail
      refine(B3 who (Value.slice qa ql qc) pq u87 HU88.out.2.2.1 HR.out.1.2.2.2.2.1).mono ?_
      rintro e' u89 ⟨xa66,xl67,xc68,rfl,hs,hb,hab⟩
      have HO1:=Ag (show(∀ k,(Value.slice xa66 xl67 xc68).ownBlock=some k→k≠g)∧Abv B (Value.slice xa66 xl67 xc68) from⟨fun k hk e=> by have:=hab k hk;have:=HU88.out.1.lt;omega,fun k hk=> Aj HN.out.hB (Aj HU88.out.2.2.2.2.1.size (hab k hk))⟩)
      have HU90:=hJ9 (HU88.out.1.below hb HU88.out.1.lt) (HU88.out.2.1.below hb (Ah _)) (HU88.out.2.2.1.below hb (Ah _)) (HU88.out.2.2.2.1.below hb (Ah _)) (HU88.out.2.2.2.2.1.trans (Ch.of_below hb (Ah _))) ((hb.cell (p:=⟨b1,0,none⟩) (Am HU88.out.2.2.2.2.2.1)).trans HU88.out.2.2.2.2.2.1) ((hb.cell (p:=⟨b2,0,none⟩) (Am HU88.out.2.2.2.2.2.2.1)).trans HU88.out.2.2.2.2.2.2.1) (HU88.out.2.2.2.2.2.2.2.below hb (Ah _)) hs
      clear hs hb hab
      go_wp2_with fail
      refine QK.normal ⟨HU90.out.2.2.2.2.2.2.1,?_⟩
      refine' Ar 14 (by kernel_rfl) ?_ ?_;rotate_left;(simp only[Aa,Ab,Ac];rfl)
      try simp only[Al]
      go_wp2_with fail
      refine QK.normal ⟨HU90.out.2.2.2.2.2.2.1,?_⟩
      refine' Ar 15 (by kernel_rfl) ?_ ?_;rotate_left;(simp only[Aa,Ab,Ac];rfl)
      try simp only[Al]
      go_wp2_with fail
      refine QK.normal ⟨HU90.out.2.2.2.2.2.2.1,?_⟩
      refine' Ar 16 (by kernel_rfl) ?_ ?_;rotate_left;(simp only[Aa,Ab,Ac];rfl)
      have cc:=HU90.out.1.cell 2
      have ff:=HU90.out.1.free 2
      simp only[pmC,Ab,Ac] at cc
      try simp only[Al]
      go_wp2_with fail
      clear cc ff
      have hc:=Ch.set u89 ⟨g,2,none⟩ (Value.slice xa63 xl64 xc65)
      have HU92:=Ag (show Blk (u89.setCell ⟨g,2,none⟩ (Value.slice xa63 xl64 xc65)) g 43 (pmC o pe (Value.slice xa63 xl64 xc65) (Value.slice qa ql qc) (Value.slice ga gl gc))∧Sl (u89.setCell ⟨g,2,none⟩ (Value.slice xa63 xl64 xc65)) (Value.slice xa63 xl64 xc65) (ofK .i64 (Bb (who==·) pr))∧Sl (u89.setCell ⟨g,2,none⟩ (Value.slice xa63 xl64 xc65)) (Value.slice qa ql qc) (ofK .i64 pq)∧Sl (u89.setCell ⟨g,2,none⟩ (Value.slice xa63 xl64 xc65)) (Value.slice ga gl gc) (ofK .i64 pg)∧Ch (·=g) w (u89.setCell ⟨g,2,none⟩ (Value.slice xa63 xl64 xc65))∧(u89.setCell ⟨g,2,none⟩ (Value.slice xa63 xl64 xc65)).cell? ⟨b1,0,none⟩=some (.int .i64 by_)∧(u89.setCell ⟨g,2,none⟩ (Value.slice xa63 xl64 xc65)).cell? ⟨b2,0,none⟩=some (.int .i64 who)∧Sl (u89.setCell ⟨g,2,none⟩ (Value.slice xa63 xl64 xc65)) (Value.slice xa66 xl67 xc68) (ofK .i64 (Bb (who==·) pq)) from⟨HU90.out.1.set 2 (Value.slice xa63 xl64 xc65),HU90.out.2.2.2.2.2.2.2.1.keep hc HO0.out.1,HU90.out.2.2.1.keep hc HN.out.oqq,HU90.out.2.2.2.1.keep hc HN.out.ogg,HU90.out.2.2.2.2.1.trans hc,(hc.cell (p:=⟨b1,0,none⟩) (Am HU90.out.2.2.2.2.2.1) (fun e=> HN.out.n1 e)).trans HU90.out.2.2.2.2.2.1,(hc.cell (p:=⟨b2,0,none⟩) (Am HU90.out.2.2.2.2.2.2.1) (fun e=> HN.out.n2 e)).trans HU90.out.2.2.2.2.2.2.1,HU90.out.2.2.2.2.2.2.2.2.keep hc HO1.out.1⟩)
      clear hc
      generalize (u89.setCell ⟨g,2,none⟩ (Value.slice xa63 xl64 xc65))=u91 at HU92 ⊢
      refine QK.normal ⟨HU92.out.2.2.2.2.2.2.1,?_⟩
      refine' Ar 17 (by kernel_rfl) ?_ ?_;rotate_left;(simp only[Aa,Ab,Ac];rfl)
      try simp only[Al]
      go_wp2_with fail
      refine QK.normal ⟨HU92.out.2.2.2.2.2.2.1,?_⟩
      refine' Ar 18 (by kernel_rfl) ?_ ?_;rotate_left;(simp only[Aa,Ab,Ac];rfl)
      try simp only[Al]
      go_wp2_with fail
      refine QK.normal ⟨HU92.out.2.2.2.2.2.2.1,?_⟩
      refine' Ar 19 (by kernel_rfl) ?_ ?_;rotate_left;(simp only[Aa,Ab,Ac];rfl)
      have cc:=HU92.out.1.cell 3
      have ff:=HU92.out.1.free 3
      simp only[pmC,Ab,Ac] at cc
      try simp only[Al]
      go_wp2_with fail
      clear cc ff
      have hc:=Ch.set u91 ⟨g,3,none⟩ (Value.slice xa66 xl67 xc68)
      have HU94:=Ag (show Blk (u91.setCell ⟨g,3,none⟩ (Value.slice xa66 xl67 xc68)) g 43 (pmC o pe (Value.slice xa63 xl64 xc65) (Value.slice xa66 xl67 xc68) (Value.slice ga gl gc))∧Sl (u91.setCell ⟨g,3,none⟩ (Value.slice xa66 xl67 xc68)) (Value.slice xa63 xl64 xc65) (ofK .i64 (Bb (who==·) pr))∧Sl (u91.setCell ⟨g,3,none⟩ (Value.slice xa66 xl67 xc68)) (Value.slice xa66 xl67 xc68) (ofK .i64 (Bb (who==·) pq))∧Sl (u91.setCell ⟨g,3,none⟩ (Value.slice xa66 xl67 xc68)) (Value.slice ga gl gc) (ofK .i64 pg)∧Ch (·=g) w (u91.setCell ⟨g,3,none⟩ (Value.slice xa66 xl67 xc68))∧(u91.setCell ⟨g,3,none⟩ (Value.slice xa66 xl67 xc68)).cell? ⟨b1,0,none⟩=some (.int .i64 by_)∧(u91.setCell ⟨g,3,none⟩ (Value.slice xa66 xl67 xc68)).cell? ⟨b2,0,none⟩=some (.int .i64 who) from⟨HU92.out.1.set 3 (Value.slice xa66 xl67 xc68),HU92.out.2.1.keep hc HO0.out.1,HU92.out.2.2.2.2.2.2.2.keep hc HO1.out.1,HU92.out.2.2.2.1.keep hc HN.out.ogg,HU92.out.2.2.2.2.1.trans hc,(hc.cell (p:=⟨b1,0,none⟩) (Am HU92.out.2.2.2.2.2.1) (fun e=> HN.out.n1 e)).trans HU92.out.2.2.2.2.2.1,(hc.cell (p:=⟨b2,0,none⟩) (Am HU92.out.2.2.2.2.2.2.1) (fun e=> HN.out.n2 e)).trans HU92.out.2.2.2.2.2.2.1⟩)
      clear hc
      generalize (u91.setCell ⟨g,3,none⟩ (Value.slice xa66 xl67 xc68))=u93 at HU94 ⊢
      refine QK.normal ⟨HU94.out.2.2.2.2.2.2,?_⟩
      refine wpAnyH_done (by kernel_rfl) ?_ _
      refine NoPanic.normal ?_
      go_wp2_with fail
      refine(DY ⟨o,pe,Bb (who==·) pr,Bb (who==·) pq,pg⟩ g B _ _ _ u93 HU94.out.1 ⟨HU94.out.2.1,HU94.out.2.2.1,HU94.out.2.2.2.1⟩ ⟨HO0.out.1,HO1.out.1,HN.out.ogg⟩ ⟨HO0.out.2,HO1.out.2,HN.out.ab.2.2⟩ HR.out.2.1 HR.out.2.2).mono ?_
      rw[HRR.out]
      rintro e uz ⟨rfl,yr,yq,yg,d1,d2,d3,d4⟩
      have HD:=Ag (show En w g B R (.returned (.int .i64 R.1)) uz from⟨rfl,yr,yq,yg,d1,d2,HU94.out.2.2.2.2.1.trans d3,d4⟩)
      clear d1 d2 d3 d4
      go_wp2_with fail
      go_ret
      exact HD.out
 ·have HE:=Ag (show R=(211,⟨o,pe,pr,pq,pg⟩) from by rw[←HRR.out,if_pos h1])
  have t1:(by_ !=o)=true:=by simpa using h1
  clear h1
  go_enter Tryz.func108,Tryz.ntmps108
  have c0:=H0.out.1.cell 0
  simp only[pmC,Ab,Ac] at c0
  have k1:=H0.out.2.2.2.2.2.1
  have k2:=H0.out.2.2.2.2.2.2
  go_wp2_with fail
  go_quiet (fail)
  rename_i nq
  clear c0 k1 k2
  have sm:=(Sm.refl w).drewN nq
  have H96:=hJ7 (H0.out.1.below (sm.below _) H0.out.1.lt) (H0.out.2.1.below (sm.below _) (Ah _)) (H0.out.2.2.1.below (sm.below _) (Ah _)) (H0.out.2.2.2.1.below (sm.below _) (Ah _)) (H0.out.2.2.2.2.1.trans (Ch.of_below (sm.below _) (Ah _))) (((sm.below _).cell (p:=⟨b1,0,none⟩) (Am H0.out.2.2.2.2.2.1)).trans H0.out.2.2.2.2.2.1) (((sm.below _).cell (p:=⟨b2,0,none⟩) (Am H0.out.2.2.2.2.2.2)).trans H0.out.2.2.2.2.2.2)
  clear sm
  generalize w.drewN nq=w95 at H96 ⊢
  clear nq
  go_wp2_with fail
  go_ret
  rw[HE.out]
  exact⟨rfl,_,_,_,H96.out.1,⟨H96.out.2.1,H96.out.2.2.1,H96.out.2.2.2.1⟩,H96.out.2.2.2.2.1,HN.out.ab⟩
theorem Cy {P:Int→Bool} {l:List Int} (h:BG P l=true):l.Pairwise (·<·):=by
 have hs:∀ i (hi:i+1<l.length),l[i]<l[i+1]:=fun i hi=> by
  have h1:=List.all_eq_true.1 h (i+1) (by simpa using hi)
  unfold Cr at h1
  rw[Cs hi,show i+1 - 1=i by omega,Cs (show i<l.length by omega)] at h1
  simp at h1
  exact h1.2
 refine List.pairwise_iff_getElem.2 fun i j hi hj hij=> ?_
 obtain⟨d,rfl⟩:∃ d,j=i+1+d:=⟨j - (i+1),by omega⟩
 clear hij
 induction d with
 | zero=> exact hs i hj
 | succ d ih=> exact Int.lt_trans (ih (by omega)) (hs (i+1+d) hj)
theorem B8 {p:PmD} (h:okB p=true) (hl:PmL p):PmR p∧PmE p:=by
 unfold okB at h
 simp only[Bool.and_eq_true,decide_eq_true_eq] at h
 exact⟨⟨Cy h.2.2.2.1,Cy h.2.2.2.2.1,Cy h.2.2.2.2.2.1,hl⟩,h.2.1,h.2.2.1⟩
theorem FG (args:Array Value) (w:World):Sem.run Tryz.prog (callFunc 106 args) w=.ok (.enter 106 args) w:=
 AP Tryz.func106 (by kernel_rfl) (by kernel_rfl) args w
theorem JV (p:PmD) (by_:Int) (who:Int) (write:Bool) (vr vq vg:Value) (w:World) (hp:PmS w p vr vq vg) (hl:PmL p):
  Calls Tryz.prog 88 #[.agg (pmC p.o p.e vr vq vg).toArray,.int .i64 by_,.int .i64 who,.bool write] w (EF w (Bj p (CN p by_ who write))):=by
 obtain⟨R,hR⟩:∃ R,Bj p (CN p by_ who write)=R:=⟨_,rfl⟩
 have HP:=Ag (Ai hp (Ai hl hR))
 rw[hR]
 obtain⟨ra,rc,rfl,-⟩:=hp.1.nums
 obtain⟨qa,qc,rfl,-⟩:=hp.2.1.nums
 obtain⟨ga,gc,rfl,-⟩:=hp.2.2.nums
 obtain⟨o,pe,pr,pq,pg⟩:=p
 simp only at HP ⊢
 generalize pr.length=rl at HP ⊢
 generalize pq.length=ql at HP ⊢
 generalize pg.length=gl at HP ⊢
 clear hp hl hR
 go_enter Tryz.func88,Tryz.ntmps88
 go_wp2_with (first
  | ((with_reducible refine Au w rfl 43 (.tmp 0) rfl (pmC o pe (.slice ra rl rc) (.slice qa ql qc) (.slice ga gl gc)) rfl ?_);intro w1 hb hbel hsz;have H1:=hJ2 hb hbel;clear hb hbel hsz)
  | ((with_reducible refine A4 w1 rfl 3 (.tmp 1) rfl (.int .i64 by_) rfl rfl ?_);intro w2 hb hbel hsz;have H2:=Ag (show Blk w2 w.heap.size 43 ((pmC o pe (.slice ra rl rc) (.slice qa ql qc) (.slice ga gl gc)))∧Below w.heap.size w w2∧w2.cell? ⟨w1.heap.size,0,none⟩=some (.int .i64 by_) from⟨H1.out.1.below hbel H1.out.1.lt,An H1.out.2 hbel (Ah _),hb.cell 0⟩);clear hb hbel hsz)
  | ((with_reducible refine A4 w2 rfl 3 (.tmp 2) rfl (.int .i64 who) rfl rfl ?_);intro w3 hb hbel hsz;have H3:=Ag (show Blk w3 w.heap.size 43 ((pmC o pe (.slice ra rl rc) (.slice qa ql qc) (.slice ga gl gc)))∧Below w.heap.size w w3∧w3.cell? ⟨w1.heap.size,0,none⟩=some (.int .i64 by_)∧w3.cell? ⟨w2.heap.size,0,none⟩=some (.int .i64 who) from⟨H2.out.1.below hbel H2.out.1.lt,An H2.out.2.1 hbel (Ah _),(hbel.cell (p:=⟨w1.heap.size,0,none⟩) (Am H2.out.2.2)).trans H2.out.2.2,hb.cell 0⟩);clear hb hbel hsz)
  | ((with_reducible refine A4 w3 rfl 4 (.tmp 3) rfl (.bool write) rfl rfl ?_);intro w4 hb hbel hsz;have H4:=Ag (show Blk w4 w.heap.size 43 ((pmC o pe (.slice ra rl rc) (.slice qa ql qc) (.slice ga gl gc)))∧Below w.heap.size w w4∧w4.cell? ⟨w1.heap.size,0,none⟩=some (.int .i64 by_)∧w4.cell? ⟨w2.heap.size,0,none⟩=some (.int .i64 who)∧w4.cell? ⟨w3.heap.size,0,none⟩=some (.bool write) from⟨H3.out.1.below hbel H3.out.1.lt,An H3.out.2.1 hbel (Ah _),(hbel.cell (p:=⟨w1.heap.size,0,none⟩) (Am H3.out.2.2.1)).trans H3.out.2.2.1,(hbel.cell (p:=⟨w2.heap.size,0,none⟩) (Am H3.out.2.2.2)).trans H3.out.2.2.2,hb.cell 0⟩);clear hb hbel hsz)
  | ((with_reducible refine Av w4 rfl 43 rfl (pmC 0 0 (.slice none 0 0) (.slice none 0 0) (.slice none 0 0)) Tryz.zeroPm ?_);intro w5 hb hbel hsz;have H5:=hJ7 (H4.out.1.below hbel H4.out.1.lt) (An H4.out.2.1 hbel (Ah _)) ((hbel.cell (p:=⟨w1.heap.size,0,none⟩) (Am H4.out.2.2.1)).trans H4.out.2.2.1) ((hbel.cell (p:=⟨w2.heap.size,0,none⟩) (Am H4.out.2.2.2.1)).trans H4.out.2.2.2.1) ((hbel.cell (p:=⟨w3.heap.size,0,none⟩) (Am H4.out.2.2.2.2)).trans H4.out.2.2.2.2) hb H4.out.2.1.size;clear hb hbel hsz)
  | (with_reducible refine Ap rfl 43 (.tmp 4) rfl w.heap.size 0 rfl (pmC o pe (.slice ra rl rc) (.slice qa ql qc) (.slice ga gl gc)) _ (As H5.out.1) Tryz.underlying43 rfl (Ay _ _ _ _ _) ?_))
 refine(DZ ⟨o,pe,pr,pq,pg⟩ (CN ⟨o,pe,pr,pq,pg⟩ by_ who write) 106 [.pointer (some ⟨w1.heap.size,0,none⟩),.pointer (some ⟨w2.heap.size,0,none⟩),.pointer (some ⟨w3.heap.size,0,none⟩)] _ _ _ w5 (HP.out.1.below H5.out.2.1) HP.out.2.1 FG (fun hok wz g B xr xq xg hbl hge hB hab hblk hps hoff=> I0 ⟨o,pe,pr,pq,pg⟩ by_ who write w1.heap.size w2.heap.size w3.heap.size g B xr xq xg wz hblk hps hoff hab hB (B8 hok HP.out.2.1).1 ((hbl.cell (p:=⟨w1.heap.size,0,none⟩) (Am H5.out.2.2.1)).trans H5.out.2.2.1) (fun e=> by have:=Am H5.out.2.2.1;simp only at this;omega) ((hbl.cell (p:=⟨w2.heap.size,0,none⟩) (Am H5.out.2.2.2.1)).trans H5.out.2.2.2.1) (fun e=> by have:=Am H5.out.2.2.2.1;simp only at this;omega) ((hbl.cell (p:=⟨w3.heap.size,0,none⟩) (Am H5.out.2.2.2.2.1)).trans H5.out.2.2.2.2.1) (fun e=> by have:=Am H5.out.2.2.2.2.1;simp only at this;omega))).mono ?_
 rw[HP.out.2.2]
 rintro e wy ⟨xr,xq,xg,rfl,hs,hb,hab⟩
 obtain⟨xa,xc,rfl,-⟩:=hs.1.shape
 obtain⟨ya,yc,rfl,-⟩:=hs.2.1.shape
 obtain⟨za,zc,rfl,-⟩:=hs.2.2.shape
 generalize (ofK .i64 R.1.r).length=xl at hs hab ⊢
 generalize (ofK .i64 R.1.q).length=yl at hs hab ⊢
 generalize (ofK .i64 R.1.g).length=zl at hs hab ⊢
 have HY:=hJ3 hs (H5.out.2.2.2.2.2.1.below hb H5.out.2.2.2.2.2.1.lt) (An H5.out.2.1 hb (Ah _))
 have HO:=Ag (show Off w4.heap.size (.slice xa xl xc) (.slice ya yl yc) (.slice za zl zc)∧BD w.heap.size (.slice xa xl xc) (.slice ya yl yc) (.slice za zl zc) from⟨⟨fun k hk e=> by have:=hab.1 k hk;have:=H5.out.2.2.2.2.2.1.lt;omega,fun k hk e=> by have:=hab.2.1 k hk;have:=H5.out.2.2.2.2.2.1.lt;omega,fun k hk e=> by have:=hab.2.2 k hk;have:=H5.out.2.2.2.2.2.1.lt;omega⟩,hab.mono H5.out.2.1.size⟩)
 clear hs hb hab
 go_wp2_with ((with_reducible refine Ao wy rfl 43 (.tmp 8) (.tmp 13) rfl w4.heap.size 43 (pmC 0 0 (.slice none 0 0) (.slice none 0 0) (.slice none 0 0)) (pmC R.1.o R.1.e (.slice xa xl xc) (.slice ya yl yc) (.slice za zl zc)) HY.out.2.1 rfl rfl rfl (Ay _ _ _ _ _) (Bn _ _ _ _ _ _ _ _ _ _ _) ?_);intro w9 hb hc hs;have H9:=hJ2 hb hc;clear hb hc hs)
 refine bodyPost_ret (AQ Tryz.results88 _ _ w4.heap.size _ _ rfl H9.out.1 _ Tryz.underlying43 rfl (Ay _ _ _ _ _) _ rfl) rfl ?_
 exact⟨_,_,_,rfl,HY.out.1.ch H9.out.2 HO.out.1,Aw HY.out.2.2 H9.out.2 (Ah _) (fun k hk=> by have e:k=w4.heap.size:=hk;have:=H5.out.2.2.2.2.2.2;omega),HO.out.2⟩
theorem FI (args:Array Value) (w:World):Sem.run Tryz.prog (callFunc 108 args) w=.ok (.enter 108 args) w:=
 AP Tryz.func108 (by kernel_rfl) (by kernel_rfl) args w
theorem KC (p:PmD) (by_:Int) (who:Int) (vr vq vg:Value) (w:World) (hp:PmS w p vr vq vg) (hl:PmL p):
  Calls Tryz.prog 89 #[.agg (pmC p.o p.e vr vq vg).toArray,.int .i64 by_,.int .i64 who] w (EF w (Bj p (DO p by_ who))):=by
 obtain⟨R,hR⟩:∃ R,Bj p (DO p by_ who)=R:=⟨_,rfl⟩
 have HP:=Ag (Ai hp (Ai hl hR))
 rw[hR]
 obtain⟨ra,rc,rfl,-⟩:=hp.1.nums
 obtain⟨qa,qc,rfl,-⟩:=hp.2.1.nums
 obtain⟨ga,gc,rfl,-⟩:=hp.2.2.nums
 obtain⟨o,pe,pr,pq,pg⟩:=p
 simp only at HP ⊢
 generalize pr.length=rl at HP ⊢
 generalize pq.length=ql at HP ⊢
 generalize pg.length=gl at HP ⊢
 clear hp hl hR
 go_enter Tryz.func89,Tryz.ntmps89
 go_wp2_with (first
  | ((with_reducible refine Au w rfl 43 (.tmp 0) rfl (pmC o pe (.slice ra rl rc) (.slice qa ql qc) (.slice ga gl gc)) rfl ?_);intro w1 hb hbel hsz;have H1:=hJ2 hb hbel;clear hb hbel hsz)
  | ((with_reducible refine A4 w1 rfl 3 (.tmp 1) rfl (.int .i64 by_) rfl rfl ?_);intro w2 hb hbel hsz;have H2:=Ag (show Blk w2 w.heap.size 43 ((pmC o pe (.slice ra rl rc) (.slice qa ql qc) (.slice ga gl gc)))∧Below w.heap.size w w2∧w2.cell? ⟨w1.heap.size,0,none⟩=some (.int .i64 by_) from⟨H1.out.1.below hbel H1.out.1.lt,An H1.out.2 hbel (Ah _),hb.cell 0⟩);clear hb hbel hsz)
  | ((with_reducible refine A4 w2 rfl 3 (.tmp 2) rfl (.int .i64 who) rfl rfl ?_);intro w3 hb hbel hsz;have H3:=Ag (show Blk w3 w.heap.size 43 ((pmC o pe (.slice ra rl rc) (.slice qa ql qc) (.slice ga gl gc)))∧Below w.heap.size w w3∧w3.cell? ⟨w1.heap.size,0,none⟩=some (.int .i64 by_)∧w3.cell? ⟨w2.heap.size,0,none⟩=some (.int .i64 who) from⟨H2.out.1.below hbel H2.out.1.lt,An H2.out.2.1 hbel (Ah _),(hbel.cell (p:=⟨w1.heap.size,0,none⟩) (Am H2.out.2.2)).trans H2.out.2.2,hb.cell 0⟩);clear hb hbel hsz)
  | ((with_reducible refine Av w3 rfl 43 rfl (pmC 0 0 (.slice none 0 0) (.slice none 0 0) (.slice none 0 0)) Tryz.zeroPm ?_);intro w4 hb hbel hsz;have H4:=hJ6 (H3.out.1.below hbel H3.out.1.lt) (An H3.out.2.1 hbel (Ah _)) ((hbel.cell (p:=⟨w1.heap.size,0,none⟩) (Am H3.out.2.2.1)).trans H3.out.2.2.1) ((hbel.cell (p:=⟨w2.heap.size,0,none⟩) (Am H3.out.2.2.2)).trans H3.out.2.2.2) hb H3.out.2.1.size;clear hb hbel hsz)
  | (with_reducible refine Ap rfl 43 (.tmp 3) rfl w.heap.size 0 rfl (pmC o pe (.slice ra rl rc) (.slice qa ql qc) (.slice ga gl gc)) _ (As H4.out.1) Tryz.underlying43 rfl (Ay _ _ _ _ _) ?_))
 refine(DZ ⟨o,pe,pr,pq,pg⟩ (DO ⟨o,pe,pr,pq,pg⟩ by_ who) 108 [.pointer (some ⟨w1.heap.size,0,none⟩),.pointer (some ⟨w2.heap.size,0,none⟩)] _ _ _ w4 (HP.out.1.below H4.out.2.1) HP.out.2.1 FI (fun hok wz g B xr xq xg hbl hge hB hab hblk hps hoff=> JU ⟨o,pe,pr,pq,pg⟩ by_ who w1.heap.size w2.heap.size g B xr xq xg wz hblk hps hoff hab hB (B8 hok HP.out.2.1).1 (B8 hok HP.out.2.1).2 ((hbl.cell (p:=⟨w1.heap.size,0,none⟩) (Am H4.out.2.2.1)).trans H4.out.2.2.1) (fun e=> by have:=Am H4.out.2.2.1;simp only at this;omega) ((hbl.cell (p:=⟨w2.heap.size,0,none⟩) (Am H4.out.2.2.2.1)).trans H4.out.2.2.2.1) (fun e=> by have:=Am H4.out.2.2.2.1;simp only at this;omega))).mono ?_
 rw[HP.out.2.2]
 rintro e wy ⟨xr,xq,xg,rfl,hs,hb,hab⟩
 obtain⟨xa,xc,rfl,-⟩:=hs.1.shape
 obtain⟨ya,yc,rfl,-⟩:=hs.2.1.shape
 obtain⟨za,zc,rfl,-⟩:=hs.2.2.shape
 generalize (ofK .i64 R.1.r).length=xl at hs hab ⊢
 generalize (ofK .i64 R.1.q).length=yl at hs hab ⊢
 generalize (ofK .i64 R.1.g).length=zl at hs hab ⊢
 have HY:=hJ3 hs (H4.out.2.2.2.2.1.below hb H4.out.2.2.2.2.1.lt) (An H4.out.2.1 hb (Ah _))
 have HO:=Ag (show Off w3.heap.size (.slice xa xl xc) (.slice ya yl yc) (.slice za zl zc)∧BD w.heap.size (.slice xa xl xc) (.slice ya yl yc) (.slice za zl zc) from⟨⟨fun k hk e=> by have:=hab.1 k hk;have:=H4.out.2.2.2.2.1.lt;omega,fun k hk e=> by have:=hab.2.1 k hk;have:=H4.out.2.2.2.2.1.lt;omega,fun k hk e=> by have:=hab.2.2 k hk;have:=H4.out.2.2.2.2.1.lt;omega⟩,hab.mono H4.out.2.1.size⟩)
 clear hs hb hab
 go_wp2_with ((with_reducible refine Ao wy rfl 43 (.tmp 6) (.tmp 11) rfl w3.heap.size 43 (pmC 0 0 (.slice none 0 0) (.slice none 0 0) (.slice none 0 0)) (pmC R.1.o R.1.e (.slice xa xl xc) (.slice ya yl yc) (.slice za zl zc)) HY.out.2.1 rfl rfl rfl (Ay _ _ _ _ _) (Bn _ _ _ _ _ _ _ _ _ _ _) ?_);intro w9 hb hc hs;have H9:=hJ2 hb hc;clear hb hc hs)
 refine bodyPost_ret (AQ Tryz.results89 _ _ w3.heap.size _ _ rfl H9.out.1 _ Tryz.underlying43 rfl (Ay _ _ _ _ _) _ rfl) rfl ?_
 exact⟨_,_,_,rfl,HY.out.1.ch H9.out.2 HO.out.1,Aw HY.out.2.2 H9.out.2 (Ah _) (fun k hk=> by have e:k=w3.heap.size:=hk;have:=H4.out.2.2.2.2.2;omega),HO.out.2⟩
theorem FJ (args:Array Value) (w:World):Sem.run Tryz.prog (callFunc 111 args) w=.ok (.enter 111 args) w:=
 AP Tryz.func111 (by kernel_rfl) (by kernel_rfl) args w
theorem Gh (p:PmD) (by_:Int) (n:Int) (vr vq vg:Value) (w:World) (hp:PmS w p vr vq vg) (hl:PmL p):
  Calls Tryz.prog 90 #[.agg (pmC p.o p.e vr vq vg).toArray,.int .i64 by_,.int .i64 n] w (EF w (Bj p (Cg p by_ n))):=by
 obtain⟨R,hR⟩:∃ R,Bj p (Cg p by_ n)=R:=⟨_,rfl⟩
 have HP:=Ag (Ai hp (Ai hl hR))
 rw[hR]
 obtain⟨ra,rc,rfl,-⟩:=hp.1.nums
 obtain⟨qa,qc,rfl,-⟩:=hp.2.1.nums
 obtain⟨ga,gc,rfl,-⟩:=hp.2.2.nums
 obtain⟨o,pe,pr,pq,pg⟩:=p
 simp only at HP ⊢
 generalize pr.length=rl at HP ⊢
 generalize pq.length=ql at HP ⊢
 generalize pg.length=gl at HP ⊢
 clear hp hl hR
 go_enter Tryz.func90,Tryz.ntmps90
 go_wp2_with (first
  | ((with_reducible refine Au w rfl 43 (.tmp 0) rfl (pmC o pe (.slice ra rl rc) (.slice qa ql qc) (.slice ga gl gc)) rfl ?_);intro w1 hb hbel hsz;have H1:=hJ2 hb hbel;clear hb hbel hsz)
  | ((with_reducible refine A4 w1 rfl 3 (.tmp 1) rfl (.int .i64 by_) rfl rfl ?_);intro w2 hb hbel hsz;have H2:=Ag (show Blk w2 w.heap.size 43 ((pmC o pe (.slice ra rl rc) (.slice qa ql qc) (.slice ga gl gc)))∧Below w.heap.size w w2∧w2.cell? ⟨w1.heap.size,0,none⟩=some (.int .i64 by_) from⟨H1.out.1.below hbel H1.out.1.lt,An H1.out.2 hbel (Ah _),hb.cell 0⟩);clear hb hbel hsz)
  | ((with_reducible refine A4 w2 rfl 3 (.tmp 2) rfl (.int .i64 n) rfl rfl ?_);intro w3 hb hbel hsz;have H3:=Ag (show Blk w3 w.heap.size 43 ((pmC o pe (.slice ra rl rc) (.slice qa ql qc) (.slice ga gl gc)))∧Below w.heap.size w w3∧w3.cell? ⟨w1.heap.size,0,none⟩=some (.int .i64 by_)∧w3.cell? ⟨w2.heap.size,0,none⟩=some (.int .i64 n) from⟨H2.out.1.below hbel H2.out.1.lt,An H2.out.2.1 hbel (Ah _),(hbel.cell (p:=⟨w1.heap.size,0,none⟩) (Am H2.out.2.2)).trans H2.out.2.2,hb.cell 0⟩);clear hb hbel hsz)
  | ((with_reducible refine Av w3 rfl 43 rfl (pmC 0 0 (.slice none 0 0) (.slice none 0 0) (.slice none 0 0)) Tryz.zeroPm ?_);intro w4 hb hbel hsz;have H4:=hJ6 (H3.out.1.below hbel H3.out.1.lt) (An H3.out.2.1 hbel (Ah _)) ((hbel.cell (p:=⟨w1.heap.size,0,none⟩) (Am H3.out.2.2.1)).trans H3.out.2.2.1) ((hbel.cell (p:=⟨w2.heap.size,0,none⟩) (Am H3.out.2.2.2)).trans H3.out.2.2.2) hb H3.out.2.1.size;clear hb hbel hsz)
  | (with_reducible refine Ap rfl 43 (.tmp 3) rfl w.heap.size 0 rfl (pmC o pe (.slice ra rl rc) (.slice qa ql qc) (.slice ga gl gc)) _ (As H4.out.1) Tryz.underlying43 rfl (Ay _ _ _ _ _) ?_))
 refine(DZ ⟨o,pe,pr,pq,pg⟩ (Cg ⟨o,pe,pr,pq,pg⟩ by_ n) 111 [.pointer (some ⟨w1.heap.size,0,none⟩),.pointer (some ⟨w2.heap.size,0,none⟩)] _ _ _ w4 (HP.out.1.below H4.out.2.1) HP.out.2.1 FJ (fun hok wz g B xr xq xg hbl hge hB hab hblk hps hoff=> FF ⟨o,pe,pr,pq,pg⟩ by_ n w1.heap.size w2.heap.size g B xr xq xg wz hblk hps hoff hab hB (B8 hok HP.out.2.1).1 (B8 hok HP.out.2.1).2 ((hbl.cell (p:=⟨w1.heap.size,0,none⟩) (Am H4.out.2.2.1)).trans H4.out.2.2.1) (fun e=> by have:=Am H4.out.2.2.1;simp only at this;omega) ((hbl.cell (p:=⟨w2.heap.size,0,none⟩) (Am H4.out.2.2.2.1)).trans H4.out.2.2.2.1) (fun e=> by have:=Am H4.out.2.2.2.1;simp only at this;omega))).mono ?_
 rw[HP.out.2.2]
 rintro e wy ⟨xr,xq,xg,rfl,hs,hb,hab⟩
 obtain⟨xa,xc,rfl,-⟩:=hs.1.shape
 obtain⟨ya,yc,rfl,-⟩:=hs.2.1.shape
 obtain⟨za,zc,rfl,-⟩:=hs.2.2.shape
 generalize (ofK .i64 R.1.r).length=xl at hs hab ⊢
 generalize (ofK .i64 R.1.q).length=yl at hs hab ⊢
 generalize (ofK .i64 R.1.g).length=zl at hs hab ⊢
 have HY:=hJ3 hs (H4.out.2.2.2.2.1.below hb H4.out.2.2.2.2.1.lt) (An H4.out.2.1 hb (Ah _))
 have HO:=Ag (show Off w3.heap.size (.slice xa xl xc) (.slice ya yl yc) (.slice za zl zc)∧BD w.heap.size (.slice xa xl xc) (.slice ya yl yc) (.slice za zl zc) from⟨⟨fun k hk e=> by have:=hab.1 k hk;have:=H4.out.2.2.2.2.1.lt;omega,fun k hk e=> by have:=hab.2.1 k hk;have:=H4.out.2.2.2.2.1.lt;omega,fun k hk e=> by have:=hab.2.2 k hk;have:=H4.out.2.2.2.2.1.lt;omega⟩,hab.mono H4.out.2.1.size⟩)
 clear hs hb hab
 go_wp2_with ((with_reducible refine Ao wy rfl 43 (.tmp 6) (.tmp 11) rfl w3.heap.size 43 (pmC 0 0 (.slice none 0 0) (.slice none 0 0) (.slice none 0 0)) (pmC R.1.o R.1.e (.slice xa xl xc) (.slice ya yl yc) (.slice za zl zc)) HY.out.2.1 rfl rfl rfl (Ay _ _ _ _ _) (Bn _ _ _ _ _ _ _ _ _ _ _) ?_);intro w9 hb hc hs;have H9:=hJ2 hb hc;clear hb hc hs)
 refine bodyPost_ret (AQ Tryz.results90 _ _ w3.heap.size _ _ rfl H9.out.1 _ Tryz.underlying43 rfl (Ay _ _ _ _ _) _ rfl) rfl ?_
 exact⟨_,_,_,rfl,HY.out.1.ch H9.out.2 HO.out.1,Aw HY.out.2.2 H9.out.2 (Ah _) (fun k hk=> by have e:k=w3.heap.size:=hk;have:=H4.out.2.2.2.2.2;omega),HO.out.2⟩
theorem FK (args:Array Value) (w:World):Sem.run Tryz.prog (callFunc 112 args) w=.ok (.enter 112 args) w:=
 AP Tryz.func112 (by kernel_rfl) (by kernel_rfl) args w
theorem GO (p:PmD) (by_:Int) (n:Int) (vr vq vg:Value) (w:World) (hp:PmS w p vr vq vg) (hl:PmL p):
  Calls Tryz.prog 91 #[.agg (pmC p.o p.e vr vq vg).toArray,.int .i64 by_,.int .i64 n] w (EF w (Bj p (CO p by_ n))):=by
 obtain⟨R,hR⟩:∃ R,Bj p (CO p by_ n)=R:=⟨_,rfl⟩
 have HP:=Ag (Ai hp (Ai hl hR))
 rw[hR]
 obtain⟨ra,rc,rfl,-⟩:=hp.1.nums
 obtain⟨qa,qc,rfl,-⟩:=hp.2.1.nums
 obtain⟨ga,gc,rfl,-⟩:=hp.2.2.nums
 obtain⟨o,pe,pr,pq,pg⟩:=p
 simp only at HP ⊢
 generalize pr.length=rl at HP ⊢
 generalize pq.length=ql at HP ⊢
 generalize pg.length=gl at HP ⊢
 clear hp hl hR
 go_enter Tryz.func91,Tryz.ntmps91
 go_wp2_with (first
  | ((with_reducible refine Au w rfl 43 (.tmp 0) rfl (pmC o pe (.slice ra rl rc) (.slice qa ql qc) (.slice ga gl gc)) rfl ?_);intro w1 hb hbel hsz;have H1:=hJ2 hb hbel;clear hb hbel hsz)
  | ((with_reducible refine A4 w1 rfl 3 (.tmp 1) rfl (.int .i64 by_) rfl rfl ?_);intro w2 hb hbel hsz;have H2:=Ag (show Blk w2 w.heap.size 43 ((pmC o pe (.slice ra rl rc) (.slice qa ql qc) (.slice ga gl gc)))∧Below w.heap.size w w2∧w2.cell? ⟨w1.heap.size,0,none⟩=some (.int .i64 by_) from⟨H1.out.1.below hbel H1.out.1.lt,An H1.out.2 hbel (Ah _),hb.cell 0⟩);clear hb hbel hsz)
  | ((with_reducible refine A4 w2 rfl 3 (.tmp 2) rfl (.int .i64 n) rfl rfl ?_);intro w3 hb hbel hsz;have H3:=Ag (show Blk w3 w.heap.size 43 ((pmC o pe (.slice ra rl rc) (.slice qa ql qc) (.slice ga gl gc)))∧Below w.heap.size w w3∧w3.cell? ⟨w1.heap.size,0,none⟩=some (.int .i64 by_)∧w3.cell? ⟨w2.heap.size,0,none⟩=some (.int .i64 n) from⟨H2.out.1.below hbel H2.out.1.lt,An H2.out.2.1 hbel (Ah _),(hbel.cell (p:=⟨w1.heap.size,0,none⟩) (Am H2.out.2.2)).trans H2.out.2.2,hb.cell 0⟩);clear hb hbel hsz)
  | ((with_reducible refine Av w3 rfl 43 rfl (pmC 0 0 (.slice none 0 0) (.slice none 0 0) (.slice none 0 0)) Tryz.zeroPm ?_);intro w4 hb hbel hsz;have H4:=hJ6 (H3.out.1.below hbel H3.out.1.lt) (An H3.out.2.1 hbel (Ah _)) ((hbel.cell (p:=⟨w1.heap.size,0,none⟩) (Am H3.out.2.2.1)).trans H3.out.2.2.1) ((hbel.cell (p:=⟨w2.heap.size,0,none⟩) (Am H3.out.2.2.2)).trans H3.out.2.2.2) hb H3.out.2.1.size;clear hb hbel hsz)
  | (with_reducible refine Ap rfl 43 (.tmp 3) rfl w.heap.size 0 rfl (pmC o pe (.slice ra rl rc) (.slice qa ql qc) (.slice ga gl gc)) _ (As H4.out.1) Tryz.underlying43 rfl (Ay _ _ _ _ _) ?_))
 refine(DZ ⟨o,pe,pr,pq,pg⟩ (CO ⟨o,pe,pr,pq,pg⟩ by_ n) 112 [.pointer (some ⟨w1.heap.size,0,none⟩),.pointer (some ⟨w2.heap.size,0,none⟩)] _ _ _ w4 (HP.out.1.below H4.out.2.1) HP.out.2.1 FK (fun hok wz g B xr xq xg hbl hge hB hab hblk hps hoff=> Gg ⟨o,pe,pr,pq,pg⟩ by_ n w1.heap.size w2.heap.size g B xr xq xg wz hblk hps hoff hab hB (B8 hok HP.out.2.1).1 (B8 hok HP.out.2.1).2 ((hbl.cell (p:=⟨w1.heap.size,0,none⟩) (Am H4.out.2.2.1)).trans H4.out.2.2.1) (fun e=> by have:=Am H4.out.2.2.1;simp only at this;omega) ((hbl.cell (p:=⟨w2.heap.size,0,none⟩) (Am H4.out.2.2.2.1)).trans H4.out.2.2.2.1) (fun e=> by have:=Am H4.out.2.2.2.1;simp only at this;omega))).mono ?_
 rw[HP.out.2.2]
 rintro e wy ⟨xr,xq,xg,rfl,hs,hb,hab⟩
 obtain⟨xa,xc,rfl,-⟩:=hs.1.shape
 obtain⟨ya,yc,rfl,-⟩:=hs.2.1.shape
 obtain⟨za,zc,rfl,-⟩:=hs.2.2.shape
 generalize (ofK .i64 R.1.r).length=xl at hs hab ⊢
 generalize (ofK .i64 R.1.q).length=yl at hs hab ⊢
 generalize (ofK .i64 R.1.g).length=zl at hs hab ⊢
 have HY:=hJ3 hs (H4.out.2.2.2.2.1.below hb H4.out.2.2.2.2.1.lt) (An H4.out.2.1 hb (Ah _))
 have HO:=Ag (show Off w3.heap.size (.slice xa xl xc) (.slice ya yl yc) (.slice za zl zc)∧BD w.heap.size (.slice xa xl xc) (.slice ya yl yc) (.slice za zl zc) from⟨⟨fun k hk e=> by have:=hab.1 k hk;have:=H4.out.2.2.2.2.1.lt;omega,fun k hk e=> by have:=hab.2.1 k hk;have:=H4.out.2.2.2.2.1.lt;omega,fun k hk e=> by have:=hab.2.2 k hk;have:=H4.out.2.2.2.2.1.lt;omega⟩,hab.mono H4.out.2.1.size⟩)
 clear hs hb hab
 go_wp2_with ((with_reducible refine Ao wy rfl 43 (.tmp 6) (.tmp 11) rfl w3.heap.size 43 (pmC 0 0 (.slice none 0 0) (.slice none 0 0) (.slice none 0 0)) (pmC R.1.o R.1.e (.slice xa xl xc) (.slice ya yl yc) (.slice za zl zc)) HY.out.2.1 rfl rfl rfl (Ay _ _ _ _ _) (Bn _ _ _ _ _ _ _ _ _ _ _) ?_);intro w9 hb hc hs;have H9:=hJ2 hb hc;clear hb hc hs)
 refine bodyPost_ret (AQ Tryz.results91 _ _ w3.heap.size _ _ rfl H9.out.1 _ Tryz.underlying43 rfl (Ay _ _ _ _ _) _ rfl) rfl ?_
 exact⟨_,_,_,rfl,HY.out.1.ch H9.out.2 HO.out.1,Aw HY.out.2.2 H9.out.2 (Ah _) (fun k hk=> by have e:k=w3.heap.size:=hk;have:=H4.out.2.2.2.2.2;omega),HO.out.2⟩
end Go.Proofs.YtgdlfiphihaooaaGreat

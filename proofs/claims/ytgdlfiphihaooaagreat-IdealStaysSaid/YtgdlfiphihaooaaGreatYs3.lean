import Derived.Test.YtgdlfiphihaooaaGreatYs2
set_option linter.unusedSimpArgs false
set_option linter.unusedVariables false
set_option maxRecDepth 100000
set_option maxHeartbeats 8000000
open _root_.List renaming getElem?_toArray→Aa,getElem?_cons_zero→Ab,getElem?_cons_succ→Ac,setIfInBounds_toArray→Ad,set_cons_zero→Ae,set_cons_succ→Af
open _root_.Go.Lib renaming hid→Ag
open _root_.Nat renaming le_refl→Ah,le_trans→Aj,lt_of_lt_of_le→Ak
open _root_.And renaming intro→Ai
open _root_.Go.Act renaming put→Al
namespace Go.Proofs.YtgdlfiphihaooaaGreat
open Go Go.RowKit Go.Sort
theorem PmS.sm {w w':World} {p:PmD} {vr vq vg:Value} (h:PmS w p vr vq vg) (k:Sm w w'):PmS w' p vr vq vg:=⟨k.sl h.1,k.sl h.2.1,k.sl h.2.2⟩
def inB (l:List Int) (x:Int):Bool:=l.any (x==·)
theorem Calls.quiet_eq {P:Program} {f:FuncId} {args:Array Value} {w:World} {n:Nat} {v:Value}
  (h:Calls P f args (w.drewN n) fun e w'=> e=.returned v∧w.drewN n=w'):Calls P f args (w.drewN n) fun e w''=> e=.returned v∧∃ m,w''=w.drewN m:=
 h.mono fun _ _ ⟨he,hm⟩=> ⟨he,n,hm.symm⟩
def PmR (p:PmD):Prop:=p.r.Pairwise (·<·)∧p.q.Pairwise (·<·)∧p.g.Pairwise (·<·)∧PmL p
def CN (p:PmD) (by' who:Int) (write:Bool):Int × PmD:=
 if by'≠p.o then (211,p) else if AX who=false∨who=p.o then (2,p) else if inB p.r who=true∧(write=false∨inB p.q who=true) then (5,p)
 else (0,{p with r:=Bs p.r who,q:=if write=true then Bs p.q who else p.q})
theorem I0 (p:PmD) (by_ who:Int) (write:Bool) (b1 b2 b3 g B:Nat) (vr vq vg:Value) (w:World) (hb:Blk w g 43 (pmC p.o p.e vr vq vg)) (hp:PmS w p vr vq vg) (hn:Off g vr vq vg) (hB:BD B vr vq vg) (hBw:B≤w.heap.size) (hR:PmR p)
  (k1:w.cell? ⟨b1,0,none⟩=some (.int .i64 by_)) (n1:b1≠g) (k2:w.cell? ⟨b2,0,none⟩=some (.int .i64 who)) (n2:b2≠g) (k3:w.cell? ⟨b3,0,none⟩=some (.bool write)) (n3:b3≠g):
  Calls Tryz.prog 106 #[.pointer (some ⟨g,0,none⟩),.pointer (some ⟨b1,0,none⟩),.pointer (some ⟨b2,0,none⟩),.pointer (some ⟨b3,0,none⟩)] w (fun e w'=> En w g B (CN p by_ who write) e w'):=by
 obtain⟨ra,rc,rfl,-⟩:=hp.1.nums
 obtain⟨qa,qc,rfl,-⟩:=hp.2.1.nums
 obtain⟨ga,gc,rfl,-⟩:=hp.2.2.nums
 obtain⟨o,pe,pr,pq,pg⟩:=p
 simp only at hb hp hn hB hR ⊢
 generalize pr.length=rl at hb hp hn hB ⊢
 generalize pq.length=ql at hb hp hn hB ⊢
 generalize pg.length=gl at hb hp hn hB ⊢
 have H0:=Ag (show Blk w g 43 (pmC o pe (.slice ra rl rc) (.slice qa ql qc) (.slice ga gl gc))∧PmS w ⟨o,pe,pr,pq,pg⟩ (.slice ra rl rc) (.slice qa ql qc) (.slice ga gl gc)∧Off g (.slice ra rl rc) (.slice qa ql qc) (.slice ga gl gc)∧BD B (.slice ra rl rc) (.slice qa ql qc) (.slice ga gl gc)∧Ch (·=g) w w∧w.cell? ⟨b1,0,none⟩=some (.int .i64 by_)∧w.cell? ⟨b2,0,none⟩=some (.int .i64 who)∧w.cell? ⟨b3,0,none⟩=some (.bool write) from⟨hb,hp,hn,hB,Ch.refl _ _,k1,k2,k3⟩)
 have HN:=Ag (show b1≠g∧b2≠g∧b3≠g∧B≤w.heap.size from⟨n1,n2,n3,hBw⟩)
 have HR:=Ag hR
 obtain⟨R,hRR⟩:∃ R,CN ⟨o,pe,pr,pq,pg⟩ by_ who write=R:=⟨_,rfl⟩
 have HRR:=Ag (show(if by_≠o then (211,⟨o,pe,pr,pq,pg⟩) else if AX who=false∨who=o then (2,⟨o,pe,pr,pq,pg⟩) else if inB pr who=true∧(write=false∨inB pq who=true) then (5,⟨o,pe,pr,pq,pg⟩) else (0,(⟨o,pe,Bs pr who,if write=true then Bs pq who else pq,pg⟩:PmD)))=R from hRR)
 rw[hRR]
 have HU:=Ag (Dr who)
 obtain⟨u,hu⟩:∃ b,AX who=b:=⟨_,rfl⟩
 obtain⟨m1,hm1⟩:∃ b,inB pr who=b:=⟨_,rfl⟩
 obtain⟨m2,hm2⟩:∃ b,inB pq who=b:=⟨_,rfl⟩
 rw[hu,hm1,hm2] at HRR
 rw[hu] at HU
 have HM:=Ag (show pr.any (who==·)=m1∧pq.any (who==·)=m2 from⟨hm1,hm2⟩)
 clear hb hp hn hB hR k1 n1 k2 n2 k3 n3 hBw hRR hu hm1 hm2
 have c0:=H0.out.1.cell 0
 have c2:=H0.out.1.cell 2
 have c3:=H0.out.1.cell 3
 have k1:=H0.out.2.2.2.2.2.1
 have k2:=H0.out.2.2.2.2.2.2.1
 have k3:=H0.out.2.2.2.2.2.2.2
 simp only[pmC,Ab,Ac] at c0 c2 c3
 by_cases h1:by_=o
 ·have t1:(by_ !=o)=false:=by simpa using h1
  rw[if_neg (by simpa using h1)] at HRR
  clear h1
  cases u
  ·have HE:=Ag (show R=(2,⟨o,pe,pr,pq,pg⟩) from by rw[←HRR.out,if_pos (.inl rfl)])
   go_enter Tryz.func106,Tryz.ntmps106
   go_wp2_with fail
   go_quiet (fail)
   rename_i nq
   clear c0 c2 c3 k1 k2 k3
   have sm:=(Sm.refl w).drewN nq
   have H1:=hJ8 (sm.blk H0.out.1) (H0.out.2.1.sm sm) H0.out.2.2.1 H0.out.2.2.2.1 (H0.out.2.2.2.2.1.trans (sm.ch _)) ((sm.cell _).trans H0.out.2.2.2.2.2.1) ((sm.cell _).trans H0.out.2.2.2.2.2.2.1) ((sm.cell _).trans H0.out.2.2.2.2.2.2.2)
   clear sm
   generalize w.drewN nq=w1 at H1 ⊢
   clear nq
   have c0:=H1.out.1.cell 0
   have c2:=H1.out.1.cell 2
   have c3:=H1.out.1.cell 3
   have k1:=H1.out.2.2.2.2.2.1
   have k2:=H1.out.2.2.2.2.2.2.1
   have k3:=H1.out.2.2.2.2.2.2.2
   simp only[pmC,Ab,Ac] at c0 c2 c3
   go_wp2_with fail
   go_quiet (((go_at_call 52;exact Calls.quiet_eq (HU.out _))))
   rename_i nq
   clear c0 c2 c3 k1 k2 k3
   have sm:=(Sm.refl w1).drewN nq
   have H2:=hJ8 (sm.blk H1.out.1) (H1.out.2.1.sm sm) H1.out.2.2.1 H1.out.2.2.2.1 (H1.out.2.2.2.2.1.trans (sm.ch _)) ((sm.cell _).trans H1.out.2.2.2.2.2.1) ((sm.cell _).trans H1.out.2.2.2.2.2.2.1) ((sm.cell _).trans H1.out.2.2.2.2.2.2.2)
   clear sm
   generalize w1.drewN nq=w2 at H2 ⊢
   clear nq
   go_wp2_with fail
   go_ret
   rw[HE.out]
   exact⟨rfl,_,_,_,H2.out.1,H2.out.2.1,H2.out.2.2.2.2.1,H2.out.2.2.2.1⟩
  ·by_cases h2:who=o
   ·have HE:=Ag (show R=(2,⟨o,pe,pr,pq,pg⟩) from by rw[←HRR.out,if_pos (.inr h2)])
    have t2:(who==o)=true:=by simpa using h2
    clear h2
    go_enter Tryz.func106,Tryz.ntmps106
    go_wp2_with fail
    go_quiet (fail)
    rename_i nq
    clear c0 c2 c3 k1 k2 k3
    have sm:=(Sm.refl w).drewN nq
    have H1:=hJ8 (sm.blk H0.out.1) (H0.out.2.1.sm sm) H0.out.2.2.1 H0.out.2.2.2.1 (H0.out.2.2.2.2.1.trans (sm.ch _)) ((sm.cell _).trans H0.out.2.2.2.2.2.1) ((sm.cell _).trans H0.out.2.2.2.2.2.2.1) ((sm.cell _).trans H0.out.2.2.2.2.2.2.2)
    clear sm
    generalize w.drewN nq=w1 at H1 ⊢
    clear nq
    have c0:=H1.out.1.cell 0
    have c2:=H1.out.1.cell 2
    have c3:=H1.out.1.cell 3
    have k1:=H1.out.2.2.2.2.2.1
    have k2:=H1.out.2.2.2.2.2.2.1
    have k3:=H1.out.2.2.2.2.2.2.2
    simp only[pmC,Ab,Ac] at c0 c2 c3
    go_wp2_with fail
    go_quiet (((go_at_call 52;exact Calls.quiet_eq (HU.out _))))
    rename_i nq
    clear c0 c2 c3 k1 k2 k3
    have sm:=(Sm.refl w1).drewN nq
    have H2:=hJ8 (sm.blk H1.out.1) (H1.out.2.1.sm sm) H1.out.2.2.1 H1.out.2.2.2.1 (H1.out.2.2.2.2.1.trans (sm.ch _)) ((sm.cell _).trans H1.out.2.2.2.2.2.1) ((sm.cell _).trans H1.out.2.2.2.2.2.2.1) ((sm.cell _).trans H1.out.2.2.2.2.2.2.2)
    clear sm
    generalize w1.drewN nq=w2 at H2 ⊢
    clear nq
    go_wp2_with fail
    go_ret
    rw[HE.out]
    exact⟨rfl,_,_,_,H2.out.1,H2.out.2.1,H2.out.2.2.2.2.1,H2.out.2.2.2.1⟩
   ·have t2:(who==o)=false:=by simpa using h2
    rw[if_neg (by rintro(h|h);cases h;exact h2 h)] at HRR
    clear h2
    cases m1
    ·rw[if_neg (by simp)] at HRR
     cases write
     ·skip
      go_enter Tryz.func106,Tryz.ntmps106
      go_wp2_with fail
      go_quiet (fail)
      rename_i nq
      clear c0 c2 c3 k1 k2 k3
      have sm:=(Sm.refl w).drewN nq
      have H1:=hJ8 (sm.blk H0.out.1) (H0.out.2.1.sm sm) H0.out.2.2.1 H0.out.2.2.2.1 (H0.out.2.2.2.2.1.trans (sm.ch _)) ((sm.cell _).trans H0.out.2.2.2.2.2.1) ((sm.cell _).trans H0.out.2.2.2.2.2.2.1) ((sm.cell _).trans H0.out.2.2.2.2.2.2.2)
      clear sm
      generalize w.drewN nq=w1 at H1 ⊢
      clear nq
      have c0:=H1.out.1.cell 0
      have c2:=H1.out.1.cell 2
      have c3:=H1.out.1.cell 3
      have k1:=H1.out.2.2.2.2.2.1
      have k2:=H1.out.2.2.2.2.2.2.1
      have k3:=H1.out.2.2.2.2.2.2.2
      simp only[pmC,Ab,Ac] at c0 c2 c3
      go_wp2_with fail
      go_quiet (((go_at_call 52;exact Calls.quiet_eq (HU.out _))))
      rename_i nq
      clear c0 c2 c3 k1 k2 k3
      have sm:=(Sm.refl w1).drewN nq
      have H2:=hJ8 (sm.blk H1.out.1) (H1.out.2.1.sm sm) H1.out.2.2.1 H1.out.2.2.2.1 (H1.out.2.2.2.2.1.trans (sm.ch _)) ((sm.cell _).trans H1.out.2.2.2.2.2.1) ((sm.cell _).trans H1.out.2.2.2.2.2.2.1) ((sm.cell _).trans H1.out.2.2.2.2.2.2.2)
      clear sm
      generalize w1.drewN nq=w2 at H2 ⊢
      clear nq
      have c0:=H2.out.1.cell 0
      have c2:=H2.out.1.cell 2
      have c3:=H2.out.1.cell 3
      have k1:=H2.out.2.2.2.2.2.1
      have k2:=H2.out.2.2.2.2.2.2.1
      have k3:=H2.out.2.2.2.2.2.2.2
      simp only[pmC,Ab,Ac] at c0 c2 c3
      have HCa:=Ag (fun n=> AV who (.slice ra rl rc) pr (World.drewN w2 n) (((Sm.refl w2).drewN n).sl H2.out.2.1.1))
      have HCb:=Ag (fun n=> AV who (.slice qa ql qc) pq (World.drewN w2 n) (((Sm.refl w2).drewN n).sl H2.out.2.1.2.1))
      rw[HM.out.1] at HCa
      rw[HM.out.2] at HCb
      go_wp2_with fail
      go_quiet ((first|(go_at_call_of 12 (Value.slice ra rl rc);exact Calls.quiet_eq (HCa.out _))|(go_at_call_of 12 (Value.slice qa ql qc);exact Calls.quiet_eq (HCb.out _))))
      rename_i nq
      clear c0 c2 c3 k1 k2 k3
      have sm:=(Sm.refl w2).drewN nq
      have H3:=hJ8 (sm.blk H2.out.1) (H2.out.2.1.sm sm) H2.out.2.2.1 H2.out.2.2.2.1 (H2.out.2.2.2.2.1.trans (sm.ch _)) ((sm.cell _).trans H2.out.2.2.2.2.2.1) ((sm.cell _).trans H2.out.2.2.2.2.2.2.1) ((sm.cell _).trans H2.out.2.2.2.2.2.2.2)
      clear sm
      generalize w2.drewN nq=w3 at H3 ⊢
      clear nq
      clear HCa HCb
      go_wp2_with fail
      refine Az (fun w'=> w'.cell? ⟨b2,0,none⟩=some (.int .i64 who)) [0,1,2,3,5] 5 (by kernel_rfl) rfl (by kernel_rfl) (by kernel_rfl) H3.out.2.2.2.2.2.2.1 ?_
      iterate 5(refine' AK.run ?_ ?_ ?_ ?_;rotate_left 2;(simp only[Aa,Ab,Ac];rfl);rfl;(rintro w' k0;go_simp;with_reducible rfl);simp only[Al,Ad,Ae,Af])
      have sm:=(Sm.refl w3).drew
      have HA4:=hJ8 (sm.blk H3.out.1) (H3.out.2.1.sm sm) H3.out.2.2.1 H3.out.2.2.2.1 (H3.out.2.2.2.2.1.trans (sm.ch _)) ((sm.cell _).trans H3.out.2.2.2.2.2.1) ((sm.cell _).trans H3.out.2.2.2.2.2.2.1) ((sm.cell _).trans H3.out.2.2.2.2.2.2.2)
      clear sm
      generalize w3.drew=u4 at HA4 ⊢
      refine' Ar 4 (by kernel_rfl) ?_ ?_;rotate_left;(simp only[Aa,Ab,Ac];rfl)
      have cc:=HA4.out.1.cell 2
      simp only[pmC,Ab,Ac] at cc
      try simp only[Al]
      go_wp2_with fail
      clear cc
      refine QK.normal ⟨HA4.out.2.2.2.2.2.2.1,?_⟩
      refine' Ar 6 (by kernel_rfl) ?_ ?_;rotate_left;(simp only[Aa,Ab,Ac];rfl)
      try simp only[Al]
      go_wp2_with fail
      refine(Du who (.slice ra rl rc) pr u4 HA4.out.2.1.1 HR.out.1 HR.out.2.2.2.1).mono ?_
      rintro e' u4b ⟨x4a,x4l,x4c,rfl,hs,hb,hab⟩
      have HB4:=Ag (show Blk u4b g 43 (pmC o pe (.slice ra rl rc) (.slice qa ql qc) (.slice ga gl gc))∧PmS u4b (⟨o,pe,(Bs pr who),pq,pg⟩:PmD) (.slice x4a x4l x4c) (.slice qa ql qc) (.slice ga gl gc)∧Off g (.slice x4a x4l x4c) (.slice qa ql qc) (.slice ga gl gc)∧BD B (.slice x4a x4l x4c) (.slice qa ql qc) (.slice ga gl gc)∧Ch (·=g) w u4b∧u4b.cell? ⟨b1,0,none⟩=some (.int .i64 by_)∧u4b.cell? ⟨b2,0,none⟩=some (.int .i64 who)∧u4b.cell? ⟨b3,0,none⟩=some (.bool false) from⟨HA4.out.1.below hb HA4.out.1.lt,⟨hs,HA4.out.2.1.2.1.below hb (Ah _),HA4.out.2.1.2.2.below hb (Ah _)⟩,⟨(fun k hk e=> by have:=hab k hk;have:=HA4.out.1.lt;omega),HA4.out.2.2.1.2.1,HA4.out.2.2.1.2.2⟩,⟨(fun k hk=> Aj HN.out.2.2.2 (Aj HA4.out.2.2.2.2.1.size (hab k hk))),HA4.out.2.2.2.1.2.1,HA4.out.2.2.2.1.2.2⟩,HA4.out.2.2.2.2.1.trans (Ch.of_below hb (Ah _)),(hb.cell (p:=⟨b1,0,none⟩) (Am HA4.out.2.2.2.2.2.1)).trans HA4.out.2.2.2.2.2.1,(hb.cell (p:=⟨b2,0,none⟩) (Am HA4.out.2.2.2.2.2.2.1)).trans HA4.out.2.2.2.2.2.2.1,(hb.cell (p:=⟨b3,0,none⟩) (Am HA4.out.2.2.2.2.2.2.2)).trans HA4.out.2.2.2.2.2.2.2⟩)
      clear hs hb hab
      go_wp2_with fail
      refine QK.normal ⟨HB4.out.2.2.2.2.2.2.1,?_⟩
      refine' Ar 7 (by kernel_rfl) ?_ ?_;rotate_left;(simp only[Aa,Ab,Ac];rfl)
      try simp only[Al]
      go_wp2_with fail
      refine QK.normal ⟨HB4.out.2.2.2.2.2.2.1,?_⟩
      refine' Ar 8 (by kernel_rfl) ?_ ?_;rotate_left;(simp only[Aa,Ab,Ac];rfl)
      try simp only[Al]
      go_wp2_with fail
      refine QK.normal ⟨HB4.out.2.2.2.2.2.2.1,?_⟩
      refine' Ar 9 (by kernel_rfl) ?_ ?_;rotate_left;(simp only[Aa,Ab,Ac];rfl)
      have cc:=HB4.out.1.cell 2
      have ff:=HB4.out.1.free 2
      simp only[pmC,Ab,Ac] at cc
      try simp only[Al]
      go_wp2_with fail
      clear cc ff
      have HC4:=Ag (show Blk (u4b.setCell ⟨g,2,none⟩ (.slice x4a x4l x4c)) g 43 (pmC o pe (.slice x4a x4l x4c) (.slice qa ql qc) (.slice ga gl gc))∧PmS (u4b.setCell ⟨g,2,none⟩ (.slice x4a x4l x4c)) (⟨o,pe,(Bs pr who),pq,pg⟩:PmD) (.slice x4a x4l x4c) (.slice qa ql qc) (.slice ga gl gc)∧Off g (.slice x4a x4l x4c) (.slice qa ql qc) (.slice ga gl gc)∧BD B (.slice x4a x4l x4c) (.slice qa ql qc) (.slice ga gl gc)∧Ch (·=g) w (u4b.setCell ⟨g,2,none⟩ (.slice x4a x4l x4c))∧(u4b.setCell ⟨g,2,none⟩ (.slice x4a x4l x4c)).cell? ⟨b1,0,none⟩=some (.int .i64 by_)∧(u4b.setCell ⟨g,2,none⟩ (.slice x4a x4l x4c)).cell? ⟨b2,0,none⟩=some (.int .i64 who)∧(u4b.setCell ⟨g,2,none⟩ (.slice x4a x4l x4c)).cell? ⟨b3,0,none⟩=some (.bool false) from⟨HB4.out.1.set 2 _,HB4.out.2.1.ch (Ch.set u4b ⟨g,2,none⟩ (.slice x4a x4l x4c)) HB4.out.2.2.1,HB4.out.2.2.1,HB4.out.2.2.2.1,HB4.out.2.2.2.2.1.trans (Ch.set u4b ⟨g,2,none⟩ (.slice x4a x4l x4c)),((Ch.set u4b ⟨g,2,none⟩ (.slice x4a x4l x4c)).cell (p:=⟨b1,0,none⟩) (Am HB4.out.2.2.2.2.2.1) (fun e=> HN.out.1 e)).trans HB4.out.2.2.2.2.2.1,((Ch.set u4b ⟨g,2,none⟩ (.slice x4a x4l x4c)).cell (p:=⟨b2,0,none⟩) (Am HB4.out.2.2.2.2.2.2.1) (fun e=> HN.out.2.1 e)).trans HB4.out.2.2.2.2.2.2.1,((Ch.set u4b ⟨g,2,none⟩ (.slice x4a x4l x4c)).cell (p:=⟨b3,0,none⟩) (Am HB4.out.2.2.2.2.2.2.2) (fun e=> HN.out.2.2.1 e)).trans HB4.out.2.2.2.2.2.2.2⟩)
      generalize u4b.setCell ⟨g,2,none⟩ (.slice x4a x4l x4c)=u4c at HC4 ⊢
      refine QK.normal ⟨HC4.out.2.2.2.2.2.2.1,?_⟩
      refine wpAnyH_done (by kernel_rfl) ?_ _
      refine NoPanic.normal ?_
      have k3:=HC4.out.2.2.2.2.2.2.2
      go_wp2_with fail
      go_ret
      rw[←HRR.out]
      exact⟨rfl,_,_,_,HC4.out.1,HC4.out.2.1,HC4.out.2.2.2.2.1,HC4.out.2.2.2.1⟩
     ·skip
      go_enter Tryz.func106,Tryz.ntmps106
      go_wp2_with fail
      go_quiet (fail)
      rename_i nq
      clear c0 c2 c3 k1 k2 k3
      have sm:=(Sm.refl w).drewN nq
      have H1:=hJ8 (sm.blk H0.out.1) (H0.out.2.1.sm sm) H0.out.2.2.1 H0.out.2.2.2.1 (H0.out.2.2.2.2.1.trans (sm.ch _)) ((sm.cell _).trans H0.out.2.2.2.2.2.1) ((sm.cell _).trans H0.out.2.2.2.2.2.2.1) ((sm.cell _).trans H0.out.2.2.2.2.2.2.2)
      clear sm
      generalize w.drewN nq=w1 at H1 ⊢
      clear nq
      have c0:=H1.out.1.cell 0
      have c2:=H1.out.1.cell 2
      have c3:=H1.out.1.cell 3
      have k1:=H1.out.2.2.2.2.2.1
      have k2:=H1.out.2.2.2.2.2.2.1
      have k3:=H1.out.2.2.2.2.2.2.2
      simp only[pmC,Ab,Ac] at c0 c2 c3
      go_wp2_with fail
      go_quiet (((go_at_call 52;exact Calls.quiet_eq (HU.out _))))
      rename_i nq
      clear c0 c2 c3 k1 k2 k3
      have sm:=(Sm.refl w1).drewN nq
      have H2:=hJ8 (sm.blk H1.out.1) (H1.out.2.1.sm sm) H1.out.2.2.1 H1.out.2.2.2.1 (H1.out.2.2.2.2.1.trans (sm.ch _)) ((sm.cell _).trans H1.out.2.2.2.2.2.1) ((sm.cell _).trans H1.out.2.2.2.2.2.2.1) ((sm.cell _).trans H1.out.2.2.2.2.2.2.2)
      clear sm
      generalize w1.drewN nq=w2 at H2 ⊢
      clear nq
      have c0:=H2.out.1.cell 0
      have c2:=H2.out.1.cell 2
      have c3:=H2.out.1.cell 3
      have k1:=H2.out.2.2.2.2.2.1
      have k2:=H2.out.2.2.2.2.2.2.1
      have k3:=H2.out.2.2.2.2.2.2.2
      simp only[pmC,Ab,Ac] at c0 c2 c3
      have HCa:=Ag (fun n=> AV who (.slice ra rl rc) pr (World.drewN w2 n) (((Sm.refl w2).drewN n).sl H2.out.2.1.1))
      have HCb:=Ag (fun n=> AV who (.slice qa ql qc) pq (World.drewN w2 n) (((Sm.refl w2).drewN n).sl H2.out.2.1.2.1))
      rw[HM.out.1] at HCa
      rw[HM.out.2] at HCb
      go_wp2_with fail
      go_quiet ((first|(go_at_call_of 12 (Value.slice ra rl rc);exact Calls.quiet_eq (HCa.out _))|(go_at_call_of 12 (Value.slice qa ql qc);exact Calls.quiet_eq (HCb.out _))))
      rename_i nq
      clear c0 c2 c3 k1 k2 k3
      have sm:=(Sm.refl w2).drewN nq
      have H3:=hJ8 (sm.blk H2.out.1) (H2.out.2.1.sm sm) H2.out.2.2.1 H2.out.2.2.2.1 (H2.out.2.2.2.2.1.trans (sm.ch _)) ((sm.cell _).trans H2.out.2.2.2.2.2.1) ((sm.cell _).trans H2.out.2.2.2.2.2.2.1) ((sm.cell _).trans H2.out.2.2.2.2.2.2.2)
      clear sm
      generalize w2.drewN nq=w3 at H3 ⊢
      clear nq
      clear HCa HCb
      go_wp2_with fail
      refine Az (fun w'=> w'.cell? ⟨b2,0,none⟩=some (.int .i64 who)) [0,1,2,3,5] 5 (by kernel_rfl) rfl (by kernel_rfl) (by kernel_rfl) H3.out.2.2.2.2.2.2.1 ?_
      iterate 5(refine' AK.run ?_ ?_ ?_ ?_;rotate_left 2;(simp only[Aa,Ab,Ac];rfl);rfl;(rintro w' k0;go_simp;with_reducible rfl);simp only[Al,Ad,Ae,Af])
      have sm:=(Sm.refl w3).drew
      have HA4:=hJ8 (sm.blk H3.out.1) (H3.out.2.1.sm sm) H3.out.2.2.1 H3.out.2.2.2.1 (H3.out.2.2.2.2.1.trans (sm.ch _)) ((sm.cell _).trans H3.out.2.2.2.2.2.1) ((sm.cell _).trans H3.out.2.2.2.2.2.2.1) ((sm.cell _).trans H3.out.2.2.2.2.2.2.2)
      clear sm
      generalize w3.drew=u4 at HA4 ⊢
      refine' Ar 4 (by kernel_rfl) ?_ ?_;rotate_left;(simp only[Aa,Ab,Ac];rfl)
      have cc:=HA4.out.1.cell 2
      simp only[pmC,Ab,Ac] at cc
      try simp only[Al]
      go_wp2_with fail
      clear cc
      refine QK.normal ⟨HA4.out.2.2.2.2.2.2.1,?_⟩
      refine' Ar 6 (by kernel_rfl) ?_ ?_;rotate_left;(simp only[Aa,Ab,Ac];rfl)
      try simp only[Al]
      go_wp2_with fail
      refine(Du who (.slice ra rl rc) pr u4 HA4.out.2.1.1 HR.out.1 HR.out.2.2.2.1).mono ?_
      rintro e' u4b ⟨x4a,x4l,x4c,rfl,hs,hb,hab⟩
      have HB4:=Ag (show Blk u4b g 43 (pmC o pe (.slice ra rl rc) (.slice qa ql qc) (.slice ga gl gc))∧PmS u4b (⟨o,pe,(Bs pr who),pq,pg⟩:PmD) (.slice x4a x4l x4c) (.slice qa ql qc) (.slice ga gl gc)∧Off g (.slice x4a x4l x4c) (.slice qa ql qc) (.slice ga gl gc)∧BD B (.slice x4a x4l x4c) (.slice qa ql qc) (.slice ga gl gc)∧Ch (·=g) w u4b∧u4b.cell? ⟨b1,0,none⟩=some (.int .i64 by_)∧u4b.cell? ⟨b2,0,none⟩=some (.int .i64 who)∧u4b.cell? ⟨b3,0,none⟩=some (.bool true) from⟨HA4.out.1.below hb HA4.out.1.lt,⟨hs,HA4.out.2.1.2.1.below hb (Ah _),HA4.out.2.1.2.2.below hb (Ah _)⟩,⟨(fun k hk e=> by have:=hab k hk;have:=HA4.out.1.lt;omega),HA4.out.2.2.1.2.1,HA4.out.2.2.1.2.2⟩,⟨(fun k hk=> Aj HN.out.2.2.2 (Aj HA4.out.2.2.2.2.1.size (hab k hk))),HA4.out.2.2.2.1.2.1,HA4.out.2.2.2.1.2.2⟩,HA4.out.2.2.2.2.1.trans (Ch.of_below hb (Ah _)),(hb.cell (p:=⟨b1,0,none⟩) (Am HA4.out.2.2.2.2.2.1)).trans HA4.out.2.2.2.2.2.1,(hb.cell (p:=⟨b2,0,none⟩) (Am HA4.out.2.2.2.2.2.2.1)).trans HA4.out.2.2.2.2.2.2.1,(hb.cell (p:=⟨b3,0,none⟩) (Am HA4.out.2.2.2.2.2.2.2)).trans HA4.out.2.2.2.2.2.2.2⟩)
      clear hs hb hab
      go_wp2_with fail
      refine QK.normal ⟨HB4.out.2.2.2.2.2.2.1,?_⟩
      refine' Ar 7 (by kernel_rfl) ?_ ?_;rotate_left;(simp only[Aa,Ab,Ac];rfl)
      try simp only[Al]
      go_wp2_with fail
      refine QK.normal ⟨HB4.out.2.2.2.2.2.2.1,?_⟩
      refine' Ar 8 (by kernel_rfl) ?_ ?_;rotate_left;(simp only[Aa,Ab,Ac];rfl)
      try simp only[Al]
      go_wp2_with fail
      refine QK.normal ⟨HB4.out.2.2.2.2.2.2.1,?_⟩
      refine' Ar 9 (by kernel_rfl) ?_ ?_;rotate_left;(simp only[Aa,Ab,Ac];rfl)
      have cc:=HB4.out.1.cell 2
      have ff:=HB4.out.1.free 2
      simp only[pmC,Ab,Ac] at cc
      try simp only[Al]
      go_wp2_with fail
      clear cc ff
      have HC4:=Ag (show Blk (u4b.setCell ⟨g,2,none⟩ (.slice x4a x4l x4c)) g 43 (pmC o pe (.slice x4a x4l x4c) (.slice qa ql qc) (.slice ga gl gc))∧PmS (u4b.setCell ⟨g,2,none⟩ (.slice x4a x4l x4c)) (⟨o,pe,(Bs pr who),pq,pg⟩:PmD) (.slice x4a x4l x4c) (.slice qa ql qc) (.slice ga gl gc)∧Off g (.slice x4a x4l x4c) (.slice qa ql qc) (.slice ga gl gc)∧BD B (.slice x4a x4l x4c) (.slice qa ql qc) (.slice ga gl gc)∧Ch (·=g) w (u4b.setCell ⟨g,2,none⟩ (.slice x4a x4l x4c))∧(u4b.setCell ⟨g,2,none⟩ (.slice x4a x4l x4c)).cell? ⟨b1,0,none⟩=some (.int .i64 by_)∧(u4b.setCell ⟨g,2,none⟩ (.slice x4a x4l x4c)).cell? ⟨b2,0,none⟩=some (.int .i64 who)∧(u4b.setCell ⟨g,2,none⟩ (.slice x4a x4l x4c)).cell? ⟨b3,0,none⟩=some (.bool true) from⟨HB4.out.1.set 2 _,HB4.out.2.1.ch (Ch.set u4b ⟨g,2,none⟩ (.slice x4a x4l x4c)) HB4.out.2.2.1,HB4.out.2.2.1,HB4.out.2.2.2.1,HB4.out.2.2.2.2.1.trans (Ch.set u4b ⟨g,2,none⟩ (.slice x4a x4l x4c)),((Ch.set u4b ⟨g,2,none⟩ (.slice x4a x4l x4c)).cell (p:=⟨b1,0,none⟩) (Am HB4.out.2.2.2.2.2.1) (fun e=> HN.out.1 e)).trans HB4.out.2.2.2.2.2.1,((Ch.set u4b ⟨g,2,none⟩ (.slice x4a x4l x4c)).cell (p:=⟨b2,0,none⟩) (Am HB4.out.2.2.2.2.2.2.1) (fun e=> HN.out.2.1 e)).trans HB4.out.2.2.2.2.2.2.1,((Ch.set u4b ⟨g,2,none⟩ (.slice x4a x4l x4c)).cell (p:=⟨b3,0,none⟩) (Am HB4.out.2.2.2.2.2.2.2) (fun e=> HN.out.2.2.1 e)).trans HB4.out.2.2.2.2.2.2.2⟩)
      generalize u4b.setCell ⟨g,2,none⟩ (.slice x4a x4l x4c)=u4c at HC4 ⊢
      refine QK.normal ⟨HC4.out.2.2.2.2.2.2.1,?_⟩
      refine wpAnyH_done (by kernel_rfl) ?_ _
      refine NoPanic.normal ?_
      have k3:=HC4.out.2.2.2.2.2.2.2
      go_wp2_with fail
      clear k3
      go_wp2_with fail
      refine Az (fun w'=> w'.cell? ⟨b2,0,none⟩=some (.int .i64 who)) [0,1,2,3,5] 5 (by kernel_rfl) rfl (by kernel_rfl) (by kernel_rfl) HC4.out.2.2.2.2.2.2.1 ?_
      iterate 5(refine' AK.run ?_ ?_ ?_ ?_;rotate_left 2;(simp only[Aa,Ab,Ac];rfl);rfl;(rintro w' k0;go_simp;with_reducible rfl);simp only[Al,Ad,Ae,Af])
      have sm:=(Sm.refl u4c).drew
      have HA5:=hJ8 (sm.blk HC4.out.1) (HC4.out.2.1.sm sm) HC4.out.2.2.1 HC4.out.2.2.2.1 (HC4.out.2.2.2.2.1.trans (sm.ch _)) ((sm.cell _).trans HC4.out.2.2.2.2.2.1) ((sm.cell _).trans HC4.out.2.2.2.2.2.2.1) ((sm.cell _).trans HC4.out.2.2.2.2.2.2.2)
      clear sm
      generalize u4c.drew=u5 at HA5 ⊢
      refine' Ar 4 (by kernel_rfl) ?_ ?_;rotate_left;(simp only[Aa,Ab,Ac];rfl)
      have cc:=HA5.out.1.cell 3
      simp only[pmC,Ab,Ac] at cc
      try simp only[Al]
      go_wp2_with fail
      clear cc
      refine QK.normal ⟨HA5.out.2.2.2.2.2.2.1,?_⟩
      refine' Ar 6 (by kernel_rfl) ?_ ?_;rotate_left;(simp only[Aa,Ab,Ac];rfl)
      try simp only[Al]
      go_wp2_with fail
      refine(Du who (.slice qa ql qc) pq u5 HA5.out.2.1.2.1 HR.out.2.1 HR.out.2.2.2.2.1).mono ?_
      rintro e' u5b ⟨x5a,x5l,x5c,rfl,hs,hb,hab⟩
      have HB5:=Ag (show Blk u5b g 43 (pmC o pe (.slice x4a x4l x4c) (.slice qa ql qc) (.slice ga gl gc))∧PmS u5b (⟨o,pe,(Bs pr who),(Bs pq who),pg⟩:PmD) (.slice x4a x4l x4c) (.slice x5a x5l x5c) (.slice ga gl gc)∧Off g (.slice x4a x4l x4c) (.slice x5a x5l x5c) (.slice ga gl gc)∧BD B (.slice x4a x4l x4c) (.slice x5a x5l x5c) (.slice ga gl gc)∧Ch (·=g) w u5b∧u5b.cell? ⟨b1,0,none⟩=some (.int .i64 by_)∧u5b.cell? ⟨b2,0,none⟩=some (.int .i64 who)∧u5b.cell? ⟨b3,0,none⟩=some (.bool true) from⟨HA5.out.1.below hb HA5.out.1.lt,⟨HA5.out.2.1.1.below hb (Ah _),hs,HA5.out.2.1.2.2.below hb (Ah _)⟩,⟨HA5.out.2.2.1.1,(fun k hk e=> by have:=hab k hk;have:=HA5.out.1.lt;omega),HA5.out.2.2.1.2.2⟩,⟨HA5.out.2.2.2.1.1,(fun k hk=> Aj HN.out.2.2.2 (Aj HA5.out.2.2.2.2.1.size (hab k hk))),HA5.out.2.2.2.1.2.2⟩,HA5.out.2.2.2.2.1.trans (Ch.of_below hb (Ah _)),(hb.cell (p:=⟨b1,0,none⟩) (Am HA5.out.2.2.2.2.2.1)).trans HA5.out.2.2.2.2.2.1,(hb.cell (p:=⟨b2,0,none⟩) (Am HA5.out.2.2.2.2.2.2.1)).trans HA5.out.2.2.2.2.2.2.1,(hb.cell (p:=⟨b3,0,none⟩) (Am HA5.out.2.2.2.2.2.2.2)).trans HA5.out.2.2.2.2.2.2.2⟩)
      clear hs hb hab
      go_wp2_with fail
      refine QK.normal ⟨HB5.out.2.2.2.2.2.2.1,?_⟩
      refine' Ar 7 (by kernel_rfl) ?_ ?_;rotate_left;(simp only[Aa,Ab,Ac];rfl)
      try simp only[Al]
      go_wp2_with fail
      refine QK.normal ⟨HB5.out.2.2.2.2.2.2.1,?_⟩
      refine' Ar 8 (by kernel_rfl) ?_ ?_;rotate_left;(simp only[Aa,Ab,Ac];rfl)
      try simp only[Al]
      go_wp2_with fail
      refine QK.normal ⟨HB5.out.2.2.2.2.2.2.1,?_⟩
      refine' Ar 9 (by kernel_rfl) ?_ ?_;rotate_left;(simp only[Aa,Ab,Ac];rfl)
      have cc:=HB5.out.1.cell 3
      have ff:=HB5.out.1.free 3
      simp only[pmC,Ab,Ac] at cc
      try simp only[Al]
      go_wp2_with fail
      clear cc ff
      have HC5:=Ag (show Blk (u5b.setCell ⟨g,3,none⟩ (.slice x5a x5l x5c)) g 43 (pmC o pe (.slice x4a x4l x4c) (.slice x5a x5l x5c) (.slice ga gl gc))∧PmS (u5b.setCell ⟨g,3,none⟩ (.slice x5a x5l x5c)) (⟨o,pe,(Bs pr who),(Bs pq who),pg⟩:PmD) (.slice x4a x4l x4c) (.slice x5a x5l x5c) (.slice ga gl gc)∧Off g (.slice x4a x4l x4c) (.slice x5a x5l x5c) (.slice ga gl gc)∧BD B (.slice x4a x4l x4c) (.slice x5a x5l x5c) (.slice ga gl gc)∧Ch (·=g) w (u5b.setCell ⟨g,3,none⟩ (.slice x5a x5l x5c))∧(u5b.setCell ⟨g,3,none⟩ (.slice x5a x5l x5c)).cell? ⟨b1,0,none⟩=some (.int .i64 by_)∧(u5b.setCell ⟨g,3,none⟩ (.slice x5a x5l x5c)).cell? ⟨b2,0,none⟩=some (.int .i64 who)∧(u5b.setCell ⟨g,3,none⟩ (.slice x5a x5l x5c)).cell? ⟨b3,0,none⟩=some (.bool true) from⟨HB5.out.1.set 3 _,HB5.out.2.1.ch (Ch.set u5b ⟨g,3,none⟩ (.slice x5a x5l x5c)) HB5.out.2.2.1,HB5.out.2.2.1,HB5.out.2.2.2.1,HB5.out.2.2.2.2.1.trans (Ch.set u5b ⟨g,3,none⟩ (.slice x5a x5l x5c)),((Ch.set u5b ⟨g,3,none⟩ (.slice x5a x5l x5c)).cell (p:=⟨b1,0,none⟩) (Am HB5.out.2.2.2.2.2.1) (fun e=> HN.out.1 e)).trans HB5.out.2.2.2.2.2.1,((Ch.set u5b ⟨g,3,none⟩ (.slice x5a x5l x5c)).cell (p:=⟨b2,0,none⟩) (Am HB5.out.2.2.2.2.2.2.1) (fun e=> HN.out.2.1 e)).trans HB5.out.2.2.2.2.2.2.1,((Ch.set u5b ⟨g,3,none⟩ (.slice x5a x5l x5c)).cell (p:=⟨b3,0,none⟩) (Am HB5.out.2.2.2.2.2.2.2) (fun e=> HN.out.2.2.1 e)).trans HB5.out.2.2.2.2.2.2.2⟩)
      generalize u5b.setCell ⟨g,3,none⟩ (.slice x5a x5l x5c)=u5c at HC5 ⊢
      refine QK.normal ⟨HC5.out.2.2.2.2.2.2.1,?_⟩
      refine wpAnyH_done (by kernel_rfl) ?_ _
      refine NoPanic.normal ?_
      go_wp2_with fail
      go_ret
      rw[←HRR.out]
      exact⟨rfl,_,_,_,HC5.out.1,HC5.out.2.1,HC5.out.2.2.2.2.1,HC5.out.2.2.2.1⟩
    ·cases write
     ·have HE:=Ag (show R=(5,⟨o,pe,pr,pq,pg⟩) from by rw[←HRR.out,if_pos ⟨rfl,.inl rfl⟩])
      go_enter Tryz.func106,Tryz.ntmps106
      go_wp2_with fail
      go_quiet (fail)
      rename_i nq
      clear c0 c2 c3 k1 k2 k3
      have sm:=(Sm.refl w).drewN nq
      have H1:=hJ8 (sm.blk H0.out.1) (H0.out.2.1.sm sm) H0.out.2.2.1 H0.out.2.2.2.1 (H0.out.2.2.2.2.1.trans (sm.ch _)) ((sm.cell _).trans H0.out.2.2.2.2.2.1) ((sm.cell _).trans H0.out.2.2.2.2.2.2.1) ((sm.cell _).trans H0.out.2.2.2.2.2.2.2)
      clear sm
      generalize w.drewN nq=w1 at H1 ⊢
      clear nq
      have c0:=H1.out.1.cell 0
      have c2:=H1.out.1.cell 2
      have c3:=H1.out.1.cell 3
      have k1:=H1.out.2.2.2.2.2.1
      have k2:=H1.out.2.2.2.2.2.2.1
      have k3:=H1.out.2.2.2.2.2.2.2
      simp only[pmC,Ab,Ac] at c0 c2 c3
      go_wp2_with fail
      go_quiet (((go_at_call 52;exact Calls.quiet_eq (HU.out _))))
      rename_i nq
      clear c0 c2 c3 k1 k2 k3
      have sm:=(Sm.refl w1).drewN nq
      have H2:=hJ8 (sm.blk H1.out.1) (H1.out.2.1.sm sm) H1.out.2.2.1 H1.out.2.2.2.1 (H1.out.2.2.2.2.1.trans (sm.ch _)) ((sm.cell _).trans H1.out.2.2.2.2.2.1) ((sm.cell _).trans H1.out.2.2.2.2.2.2.1) ((sm.cell _).trans H1.out.2.2.2.2.2.2.2)
      clear sm
      generalize w1.drewN nq=w2 at H2 ⊢
      clear nq
      have c0:=H2.out.1.cell 0
      have c2:=H2.out.1.cell 2
      have c3:=H2.out.1.cell 3
      have k1:=H2.out.2.2.2.2.2.1
      have k2:=H2.out.2.2.2.2.2.2.1
      have k3:=H2.out.2.2.2.2.2.2.2
      simp only[pmC,Ab,Ac] at c0 c2 c3
      have HCa:=Ag (fun n=> AV who (.slice ra rl rc) pr (World.drewN w2 n) (((Sm.refl w2).drewN n).sl H2.out.2.1.1))
      have HCb:=Ag (fun n=> AV who (.slice qa ql qc) pq (World.drewN w2 n) (((Sm.refl w2).drewN n).sl H2.out.2.1.2.1))
      rw[HM.out.1] at HCa
      rw[HM.out.2] at HCb
      go_wp2_with fail
      go_quiet ((first|(go_at_call_of 12 (Value.slice ra rl rc);exact Calls.quiet_eq (HCa.out _))|(go_at_call_of 12 (Value.slice qa ql qc);exact Calls.quiet_eq (HCb.out _))))
      rename_i nq
      clear c0 c2 c3 k1 k2 k3
      have sm:=(Sm.refl w2).drewN nq
      have H3:=hJ8 (sm.blk H2.out.1) (H2.out.2.1.sm sm) H2.out.2.2.1 H2.out.2.2.2.1 (H2.out.2.2.2.2.1.trans (sm.ch _)) ((sm.cell _).trans H2.out.2.2.2.2.2.1) ((sm.cell _).trans H2.out.2.2.2.2.2.2.1) ((sm.cell _).trans H2.out.2.2.2.2.2.2.2)
      clear sm
      generalize w2.drewN nq=w3 at H3 ⊢
      clear nq
      clear HCa HCb
      go_wp2_with fail
      go_ret
      rw[HE.out]
      exact⟨rfl,_,_,_,H3.out.1,H3.out.2.1,H3.out.2.2.2.2.1,H3.out.2.2.2.1⟩
     ·cases m2
      ·rw[if_neg (by simp)] at HRR
       go_enter Tryz.func106,Tryz.ntmps106
       go_wp2_with fail
       go_quiet (fail)
       rename_i nq
       clear c0 c2 c3 k1 k2 k3
       have sm:=(Sm.refl w).drewN nq
       have H1:=hJ8 (sm.blk H0.out.1) (H0.out.2.1.sm sm) H0.out.2.2.1 H0.out.2.2.2.1 (H0.out.2.2.2.2.1.trans (sm.ch _)) ((sm.cell _).trans H0.out.2.2.2.2.2.1) ((sm.cell _).trans H0.out.2.2.2.2.2.2.1) ((sm.cell _).trans H0.out.2.2.2.2.2.2.2)
       clear sm
       generalize w.drewN nq=w1 at H1 ⊢
       clear nq
       have c0:=H1.out.1.cell 0
       have c2:=H1.out.1.cell 2
       have c3:=H1.out.1.cell 3
       have k1:=H1.out.2.2.2.2.2.1
       have k2:=H1.out.2.2.2.2.2.2.1
       have k3:=H1.out.2.2.2.2.2.2.2
       simp only[pmC,Ab,Ac] at c0 c2 c3
       go_wp2_with fail
       go_quiet (((go_at_call 52;exact Calls.quiet_eq (HU.out _))))
       rename_i nq
       clear c0 c2 c3 k1 k2 k3
       have sm:=(Sm.refl w1).drewN nq
       have H2:=hJ8 (sm.blk H1.out.1) (H1.out.2.1.sm sm) H1.out.2.2.1 H1.out.2.2.2.1 (H1.out.2.2.2.2.1.trans (sm.ch _)) ((sm.cell _).trans H1.out.2.2.2.2.2.1) ((sm.cell _).trans H1.out.2.2.2.2.2.2.1) ((sm.cell _).trans H1.out.2.2.2.2.2.2.2)
       clear sm
       generalize w1.drewN nq=w2 at H2 ⊢
       clear nq
       have c0:=H2.out.1.cell 0
       have c2:=H2.out.1.cell 2
       have c3:=H2.out.1.cell 3
       have k1:=H2.out.2.2.2.2.2.1
       have k2:=H2.out.2.2.2.2.2.2.1
       have k3:=H2.out.2.2.2.2.2.2.2
       simp only[pmC,Ab,Ac] at c0 c2 c3
       have HCa:=Ag (fun n=> AV who (.slice ra rl rc) pr (World.drewN w2 n) (((Sm.refl w2).drewN n).sl H2.out.2.1.1))
       have HCb:=Ag (fun n=> AV who (.slice qa ql qc) pq (World.drewN w2 n) (((Sm.refl w2).drewN n).sl H2.out.2.1.2.1))
       rw[HM.out.1] at HCa
       rw[HM.out.2] at HCb
       go_wp2_with fail
       go_quiet ((first|(go_at_call_of 12 (Value.slice ra rl rc);exact Calls.quiet_eq (HCa.out _))|(go_at_call_of 12 (Value.slice qa ql qc);exact Calls.quiet_eq (HCb.out _))))
       rename_i nq
       clear c0 c2 c3 k1 k2 k3
       have sm:=(Sm.refl w2).drewN nq
       have H3:=hJ8 (sm.blk H2.out.1) (H2.out.2.1.sm sm) H2.out.2.2.1 H2.out.2.2.2.1 (H2.out.2.2.2.2.1.trans (sm.ch _)) ((sm.cell _).trans H2.out.2.2.2.2.2.1) ((sm.cell _).trans H2.out.2.2.2.2.2.2.1) ((sm.cell _).trans H2.out.2.2.2.2.2.2.2)
       clear sm
       generalize w2.drewN nq=w3 at H3 ⊢
       clear nq
       clear HCa HCb
       go_wp2_with fail
       refine Az (fun w'=> w'.cell? ⟨b2,0,none⟩=some (.int .i64 who)) [0,1,2,3,5] 5 (by kernel_rfl) rfl (by kernel_rfl) (by kernel_rfl) H3.out.2.2.2.2.2.2.1 ?_
       iterate 5(refine' AK.run ?_ ?_ ?_ ?_;rotate_left 2;(simp only[Aa,Ab,Ac];rfl);rfl;(rintro w' k0;go_simp;with_reducible rfl);simp only[Al,Ad,Ae,Af])
       have sm:=(Sm.refl w3).drew
       have HA4:=hJ8 (sm.blk H3.out.1) (H3.out.2.1.sm sm) H3.out.2.2.1 H3.out.2.2.2.1 (H3.out.2.2.2.2.1.trans (sm.ch _)) ((sm.cell _).trans H3.out.2.2.2.2.2.1) ((sm.cell _).trans H3.out.2.2.2.2.2.2.1) ((sm.cell _).trans H3.out.2.2.2.2.2.2.2)
       clear sm
       generalize w3.drew=u4 at HA4 ⊢
       refine' Ar 4 (by kernel_rfl) ?_ ?_;rotate_left;(simp only[Aa,Ab,Ac];rfl)
       have cc:=HA4.out.1.cell 2
       simp only[pmC,Ab,Ac] at cc
       try simp only[Al]
       go_wp2_with fail
       clear cc
       refine QK.normal ⟨HA4.out.2.2.2.2.2.2.1,?_⟩
       refine' Ar 6 (by kernel_rfl) ?_ ?_;rotate_left;(simp only[Aa,Ab,Ac];rfl)
       try simp only[Al]
       go_wp2_with fail
       refine(Du who (.slice ra rl rc) pr u4 HA4.out.2.1.1 HR.out.1 HR.out.2.2.2.1).mono ?_
       rintro e' u4b ⟨x4a,x4l,x4c,rfl,hs,hb,hab⟩
       have HB4:=Ag (show Blk u4b g 43 (pmC o pe (.slice ra rl rc) (.slice qa ql qc) (.slice ga gl gc))∧PmS u4b (⟨o,pe,(Bs pr who),pq,pg⟩:PmD) (.slice x4a x4l x4c) (.slice qa ql qc) (.slice ga gl gc)∧Off g (.slice x4a x4l x4c) (.slice qa ql qc) (.slice ga gl gc)∧BD B (.slice x4a x4l x4c) (.slice qa ql qc) (.slice ga gl gc)∧Ch (·=g) w u4b∧u4b.cell? ⟨b1,0,none⟩=some (.int .i64 by_)∧u4b.cell? ⟨b2,0,none⟩=some (.int .i64 who)∧u4b.cell? ⟨b3,0,none⟩=some (.bool true) from⟨HA4.out.1.below hb HA4.out.1.lt,⟨hs,HA4.out.2.1.2.1.below hb (Ah _),HA4.out.2.1.2.2.below hb (Ah _)⟩,⟨(fun k hk e=> by have:=hab k hk;have:=HA4.out.1.lt;omega),HA4.out.2.2.1.2.1,HA4.out.2.2.1.2.2⟩,⟨(fun k hk=> Aj HN.out.2.2.2 (Aj HA4.out.2.2.2.2.1.size (hab k hk))),HA4.out.2.2.2.1.2.1,HA4.out.2.2.2.1.2.2⟩,HA4.out.2.2.2.2.1.trans (Ch.of_below hb (Ah _)),(hb.cell (p:=⟨b1,0,none⟩) (Am HA4.out.2.2.2.2.2.1)).trans HA4.out.2.2.2.2.2.1,(hb.cell (p:=⟨b2,0,none⟩) (Am HA4.out.2.2.2.2.2.2.1)).trans HA4.out.2.2.2.2.2.2.1,(hb.cell (p:=⟨b3,0,none⟩) (Am HA4.out.2.2.2.2.2.2.2)).trans HA4.out.2.2.2.2.2.2.2⟩)
       clear hs hb hab
       go_wp2_with fail
       refine QK.normal ⟨HB4.out.2.2.2.2.2.2.1,?_⟩
       refine' Ar 7 (by kernel_rfl) ?_ ?_;rotate_left;(simp only[Aa,Ab,Ac];rfl)
       try simp only[Al]
       go_wp2_with fail
       refine QK.normal ⟨HB4.out.2.2.2.2.2.2.1,?_⟩
       refine' Ar 8 (by kernel_rfl) ?_ ?_;rotate_left;(simp only[Aa,Ab,Ac];rfl)
       try simp only[Al]
       go_wp2_with fail
       refine QK.normal ⟨HB4.out.2.2.2.2.2.2.1,?_⟩
       refine' Ar 9 (by kernel_rfl) ?_ ?_;rotate_left;(simp only[Aa,Ab,Ac];rfl)
       have cc:=HB4.out.1.cell 2
       have ff:=HB4.out.1.free 2
       simp only[pmC,Ab,Ac] at cc
       try simp only[Al]
       go_wp2_with fail
       clear cc ff
       have HC4:=Ag (show Blk (u4b.setCell ⟨g,2,none⟩ (.slice x4a x4l x4c)) g 43 (pmC o pe (.slice x4a x4l x4c) (.slice qa ql qc) (.slice ga gl gc))∧PmS (u4b.setCell ⟨g,2,none⟩ (.slice x4a x4l x4c)) (⟨o,pe,(Bs pr who),pq,pg⟩:PmD) (.slice x4a x4l x4c) (.slice qa ql qc) (.slice ga gl gc)∧Off g (.slice x4a x4l x4c) (.slice qa ql qc) (.slice ga gl gc)∧BD B (.slice x4a x4l x4c) (.slice qa ql qc) (.slice ga gl gc)∧Ch (·=g) w (u4b.setCell ⟨g,2,none⟩ (.slice x4a x4l x4c))∧(u4b.setCell ⟨g,2,none⟩ (.slice x4a x4l x4c)).cell? ⟨b1,0,none⟩=some (.int .i64 by_)∧(u4b.setCell ⟨g,2,none⟩ (.slice x4a x4l x4c)).cell? ⟨b2,0,none⟩=some (.int .i64 who)∧(u4b.setCell ⟨g,2,none⟩ (.slice x4a x4l x4c)).cell? ⟨b3,0,none⟩=some (.bool true) from⟨HB4.out.1.set 2 _,HB4.out.2.1.ch (Ch.set u4b ⟨g,2,none⟩ (.slice x4a x4l x4c)) HB4.out.2.2.1,HB4.out.2.2.1,HB4.out.2.2.2.1,HB4.out.2.2.2.2.1.trans (Ch.set u4b ⟨g,2,none⟩ (.slice x4a x4l x4c)),((Ch.set u4b ⟨g,2,none⟩ (.slice x4a x4l x4c)).cell (p:=⟨b1,0,none⟩) (Am HB4.out.2.2.2.2.2.1) (fun e=> HN.out.1 e)).trans HB4.out.2.2.2.2.2.1,((Ch.set u4b ⟨g,2,none⟩ (.slice x4a x4l x4c)).cell (p:=⟨b2,0,none⟩) (Am HB4.out.2.2.2.2.2.2.1) (fun e=> HN.out.2.1 e)).trans HB4.out.2.2.2.2.2.2.1,((Ch.set u4b ⟨g,2,none⟩ (.slice x4a x4l x4c)).cell (p:=⟨b3,0,none⟩) (Am HB4.out.2.2.2.2.2.2.2) (fun e=> HN.out.2.2.1 e)).trans HB4.out.2.2.2.2.2.2.2⟩)
       generalize u4b.setCell ⟨g,2,none⟩ (.slice x4a x4l x4c)=u4c at HC4 ⊢
       refine QK.normal ⟨HC4.out.2.2.2.2.2.2.1,?_⟩
       refine wpAnyH_done (by kernel_rfl) ?_ _
       refine NoPanic.normal ?_
       have k3:=HC4.out.2.2.2.2.2.2.2
       go_wp2_with fail
       clear k3
       go_wp2_with fail
       refine Az (fun w'=> w'.cell? ⟨b2,0,none⟩=some (.int .i64 who)) [0,1,2,3,5] 5 (by kernel_rfl) rfl (by kernel_rfl) (by kernel_rfl) HC4.out.2.2.2.2.2.2.1 ?_
       iterate 5(refine' AK.run ?_ ?_ ?_ ?_;rotate_left 2;(simp only[Aa,Ab,Ac];rfl);rfl;(rintro w' k0;go_simp;with_reducible rfl);simp only[Al,Ad,Ae,Af])
       have sm:=(Sm.refl u4c).drew
       have HA5:=hJ8 (sm.blk HC4.out.1) (HC4.out.2.1.sm sm) HC4.out.2.2.1 HC4.out.2.2.2.1 (HC4.out.2.2.2.2.1.trans (sm.ch _)) ((sm.cell _).trans HC4.out.2.2.2.2.2.1) ((sm.cell _).trans HC4.out.2.2.2.2.2.2.1) ((sm.cell _).trans HC4.out.2.2.2.2.2.2.2)
       clear sm
       generalize u4c.drew=u5 at HA5 ⊢
       refine' Ar 4 (by kernel_rfl) ?_ ?_;rotate_left;(simp only[Aa,Ab,Ac];rfl)
       have cc:=HA5.out.1.cell 3
       simp only[pmC,Ab,Ac] at cc
       try simp only[Al]
       go_wp2_with fail
       clear cc
       refine QK.normal ⟨HA5.out.2.2.2.2.2.2.1,?_⟩
       refine' Ar 6 (by kernel_rfl) ?_ ?_;rotate_left;(simp only[Aa,Ab,Ac];rfl)
       try simp only[Al]
       go_wp2_with fail
       refine(Du who (.slice qa ql qc) pq u5 HA5.out.2.1.2.1 HR.out.2.1 HR.out.2.2.2.2.1).mono ?_
       rintro e' u5b ⟨x5a,x5l,x5c,rfl,hs,hb,hab⟩
       have HB5:=Ag (show Blk u5b g 43 (pmC o pe (.slice x4a x4l x4c) (.slice qa ql qc) (.slice ga gl gc))∧PmS u5b (⟨o,pe,(Bs pr who),(Bs pq who),pg⟩:PmD) (.slice x4a x4l x4c) (.slice x5a x5l x5c) (.slice ga gl gc)∧Off g (.slice x4a x4l x4c) (.slice x5a x5l x5c) (.slice ga gl gc)∧BD B (.slice x4a x4l x4c) (.slice x5a x5l x5c) (.slice ga gl gc)∧Ch (·=g) w u5b∧u5b.cell? ⟨b1,0,none⟩=some (.int .i64 by_)∧u5b.cell? ⟨b2,0,none⟩=some (.int .i64 who)∧u5b.cell? ⟨b3,0,none⟩=some (.bool true) from⟨HA5.out.1.below hb HA5.out.1.lt,⟨HA5.out.2.1.1.below hb (Ah _),hs,HA5.out.2.1.2.2.below hb (Ah _)⟩,⟨HA5.out.2.2.1.1,(fun k hk e=> by have:=hab k hk;have:=HA5.out.1.lt;omega),HA5.out.2.2.1.2.2⟩,⟨HA5.out.2.2.2.1.1,(fun k hk=> Aj HN.out.2.2.2 (Aj HA5.out.2.2.2.2.1.size (hab k hk))),HA5.out.2.2.2.1.2.2⟩,HA5.out.2.2.2.2.1.trans (Ch.of_below hb (Ah _)),(hb.cell (p:=⟨b1,0,none⟩) (Am HA5.out.2.2.2.2.2.1)).trans HA5.out.2.2.2.2.2.1,(hb.cell (p:=⟨b2,0,none⟩) (Am HA5.out.2.2.2.2.2.2.1)).trans HA5.out.2.2.2.2.2.2.1,(hb.cell (p:=⟨b3,0,none⟩) (Am HA5.out.2.2.2.2.2.2.2)).trans HA5.out.2.2.2.2.2.2.2⟩)
       clear hs hb hab
       go_wp2_with fail
       refine QK.normal ⟨HB5.out.2.2.2.2.2.2.1,?_⟩
       refine' Ar 7 (by kernel_rfl) ?_ ?_;rotate_left;(simp only[Aa,Ab,Ac];rfl)
       try simp only[Al]
       go_wp2_with fail
       refine QK.normal ⟨HB5.out.2.2.2.2.2.2.1,?_⟩
       refine' Ar 8 (by kernel_rfl) ?_ ?_;rotate_left;(simp only[Aa,Ab,Ac];rfl)
       try simp only[Al]
       go_wp2_with fail
       refine QK.normal ⟨HB5.out.2.2.2.2.2.2.1,?_⟩
       refine' Ar 9 (by kernel_rfl) ?_ ?_;rotate_left;(simp only[Aa,Ab,Ac];rfl)
       have cc:=HB5.out.1.cell 3
       have ff:=HB5.out.1.free 3
       simp only[pmC,Ab,Ac] at cc
       try simp only[Al]
       go_wp2_with fail
       clear cc ff
       have HC5:=Ag (show Blk (u5b.setCell ⟨g,3,none⟩ (.slice x5a x5l x5c)) g 43 (pmC o pe (.slice x4a x4l x4c) (.slice x5a x5l x5c) (.slice ga gl gc))∧PmS (u5b.setCell ⟨g,3,none⟩ (.slice x5a x5l x5c)) (⟨o,pe,(Bs pr who),(Bs pq who),pg⟩:PmD) (.slice x4a x4l x4c) (.slice x5a x5l x5c) (.slice ga gl gc)∧Off g (.slice x4a x4l x4c) (.slice x5a x5l x5c) (.slice ga gl gc)∧BD B (.slice x4a x4l x4c) (.slice x5a x5l x5c) (.slice ga gl gc)∧Ch (·=g) w (u5b.setCell ⟨g,3,none⟩ (.slice x5a x5l x5c))∧(u5b.setCell ⟨g,3,none⟩ (.slice x5a x5l x5c)).cell? ⟨b1,0,none⟩=some (.int .i64 by_)∧(u5b.setCell ⟨g,3,none⟩ (.slice x5a x5l x5c)).cell? ⟨b2,0,none⟩=some (.int .i64 who)∧(u5b.setCell ⟨g,3,none⟩ (.slice x5a x5l x5c)).cell? ⟨b3,0,none⟩=some (.bool true) from⟨HB5.out.1.set 3 _,HB5.out.2.1.ch (Ch.set u5b ⟨g,3,none⟩ (.slice x5a x5l x5c)) HB5.out.2.2.1,HB5.out.2.2.1,HB5.out.2.2.2.1,HB5.out.2.2.2.2.1.trans (Ch.set u5b ⟨g,3,none⟩ (.slice x5a x5l x5c)),((Ch.set u5b ⟨g,3,none⟩ (.slice x5a x5l x5c)).cell (p:=⟨b1,0,none⟩) (Am HB5.out.2.2.2.2.2.1) (fun e=> HN.out.1 e)).trans HB5.out.2.2.2.2.2.1,((Ch.set u5b ⟨g,3,none⟩ (.slice x5a x5l x5c)).cell (p:=⟨b2,0,none⟩) (Am HB5.out.2.2.2.2.2.2.1) (fun e=> HN.out.2.1 e)).trans HB5.out.2.2.2.2.2.2.1,((Ch.set u5b ⟨g,3,none⟩ (.slice x5a x5l x5c)).cell (p:=⟨b3,0,none⟩) (Am HB5.out.2.2.2.2.2.2.2) (fun e=> HN.out.2.2.1 e)).trans HB5.out.2.2.2.2.2.2.2⟩)
       generalize u5b.setCell ⟨g,3,none⟩ (.slice x5a x5l x5c)=u5c at HC5 ⊢
       refine QK.normal ⟨HC5.out.2.2.2.2.2.2.1,?_⟩
       refine wpAnyH_done (by kernel_rfl) ?_ _
       refine NoPanic.normal ?_
       go_wp2_with fail
       go_ret
       rw[←HRR.out]
       exact⟨rfl,_,_,_,HC5.out.1,HC5.out.2.1,HC5.out.2.2.2.2.1,HC5.out.2.2.2.1⟩
      ·have HE:=Ag (show R=(5,⟨o,pe,pr,pq,pg⟩) from by rw[←HRR.out,if_pos ⟨rfl,.inr rfl⟩])
       go_enter Tryz.func106,Tryz.ntmps106
       go_wp2_with fail
       go_quiet (fail)
       rename_i nq
       clear c0 c2 c3 k1 k2 k3
       have sm:=(Sm.refl w).drewN nq
       have H1:=hJ8 (sm.blk H0.out.1) (H0.out.2.1.sm sm) H0.out.2.2.1 H0.out.2.2.2.1 (H0.out.2.2.2.2.1.trans (sm.ch _)) ((sm.cell _).trans H0.out.2.2.2.2.2.1) ((sm.cell _).trans H0.out.2.2.2.2.2.2.1) ((sm.cell _).trans H0.out.2.2.2.2.2.2.2)
       clear sm
       generalize w.drewN nq=w1 at H1 ⊢
       clear nq
       have c0:=H1.out.1.cell 0
       have c2:=H1.out.1.cell 2
       have c3:=H1.out.1.cell 3
       have k1:=H1.out.2.2.2.2.2.1
       have k2:=H1.out.2.2.2.2.2.2.1
       have k3:=H1.out.2.2.2.2.2.2.2
       simp only[pmC,Ab,Ac] at c0 c2 c3
       go_wp2_with fail
       go_quiet (((go_at_call 52;exact Calls.quiet_eq (HU.out _))))
       rename_i nq
       clear c0 c2 c3 k1 k2 k3
       have sm:=(Sm.refl w1).drewN nq
       have H2:=hJ8 (sm.blk H1.out.1) (H1.out.2.1.sm sm) H1.out.2.2.1 H1.out.2.2.2.1 (H1.out.2.2.2.2.1.trans (sm.ch _)) ((sm.cell _).trans H1.out.2.2.2.2.2.1) ((sm.cell _).trans H1.out.2.2.2.2.2.2.1) ((sm.cell _).trans H1.out.2.2.2.2.2.2.2)
       clear sm
       generalize w1.drewN nq=w2 at H2 ⊢
       clear nq
       have c0:=H2.out.1.cell 0
       have c2:=H2.out.1.cell 2
       have c3:=H2.out.1.cell 3
       have k1:=H2.out.2.2.2.2.2.1
       have k2:=H2.out.2.2.2.2.2.2.1
       have k3:=H2.out.2.2.2.2.2.2.2
       simp only[pmC,Ab,Ac] at c0 c2 c3
       have HCa:=Ag (fun n=> AV who (.slice ra rl rc) pr (World.drewN w2 n) (((Sm.refl w2).drewN n).sl H2.out.2.1.1))
       have HCb:=Ag (fun n=> AV who (.slice qa ql qc) pq (World.drewN w2 n) (((Sm.refl w2).drewN n).sl H2.out.2.1.2.1))
       rw[HM.out.1] at HCa
       rw[HM.out.2] at HCb
       go_wp2_with fail
       go_quiet ((first|(go_at_call_of 12 (Value.slice ra rl rc);exact Calls.quiet_eq (HCa.out _))|(go_at_call_of 12 (Value.slice qa ql qc);exact Calls.quiet_eq (HCb.out _))))
       rename_i nq
       clear c0 c2 c3 k1 k2 k3
       have sm:=(Sm.refl w2).drewN nq
       have H3:=hJ8 (sm.blk H2.out.1) (H2.out.2.1.sm sm) H2.out.2.2.1 H2.out.2.2.2.1 (H2.out.2.2.2.2.1.trans (sm.ch _)) ((sm.cell _).trans H2.out.2.2.2.2.2.1) ((sm.cell _).trans H2.out.2.2.2.2.2.2.1) ((sm.cell _).trans H2.out.2.2.2.2.2.2.2)
       clear sm
       generalize w2.drewN nq=w3 at H3 ⊢
       clear nq
       clear HCa HCb
       go_wp2_with fail
       go_ret
       rw[HE.out]
       exact⟨rfl,_,_,_,H3.out.1,H3.out.2.1,H3.out.2.2.2.2.1,H3.out.2.2.2.1⟩
 ·have HE:=Ag (show R=(211,⟨o,pe,pr,pq,pg⟩) from by rw[←HRR.out,if_pos h1])
  have t1:(by_ !=o)=true:=by simpa using h1
  clear h1
  go_enter Tryz.func106,Tryz.ntmps106
  go_wp2_with fail
  go_quiet (fail)
  rename_i nq
  clear c0 c2 c3 k1 k2 k3
  have sm:=(Sm.refl w).drewN nq
  have H1:=hJ8 (sm.blk H0.out.1) (H0.out.2.1.sm sm) H0.out.2.2.1 H0.out.2.2.2.1 (H0.out.2.2.2.2.1.trans (sm.ch _)) ((sm.cell _).trans H0.out.2.2.2.2.2.1) ((sm.cell _).trans H0.out.2.2.2.2.2.2.1) ((sm.cell _).trans H0.out.2.2.2.2.2.2.2)
  clear sm
  generalize w.drewN nq=w1 at H1 ⊢
  clear nq
  go_wp2_with fail
  go_ret
  rw[HE.out]
  exact⟨rfl,_,_,_,H1.out.1,H1.out.2.1,H1.out.2.2.2.2.1,H1.out.2.2.2.1⟩
end Go.Proofs.YtgdlfiphihaooaaGreat

import Derived.Test.YtgdlfiphihaooaaGreatYs1
set_option linter.unusedSimpArgs false
set_option linter.unusedVariables false
set_option maxRecDepth 100000
set_option maxHeartbeats 8000000
open _root_.List renaming getElem?_toArray→Aa,getElem?_cons_zero→Ab,getElem?_cons_succ→Ac,setIfInBounds_toArray→Ad,set_cons_zero→Ae,set_cons_succ→Af
open _root_.Go.Lib renaming hid→Ag
open _root_.Nat renaming le_refl→Ah,le_trans→Aj,lt_of_lt_of_le→Ak
open _root_.And renaming intro→Ai
open _root_.Go.Act renaming put→Al
namespace Go.Proofs.YtgdlfiphihaooaaGreat
open Go Go.RowKit Go.Sort
theorem Tryz.buildPm:∀ w,(Instr.build 43 #[]).run Tryz.prog w=.ok (.agg (pmC 0 0 (.slice none 0 0) (.slice none 0 0) (.slice none 0 0)).toArray) w:=fun w=> by kernel_rfl
theorem Bh {ops:Array Oper} {rest:List Oper} {o:Oper} {a:Act} {w:World} {Q:Exit→Act→World→Prop} (hgd:o.guard=none) (ho:o.op=.build 43 #[])
  (h:wpList Tryz.prog ops Q rest (a.put o.dst (.agg (pmC 0 0 (.slice none 0 0) (.slice none 0 0) (.slice none 0 0)).toArray)) w):wpList Tryz.prog ops Q (o::rest) a w:=by
 refine wpList_plain hgd fun K hK=> ?_
 have hrun:(execOp a.eval o).run Tryz.prog w=.ok (.value (.agg (pmC 0 0 (.slice none 0 0) (.slice none 0 0) (.slice none 0 0)).toArray)) w:=by
  unfold execOp
  simp[ho,Tryz.buildPm,Result.andThen]
 unfold Oper.wp
 rw[hrun]
 exact hK _ _ h
theorem Tryz.buildPm5 (o e:Int) (ra qa ga:Option Addr) (rn rc qn qc gn gc:Nat):∀ w,(Instr.build 43 #[(0,.int .i64 o),(1,.int .i64 e),(2,.slice ra rn rc),(3,.slice qa qn qc),(4,.slice ga gn gc)]).run Tryz.prog w=.ok (.agg (pmC o e (.slice ra rn rc) (.slice qa qn qc) (.slice ga gn gc)).toArray) w:=fun w=> by kernel_rfl
theorem BU {ops:Array Oper} {rest:List Oper} {op:Oper} {a:Act} {w:World} {Q:Exit→Act→World→Prop} (hgd:op.guard=none) (x0 x1 x2 x3 x4:Operand) (ho:op.op=.build 43 #[(0,x0),(1,x1),(2,x2),(3,x3),(4,x4)])
  (o e:Int) (ra qa ga:Option Addr) (rn rc qn qc gn gc:Nat) (h0:a.eval x0=.int .i64 o) (h1:a.eval x1=.int .i64 e) (h2:a.eval x2=.slice ra rn rc) (h3:a.eval x3=.slice qa qn qc) (h4:a.eval x4=.slice ga gn gc)
  (h:wpList Tryz.prog ops Q rest (a.put op.dst (.agg (pmC o e (.slice ra rn rc) (.slice qa qn qc) (.slice ga gn gc)).toArray)) w):wpList Tryz.prog ops Q (op::rest) a w:=by
 refine wpList_plain hgd fun K hK=> ?_
 have hrun:(execOp a.eval op).run Tryz.prog w=.ok (.value (.agg (pmC o e (.slice ra rn rc) (.slice qa qn qc) (.slice ga gn gc)).toArray)) w:=by
  unfold execOp
  simp only[ho]
  rw[show(#[((0:Nat),x0),(1,x1),(2,x2),(3,x3),(4,x4)].map fun (i,x)=> (i,a.eval x))=#[(0,.int .i64 o),(1,.int .i64 e),(2,.slice ra rn rc),(3,.slice qa qn qc),(4,.slice ga gn gc)] by simp[h0,h1,h2,h3,h4]]
  simp[Tryz.buildPm5,Result.andThen]
 unfold Oper.wp
 rw[hrun]
 exact hK _ _ h
def noP:PmD:=⟨0,0,[],[],[]⟩
theorem BD.nil (B:Nat):BD B (.slice none 0 0) (.slice none 0 0) (.slice none 0 0):=⟨fun _ h=> (by cases h),fun _ h=> (by cases h),fun _ h=> (by cases h)⟩
theorem BD.mono {A B:Nat} {vr vq vg:Value} (h:BD B vr vq vg) (hA:A≤B):BD A vr vq vg:=⟨fun k hk=> Aj hA (h.1 k hk),fun k hk=> Aj hA (h.2.1 k hk),fun k hk=> Aj hA (h.2.2 k hk)⟩
theorem PmS.nil (w:World):PmS w noP (.slice none 0 0) (.slice none 0 0) (.slice none 0 0):=⟨Sl.nil w,Sl.nil w,Sl.nil w⟩
def Bj (p:PmD) (r:Int × PmD):PmD × Int:=if okB p=true then (if r.1=0 then (r.2,0) else (noP,r.1)) else (noP,210)
def EF (w:World) (r:PmD × Int) (e:Ending) (w':World):Prop:=∃ vr vq vg,e=.returned (.tuple #[.agg (pmC r.1.o r.1.e vr vq vg).toArray,.int .i64 r.2])∧PmS w' r.1 vr vq vg∧Below w.heap.size w w'∧BD w.heap.size vr vq vg
def PmL (p:PmD):Prop:=p.r.length≤1000000∧p.q.length≤1000000∧p.g.length≤1000000
theorem DZ (p:PmD) (r:Int × PmD) (gf:Nat) (lb:List Value) (vr vq vg:Value) (w:World) (hp:PmS w p vr vq vg) (hl:PmL p)
  (hcf:∀ args w1,Sem.run Tryz.prog (callFunc gf args) w1=.ok (.enter gf args) w1)
  (hst:okB p=true→∀ (w1:World) (g B:Nat) (vr vq vg:Value),Below w.heap.size w w1→w.heap.size≤g→B≤w1.heap.size→BD B vr vq vg→Blk w1 g 43 (pmC p.o p.e vr vq vg)→PmS w1 p vr vq vg→Off g vr vq vg→Calls Tryz.prog gf (.pointer (some ⟨g,0,none⟩)::lb).toArray w1 (En w1 g B r)):
  Calls Tryz.prog 105 #[.agg (pmC p.o p.e vr vq vg).toArray,.func (.func gf) #[] lb.toArray] w (EF w (Bj p r)):=by
 have HC:=Ag (fun (b:Bool) (hb:okB p=b) w1 h=> EC p b hb vr vq vg w1 h)
 have HP:=Ag (Ai hp hl)
 have HS:=Ag hst
 obtain⟨b,hb⟩:∃ b,okB p=b:=⟨_,rfl⟩
 have HB:=Ag hb
 have HR:=Ag (show Bj p r=if b=true then (if r.1=0 then (r.2,0) else (noP,r.1)) else (noP,210) by unfold Bj;rw[hb])
 obtain⟨R,hR⟩:∃ R,Bj p r=R:=⟨_,rfl⟩
 rw[hR] at HR ⊢
 obtain⟨o,pe,pr,pq,pg⟩:=p
 obtain⟨ra,rc,rfl,-⟩:=hp.1.nums
 obtain⟨qa,qc,rfl,-⟩:=hp.2.1.nums
 obtain⟨ga,gc,rfl,-⟩:=hp.2.2.nums
 simp only at HC HP HS ⊢
 obtain⟨rl,hrl⟩:∃ n,pr.length=n:=⟨_,rfl⟩
 obtain⟨ql,hql⟩:∃ n,pq.length=n:=⟨_,rfl⟩
 obtain⟨gl,hgl⟩:∃ n,pg.length=n:=⟨_,rfl⟩
 have HLN:=hJ3 hrl hql hgl
 rw[hrl,hql,hgl] at HC HP ⊢
 have hcf':=hcf
 clear hp hl hst hb hR hrl hql hgl
 go_enter Tryz.func105,Tryz.ntmps105
 go_wp2_with (first
  | ((with_reducible refine Au w rfl 43 (.tmp 0) rfl (pmC o pe (.slice ra rl rc) (.slice qa ql qc) (.slice ga gl gc)) rfl ?_);intro w1 hb hbel hsz;have H1:=Ag (Ai hb hbel);clear hb hbel hsz)
  | ((with_reducible refine Av w1 rfl 43 rfl (pmC 0 0 (.slice none 0 0) (.slice none 0 0) (.slice none 0 0)) Tryz.zeroPm ?_);intro w2 hb hbel hsz;have H2:=hJ3 (H1.out.1.below hbel H1.out.1.lt) hb (An H1.out.2 hbel (Ah _));clear hb hbel hsz)
  | (with_reducible refine Ap rfl 43 (.tmp 2) rfl w.heap.size 0 rfl (pmC o pe (.slice ra rl rc) (.slice qa ql qc) (.slice ga gl gc)) _ (As H2.out.1) Tryz.underlying43 rfl (Ay _ _ _ _ _) ?_))
 refine(HC.out b HB.out w2 (HP.out.1.below H2.out.2.2)).mono ?_
 rintro e w3 ⟨rfl,hb3⟩
 have H3:=Ag (show Blk w3 w.heap.size 43 (pmC o pe (.slice ra rl rc) (.slice qa ql qc) (.slice ga gl gc))∧Below w.heap.size w w3 from⟨H2.out.1.below hb3 H2.out.1.lt,An H2.out.2.2 hb3 (Ah _)⟩)
 have HZ:=Ag (show Blk w3 w1.heap.size 43 (pmC 0 0 (.slice none 0 0) (.slice none 0 0) (.slice none 0 0))∧Below w.heap.size w w3 from⟨H2.out.2.1.below hb3 H2.out.2.1.lt,H3.out.2⟩)
 have HSZ:=Ag (show w1.heap.size<w3.heap.size from Ak H2.out.2.1.lt hb3.size)
 clear hb3
 cases b
 ·have HRE:=Ag (show R=(noP,210) from HR.out)
  go_wp2_with (first
  | ((with_reducible refine Bh rfl rfl ?_))
  | ((with_reducible refine Ao w3 rfl 43 (.tmp 4) (.tmp 11) rfl w1.heap.size 43 (pmC 0 0 (.slice none 0 0) (.slice none 0 0) (.slice none 0 0)) (pmC 0 0 (.slice none 0 0) (.slice none 0 0) (.slice none 0 0)) HZ.out.1 rfl rfl rfl (Ay _ _ _ _ _) (Bn _ _ _ _ _ _ _ _ _ _ _) ?_);intro w9 hb hc hs;have H9:=Ag (Ai hb (Aw HZ.out.2 hc (Ah _) (fun k hk=> by have e:k=w1.heap.size:=hk;have:=H1.out.2.size;omega)));clear hb hc hs))
  refine bodyPost_ret (AQ Tryz.results105 _ _ w1.heap.size _ _ rfl H9.out.1 _ Tryz.underlying43 rfl (Ay _ _ _ _ _) _ rfl) rfl ?_
  rw[HRE.out]
  exact⟨_,_,_,rfl,PmS.nil _,H9.out.2,BD.nil _⟩
 ·have HRE:=Ag (show R=if r.1=0 then (r.2,0) else (noP,r.1) from HR.out)
  have HSL:=Ag (HP.out.1.below H3.out.2)
  obtain⟨e1,e2,e3,e4,e5⟩:w3.cell? ⟨w.heap.size,0,none⟩=some (.int .i64 o)∧w3.cell? ⟨w.heap.size,1,none⟩=some (.int .i64 pe)∧w3.cell? ⟨w.heap.size,2,none⟩=some (.slice ra rl rc)∧w3.cell? ⟨w.heap.size,3,none⟩=some (.slice qa ql qc)∧w3.cell? ⟨w.heap.size,4,none⟩=some (.slice ga gl gc):=⟨H3.out.1.cell 0,H3.out.1.cell 1,H3.out.1.cell 2,H3.out.1.cell 3,H3.out.1.cell 4⟩
  go_wp2_with fail
  refine Az (fun w'=> w'.cell? ⟨w.heap.size,0,none⟩=some (.int .i64 o)∧w'.cell? ⟨w.heap.size,1,none⟩=some (.int .i64 pe)∧w'.cell? ⟨w.heap.size,2,none⟩=some (.slice ra rl rc)∧w'.cell? ⟨w.heap.size,3,none⟩=some (.slice qa ql qc)∧w'.cell? ⟨w.heap.size,4,none⟩=some (.slice ga gl gc)) [0,1,2,3,4,5,7,8,10,11] 6 (by kernel_rfl) rfl (by kernel_rfl) (by kernel_rfl) ⟨e1,e2,e3,e4,e5⟩ ?_
  clear e1 e2 e3 e4 e5
  iterate 10(refine' AK.run ?_ ?_ ?_ ?_;rotate_left 2;(simp only[Aa,Ab,Ac];rfl);rfl;(rintro w' ⟨k0,k1,k2,k3,k4⟩;go_simp;with_reducible rfl);simp only[Al,Ad,Ae,Af])
  have HD:=Ag (Below.refl w3.heap.size w3).drew
  have H3a:=Ag (show Blk w3 w.heap.size 43 (pmC o pe (.slice ra rl rc) (.slice qa ql qc) (.slice ga gl gc))∧Blk w3 w1.heap.size 43 (pmC 0 0 (.slice none 0 0) (.slice none 0 0) (.slice none 0 0))∧PmS w3 ⟨o,pe,pr,pq,pg⟩ (.slice ra rl rc) (.slice qa ql qc) (.slice ga gl gc)∧Below w.heap.size w w3∧Below w3.heap.size w3 w3 from⟨H3.out.1,HZ.out.1,HSL.out,H3.out.2,Below.refl _ _⟩)
  have H4a:=Ag (show Blk w3.drew w.heap.size 43 (pmC o pe (.slice ra rl rc) (.slice qa ql qc) (.slice ga gl gc))∧Blk w3.drew w1.heap.size 43 (pmC 0 0 (.slice none 0 0) (.slice none 0 0) (.slice none 0 0))∧PmS w3.drew ⟨o,pe,pr,pq,pg⟩ (.slice ra rl rc) (.slice qa ql qc) (.slice ga gl gc)∧Below w.heap.size w w3.drew∧Below w3.heap.size w3 w3.drew from⟨H3a.out.1.below HD.out H3a.out.1.lt,H3a.out.2.1.below HD.out H3a.out.2.1.lt,H3a.out.2.2.1.below HD.out,An H3a.out.2.2.2.1 HD.out (Ah _),An H3a.out.2.2.2.2 HD.out (Ah _)⟩)
  generalize w3.drew=u0 at H4a ⊢
  refine' Ck 6 14 (by kernel_rfl) ?_ ?_ ?_ ?_;rotate_left 2;(simp only[Aa,Ab,Ac];rfl);(simp only[Aa,Ab,Ac];rfl)
  ·skip
   try simp only[Al]
   go_wp2_with fail
   refine(Bq (.slice ra rl rc) pr u0 H4a.out.2.2.1.1 (by have:=HP.out.2.1;simp only at this;omega)).mono ?_
   rintro e' u1 ⟨v1,rfl,hown,hb⟩
   obtain⟨ao1,cp1,rfl⟩:=AY hown
   rw[HLN.out.1] at hown ⊢
   have HU1:=hJ7 (H4a.out.1.below hb H4a.out.1.lt) (H4a.out.2.1.below hb H4a.out.2.1.lt) (H4a.out.2.2.1.below hb) (An H4a.out.2.2.2.1 hb (Ah _)) (An H4a.out.2.2.2.2 hb (Ah _)) hown H4a.out.2.2.2.2.size
   clear hown hb
   go_wp2_with fail
   refine QK.normal ⟨⟨HU1.out.1.cell 0,HU1.out.1.cell 1,HU1.out.1.cell 2,HU1.out.1.cell 3,HU1.out.1.cell 4⟩,?_⟩
   refine' Ck 9 14 (by kernel_rfl) ?_ ?_ ?_ ?_;rotate_left 2;(simp only[Aa,Ab,Ac];rfl);(simp only[Aa,Ab,Ac];rfl)
   ·skip
    try simp only[Al]
    go_wp2_with fail
    refine(Bq (.slice qa ql qc) pq u1 HU1.out.2.2.1.2.1 (by have:=HP.out.2.2.1;simp only at this;omega)).mono ?_
    rintro e' u2 ⟨v2,rfl,hown,hb⟩
    obtain⟨ao2,cp2,rfl⟩:=AY hown
    rw[HLN.out.2.1] at hown ⊢
    have HU2:=Ag (show Blk u2 w.heap.size 43 (pmC o pe (.slice ra rl rc) (.slice qa ql qc) (.slice ga gl gc))∧Blk u2 w1.heap.size 43 (pmC 0 0 (.slice none 0 0) (.slice none 0 0) (.slice none 0 0))∧PmS u2 ⟨o,pe,pr,pq,pg⟩ (.slice ra rl rc) (.slice qa ql qc) (.slice ga gl gc)∧Below w.heap.size w u2∧Below w3.heap.size w3 u2∧u2.ownsRow u0.heap.size 3 1 (.slice ao1 rl cp1) rl (ofK .i64 pr)∧w3.heap.size≤u0.heap.size∧u2.ownsRow u1.heap.size 3 1 (.slice ao2 ql cp2) ql (ofK .i64 pq)∧w3.heap.size≤u1.heap.size from⟨HU1.out.1.below hb HU1.out.1.lt,HU1.out.2.1.below hb HU1.out.2.1.lt,HU1.out.2.2.1.below hb,An HU1.out.2.2.2.1 hb (Ah _),An HU1.out.2.2.2.2.1 hb (Ah _),A9 HU1.out.2.2.2.2.2.1 (Ch.of_below (S:=fun _=> False) hb (Ah _)) (fun _ _ h=> h),HU1.out.2.2.2.2.2.2,hown,HU1.out.2.2.2.2.1.size⟩)
    clear hown hb
    go_wp2_with fail
    refine QK.normal ⟨⟨HU2.out.1.cell 0,HU2.out.1.cell 1,HU2.out.1.cell 2,HU2.out.1.cell 3,HU2.out.1.cell 4⟩,?_⟩
    refine' Ck 12 14 (by kernel_rfl) ?_ ?_ ?_ ?_;rotate_left 2;(simp only[Aa,Ab,Ac];rfl);(simp only[Aa,Ab,Ac];rfl)
    ·skip
     try simp only[Al]
     go_wp2_with fail
     refine(Bq (.slice ga gl gc) pg u2 HU2.out.2.2.1.2.2 (by have:=HP.out.2.2.2;simp only at this;omega)).mono ?_
     rintro e' u3 ⟨v3,rfl,hown,hb⟩
     obtain⟨ao3,cp3,rfl⟩:=AY hown
     rw[HLN.out.2.2] at hown ⊢
     have HU3:=Ag (show Blk u3 w.heap.size 43 (pmC o pe (.slice ra rl rc) (.slice qa ql qc) (.slice ga gl gc))∧Blk u3 w1.heap.size 43 (pmC 0 0 (.slice none 0 0) (.slice none 0 0) (.slice none 0 0))∧PmS u3 ⟨o,pe,pr,pq,pg⟩ (.slice ra rl rc) (.slice qa ql qc) (.slice ga gl gc)∧Below w.heap.size w u3∧Below w3.heap.size w3 u3∧u3.ownsRow u0.heap.size 3 1 (.slice ao1 rl cp1) rl (ofK .i64 pr)∧w3.heap.size≤u0.heap.size∧u3.ownsRow u1.heap.size 3 1 (.slice ao2 ql cp2) ql (ofK .i64 pq)∧w3.heap.size≤u1.heap.size∧u3.ownsRow u2.heap.size 3 1 (.slice ao3 gl cp3) gl (ofK .i64 pg)∧w3.heap.size≤u2.heap.size from⟨HU2.out.1.below hb HU2.out.1.lt,HU2.out.2.1.below hb HU2.out.2.1.lt,HU2.out.2.2.1.below hb,An HU2.out.2.2.2.1 hb (Ah _),An HU2.out.2.2.2.2.1 hb (Ah _),A9 HU2.out.2.2.2.2.2.1 (Ch.of_below (S:=fun _=> False) hb (Ah _)) (fun _ _ h=> h),HU2.out.2.2.2.2.2.2.1,A9 HU2.out.2.2.2.2.2.2.2.1 (Ch.of_below (S:=fun _=> False) hb (Ah _)) (fun _ _ h=> h),HU2.out.2.2.2.2.2.2.2.2,hown,HU2.out.2.2.2.2.1.size⟩)
     clear hown hb
     go_wp2_with fail
     refine QK.normal ⟨⟨HU3.out.1.cell 0,HU3.out.1.cell 1,HU3.out.1.cell 2,HU3.out.1.cell 3,HU3.out.1.cell 4⟩,?_⟩
     refine' Ck 13 14 (by kernel_rfl) ?_ ?_ ?_ ?_;rotate_left 2;(simp only[Aa,Ab,Ac];rfl);(simp only[Aa,Ab,Ac];rfl)
     ·skip
      refine BU rfl (.tmp 13) (.tmp 15) (.tmp 18) (.tmp 21) (.tmp 24) rfl o pe ao1 ao2 ao3 rl cp1 ql cp2 gl cp3 rfl rfl rfl rfl rfl ?_
      simp only[Al,Ad,Ae,Af]
      refine QK.normal ⟨⟨HU3.out.1.cell 0,HU3.out.1.cell 1,HU3.out.1.cell 2,HU3.out.1.cell 3,HU3.out.1.cell 4⟩,?_⟩
      refine' Ar 14 (by kernel_rfl) ?_ ?_;rotate_left;(simp only[Aa,Ab,Ac];rfl)
      refine Av u3 rfl 43 rfl (pmC 0 0 (.slice none 0 0) (.slice none 0 0) (.slice none 0 0)) Tryz.zeroPm ?_
      intro u5 hb hbel hsz
      have HU5:=Ag (show Blk u5 w.heap.size 43 (pmC o pe (.slice ra rl rc) (.slice qa ql qc) (.slice ga gl gc))∧Blk u5 w1.heap.size 43 (pmC 0 0 (.slice none 0 0) (.slice none 0 0) (.slice none 0 0))∧PmS u5 ⟨o,pe,pr,pq,pg⟩ (.slice ra rl rc) (.slice qa ql qc) (.slice ga gl gc)∧Below w.heap.size w u5∧Below w3.heap.size w3 u5∧u5.ownsRow u0.heap.size 3 1 (.slice ao1 rl cp1) rl (ofK .i64 pr)∧w3.heap.size≤u0.heap.size∧u5.ownsRow u1.heap.size 3 1 (.slice ao2 ql cp2) ql (ofK .i64 pq)∧w3.heap.size≤u1.heap.size∧u5.ownsRow u2.heap.size 3 1 (.slice ao3 gl cp3) gl (ofK .i64 pg)∧w3.heap.size≤u2.heap.size∧Blk u5 u3.heap.size 43 (pmC 0 0 (.slice none 0 0) (.slice none 0 0) (.slice none 0 0))∧w.heap.size≤u3.heap.size∧w1.heap.size<u3.heap.size∧w.heap.size<u3.heap.size∧(∀ k,(Value.slice ao1 rl cp1).ownBlock=some k→k≠u3.heap.size)∧(∀ k,(Value.slice ao2 ql cp2).ownBlock=some k→k≠u3.heap.size)∧(∀ k,(Value.slice ao3 gl cp3).ownBlock=some k→k≠u3.heap.size) from⟨HU3.out.1.below hbel HU3.out.1.lt,HU3.out.2.1.below hbel HU3.out.2.1.lt,HU3.out.2.2.1.below hbel,An HU3.out.2.2.2.1 hbel (Ah _),An HU3.out.2.2.2.2.1 hbel (Ah _),A9 HU3.out.2.2.2.2.2.1 (Ch.of_below (S:=fun _=> False) hbel (Ah _)) (fun _ _ h=> h),HU3.out.2.2.2.2.2.2.1,A9 HU3.out.2.2.2.2.2.2.2.1 (Ch.of_below (S:=fun _=> False) hbel (Ah _)) (fun _ _ h=> h),HU3.out.2.2.2.2.2.2.2.2.1,A9 HU3.out.2.2.2.2.2.2.2.2.2.1 (Ch.of_below (S:=fun _=> False) hbel (Ah _)) (fun _ _ h=> h),HU3.out.2.2.2.2.2.2.2.2.2.2,hb,Aj (Ah _) HU3.out.2.2.2.1.size,HU3.out.2.1.lt,HU3.out.1.lt,fun k hk e=> by have:=(HU3.out.2.2.2.2.2.1.lt k hk).2;omega,fun k hk e=> by have:=(HU3.out.2.2.2.2.2.2.2.1.lt k hk).2;omega,fun k hk e=> by have:=(HU3.out.2.2.2.2.2.2.2.2.2.1.lt k hk).2;omega⟩)
      clear hb hbel hsz
      simp only[Al,Ad,Ae,Af]
      refine QK.normal ⟨⟨HU5.out.1.cell 0,HU5.out.1.cell 1,HU5.out.1.cell 2,HU5.out.1.cell 3,HU5.out.1.cell 4⟩,?_⟩
      refine' Ar 15 (by kernel_rfl) ?_ ?_;rotate_left;(simp only[Aa,Ab,Ac];rfl)
      refine Ao u5 rfl 43 (.tmp 6) (.tmp 25) rfl u3.heap.size 43 (pmC 0 0 (.slice none 0 0) (.slice none 0 0) (.slice none 0 0)) (pmC o pe (.slice ao1 rl cp1) (.slice ao2 ql cp2) (.slice ao3 gl cp3)) HU5.out.2.2.2.2.2.2.2.2.2.2.2.1 rfl rfl rfl (Ay _ _ _ _ _) (Bn _ _ _ _ _ _ _ _ _ _ _) ?_
      intro u6 hb hc hs
      have HW:=Ag (show Blk u6 u3.heap.size 43 (pmC o pe (.slice ao1 rl cp1) (.slice ao2 ql cp2) (.slice ao3 gl cp3))∧PmS u6 ⟨o,pe,pr,pq,pg⟩ (.slice ao1 rl cp1) (.slice ao2 ql cp2) (.slice ao3 gl cp3)∧Off u3.heap.size (.slice ao1 rl cp1) (.slice ao2 ql cp2) (.slice ao3 gl cp3)∧w.heap.size≤u3.heap.size∧Below w.heap.size w u6∧Blk u6 w1.heap.size 43 (pmC 0 0 (.slice none 0 0) (.slice none 0 0) (.slice none 0 0))∧BD w3.heap.size (.slice ao1 rl cp1) (.slice ao2 ql cp2) (.slice ao3 gl cp3)∧w3.heap.size≤u6.heap.size from⟨hb,⟨Sl.of_owns (A9 HU5.out.2.2.2.2.2.1 hc (fun k hk e=> HU5.out.2.2.2.2.2.2.2.2.2.2.2.2.2.2.2.1 k hk e)),Sl.of_owns (A9 HU5.out.2.2.2.2.2.2.2.1 hc (fun k hk e=> HU5.out.2.2.2.2.2.2.2.2.2.2.2.2.2.2.2.2.1 k hk e)),Sl.of_owns (A9 HU5.out.2.2.2.2.2.2.2.2.2.1 hc (fun k hk e=> HU5.out.2.2.2.2.2.2.2.2.2.2.2.2.2.2.2.2.2 k hk e))⟩,⟨HU5.out.2.2.2.2.2.2.2.2.2.2.2.2.2.2.2.1,HU5.out.2.2.2.2.2.2.2.2.2.2.2.2.2.2.2.2.1,HU5.out.2.2.2.2.2.2.2.2.2.2.2.2.2.2.2.2.2⟩,HU5.out.2.2.2.2.2.2.2.2.2.2.2.2.1,Aw HU5.out.2.2.2.1 hc (Ah _) (fun k hk=> by have e:k=u3.heap.size:=hk;have:=HU5.out.2.2.2.2.2.2.2.2.2.2.2.2.1;omega),HU5.out.2.1.keep hc (fun e=> by have e:w1.heap.size=u3.heap.size:=e;have:=HU5.out.2.2.2.2.2.2.2.2.2.2.2.2.2.1;omega),⟨fun k hk=> Aj HU5.out.2.2.2.2.2.2.1 (HU5.out.2.2.2.2.2.1.lt k hk).1,fun k hk=> Aj HU5.out.2.2.2.2.2.2.2.2.1 (HU5.out.2.2.2.2.2.2.2.1.lt k hk).1,fun k hk=> Aj HU5.out.2.2.2.2.2.2.2.2.2.2.1 (HU5.out.2.2.2.2.2.2.2.2.2.1.lt k hk).1⟩,Aj HU5.out.2.2.2.2.1.size hc.size⟩)
      have HWG:=Ag (show w1.heap.size≠u3.heap.size from by have:=HU5.out.2.2.2.2.2.2.2.2.2.2.2.2.2.1;omega)
      have HK:=Ag (show u6.cell? ⟨w.heap.size,0,none⟩=some (.int .i64 o)∧u6.cell? ⟨w.heap.size,1,none⟩=some (.int .i64 pe)∧u6.cell? ⟨w.heap.size,2,none⟩=some (.slice ra rl rc)∧u6.cell? ⟨w.heap.size,3,none⟩=some (.slice qa ql qc)∧u6.cell? ⟨w.heap.size,4,none⟩=some (.slice ga gl gc) from by have hk:=HU5.out.1.keep hc (fun e=> by have e:w.heap.size=u3.heap.size:=e;have:=HU5.out.2.2.2.2.2.2.2.2.2.2.2.2.2.2.1;omega);exact⟨hk.cell 0,hk.cell 1,hk.cell 2,hk.cell 3,hk.cell 4⟩)
      clear hb hc hs
      simp only[Al,Ad,Ae,Af]
      refine QK.normal ⟨HK.out,?_⟩
      clear HK
      refine wpAnyH_done (by kernel_rfl) ?_ _
      refine NoPanic.normal ?_
      go_wp2_with fail
      refine(HS.out HB.out u6 u3.heap.size w3.heap.size _ _ _ HW.out.2.2.2.2.1 HW.out.2.2.2.1 HW.out.2.2.2.2.2.2.2 HW.out.2.2.2.2.2.2.1 HW.out.1 HW.out.2.1 HW.out.2.2.1).mono ?_
      rintro e u7 ⟨rfl,xr,xq,xg,hb,hs,hc,hab⟩
      obtain⟨xa,xc,rfl,-⟩:=hs.1.shape
      obtain⟨ya,yc,rfl,-⟩:=hs.2.1.shape
      obtain⟨za,zc,rfl,-⟩:=hs.2.2.shape
      generalize (ofK .i64 r.2.r).length=xl at hb hs hab
      generalize (ofK .i64 r.2.q).length=yl at hb hs hab
      generalize (ofK .i64 r.2.g).length=zl at hb hs hab
      have HV:=hJ4 hb hs (HW.out.2.2.2.2.2.1.keep hc (fun e=> HWG.out e)) (Aw HW.out.2.2.2.2.1 hc (Ah _) (fun k hk=> by have e:k=u3.heap.size:=hk;have:=HW.out.2.2.2.1;omega))
      have HVN:=Ag (show Off w1.heap.size (.slice xa xl xc) (.slice ya yl yc) (.slice za zl zc) from⟨fun k hk e=> by have:=hab.1 k hk;have:=HSZ.out;omega,fun k hk e=> by have:=hab.2.1 k hk;have:=HSZ.out;omega,fun k hk e=> by have:=hab.2.2 k hk;have:=HSZ.out;omega⟩)
      have HAB:=Ag (hab.mono H3.out.2.size)
      clear hb hs hc hab
      by_cases h0:r.1=0
      ·have HRQ:=Ag (show R=(r.2,0) from by rw[HRE.out,if_pos h0])
       rw[h0]
       clear h0
       go_wp2_with (first
  | (with_reducible refine Ap rfl 43 (.tmp 6) rfl u3.heap.size 0 rfl (pmC r.2.o r.2.e (.slice xa xl xc) (.slice ya yl yc) (.slice za zl zc)) _ (As HV.out.1) Tryz.underlying43 rfl (Ay _ _ _ _ _) ?_)
  | ((with_reducible refine Ao u7 rfl 43 (.tmp 4) (.tmp 32) rfl w1.heap.size 43 (pmC 0 0 (.slice none 0 0) (.slice none 0 0) (.slice none 0 0)) ((pmC r.2.o r.2.e (.slice xa xl xc) (.slice ya yl yc) (.slice za zl zc))) HV.out.2.2.1 rfl rfl rfl (Ay _ _ _ _ _) (Bn _ _ _ _ _ _ _ _ _ _ _) ?_);intro w9 hb hc hs;have H9:=hJ3 hb hc (Aw HV.out.2.2.2 hc (Ah _) (fun k hk=> by have e:k=w1.heap.size:=hk;have:=H1.out.2.size;omega));clear hb hc hs))
       refine bodyPost_ret (AQ Tryz.results105 _ _ w1.heap.size _ _ rfl H9.out.1 _ Tryz.underlying43 rfl (Ay _ _ _ _ _) _ rfl) rfl ?_
       rw[HRQ.out]
       exact⟨_,_,_,rfl,HV.out.2.1.ch H9.out.2.1 HVN.out,H9.out.2.2,HAB.out⟩
      ·have HRQ:=Ag (show R=(noP,r.1) from by rw[HRE.out,if_neg h0])
       have hk1:(r.1==0)=false:=by simpa using h0
       have hk2:(r.1 !=0)=true:=by simpa using h0
       generalize r.1=k at hk1 hk2 HRQ ⊢
       clear h0
       go_wp2_with (first
  | ((with_reducible refine Bh rfl rfl ?_))
  | ((with_reducible refine Ao u7 rfl 43 (.tmp 4) (.tmp 30) rfl w1.heap.size 43 (pmC 0 0 (.slice none 0 0) (.slice none 0 0) (.slice none 0 0)) (pmC 0 0 (.slice none 0 0) (.slice none 0 0) (.slice none 0 0)) HV.out.2.2.1 rfl rfl rfl (Ay _ _ _ _ _) (Bn _ _ _ _ _ _ _ _ _ _ _) ?_);intro w9 hb hc hs;have H9:=hJ3 hb hc (Aw HV.out.2.2.2 hc (Ah _) (fun k hk=> by have e:k=w1.heap.size:=hk;have:=H1.out.2.size;omega));clear hb hc hs))
       refine bodyPost_ret (AQ Tryz.results105 _ _ w1.heap.size _ _ rfl H9.out.1 _ Tryz.underlying43 rfl (Ay _ _ _ _ _) _ rfl) rfl ?_
       rw[HRQ.out]
       exact⟨_,_,_,rfl,PmS.nil _,H9.out.2.2,BD.nil _⟩
     ·skip
      refine Av u3 rfl 43 rfl (pmC 0 0 (.slice none 0 0) (.slice none 0 0) (.slice none 0 0)) Tryz.zeroPm ?_
      intro u8 hb hbel hsz
      have HU8:=Ag (show Blk u8 w.heap.size 43 (pmC o pe (.slice ra rl rc) (.slice qa ql qc) (.slice ga gl gc))∧Blk u8 w1.heap.size 43 (pmC 0 0 (.slice none 0 0) (.slice none 0 0) (.slice none 0 0))∧PmS u8 ⟨o,pe,pr,pq,pg⟩ (.slice ra rl rc) (.slice qa ql qc) (.slice ga gl gc)∧Below w.heap.size w u8∧Below w3.heap.size w3 u8∧u8.ownsRow u0.heap.size 3 1 (.slice ao1 rl cp1) rl (ofK .i64 pr)∧w3.heap.size≤u0.heap.size∧u8.ownsRow u1.heap.size 3 1 (.slice ao2 ql cp2) ql (ofK .i64 pq)∧w3.heap.size≤u1.heap.size∧u8.ownsRow u2.heap.size 3 1 (.slice ao3 gl cp3) gl (ofK .i64 pg)∧w3.heap.size≤u2.heap.size∧Blk u8 u3.heap.size 43 (pmC 0 0 (.slice none 0 0) (.slice none 0 0) (.slice none 0 0))∧w.heap.size≤u3.heap.size∧w1.heap.size<u3.heap.size∧w.heap.size<u3.heap.size∧(∀ k,(Value.slice ao1 rl cp1).ownBlock=some k→k≠u3.heap.size)∧(∀ k,(Value.slice ao2 ql cp2).ownBlock=some k→k≠u3.heap.size)∧(∀ k,(Value.slice ao3 gl cp3).ownBlock=some k→k≠u3.heap.size) from⟨HU3.out.1.below hbel HU3.out.1.lt,HU3.out.2.1.below hbel HU3.out.2.1.lt,HU3.out.2.2.1.below hbel,An HU3.out.2.2.2.1 hbel (Ah _),An HU3.out.2.2.2.2.1 hbel (Ah _),A9 HU3.out.2.2.2.2.2.1 (Ch.of_below (S:=fun _=> False) hbel (Ah _)) (fun _ _ h=> h),HU3.out.2.2.2.2.2.2.1,A9 HU3.out.2.2.2.2.2.2.2.1 (Ch.of_below (S:=fun _=> False) hbel (Ah _)) (fun _ _ h=> h),HU3.out.2.2.2.2.2.2.2.2.1,A9 HU3.out.2.2.2.2.2.2.2.2.2.1 (Ch.of_below (S:=fun _=> False) hbel (Ah _)) (fun _ _ h=> h),HU3.out.2.2.2.2.2.2.2.2.2.2,hb,Aj (Ah _) HU3.out.2.2.2.1.size,HU3.out.2.1.lt,HU3.out.1.lt,fun k hk e=> by have:=(HU3.out.2.2.2.2.2.1.lt k hk).2;omega,fun k hk e=> by have:=(HU3.out.2.2.2.2.2.2.2.1.lt k hk).2;omega,fun k hk e=> by have:=(HU3.out.2.2.2.2.2.2.2.2.2.1.lt k hk).2;omega⟩)
      clear hb hbel hsz
      simp only[Al,Ad,Ae,Af]
      refine QK.normal ⟨⟨HU8.out.1.cell 0,HU8.out.1.cell 1,HU8.out.1.cell 2,HU8.out.1.cell 3,HU8.out.1.cell 4⟩,?_⟩
      refine' Ar 13 (by kernel_rfl) ?_ ?_;rotate_left;(simp only[Aa,Ab,Ac];rfl)
      refine BU rfl (.tmp 13) (.tmp 15) (.tmp 18) (.tmp 21) (.tmp 24) rfl o pe ao1 ao2 ao3 rl cp1 ql cp2 gl cp3 rfl rfl rfl rfl rfl ?_
      simp only[Al,Ad,Ae,Af]
      refine QK.normal ⟨⟨HU8.out.1.cell 0,HU8.out.1.cell 1,HU8.out.1.cell 2,HU8.out.1.cell 3,HU8.out.1.cell 4⟩,?_⟩
      refine' Ar 15 (by kernel_rfl) ?_ ?_;rotate_left;(simp only[Aa,Ab,Ac];rfl)
      refine Ao u8 rfl 43 (.tmp 6) (.tmp 25) rfl u3.heap.size 43 (pmC 0 0 (.slice none 0 0) (.slice none 0 0) (.slice none 0 0)) (pmC o pe (.slice ao1 rl cp1) (.slice ao2 ql cp2) (.slice ao3 gl cp3)) HU8.out.2.2.2.2.2.2.2.2.2.2.2.1 rfl rfl rfl (Ay _ _ _ _ _) (Bn _ _ _ _ _ _ _ _ _ _ _) ?_
      intro u10 hb hc hs
      have HW:=Ag (show Blk u10 u3.heap.size 43 (pmC o pe (.slice ao1 rl cp1) (.slice ao2 ql cp2) (.slice ao3 gl cp3))∧PmS u10 ⟨o,pe,pr,pq,pg⟩ (.slice ao1 rl cp1) (.slice ao2 ql cp2) (.slice ao3 gl cp3)∧Off u3.heap.size (.slice ao1 rl cp1) (.slice ao2 ql cp2) (.slice ao3 gl cp3)∧w.heap.size≤u3.heap.size∧Below w.heap.size w u10∧Blk u10 w1.heap.size 43 (pmC 0 0 (.slice none 0 0) (.slice none 0 0) (.slice none 0 0))∧BD w3.heap.size (.slice ao1 rl cp1) (.slice ao2 ql cp2) (.slice ao3 gl cp3)∧w3.heap.size≤u10.heap.size from⟨hb,⟨Sl.of_owns (A9 HU8.out.2.2.2.2.2.1 hc (fun k hk e=> HU8.out.2.2.2.2.2.2.2.2.2.2.2.2.2.2.2.1 k hk e)),Sl.of_owns (A9 HU8.out.2.2.2.2.2.2.2.1 hc (fun k hk e=> HU8.out.2.2.2.2.2.2.2.2.2.2.2.2.2.2.2.2.1 k hk e)),Sl.of_owns (A9 HU8.out.2.2.2.2.2.2.2.2.2.1 hc (fun k hk e=> HU8.out.2.2.2.2.2.2.2.2.2.2.2.2.2.2.2.2.2 k hk e))⟩,⟨HU8.out.2.2.2.2.2.2.2.2.2.2.2.2.2.2.2.1,HU8.out.2.2.2.2.2.2.2.2.2.2.2.2.2.2.2.2.1,HU8.out.2.2.2.2.2.2.2.2.2.2.2.2.2.2.2.2.2⟩,HU8.out.2.2.2.2.2.2.2.2.2.2.2.2.1,Aw HU8.out.2.2.2.1 hc (Ah _) (fun k hk=> by have e:k=u3.heap.size:=hk;have:=HU8.out.2.2.2.2.2.2.2.2.2.2.2.2.1;omega),HU8.out.2.1.keep hc (fun e=> by have e:w1.heap.size=u3.heap.size:=e;have:=HU8.out.2.2.2.2.2.2.2.2.2.2.2.2.2.1;omega),⟨fun k hk=> Aj HU8.out.2.2.2.2.2.2.1 (HU8.out.2.2.2.2.2.1.lt k hk).1,fun k hk=> Aj HU8.out.2.2.2.2.2.2.2.2.1 (HU8.out.2.2.2.2.2.2.2.1.lt k hk).1,fun k hk=> Aj HU8.out.2.2.2.2.2.2.2.2.2.2.1 (HU8.out.2.2.2.2.2.2.2.2.2.1.lt k hk).1⟩,Aj HU8.out.2.2.2.2.1.size hc.size⟩)
      have HWG:=Ag (show w1.heap.size≠u3.heap.size from by have:=HU8.out.2.2.2.2.2.2.2.2.2.2.2.2.2.1;omega)
      have HK:=Ag (show u10.cell? ⟨w.heap.size,0,none⟩=some (.int .i64 o)∧u10.cell? ⟨w.heap.size,1,none⟩=some (.int .i64 pe)∧u10.cell? ⟨w.heap.size,2,none⟩=some (.slice ra rl rc)∧u10.cell? ⟨w.heap.size,3,none⟩=some (.slice qa ql qc)∧u10.cell? ⟨w.heap.size,4,none⟩=some (.slice ga gl gc) from by have hk:=HU8.out.1.keep hc (fun e=> by have e:w.heap.size=u3.heap.size:=e;have:=HU8.out.2.2.2.2.2.2.2.2.2.2.2.2.2.2.1;omega);exact⟨hk.cell 0,hk.cell 1,hk.cell 2,hk.cell 3,hk.cell 4⟩)
      clear hb hc hs
      simp only[Al,Ad,Ae,Af]
      refine QK.normal ⟨HK.out,?_⟩
      clear HK
      refine wpAnyH_done (by kernel_rfl) ?_ _
      refine NoPanic.normal ?_
      go_wp2_with fail
      refine(HS.out HB.out u10 u3.heap.size w3.heap.size _ _ _ HW.out.2.2.2.2.1 HW.out.2.2.2.1 HW.out.2.2.2.2.2.2.2 HW.out.2.2.2.2.2.2.1 HW.out.1 HW.out.2.1 HW.out.2.2.1).mono ?_
      rintro e u11 ⟨rfl,xr,xq,xg,hb,hs,hc,hab⟩
      obtain⟨xa,xc,rfl,-⟩:=hs.1.shape
      obtain⟨ya,yc,rfl,-⟩:=hs.2.1.shape
      obtain⟨za,zc,rfl,-⟩:=hs.2.2.shape
      generalize (ofK .i64 r.2.r).length=xl at hb hs hab
      generalize (ofK .i64 r.2.q).length=yl at hb hs hab
      generalize (ofK .i64 r.2.g).length=zl at hb hs hab
      have HV:=hJ4 hb hs (HW.out.2.2.2.2.2.1.keep hc (fun e=> HWG.out e)) (Aw HW.out.2.2.2.2.1 hc (Ah _) (fun k hk=> by have e:k=u3.heap.size:=hk;have:=HW.out.2.2.2.1;omega))
      have HVN:=Ag (show Off w1.heap.size (.slice xa xl xc) (.slice ya yl yc) (.slice za zl zc) from⟨fun k hk e=> by have:=hab.1 k hk;have:=HSZ.out;omega,fun k hk e=> by have:=hab.2.1 k hk;have:=HSZ.out;omega,fun k hk e=> by have:=hab.2.2 k hk;have:=HSZ.out;omega⟩)
      have HAB:=Ag (hab.mono H3.out.2.size)
      clear hb hs hc hab
      by_cases h0:r.1=0
      ·have HRQ:=Ag (show R=(r.2,0) from by rw[HRE.out,if_pos h0])
       rw[h0]
       clear h0
       go_wp2_with (first
  | (with_reducible refine Ap rfl 43 (.tmp 6) rfl u3.heap.size 0 rfl (pmC r.2.o r.2.e (.slice xa xl xc) (.slice ya yl yc) (.slice za zl zc)) _ (As HV.out.1) Tryz.underlying43 rfl (Ay _ _ _ _ _) ?_)
  | ((with_reducible refine Ao u11 rfl 43 (.tmp 4) (.tmp 32) rfl w1.heap.size 43 (pmC 0 0 (.slice none 0 0) (.slice none 0 0) (.slice none 0 0)) ((pmC r.2.o r.2.e (.slice xa xl xc) (.slice ya yl yc) (.slice za zl zc))) HV.out.2.2.1 rfl rfl rfl (Ay _ _ _ _ _) (Bn _ _ _ _ _ _ _ _ _ _ _) ?_);intro w9 hb hc hs;have H9:=hJ3 hb hc (Aw HV.out.2.2.2 hc (Ah _) (fun k hk=> by have e:k=w1.heap.size:=hk;have:=H1.out.2.size;omega));clear hb hc hs))
       refine bodyPost_ret (AQ Tryz.results105 _ _ w1.heap.size _ _ rfl H9.out.1 _ Tryz.underlying43 rfl (Ay _ _ _ _ _) _ rfl) rfl ?_
       rw[HRQ.out]
       exact⟨_,_,_,rfl,HV.out.2.1.ch H9.out.2.1 HVN.out,H9.out.2.2,HAB.out⟩
      ·have HRQ:=Ag (show R=(noP,r.1) from by rw[HRE.out,if_neg h0])
       have hk1:(r.1==0)=false:=by simpa using h0
       have hk2:(r.1 !=0)=true:=by simpa using h0
       generalize r.1=k at hk1 hk2 HRQ ⊢
       clear h0
       go_wp2_with (first
  | ((with_reducible refine Bh rfl rfl ?_))
  | ((with_reducible refine Ao u11 rfl 43 (.tmp 4) (.tmp 30) rfl w1.heap.size 43 (pmC 0 0 (.slice none 0 0) (.slice none 0 0) (.slice none 0 0)) (pmC 0 0 (.slice none 0 0) (.slice none 0 0) (.slice none 0 0)) HV.out.2.2.1 rfl rfl rfl (Ay _ _ _ _ _) (Bn _ _ _ _ _ _ _ _ _ _ _) ?_);intro w9 hb hc hs;have H9:=hJ3 hb hc (Aw HV.out.2.2.2 hc (Ah _) (fun k hk=> by have e:k=w1.heap.size:=hk;have:=H1.out.2.size;omega));clear hb hc hs))
       refine bodyPost_ret (AQ Tryz.results105 _ _ w1.heap.size _ _ rfl H9.out.1 _ Tryz.underlying43 rfl (Ay _ _ _ _ _) _ rfl) rfl ?_
       rw[HRQ.out]
       exact⟨_,_,_,rfl,PmS.nil _,H9.out.2.2,BD.nil _⟩
    ·skip
     refine Av u2 rfl 43 rfl (pmC 0 0 (.slice none 0 0) (.slice none 0 0) (.slice none 0 0)) Tryz.zeroPm ?_
     intro u12 hb hbel hsz
     have HU12:=Ag (show Blk u12 w.heap.size 43 (pmC o pe (.slice ra rl rc) (.slice qa ql qc) (.slice ga gl gc))∧Blk u12 w1.heap.size 43 (pmC 0 0 (.slice none 0 0) (.slice none 0 0) (.slice none 0 0))∧PmS u12 ⟨o,pe,pr,pq,pg⟩ (.slice ra rl rc) (.slice qa ql qc) (.slice ga gl gc)∧Below w.heap.size w u12∧Below w3.heap.size w3 u12∧u12.ownsRow u0.heap.size 3 1 (.slice ao1 rl cp1) rl (ofK .i64 pr)∧w3.heap.size≤u0.heap.size∧u12.ownsRow u1.heap.size 3 1 (.slice ao2 ql cp2) ql (ofK .i64 pq)∧w3.heap.size≤u1.heap.size∧Blk u12 u2.heap.size 43 (pmC 0 0 (.slice none 0 0) (.slice none 0 0) (.slice none 0 0))∧w.heap.size≤u2.heap.size∧w1.heap.size<u2.heap.size∧w.heap.size<u2.heap.size∧(∀ k,(Value.slice ao1 rl cp1).ownBlock=some k→k≠u2.heap.size)∧(∀ k,(Value.slice ao2 ql cp2).ownBlock=some k→k≠u2.heap.size) from⟨HU2.out.1.below hbel HU2.out.1.lt,HU2.out.2.1.below hbel HU2.out.2.1.lt,HU2.out.2.2.1.below hbel,An HU2.out.2.2.2.1 hbel (Ah _),An HU2.out.2.2.2.2.1 hbel (Ah _),A9 HU2.out.2.2.2.2.2.1 (Ch.of_below (S:=fun _=> False) hbel (Ah _)) (fun _ _ h=> h),HU2.out.2.2.2.2.2.2.1,A9 HU2.out.2.2.2.2.2.2.2.1 (Ch.of_below (S:=fun _=> False) hbel (Ah _)) (fun _ _ h=> h),HU2.out.2.2.2.2.2.2.2.2,hb,Aj (Ah _) HU2.out.2.2.2.1.size,HU2.out.2.1.lt,HU2.out.1.lt,fun k hk e=> by have:=(HU2.out.2.2.2.2.2.1.lt k hk).2;omega,fun k hk e=> by have:=(HU2.out.2.2.2.2.2.2.2.1.lt k hk).2;omega⟩)
     clear hb hbel hsz
     simp only[Al,Ad,Ae,Af]
     refine QK.normal ⟨⟨HU12.out.1.cell 0,HU12.out.1.cell 1,HU12.out.1.cell 2,HU12.out.1.cell 3,HU12.out.1.cell 4⟩,?_⟩
     refine' Ar 12 (by kernel_rfl) ?_ ?_;rotate_left;(simp only[Aa,Ab,Ac];rfl)
     try simp only[Al]
     go_wp2_with fail
     refine(Bq (.slice ga gl gc) pg u12 HU12.out.2.2.1.2.2 (by have:=HP.out.2.2.2;simp only at this;omega)).mono ?_
     rintro e' u13 ⟨v13,rfl,hown,hb⟩
     obtain⟨ao3,cp3,rfl⟩:=AY hown
     rw[HLN.out.2.2] at hown ⊢
     have HU13:=Ag (show Blk u13 w.heap.size 43 (pmC o pe (.slice ra rl rc) (.slice qa ql qc) (.slice ga gl gc))∧Blk u13 w1.heap.size 43 (pmC 0 0 (.slice none 0 0) (.slice none 0 0) (.slice none 0 0))∧PmS u13 ⟨o,pe,pr,pq,pg⟩ (.slice ra rl rc) (.slice qa ql qc) (.slice ga gl gc)∧Below w.heap.size w u13∧Below w3.heap.size w3 u13∧u13.ownsRow u0.heap.size 3 1 (.slice ao1 rl cp1) rl (ofK .i64 pr)∧w3.heap.size≤u0.heap.size∧u13.ownsRow u1.heap.size 3 1 (.slice ao2 ql cp2) ql (ofK .i64 pq)∧w3.heap.size≤u1.heap.size∧Blk u13 u2.heap.size 43 (pmC 0 0 (.slice none 0 0) (.slice none 0 0) (.slice none 0 0))∧w.heap.size≤u2.heap.size∧w1.heap.size<u2.heap.size∧w.heap.size<u2.heap.size∧(∀ k,(Value.slice ao1 rl cp1).ownBlock=some k→k≠u2.heap.size)∧(∀ k,(Value.slice ao2 ql cp2).ownBlock=some k→k≠u2.heap.size)∧u13.ownsRow u12.heap.size 3 1 (.slice ao3 gl cp3) gl (ofK .i64 pg)∧w3.heap.size≤u12.heap.size∧(∀ k,(Value.slice ao3 gl cp3).ownBlock=some k→k≠u2.heap.size) from⟨HU12.out.1.below hb HU12.out.1.lt,HU12.out.2.1.below hb HU12.out.2.1.lt,HU12.out.2.2.1.below hb,An HU12.out.2.2.2.1 hb (Ah _),An HU12.out.2.2.2.2.1 hb (Ah _),A9 HU12.out.2.2.2.2.2.1 (Ch.of_below (S:=fun _=> False) hb (Ah _)) (fun _ _ h=> h),HU12.out.2.2.2.2.2.2.1,A9 HU12.out.2.2.2.2.2.2.2.1 (Ch.of_below (S:=fun _=> False) hb (Ah _)) (fun _ _ h=> h),HU12.out.2.2.2.2.2.2.2.2.1,HU12.out.2.2.2.2.2.2.2.2.2.1.below hb HU12.out.2.2.2.2.2.2.2.2.2.1.lt,HU12.out.2.2.2.2.2.2.2.2.2.2.1,HU12.out.2.2.2.2.2.2.2.2.2.2.2.1,HU12.out.2.2.2.2.2.2.2.2.2.2.2.2.1,HU12.out.2.2.2.2.2.2.2.2.2.2.2.2.2.1,HU12.out.2.2.2.2.2.2.2.2.2.2.2.2.2.2,hown,HU12.out.2.2.2.2.1.size,fun k hk e=> by have:=(hown.lt k hk).1;have:=HU12.out.2.2.2.2.2.2.2.2.2.1.lt;omega⟩)
     clear hown hb
     go_wp2_with fail
     refine QK.normal ⟨⟨HU13.out.1.cell 0,HU13.out.1.cell 1,HU13.out.1.cell 2,HU13.out.1.cell 3,HU13.out.1.cell 4⟩,?_⟩
     refine' Ar 13 (by kernel_rfl) ?_ ?_;rotate_left;(simp only[Aa,Ab,Ac];rfl)
     refine BU rfl (.tmp 13) (.tmp 15) (.tmp 18) (.tmp 21) (.tmp 24) rfl o pe ao1 ao2 ao3 rl cp1 ql cp2 gl cp3 rfl rfl rfl rfl rfl ?_
     simp only[Al,Ad,Ae,Af]
     refine QK.normal ⟨⟨HU13.out.1.cell 0,HU13.out.1.cell 1,HU13.out.1.cell 2,HU13.out.1.cell 3,HU13.out.1.cell 4⟩,?_⟩
     refine' Ar 15 (by kernel_rfl) ?_ ?_;rotate_left;(simp only[Aa,Ab,Ac];rfl)
     refine Ao u13 rfl 43 (.tmp 6) (.tmp 25) rfl u2.heap.size 43 (pmC 0 0 (.slice none 0 0) (.slice none 0 0) (.slice none 0 0)) (pmC o pe (.slice ao1 rl cp1) (.slice ao2 ql cp2) (.slice ao3 gl cp3)) HU13.out.2.2.2.2.2.2.2.2.2.1 rfl rfl rfl (Ay _ _ _ _ _) (Bn _ _ _ _ _ _ _ _ _ _ _) ?_
     intro u15 hb hc hs
     have HW:=Ag (show Blk u15 u2.heap.size 43 (pmC o pe (.slice ao1 rl cp1) (.slice ao2 ql cp2) (.slice ao3 gl cp3))∧PmS u15 ⟨o,pe,pr,pq,pg⟩ (.slice ao1 rl cp1) (.slice ao2 ql cp2) (.slice ao3 gl cp3)∧Off u2.heap.size (.slice ao1 rl cp1) (.slice ao2 ql cp2) (.slice ao3 gl cp3)∧w.heap.size≤u2.heap.size∧Below w.heap.size w u15∧Blk u15 w1.heap.size 43 (pmC 0 0 (.slice none 0 0) (.slice none 0 0) (.slice none 0 0))∧BD w3.heap.size (.slice ao1 rl cp1) (.slice ao2 ql cp2) (.slice ao3 gl cp3)∧w3.heap.size≤u15.heap.size from⟨hb,⟨Sl.of_owns (A9 HU13.out.2.2.2.2.2.1 hc (fun k hk e=> HU13.out.2.2.2.2.2.2.2.2.2.2.2.2.2.1 k hk e)),Sl.of_owns (A9 HU13.out.2.2.2.2.2.2.2.1 hc (fun k hk e=> HU13.out.2.2.2.2.2.2.2.2.2.2.2.2.2.2.1 k hk e)),Sl.of_owns (A9 HU13.out.2.2.2.2.2.2.2.2.2.2.2.2.2.2.2.1 hc (fun k hk e=> HU13.out.2.2.2.2.2.2.2.2.2.2.2.2.2.2.2.2.2 k hk e))⟩,⟨HU13.out.2.2.2.2.2.2.2.2.2.2.2.2.2.1,HU13.out.2.2.2.2.2.2.2.2.2.2.2.2.2.2.1,HU13.out.2.2.2.2.2.2.2.2.2.2.2.2.2.2.2.2.2⟩,HU13.out.2.2.2.2.2.2.2.2.2.2.1,Aw HU13.out.2.2.2.1 hc (Ah _) (fun k hk=> by have e:k=u2.heap.size:=hk;have:=HU13.out.2.2.2.2.2.2.2.2.2.2.1;omega),HU13.out.2.1.keep hc (fun e=> by have e:w1.heap.size=u2.heap.size:=e;have:=HU13.out.2.2.2.2.2.2.2.2.2.2.2.1;omega),⟨fun k hk=> Aj HU13.out.2.2.2.2.2.2.1 (HU13.out.2.2.2.2.2.1.lt k hk).1,fun k hk=> Aj HU13.out.2.2.2.2.2.2.2.2.1 (HU13.out.2.2.2.2.2.2.2.1.lt k hk).1,fun k hk=> Aj HU13.out.2.2.2.2.2.2.2.2.2.2.2.2.2.2.2.2.1 (HU13.out.2.2.2.2.2.2.2.2.2.2.2.2.2.2.2.1.lt k hk).1⟩,Aj HU13.out.2.2.2.2.1.size hc.size⟩)
     have HWG:=Ag (show w1.heap.size≠u2.heap.size from by have:=HU13.out.2.2.2.2.2.2.2.2.2.2.2.1;omega)
     have HK:=Ag (show u15.cell? ⟨w.heap.size,0,none⟩=some (.int .i64 o)∧u15.cell? ⟨w.heap.size,1,none⟩=some (.int .i64 pe)∧u15.cell? ⟨w.heap.size,2,none⟩=some (.slice ra rl rc)∧u15.cell? ⟨w.heap.size,3,none⟩=some (.slice qa ql qc)∧u15.cell? ⟨w.heap.size,4,none⟩=some (.slice ga gl gc) from by have hk:=HU13.out.1.keep hc (fun e=> by have e:w.heap.size=u2.heap.size:=e;have:=HU13.out.2.2.2.2.2.2.2.2.2.2.2.2.1;omega);exact⟨hk.cell 0,hk.cell 1,hk.cell 2,hk.cell 3,hk.cell 4⟩)
     clear hb hc hs
     simp only[Al,Ad,Ae,Af]
     refine QK.normal ⟨HK.out,?_⟩
     clear HK
     refine wpAnyH_done (by kernel_rfl) ?_ _
     refine NoPanic.normal ?_
     go_wp2_with fail
     refine(HS.out HB.out u15 u2.heap.size w3.heap.size _ _ _ HW.out.2.2.2.2.1 HW.out.2.2.2.1 HW.out.2.2.2.2.2.2.2 HW.out.2.2.2.2.2.2.1 HW.out.1 HW.out.2.1 HW.out.2.2.1).mono ?_
     rintro e u16 ⟨rfl,xr,xq,xg,hb,hs,hc,hab⟩
     obtain⟨xa,xc,rfl,-⟩:=hs.1.shape
     obtain⟨ya,yc,rfl,-⟩:=hs.2.1.shape
     obtain⟨za,zc,rfl,-⟩:=hs.2.2.shape
     generalize (ofK .i64 r.2.r).length=xl at hb hs hab
     generalize (ofK .i64 r.2.q).length=yl at hb hs hab
     generalize (ofK .i64 r.2.g).length=zl at hb hs hab
     have HV:=hJ4 hb hs (HW.out.2.2.2.2.2.1.keep hc (fun e=> HWG.out e)) (Aw HW.out.2.2.2.2.1 hc (Ah _) (fun k hk=> by have e:k=u2.heap.size:=hk;have:=HW.out.2.2.2.1;omega))
     have HVN:=Ag (show Off w1.heap.size (.slice xa xl xc) (.slice ya yl yc) (.slice za zl zc) from⟨fun k hk e=> by have:=hab.1 k hk;have:=HSZ.out;omega,fun k hk e=> by have:=hab.2.1 k hk;have:=HSZ.out;omega,fun k hk e=> by have:=hab.2.2 k hk;have:=HSZ.out;omega⟩)
     have HAB:=Ag (hab.mono H3.out.2.size)
     clear hb hs hc hab
     by_cases h0:r.1=0
     ·have HRQ:=Ag (show R=(r.2,0) from by rw[HRE.out,if_pos h0])
      rw[h0]
      clear h0
      go_wp2_with (first
  | (with_reducible refine Ap rfl 43 (.tmp 6) rfl u2.heap.size 0 rfl (pmC r.2.o r.2.e (.slice xa xl xc) (.slice ya yl yc) (.slice za zl zc)) _ (As HV.out.1) Tryz.underlying43 rfl (Ay _ _ _ _ _) ?_)
  | ((with_reducible refine Ao u16 rfl 43 (.tmp 4) (.tmp 32) rfl w1.heap.size 43 (pmC 0 0 (.slice none 0 0) (.slice none 0 0) (.slice none 0 0)) ((pmC r.2.o r.2.e (.slice xa xl xc) (.slice ya yl yc) (.slice za zl zc))) HV.out.2.2.1 rfl rfl rfl (Ay _ _ _ _ _) (Bn _ _ _ _ _ _ _ _ _ _ _) ?_);intro w9 hb hc hs;have H9:=hJ3 hb hc (Aw HV.out.2.2.2 hc (Ah _) (fun k hk=> by have e:k=w1.heap.size:=hk;have:=H1.out.2.size;omega));clear hb hc hs))
      refine bodyPost_ret (AQ Tryz.results105 _ _ w1.heap.size _ _ rfl H9.out.1 _ Tryz.underlying43 rfl (Ay _ _ _ _ _) _ rfl) rfl ?_
      rw[HRQ.out]
      exact⟨_,_,_,rfl,HV.out.2.1.ch H9.out.2.1 HVN.out,H9.out.2.2,HAB.out⟩
     ·have HRQ:=Ag (show R=(noP,r.1) from by rw[HRE.out,if_neg h0])
      have hk1:(r.1==0)=false:=by simpa using h0
      have hk2:(r.1 !=0)=true:=by simpa using h0
      generalize r.1=k at hk1 hk2 HRQ ⊢
      clear h0
      go_wp2_with (first
  | ((with_reducible refine Bh rfl rfl ?_))
  | ((with_reducible refine Ao u16 rfl 43 (.tmp 4) (.tmp 30) rfl w1.heap.size 43 (pmC 0 0 (.slice none 0 0) (.slice none 0 0) (.slice none 0 0)) (pmC 0 0 (.slice none 0 0) (.slice none 0 0) (.slice none 0 0)) HV.out.2.2.1 rfl rfl rfl (Ay _ _ _ _ _) (Bn _ _ _ _ _ _ _ _ _ _ _) ?_);intro w9 hb hc hs;have H9:=hJ3 hb hc (Aw HV.out.2.2.2 hc (Ah _) (fun k hk=> by have e:k=w1.heap.size:=hk;have:=H1.out.2.size;omega));clear hb hc hs))
      refine bodyPost_ret (AQ Tryz.results105 _ _ w1.heap.size _ _ rfl H9.out.1 _ Tryz.underlying43 rfl (Ay _ _ _ _ _) _ rfl) rfl ?_
      rw[HRQ.out]
      exact⟨_,_,_,rfl,PmS.nil _,H9.out.2.2,BD.nil _⟩
   ·skip
    refine Av u1 rfl 43 rfl (pmC 0 0 (.slice none 0 0) (.slice none 0 0) (.slice none 0 0)) Tryz.zeroPm ?_
    intro u17 hb hbel hsz
    have HU17:=Ag (show Blk u17 w.heap.size 43 (pmC o pe (.slice ra rl rc) (.slice qa ql qc) (.slice ga gl gc))∧Blk u17 w1.heap.size 43 (pmC 0 0 (.slice none 0 0) (.slice none 0 0) (.slice none 0 0))∧PmS u17 ⟨o,pe,pr,pq,pg⟩ (.slice ra rl rc) (.slice qa ql qc) (.slice ga gl gc)∧Below w.heap.size w u17∧Below w3.heap.size w3 u17∧u17.ownsRow u0.heap.size 3 1 (.slice ao1 rl cp1) rl (ofK .i64 pr)∧w3.heap.size≤u0.heap.size∧Blk u17 u1.heap.size 43 (pmC 0 0 (.slice none 0 0) (.slice none 0 0) (.slice none 0 0))∧w.heap.size≤u1.heap.size∧w1.heap.size<u1.heap.size∧w.heap.size<u1.heap.size∧(∀ k,(Value.slice ao1 rl cp1).ownBlock=some k→k≠u1.heap.size) from⟨HU1.out.1.below hbel HU1.out.1.lt,HU1.out.2.1.below hbel HU1.out.2.1.lt,HU1.out.2.2.1.below hbel,An HU1.out.2.2.2.1 hbel (Ah _),An HU1.out.2.2.2.2.1 hbel (Ah _),A9 HU1.out.2.2.2.2.2.1 (Ch.of_below (S:=fun _=> False) hbel (Ah _)) (fun _ _ h=> h),HU1.out.2.2.2.2.2.2,hb,Aj (Ah _) HU1.out.2.2.2.1.size,HU1.out.2.1.lt,HU1.out.1.lt,fun k hk e=> by have:=(HU1.out.2.2.2.2.2.1.lt k hk).2;omega⟩)
    clear hb hbel hsz
    simp only[Al,Ad,Ae,Af]
    refine QK.normal ⟨⟨HU17.out.1.cell 0,HU17.out.1.cell 1,HU17.out.1.cell 2,HU17.out.1.cell 3,HU17.out.1.cell 4⟩,?_⟩
    refine' Ar 9 (by kernel_rfl) ?_ ?_;rotate_left;(simp only[Aa,Ab,Ac];rfl)
    try simp only[Al]
    go_wp2_with fail
    refine(Bq (.slice qa ql qc) pq u17 HU17.out.2.2.1.2.1 (by have:=HP.out.2.2.1;simp only at this;omega)).mono ?_
    rintro e' u18 ⟨v18,rfl,hown,hb⟩
    obtain⟨ao2,cp2,rfl⟩:=AY hown
    rw[HLN.out.2.1] at hown ⊢
    have HU18:=Ag (show Blk u18 w.heap.size 43 (pmC o pe (.slice ra rl rc) (.slice qa ql qc) (.slice ga gl gc))∧Blk u18 w1.heap.size 43 (pmC 0 0 (.slice none 0 0) (.slice none 0 0) (.slice none 0 0))∧PmS u18 ⟨o,pe,pr,pq,pg⟩ (.slice ra rl rc) (.slice qa ql qc) (.slice ga gl gc)∧Below w.heap.size w u18∧Below w3.heap.size w3 u18∧u18.ownsRow u0.heap.size 3 1 (.slice ao1 rl cp1) rl (ofK .i64 pr)∧w3.heap.size≤u0.heap.size∧Blk u18 u1.heap.size 43 (pmC 0 0 (.slice none 0 0) (.slice none 0 0) (.slice none 0 0))∧w.heap.size≤u1.heap.size∧w1.heap.size<u1.heap.size∧w.heap.size<u1.heap.size∧(∀ k,(Value.slice ao1 rl cp1).ownBlock=some k→k≠u1.heap.size)∧u18.ownsRow u17.heap.size 3 1 (.slice ao2 ql cp2) ql (ofK .i64 pq)∧w3.heap.size≤u17.heap.size∧(∀ k,(Value.slice ao2 ql cp2).ownBlock=some k→k≠u1.heap.size) from⟨HU17.out.1.below hb HU17.out.1.lt,HU17.out.2.1.below hb HU17.out.2.1.lt,HU17.out.2.2.1.below hb,An HU17.out.2.2.2.1 hb (Ah _),An HU17.out.2.2.2.2.1 hb (Ah _),A9 HU17.out.2.2.2.2.2.1 (Ch.of_below (S:=fun _=> False) hb (Ah _)) (fun _ _ h=> h),HU17.out.2.2.2.2.2.2.1,HU17.out.2.2.2.2.2.2.2.1.below hb HU17.out.2.2.2.2.2.2.2.1.lt,HU17.out.2.2.2.2.2.2.2.2.1,HU17.out.2.2.2.2.2.2.2.2.2.1,HU17.out.2.2.2.2.2.2.2.2.2.2.1,HU17.out.2.2.2.2.2.2.2.2.2.2.2,hown,HU17.out.2.2.2.2.1.size,fun k hk e=> by have:=(hown.lt k hk).1;have:=HU17.out.2.2.2.2.2.2.2.1.lt;omega⟩)
    clear hown hb
    go_wp2_with fail
    refine QK.normal ⟨⟨HU18.out.1.cell 0,HU18.out.1.cell 1,HU18.out.1.cell 2,HU18.out.1.cell 3,HU18.out.1.cell 4⟩,?_⟩
    refine' Ar 12 (by kernel_rfl) ?_ ?_;rotate_left;(simp only[Aa,Ab,Ac];rfl)
    try simp only[Al]
    go_wp2_with fail
    refine(Bq (.slice ga gl gc) pg u18 HU18.out.2.2.1.2.2 (by have:=HP.out.2.2.2;simp only at this;omega)).mono ?_
    rintro e' u19 ⟨v19,rfl,hown,hb⟩
    obtain⟨ao3,cp3,rfl⟩:=AY hown
    rw[HLN.out.2.2] at hown ⊢
    have HU19:=Ag (show Blk u19 w.heap.size 43 (pmC o pe (.slice ra rl rc) (.slice qa ql qc) (.slice ga gl gc))∧Blk u19 w1.heap.size 43 (pmC 0 0 (.slice none 0 0) (.slice none 0 0) (.slice none 0 0))∧PmS u19 ⟨o,pe,pr,pq,pg⟩ (.slice ra rl rc) (.slice qa ql qc) (.slice ga gl gc)∧Below w.heap.size w u19∧Below w3.heap.size w3 u19∧u19.ownsRow u0.heap.size 3 1 (.slice ao1 rl cp1) rl (ofK .i64 pr)∧w3.heap.size≤u0.heap.size∧Blk u19 u1.heap.size 43 (pmC 0 0 (.slice none 0 0) (.slice none 0 0) (.slice none 0 0))∧w.heap.size≤u1.heap.size∧w1.heap.size<u1.heap.size∧w.heap.size<u1.heap.size∧(∀ k,(Value.slice ao1 rl cp1).ownBlock=some k→k≠u1.heap.size)∧u19.ownsRow u17.heap.size 3 1 (.slice ao2 ql cp2) ql (ofK .i64 pq)∧w3.heap.size≤u17.heap.size∧(∀ k,(Value.slice ao2 ql cp2).ownBlock=some k→k≠u1.heap.size)∧u19.ownsRow u18.heap.size 3 1 (.slice ao3 gl cp3) gl (ofK .i64 pg)∧w3.heap.size≤u18.heap.size∧(∀ k,(Value.slice ao3 gl cp3).ownBlock=some k→k≠u1.heap.size) from⟨HU18.out.1.below hb HU18.out.1.lt,HU18.out.2.1.below hb HU18.out.2.1.lt,HU18.out.2.2.1.below hb,An HU18.out.2.2.2.1 hb (Ah _),An HU18.out.2.2.2.2.1 hb (Ah _),A9 HU18.out.2.2.2.2.2.1 (Ch.of_below (S:=fun _=> False) hb (Ah _)) (fun _ _ h=> h),HU18.out.2.2.2.2.2.2.1,HU18.out.2.2.2.2.2.2.2.1.below hb HU18.out.2.2.2.2.2.2.2.1.lt,HU18.out.2.2.2.2.2.2.2.2.1,HU18.out.2.2.2.2.2.2.2.2.2.1,HU18.out.2.2.2.2.2.2.2.2.2.2.1,HU18.out.2.2.2.2.2.2.2.2.2.2.2.1,A9 HU18.out.2.2.2.2.2.2.2.2.2.2.2.2.1 (Ch.of_below (S:=fun _=> False) hb (Ah _)) (fun _ _ h=> h),HU18.out.2.2.2.2.2.2.2.2.2.2.2.2.2.1,HU18.out.2.2.2.2.2.2.2.2.2.2.2.2.2.2,hown,HU18.out.2.2.2.2.1.size,fun k hk e=> by have:=(hown.lt k hk).1;have:=HU18.out.2.2.2.2.2.2.2.1.lt;omega⟩)
    clear hown hb
    go_wp2_with fail
    refine QK.normal ⟨⟨HU19.out.1.cell 0,HU19.out.1.cell 1,HU19.out.1.cell 2,HU19.out.1.cell 3,HU19.out.1.cell 4⟩,?_⟩
    refine' Ar 13 (by kernel_rfl) ?_ ?_;rotate_left;(simp only[Aa,Ab,Ac];rfl)
    refine BU rfl (.tmp 13) (.tmp 15) (.tmp 18) (.tmp 21) (.tmp 24) rfl o pe ao1 ao2 ao3 rl cp1 ql cp2 gl cp3 rfl rfl rfl rfl rfl ?_
    simp only[Al,Ad,Ae,Af]
    refine QK.normal ⟨⟨HU19.out.1.cell 0,HU19.out.1.cell 1,HU19.out.1.cell 2,HU19.out.1.cell 3,HU19.out.1.cell 4⟩,?_⟩
    refine' Ar 15 (by kernel_rfl) ?_ ?_;rotate_left;(simp only[Aa,Ab,Ac];rfl)
    refine Ao u19 rfl 43 (.tmp 6) (.tmp 25) rfl u1.heap.size 43 (pmC 0 0 (.slice none 0 0) (.slice none 0 0) (.slice none 0 0)) (pmC o pe (.slice ao1 rl cp1) (.slice ao2 ql cp2) (.slice ao3 gl cp3)) HU19.out.2.2.2.2.2.2.2.1 rfl rfl rfl (Ay _ _ _ _ _) (Bn _ _ _ _ _ _ _ _ _ _ _) ?_
    intro u21 hb hc hs
    have HW:=Ag (show Blk u21 u1.heap.size 43 (pmC o pe (.slice ao1 rl cp1) (.slice ao2 ql cp2) (.slice ao3 gl cp3))∧PmS u21 ⟨o,pe,pr,pq,pg⟩ (.slice ao1 rl cp1) (.slice ao2 ql cp2) (.slice ao3 gl cp3)∧Off u1.heap.size (.slice ao1 rl cp1) (.slice ao2 ql cp2) (.slice ao3 gl cp3)∧w.heap.size≤u1.heap.size∧Below w.heap.size w u21∧Blk u21 w1.heap.size 43 (pmC 0 0 (.slice none 0 0) (.slice none 0 0) (.slice none 0 0))∧BD w3.heap.size (.slice ao1 rl cp1) (.slice ao2 ql cp2) (.slice ao3 gl cp3)∧w3.heap.size≤u21.heap.size from⟨hb,⟨Sl.of_owns (A9 HU19.out.2.2.2.2.2.1 hc (fun k hk e=> HU19.out.2.2.2.2.2.2.2.2.2.2.2.1 k hk e)),Sl.of_owns (A9 HU19.out.2.2.2.2.2.2.2.2.2.2.2.2.1 hc (fun k hk e=> HU19.out.2.2.2.2.2.2.2.2.2.2.2.2.2.2.1 k hk e)),Sl.of_owns (A9 HU19.out.2.2.2.2.2.2.2.2.2.2.2.2.2.2.2.1 hc (fun k hk e=> HU19.out.2.2.2.2.2.2.2.2.2.2.2.2.2.2.2.2.2 k hk e))⟩,⟨HU19.out.2.2.2.2.2.2.2.2.2.2.2.1,HU19.out.2.2.2.2.2.2.2.2.2.2.2.2.2.2.1,HU19.out.2.2.2.2.2.2.2.2.2.2.2.2.2.2.2.2.2⟩,HU19.out.2.2.2.2.2.2.2.2.1,Aw HU19.out.2.2.2.1 hc (Ah _) (fun k hk=> by have e:k=u1.heap.size:=hk;have:=HU19.out.2.2.2.2.2.2.2.2.1;omega),HU19.out.2.1.keep hc (fun e=> by have e:w1.heap.size=u1.heap.size:=e;have:=HU19.out.2.2.2.2.2.2.2.2.2.1;omega),⟨fun k hk=> Aj HU19.out.2.2.2.2.2.2.1 (HU19.out.2.2.2.2.2.1.lt k hk).1,fun k hk=> Aj HU19.out.2.2.2.2.2.2.2.2.2.2.2.2.2.1 (HU19.out.2.2.2.2.2.2.2.2.2.2.2.2.1.lt k hk).1,fun k hk=> Aj HU19.out.2.2.2.2.2.2.2.2.2.2.2.2.2.2.2.2.1 (HU19.out.2.2.2.2.2.2.2.2.2.2.2.2.2.2.2.1.lt k hk).1⟩,Aj HU19.out.2.2.2.2.1.size hc.size⟩)
    have HWG:=Ag (show w1.heap.size≠u1.heap.size from by have:=HU19.out.2.2.2.2.2.2.2.2.2.1;omega)
    have HK:=Ag (show u21.cell? ⟨w.heap.size,0,none⟩=some (.int .i64 o)∧u21.cell? ⟨w.heap.size,1,none⟩=some (.int .i64 pe)∧u21.cell? ⟨w.heap.size,2,none⟩=some (.slice ra rl rc)∧u21.cell? ⟨w.heap.size,3,none⟩=some (.slice qa ql qc)∧u21.cell? ⟨w.heap.size,4,none⟩=some (.slice ga gl gc) from by have hk:=HU19.out.1.keep hc (fun e=> by have e:w.heap.size=u1.heap.size:=e;have:=HU19.out.2.2.2.2.2.2.2.2.2.2.1;omega);exact⟨hk.cell 0,hk.cell 1,hk.cell 2,hk.cell 3,hk.cell 4⟩)
    clear hb hc hs
    simp only[Al,Ad,Ae,Af]
    refine QK.normal ⟨HK.out,?_⟩
    clear HK
    refine wpAnyH_done (by kernel_rfl) ?_ _
    refine NoPanic.normal ?_
    go_wp2_with fail
    refine(HS.out HB.out u21 u1.heap.size w3.heap.size _ _ _ HW.out.2.2.2.2.1 HW.out.2.2.2.1 HW.out.2.2.2.2.2.2.2 HW.out.2.2.2.2.2.2.1 HW.out.1 HW.out.2.1 HW.out.2.2.1).mono ?_
    rintro e u22 ⟨rfl,xr,xq,xg,hb,hs,hc,hab⟩
    obtain⟨xa,xc,rfl,-⟩:=hs.1.shape
    obtain⟨ya,yc,rfl,-⟩:=hs.2.1.shape
    obtain⟨za,zc,rfl,-⟩:=hs.2.2.shape
    generalize (ofK .i64 r.2.r).length=xl at hb hs hab
    generalize (ofK .i64 r.2.q).length=yl at hb hs hab
    generalize (ofK .i64 r.2.g).length=zl at hb hs hab
    have HV:=hJ4 hb hs (HW.out.2.2.2.2.2.1.keep hc (fun e=> HWG.out e)) (Aw HW.out.2.2.2.2.1 hc (Ah _) (fun k hk=> by have e:k=u1.heap.size:=hk;have:=HW.out.2.2.2.1;omega))
    have HVN:=Ag (show Off w1.heap.size (.slice xa xl xc) (.slice ya yl yc) (.slice za zl zc) from⟨fun k hk e=> by have:=hab.1 k hk;have:=HSZ.out;omega,fun k hk e=> by have:=hab.2.1 k hk;have:=HSZ.out;omega,fun k hk e=> by have:=hab.2.2 k hk;have:=HSZ.out;omega⟩)
    have HAB:=Ag (hab.mono H3.out.2.size)
    clear hb hs hc hab
    by_cases h0:r.1=0
    ·have HRQ:=Ag (show R=(r.2,0) from by rw[HRE.out,if_pos h0])
     rw[h0]
     clear h0
     go_wp2_with (first
  | (with_reducible refine Ap rfl 43 (.tmp 6) rfl u1.heap.size 0 rfl (pmC r.2.o r.2.e (.slice xa xl xc) (.slice ya yl yc) (.slice za zl zc)) _ (As HV.out.1) Tryz.underlying43 rfl (Ay _ _ _ _ _) ?_)
  | ((with_reducible refine Ao u22 rfl 43 (.tmp 4) (.tmp 32) rfl w1.heap.size 43 (pmC 0 0 (.slice none 0 0) (.slice none 0 0) (.slice none 0 0)) ((pmC r.2.o r.2.e (.slice xa xl xc) (.slice ya yl yc) (.slice za zl zc))) HV.out.2.2.1 rfl rfl rfl (Ay _ _ _ _ _) (Bn _ _ _ _ _ _ _ _ _ _ _) ?_);intro w9 hb hc hs;have H9:=hJ3 hb hc (Aw HV.out.2.2.2 hc (Ah _) (fun k hk=> by have e:k=w1.heap.size:=hk;have:=H1.out.2.size;omega));clear hb hc hs))
     refine bodyPost_ret (AQ Tryz.results105 _ _ w1.heap.size _ _ rfl H9.out.1 _ Tryz.underlying43 rfl (Ay _ _ _ _ _) _ rfl) rfl ?_
     rw[HRQ.out]
     exact⟨_,_,_,rfl,HV.out.2.1.ch H9.out.2.1 HVN.out,H9.out.2.2,HAB.out⟩
    ·have HRQ:=Ag (show R=(noP,r.1) from by rw[HRE.out,if_neg h0])
     have hk1:(r.1==0)=false:=by simpa using h0
     have hk2:(r.1 !=0)=true:=by simpa using h0
     generalize r.1=k at hk1 hk2 HRQ ⊢
     clear h0
     go_wp2_with (first
  | ((with_reducible refine Bh rfl rfl ?_))
  | ((with_reducible refine Ao u22 rfl 43 (.tmp 4) (.tmp 30) rfl w1.heap.size 43 (pmC 0 0 (.slice none 0 0) (.slice none 0 0) (.slice none 0 0)) (pmC 0 0 (.slice none 0 0) (.slice none 0 0) (.slice none 0 0)) HV.out.2.2.1 rfl rfl rfl (Ay _ _ _ _ _) (Bn _ _ _ _ _ _ _ _ _ _ _) ?_);intro w9 hb hc hs;have H9:=hJ3 hb hc (Aw HV.out.2.2.2 hc (Ah _) (fun k hk=> by have e:k=w1.heap.size:=hk;have:=H1.out.2.size;omega));clear hb hc hs))
     refine bodyPost_ret (AQ Tryz.results105 _ _ w1.heap.size _ _ rfl H9.out.1 _ Tryz.underlying43 rfl (Ay _ _ _ _ _) _ rfl) rfl ?_
     rw[HRQ.out]
     exact⟨_,_,_,rfl,PmS.nil _,H9.out.2.2,BD.nil _⟩
  ·skip
   refine Av u0 rfl 43 rfl (pmC 0 0 (.slice none 0 0) (.slice none 0 0) (.slice none 0 0)) Tryz.zeroPm ?_
   intro u23 hb hbel hsz
   have HU23:=Ag (show Blk u23 w.heap.size 43 (pmC o pe (.slice ra rl rc) (.slice qa ql qc) (.slice ga gl gc))∧Blk u23 w1.heap.size 43 (pmC 0 0 (.slice none 0 0) (.slice none 0 0) (.slice none 0 0))∧PmS u23 ⟨o,pe,pr,pq,pg⟩ (.slice ra rl rc) (.slice qa ql qc) (.slice ga gl gc)∧Below w.heap.size w u23∧Below w3.heap.size w3 u23∧Blk u23 u0.heap.size 43 (pmC 0 0 (.slice none 0 0) (.slice none 0 0) (.slice none 0 0))∧w.heap.size≤u0.heap.size∧w1.heap.size<u0.heap.size∧w.heap.size<u0.heap.size from⟨H4a.out.1.below hbel H4a.out.1.lt,H4a.out.2.1.below hbel H4a.out.2.1.lt,H4a.out.2.2.1.below hbel,An H4a.out.2.2.2.1 hbel (Ah _),An H4a.out.2.2.2.2 hbel (Ah _),hb,Aj (Ah _) H4a.out.2.2.2.1.size,H4a.out.2.1.lt,H4a.out.1.lt⟩)
   clear hb hbel hsz
   simp only[Al,Ad,Ae,Af]
   refine QK.normal ⟨⟨HU23.out.1.cell 0,HU23.out.1.cell 1,HU23.out.1.cell 2,HU23.out.1.cell 3,HU23.out.1.cell 4⟩,?_⟩
   refine' Ar 6 (by kernel_rfl) ?_ ?_;rotate_left;(simp only[Aa,Ab,Ac];rfl)
   try simp only[Al]
   go_wp2_with fail
   refine(Bq (.slice ra rl rc) pr u23 HU23.out.2.2.1.1 (by have:=HP.out.2.1;simp only at this;omega)).mono ?_
   rintro e' u24 ⟨v24,rfl,hown,hb⟩
   obtain⟨ao1,cp1,rfl⟩:=AY hown
   rw[HLN.out.1] at hown ⊢
   have HU24:=Ag (show Blk u24 w.heap.size 43 (pmC o pe (.slice ra rl rc) (.slice qa ql qc) (.slice ga gl gc))∧Blk u24 w1.heap.size 43 (pmC 0 0 (.slice none 0 0) (.slice none 0 0) (.slice none 0 0))∧PmS u24 ⟨o,pe,pr,pq,pg⟩ (.slice ra rl rc) (.slice qa ql qc) (.slice ga gl gc)∧Below w.heap.size w u24∧Below w3.heap.size w3 u24∧Blk u24 u0.heap.size 43 (pmC 0 0 (.slice none 0 0) (.slice none 0 0) (.slice none 0 0))∧w.heap.size≤u0.heap.size∧w1.heap.size<u0.heap.size∧w.heap.size<u0.heap.size∧u24.ownsRow u23.heap.size 3 1 (.slice ao1 rl cp1) rl (ofK .i64 pr)∧w3.heap.size≤u23.heap.size∧(∀ k,(Value.slice ao1 rl cp1).ownBlock=some k→k≠u0.heap.size) from⟨HU23.out.1.below hb HU23.out.1.lt,HU23.out.2.1.below hb HU23.out.2.1.lt,HU23.out.2.2.1.below hb,An HU23.out.2.2.2.1 hb (Ah _),An HU23.out.2.2.2.2.1 hb (Ah _),HU23.out.2.2.2.2.2.1.below hb HU23.out.2.2.2.2.2.1.lt,HU23.out.2.2.2.2.2.2.1,HU23.out.2.2.2.2.2.2.2.1,HU23.out.2.2.2.2.2.2.2.2,hown,HU23.out.2.2.2.2.1.size,fun k hk e=> by have:=(hown.lt k hk).1;have:=HU23.out.2.2.2.2.2.1.lt;omega⟩)
   clear hown hb
   go_wp2_with fail
   refine QK.normal ⟨⟨HU24.out.1.cell 0,HU24.out.1.cell 1,HU24.out.1.cell 2,HU24.out.1.cell 3,HU24.out.1.cell 4⟩,?_⟩
   refine' Ar 9 (by kernel_rfl) ?_ ?_;rotate_left;(simp only[Aa,Ab,Ac];rfl)
   try simp only[Al]
   go_wp2_with fail
   refine(Bq (.slice qa ql qc) pq u24 HU24.out.2.2.1.2.1 (by have:=HP.out.2.2.1;simp only at this;omega)).mono ?_
   rintro e' u25 ⟨v25,rfl,hown,hb⟩
   obtain⟨ao2,cp2,rfl⟩:=AY hown
   rw[HLN.out.2.1] at hown ⊢
   have HU25:=Ag (show Blk u25 w.heap.size 43 (pmC o pe (.slice ra rl rc) (.slice qa ql qc) (.slice ga gl gc))∧Blk u25 w1.heap.size 43 (pmC 0 0 (.slice none 0 0) (.slice none 0 0) (.slice none 0 0))∧PmS u25 ⟨o,pe,pr,pq,pg⟩ (.slice ra rl rc) (.slice qa ql qc) (.slice ga gl gc)∧Below w.heap.size w u25∧Below w3.heap.size w3 u25∧Blk u25 u0.heap.size 43 (pmC 0 0 (.slice none 0 0) (.slice none 0 0) (.slice none 0 0))∧w.heap.size≤u0.heap.size∧w1.heap.size<u0.heap.size∧w.heap.size<u0.heap.size∧u25.ownsRow u23.heap.size 3 1 (.slice ao1 rl cp1) rl (ofK .i64 pr)∧w3.heap.size≤u23.heap.size∧(∀ k,(Value.slice ao1 rl cp1).ownBlock=some k→k≠u0.heap.size)∧u25.ownsRow u24.heap.size 3 1 (.slice ao2 ql cp2) ql (ofK .i64 pq)∧w3.heap.size≤u24.heap.size∧(∀ k,(Value.slice ao2 ql cp2).ownBlock=some k→k≠u0.heap.size) from⟨HU24.out.1.below hb HU24.out.1.lt,HU24.out.2.1.below hb HU24.out.2.1.lt,HU24.out.2.2.1.below hb,An HU24.out.2.2.2.1 hb (Ah _),An HU24.out.2.2.2.2.1 hb (Ah _),HU24.out.2.2.2.2.2.1.below hb HU24.out.2.2.2.2.2.1.lt,HU24.out.2.2.2.2.2.2.1,HU24.out.2.2.2.2.2.2.2.1,HU24.out.2.2.2.2.2.2.2.2.1,A9 HU24.out.2.2.2.2.2.2.2.2.2.1 (Ch.of_below (S:=fun _=> False) hb (Ah _)) (fun _ _ h=> h),HU24.out.2.2.2.2.2.2.2.2.2.2.1,HU24.out.2.2.2.2.2.2.2.2.2.2.2,hown,HU24.out.2.2.2.2.1.size,fun k hk e=> by have:=(hown.lt k hk).1;have:=HU24.out.2.2.2.2.2.1.lt;omega⟩)
   clear hown hb
   go_wp2_with fail
   refine QK.normal ⟨⟨HU25.out.1.cell 0,HU25.out.1.cell 1,HU25.out.1.cell 2,HU25.out.1.cell 3,HU25.out.1.cell 4⟩,?_⟩
   refine' Ar 12 (by kernel_rfl) ?_ ?_;rotate_left;(simp only[Aa,Ab,Ac];rfl)
   try simp only[Al]
   go_wp2_with fail
   refine(Bq (.slice ga gl gc) pg u25 HU25.out.2.2.1.2.2 (by have:=HP.out.2.2.2;simp only at this;omega)).mono ?_
   rintro e' u26 ⟨v26,rfl,hown,hb⟩
   obtain⟨ao3,cp3,rfl⟩:=AY hown
   rw[HLN.out.2.2] at hown ⊢
   have HU26:=Ag (show Blk u26 w.heap.size 43 (pmC o pe (.slice ra rl rc) (.slice qa ql qc) (.slice ga gl gc))∧Blk u26 w1.heap.size 43 (pmC 0 0 (.slice none 0 0) (.slice none 0 0) (.slice none 0 0))∧PmS u26 ⟨o,pe,pr,pq,pg⟩ (.slice ra rl rc) (.slice qa ql qc) (.slice ga gl gc)∧Below w.heap.size w u26∧Below w3.heap.size w3 u26∧Blk u26 u0.heap.size 43 (pmC 0 0 (.slice none 0 0) (.slice none 0 0) (.slice none 0 0))∧w.heap.size≤u0.heap.size∧w1.heap.size<u0.heap.size∧w.heap.size<u0.heap.size∧u26.ownsRow u23.heap.size 3 1 (.slice ao1 rl cp1) rl (ofK .i64 pr)∧w3.heap.size≤u23.heap.size∧(∀ k,(Value.slice ao1 rl cp1).ownBlock=some k→k≠u0.heap.size)∧u26.ownsRow u24.heap.size 3 1 (.slice ao2 ql cp2) ql (ofK .i64 pq)∧w3.heap.size≤u24.heap.size∧(∀ k,(Value.slice ao2 ql cp2).ownBlock=some k→k≠u0.heap.size)∧u26.ownsRow u25.heap.size 3 1 (.slice ao3 gl cp3) gl (ofK .i64 pg)∧w3.heap.size≤u25.heap.size∧(∀ k,(Value.slice ao3 gl cp3).ownBlock=some k→k≠u0.heap.size) from⟨HU25.out.1.below hb HU25.out.1.lt,HU25.out.2.1.below hb HU25.out.2.1.lt,HU25.out.2.2.1.below hb,An HU25.out.2.2.2.1 hb (Ah _),An HU25.out.2.2.2.2.1 hb (Ah _),HU25.out.2.2.2.2.2.1.below hb HU25.out.2.2.2.2.2.1.lt,HU25.out.2.2.2.2.2.2.1,HU25.out.2.2.2.2.2.2.2.1,HU25.out.2.2.2.2.2.2.2.2.1,A9 HU25.out.2.2.2.2.2.2.2.2.2.1 (Ch.of_below (S:=fun _=> False) hb (Ah _)) (fun _ _ h=> h),HU25.out.2.2.2.2.2.2.2.2.2.2.1,HU25.out.2.2.2.2.2.2.2.2.2.2.2.1,A9 HU25.out.2.2.2.2.2.2.2.2.2.2.2.2.1 (Ch.of_below (S:=fun _=> False) hb (Ah _)) (fun _ _ h=> h),HU25.out.2.2.2.2.2.2.2.2.2.2.2.2.2.1,HU25.out.2.2.2.2.2.2.2.2.2.2.2.2.2.2,hown,HU25.out.2.2.2.2.1.size,fun k hk e=> by have:=(hown.lt k hk).1;have:=HU25.out.2.2.2.2.2.1.lt;omega⟩)
   clear hown hb
   go_wp2_with fail
   refine QK.normal ⟨⟨HU26.out.1.cell 0,HU26.out.1.cell 1,HU26.out.1.cell 2,HU26.out.1.cell 3,HU26.out.1.cell 4⟩,?_⟩
   refine' Ar 13 (by kernel_rfl) ?_ ?_;rotate_left;(simp only[Aa,Ab,Ac];rfl)
   refine BU rfl (.tmp 13) (.tmp 15) (.tmp 18) (.tmp 21) (.tmp 24) rfl o pe ao1 ao2 ao3 rl cp1 ql cp2 gl cp3 rfl rfl rfl rfl rfl ?_
   simp only[Al,Ad,Ae,Af]
   refine QK.normal ⟨⟨HU26.out.1.cell 0,HU26.out.1.cell 1,HU26.out.1.cell 2,HU26.out.1.cell 3,HU26.out.1.cell 4⟩,?_⟩
   refine' Ar 15 (by kernel_rfl) ?_ ?_;rotate_left;(simp only[Aa,Ab,Ac];rfl)
   refine Ao u26 rfl 43 (.tmp 6) (.tmp 25) rfl u0.heap.size 43 (pmC 0 0 (.slice none 0 0) (.slice none 0 0) (.slice none 0 0)) (pmC o pe (.slice ao1 rl cp1) (.slice ao2 ql cp2) (.slice ao3 gl cp3)) HU26.out.2.2.2.2.2.1 rfl rfl rfl (Ay _ _ _ _ _) (Bn _ _ _ _ _ _ _ _ _ _ _) ?_
   intro u28 hb hc hs
   have HW:=Ag (show Blk u28 u0.heap.size 43 (pmC o pe (.slice ao1 rl cp1) (.slice ao2 ql cp2) (.slice ao3 gl cp3))∧PmS u28 ⟨o,pe,pr,pq,pg⟩ (.slice ao1 rl cp1) (.slice ao2 ql cp2) (.slice ao3 gl cp3)∧Off u0.heap.size (.slice ao1 rl cp1) (.slice ao2 ql cp2) (.slice ao3 gl cp3)∧w.heap.size≤u0.heap.size∧Below w.heap.size w u28∧Blk u28 w1.heap.size 43 (pmC 0 0 (.slice none 0 0) (.slice none 0 0) (.slice none 0 0))∧BD w3.heap.size (.slice ao1 rl cp1) (.slice ao2 ql cp2) (.slice ao3 gl cp3)∧w3.heap.size≤u28.heap.size from⟨hb,⟨Sl.of_owns (A9 HU26.out.2.2.2.2.2.2.2.2.2.1 hc (fun k hk e=> HU26.out.2.2.2.2.2.2.2.2.2.2.2.1 k hk e)),Sl.of_owns (A9 HU26.out.2.2.2.2.2.2.2.2.2.2.2.2.1 hc (fun k hk e=> HU26.out.2.2.2.2.2.2.2.2.2.2.2.2.2.2.1 k hk e)),Sl.of_owns (A9 HU26.out.2.2.2.2.2.2.2.2.2.2.2.2.2.2.2.1 hc (fun k hk e=> HU26.out.2.2.2.2.2.2.2.2.2.2.2.2.2.2.2.2.2 k hk e))⟩,⟨HU26.out.2.2.2.2.2.2.2.2.2.2.2.1,HU26.out.2.2.2.2.2.2.2.2.2.2.2.2.2.2.1,HU26.out.2.2.2.2.2.2.2.2.2.2.2.2.2.2.2.2.2⟩,HU26.out.2.2.2.2.2.2.1,Aw HU26.out.2.2.2.1 hc (Ah _) (fun k hk=> by have e:k=u0.heap.size:=hk;have:=HU26.out.2.2.2.2.2.2.1;omega),HU26.out.2.1.keep hc (fun e=> by have e:w1.heap.size=u0.heap.size:=e;have:=HU26.out.2.2.2.2.2.2.2.1;omega),⟨fun k hk=> Aj HU26.out.2.2.2.2.2.2.2.2.2.2.1 (HU26.out.2.2.2.2.2.2.2.2.2.1.lt k hk).1,fun k hk=> Aj HU26.out.2.2.2.2.2.2.2.2.2.2.2.2.2.1 (HU26.out.2.2.2.2.2.2.2.2.2.2.2.2.1.lt k hk).1,fun k hk=> Aj HU26.out.2.2.2.2.2.2.2.2.2.2.2.2.2.2.2.2.1 (HU26.out.2.2.2.2.2.2.2.2.2.2.2.2.2.2.2.1.lt k hk).1⟩,Aj HU26.out.2.2.2.2.1.size hc.size⟩)
   have HWG:=Ag (show w1.heap.size≠u0.heap.size from by have:=HU26.out.2.2.2.2.2.2.2.1;omega)
   have HK:=Ag (show u28.cell? ⟨w.heap.size,0,none⟩=some (.int .i64 o)∧u28.cell? ⟨w.heap.size,1,none⟩=some (.int .i64 pe)∧u28.cell? ⟨w.heap.size,2,none⟩=some (.slice ra rl rc)∧u28.cell? ⟨w.heap.size,3,none⟩=some (.slice qa ql qc)∧u28.cell? ⟨w.heap.size,4,none⟩=some (.slice ga gl gc) from by have hk:=HU26.out.1.keep hc (fun e=> by have e:w.heap.size=u0.heap.size:=e;have:=HU26.out.2.2.2.2.2.2.2.2.1;omega);exact⟨hk.cell 0,hk.cell 1,hk.cell 2,hk.cell 3,hk.cell 4⟩)
   clear hb hc hs
   simp only[Al,Ad,Ae,Af]
   refine QK.normal ⟨HK.out,?_⟩
   clear HK
   refine wpAnyH_done (by kernel_rfl) ?_ _
   refine NoPanic.normal ?_
   go_wp2_with fail
   refine(HS.out HB.out u28 u0.heap.size w3.heap.size _ _ _ HW.out.2.2.2.2.1 HW.out.2.2.2.1 HW.out.2.2.2.2.2.2.2 HW.out.2.2.2.2.2.2.1 HW.out.1 HW.out.2.1 HW.out.2.2.1).mono ?_
   rintro e u29 ⟨rfl,xr,xq,xg,hb,hs,hc,hab⟩
   obtain⟨xa,xc,rfl,-⟩:=hs.1.shape
   obtain⟨ya,yc,rfl,-⟩:=hs.2.1.shape
   obtain⟨za,zc,rfl,-⟩:=hs.2.2.shape
   generalize (ofK .i64 r.2.r).length=xl at hb hs hab
   generalize (ofK .i64 r.2.q).length=yl at hb hs hab
   generalize (ofK .i64 r.2.g).length=zl at hb hs hab
   have HV:=hJ4 hb hs (HW.out.2.2.2.2.2.1.keep hc (fun e=> HWG.out e)) (Aw HW.out.2.2.2.2.1 hc (Ah _) (fun k hk=> by have e:k=u0.heap.size:=hk;have:=HW.out.2.2.2.1;omega))
   have HVN:=Ag (show Off w1.heap.size (.slice xa xl xc) (.slice ya yl yc) (.slice za zl zc) from⟨fun k hk e=> by have:=hab.1 k hk;have:=HSZ.out;omega,fun k hk e=> by have:=hab.2.1 k hk;have:=HSZ.out;omega,fun k hk e=> by have:=hab.2.2 k hk;have:=HSZ.out;omega⟩)
   have HAB:=Ag (hab.mono H3.out.2.size)
   clear hb hs hc hab
   by_cases h0:r.1=0
   ·have HRQ:=Ag (show R=(r.2,0) from by rw[HRE.out,if_pos h0])
    rw[h0]
    clear h0
    go_wp2_with (first
  | (with_reducible refine Ap rfl 43 (.tmp 6) rfl u0.heap.size 0 rfl (pmC r.2.o r.2.e (.slice xa xl xc) (.slice ya yl yc) (.slice za zl zc)) _ (As HV.out.1) Tryz.underlying43 rfl (Ay _ _ _ _ _) ?_)
  | ((with_reducible refine Ao u29 rfl 43 (.tmp 4) (.tmp 32) rfl w1.heap.size 43 (pmC 0 0 (.slice none 0 0) (.slice none 0 0) (.slice none 0 0)) ((pmC r.2.o r.2.e (.slice xa xl xc) (.slice ya yl yc) (.slice za zl zc))) HV.out.2.2.1 rfl rfl rfl (Ay _ _ _ _ _) (Bn _ _ _ _ _ _ _ _ _ _ _) ?_);intro w9 hb hc hs;have H9:=hJ3 hb hc (Aw HV.out.2.2.2 hc (Ah _) (fun k hk=> by have e:k=w1.heap.size:=hk;have:=H1.out.2.size;omega));clear hb hc hs))
    refine bodyPost_ret (AQ Tryz.results105 _ _ w1.heap.size _ _ rfl H9.out.1 _ Tryz.underlying43 rfl (Ay _ _ _ _ _) _ rfl) rfl ?_
    rw[HRQ.out]
    exact⟨_,_,_,rfl,HV.out.2.1.ch H9.out.2.1 HVN.out,H9.out.2.2,HAB.out⟩
   ·have HRQ:=Ag (show R=(noP,r.1) from by rw[HRE.out,if_neg h0])
    have hk1:(r.1==0)=false:=by simpa using h0
    have hk2:(r.1 !=0)=true:=by simpa using h0
    generalize r.1=k at hk1 hk2 HRQ ⊢
    clear h0
    go_wp2_with (first
  | ((with_reducible refine Bh rfl rfl ?_))
  | ((with_reducible refine Ao u29 rfl 43 (.tmp 4) (.tmp 30) rfl w1.heap.size 43 (pmC 0 0 (.slice none 0 0) (.slice none 0 0) (.slice none 0 0)) (pmC 0 0 (.slice none 0 0) (.slice none 0 0) (.slice none 0 0)) HV.out.2.2.1 rfl rfl rfl (Ay _ _ _ _ _) (Bn _ _ _ _ _ _ _ _ _ _ _) ?_);intro w9 hb hc hs;have H9:=hJ3 hb hc (Aw HV.out.2.2.2 hc (Ah _) (fun k hk=> by have e:k=w1.heap.size:=hk;have:=H1.out.2.size;omega));clear hb hc hs))
    refine bodyPost_ret (AQ Tryz.results105 _ _ w1.heap.size _ _ rfl H9.out.1 _ Tryz.underlying43 rfl (Ay _ _ _ _ _) _ rfl) rfl ?_
    rw[HRQ.out]
    exact⟨_,_,_,rfl,PmS.nil _,H9.out.2.2,BD.nil _⟩
end Go.Proofs.YtgdlfiphihaooaaGreat

import Derived.Test.YtgdlfiphihaooaaGreatYs4
import Derived.RangeFuncNested
import Derived.RangeFuncBound
import Derived.RangeFuncCalls
import Derived.RangeFuncLeaves
import Derived.Shelf.Abstract
import Derived.Shelf.RegionOpen
import Derived.OwnWalkIn
import Derived.TacticsInMore
import Derived.LoopNIn
import Derived.LoopIn
import Derived.Test.YtgdlfiphihaooaaGreatRows
import Derived.ProofKit
import Derived.OpenShut
import Derived.ShutString
import Derived.ChangeOld
import Derived.Below
import Derived.SizedLaws
import Derived.Deep.SlicePairs
import Derived.Deep.Slices
import Derived.Deep.Grids
import Derived.Deep.Fields
import Derived.Laws.RangeAny
import Derived.Deep.Cut
import Derived.Deep.CutBlock
import Derived.Deep.LoopGhost
set_option linter.unusedSimpArgs false
set_option linter.unusedVariables false
set_option maxRecDepth 100000
set_option maxHeartbeats 8000000
open _root_.List renaming getElem?_toArray→Aa,getElem?_cons_zero→Ab,getElem?_cons_succ→Ac,setIfInBounds_toArray→Ad,set_cons_zero→Ae,set_cons_succ→Af
open _root_.Go.Lib renaming hid→Ag
open _root_.Nat renaming le_refl→Ah,le_trans→Aj,lt_of_lt_of_le→Ak
open _root_.And renaming intro→Ai
open _root_.Go.Act renaming put→Al
namespace Go.Proofs.YtgdlfiphihaooaaGreat
open Go Go.RowKit Go.Sort
theorem Hg {l k:List Int} {i:Nat} (h:l.take i=k.take i) (hl:i<l.length) (hk:i<k.length) (h2:l[i]=k[i]):l.take (i+1)=k.take (i+1):=by
 rw[List.take_succ_eq_append_getElem hl,List.take_succ_eq_append_getElem hk,h,h2]
theorem D8 (v1 v2:Value) (l k:List Int) (w:World) (h1:Sl w v1 (ofK .i64 l)) (h2:Sl w v2 (ofK .i64 k)):
  Calls Tryz.prog 44 #[v1,v2] w (fun e w'=> e=.returned (.bool (decide (l=k)))∧Sm w w'):=by
 obtain⟨ao,c,rfl,a2,a3,a4⟩:=h1.nums
 obtain⟨bo,d,rfl,b2,b3,b4⟩:=h2.nums
 have H:=Ag (Ai a4 b4)
 obtain⟨L,hL⟩:∃ L,l.length=L:=⟨_,rfl⟩
 obtain⟨M,hM⟩:∃ M,k.length=M:=⟨_,rfl⟩
 obtain⟨R,hR⟩:∃ R,decide (l=k)=R:=⟨_,rfl⟩
 have HL:=Ag (Ai hL (Ai hM hR))
 rw[hL] at a2 ⊢
 rw[hM] at b2 ⊢
 rw[hR]
 clear h1 h2 a4 b4 hL hM hR
 by_cases hlm:L=M
 ·subst hlm
  go_enter Tryz.func44,Tryz.ntmps44
  go_wp2_with fail
  go_loopw [5,13] (fun u5 i wr=> ∃ j:Nat,j≤L∧i=.int .i64 j∧Hid (l.take j=k.take j∧Sm w wr)) (fun _ i _=> L - (intOf i).toNat)
  case atStart=> exact⟨0,Nat.zero_le _,rfl,Ag ⟨by simp,Sm.refl _⟩⟩
  case round=>
   obtain⟨j,hj,rfl,HT⟩:=hrel
   by_cases hlt:j<L
   ·have hjl:j<l.length:=by rw[HL.out.1];exact hlt
    have hjk:j<k.length:=by rw[HL.out.2.1];exact hlt
    have hjz:(j:Int)<(L:Int):=by omega
    have hj0:(0:Int)≤(j:Int):=by omega
    obtain⟨b,o,rfl,-,hc1⟩:=H.out.1 (by omega)
    obtain⟨b',o',rfl,-,hc2⟩:=H.out.2 (by omega)
    have c1:wr.cell? ⟨b,o+j,none⟩=some (.int .i64 l[j]):=(HT.out.2.cell _).trans (hc1 j hjl)
    have c2:wr.cell? ⟨b',o'+j,none⟩=some (.int .i64 k[j]):=(HT.out.2.cell _).trans (hc2 j hjk)
    have hno:l[j]≠k[j]→R=false:=fun h=> by
     rw[←HL.out.2.2,decide_eq_false]
     rintro rfl;exact h rfl
    have hyes:=fun h=> Hg HT.out.1 hjl hjk h
    generalize l[j]=x at c1 hno hyes
    generalize k[j]=y at c2 hno hyes
    have HN:=Ag hno
    have HY:=Ag hyes
    clear hc1 hc2 hno hyes hjl hjk
    by_cases e:x=y
    ·have e':(x !=y)=false:=by simpa using e
     have HA:=Ag (HY.out e)
     clear e
     go_wp2_with fail
     go_quiet (fail)
     rename_i nq
     clear c1 c2
     go_wp2_with fail
     go_roundw
     case rel=> exact⟨j+1,by omega,by go_num,Ag ⟨HA.out,HT.out.2.drewN _⟩⟩
     case measure=> simp[intOf];omega
    ·have e':(x !=y)=true:=by simpa using e
     have HA:=Ag (HN.out e)
     clear e
     go_wp2_with fail
     go_quiet (fail)
     rename_i nq
     clear c1 c2
     go_wp2_with fail
     go_ret
     exact⟨by rw[HA.out];rfl,HT.out.2.drewN _⟩
   ·have hge:¬ (j:Int)<(L:Int):=by omega
    have HRR:=Ag (show R=true by
     have:=HT.out.1
     rw[List.take_of_length_le (by rw[HL.out.1];omega),List.take_of_length_le (by rw[HL.out.2.1];omega)] at this
     rw[←HL.out.2.2,decide_eq_true this])
    go_wp2_with fail
    go_ret
    exact⟨by rw[HRR.out];rfl,HT.out.2⟩
 ·have hne:((L:Int) !=(M:Int))=true:=by simp;omega
  have HRR:=Ag (show R=false by
   rw[←HL.out.2.2,decide_eq_false]
   rintro rfl
   exact hlm (HL.out.1.symm.trans HL.out.2.1))
  clear hlm
  go_enter Tryz.func44,Tryz.ntmps44
  go_wp2_with fail
  go_ret
  exact⟨by rw[HRR.out];rfl,Sm.refl _⟩
def Hh (p q:PmD):Bool:=decide (p.o=q.o) && (decide (p.e=q.e) && (decide (p.r=q.r) && (decide (p.q=q.q) && decide (p.g=q.g))))
theorem I1 (p q:PmD):Hh p q=true↔p=q:=by
 obtain⟨a,b,c,d,e⟩:=p
 obtain⟨a',b',c',d',e'⟩:=q
 unfold Hh
 simp only[Bool.and_eq_true,decide_eq_true_eq,PmD.mk.injEq]
theorem JW (p q:PmD) (vr vq vg ur uq ug:Value) (w:World) (h1:PmS w p vr vq vg) (h2:PmS w q ur uq ug):
  Calls Tryz.prog 42 #[.agg (pmC p.o p.e vr vq vg).toArray,.agg (pmC q.o q.e ur uq ug).toArray] w (fun e w'=> e=.returned (.bool (Hh p q))∧Below w.heap.size w w'):=by
 have HS:=Ag (Ai h1 h2)
 obtain⟨F,hF⟩:∃ F,Hh p q=F:=⟨_,rfl⟩
 have HF:=Ag hF
 rw[hF]
 obtain⟨ra,rc,rfl,-⟩:=h1.1.nums
 obtain⟨qa,qc,rfl,-⟩:=h1.2.1.nums
 obtain⟨ga,gc,rfl,-⟩:=h1.2.2.nums
 obtain⟨xa,xc,rfl,-⟩:=h2.1.nums
 obtain⟨ya,yc,rfl,-⟩:=h2.2.1.nums
 obtain⟨za,zc,rfl,-⟩:=h2.2.2.nums
 obtain⟨o,pe,r,q1,g⟩:=p
 obtain⟨o2,pe2,r2,q2,g2⟩:=q
 obtain⟨c0,h0⟩:∃ c,decide (r=r2)=c:=⟨_,rfl⟩
 obtain⟨c1,h3⟩:∃ c,decide (q1=q2)=c:=⟨_,rfl⟩
 obtain⟨c2,h4⟩:∃ c,decide (g=g2)=c:=⟨_,rfl⟩
 have HB:=Ag (Ai h0 (Ai h3 h4))
 simp only at HS ⊢
 obtain⟨rl,e1⟩:∃ n,r.length=n:=⟨_,rfl⟩
 obtain⟨ql,e2⟩:∃ n,q1.length=n:=⟨_,rfl⟩
 obtain⟨gl,e3⟩:∃ n,g.length=n:=⟨_,rfl⟩
 obtain⟨xl,e4⟩:∃ n,r2.length=n:=⟨_,rfl⟩
 obtain⟨yl,e5⟩:∃ n,q2.length=n:=⟨_,rfl⟩
 obtain⟨zl,e6⟩:∃ n,g2.length=n:=⟨_,rfl⟩
 rw[e1,e2,e3,e4,e5,e6] at HS ⊢
 have hF2:F=(decide (o=o2) && (decide (pe=pe2) && (c0 && (c1 && c2)))):=by rw[←hF,←h0,←h3,←h4];rfl
 clear h1 h2 hF HF h0 h3 h4 e1 e2 e3 e4 e5 e6
 by_cases ho:o=o2
 ·subst ho
  by_cases he:pe=pe2
  ·subst he
   rw[decide_eq_true rfl,decide_eq_true rfl,Bool.true_and,Bool.true_and] at hF2
   have HF:=Ag hF2
   clear hF2
   go_enter Tryz.func42,Tryz.ntmps42
   go_wp2_with (first
  | ((with_reducible refine Au w rfl 43 (.tmp 0) rfl (pmC o pe (.slice ra rl rc) (.slice qa ql qc) (.slice ga gl gc)) rfl ?_);intro w1 hb hbel hsz;have H1:=hJ2 hb hbel;clear hb hbel hsz)
  | ((with_reducible refine Au w1 rfl 43 (.tmp 1) rfl (pmC o pe (.slice xa xl xc) (.slice ya yl yc) (.slice za zl zc)) rfl ?_);intro w2 hb hbel hsz;have H2a:=hJ3 (H1.out.1.below hbel H1.out.1.lt) (An H1.out.2 hbel (Ah _)) hb;clear hb hbel hsz;have H2:=Ag (show Blk w2 w.heap.size 43 (pmC o pe (.slice ra rl rc) (.slice qa ql qc) (.slice ga gl gc))∧Blk w2 w1.heap.size 43 (pmC o pe (.slice xa xl xc) (.slice ya yl yc) (.slice za zl zc))∧Sl w2 (.slice ra rl rc) (ofK .i64 r)∧Sl w2 (.slice xa xl xc) (ofK .i64 r2)∧Sl w2 (.slice qa ql qc) (ofK .i64 q1)∧Sl w2 (.slice ya yl yc) (ofK .i64 q2)∧Sl w2 (.slice ga gl gc) (ofK .i64 g)∧Sl w2 (.slice za zl zc) (ofK .i64 g2)∧Below w.heap.size w w2 from⟨H2a.out.1,H2a.out.2.2,HS.out.1.1.below H2a.out.2.1 (Ah _),HS.out.2.1.below H2a.out.2.1 (Ah _),HS.out.1.2.1.below H2a.out.2.1 (Ah _),HS.out.2.2.1.below H2a.out.2.1 (Ah _),HS.out.1.2.2.below H2a.out.2.1 (Ah _),HS.out.2.2.2.below H2a.out.2.1 (Ah _),H2a.out.2.1⟩);have a0:=H2.out.1.cell 0;have b0:=H2.out.2.1.cell 0;have a1:=H2.out.1.cell 1;have b1:=H2.out.2.1.cell 1;simp only[pmC,Ab,Ac] at a0 b0 a1 b1;have a2:=H2.out.1.cell 2;have b2:=H2.out.2.1.cell 2;have a3:=H2.out.1.cell 3;have b3:=H2.out.2.1.cell 3;have a4:=H2.out.1.cell 4;have b4:=H2.out.2.1.cell 4;simp only[pmC,Ab,Ac] at a2 b2 a3 b3 a4 b4))
   clear a0 b0 a1 b1 a2 b2 a3 b3 a4 b4
   have a0:=H2.out.1.cell 0
   have b0:=H2.out.2.1.cell 0
   have a1:=H2.out.1.cell 1
   have b1:=H2.out.2.1.cell 1
   have a2:=H2.out.1.cell 2
   have b2:=H2.out.2.1.cell 2
   have a3:=H2.out.1.cell 3
   have b3:=H2.out.2.1.cell 3
   have a4:=H2.out.1.cell 4
   have b4:=H2.out.2.1.cell 4
   simp only[pmC,Ab,Ac] at a0 a1 a2 a3 a4 b0 b1 b2 b3 b4
   go_wp2_with fail
   refine(D8 _ _ _ _ w2 H2.out.2.2.1 H2.out.2.2.2.1).mono ?_
   rw[HB.out.1]
   rintro e' y1 ⟨rfl,sm⟩
   have HY2:=hJ9 (H2.out.1.below (sm.below _) H2.out.1.lt) (H2.out.2.1.below (sm.below _) H2.out.2.1.lt) (H2.out.2.2.1.below (sm.below _) (Ah _)) (H2.out.2.2.2.1.below (sm.below _) (Ah _)) (H2.out.2.2.2.2.1.below (sm.below _) (Ah _)) (H2.out.2.2.2.2.2.1.below (sm.below _) (Ah _)) (H2.out.2.2.2.2.2.2.1.below (sm.below _) (Ah _)) (H2.out.2.2.2.2.2.2.2.1.below (sm.below _) (Ah _)) (An H2.out.2.2.2.2.2.2.2.2 (sm.below _) (Ah _))
   clear sm a0 b0 a1 b1 a2 b2 a3 b3 a4 b4
   cases c0
   ·skip
    have a0:=HY2.out.1.cell 0
    have b0:=HY2.out.2.1.cell 0
    have a1:=HY2.out.1.cell 1
    have b1:=HY2.out.2.1.cell 1
    have a2:=HY2.out.1.cell 2
    have b2:=HY2.out.2.1.cell 2
    have a3:=HY2.out.1.cell 3
    have b3:=HY2.out.2.1.cell 3
    have a4:=HY2.out.1.cell 4
    have b4:=HY2.out.2.1.cell 4
    simp only[pmC,Ab,Ac] at a0 a1 a2 a3 a4 b0 b1 b2 b3 b4
    go_wp2_with fail
    go_ret
    exact⟨by rw[HF.out];simp,HY2.out.2.2.2.2.2.2.2.2⟩
   ·skip
    have a0:=HY2.out.1.cell 0
    have b0:=HY2.out.2.1.cell 0
    have a1:=HY2.out.1.cell 1
    have b1:=HY2.out.2.1.cell 1
    have a2:=HY2.out.1.cell 2
    have b2:=HY2.out.2.1.cell 2
    have a3:=HY2.out.1.cell 3
    have b3:=HY2.out.2.1.cell 3
    have a4:=HY2.out.1.cell 4
    have b4:=HY2.out.2.1.cell 4
    simp only[pmC,Ab,Ac] at a0 a1 a2 a3 a4 b0 b1 b2 b3 b4
    go_wp2_with fail
    refine(D8 _ _ _ _ y1 HY2.out.2.2.2.2.1 HY2.out.2.2.2.2.2.1).mono ?_
    rw[HB.out.2.1]
    rintro e' y3 ⟨rfl,sm⟩
    have HY4:=hJ9 (HY2.out.1.below (sm.below _) HY2.out.1.lt) (HY2.out.2.1.below (sm.below _) HY2.out.2.1.lt) (HY2.out.2.2.1.below (sm.below _) (Ah _)) (HY2.out.2.2.2.1.below (sm.below _) (Ah _)) (HY2.out.2.2.2.2.1.below (sm.below _) (Ah _)) (HY2.out.2.2.2.2.2.1.below (sm.below _) (Ah _)) (HY2.out.2.2.2.2.2.2.1.below (sm.below _) (Ah _)) (HY2.out.2.2.2.2.2.2.2.1.below (sm.below _) (Ah _)) (An HY2.out.2.2.2.2.2.2.2.2 (sm.below _) (Ah _))
    clear sm a0 b0 a1 b1 a2 b2 a3 b3 a4 b4
    cases c1
    ·skip
     have a0:=HY4.out.1.cell 0
     have b0:=HY4.out.2.1.cell 0
     have a1:=HY4.out.1.cell 1
     have b1:=HY4.out.2.1.cell 1
     have a2:=HY4.out.1.cell 2
     have b2:=HY4.out.2.1.cell 2
     have a3:=HY4.out.1.cell 3
     have b3:=HY4.out.2.1.cell 3
     have a4:=HY4.out.1.cell 4
     have b4:=HY4.out.2.1.cell 4
     simp only[pmC,Ab,Ac] at a0 a1 a2 a3 a4 b0 b1 b2 b3 b4
     go_wp2_with fail
     go_ret
     exact⟨by rw[HF.out];simp,HY4.out.2.2.2.2.2.2.2.2⟩
    ·skip
     have a0:=HY4.out.1.cell 0
     have b0:=HY4.out.2.1.cell 0
     have a1:=HY4.out.1.cell 1
     have b1:=HY4.out.2.1.cell 1
     have a2:=HY4.out.1.cell 2
     have b2:=HY4.out.2.1.cell 2
     have a3:=HY4.out.1.cell 3
     have b3:=HY4.out.2.1.cell 3
     have a4:=HY4.out.1.cell 4
     have b4:=HY4.out.2.1.cell 4
     simp only[pmC,Ab,Ac] at a0 a1 a2 a3 a4 b0 b1 b2 b3 b4
     go_wp2_with fail
     refine(D8 _ _ _ _ y3 HY4.out.2.2.2.2.2.2.1 HY4.out.2.2.2.2.2.2.2.1).mono ?_
     rw[HB.out.2.2]
     rintro e' y5 ⟨rfl,sm⟩
     have HY6:=hJ9 (HY4.out.1.below (sm.below _) HY4.out.1.lt) (HY4.out.2.1.below (sm.below _) HY4.out.2.1.lt) (HY4.out.2.2.1.below (sm.below _) (Ah _)) (HY4.out.2.2.2.1.below (sm.below _) (Ah _)) (HY4.out.2.2.2.2.1.below (sm.below _) (Ah _)) (HY4.out.2.2.2.2.2.1.below (sm.below _) (Ah _)) (HY4.out.2.2.2.2.2.2.1.below (sm.below _) (Ah _)) (HY4.out.2.2.2.2.2.2.2.1.below (sm.below _) (Ah _)) (An HY4.out.2.2.2.2.2.2.2.2 (sm.below _) (Ah _))
     clear sm a0 b0 a1 b1 a2 b2 a3 b3 a4 b4
     cases c2
     ·skip
      have a0:=HY6.out.1.cell 0
      have b0:=HY6.out.2.1.cell 0
      have a1:=HY6.out.1.cell 1
      have b1:=HY6.out.2.1.cell 1
      have a2:=HY6.out.1.cell 2
      have b2:=HY6.out.2.1.cell 2
      have a3:=HY6.out.1.cell 3
      have b3:=HY6.out.2.1.cell 3
      have a4:=HY6.out.1.cell 4
      have b4:=HY6.out.2.1.cell 4
      simp only[pmC,Ab,Ac] at a0 a1 a2 a3 a4 b0 b1 b2 b3 b4
      go_wp2_with fail
      go_ret
      exact⟨by rw[HF.out];simp,HY6.out.2.2.2.2.2.2.2.2⟩
     ·skip
      have a0:=HY6.out.1.cell 0
      have b0:=HY6.out.2.1.cell 0
      have a1:=HY6.out.1.cell 1
      have b1:=HY6.out.2.1.cell 1
      have a2:=HY6.out.1.cell 2
      have b2:=HY6.out.2.1.cell 2
      have a3:=HY6.out.1.cell 3
      have b3:=HY6.out.2.1.cell 3
      have a4:=HY6.out.1.cell 4
      have b4:=HY6.out.2.1.cell 4
      simp only[pmC,Ab,Ac] at a0 a1 a2 a3 a4 b0 b1 b2 b3 b4
      go_wp2_with fail
      go_ret
      exact⟨by rw[HF.out];simp,HY6.out.2.2.2.2.2.2.2.2⟩
  ·have he2:(pe==pe2)=false:=by simpa using he
   rw[decide_eq_false he,Bool.false_and,Bool.and_false] at hF2
   have HF:=Ag hF2
   clear hF2 he
   go_enter Tryz.func42,Tryz.ntmps42
   go_wp2_with (first
  | ((with_reducible refine Au w rfl 43 (.tmp 0) rfl (pmC o pe (.slice ra rl rc) (.slice qa ql qc) (.slice ga gl gc)) rfl ?_);intro w1 hb hbel hsz;have H1:=hJ2 hb hbel;clear hb hbel hsz)
  | ((with_reducible refine Au w1 rfl 43 (.tmp 1) rfl (pmC o pe2 (.slice xa xl xc) (.slice ya yl yc) (.slice za zl zc)) rfl ?_);intro w2 hb hbel hsz;have H2a:=hJ3 (H1.out.1.below hbel H1.out.1.lt) (An H1.out.2 hbel (Ah _)) hb;clear hb hbel hsz;have H2:=Ag (show Blk w2 w.heap.size 43 (pmC o pe (.slice ra rl rc) (.slice qa ql qc) (.slice ga gl gc))∧Blk w2 w1.heap.size 43 (pmC o pe2 (.slice xa xl xc) (.slice ya yl yc) (.slice za zl zc))∧Sl w2 (.slice ra rl rc) (ofK .i64 r)∧Sl w2 (.slice xa xl xc) (ofK .i64 r2)∧Sl w2 (.slice qa ql qc) (ofK .i64 q1)∧Sl w2 (.slice ya yl yc) (ofK .i64 q2)∧Sl w2 (.slice ga gl gc) (ofK .i64 g)∧Sl w2 (.slice za zl zc) (ofK .i64 g2)∧Below w.heap.size w w2 from⟨H2a.out.1,H2a.out.2.2,HS.out.1.1.below H2a.out.2.1 (Ah _),HS.out.2.1.below H2a.out.2.1 (Ah _),HS.out.1.2.1.below H2a.out.2.1 (Ah _),HS.out.2.2.1.below H2a.out.2.1 (Ah _),HS.out.1.2.2.below H2a.out.2.1 (Ah _),HS.out.2.2.2.below H2a.out.2.1 (Ah _),H2a.out.2.1⟩);have a0:=H2.out.1.cell 0;have b0:=H2.out.2.1.cell 0;have a1:=H2.out.1.cell 1;have b1:=H2.out.2.1.cell 1;simp only[pmC,Ab,Ac] at a0 b0 a1 b1;have a2:=H2.out.1.cell 2;have b2:=H2.out.2.1.cell 2;have a3:=H2.out.1.cell 3;have b3:=H2.out.2.1.cell 3;have a4:=H2.out.1.cell 4;have b4:=H2.out.2.1.cell 4;simp only[pmC,Ab,Ac] at a2 b2 a3 b3 a4 b4))
   go_ret
   exact⟨by rw[HF.out];rfl,H2.out.2.2.2.2.2.2.2.2⟩
 ·have ho2:(o==o2)=false:=by simpa using ho
  rw[decide_eq_false ho,Bool.false_and] at hF2
  have HF:=Ag hF2
  clear hF2 ho
  go_enter Tryz.func42,Tryz.ntmps42
  go_wp2_with (first
  | ((with_reducible refine Au w rfl 43 (.tmp 0) rfl (pmC o pe (.slice ra rl rc) (.slice qa ql qc) (.slice ga gl gc)) rfl ?_);intro w1 hb hbel hsz;have H1:=hJ2 hb hbel;clear hb hbel hsz)
  | ((with_reducible refine Au w1 rfl 43 (.tmp 1) rfl (pmC o2 pe2 (.slice xa xl xc) (.slice ya yl yc) (.slice za zl zc)) rfl ?_);intro w2 hb hbel hsz;have H2a:=hJ3 (H1.out.1.below hbel H1.out.1.lt) (An H1.out.2 hbel (Ah _)) hb;clear hb hbel hsz;have H2:=Ag (show Blk w2 w.heap.size 43 (pmC o pe (.slice ra rl rc) (.slice qa ql qc) (.slice ga gl gc))∧Blk w2 w1.heap.size 43 (pmC o2 pe2 (.slice xa xl xc) (.slice ya yl yc) (.slice za zl zc))∧Sl w2 (.slice ra rl rc) (ofK .i64 r)∧Sl w2 (.slice xa xl xc) (ofK .i64 r2)∧Sl w2 (.slice qa ql qc) (ofK .i64 q1)∧Sl w2 (.slice ya yl yc) (ofK .i64 q2)∧Sl w2 (.slice ga gl gc) (ofK .i64 g)∧Sl w2 (.slice za zl zc) (ofK .i64 g2)∧Below w.heap.size w w2 from⟨H2a.out.1,H2a.out.2.2,HS.out.1.1.below H2a.out.2.1 (Ah _),HS.out.2.1.below H2a.out.2.1 (Ah _),HS.out.1.2.1.below H2a.out.2.1 (Ah _),HS.out.2.2.1.below H2a.out.2.1 (Ah _),HS.out.1.2.2.below H2a.out.2.1 (Ah _),HS.out.2.2.2.below H2a.out.2.1 (Ah _),H2a.out.2.1⟩);have a0:=H2.out.1.cell 0;have b0:=H2.out.2.1.cell 0;have a1:=H2.out.1.cell 1;have b1:=H2.out.2.1.cell 1;simp only[pmC,Ab,Ac] at a0 b0 a1 b1;have a2:=H2.out.1.cell 2;have b2:=H2.out.2.1.cell 2;have a3:=H2.out.1.cell 3;have b3:=H2.out.2.1.cell 3;have a4:=H2.out.1.cell 4;have b4:=H2.out.2.1.cell 4;simp only[pmC,Ab,Ac] at a2 b2 a3 b3 a4 b4))
  go_ret
  exact⟨by rw[HF.out];rfl,H2.out.2.2.2.2.2.2.2.2⟩
def I2 (n:Int):PmD × Int:=if AX n=true then (⟨n,1,[],[],[]⟩,0) else (noP,2)
theorem Tryz.buildPm2 (o:Int):∀ w,(Instr.build 43 #[(0,.int .i64 o),(1,.int .i64 1)]).run Tryz.prog w=.ok (.agg (pmC o 1 (.slice none 0 0) (.slice none 0 0) (.slice none 0 0)).toArray) w:=fun w=> by kernel_rfl
theorem E9 {ops:Array Oper} {rest:List Oper} {op:Oper} {a:Act} {w:World} {Q:Exit→Act→World→Prop} (hgd:op.guard=none) (x0:Operand) (ho:op.op=.build 43 #[(0,x0),(1,.const (.int .i64 1))]) (o:Int) (h0:a.eval x0=.int .i64 o)
  (h:wpList Tryz.prog ops Q rest (a.put op.dst (.agg (pmC o 1 (.slice none 0 0) (.slice none 0 0) (.slice none 0 0)).toArray)) w):wpList Tryz.prog ops Q (op::rest) a w:=by
 refine wpList_plain hgd fun K hK=> ?_
 have hrun:(execOp a.eval op).run Tryz.prog w=.ok (.value (.agg (pmC o 1 (.slice none 0 0) (.slice none 0 0) (.slice none 0 0)).toArray)) w:=by
  unfold execOp
  simp only[ho]
  rw[show(#[((0:Nat),x0),(1,.const (.int .i64 1))].map fun (i,x)=> (i,a.eval x))=#[(0,.int .i64 o),(1,.int .i64 1)] by simp only[List.map_toArray,List.map_cons,List.map_nil,h0];rfl]
  simp[Tryz.buildPm2,Result.andThen]
 unfold Oper.wp
 rw[hrun]
 exact hK _ _ h
theorem Lt (n:Int) (w:World):Calls Tryz.prog 92 #[.int .i64 n] w (EF w (I2 n)):=by
 have HU:=Ag (Dr n)
 obtain⟨R,hR⟩:∃ R,I2 n=R:=⟨_,rfl⟩
 obtain⟨u,hu⟩:∃ u,AX n=u:=⟨_,rfl⟩
 have HR:=Ag (show R=if u=true then (⟨n,1,[],[],[]⟩,0) else (noP,2) by rw[←hR,←hu];rfl)
 rw[hR]
 rw[hu] at HU
 clear hR hu
 cases u
 ·have HE:=Ag (show R=(noP,2) from HR.out)
  go_enter Tryz.func92,Tryz.ntmps92
  go_wp2_with ((with_reducible refine Av w rfl 43 rfl (pmC 0 0 (.slice none 0 0) (.slice none 0 0) (.slice none 0 0)) Tryz.zeroPm ?_);intro w1 hb hbel hsz;have H1:=Ag (Ai hb hbel);clear hb hbel hsz)
  refine(HU.out w1).mono ?_
  rintro e w' ⟨rfl,rfl⟩
  go_wp2_with (first
  | ((with_reducible refine Bh rfl rfl ?_))
  | ((with_reducible refine Ao w1 rfl 43 (.tmp 2) (.tmp 7) rfl w.heap.size 43 (pmC 0 0 (.slice none 0 0) (.slice none 0 0) (.slice none 0 0)) (pmC 0 0 (.slice none 0 0) (.slice none 0 0) (.slice none 0 0)) H1.out.1 rfl rfl rfl (Ay _ _ _ _ _) (Bn _ _ _ _ _ _ _ _ _ _ _) ?_);intro w2 hb hc hs;have H2:=Ag (Ai hb hc);clear hb hc hs))
  rw[HE.out]
  refine bodyPost_ret (AQ Tryz.results92 _ _ w.heap.size _ _ rfl H2.out.1 _ Tryz.underlying43 rfl (Ay _ _ _ _ _) _ rfl) rfl ?_
  exact⟨_,_,_,rfl,⟨Sl.nil _,Sl.nil _,Sl.nil _⟩,Aw H1.out.2 H2.out.2 (Ah _) (fun k hk=> by have e:k=w.heap.size:=hk;omega),BD.nil _⟩
 ·have HE:=Ag (show R=(⟨n,1,[],[],[]⟩,0) from HR.out)
  go_enter Tryz.func92,Tryz.ntmps92
  go_wp2_with ((with_reducible refine Av w rfl 43 rfl (pmC 0 0 (.slice none 0 0) (.slice none 0 0) (.slice none 0 0)) Tryz.zeroPm ?_);intro w1 hb hbel hsz;have H1:=Ag (Ai hb hbel);clear hb hbel hsz)
  refine(HU.out w1).mono ?_
  rintro e w' ⟨rfl,rfl⟩
  go_wp2_with (first
  | ((with_reducible refine E9 rfl (.tmp 8) rfl n rfl ?_))
  | ((with_reducible refine Ao w1 rfl 43 (.tmp 2) (.tmp 9) rfl w.heap.size 43 (pmC 0 0 (.slice none 0 0) (.slice none 0 0) (.slice none 0 0)) (pmC n 1 (.slice none 0 0) (.slice none 0 0) (.slice none 0 0)) H1.out.1 rfl rfl rfl (Ay _ _ _ _ _) (Bn _ _ _ _ _ _ _ _ _ _ _) ?_);intro w2 hb hc hs;have H2:=Ag (Ai hb hc);clear hb hc hs))
  rw[HE.out]
  refine bodyPost_ret (AQ Tryz.results92 _ _ w.heap.size _ _ rfl H2.out.1 _ Tryz.underlying43 rfl (Ay _ _ _ _ _) _ rfl) rfl ?_
  exact⟨_,_,_,rfl,⟨Sl.nil _,Sl.nil _,Sl.nil _⟩,Aw H1.out.2 H2.out.2 (Ah _) (fun k hk=> by have e:k=w.heap.size:=hk;omega),BD.nil _⟩
def EG (p:PmD) (n:Int):Bool:=okB p && (n==p.o ||p.q.any (n==·))
theorem EH (p:PmD) (n:Int) (vr vq vg:Value) (w:World) (hp:PmS w p vr vq vg):
  Calls Tryz.prog 13 #[.agg (pmC p.o p.e vr vq vg).toArray,.int .i64 n] w (fun e w'=> e=.returned (.bool (EG p n))∧Below w.heap.size w w'):=by
 have HP:=Ag hp
 obtain⟨R,hR⟩:∃ R,EG p n=R:=⟨_,rfl⟩
 rw[hR]
 obtain⟨b,hb⟩:∃ b,okB p=b:=⟨_,rfl⟩
 have HB:=Ag hb
 have hR2:R=(b && (n==p.o ||p.q.any (n==·))):=by rw[←hR,←hb];rfl
 obtain⟨ra,rc,rfl,-⟩:=hp.1.nums
 obtain⟨qa,qc,rfl,-⟩:=hp.2.1.nums
 obtain⟨ga,gc,rfl,-⟩:=hp.2.2.nums
 obtain⟨o,pe,pr,pq,pg⟩:=p
 simp only at HP hb hR2 ⊢
 obtain⟨rl,e1⟩:∃ n,pr.length=n:=⟨_,rfl⟩
 obtain⟨ql,e2⟩:∃ n,pq.length=n:=⟨_,rfl⟩
 obtain⟨gl,e3⟩:∃ n,pg.length=n:=⟨_,rfl⟩
 have HLN:=hJ3 e1 e2 e3
 rw[e1,e2,e3] at HP ⊢
 obtain⟨m,hm⟩:∃ m,pq.any (n==·)=m:=⟨_,rfl⟩
 have HM:=Ag hm
 rw[hm] at hR2
 have HR:=Ag hR2
 have HBB:=Ag hb
 clear hp hR hR2 hb hm e1 e2 e3
 go_enter Tryz.func13,Tryz.ntmps13
 go_wp2_with (first
  | ((with_reducible refine Au w rfl 43 (.tmp 0) rfl (pmC o pe (.slice ra rl rc) (.slice qa ql qc) (.slice ga gl gc)) rfl ?_);intro w1 hb hbel hsz;have H1:=hJ3 hb (HP.out.below hbel) hbel;clear hb hbel hsz)
  | (with_reducible refine Ap rfl 43 (.tmp 2) rfl w.heap.size 0 rfl (pmC o pe (.slice ra rl rc) (.slice qa ql qc) (.slice ga gl gc)) _ (As H1.out.1) Tryz.underlying43 rfl (Ay _ _ _ _ _) ?_))
 have hck:=EC ⟨o,pe,pr,pq,pg⟩ b HBB.out _ _ _ w1 H1.out.2.1
 refine hck.mono ?_
 clear hck
 rintro e w2 ⟨rfl,hb2⟩
 have H2:=Ag (show Blk w2 w.heap.size 43 (pmC o pe (.slice ra rl rc) (.slice qa ql qc) (.slice ga gl gc))∧PmS w2 ⟨o,pe,pr,pq,pg⟩ (.slice ra rl rc) (.slice qa ql qc) (.slice ga gl gc)∧Below w.heap.size w w2 from⟨H1.out.1.below hb2 H1.out.1.lt,H1.out.2.1.below hb2,An H1.out.2.2 hb2 (Ah _)⟩)
 clear hb2
 cases b
 ·have HE:=Ag (show R=false from HR.out)
  go_wp2_with fail
  go_ret
  exact⟨by rw[HE.out];rfl,H2.out.2.2⟩
 ·have HE:=Ag (show R=(n==o ||m) from HR.out)
  have c0:=H2.out.1.cell 0
  have c3:=H2.out.1.cell 3
  simp only[pmC,Ab,Ac] at c0 c3
  obtain⟨z,hz⟩:∃ z,(n==o)=z:=⟨_,rfl⟩
  rw[hz] at HE
  have hcc:=AV n _ pq w2 H2.out.2.1.2.1
  rw[HM.out] at hcc
  have HCC:=Ag hcc
  clear hcc
  cases z
  ·go_wp2_with fail
   refine HCC.out.mono ?_
   rintro e w' ⟨rfl,rfl⟩
   go_wp2_with fail
   go_ret
   exact⟨by rw[HE.out];rfl,H2.out.2.2⟩
  ·go_wp2_with fail
   go_ret
   exact⟨by rw[HE.out];rfl,H2.out.2.2⟩
theorem AO {P:Program} {ops:Array Oper} {rest:List Oper} {op:Oper} {a:Act} {w:World} {Q:Exit→Act→World→Prop} (hgd:Region.wanted op (yielded ops a.tmps)=true) (ty:TypeId) (x:Operand) (ho:op.op=.load ty x)
  (b o:Nat) (hx:a.eval x=.pointer (some ⟨b,o,none⟩)) (cs:List Value) (d:TypeDesc) (hc:w.rangeAt b o cs)
  (hu:P.underlying ty=some d) (hd:d.isRow=true) (hi:(P.info? ty).map (·.size)=some cs.length)
  (h:wpList P ops Q rest (a.put op.dst (.agg cs.toArray)) w):wpList P ops Q (op::rest) a w:=
 wpList_step fun _ hK=> by rw[if_pos hgd];exact wp_load_mid ty x ho b o hx cs d hc hu hd hi (hK _ _ h)
theorem Lu {g B:Nat} {vr vq vg:Value} (h:BD B vr vq vg) (hg:g<B):Off g vr vq vg:=⟨fun k hk e=> by have:=h.1 k hk;omega,fun k hk e=> by have:=h.2.1 k hk;omega,fun k hk e=> by have:=h.2.2 k hk;omega⟩
theorem I3 {f:FuncId} {args:Array Value} {w:World} {p:PmD} {e:Int} (h:Calls Tryz.prog f args w (EF w (p,e))):
 Calls Tryz.prog f args w (fun en w'=> ∃ vr vq vg,en=.returned (.tuple #[.agg (pmC p.o p.e vr vq vg).toArray,.int .i64 e])∧PmS w' p vr vq vg∧Below w.heap.size w w'∧BD w.heap.size vr vq vg):=h
structure WideF (F:Fence):Prop where
 fn:∀ f,F.fn f
 dep:F.depth.isSome=false
 calls:∀ {n:Nat} {P:Program} {f:FuncId} {args:Array Value} {w:World} {R:Ending→World→Prop},Calls P f args w R→CallsIn F n P f args w R
 rows:∀ {n:Nat} {P:Program} {row:String} {args:Array Value} {w:World} {R:Value→World→Prop},Rows P row args w R→RowsIn F n P row args w R
theorem WideF.wide:WideF Fence.wide:=⟨fun _=> trivial,rfl,fun h=> callsIn_wide.2 h,fun h c cs _=> let ⟨v,w',r,s⟩:=h c cs;⟨v,w',r,stepsIn_wide.2 s⟩⟩
theorem WideF.round (l:Nat):WideF (Fence.wide.inRound l):=⟨fun _=> trivial,rfl,fun h=> CallsIn.inRound l (callsIn_wide.2 h),fun h=> WideF.wide.rows h⟩
def QN (K:Act→World→Prop):Exit→Act→World→Prop
 | .normal,a,w=> K a w
 | _,_,_=> False
theorem QN.normal {K:Act→World→Prop} {a:Act} {w:World} (h:K a w):QN K .normal a w:=h
theorem QN.noPanic {K:Act→World→Prop}:∀ c a a' w,QN K (.panic c) a' w→QN K (.panic c) a w:=fun _ _ _ _ h=> (h:False).elim
theorem QN.letsOut {K:Act→World→Prop}:¬ LetsOut (QN K):=fun ⟨_,_,h⟩=> h
section
variable {F:Fence} {n:Nat} {P:Program} {ops:Array Oper} {K:Act→World→Prop} {Q:Exit→Act→World→Prop}
theorem Jz (hF:WideF F) {o:Oper} (hd:∀ c,o.op≠.defer c) {N:Act→World→Prop} {a:Act} {w:World} (h:o.wp P a w N (QN K)):o.wpIn F n P a w N Q:=by
 refine⟨fun f _=> hF.fn f,?_⟩
 rw[Oper.semAt_plain F _ _ hd]
 unfold Oper.wp at h
 generalize (execOp a.eval o).run P w=r at h
 have hdep:F.depth.isSome=true→1≤n:=fun e=> by rw[hF.dep] at e;cases e
 cases r with
 | ok m w'=>
  cases m with
  | value v=> exact h
  | skip=> exact h
  | defer d=> exact h
  | enter f args=>
   refine⟨hdep,hF.calls (Calls.mono h ?_)⟩
   intro e w'' he
   cases e with
   | returned v=> exact he
   | panicked c=> exact(he:False).elim
   | outgrown=> exact(QN.letsOut he).elim
  | row row args=> exact⟨hdep,hF.rows h⟩
  | _=> exact(h:False).elim
 | halt x w'=>
  cases x <;> exact(h:False).elim
theorem CG (hF:WideF F) {o:Oper} {rest:List Oper} (hd:∀ c,o.op≠.defer c) {a:Act} {w:World} (h:wpList P ops (QN (wpListIn F n P ops Q rest)) [o] a w):wpListIn F n P ops Q (o::rest) a w:=by
 unfold wpList at h
 unfold wpListIn
 split at h
 ·rename_i hw
  rw[if_pos hw]
  refine Jz hF hd (K:=wpListIn F n P ops Q rest) (Oper.wp_mono (fun _ _ h=> h) (h.elim (fun h=> h) (fun h=> (QN.letsOut h.2).elim)))
 ·rename_i hw
  rw[if_neg hw]
  exact⟨fun f _=> hF.fn f,h⟩
theorem Dv {a:Act} {w:World} (h:K a w):wpList P ops (QN K) [] a w:=h
theorem Lv (hF:WideF F) (hd:∀ o∈ops.toList,∀ c,o.op≠.defer c) {i:Nat} {N N':Act→World→Prop} (hN:∀ a w,N a w→N' a w) {a:Act} {w:World} (h:wpOp P ops (QN K) i N a w):wpOpIn F n P ops Q i N' a w:=by
 unfold wpOp at h
 unfold wpOpIn
 cases ho:ops[i]? with
 | none=> rw[ho] at h;exact hN _ _ h
 | some o=>
  rw[ho] at h
  simp only at h ⊢
  split at h
  ·rename_i hw
   rw[if_pos hw]
   refine Jz hF (hd o (Array.mem_toList_iff.2 (Array.mem_of_getElem? ho))) (K:=K) (Oper.wp_mono hN (h.elim (fun h=> h) (fun h=> (QN.letsOut h.2).elim)))
  ·rename_i hw
   rw[if_neg hw]
   exact⟨fun f _=> hF.fn f,hN _ _ h⟩
theorem Ia (hF:WideF F) (hd:∀ o∈ops.toList,∀ c,o.op≠.defer c) (hQ:∀ a w,K a w→Q .normal a w) {md:Region.Mode}:∀ (fuel:Nat) (listed:Array Bool) (a:Act) (w:World),wpAny P md ops (QN K) fuel listed a w→wpAnyIn F n P md ops Q fuel listed a w
 | 0,_,_,_,h=> ⟨h.1,hQ _ _ h.2⟩
 | fuel+1,_,_,_,h=> ⟨fun e=> hQ _ _ (h.1 e),fun i hi=> Lv hF hd (fun a' w' h'=> Ia hF hd hQ fuel _ a' w' h') (h.2 i hi)⟩
end
section
variable {F:Fence} {n:Nat} {P:Program} {ops:Array Oper} {Q:Exit→Act→World→Prop} {rest:List Oper} {o:Oper} {a:Act}
theorem EI (hF:WideF F) (w:World) (hgd:o.guard=none) (ty:TypeId) (x:Operand) (ho:o.op=.load ty x)
  (b f:Nat) (hx:a.eval x=.pointer (some ⟨b,f,none⟩)) (cs:List Value) (d:TypeDesc) (hc:w.rangeAt b f cs)
  (hu:P.underlying ty=some d) (hd:d.isRow=true) (hi:(P.info? ty).map (·.size)=some cs.length)
  (h:wpListIn F n P ops Q rest (a.put o.dst (.agg cs.toArray)) w):wpListIn F n P ops Q (o::rest) a w:=
 CG hF (by rw[ho];intro c h;cases h) (Ap (by simp[Region.wanted,hgd]) ty x ho b f hx cs d hc hu hd hi (Dv h))
theorem D9 (hF:WideF F) (w:World) (hgd:o.guard=none) (t:TypeId) (ho:o.op=.alloc t) (zs:List Value) (hz:∀ w,(zeroValue t).run P w=.ok (.agg zs.toArray) w)
  (h:∀ w',Blk w' w.heap.size t zs→Below w.heap.size w w'→w'.heap.size=w.heap.size+1→wpListIn F n P ops Q rest (a.put o.dst (.pointer (some ⟨w.heap.size,0,none⟩))) w'):wpListIn F n P ops Q (o::rest) a w:=
 CG hF (by rw[ho];intro c h;cases h) (Av w hgd t ho zs hz fun w' h1 h2 h3=> Dv (h w' h1 h2 h3))
theorem Dw (hF:WideF F) (w:World) (hgd:o.guard=none) (ty:TypeId) (x y:Operand) (ho:o.op=.store ty x y)
  (g:Nat) (e:TypeId) (xs cells:List Value) (hb:Blk w g e xs) (hx:a.eval x=.pointer (some ⟨g,0,none⟩)) (hy:a.eval y=.agg cells.toArray) (hl:cells.length=xs.length) (hi:(P.info? ty).map (·.size)=some cells.length) (h1:∀ v∈cells,v.oneCell'=true)
  (h:∀ w',Blk w' g e cells→Ch (·=g) w w'→w'.heap.size=w.heap.size→wpListIn F n P ops Q rest (a.put o.dst undef) w'):wpListIn F n P ops Q (o::rest) a w:=
 CG hF (by rw[ho];intro c h;cases h) (Ao w hgd ty x y ho g e xs cells hb hx hy hl hi h1 fun w' h1 h2 h3=> Dv (h w' h1 h2 h3))
theorem I4 (hF:WideF F) (w:World) (hgd:o.guard=none) (t:TypeId) (x:Operand) (ho:o.op=.buildSlice t 1 #[(0,x)]) {e:TypeId} {k:Nat} {zs:Array Value} (ht:P.underlying t=some (.slice e)) (hs:∀ w,(sizeOf e).run P w=.ok k w) (hz:∀ w,(zeroValue e).run P w=.ok (.agg zs) w) (hn0:0<k) (hn:k≤16777216)
  (cs:List Value) (hcs:cs.length=k) (hx:a.eval x=.agg cs.toArray) (h:∀ w',Blk w' w.heap.size e cs→Below w.heap.size w w'→w'.heap.size=w.heap.size+1→wpListIn F n P ops Q rest (a.put o.dst (.slice (some ⟨w.heap.size,0,none⟩) 1 1)) w'):wpListIn F n P ops Q (o::rest) a w:=
 CG hF (by rw[ho];intro c h;cases h) (Bk w hgd t x ho ht hs hz hn0 hn cs hcs hx fun w' h1 h2 h3=> Dv (h w' h1 h2 h3))
end
end Go.Proofs.YtgdlfiphihaooaaGreat
namespace Go.Proofs.YtgdlfiphihaooaaGreat
open Go Go.RowKit
def KD {α:Type} (F:Fence) (n:Nat) (P:Program) (g:Nat) (lb:Array Value) (encs:α→Array Value) (T:α→Nat→Prop) (Pr:List α→α→Nat→World→Prop) (S Sp:List α→Prop) (w:World):Prop:=
 ∀ (l:Nat) (J Jx:List α→World→Prop) (W:World),Below w.heap.size w W→
  (∀ s A B,J s A→Below A.heap.size A B→J s B)→(∀ s A B,Jx s A→Below A.heap.size A B→Jx s B)→
  (∀ pre x W0 W1,J pre W0→Below W0.heap.size W0 W1→Pr pre x W0.heap.size W1→YieldAt F (n - 1) P l (encs x) W1 fun e W'=>
   (e=.returned (.bool true)∧J (pre ++ [x]) W'∧W1.heap.size≤W'.heap.size∧∀ k,T x k→W'.heap[k]?=W1.heap[k]?)∨(e=.returned (.bool false)∧Jx (pre ++ [x]) W'))→
  J [] W→
  CallsIn F n P g (#[.func (.yield l) #[] #[]] ++ lb) W fun e W'=> (∃ v,e=.returned v)∧((∃ xs,S xs∧J xs W')∨(∃ pre,Sp pre∧Jx pre W'))
theorem Ct {A B:World} (h:Below A.heap.size A B) (row:Option Nat):A.grownBy B row:=⟨h.os,h.tape,h.output,h.size,fun k hk _=> h.block k hk⟩
section
variable {F:Fence} {n:Nat} {P:Program}
theorem Gi {α:Type} {g:Operand} {ps:Array Tmp} {assign body:Code} {Q:Exit→Act→World→Prop} {a:Act} {w:World}
  (hro:F.round=none) (h1:1≤n) {gf:Nat} {lb:Array Value} (hg:a.eval g=.func (.func gf) #[] lb) (hFg:F.fn gf) (eg:∀ args w,(callFunc gf args).run P w=.ok (.enter gf args) w)
  {encs:α→Array Value} {T:α→Nat→Prop} {Pr:List α→α→Nat→World→Prop} {S Sp:List α→Prop} {w0:World} (hseq:KD F (n - 1) P gf lb encs T Pr S Sp w0)
  (hb0:Below w0.heap.size w0 w) (hps:∀ x,(encs x).size=ps.size)
  (hT:∀ pre x s W k,Pr pre x s W→T x k→k<w.heap.size∨s≤k)
  (hPr:∀ pre x s A B row,Pr pre x s A→A.grownBy B row→(∀ r,row=some r→∃ o:Obj,A.heap[r]?=some o∧o.isCells=false)→Pr pre x s B)
  (I:List α→World→Prop) (Ix:Code→List α→World→Prop) (hI:OwnFrom w.heap.size I) (hIx:∀ c,OwnFrom w.heap.size (Ix c)) (h0:I [] w) (a₁:α→Act)
  (hassign:∀ (l:Nat) (x:α) (W:World) (K:Act→World→Prop),K (a₁ x) W→
   assign.wpIn (F.inRound l) (n - 1 - 1) P (Exit.then K (fun _ _ _=> False)) {tmps:=(ps.zip (encs x)).foldl (fun t (p,v)=> t.setIfInBounds p v) a.tmps,defers:=[]} W)
  (hbody:∀ (l:Nat) (pre:List α) (x:α) (W0 W:World),w.heap.size<l→(∃ r,W0.heap[l]?=some (.loop r))→I pre W0→I pre W→W0.grownBy W (some l)→Pr pre x W0.heap.size W→
   body.wpIn (F.inRound l) (n - 1 - 1) P (ownPostG w.heap.size (fun A B=> ∀ k,T x k→B.heap[k]?=A.heap[k]?) I Ix (pre ++ [x]) W) (a₁ x) W)
  (hdone:∀ (D:Nat) (xs:List α) (W:World),w.heap.size≤D→S xs→I xs W→W.heap[D]?=some (.deferred (some []))→Q .normal {a with defers:={target:=.collected D,args:=#[]}::a.defers} W)
  (hstop:∀ (D:Nat) (c:Code) (pre:List α) (W:World),w.heap.size≤D→Sp pre→Ix c pre W→W.heap[D]?=some (.deferred (some []))→c.wpIn F n P Q {a with defers:={target:=.collected D,args:=#[]}::a.defers} W):
  (Code.rangeFunc g ps assign body).wpIn F n P Q a w:=by
 refine wpIn_rangeFunc fun fn hfn=> ?_
 rw[hro]
 have hnew:=run_enterLoop_outer (P:=P) (w:=w) fn a.tmps ps assign body
 obtain⟨L,hL⟩:∃ L:Loop,L={state:=.ready,pending:=none,fn:=fn,tmps:=a.tmps,params:=ps,assign:=assign,body:=body,defers:=w.heap.size}:=⟨_,rfl⟩
 rw[←hL] at hnew
 have pL:L.pending=none:=by rw[hL]
 have sL:L.state=.ready:=by rw[hL]
 obtain⟨V,hV⟩:∃ V,(w.alloc (.deferred (some []))).alloc (.loop L)=V:=⟨_,rfl⟩
 rw[hV] at hnew
 have hgV:w.grownBy V none:=by rw[←hV];exact(World.grownBy_alloc w (.deferred (some [])) none).trans (World.grownBy_alloc _ (.loop L) none)
 have hloop:V.heap[w.heap.size+1]?=some (.loop L):=by
  rw[←hV]
  have h:=World.alloc_heap_new (w.alloc (.deferred (some []))) (.loop L)
  rwa [World.size_alloc] at h
 have hdef:V.heap[w.heap.size]?=some (.deferred (some [])):=by
  rw[←hV,(World.grownBy_alloc (w.alloc (.deferred (some []))) (.loop L) none).block _ (by simp) (by simp)]
  exact World.alloc_heap_new w _
 have hbV:Below w0.heap.size w0 V:=⟨hgV.os.trans hb0.os,hgV.tape.trans hb0.tape,hgV.output.trans hb0.output,Aj hb0.size hgV.size,fun k hk=> (hgV.block k (Ak hk hb0.size) (by simp)).trans (hb0.block k hk)⟩
 have none_:∀ {A:World} (r:Nat),(none:Option Nat)=some r→w.heap.size≤r∧∃ o:Obj,A.heap[r]?=some o∧o.isCells=false:=fun r e=> by cases e
 have later:∀ {A B:World} {k:Nat} {o:Obj},Below A.heap.size A B→A.heap[k]?=some o→B.heap[k]?=some o:=fun h hk=> (h.block _ (Array.getElem?_eq_some_iff.1 hk).1).trans hk
 refine⟨w.heap.size+1,_,V,{target:=.fn (.func gf) lb,args:=#[.func (.yield (w.heap.size+1)) #[] #[]]},V,gf,#[.func (.yield (w.heap.size+1)) #[] #[]] ++ lb,V,hnew,?_,?_,?_,fun _=> h1,?_⟩
 ·simp only[resolve,hg]
  simp[go_sem]
 ·intro f' hf'
  simp[Target.leads] at hf'
  subst hf'
  exact hFg
 ·simp[invoke,go_sem,eg]
 refine(hseq (w.heap.size+1)
  (fun pre W=> I pre W∧W.heap[w.heap.size+1]?=some (.loop L)∧W.heap[w.heap.size]?=some (.deferred (some [])))
  (fun pre W=> ∃ c,Ix c pre W∧W.heap[w.heap.size+1]?=some (.loop {L with state:=.done,pending:=some c})∧W.heap[w.heap.size]?=some (.deferred (some [])))
  V hbV (fun s A B h hb=> ⟨hI s A B none h.1 (Ct hb none) none_,later hb h.2.1,later hb h.2.2⟩)
  (fun s A B h hb=> by
   obtain⟨c,x,y,z⟩:=h
   exact⟨c,hIx c s A B none x (Ct hb none) none_,later hb y,later hb z⟩)
  ?_ ⟨hI [] w V none h0 hgV none_,hloop,hdef⟩).mono ?_
 ·rintro pre x W0 W1 ⟨hi0,hl0,hd0⟩ hb01 hpr
  have hlt0:=(Array.getElem?_eq_some_iff.1 hl0).1
  have hl1:=later hb01 hl0
  have hd1:=later hb01 hd0
  have hlt1:=(Array.getElem?_eq_some_iff.1 hl1).1
  have hi1:I pre W1:=hI pre W0 W1 none hi0 (Ct hb01 none) none_
  have hy:=run_yield (P:=P) (args:=encs x) hl1 (by rw[hL];exact hps x)
  rw[hL] at hy
  refine⟨fn,_,assign,body,hy,roundIn_of_wpIn hfn (hassign _ x W1 _ ?_)⟩
  clear hy
  refine⟨_,run_beginRound hl1 sL,?_⟩
  obtain⟨W,hW⟩:∃ W,W1.putObj (w.heap.size+1) (.loop {L with state:=.busy})=W:=⟨_,rfl⟩
  rw[hW]
  have hg1:W1.grownBy W (some (w.heap.size+1)):=by rw[←hW];exact grownBy_putObj' _ _ _
  have hl2:W.heap[w.heap.size+1]?=some (.loop {L with state:=.busy}):=by rw[←hW];exact World.putObj_heap_same hlt1
  have hd2:W.heap[w.heap.size]?=some (.deferred (some [])):=(hg1.block _ (by omega) (fun e=> by injection e with e;omega)).trans hd1
  have hrow:∀ r,some (w.heap.size+1)=some r→w.heap.size≤r∧∃ o:Obj,W1.heap[r]?=some o∧o.isCells=false:=fun r e=> by cases e;exact⟨by omega,_,hl1,rfl⟩
  have hi2:I pre W:=hI pre W1 W _ hi1 hg1 hrow
  have hpr2:=hPr pre x _ W1 W _ hpr hg1 (fun r e=> (hrow r e).2)
  have hg0:W0.grownBy W (some (w.heap.size+1)):=(Ct hb01 _).trans hg1
  have hTl:∀ k,T x k→k≠w.heap.size+1:=fun k hk e=> by
   rcases hT pre x _ _ k hpr hk with h|h <;> omega
  refine wpIn_mono (hbody _ pre x W0 W (by omega) ⟨_,hl0⟩ hi0 hi2 hg0 hpr2) ?_
  have shut:∀ (c:Option Code) (Z:World),KeepsFrom w.heap.size W Z→
    (Instr.endRound (w.heap.size+1) c).run P Z=.ok (.bool c.isNone) (Z.putObj (w.heap.size+1) (.loop {L with state:=if c.isNone then .ready else .done,pending:=c}))∧
    Z.heap[w.heap.size+1]?=some (.loop {L with state:=.busy})∧
    (Z.putObj (w.heap.size+1) (.loop {L with state:=if c.isNone then .ready else .done,pending:=c})).heap[w.heap.size]?=some (.deferred (some [])):=fun c Z hk=> by
   have hl3:=hk.same _ _ (by omega) hl2 rfl
   have hr3:=run_endRound (P:=P) (r:={L with state:=.busy}) c hl3
   exact⟨hr3,hl3,(World.putObj_heap_other (by omega)).trans (hk.same _ _ (Ah _) hd2 rfl)⟩
  have back:∀ (c:Code) (Z:World),KeepsFrom w.heap.size W Z→Ix c (pre ++ [x]) Z→∃ v Z',(Instr.endRound (w.heap.size+1) (some c)).run P Z=.ok v Z'∧v=.bool false∧∃ c,Ix c (pre ++ [x]) Z'∧Z'.heap[w.heap.size+1]?=some (.loop {L with state:=.done,pending:=some c})∧Z'.heap[w.heap.size]?=some (.deferred (some [])):=fun c Z hk hx=> by
   obtain⟨hr,hl3,hd3⟩:=shut (some c) Z hk
   exact⟨_,_,hr,rfl,c,(hIx c).putObj _ hx (by omega) hl3 rfl,World.putObj_heap_same (Array.getElem?_eq_some_iff.1 hl3).1,hd3⟩
  rintro e a3 Z hp
  cases e with
  | normal=>
   obtain⟨hk,hkp,hi3⟩:=hp
   obtain⟨hr,hl3,hd3⟩:=shut none Z hk
   have hes:({L with state:=.ready,pending:=none}:Loop)=L:=by rw[hL]
   refine⟨_,_,hr,.inl ⟨rfl,⟨hI.putObj _ hi3 (by omega) hl3 rfl,?_,hd3⟩,?_,fun k hTk=> ?_⟩⟩
   ·refine(World.putObj_heap_same (Array.getElem?_eq_some_iff.1 hl3).1).trans ?_
    exact congrArg (fun y=> some (Obj.loop y)) hes
   ·have:=hk.size
    have:=hg1.size
    have:=(grownBy_putObj' Z (w.heap.size+1) (.loop {L with state:=.ready,pending:=none})).size
    exact Aj (Aj ‹W1.heap.size≤W.heap.size› ‹W.heap.size≤Z.heap.size›) this
   ·refine(World.putObj_heap_other (hTl k hTk)).trans ((hkp k hTk).trans ?_)
    rw[←hW]
    exact World.putObj_heap_other (hTl k hTk)
  | ret=>
   obtain⟨v,Z',hr,rfl,h⟩:=back .ret Z hp.1 hp.2
   exact⟨_,_,hr,.inr ⟨rfl,h⟩⟩
  | exit id=>
   obtain⟨v,Z',hr,rfl,h⟩:=back (.exit id) Z hp.1 hp.2
   exact⟨_,_,hr,.inr ⟨rfl,h⟩⟩
  | goto t=>
   obtain⟨v,Z',hr,rfl,h⟩:=back (.goto t) Z hp.1 hp.2
   exact⟨_,_,hr,.inr ⟨rfl,h⟩⟩
  | panic ch=> exact hp.elim
  | outgrown=> exact hp.elim
 ·rintro e Z ⟨⟨v,rfl⟩,(⟨xs,hS,hi,hl,hd⟩|⟨pre,hSp,c,hi,hl,hd⟩)⟩
  ·have hr:=run_endLoop (P:=P) hl (by rw[sL];simp)
   rw[pL] at hr
   exact⟨none,_,hr,hdone _ xs _ (Ah _) hS (hI.putObj _ hi (by omega) hl rfl) ((World.putObj_heap_other (by omega)).trans hd)⟩
  ·exact⟨some c,_,run_endLoop (P:=P) hl (by simp),hstop _ c pre _ (Ah _) hSp ((hIx c).putObj _ hi (by omega) hl rfl) ((World.putObj_heap_other (by omega)).trans hd)⟩
end
end Go.Proofs.YtgdlfiphihaooaaGreat
namespace Go.Proofs.YtgdlfiphihaooaaGreat
open Go Go.RowKit Go.ChangeShapes Go.WideShapes Go.ChangeAt
theorem Tryz.own:ownKnob Tryz.prog.godebug=none:=by kernel_rfl
theorem Tryz.laidOut:laidOutB Tryz.prog=true:=by kernel_rfl
theorem KE {n:Int} (h:(Lit.int .i64 n).wf=true): -9223372036854775808≤n∧n≤9223372036854775807:=by simpa [Lit.wf,IntKind.min,IntKind.max,IntKind.signed,IntKind.bits] using h
theorem JX {H:Type} {enc:TypeId × Value→H} {W:World} {t e:TypeId} {k:IntKind} {v:Value} {d:DataW H} {p:List MemPlace} (ht:Tryz.prog.underlying t=some (.slice e)) (he:Tryz.prog.underlying e=some (.int k)) (hc:Tryz.prog.cellsOf e=1)
  (hv:∃ a len cap,v=.slice a len cap) (h:DataW.Trod enc Tryz.prog W 0 (fun _=> true) true t v d p):
  ∃ bs,Sl W v (ofK k bs)∧(∀ c∈bs,(Lit.int k c).wf=true)∧((d=.nil∧bs=[])∨∃ sp,d=.slice (lits k bs) sp):=by
 obtain⟨a,len,cap,rfl⟩:=hv
 obtain⟨fuel,hf⟩:=h
 rcases open_ints ht he hc hf with⟨hcs,hx⟩|⟨x,l,c,zs,hcs,_,hl,hm,hz,hx,hcell,hwz⟩
 ·simp[Value.cells] at hcs
  obtain⟨rfl,rfl,rfl⟩:=hcs
  cases hx
  exact⟨[],.inl ⟨rfl,rfl⟩,by simp,.inl ⟨rfl,rfl⟩⟩
 ·simp[Value.cells] at hcs
  obtain⟨rfl,rfl,rfl⟩:=hcs
  have hz':zs.length=cap:=by simpa using hz
  cases hx
  refine⟨zs.take len,.inr ⟨x,cap,by rw[AJ];simp;omega,by rw[AJ];simp;omega,hm,fun i u hu=> ?_⟩,fun c hc=> hwz c (List.mem_of_mem_take hc),.inr ⟨_,rfl⟩⟩
  have hi:i<(ofK k (zs.take len)).length:=(List.getElem?_eq_some_iff.1 hu).1
  rw[AJ] at hi
  rw[Hb _ _ _ hi] at hu
  have hi2:i<zs.length:=by simp at hi;omega
  rw[hcell i hi2,←hu]
  simp[List.getD_eq_getElem?_getD,List.getElem?_eq_getElem hi2]
def SlP (w:World) (v:Value) (k0 k1:IntKind) (ls:List (Int × Int)):Prop:=
 ∃ ao c,v=.slice ao ls.length c∧ls.length≤c∧c≤9223372036854775807∧(0<ls.length→∃ b o,ao=some ⟨b,o,none⟩∧b<w.heap.size∧∀ j (hj:j<ls.length),w.cell? ⟨b,o+j* 2,none⟩=some (.int k0 ls[j].1)∧w.cell? ⟨b,o+j* 2+1,none⟩=some (.int k1 ls[j].2))
theorem CH (b o i:Nat):Addr.add ⟨b,o,none⟩ i=⟨b,o+i,none⟩:=by unfold Addr.add;split <;> simp_all
section
variable {H:Type} {enc:TypeId × Value→H} {W:World}
theorem Ea {t e:TypeId} {fuel:Nat} {c0:Value} {x:DataW H × List MemPlace} (ht:Tryz.prog.underlying t=some (.slice e)) (he:Tryz.prog.underlying e=some (.int .i64)) (hc:Tryz.prog.cellsOf e=1)
  (h:DataW.trod enc Tryz.prog W 0 (fun _=> true) true fuel t [c0]=some x):∃ l,Sl W c0 (ofK .i64 l)∧∀ c∈l,(Lit.int .i64 c).wf=true:=by
 obtain⟨a,l,c,rfl⟩:∃ a l c,c0=.slice a l c:=by
  rcases Deep.open_slice ht h with⟨hcs,_⟩|⟨a,l,c,_,_,_,_,hcs,_⟩
  ·simp at hcs;exact⟨_,_,_,hcs⟩
  ·simp at hcs;exact⟨_,_,_,hcs⟩
 obtain⟨bs,h1,h2,-⟩:=JX (v:=.slice a l c) ht he hc ⟨a,l,c,rfl⟩ ⟨fuel,h⟩
 exact⟨bs,h1,h2⟩
def PmI (p:PmD):Prop:=(-9223372036854775808≤p.o∧p.o≤9223372036854775807)∧(-9223372036854775808≤p.e∧p.e≤9223372036854775807)
theorem JY {t b:TypeId} {f0 f1 f2 f3 f4:Field} {fuel:Nat} {cs:List Value} {x:DataW H × List MemPlace} (hs:Tryz.prog.underlying t=some (.struct #[f0,f1,f2,f3,f4])) (hone:Deep.oneCellFields Tryz.prog #[f0,f1,f2,f3,f4]=true) (hC:Tryz.prog.cellsOf t=5)
  (u0:Tryz.prog.underlying f0.type=some (.int .i64)) (u1:Tryz.prog.underlying f1.type=some (.int .i64)) (u2:Tryz.prog.underlying f2.type=some (.slice b)) (u3:Tryz.prog.underlying f3.type=some (.slice b)) (u4:Tryz.prog.underlying f4.type=some (.slice b)) (ub:Tryz.prog.underlying b=some (.int .i64)) (cb:Tryz.prog.cellsOf b=1)
  (h:DataW.trod enc Tryz.prog W 0 (fun _=> true) true fuel t cs=some x):∃ p vr vq vg,cs=pmC p.o p.e vr vq vg∧PmS W p vr vq vg∧PmI p:=by
 obtain⟨xs,n,_,hx,hlen,hxl,hfd⟩:=DataW.trod_struct hs h
 rw[hC] at hlen
 obtain⟨v0,v1,v2,v3,v4,rfl⟩:∃ v0 v1 v2 v3 v4,cs=[v0,v1,v2,v3,v4]:=by
  match cs,hlen with
  | [c0,c1,c2,c3,c4],_=> exact⟨_,_,_,_,_,rfl⟩
 have hx5:xs.length=5:=hxl
 have g0:=hfd 0 f0 rfl
 have g1:=hfd 1 f1 rfl
 have g2:=hfd 2 f2 rfl
 have g3:=hfd 3 f3 rfl
 have g4:=hfd 4 f4 rfl
 obtain⟨o0,k0⟩:=Deep.hone_of hone 0 f0 rfl
 obtain⟨o1,k1⟩:=Deep.hone_of hone 1 f1 rfl
 obtain⟨o2,k2⟩:=Deep.hone_of hone 2 f2 rfl
 obtain⟨o3,k3⟩:=Deep.hone_of hone 3 f3 rfl
 obtain⟨o4,k4⟩:=Deep.hone_of hone 4 f4 rfl
 rw[List.getElem?_eq_getElem (by omega)] at g0 g1 g2 g3 g4
 simp only[o0,o1,o2,o3,o4,k0,k1,k2,k3,k4,List.drop_succ_cons,List.drop_zero,List.take_succ_cons,List.take_zero] at g0 g1 g2 g3 g4
 obtain⟨n0,e0,-,w0⟩:=DataW.trod_int u0 g0
 obtain⟨n1,e1,-,w1⟩:=DataW.trod_int u1 g1
 obtain⟨l2,h2,-⟩:=Ea u2 ub cb g2
 obtain⟨l3,h3,-⟩:=Ea u3 ub cb g3
 obtain⟨l4,h4,-⟩:=Ea u4 ub cb g4
 simp only[List.cons.injEq,and_true] at e0 e1
 subst e0 e1
 exact⟨⟨n0,n1,l2,l3,l4⟩,v2,v3,v4,rfl,⟨h2,h3,h4⟩,KE w0,KE w1⟩
structure Act3 where
 k:Int
 b:Int
 n:Int
instance:Inhabited Act3:=⟨⟨0,0,0⟩⟩
end
end Go.Proofs.YtgdlfiphihaooaaGreat
namespace Go.Proofs.YtgdlfiphihaooaaGreat
open Go Go.RowKit Go.Shelf
attribute [local go_sem] Oper.semAt_some
def DK (ls:List (Int × Int)) (who:Int):List Int:=(ls.filter (fun m=> m.2==who)).map (·.1)
theorem JZ (ls:List (Int × Int)) (who:Int) (k:Nat) (h:k<ls.length):DK (ls.take (k+1)) who=DK (ls.take k) who ++ if (ls[k].2==who)=true then [ls[k].1] else []:=by
 unfold DK
 rw[List.take_succ_eq_append_getElem h,List.filter_append,List.map_append]
 by_cases e:(ls[k].2==who)=true <;> simp[e]
theorem J0 (ls:List (Int × Int)) (who:Int) (k:Nat):DK (ls.take k) who <+:DK ls who:=by
 unfold DK
 conv=> rhs;rw[←List.take_append_drop k ls,List.filter_append,List.map_append]
 exact List.prefix_append _ _
def blC (m:Int × Int):List Value:=[.int .i64 m.1,.int .i64 m.2]
theorem Tryz.infoBl:(Tryz.prog.info? 105).map (·.size)=some 2:=by kernel_rfl
theorem EJ (m:Int × Int):(Tryz.prog.info? 105).map (·.size)=some (blC m).length:=Tryz.infoBl
theorem JA (m:Int × Int):∀ v∈blC m,v.oneCell'=true:=fun v hv=> by
 simp only[blC,List.mem_cons,List.not_mem_nil,or_false] at hv
 rcases hv with rfl|rfl <;> rfl
theorem Tryz.zeroBl:∀ w,(zeroValue 105).run Tryz.prog w=.ok (.agg (blC (0,0)).toArray) w:=fun w=> by kernel_rfl
def GrpT (bw:Nat) (v:Value) (n:Nat) (_:Int) (k:Nat):Prop:=k=bw∨(0<n∧v.ownBlock=some k)
structure GrpW (bw:Nat) (who:Int) (v:Value) (ls:List (Int × Int)) (W:World):Prop where
 box:Blk W bw 3 [.int .i64 who]
 sl:SlP W v .i64 .i64 ls
theorem SlP.below {w w':World} {v:Value} {k0 k1:IntKind} {ls:List (Int × Int)} (h:SlP w v k0 k1 ls) (hb:Below w.heap.size w w'):SlP w' v k0 k1 ls:=by
 obtain⟨ao,c,h1,h2,h3,h4⟩:=h
 refine⟨ao,c,h1,h2,h3,fun h0=> ?_⟩
 obtain⟨b,o,h5,h6,h7⟩:=h4 h0
 refine⟨b,o,h5,Ak h6 hb.size,fun j hj=> ?_⟩
 exact⟨(hb.cell (p:=⟨b,_,none⟩) h6).trans (h7 j hj).1,(hb.cell (p:=⟨b,_,none⟩) h6).trans (h7 j hj).2⟩
theorem SlP.same {w w':World} {v:Value} {k0 k1:IntKind} {ls:List (Int × Int)} (h:SlP w v k0 k1 ls) (hsz:w.heap.size≤w'.heap.size) (hk:∀ k,0<ls.length→v.ownBlock=some k→w'.heap[k]?=w.heap[k]?):SlP w' v k0 k1 ls:=by
 obtain⟨ao,c,h1,h2,h3,h4⟩:=h
 refine⟨ao,c,h1,h2,h3,fun h0=> ?_⟩
 obtain⟨b,o,h5,h6,h7⟩:=h4 h0
 have hb:=hk b h0 (by rw[h1,h5];rfl)
 refine⟨b,o,h5,Ak h6 hsz,fun j hj=> ?_⟩
 exact⟨(World.cell?_of_block (w:=w) (a:=⟨b,_,none⟩) hb).trans (h7 j hj).1,(World.cell?_of_block (w:=w) (a:=⟨b,_,none⟩) hb).trans (h7 j hj).2⟩
theorem GrpW.below {bw:Nat} {who:Int} {v:Value} {ls:List (Int × Int)} {W W':World} (h:GrpW bw who v ls W) (hb:Below W.heap.size W W'):GrpW bw who v ls W':=⟨h.box.below hb h.box.lt,h.sl.below hb⟩
theorem I5 (who:Int) (bl bw:Nat) (v:Value) (ls:List (Int × Int)) (w:World) (hbl:Blk w bl 69 [v]) (hg:GrpW bw who v ls w):
  KD Fence.wide 8 Tryz.prog 80 #[.pointer (some ⟨bl,0,none⟩),.pointer (some ⟨bw,0,none⟩)] (fun g:Int=> #[.int .i64 g]) (GrpT bw v ls.length) (fun _ _ _ _=> True) (fun xs=> xs=DK ls who) (fun pre=> pre <+:DK ls who) w:=fun l J Jx W hW hJ hJx hY h0=> by
 obtain⟨ao,cp,rfl,hcp,hcm,-⟩:=id hg.sl
 have HG:=Ag (hg.below hW)
 have HL:=Ag ((hbl.below hW hbl.lt).cell 0)
 have HJ:=Ag hJ
 have HJX:=Ag hJx
 have HY:=Ag hY
 have H0:=Ag h0
 obtain⟨n,hn⟩:∃ n,ls.length=n:=⟨_,rfl⟩
 have HN:=Ag hn
 rw[hn] at HL HG HY hcp
 have HGS:=Ag (JZ ls who)
 have k1:=HL.out
 simp only[Ab] at k1
 have hn63:n≤9223372036854775807:=by omega
 clear hbl hg hJ hJx hY h0 hn
 refine callsIn_of_wp Tryz.func80 rfl trivial ?_ rfl
 simp only[Tryz.ntmps80,List.size_toArray,List.length_cons,List.length_nil,Nat.reduceAdd,Nat.reduceSub,Array.replicate_succ,Array.replicate_zero,List.push_toArray,List.append_toArray,List.nil_append,List.cons_append]
 gi_wp2
 clear k1
 gi_loopw [5,8] (fun _ i wr=> ∃ k:Nat,k≤n∧i=.int .i64 k∧Hid (J (DK (ls.take k) who) wr∧GrpW bw who (.slice ao n cp) ls wr)) (fun _ i _=> n - (intOf i).toNat)
 case atStart=> exact⟨0,Nat.zero_le _,rfl,Ag ⟨H0.out,HG.out⟩⟩
 case round=>
  obtain⟨k,hk,rfl,HR⟩:=hrel
  by_cases hlt:k<n
  ·have hkz:(k:Int)<(n:Int):=by omega
   have hk0:(0:Int)≤(k:Int):=by omega
   have hkl:k<ls.length:=by rw[HN.out];exact hlt
   obtain⟨ao',cp',he,-,-,hcell⟩:=HR.out.2.sl
   simp only[Value.slice.injEq] at he
   obtain⟨rfl,-,rfl⟩:=he
   obtain⟨b,o,rfl,hb,hc⟩:=hcell (by omega)
   have hgs:=HGS.out k hkl
   have hc2:=hc k hkl
   generalize ls[k]=m at hgs hc2
   obtain⟨g,u⟩:=m
   have HC:=Ag (show wr.rangeAt b (o+k* 2) (blC (g,u)) from fun j x hx=> by
    match j,hx with
    | 0,hx=> simp only[blC,Ab,Option.some.injEq] at hx;subst hx;exact hc2.1
    | 1,hx=> simp only[blC,Ab,Ac,Option.some.injEq] at hx;subst hx;exact hc2.2)
   simp only at hgs
   obtain⟨z,hz⟩:∃ z,(u==who)=z:=⟨_,rfl⟩
   rw[hz] at hgs
   have HGE:=Ag hgs
   clear hcell hc hc2 hgs hb hkl
   cases z
   ·have HGF:=Ag (show DK (ls.take (k+1)) who=DK (ls.take k) who by rw[HGE.out,if_neg (by simp),List.append_nil])
    gi_wp2_with (first
     | (with_reducible refine EI WideF.wide _ rfl 105 (.tmp 10) rfl b (o+k* 2) rfl (blC (g,u)) _ HC.out Tryz.underlying105 rfl (EJ _) ?_)
     | ((with_reducible refine D9 WideF.wide _ rfl 105 rfl (blC (0,0)) Tryz.zeroBl ?_);intro W1 hb hbel hsz;have H1:=Ag (Ai hb hbel);clear hb hbel hsz)
     | ((with_reducible refine Dw WideF.wide W1 rfl 105 (.tmp 5) (.tmp 11) rfl wr.heap.size 105 (blC (0,0)) (blC (g,u)) H1.out.1 rfl rfl rfl (EJ _) (JA _) ?_);intro W2 hb hc hs;have H2:=hJ2 hb (Aw H1.out.2 hc (Ah _) (fun j hj=> by have e:j=wr.heap.size:=hj;omega));have a0:=hb.cell 0;have a1:=hb.cell 1;simp only[blC,Ab,Ac] at a0 a1;have a2:=(HR.out.2.box.below H2.out.2 HR.out.2.box.lt).cell 0;simp only[Ab] at a2;clear hb hc hs))
    refine⟨fun f h=> (by cases h),?_⟩
    gi_wp2
    go_roundw
    case rel=> exact⟨k+1,by omega,by go_num,Ag ⟨by rw[HGF.out];exact HJ.out _ _ _ HR.out.1 H2.out.2,HR.out.2.below H2.out.2⟩⟩
    case measure=> simp[intOf];omega
   ·have HGF:=Ag (show DK (ls.take (k+1)) who=DK (ls.take k) who ++ [g] by rw[HGE.out,if_pos rfl])
    have HPX:=Ag (J0 ls who (k+1))
    gi_wp2_with (first
     | (with_reducible refine EI WideF.wide _ rfl 105 (.tmp 10) rfl b (o+k* 2) rfl (blC (g,u)) _ HC.out Tryz.underlying105 rfl (EJ _) ?_)
     | ((with_reducible refine D9 WideF.wide _ rfl 105 rfl (blC (0,0)) Tryz.zeroBl ?_);intro W1 hb hbel hsz;have H1:=Ag (Ai hb hbel);clear hb hbel hsz)
     | ((with_reducible refine Dw WideF.wide W1 rfl 105 (.tmp 5) (.tmp 11) rfl wr.heap.size 105 (blC (0,0)) (blC (g,u)) H1.out.1 rfl rfl rfl (EJ _) (JA _) ?_);intro W2 hb hc hs;have H2:=hJ2 hb (Aw H1.out.2 hc (Ah _) (fun j hj=> by have e:j=wr.heap.size:=hj;omega));have a0:=hb.cell 0;have a1:=hb.cell 1;simp only[blC,Ab,Ac] at a0 a1;have a2:=(HR.out.2.box.below H2.out.2 HR.out.2.box.lt).cell 0;simp only[Ab] at a2;clear hb hc hs;obtain⟨fn,tmps,assign,body,hyl,hR⟩:=HY.out _ g wr W2 HR.out.1 H2.out.2 trivial;try simp only at hyl))
    refine hR.mono ?_
    rintro e W3 (⟨rfl,hJ3,hsz3,hk3⟩|⟨rfl,hJx3⟩)
    ·have H3:=Ag (show J (DK (ls.take (k+1)) who) W3∧GrpW bw who (.slice (some ⟨b,o,none⟩) n cp) ls W3 from⟨by rw[HGF.out];exact hJ3,by
      have h1:=HR.out.2.below H2.out.2
      exact⟨by unfold Blk;rw[hk3 bw (.inl rfl)];exact h1.box,h1.sl.same hsz3 (fun k h0 hk=> hk3 k (.inr ⟨by rw[←HN.out];exact h0,hk⟩))⟩⟩)
     clear hJ3 hsz3 hk3 hyl hR a0 a1 a2
     gi_wp2
     go_roundw
     case rel=> exact⟨k+1,by omega,by go_num,H3⟩
     case measure=> simp[intOf];omega
    ·have H3:=Ag (show Jx (DK (ls.take (k+1)) who) W3 by rw[HGF.out];exact hJx3)
     clear hJx3 hyl hR a0 a1 a2
     gi_wp2
     refine bodyPost_ret (results_none rfl _ _ _) rfl ?_
     exact⟨⟨_,rfl⟩,.inr ⟨_,HPX.out,H3.out⟩⟩
  ·have hge:¬ (k:Int)<(n:Int):=by omega
   have HF:=Ag (show J (DK ls who) wr by have h:=HR.out.1;rwa [List.take_of_length_le (by rw[HN.out];omega)] at h)
   gi_wp2
   go_end0
   exact⟨⟨_,rfl⟩,.inl HF.out⟩
attribute [local go_sem] Oper.semAt_some
theorem Tryz.zeroB:∀ w,(zeroValue 4).run Tryz.prog w=.ok (.bool false) w:=fun w=> by kernel_rfl
theorem Cz {P:Program} (w:World) {ops:Array Oper} {rest:List Oper} {o:Oper} {a:Act} {Q:Exit→Act→World→Prop} (hgd:o.guard=none) (t:TypeId) (ho:o.op=.alloc t) (v:Value) (hv:v.cells=#[v]) (hz:∀ w,(zeroValue t).run P w=.ok v w)
  (h:∀ w',Blk w' w.heap.size t [v]→Below w.heap.size w w'→w'.heap.size=w.heap.size+1→wpList P ops Q rest (a.put o.dst (.pointer (some ⟨w.heap.size,0,none⟩))) w'):wpList P ops Q (o::rest) a w:=by
 refine wpList_plain hgd fun K' hK'=> ?_
 have hrun:(execOp a.eval o).run P w=.ok (.value (.pointer (some ⟨w.heap.size,0,none⟩))) (w.alloc (.cells [v].toArray t)):=by
  simp[execOp,ho,Instr.alloc,hz,Result.andThen,CF,hv]
 unfold Oper.wp
 rw[hrun]
 exact hK' _ _ (h _ (Blk.new w [v] t) ((Below.refl _ _).alloc (Ah _) _) (by simp))
theorem I6 (v:Value) (hv:v.cells=#[v]) (who:Int) (w:World):
  Calls Tryz.prog 51 #[v,.int .i64 who] w (fun e w'=> ∃ bl bw,e=.returned (.func (.func 80) #[] #[.pointer (some ⟨bl,0,none⟩),.pointer (some ⟨bw,0,none⟩)])∧Blk w' bl 69 [v]∧Blk w' bw 3 [.int .i64 who]∧w.heap.size≤bl∧w.heap.size≤bw∧Below w.heap.size w w'):=by
 have HV:=Ag hv
 clear hv
 go_enter Tryz.func51,Tryz.ntmps51
 go_wp2_with (first
  | ((refine A4 w rfl 69 (.tmp 0) rfl v HV.out rfl ?_);intro w1 hb hbel hsz;have H1:=Ag (Ai hb hbel);clear hb hbel hsz)
  | ((with_reducible refine A4 w1 rfl 3 (.tmp 1) rfl (.int .i64 who) rfl rfl ?_);intro w2 hb hbel hsz;have H2:=hJ4 (H1.out.1.below hbel H1.out.1.lt) hb H1.out.2.size (An H1.out.2 hbel (Ah _));clear hb hbel hsz))
 go_ret
 exact⟨_,_,rfl,H2.out.1,H2.out.2.1,Ah _,H2.out.2.2.1,H2.out.2.2.2⟩
def Fv (p:PmD) (n:Int) (ls:List (Int × Int)):Bool:=okB p && ((n==p.o ||p.r.any (n==·)) ||(AX n && (DK ls n).any (fun g=> p.g.any (g==·))))
theorem Ib {X Y:World} {row:Option Nat} {p:Addr} {v:Value} (h:X.cell? p=some v) (hg:X.grownBy Y row) (hr:∀ r,row=some r→∃ o:Obj,X.heap[r]?=some o∧o.isCells=false):Y.cell? p=some v:=by
 rw[World.cell?_of_block (w:=X) (hg.block p.block (Am h) (fun e=> ?_))]
 ·exact h
 ·obtain⟨o,ho,hc⟩:=hr p.block e.symm
  rw[World.cell?,ho] at h
  cases o <;> first|(have h':(none:Option Value)=some v:=h;cases h';done)|(cases hc;done)
theorem Sl.own {X Y:World} {row:Option Nat} {v:Value} {xs:List Value} (h:Sl X v xs) (hg:X.grownBy Y row) (hr:∀ r,row=some r→∃ o:Obj,X.heap[r]?=some o∧o.isCells=false):Sl Y v xs:=by
 rcases h with h|⟨ad,c,h1,h2,h3,h4⟩
 ·exact .inl h
 ·exact .inr ⟨ad,c,h1,h2,h3,fun i u hu=> Ib (h4 i u hu) hg hr⟩
theorem BH {X Y:World} {row:Option Nat} {g:Nat} {e:TypeId} {xs:List Value} (h:Blk X g e xs) (hg:X.grownBy Y row) (hr:∀ r,row=some r→∃ o:Obj,X.heap[r]?=some o∧o.isCells=false):Blk Y g e xs:=by
 unfold Blk at *
 rw[hg.block g (lt_of_block h) (fun e'=> by
  obtain⟨o,ho,hc⟩:=hr g e'.symm
  rw[h] at ho;cases ho;cases hc)]
 exact h
theorem CW {w:World} {g:Nat} {e:TypeId} {xs:List Value} (h:Blk w g e xs):∀ o,w.heap[g]?=some o→o.isCells=true:=fun o ho=> by
 unfold Blk at h;rw[h] at ho;cases ho;rfl
theorem Hi {W W':World} {B rb:Nat} {e:TypeId} {xs:List Value} (hc:Ch (·=rb) W W') (hb:Blk W rb e xs):KeepsFrom B W W':=
 ⟨hc.size,fun k o _ hk ho=> (hc.block k (Array.getElem?_eq_some_iff.1 hk).1 (fun e=> by
  have h1:k=rb:=e
  subst h1
  rw[CW hb o hk] at ho;cases ho)).trans hk⟩
theorem zip1 (p:Tmp) (u:Value):(#[p]:Array Tmp).zip #[u]=#[(p,u)]:=by simp
theorem I7 {α β:Type} (f:β→α→β) (b:β) (x:α):(#[x]:Array α).foldl f b=f b x:=by simp
theorem Lw {bw:Nat} {who:Int} {v:Value} {ls:List (Int × Int)} {w:World} (h:GrpW bw who v ls w) {x:Int} {k:Nat} (hk:GrpT bw v ls.length x k):k<w.heap.size:=by
 rcases hk with rfl|⟨h0,hk⟩
 ·exact h.box.lt
 ·obtain⟨ao,c,h1,h2,h3,h4⟩:=h.sl
  obtain⟨b,o,rfl,h6,h7⟩:=h4 h0
  rw[h1] at hk
  have e:some b=some k:=hk
  cases e;exact h6
structure ReadI (w0:World) (p:PmD) (u:Bool) (n:Int) (vr vq vg:Value) (rb wb:Nat) (pre:List Int) (W:World):Prop where
 frb:Blk W rb 4 [.bool false]
 fp:Blk W w0.heap.size 43 (pmC p.o p.e vr vq vg)
 fwb:Blk W wb 3 [.int .i64 n]
 fs:PmS W p vr vq vg
 fbel:Below w0.heap.size w0 W
 fno:∀ g∈pre,(u && p.g.any (g==·))=false
def ReadX (w0:World) (p:PmD) (u:Bool) (n:Int) (rb:Nat) (c:Code) (pre:List Int) (W:World):Prop:=
 c=.ret∧Blk W rb 4 [.bool true]∧Below w0.heap.size w0 W∧∃ g∈pre,(u && p.g.any (g==·))=true
theorem J1 {w0:World} {p:PmD} {u:Bool} {n:Int} {vr vq vg:Value} {rb wb B:Nat} (hB:w0.heap.size≤B):OwnFrom B (ReadI w0 p u n vr vq vg rb wb):=fun _ _ _ _ hs hg hr=>
 have hr':=fun r e=> (hr r e).2
 ⟨BH hs.frb hg hr',BH hs.fp hg hr',BH hs.fwb hg hr',⟨hs.fs.1.own hg hr',hs.fs.2.1.own hg hr',hs.fs.2.2.own hg hr'⟩,hs.fbel.grown hg hs.fbel.size (fun k e=> Aj hB (hr k e).1),hs.fno⟩
theorem J2 {w0:World} {p:PmD} {u:Bool} {n:Int} {rb B:Nat} (hB:w0.heap.size≤B) (c:Code):OwnFrom B (ReadX w0 p u n rb c):=fun _ _ _ _ hs hg hr=>
 ⟨hs.1,BH hs.2.1 hg (fun r e=> (hr r e).2),hs.2.2.1.grown hg hs.2.2.1.size (fun k e=> Aj hB (hr k e).1),hs.2.2.2⟩
theorem Fw (p:PmD) (n:Int) (ls:List (Int × Int)) (vr vq vg vm:Value) (w:World) (hp:PmS w p vr vq vg) (hm:SlP w vm .i64 .i64 ls):
  Calls Tryz.prog 23 #[.agg (pmC p.o p.e vr vq vg).toArray,.int .i64 n,vm] w (fun e w'=> e=.returned (.bool (Fv p n ls))∧Below w.heap.size w w'):=by
 obtain⟨ma,mc,rfl,-⟩:=id hm
 obtain⟨R,hR⟩:∃ R,Fv p n ls=R:=⟨_,rfl⟩
 rw[hR]
 obtain⟨b,hb⟩:∃ b,okB p=b:=⟨_,rfl⟩
 obtain⟨z,hz⟩:∃ z,(n==p.o)=z:=⟨_,rfl⟩
 obtain⟨m,hmm⟩:∃ m,p.r.any (n==·)=m:=⟨_,rfl⟩
 obtain⟨u,hu⟩:∃ u,AX n=u:=⟨_,rfl⟩
 have hR2:R=(b && ((z ||m) ||(u && (DK ls n).any (fun g=> p.g.any (g==·))))):=by rw[←hR,←hb,←hz,←hmm,←hu];rfl
 obtain⟨ra,rc,rfl,-⟩:=hp.1.nums
 obtain⟨qa,qc,rfl,-⟩:=hp.2.1.nums
 obtain⟨ga,gc,rfl,-⟩:=hp.2.2.nums
 obtain⟨o,pe,pr,pq,pg⟩:=p
 simp only at hp hb hz hmm hR2 ⊢
 generalize pr.length=rl at hp ⊢
 generalize pq.length=ql at hp ⊢
 generalize pg.length=gl at hp ⊢
 generalize hls:ls.length=ml at hm ⊢
 have HLS:=Ag hls
 have HB:=Ag hb
 have HRR:=Ag hR2
 have HM:=Ag (Ai hmm (Ai hu hm))
 have H0:=Ag (show PmS w ⟨o,pe,pr,pq,pg⟩ (Value.slice ra rl rc) (Value.slice qa ql qc) (Value.slice ga gl gc)∧Below w.heap.size w w from⟨hp,Below.refl _ _⟩)
 have hg:=(by kernel_rfl:Tryz.prog.funcs[23]?=some Tryz.f23)
 refine callsIn_wide.1 (callsIn_of_wp_marks (F:=Fence.wide) (n:=9) (fn:=Tryz.f23) hg rfl trivial (wpIn_wide.2 ?_) rfl)
 simp only[Tryz.ntmps23,List.size_toArray,List.length_cons,List.length_nil,Nat.reduceAdd,Nat.reduceSub,Array.replicate_succ,Array.replicate_zero,List.push_toArray,List.append_toArray,List.nil_append,List.cons_append]
 clear hg hp hm hb hmm hu hR hR2 hls
 go_wp2_with (first
  | ((with_reducible refine Au w rfl 43 (.tmp 0) rfl (pmC o pe (Value.slice ra rl rc) (Value.slice qa ql qc) (Value.slice ga gl gc)) rfl ?_);intro a1 hb hbel hsz;have HA2:=hJ3 (H0.out.1.below hbel) (An H0.out.2 hbel (Ah _)) hb;clear hb hbel hsz)
  | ((with_reducible refine A4 a1 rfl 3 (.tmp 1) rfl (.int .i64 n) rfl rfl ?_);intro w2 hb hbel hsz;have H2:=hJ4 (HA2.out.1.below hbel) (An HA2.out.2.1 hbel (Ah _)) (HA2.out.2.2.below hbel HA2.out.2.2.lt) hb;clear hb hbel hsz)
  | ((with_reducible refine Cz w2 rfl 4 rfl (.bool false) rfl Tryz.zeroB ?_);intro w3 hb hbel hsz;have H3:=hJ5 (H2.out.1.below hbel) (An H2.out.2.1 hbel (Ah _)) (H2.out.2.2.1.below hbel H2.out.2.2.1.lt) (H2.out.2.2.2.below hbel H2.out.2.2.2.lt) hb;clear hb hbel hsz)
  | (with_reducible refine Ap rfl 43 (.tmp 3) rfl w.heap.size 0 rfl (pmC o pe (Value.slice ra rl rc) (Value.slice qa ql qc) (Value.slice ga gl gc)) _ (As H3.out.2.2.1) Tryz.underlying43 rfl (Ay _ _ _ _ _) ?_))
 refine(EC ⟨o,pe,pr,pq,pg⟩ b HB.out _ _ _ w3 H3.out.1).mono ?_
 rintro e' w4 ⟨rfl,hb⟩
 have H4:=hJ5 (H3.out.1.below hb) (An H3.out.2.1 hb (Ah _)) (H3.out.2.2.1.below hb H3.out.2.2.1.lt) (H3.out.2.2.2.1.below hb H3.out.2.2.2.1.lt) (H3.out.2.2.2.2.below hb H3.out.2.2.2.2.lt)
 clear hb
 cases b
 ·have HE:=Ag (show R=false from HRR.out)
  have r0:=H4.out.2.2.2.2.cell 0
  have r1:=H4.out.2.2.2.2.free 0
  simp only[Ab] at r0
  go_wp2_with fail
  have H9:=Ag (show Blk (w4.setCell ⟨w2.heap.size,0,none⟩ (.bool false)) w2.heap.size 4 [.bool false]∧Below w.heap.size w (w4.setCell ⟨w2.heap.size,0,none⟩ (.bool false)) from⟨H4.out.2.2.2.2.set 0 (.bool false),Aw H4.out.2.1 (Ch.set w4 ⟨w2.heap.size,0,none⟩ (.bool false)) (Ah _) (fun k hk=> by have e:k=w2.heap.size:=hk;have:=H2.out.2.1.size;omega)⟩)
  refine⟨.bool false,(by have hcc:=H9.out.1.cell 0;simp only[Ab] at hcc;simp[results,Tryz.results23,go_sem,hcc]),by rw[HE.out],H9.out.2⟩
 ·have hbz:=hz
  have c0:=H4.out.2.2.1.cell 0
  have c2:=H4.out.2.2.1.cell 2
  simp only[pmC,Ab,Ac] at c0 c2
  have k0:=H4.out.2.2.2.1.cell 0
  simp only[Ab] at k0
  cases z
  rotate_left
  ·have HE:=Ag (show R=true from HRR.out)
   have r0:=H4.out.2.2.2.2.cell 0
   have r1:=H4.out.2.2.2.2.free 0
   simp only[Ab] at r0
   go_wp2_with fail
   have H9:=Ag (show Blk (w4.setCell ⟨w2.heap.size,0,none⟩ (.bool true)) w2.heap.size 4 [.bool true]∧Below w.heap.size w (w4.setCell ⟨w2.heap.size,0,none⟩ (.bool true)) from⟨H4.out.2.2.2.2.set 0 (.bool true),Aw H4.out.2.1 (Ch.set w4 ⟨w2.heap.size,0,none⟩ (.bool true)) (Ah _) (fun k hk=> by have e:k=w2.heap.size:=hk;have:=H2.out.2.1.size;omega)⟩)
   refine⟨.bool true,(by have hcc:=H9.out.1.cell 0;simp only[Ab] at hcc;simp[results,Tryz.results23,go_sem,hcc]),by rw[HE.out],H9.out.2⟩
  have HCT:=Ag (AV n _ pr w4 H4.out.1.1)
  rw[HM.out.1] at HCT
  have r0:=H4.out.2.2.2.2.cell 0
  have r1:=H4.out.2.2.2.2.free 0
  simp only[Ab] at r0
  go_wp2_with fail
  refine HCT.out.mono ?_
  rintro e' w5 ⟨rfl,rfl⟩
  clear r0 r1 hbz
  cases m
  rotate_left
  ·have HE:=Ag (show R=true from HRR.out)
   clear c0 c2 k0
   have r0:=H4.out.2.2.2.2.cell 0
   have r1:=H4.out.2.2.2.2.free 0
   simp only[Ab] at r0
   go_wp2_with fail
   have H9:=Ag (show Blk (w4.setCell ⟨w2.heap.size,0,none⟩ (.bool true)) w2.heap.size 4 [.bool true]∧Below w.heap.size w (w4.setCell ⟨w2.heap.size,0,none⟩ (.bool true)) from⟨H4.out.2.2.2.2.set 0 (.bool true),Aw H4.out.2.1 (Ch.set w4 ⟨w2.heap.size,0,none⟩ (.bool true)) (Ah _) (fun k hk=> by have e:k=w2.heap.size:=hk;have:=H2.out.2.1.size;omega)⟩)
   refine⟨.bool true,(by have hcc:=H9.out.1.cell 0;simp only[Ab] at hcc;simp[results,Tryz.results23,go_sem,hcc]),by rw[HE.out],H9.out.2⟩
  have HE:=Ag (show R=(u && (DK ls n).any (fun g=> pg.any (g==·))) from HRR.out)
  go_wp2_with fail
  refine(I6 (.slice ma ml mc) rfl n w4).mono ?_
  rintro e' w5 ⟨bl,bw,rfl,hbl,hbw,hge,hgw,hb⟩
  have H5:=hJ5 (H4.out.1.below hb) (An H4.out.2.1 hb (Ah _)) (H4.out.2.2.1.below hb H4.out.2.2.1.lt) (H4.out.2.2.2.1.below hb H4.out.2.2.2.1.lt) (H4.out.2.2.2.2.below hb H4.out.2.2.2.2.lt)
  have HG:=Ag (show Blk w5 bl 69 [.slice ma ml mc]∧GrpW bw n (.slice ma ml mc) ls w5 from⟨hbl,hbw,HM.out.2.2.below (An H4.out.2.1 hb (Ah _))⟩)
  clear hbl hbw hge hgw hb c0 c2 k0
  go_wp2_with fail
  have HRB:=hJ3 H5.out.2.2.2.2.lt H2.out.2.2.2.lt HA2.out.2.2.lt
  obtain⟨rbb,hrbb⟩:∃ k,w2.heap.size=k:=⟨_,rfl⟩
  obtain⟨wbb,hwbb⟩:∃ k,a1.heap.size=k:=⟨_,rfl⟩
  have HI0:=Ag (show ReadI w ⟨o,pe,pr,pq,pg⟩ u n (Value.slice ra rl rc) (Value.slice qa ql qc) (Value.slice ga gl gc) rbb wbb [] w5 from by rw[←hrbb,←hwbb];exact⟨H5.out.2.2.2.2,H5.out.2.2.1,H5.out.2.2.2.1,H5.out.1,H5.out.2.1,fun g hg=> by cases hg⟩)
  rw[hrbb,hwbb] at HRB ⊢
  refine(wpIn_wide (n:=9)).1 ?_
  refine Gi (F:=Fence.wide) rfl (by omega) (gf:=80) (lb:=#[.pointer (some ⟨bl,0,none⟩),.pointer (some ⟨bw,0,none⟩)]) rfl trivial (enters_of Tryz.func80 (by kernel_rfl) rfl) (I5 n bl bw (.slice ma ml mc) ls w5 HG.out.1 HG.out.2) (Below.refl _ _) (fun _=> rfl)
   (fun pre x sz W k _ hk=> .inl (Lw HG.out.2 hk)) (fun _ _ _ _ _ _ _ _ _=> trivial) (ReadI w ⟨o,pe,pr,pq,pg⟩ u n (Value.slice ra rl rc) (Value.slice qa ql qc) (Value.slice ga gl gc) rbb wbb) (ReadX w ⟨o,pe,pr,pq,pg⟩ u n rbb) (J1 (Nat.le_of_lt (by have:=HRB.out;omega))) (fun c=> J2 (Nat.le_of_lt (by have:=HRB.out;omega)) c) HI0.out
   (fun x=> {tmps:=#[.agg (pmC o pe (Value.slice ra rl rc) (Value.slice qa ql qc) (Value.slice ga gl gc)).toArray,.int .i64 n,.slice ma ml mc,.pointer (some ⟨w.heap.size,0,none⟩),.pointer (some ⟨wbb,0,none⟩),undef,.pointer (some ⟨rbb,0,none⟩),.int .i64 x,.agg (pmC o pe (Value.slice ra rl rc) (Value.slice qa ql qc) (Value.slice ga gl gc)).toArray,.int .i64 0,.bool false,.int .i64 n,.pointer (some ⟨w.heap.size,0,none⟩),.int .i64 o,.bool false,.bool false,.pointer (some ⟨w.heap.size,2,none⟩),.slice ra rl rc,.int .i64 n,.bool false,.bool false,.slice ma ml mc,.int .i64 n,.func (.func 80) #[] #[.pointer (some ⟨bl,0,none⟩),.pointer (some ⟨bw,0,none⟩)],.int .i64 x,undef,undef,undef,undef,undef,undef,undef,undef],defers:=[]})
   ?assign ?body ?done ?stop
  case assign=>
   rintro l x W K hK
   rw[zip1,I7]
   simp only[Ad,Ae,Af]
   gi_wp2
   exact hK
  case body=>
   rintro l pre x W0' W hl - hI0 hI hgr hpr
   have HI:=Ag hI
   have HU:=Ag ((WideF.round l).calls (n:=6) (Dr n W))
   rw[HM.out.2.1] at HU
   obtain⟨cg,hcg⟩:∃ b,pg.any (x==·)=b:=⟨_,rfl⟩
   have HCG:=Ag ((WideF.round l).calls (n:=6) (AV x _ pg W hI.fs.2.2))
   rw[hcg] at HCG
   have HCE:=Ag hcg
   have k0:=hI.fwb.cell 0
   have c4:=hI.fp.cell 4
   have r0:=hI.frb.cell 0
   have r1:=hI.frb.free 0
   simp only[pmC,Ab,Ac] at c4 k0 r0
   clear hI hI0 hgr hpr hcg
   cases u
   ·gi_wp2_with fail
    refine⟨trivial,?_⟩
    refine HU.out.mono ?_
    rintro e w' ⟨rfl,rfl⟩
    gi_wp2_with fail
    refine⟨trivial,?_⟩
    gi_wp2_with fail
    refine⟨KeepsFrom.refl _ _,fun _ _=> rfl,⟨HI.out.frb,HI.out.fp,HI.out.fwb,HI.out.fs,HI.out.fbel,fun g hg=> rfl⟩⟩
   ·gi_wp2_with fail
    refine⟨trivial,?_⟩
    refine HU.out.mono ?_
    rintro e w' ⟨rfl,rfl⟩
    gi_wp2_with fail
    refine⟨trivial,?_⟩
    refine HCG.out.mono ?_
    rintro e w' ⟨rfl,rfl⟩
    cases cg
    ·gi_wp2_with fail
     refine⟨KeepsFrom.refl _ _,fun _ _=> rfl,⟨HI.out.frb,HI.out.fp,HI.out.fwb,HI.out.fs,HI.out.fbel,fun g hg=> ?_⟩⟩
     rcases List.mem_append.1 hg with hg|hg
     ·exact HI.out.fno g hg
     ·obtain rfl:g=x:=by simpa using hg
      show(true && pg.any (g==·))=false
      rw[HCE.out];rfl
    ·gi_wp2_with fail
     have hc:=Ch.set W ⟨rbb,0,none⟩ (.bool true)
     refine⟨Hi hc HI.out.frb,rfl,HI.out.frb.set 0 (.bool true),Aw HI.out.fbel hc (Ah _) (fun k hk=> by have e:k=rbb:=hk;have:=HRB.out;omega),x,by simp,?_⟩
     show(true && pg.any (x==·))=true
     rw[HCE.out];rfl
  case done=>
   rintro D xs W hD rfl hI hK
   have HF:=Ag (show R=false by
    rw[HE.out]
    cases u
    ·rfl
    ·rw[Bool.true_and,List.any_eq_false]
     intro g hg
     have:=hI.fno g hg
     rw[Bool.true_and] at this
     rw[this];simp)
   have HI:=Ag hI
   have HD:=Ag hK
   have r0:=hI.frb.cell 0
   have r1:=hI.frb.free 0
   simp only[Ab] at r0
   clear hI hK
   go_wp2_with fail
   have hc:=Ch.set W ⟨rbb,0,none⟩ (.bool false)
   have hK2:(W.setCell ⟨rbb,0,none⟩ (.bool false)).heap[D]?=some (.deferred (some [])):=(hc.block D (lt_of_block HD.out) (fun e=> by have e:D=rbb:=e;have:=HRB.out;omega)).trans HD.out
   refine⟨by simp,.inl ⟨_,_,rfl,run_takeDeferred hK2,?_⟩⟩
   have hb5:=BH (HI.out.frb.set 0 (.bool false)) (grownBy_putObj' (W.setCell ⟨rbb,0,none⟩ (.bool false)) D (.deferred none)) (fun r e=> by cases e;exact⟨_,hK2,rfl⟩)
   have hb6:Below w.heap.size w (W.setCell ⟨rbb,0,none⟩ (.bool false)):=Aw HI.out.fbel hc (Ah _) (fun k hk=> by have e:k=rbb:=hk;have:=HRB.out;omega)
   refine⟨.bool false,(by have hcc:=hb5.cell 0;simp only[Ae,Ab] at hcc;simp[results,Tryz.results23,go_sem,hcc]),by rw[HF.out],?_⟩
   exact hb6.grown (grownBy_putObj' _ D (.deferred none)) hb6.size (fun k e=> by cases e;have:=HRB.out;omega)
  case stop=>
   rintro D c pre W hD hSp ⟨rfl,hrb,hbel,g,hg,hgt⟩ hK
   have HF:=Ag (show R=true by
    rw[HE.out]
    have h1:u=true:=by cases u with
     | true=> rfl
     | false=> cases hgt
    subst h1
    rw[Bool.true_and,List.any_eq_true]
    exact⟨g,hSp.subset hg,hgt⟩)
   have HD:=Ag hK
   have HB9:=Ag (Ai hrb hbel)
   clear hSp hg hgt hK hrb hbel
   refine wpIn_wide.2 ?_
   go_wp2_with fail
   refine⟨by simp,.inl ⟨_,_,rfl,run_takeDeferred HD.out,?_⟩⟩
   have hb5:=BH HB9.out.1 (grownBy_putObj' W D (.deferred none)) (fun r e=> by cases e;exact⟨_,HD.out,rfl⟩)
   refine⟨.bool true,(by have hcc:=hb5.cell 0;simp only[Ab] at hcc;simp[results,Tryz.results23,go_sem,hcc]),by rw[HF.out],?_⟩
   exact HB9.out.2.grown (grownBy_putObj' _ D (.deferred none)) HB9.out.2.size (fun k e=> by cases e;have:=HRB.out;omega)
end Go.Proofs.YtgdlfiphihaooaaGreat
namespace Go.Proofs.YtgdlfiphihaooaaGreat
open Go Go.RowKit Go.Sort
theorem FL (args:Array Value) (w:World):Sem.run Tryz.prog (callFunc 110 args) w=.ok (.enter 110 args) w:=
 AP Tryz.func110 (by kernel_rfl) (by kernel_rfl) args w
theorem J3 (p:PmD) (vr vq vg:Value) (w:World) (hp:PmS w p vr vq vg) (hl:PmL p):
  Calls Tryz.prog 99 #[.agg (pmC p.o p.e vr vq vg).toArray] w (EF w (Bj p (BN p))):=by
 obtain⟨⟨q,e⟩,hR⟩:∃ R,Bj p (BN p)=R:=⟨_,rfl⟩
 have HP:=Ag (Ai hp (Ai hl hR))
 rw[hR]
 obtain⟨ra,rc,rfl,-⟩:=hp.1.nums
 obtain⟨qa,qc,rfl,-⟩:=hp.2.1.nums
 obtain⟨ga,gc,rfl,-⟩:=hp.2.2.nums
 obtain⟨o,pe,pr,pq,pg⟩:=p
 simp only at HP ⊢
 generalize pr.length=rl at HP ⊢
 generalize pq.length=ql at HP ⊢
 generalize pg.length=gl at HP ⊢
 clear hp hl hR
 go_enter Tryz.func99,Tryz.ntmps99
 have H0:=Ag (show PmS w ⟨o,pe,pr,pq,pg⟩ (Value.slice ra rl rc) (Value.slice qa ql qc) (Value.slice ga gl gc)∧Below w.heap.size w w from⟨HP.out.1,Below.refl _ _⟩)
 go_wp2_with (first
  | ((with_reducible refine Au w rfl 43 (.tmp 0) rfl (pmC o pe (Value.slice ra rl rc) (Value.slice qa ql qc) (Value.slice ga gl gc)) rfl ?_);intro a1 hb hbel hsz;have HA2:=hJ3 (H0.out.1.below hbel) (An H0.out.2 hbel (Ah _)) hb;clear hb hbel hsz)
  | ((with_reducible refine Av a1 rfl 43 rfl (pmC 0 0 (.slice none 0 0) (.slice none 0 0) (.slice none 0 0)) Tryz.zeroPm ?_);intro w3 hb hbel hsz;have H3:=hJ5 (HA2.out.1.below hbel) (An HA2.out.2.1 hbel (Ah _)) (HA2.out.2.2.below hbel HA2.out.2.2.lt) hb HA2.out.2.1.size;clear hb hbel hsz)
  | (with_reducible refine Ap rfl 43 (.tmp 1) rfl w.heap.size 0 rfl (pmC o pe (Value.slice ra rl rc) (Value.slice qa ql qc) (Value.slice ga gl gc)) _ (As H3.out.2.2.1) Tryz.underlying43 rfl (Ay _ _ _ _ _) ?_))
 have h1:=DZ ⟨o,pe,pr,pq,pg⟩ (BN ⟨o,pe,pr,pq,pg⟩) 110 [] _ _ _ w3 H3.out.1 HP.out.2.1 FL (fun hok wz g B xr xq xg hbl hge hB hab hblk hps hoff=> DY ⟨o,pe,pr,pq,pg⟩ g B xr xq xg wz hblk hps hoff hab (B8 hok HP.out.2.1).2.1 (B8 hok HP.out.2.1).2.2)
 rw[HP.out.2.2] at h1
 refine(I3 h1).mono ?_
 clear h1
 rintro e' y4 ⟨x3r,x3q,x3g,rfl,hs,hb,hab⟩
 obtain⟨x3a0,x3c0,rfl,-⟩:=hs.1.shape
 obtain⟨x3a1,x3c1,rfl,-⟩:=hs.2.1.shape
 obtain⟨x3a2,x3c2,rfl,-⟩:=hs.2.2.shape
 generalize (ofK .i64 q.r).length=x3l0 at hs hab ⊢
 generalize (ofK .i64 q.q).length=x3l1 at hs hab ⊢
 generalize (ofK .i64 q.g).length=x3l2 at hs hab ⊢
 have HY5:=hJ7 (H3.out.1.below hb) (An H3.out.2.1 hb (Ah _)) (H3.out.2.2.1.below hb H3.out.2.2.1.lt) (H3.out.2.2.2.1.below hb H3.out.2.2.2.1.lt) H3.out.2.2.2.2 hs hab
 clear hs hb hab
 have HOF:=Ag (show Off a1.heap.size (Value.slice x3a0 x3l0 x3c0) (Value.slice x3a1 x3l1 x3c1) (Value.slice x3a2 x3l2 x3c2) from Lu HY5.out.2.2.2.2.2.2 H3.out.2.2.2.1.lt)
 go_wp2_with ((with_reducible refine Ao y4 rfl 43 (.tmp 2) (.tmp 6) rfl a1.heap.size 43 (pmC 0 0 (.slice none 0 0) (.slice none 0 0) (.slice none 0 0)) (pmC q.o q.e (Value.slice x3a0 x3l0 x3c0) (Value.slice x3a1 x3l1 x3c1) (Value.slice x3a2 x3l2 x3c2)) HY5.out.2.2.2.1 rfl rfl rfl (Ay _ _ _ _ _) (Bn _ _ _ _ _ _ _ _ _ _ _) ?_);intro w9 hb hc hs;have H9:=hJ2 hb hc;clear hb hc hs)
 refine bodyPost_ret (AQ Tryz.results99 _ _ a1.heap.size _ _ rfl H9.out.1 _ Tryz.underlying43 rfl (Ay _ _ _ _ _) _ rfl) rfl ?_
 exact⟨_,_,_,rfl,HY5.out.2.2.2.2.2.1.ch H9.out.2 HOF.out,Aw HY5.out.2.1 H9.out.2 (Ah _) (fun k hk=> by have e:k=a1.heap.size:=hk;have:=HY5.out.2.2.2.2.1;omega),HY5.out.2.2.2.2.2.2.mono H3.out.2.1.size⟩
end Go.Proofs.YtgdlfiphihaooaaGreat
namespace Go.Proofs.YtgdlfiphihaooaaGreat
open Go Go.RowKit
def EK (w:World) (r:Nat) (s:ByteArray) (pos:Nat):Prop:=w.heap[r]?=some (.stringIter s pos)
theorem EK.lt {w:World} {r:Nat} {s:ByteArray} {pos:Nat} (h:EK w r s pos):r<w.heap.size:=lt_of_block h
theorem Hj {P:Program} {w:World} {r:Nat} {s:ByteArray} {pos:Nat} (h:EK w r s pos) (ty:TypeId) (hp:pos<s.size):
  ∃ w',(Instr.next (.pointer (some ⟨r,0,none⟩)) true ty).run P w=.ok (.tuple #[.bool true,.int .i64 pos,.int .i32 (Utf8.decode s pos).1]) w'∧EK w' r s (pos+(Utf8.decode s pos).2)∧Ch (·=r) w w'∧w'.heap.size=w.heap.size:=by
 have hlt:=h.lt
 unfold EK at h
 refine⟨{w with heap:=w.heap.setIfInBounds r (.stringIter s (pos+(Utf8.decode s pos).2))},?_,?_,⟨rfl,rfl,rfl,by simp,fun k hk hs=> ?_⟩,by simp⟩
 ·simp only[Instr.next,getObj,setObj,Sem.run_bind,Sem.run,h,Result.andThen,hp,if_true]
  simp[goInt]
 ·show(w.heap.setIfInBounds r _)[r]?=_
  simp[hlt]
 ·show(w.heap.setIfInBounds r _)[k]?=_
  rw[Array.getElem?_setIfInBounds_ne (fun e=> hs e.symm)]
theorem GP {P:Program} {w:World} {r:Nat} {s:ByteArray} {pos:Nat} (h:EK w r s pos) (ty:TypeId) (hp:¬ pos<s.size):
  (Instr.next (.pointer (some ⟨r,0,none⟩)) true ty).run P w=.ok (.tuple #[.bool false]) w:=by
 unfold EK at h
 simp only[Instr.next,getObj,Sem.run_bind,Sem.run,h,Result.andThen,hp,if_false]
 rfl
theorem CP {P:Program} {fn:Func} {p u:Tmp} {ty:TypeId} (h:fn.results=#[.cell p ty,.tmp u]) (tmps:Array Value) (w:World) (g:Nat) (e:TypeId) (xs:List Value) (hp:tmps.getD p undef=.pointer (some ⟨g,0,none⟩)) (hb:Blk w g e xs) (d:TypeDesc)
  (hu:P.underlying ty=some d) (hd:d.isRow=true) (hi:(P.info? ty).map (·.size)=some xs.length) (v:Value) (hv:tmps.getD u undef=v):(results fn tmps).run P w=.ok (.tuple #[.agg xs.toArray,v]) w:=by
 rw[results_cell_tmp h,hp,hv]
 have hl:=run_loadVar_mid (P:=P) w g 0 ty xs d (fun j v hv=> by rw[Nat.zero_add,hb.cell];exact hv) hu hd hi
 simp only[asAddr,Sem.run_pure,Result.andThen_ok,hl]
theorem CA (n:Int) (w:World):Calls Tryz.prog 64 #[.int .i64 n] w (fun e w'=> e=.returned (.bool (AX n))∧w=w'):=by
 by_cases h1:1≤n
 ·by_cases h2:n≤6
  ·have HU:=Ag (show AX n=true by simp[AX,h1,h2])
   rw[HU.out]
   go_enter Tryz.func64,Tryz.ntmps64
   go_wp2
   go_ret
   exact⟨rfl,rfl⟩
  ·have HU:=Ag (show AX n=false by simp[AX,h2])
   rw[HU.out]
   go_enter Tryz.func64,Tryz.ntmps64
   go_wp2
   go_ret
   exact⟨rfl,rfl⟩
 ·have HU:=Ag (show AX n=false by simp[AX,h1])
  rw[HU.out]
  go_enter Tryz.func64,Tryz.ntmps64
  go_wp2
  go_ret
  exact⟨rfl,rfl⟩
theorem Ic (s:ByteArray) (pos:Nat) (h:pos<s.size):1≤(Utf8.decode s pos).2:=by
 unfold Utf8.decode
 simp only[]
 repeat' split
 all_goals first|omega|(simp only[];omega)|(exfalso;simp_all;omega)|simp_all
def Eo (s:ByteArray):Nat→Nat→Bool
 | 0,_=> true
 | f+1,pos=> if pos<s.size then (if 33≤(Utf8.decode s pos).1∧(Utf8.decode s pos).1≤126 then Eo s f (pos+(Utf8.decode s pos).2) else false) else true
theorem I8 (s:ByteArray) (f pos:Nat):Eo s (f+1) pos=if pos<s.size then (if 33≤(Utf8.decode s pos).1∧(Utf8.decode s pos).1≤126 then Eo s f (pos+(Utf8.decode s pos).2) else false) else true:=rfl
theorem J4 {s:ByteArray} {f pos:Nat} (h:¬ pos<s.size):Eo s f pos=true:=by
 cases f
 ·rfl
 ·unfold Eo;rw[if_neg h]
def Gj (s:ByteArray):Bool:=Eo s s.size 0 && (decide (1≤(s.size:Int)) && decide ((s.size:Int)≤24))
theorem KF (s:ByteArray) (w:World):Calls Tryz.prog 67 #[.string s] w (fun e w'=> e=.returned (.bool (Gj s))∧Below w.heap.size w w'):=by
 obtain⟨R,hR⟩:∃ R,Gj s=R:=⟨_,rfl⟩
 have HR:=Ag hR
 rw[hR]
 clear hR
 go_enter Tryz.func67,Tryz.ntmps67
 go_wp2_with fail
 skip
 have HI0:=Ag (show EK (w.iter s 0) w.heap.size s 0 from World.iter_heap w s 0)
 have HB0:=Ag (show Below w.heap.size w (w.iter s 0) from(Below.refl _ w).alloc (Ah _) _)
 go_wp2_with fail
 go_loopg [] s.size (fun q wr=> ∃ k:Nat,Hid (s.size≤k+q)∧Hid (Eo s s.size 0=Eo s q k)∧Hid (EK wr w.heap.size s k)∧Hid (Below w.heap.size w wr))
 case atStart=> exact⟨0,Ag (by omega),Ag rfl,HI0,HB0⟩
 case round=>
  clear HI0 HB0
  obtain⟨k,HK,HN,HI,HW⟩:=hrel
  by_cases hk:k<s.size
  ·obtain⟨w2,hrun,hit2,hch2,hsz2⟩:=Hj (P:=Tryz.prog) HI.out 0 hk
   have HI2:=Ag hit2
   have HW2:=Ag (Aw HW.out hch2 (Ah _) (fun j h=> by have h2:j=w.heap.size:=h;omega))
   have hwp:=Ic s k hk
   have HD:=Ag hk
   cases gk with
   | zero=> exact absurd HK.out (by omega)
   | succ q=>
    have HN2:=Ag (show Eo s s.size 0=if 33≤(Utf8.decode s k).1∧(Utf8.decode s k).1≤126 then Eo s q (k+(Utf8.decode s k).2) else false from by rw[HN.out,I8,if_pos HD.out])
    generalize Utf8.decode s k=d at hrun HI2 hwp HN2
    obtain⟨c,n⟩:=d
    simp only at hrun HI2 hwp HN2
    have HP:=Ag hwp
    clear hit2 hch2 hsz2 HI HW HN hk hwp
    by_cases h1:(33:Int)≤(c:Int)
    ·by_cases h2:(c:Int)≤126
     ·have HC:=Ag (Ai h1 h2)
      go_wp2_with fail
      go_roundg q
      case measure=> omega
      case rel=> exact⟨k+n,Ag (by have h3:=HK.out;have h4:=HP.out;omega),Ag (by rw[HN2.out,if_pos (by have h3:=HC.out;omega)]),HI2,HW2⟩
     ·have HE:=Ag (show R=false from by rw[←HR.out];unfold Gj;rw[HN2.out,if_neg (by omega)];rfl)
      go_wp2_with fail
      go_ret
      exact⟨by rw[HE.out];rfl,HW2.out⟩
    ·have HE:=Ag (show R=false from by rw[←HR.out];unfold Gj;rw[HN2.out,if_neg (by omega)];rfl)
     go_wp2_with fail
     go_ret
     exact⟨by rw[HE.out];rfl,HW2.out⟩
  ·have hnx:=fun ty=> GP (P:=Tryz.prog) HI.out ty hk
   have HE:=Ag (show R=(decide (1≤(s.size:Int)) && decide ((s.size:Int)≤24)) from by rw[←HR.out];unfold Gj;rw[HN.out,J4 hk,Bool.true_and])
   clear hk HN
   by_cases h1:(1:Int)≤(s.size:Int)
   ·by_cases h2:(s.size:Int)≤24
    ·have HF:=Ag (show R=true from by rw[HE.out];simp[h1,h2])
     go_wp2_with fail
     go_ret
     exact⟨by rw[HF.out];rfl,HW.out⟩
    ·have HF:=Ag (show R=false from by rw[HE.out];simp[h2])
     go_wp2_with fail
     go_ret
     exact⟨by rw[HF.out];rfl,HW.out⟩
   ·have HF:=Ag (show R=false from by rw[HE.out];simp[h1])
    go_wp2_with fail
    go_ret
    exact⟨by rw[HF.out];rfl,HW.out⟩
def BE (s:ByteArray):Int:=
 if Gj s=true then (if h:3≤s.size then (if ((s[1]'(by omega)).toNat:Int)=47 then (if AX (((s[0]'(by omega)).toNat:Int) - 48)=true then ((s[0]'(by omega)).toNat:Int) - 48 else 0) else 0) else 0) else 0
theorem Eb (s:ByteArray) (w:World):Calls Tryz.prog 36 #[.string s] w (fun e w'=> e=.returned (.int .i64 (BE s))∧Below w.heap.size w w'):=by
 obtain⟨R,hR⟩:∃ R,BE s=R:=⟨_,rfl⟩
 have HR:=Ag hR
 rw[hR]
 clear hR
 obtain⟨nb,hnb⟩:∃ nb,Gj s=nb:=⟨_,rfl⟩
 have HNB:=Ag hnb
 have HN:=Ag (KF s w)
 clear hnb
 go_enter Tryz.func36,Tryz.ntmps36
 go_wp2_with fail
 refine HN.out.mono ?_
 rintro e w1 ⟨rfl,hb⟩
 have HB:=Ag hb
 rw[HNB.out]
 clear hb
 cases nb with
 | false=>
  have HE:=Ag (show R=0 from by rw[←HR.out];unfold BE;rw[HNB.out,if_neg (by simp)])
  go_wp2_with fail
  go_ret
  exact⟨by rw[HE.out];rfl,HB.out⟩
 | true=>
  by_cases h3:3≤s.size
  ·have h1s:1<s.size:=by omega
   have h0s:0<s.size:=by omega
   obtain⟨b1,hb1⟩:∃ b:Nat,(s[1]'h1s).toNat=b:=⟨_,rfl⟩
   obtain⟨b0,hb0⟩:∃ b:Nat,(s[0]'h0s).toNat=b:=⟨_,rfl⟩
   have HE:=Ag (show R=if (b1:Int)=47 then (if AX ((b0:Int) - 48)=true then (b0:Int) - 48 else 0) else 0 from by rw[←HR.out];unfold BE;rw[HNB.out,if_pos rfl,dif_pos h3];simp only[hb1,hb0])
   have hb0l:b0<256:=by rw[←hb0];exact UInt8.toNat_lt _
   by_cases h47:(b1:Int)=47
   ·have h47e:((b1:Int)==47)=true:=by simpa using h47
    have HF:=Ag (show R=if AX ((b0:Int) - 48)=true then (b0:Int) - 48 else 0 from by rw[HE.out,if_pos h47])
    go_wp2_with fail
    refine(CA _ _).mono ?_
    rintro e w2 ⟨rfl,rfl⟩
    obtain⟨ub,hub⟩:∃ ub,AX ((b0:Int) - 48)=ub:=⟨_,rfl⟩
    have HUB:=Ag hub
    rw[hub]
    clear hub
    cases ub
    ·have HG:=Ag (show R=0 from by rw[HF.out,HUB.out,if_neg (by simp)])
     go_wp2_with fail
     go_ret
     exact⟨by rw[HG.out];rfl,HB.out⟩
    ·have HG:=Ag (show R=(b0:Int) - 48 from by rw[HF.out,HUB.out,if_pos rfl])
     go_wp2_with fail
     go_ret
     exact⟨by rw[HG.out];rfl,HB.out⟩
   ·have h47e:((b1:Int)==47)=false:=by simpa using h47
    have h47n:((b1:Int) !=47)=true:=by simpa using h47
    have HF:=Ag (show R=0 from by rw[HE.out,if_neg h47])
    go_wp2_with fail
    go_ret
    exact⟨by rw[HF.out];rfl,HB.out⟩
  ·have h3':(s.size:Int)<3:=by omega
   have HE:=Ag (show R=0 from by rw[←HR.out];unfold BE;rw[HNB.out,if_pos rfl,dif_neg h3])
   go_wp2_with fail
   go_ret
   exact⟨by rw[HE.out];rfl,HB.out⟩
theorem A0 {P:Program} {o:Oper} {a:Act} {C:World→Prop} {K:Act→Prop} (ty:TypeId) (x:Operand) (ho:o.op=.load ty x) (b off:Nat) (hx:a.eval x=.pointer (some ⟨b,off,none⟩)) (cs:List Value) (d:TypeDesc)
  (hc:∀ w,C w→w.rangeAt b off cs) (hu:P.underlying ty=some d) (hd:d.isRow=true) (hi:(P.info? ty).map (·.size)=some cs.length) (h:K (a.put o.dst (.agg cs.toArray))):o.quiet P a C K:=
 ⟨.agg cs.toArray,fun w hw=> by
  have hrun:(execOp a.eval o).run P w=.ok (.value (.agg cs.toArray)) w:=by
   unfold execOp
   simp only[ho,hx,Instr.loadAt,Instr.sureAddr,Sem.run_bind,Sem.run_pure,Result.andThen_ok,run_loadVar_mid w b off ty cs d (hc w hw) hu hd hi]
  unfold Oper.quietAt
  rw[hrun]
  exact⟨rfl,rfl⟩,h⟩
theorem Ie {w:World} {g:Nat} {e:TypeId} {xs:List Value} (h:Blk w g e xs):w.rangeAt g 0 xs:=fun j v hv=> by rw[Nat.zero_add,h.cell];exact hv
theorem A6 {w:World} {g off:Nat} {xs:List Value} (h:w.rangeAt g off xs) (w':World) (hw:∃ p:Regrown,w'=Bf w p):w'.rangeAt g off xs:=by
 obtain⟨p,rfl⟩:=hw
 exact fun j v hv=> AS (h j v hv) p
end Go.Proofs.YtgdlfiphihaooaaGreat

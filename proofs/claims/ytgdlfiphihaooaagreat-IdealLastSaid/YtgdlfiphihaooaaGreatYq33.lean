import Derived.Test.YtgdlfiphihaooaaGreatYq32
set_option linter.unusedSimpArgs false
set_option linter.unusedVariables false
set_option maxRecDepth 100000
set_option maxHeartbeats 8000000
open _root_.List renaming getElem?_toArray→Aa,getElem?_cons_zero→Ab,getElem?_cons_succ→Ac,setIfInBounds_toArray→Ad,set_cons_zero→Ae,set_cons_succ→Af
open _root_.Go.Lib renaming hid→Ag
open _root_.Nat renaming le_refl→Ah,le_trans→Aj,lt_of_lt_of_le→Ak
open _root_.And renaming intro→Ai
open _root_.Go.Act renaming put→Al
namespace Go.Proofs.YtgdlfiphihaooaaGreat
open Go Go.RowKit
def nmW:ByteArray:=⟨#[49,47,102]⟩
def opsW:List OpM:=[⟨1,1,nmW,0,0,false,txT ⟨#[120]⟩⟩,⟨3,2,nmW,0,0,false,tm0⟩,⟨4,1,nmW,2,0,false,tm0⟩,⟨3,2,nmW,0,0,false,tm0⟩]
def Dy:IdM × List ResM × Int:=Hp C5 opsW
theorem K2:Dy.2.2=0:=by kernel_rfl
theorem CD:Dy.2.1.length=4:=by kernel_rfl
theorem runW_e:Dy.2.1.map (·.e)=[0,280,0,0]:=by kernel_rfl
theorem runW_v:Dy.2.1.map (·.v)=[0,0,0,1]:=by kernel_rfl
theorem runW_b:Dy.2.1.map (fun r=> Df r.b (txT ⟨#[120]⟩))=[false,false,false,true]:=by kernel_rfl
theorem runW_r:(AQ Dy.1 nmW).length=2:=by kernel_rfl
theorem runW_h:(CU Dy.1 nmW).length=1:=by kernel_rfl
theorem Jp:Dy.1.cs.length=0∧Dy.1.fs.length=1:=by
 constructor <;> kernel_rfl
theorem Hq {α:Type} [BEq α] {a b:α} {c:Bool} (h:(a==b)=c):(a !=b)=!c:=by unfold bne;rw[h]
theorem Jq:∀ (a:Tm),∀ (b:Tm) (ca cb:List Value) (Fa Fb:Nat→Prop) (w:World),TmC Fa w ca a→TmC Fb w cb b→Calls Tryz.prog 20 #[.agg ca.toArray,.agg cb.toArray] w (fun e w'=> e=.returned (.bool (Df a b))∧Below w.heap.size w w'):=by
 refine Tm.ind fun k u n s ks ih b ca cb Fa Fb w ha hb=> ?_
 obtain⟨k',u',n',s',ks'⟩:=b
 obtain⟨ao,c,rfl,hca,hcm,hsa⟩:=ha.shape
 obtain⟨bo,d,rfl,hdb,hdm,hsb⟩:=hb.shape
 simp only[Tm.k,Tm.u,Tm.n,Tm.s,Tm.ks] at hca hdb hsa hsb ⊢
 have HIH:=Ag ih
 have HS:=Ag (Ai hsa hsb)
 rw[Df]
 obtain⟨l,hl⟩:∃ l,ks.length=l:=⟨_,rfl⟩
 obtain⟨m,hm⟩:∃ l,ks'.length=l:=⟨_,rfl⟩
 have HM:=Ag hl
 have HN:=Ag hm
 rw[hl,hm] at HS
 rw[hl] at hca
 rw[hm] at hdb
 rw[hl,hm]
 have hl63:l≤9223372036854775807:=by unfold maxLen at hcm;omega
 have hm63:m≤9223372036854775807:=by unfold maxLen at hdm;omega
 clear ha hb ih hsa hsb hl hm hca hdb hcm hdm
 obtain⟨bk,hk⟩:∃ b,(k==k')=b:=⟨_,rfl⟩
 obtain⟨bu,hu⟩:∃ b,(u==u')=b:=⟨_,rfl⟩
 obtain⟨bn,hn⟩:∃ b,(n==n')=b:=⟨_,rfl⟩
 obtain⟨bs,hs⟩:∃ b,(s.toList==s'.toList)=b:=⟨_,rfl⟩
 obtain⟨R,hR⟩:∃ R,(bk && (bu && (bn && (bs && BO ks ks'))))=R:=⟨_,rfl⟩
 rw[hk,hu,hn,hs,hR]
 have HR:=Ag hR
 have nk:=Hq hk
 have nu:=Hq hu
 have nn:=Hq hn
 have ns:=Hq hs
 clear hR
 have H0:=Ag (Below.refl w.heap.size w)
 cases bk
 ·simp only[Bool.not_false] at nk
  go_enter Tryz.func20,Tryz.ntmps20
  go_wp2_with (first
  | ((with_reducible refine Au w rfl 29 (.tmp 0) rfl (tmC k u n s (.slice ao l c)) rfl ?_);intro a1 hb hbel hsz;have HA1:=hJ2 (An H0.out hbel (Ah _)) hb;clear hb hbel hsz)
  | ((with_reducible refine Au a1 rfl 29 (.tmp 1) rfl (tmC k' u' n' s' (.slice bo m d)) rfl ?_);intro a2 hb hbel hsz;have HA2:=hJ3 (An HA1.out.1 hbel (Ah _)) (HA1.out.2.below hbel HA1.out.2.lt) hb;have c0:=HA2.out.2.1.cell 0;have d0:=HA2.out.2.2.cell 0;have c1:=HA2.out.2.1.cell 1;have d1:=HA2.out.2.2.cell 1;have c2:=HA2.out.2.1.cell 2;have d2:=HA2.out.2.2.cell 2;have c3:=HA2.out.2.1.cell 3;have d3:=HA2.out.2.2.cell 3;have c4:=HA2.out.2.1.cell 4;have d4:=HA2.out.2.2.cell 4;simp only[tmC,Ab,Ac] at c0 c1 c2 c3 c4 d0 d1 d2 d3 d4;clear hb hbel hsz))
  go_ret
  exact⟨by rw[←HR.out];rfl,HA2.out.1⟩
 simp only[Bool.not_true] at nk
 cases bu
 ·simp only[Bool.not_false] at nu
  go_enter Tryz.func20,Tryz.ntmps20
  go_wp2_with (first
  | ((with_reducible refine Au w rfl 29 (.tmp 0) rfl (tmC k u n s (.slice ao l c)) rfl ?_);intro a1 hb hbel hsz;have HA1:=hJ2 (An H0.out hbel (Ah _)) hb;clear hb hbel hsz)
  | ((with_reducible refine Au a1 rfl 29 (.tmp 1) rfl (tmC k' u' n' s' (.slice bo m d)) rfl ?_);intro a2 hb hbel hsz;have HA2:=hJ3 (An HA1.out.1 hbel (Ah _)) (HA1.out.2.below hbel HA1.out.2.lt) hb;have c0:=HA2.out.2.1.cell 0;have d0:=HA2.out.2.2.cell 0;have c1:=HA2.out.2.1.cell 1;have d1:=HA2.out.2.2.cell 1;have c2:=HA2.out.2.1.cell 2;have d2:=HA2.out.2.2.cell 2;have c3:=HA2.out.2.1.cell 3;have d3:=HA2.out.2.2.cell 3;have c4:=HA2.out.2.1.cell 4;have d4:=HA2.out.2.2.cell 4;simp only[tmC,Ab,Ac] at c0 c1 c2 c3 c4 d0 d1 d2 d3 d4;clear hb hbel hsz))
  go_ret
  exact⟨by rw[←HR.out];rfl,HA2.out.1⟩
 simp only[Bool.not_true] at nu
 cases bn
 ·simp only[Bool.not_false] at nn
  go_enter Tryz.func20,Tryz.ntmps20
  go_wp2_with (first
  | ((with_reducible refine Au w rfl 29 (.tmp 0) rfl (tmC k u n s (.slice ao l c)) rfl ?_);intro a1 hb hbel hsz;have HA1:=hJ2 (An H0.out hbel (Ah _)) hb;clear hb hbel hsz)
  | ((with_reducible refine Au a1 rfl 29 (.tmp 1) rfl (tmC k' u' n' s' (.slice bo m d)) rfl ?_);intro a2 hb hbel hsz;have HA2:=hJ3 (An HA1.out.1 hbel (Ah _)) (HA1.out.2.below hbel HA1.out.2.lt) hb;have c0:=HA2.out.2.1.cell 0;have d0:=HA2.out.2.2.cell 0;have c1:=HA2.out.2.1.cell 1;have d1:=HA2.out.2.2.cell 1;have c2:=HA2.out.2.1.cell 2;have d2:=HA2.out.2.2.cell 2;have c3:=HA2.out.2.1.cell 3;have d3:=HA2.out.2.2.cell 3;have c4:=HA2.out.2.1.cell 4;have d4:=HA2.out.2.2.cell 4;simp only[tmC,Ab,Ac] at c0 c1 c2 c3 c4 d0 d1 d2 d3 d4;clear hb hbel hsz))
  go_ret
  exact⟨by rw[←HR.out];rfl,HA2.out.1⟩
 simp only[Bool.not_true] at nn
 cases bs
 ·simp only[Bool.not_false] at ns
  go_enter Tryz.func20,Tryz.ntmps20
  go_wp2_with (first
  | ((with_reducible refine Au w rfl 29 (.tmp 0) rfl (tmC k u n s (.slice ao l c)) rfl ?_);intro a1 hb hbel hsz;have HA1:=hJ2 (An H0.out hbel (Ah _)) hb;clear hb hbel hsz)
  | ((with_reducible refine Au a1 rfl 29 (.tmp 1) rfl (tmC k' u' n' s' (.slice bo m d)) rfl ?_);intro a2 hb hbel hsz;have HA2:=hJ3 (An HA1.out.1 hbel (Ah _)) (HA1.out.2.below hbel HA1.out.2.lt) hb;have c0:=HA2.out.2.1.cell 0;have d0:=HA2.out.2.2.cell 0;have c1:=HA2.out.2.1.cell 1;have d1:=HA2.out.2.2.cell 1;have c2:=HA2.out.2.1.cell 2;have d2:=HA2.out.2.2.cell 2;have c3:=HA2.out.2.1.cell 3;have d3:=HA2.out.2.2.cell 3;have c4:=HA2.out.2.1.cell 4;have d4:=HA2.out.2.2.cell 4;simp only[tmC,Ab,Ac] at c0 c1 c2 c3 c4 d0 d1 d2 d3 d4;clear hb hbel hsz))
  go_ret
  exact⟨by rw[←HR.out];rfl,HA2.out.1⟩
 simp only[Bool.not_true] at ns
 by_cases hlm:l=m
 rotate_left
 ·have e1:((l:Int) !=(m:Int))=true:=by simp;omega
  have HE:=Ag (show R=false from by rw[←HR.out,E8 (by rw[HM.out,HN.out];exact hlm)];rfl)
  clear hlm
  go_enter Tryz.func20,Tryz.ntmps20
  go_wp2_with (first
  | ((with_reducible refine Au w rfl 29 (.tmp 0) rfl (tmC k u n s (.slice ao l c)) rfl ?_);intro a1 hb hbel hsz;have HA1:=hJ2 (An H0.out hbel (Ah _)) hb;clear hb hbel hsz)
  | ((with_reducible refine Au a1 rfl 29 (.tmp 1) rfl (tmC k' u' n' s' (.slice bo m d)) rfl ?_);intro a2 hb hbel hsz;have HA2:=hJ3 (An HA1.out.1 hbel (Ah _)) (HA1.out.2.below hbel HA1.out.2.lt) hb;have c0:=HA2.out.2.1.cell 0;have d0:=HA2.out.2.2.cell 0;have c1:=HA2.out.2.1.cell 1;have d1:=HA2.out.2.2.cell 1;have c2:=HA2.out.2.1.cell 2;have d2:=HA2.out.2.2.cell 2;have c3:=HA2.out.2.1.cell 3;have d3:=HA2.out.2.2.cell 3;have c4:=HA2.out.2.1.cell 4;have d4:=HA2.out.2.2.cell 4;simp only[tmC,Ab,Ac] at c0 c1 c2 c3 c4 d0 d1 d2 d3 d4;clear hb hbel hsz))
  go_ret
  exact⟨by rw[HE.out];rfl,HA2.out.1⟩
 have e1:((l:Int) !=(m:Int))=false:=by simp;omega
 have HMN:=Ag hlm
 have HL:=Ag (show BO ks ks'=R from by rw[←HR.out];rfl)
 clear hlm
 go_enter Tryz.func20,Tryz.ntmps20
 go_wp2_with (first
  | ((with_reducible refine Au w rfl 29 (.tmp 0) rfl (tmC k u n s (.slice ao l c)) rfl ?_);intro a1 hb hbel hsz;have HA1:=hJ2 (An H0.out hbel (Ah _)) hb;clear hb hbel hsz)
  | ((with_reducible refine Au a1 rfl 29 (.tmp 1) rfl (tmC k' u' n' s' (.slice bo m d)) rfl ?_);intro a2 hb hbel hsz;have HA2:=hJ3 (An HA1.out.1 hbel (Ah _)) (HA1.out.2.below hbel HA1.out.2.lt) hb;have c0:=HA2.out.2.1.cell 0;have d0:=HA2.out.2.2.cell 0;have c1:=HA2.out.2.1.cell 1;have d1:=HA2.out.2.2.cell 1;have c2:=HA2.out.2.1.cell 2;have d2:=HA2.out.2.2.cell 2;have c3:=HA2.out.2.1.cell 3;have d3:=HA2.out.2.2.cell 3;have c4:=HA2.out.2.1.cell 4;have d4:=HA2.out.2.2.cell 4;simp only[tmC,Ab,Ac] at c0 c1 c2 c3 c4 d0 d1 d2 d3 d4;clear hb hbel hsz))
 clear c0 c1 c2 c3 c4 d0 d1 d2 d3 d4 nk nu nn ns hk hu hn hs e1
 go_loopw [5] (fun i wr=> ∃ (j:Nat),i=.int .i64 j∧j≤l∧Hid (BO (ks.drop j) (ks'.drop j)=R)∧Hid (Below w.heap.size w wr∧Blk wr w.heap.size 29 (tmC k u n s (.slice ao l c))∧Blk wr a1.heap.size 29 (tmC k' u' n' s' (.slice bo m d)))) (fun i _=> l - (intOf i).toNat)
 case atStart=> exact⟨0,rfl,Nat.zero_le _,Ag HL.out,HA2⟩
 case round=>
  clear HA2 HA1 HL
  obtain⟨j,rfl,hj,HQ,HZ⟩:=hrel
  have c4:=HZ.out.2.1.cell 4
  have d4:=HZ.out.2.2.cell 4
  simp only[tmC,Ab,Ac] at c4 d4
  by_cases hlt:j<l
  ·have hja:j<ks.length:=by rw[HM.out];exact hlt
   have hjb:j<ks'.length:=by rw[HN.out,←HMN.out];exact hlt
   have hjz:(j:Int)<(l:Int):=by omega
   have hjn:(j:Int)<(m:Int):=by have:=HMN.out;omega
   have hj0:(0:Int)≤(j:Int):=by omega
   obtain⟨b1,o1,ca,rfl,-,-,hra,hta⟩:=(HS.out.1.below HZ.out.1).get hja
   obtain⟨b2,o2,cb,rfl,-,-,hrb,htb⟩:=(HS.out.2.below HZ.out.1).get hjb
   have HMEM:=Ag (List.getElem_mem hja)
   have HQ2:=Ag (show BO (ks[j]::ks.drop (j+1)) (ks'[j]::ks'.drop (j+1))=R from by rw[←List.drop_eq_getElem_cons hja,←List.drop_eq_getElem_cons hjb];exact HQ.out)
   generalize ks[j]=ta at hta HMEM HQ2
   generalize ks'[j]=tb at htb HQ2
   obtain⟨aa,pa,rfl,-,-,-⟩:=hta.shape
   obtain⟨ab,pb,rfl,-,-,-⟩:=htb.shape
   have HRA:=Ag (Ai hra hrb)
   have HTM:=Ag (Ai hta htb)
   obtain⟨rb,hr⟩:∃ r,Df ta tb=r:=⟨_,rfl⟩
   have HRB:=Ag hr
   have C1:=Ag (fun x=> show Calls Tryz.prog 20 #[.agg (tmC ta.k ta.u ta.n ta.s (.slice aa ta.ks.length pa)).toArray,.agg (tmC tb.k tb.u tb.n tb.s (.slice ab tb.ks.length pb)).toArray] (Bh wr x) (fun e w'=> e=.returned (.bool rb)∧Below (Bh wr x).heap.size (Bh wr x) w') from by have h:=HIH.out ta HMEM.out tb _ _ Fa Fb (Bh wr x) (HTM.out.1.below (AO wr x)) (HTM.out.2.below (AO wr x));rw[HRB.out] at h;exact h)
   clear hra hrb hta htb hja hjb hr
   go_wp2_with fail
   replace c4:=fun q=> AT c4 q
   replace d4:=fun q=> AT d4 q
   refine A4 (by kernel_rfl) (by kernel_rfl) ?_
   repeat (first|go_big_quiet_skip|(go_big_quiet_want;(first|(refine A1 29 (.tmp 51) rfl b1 (o1+j* 5) rfl (tmC ta.k ta.u ta.n ta.s (.slice aa ta.ks.length pa)) _ (fun w' hw'=> A7 HRA.out.1 w' hw') Tryz.underlying29 rfl (A9 _ _ _ _ _) ?_;go_simp;go_big_quiet_on)|(refine A1 29 (.tmp 56) rfl b2 (o2+j* 5) rfl (tmC tb.k tb.u tb.n tb.s (.slice ab tb.ks.length pb)) _ (fun w' hw'=> A7 HRA.out.2 w' hw') Tryz.underlying29 rfl (A9 _ _ _ _ _) ?_;go_simp;go_big_quiet_on)|(go_big_quiet_op;(first|go_big_quiet_on|(apply Exists.intro;refine⟨fun _=> ?_,?_⟩;(focus (first|(go_at_call 20;with_reducible exact AV (C1.out _))));go_big_quiet_on))))))
   refine wpQuiet_nil ?_
   intro w9 hw9
   obtain⟨x9,rfl⟩:=hw9
   clear c4 d4 C1
   have HW:=Ag (show Below w.heap.size w (Bh wr x9)∧Blk (Bh wr x9) w.heap.size 29 (tmC k u n s (.slice (some ⟨b1,o1,none⟩) l c))∧Blk (Bh wr x9) a1.heap.size 29 (tmC k' u' n' s' (.slice (some ⟨b2,o2,none⟩) m d)) from⟨An HZ.out.1 (AO wr x9) (Ah _),HZ.out.2.1.below (AO wr x9) HZ.out.2.1.lt,HZ.out.2.2.below (AO wr x9) HZ.out.2.2.lt⟩)
   generalize Bh wr x9=wz at HW ⊢
   cases rb
   ·have HE:=Ag (show R=false from by rw[←HQ2.out,DT,HRB.out,Bool.false_and])
    go_wp2_with fail
    go_ret
    exact⟨by rw[HE.out];rfl,HW.out.1⟩
   ·have HQ3:=Ag (show BO (ks.drop (j+1)) (ks'.drop (j+1))=R from by have h:=HQ2.out;rw[DT,HRB.out,Bool.true_and] at h;exact h)
    go_wp2_with fail
    go_roundw
    case rel=> exact⟨j+1,by go_num,by omega,HQ3,HW⟩
    case measure=> simp[intOf];omega
  ·have hge:¬ (j:Int)<(l:Int):=by omega
   have HE:=Ag (show R=true from by rw[←HQ.out,List.drop_of_length_le (by rw[HM.out];omega),List.drop_of_length_le (by rw[HN.out,←HMN.out];omega),BO])
   go_wp2_with fail
   go_ret
   exact⟨by rw[HE.out];rfl,HZ.out.1⟩
theorem Tryz.buildwk0:∀ w,(Instr.build 31 #[(0,.int .i64 1),(1,.int .i64 1),(2,.string ⟨#[49,47,102]⟩),(6,.agg (tmC 1 0 0 ⟨#[120]⟩ (.slice none 0 0)).toArray)]).run Tryz.prog w=.ok (.agg (opC ⟨1,1,⟨#[49,47,102]⟩,0,0,false,tm0⟩ (tmC 1 0 0 ⟨#[120]⟩ (.slice none 0 0))).toArray) w:=fun w=> by kernel_rfl
theorem Fp {ops:Array Oper} {rest:List Oper} {op:Oper} {a:Act} {w:World} {Q:Exit→Act→World→Prop} (hgd:op.guard=none) (x0:Operand) (ho:op.op=.build 31 #[(0,.const (.int .i64 1)),(1,.const (.int .i64 1)),(2,.const (.string ⟨#[49,47,102]⟩)),(6,x0)]) (h0:a.eval x0=.agg (tmC 1 0 0 ⟨#[120]⟩ (.slice none 0 0)).toArray)
  (h:wpList Tryz.prog ops Q rest (a.put op.dst (.agg (opC ⟨1,1,⟨#[49,47,102]⟩,0,0,false,tm0⟩ (tmC 1 0 0 ⟨#[120]⟩ (.slice none 0 0))).toArray)) w):wpList Tryz.prog ops Q (op::rest) a w:=by
 refine wpList_plain hgd fun K hK=> ?_
 have hrun:(execOp a.eval op).run Tryz.prog w=.ok (.value (.agg (opC ⟨1,1,⟨#[49,47,102]⟩,0,0,false,tm0⟩ (tmC 1 0 0 ⟨#[120]⟩ (.slice none 0 0))).toArray)) w:=by
  unfold execOp
  simp only[ho]
  rw[show((#[((0:Nat),.const (.int .i64 1)),(1,.const (.int .i64 1)),(2,.const (.string ⟨#[49,47,102]⟩)),(6,x0)]:Array (Nat × Operand)).map fun (i,x)=> (i,a.eval x))=#[(0,.int .i64 1),(1,.int .i64 1),(2,.string ⟨#[49,47,102]⟩),(6,.agg (tmC 1 0 0 ⟨#[120]⟩ (.slice none 0 0)).toArray)] by simp only[List.map_toArray,List.map_cons,List.map_nil,h0];rfl]
  simp[Tryz.buildwk0,Result.andThen]
 unfold Oper.wp
 rw[hrun]
 exact hK _ _ h
theorem Tryz.buildwk1:∀ w,(Instr.build 31 #[(0,.int .i64 3),(1,.int .i64 2),(2,.string ⟨#[49,47,102]⟩)]).run Tryz.prog w=.ok (.agg (opC ⟨3,2,⟨#[49,47,102]⟩,0,0,false,tm0⟩ (tmC 0 0 0 ⟨#[]⟩ (.slice none 0 0))).toArray) w:=fun w=> by kernel_rfl
theorem Fq {ops:Array Oper} {rest:List Oper} {op:Oper} {a:Act} {w:World} {Q:Exit→Act→World→Prop} (hgd:op.guard=none) (ho:op.op=.build 31 #[(0,.const (.int .i64 3)),(1,.const (.int .i64 2)),(2,.const (.string ⟨#[49,47,102]⟩))])
  (h:wpList Tryz.prog ops Q rest (a.put op.dst (.agg (opC ⟨3,2,⟨#[49,47,102]⟩,0,0,false,tm0⟩ (tmC 0 0 0 ⟨#[]⟩ (.slice none 0 0))).toArray)) w):wpList Tryz.prog ops Q (op::rest) a w:=by
 refine wpList_plain hgd fun K hK=> ?_
 have hrun:(execOp a.eval op).run Tryz.prog w=.ok (.value (.agg (opC ⟨3,2,⟨#[49,47,102]⟩,0,0,false,tm0⟩ (tmC 0 0 0 ⟨#[]⟩ (.slice none 0 0))).toArray)) w:=by
  unfold execOp
  simp only[ho]
  rw[show((#[((0:Nat),.const (.int .i64 3)),(1,.const (.int .i64 2)),(2,.const (.string ⟨#[49,47,102]⟩))]:Array (Nat × Operand)).map fun (i,x)=> (i,a.eval x))=#[(0,.int .i64 3),(1,.int .i64 2),(2,.string ⟨#[49,47,102]⟩)] by simp only[List.map_toArray,List.map_cons,List.map_nil];rfl]
  simp[Tryz.buildwk1,Result.andThen]
 unfold Oper.wp
 rw[hrun]
 exact hK _ _ h
theorem Tryz.buildwk2:∀ w,(Instr.build 31 #[(0,.int .i64 4),(1,.int .i64 1),(2,.string ⟨#[49,47,102]⟩),(3,.int .i64 2)]).run Tryz.prog w=.ok (.agg (opC ⟨4,1,⟨#[49,47,102]⟩,2,0,false,tm0⟩ (tmC 0 0 0 ⟨#[]⟩ (.slice none 0 0))).toArray) w:=fun w=> by kernel_rfl
theorem Fr {ops:Array Oper} {rest:List Oper} {op:Oper} {a:Act} {w:World} {Q:Exit→Act→World→Prop} (hgd:op.guard=none) (ho:op.op=.build 31 #[(0,.const (.int .i64 4)),(1,.const (.int .i64 1)),(2,.const (.string ⟨#[49,47,102]⟩)),(3,.const (.int .i64 2))])
  (h:wpList Tryz.prog ops Q rest (a.put op.dst (.agg (opC ⟨4,1,⟨#[49,47,102]⟩,2,0,false,tm0⟩ (tmC 0 0 0 ⟨#[]⟩ (.slice none 0 0))).toArray)) w):wpList Tryz.prog ops Q (op::rest) a w:=by
 refine wpList_plain hgd fun K hK=> ?_
 have hrun:(execOp a.eval op).run Tryz.prog w=.ok (.value (.agg (opC ⟨4,1,⟨#[49,47,102]⟩,2,0,false,tm0⟩ (tmC 0 0 0 ⟨#[]⟩ (.slice none 0 0))).toArray)) w:=by
  unfold execOp
  simp only[ho]
  rw[show((#[((0:Nat),.const (.int .i64 4)),(1,.const (.int .i64 1)),(2,.const (.string ⟨#[49,47,102]⟩)),(3,.const (.int .i64 2))]:Array (Nat × Operand)).map fun (i,x)=> (i,a.eval x))=#[(0,.int .i64 4),(1,.int .i64 1),(2,.string ⟨#[49,47,102]⟩),(3,.int .i64 2)] by simp only[List.map_toArray,List.map_cons,List.map_nil];rfl]
  simp[Tryz.buildwk2,Result.andThen]
 unfold Oper.wp
 rw[hrun]
 exact hK _ _ h
theorem Tryz.sliceWk:∀ w,(Instr.buildSlice 53 4 #[(0,.agg (opC ⟨1,1,⟨#[49,47,102]⟩,0,0,false,tm0⟩ (tmC 1 0 0 ⟨#[120]⟩ (.slice none 0 0))).toArray),(1,.agg (opC ⟨3,2,⟨#[49,47,102]⟩,0,0,false,tm0⟩ (tmC 0 0 0 ⟨#[]⟩ (.slice none 0 0))).toArray),(2,.agg (opC ⟨4,1,⟨#[49,47,102]⟩,2,0,false,tm0⟩ (tmC 0 0 0 ⟨#[]⟩ (.slice none 0 0))).toArray),(3,.agg (opC ⟨3,2,⟨#[49,47,102]⟩,0,0,false,tm0⟩ (tmC 0 0 0 ⟨#[]⟩ (.slice none 0 0))).toArray)]).run Tryz.prog w=.ok (.slice (some ⟨w.heap.size,0,none⟩) 4 4) (w.alloc (.cells (opC ⟨1,1,⟨#[49,47,102]⟩,0,0,false,tm0⟩ (tmC 1 0 0 ⟨#[120]⟩ (.slice none 0 0)) ++ opC ⟨3,2,⟨#[49,47,102]⟩,0,0,false,tm0⟩ (tmC 0 0 0 ⟨#[]⟩ (.slice none 0 0)) ++ opC ⟨4,1,⟨#[49,47,102]⟩,2,0,false,tm0⟩ (tmC 0 0 0 ⟨#[]⟩ (.slice none 0 0)) ++ opC ⟨3,2,⟨#[49,47,102]⟩,0,0,false,tm0⟩ (tmC 0 0 0 ⟨#[]⟩ (.slice none 0 0))).toArray 31)):=fun w=> by kernel_rfl
theorem F3 (w:World) {ops:Array Oper} {rest:List Oper} {o:Oper} {a:Act} {Q:Exit→Act→World→Prop} (hgd:o.guard=none) (x0 x1 x2 x3:Operand) (ho:o.op=.buildSlice 53 4 #[(0,x0),(1,x1),(2,x2),(3,x3)])
  (h0:a.eval x0=.agg (opC ⟨1,1,⟨#[49,47,102]⟩,0,0,false,tm0⟩ (tmC 1 0 0 ⟨#[120]⟩ (.slice none 0 0))).toArray) (h1:a.eval x1=.agg (opC ⟨3,2,⟨#[49,47,102]⟩,0,0,false,tm0⟩ (tmC 0 0 0 ⟨#[]⟩ (.slice none 0 0))).toArray) (h2:a.eval x2=.agg (opC ⟨4,1,⟨#[49,47,102]⟩,2,0,false,tm0⟩ (tmC 0 0 0 ⟨#[]⟩ (.slice none 0 0))).toArray) (h3:a.eval x3=.agg (opC ⟨3,2,⟨#[49,47,102]⟩,0,0,false,tm0⟩ (tmC 0 0 0 ⟨#[]⟩ (.slice none 0 0))).toArray)
  (h:∀ w',Blk w' w.heap.size 31 (opC ⟨1,1,⟨#[49,47,102]⟩,0,0,false,tm0⟩ (tmC 1 0 0 ⟨#[120]⟩ (.slice none 0 0)) ++ opC ⟨3,2,⟨#[49,47,102]⟩,0,0,false,tm0⟩ (tmC 0 0 0 ⟨#[]⟩ (.slice none 0 0)) ++ opC ⟨4,1,⟨#[49,47,102]⟩,2,0,false,tm0⟩ (tmC 0 0 0 ⟨#[]⟩ (.slice none 0 0)) ++ opC ⟨3,2,⟨#[49,47,102]⟩,0,0,false,tm0⟩ (tmC 0 0 0 ⟨#[]⟩ (.slice none 0 0)))→Below w.heap.size w w'→w'.heap.size=w.heap.size+1→wpList Tryz.prog ops Q rest (a.put o.dst (.slice (some ⟨w.heap.size,0,none⟩) 4 4)) w'):wpList Tryz.prog ops Q (o::rest) a w:=by
 refine wpList_plain hgd fun K' hK'=> ?_
 have hrun:(execOp a.eval o).run Tryz.prog w=.ok (.value (.slice (some ⟨w.heap.size,0,none⟩) 4 4)) (w.alloc (.cells (opC ⟨1,1,⟨#[49,47,102]⟩,0,0,false,tm0⟩ (tmC 1 0 0 ⟨#[120]⟩ (.slice none 0 0)) ++ opC ⟨3,2,⟨#[49,47,102]⟩,0,0,false,tm0⟩ (tmC 0 0 0 ⟨#[]⟩ (.slice none 0 0)) ++ opC ⟨4,1,⟨#[49,47,102]⟩,2,0,false,tm0⟩ (tmC 0 0 0 ⟨#[]⟩ (.slice none 0 0)) ++ opC ⟨3,2,⟨#[49,47,102]⟩,0,0,false,tm0⟩ (tmC 0 0 0 ⟨#[]⟩ (.slice none 0 0))).toArray 31)):=by
  unfold execOp
  simp only[ho]
  rw[show((#[((0:Nat),x0),(1,x1),(2,x2),(3,x3)]:Array (Nat × Operand)).map fun (i,x)=> (i,a.eval x))=#[(0,.agg (opC ⟨1,1,⟨#[49,47,102]⟩,0,0,false,tm0⟩ (tmC 1 0 0 ⟨#[120]⟩ (.slice none 0 0))).toArray),(1,.agg (opC ⟨3,2,⟨#[49,47,102]⟩,0,0,false,tm0⟩ (tmC 0 0 0 ⟨#[]⟩ (.slice none 0 0))).toArray),(2,.agg (opC ⟨4,1,⟨#[49,47,102]⟩,2,0,false,tm0⟩ (tmC 0 0 0 ⟨#[]⟩ (.slice none 0 0))).toArray),(3,.agg (opC ⟨3,2,⟨#[49,47,102]⟩,0,0,false,tm0⟩ (tmC 0 0 0 ⟨#[]⟩ (.slice none 0 0))).toArray)] by simp[h0,h1,h2,h3]]
  simp[Tryz.sliceWk,Result.andThen]
 unfold Oper.wp
 rw[hrun]
 exact hK' _ _ (h _ (Blk.new w _ 31) ((Below.refl _ _).alloc (Ah _) _) (by simp))
theorem wk_row (w:World) (g:Nat) (h:Blk w g 31 (opC ⟨1,1,⟨#[49,47,102]⟩,0,0,false,tm0⟩ (tmC 1 0 0 ⟨#[120]⟩ (.slice none 0 0)) ++ opC ⟨3,2,⟨#[49,47,102]⟩,0,0,false,tm0⟩ (tmC 0 0 0 ⟨#[]⟩ (.slice none 0 0)) ++ opC ⟨4,1,⟨#[49,47,102]⟩,2,0,false,tm0⟩ (tmC 0 0 0 ⟨#[]⟩ (.slice none 0 0)) ++ opC ⟨3,2,⟨#[49,47,102]⟩,0,0,false,tm0⟩ (tmC 0 0 0 ⟨#[]⟩ (.slice none 0 0)))):RwC (OpC (fun _=> False)) 11 (fun _=> True) w (.slice (some ⟨g,0,none⟩) 4 4) opsW:=by
 have hr:∀ (P X R:List Value),opC ⟨1,1,⟨#[49,47,102]⟩,0,0,false,tm0⟩ (tmC 1 0 0 ⟨#[120]⟩ (.slice none 0 0)) ++ opC ⟨3,2,⟨#[49,47,102]⟩,0,0,false,tm0⟩ (tmC 0 0 0 ⟨#[]⟩ (.slice none 0 0)) ++ opC ⟨4,1,⟨#[49,47,102]⟩,2,0,false,tm0⟩ (tmC 0 0 0 ⟨#[]⟩ (.slice none 0 0)) ++ opC ⟨3,2,⟨#[49,47,102]⟩,0,0,false,tm0⟩ (tmC 0 0 0 ⟨#[]⟩ (.slice none 0 0))=P ++ (X ++ R)→∀ n,P.length=n→w.rangeAt g (0+n) X:=fun P X R e n hn i v hv=> by
  rw[Nat.zero_add,h.cell,e,List.getElem?_append_right (by omega),show n+i - P.length=i by omega,List.getElem?_append_left (by have:=(List.getElem?_eq_some_iff.1 hv).1;exact this)]
  exact hv
 have hT:∀ F W,TmC F W (tmC 0 0 0 ⟨#[]⟩ (.slice none 0 0)) tm0:=fun F W=> Bo F W
 refine⟨_,4,rfl,Ah _,by unfold maxLen;omega,fun _=> ⟨g,0,rfl,trivial,h.lt,fun j hj=> ?_⟩⟩
 match j,hj with
 | 0,_=> exact⟨_,rfl,hr [] (opC ⟨1,1,⟨#[49,47,102]⟩,0,0,false,tm0⟩ (tmC 1 0 0 ⟨#[120]⟩ (.slice none 0 0))) (opC ⟨3,2,⟨#[49,47,102]⟩,0,0,false,tm0⟩ (tmC 0 0 0 ⟨#[]⟩ (.slice none 0 0)) ++ opC ⟨4,1,⟨#[49,47,102]⟩,2,0,false,tm0⟩ (tmC 0 0 0 ⟨#[]⟩ (.slice none 0 0)) ++ opC ⟨3,2,⟨#[49,47,102]⟩,0,0,false,tm0⟩ (tmC 0 0 0 ⟨#[]⟩ (.slice none 0 0))) rfl 0 rfl,_,rfl,txT_C _ _ _⟩
 | 1,_=> exact⟨_,rfl,hr (opC ⟨1,1,⟨#[49,47,102]⟩,0,0,false,tm0⟩ (tmC 1 0 0 ⟨#[120]⟩ (.slice none 0 0))) (opC ⟨3,2,⟨#[49,47,102]⟩,0,0,false,tm0⟩ (tmC 0 0 0 ⟨#[]⟩ (.slice none 0 0))) (opC ⟨4,1,⟨#[49,47,102]⟩,2,0,false,tm0⟩ (tmC 0 0 0 ⟨#[]⟩ (.slice none 0 0)) ++ opC ⟨3,2,⟨#[49,47,102]⟩,0,0,false,tm0⟩ (tmC 0 0 0 ⟨#[]⟩ (.slice none 0 0))) rfl 11 rfl,_,rfl,hT _ _⟩
 | 2,_=> exact⟨_,rfl,hr (opC ⟨1,1,⟨#[49,47,102]⟩,0,0,false,tm0⟩ (tmC 1 0 0 ⟨#[120]⟩ (.slice none 0 0)) ++ opC ⟨3,2,⟨#[49,47,102]⟩,0,0,false,tm0⟩ (tmC 0 0 0 ⟨#[]⟩ (.slice none 0 0))) (opC ⟨4,1,⟨#[49,47,102]⟩,2,0,false,tm0⟩ (tmC 0 0 0 ⟨#[]⟩ (.slice none 0 0))) (opC ⟨3,2,⟨#[49,47,102]⟩,0,0,false,tm0⟩ (tmC 0 0 0 ⟨#[]⟩ (.slice none 0 0))) rfl 22 rfl,_,rfl,hT _ _⟩
 | 3,_=> exact⟨_,rfl,hr (opC ⟨1,1,⟨#[49,47,102]⟩,0,0,false,tm0⟩ (tmC 1 0 0 ⟨#[120]⟩ (.slice none 0 0)) ++ opC ⟨3,2,⟨#[49,47,102]⟩,0,0,false,tm0⟩ (tmC 0 0 0 ⟨#[]⟩ (.slice none 0 0)) ++ opC ⟨4,1,⟨#[49,47,102]⟩,2,0,false,tm0⟩ (tmC 0 0 0 ⟨#[]⟩ (.slice none 0 0))) (opC ⟨3,2,⟨#[49,47,102]⟩,0,0,false,tm0⟩ (tmC 0 0 0 ⟨#[]⟩ (.slice none 0 0))) [] rfl 33 rfl,_,rfl,hT _ _⟩
theorem id0_C {F:Nat→Prop} {w:World}:IdC F w [(.slice none 0 0),(.slice none 0 0),(.slice none 0 0)] C5:=⟨_,_,_,rfl,RwC.nil _ _ _ _,RwC.nil _ _ _ _,RwC.nil _ _ _ _⟩
theorem FF (BG:∀ {s:IdM} {o:OpM},ChkP s→opB o=true→ChkP (Bp s o).1) (w:World):Calls Tryz.prog 6 #[] w (fun e w'=> e=.returned (.bool true)∧Below w.heap.size w w'):=by
 go_enter Tryz.func6,Tryz.ntmps6
 go_wp2_with fail
 refine(GH ⟨#[120]⟩ w).mono ?_
 rintro e' w1 ⟨rfl,hb⟩
 have H1:=Ag hb
 clear hb
 go_wp2_with (first
  | (with_reducible refine Fp rfl (.tmp 5) rfl rfl ?_)
  | (with_reducible refine Fq rfl rfl ?_)
  | (with_reducible refine Fr rfl rfl ?_)
  | ((with_reducible refine F3 w1 rfl (.tmp 6) (.tmp 7) (.tmp 8) (.tmp 9) rfl rfl rfl rfl rfl ?_);intro w2 hb hbel hsz;have H2:=hJ2 (An H1.out hbel (Ah _)) hb;clear hb hbel hsz)
  | (with_reducible refine Ci rfl rfl ?_))
 have HRUN:=Ag (JF BG C5 [(.slice none 0 0),(.slice none 0 0),(.slice none 0 0)] opsW (.slice (some ⟨w1.heap.size,0,none⟩) 4 4) (fun _=> False) [] w2 id0_C (fun _ h=> absurd h id) (fun _ h=> absurd h (by simp)) (by simp[C5]) (fun _=> True) (wk_row w2 _ H2.out.2) (by decide))
 refine HRUN.out.mono ?_
 rintro e' w3 ⟨cs,vr,rfl,hs,hr,hb⟩
 rw[show(Hp C5 opsW).2.2=0 from K2]
 have HS:=Ag (show IdC (·∉[]) w3 cs Dy.1 from hs)
 have HR:=Ag (show RwC (RsC (·∉[])) 8 (·∉[]) w3 vr Dy.2.1 from hr)
 have HB3:=Ag (An H2.out.1 hb (Ah _))
 have HCL:=Ag hs.len
 have HCO:=Ag hs.one
 have HZL:=Ag (show cs.length=([(.slice none 0 0),(.slice none 0 0),(.slice none 0 0)]:List Value).length from hs.len)
 clear hs hr hb HRUN
 obtain⟨va,vcap,rfl,-,-⟩:=HR.out.shape
 obtain⟨rb,ro,rcs1,rfl,-,hrlt,hl1,hra1,hrc1⟩:=HR.out.get (j:=1) (by rw[CD];omega)
 obtain⟨rb',ro',rcs3,e3,-,-,hl3,hra3,hrc3⟩:=HR.out.get (j:=3) (by rw[CD];omega)
 obtain⟨rfl,rfl⟩:rb=rb'∧ro=ro':=by simpa using e3
 obtain⟨tc1,rfl,-⟩:=hrc1
 obtain⟨tc3,rfl,ht3⟩:=hrc3
 have he1:(Dy.2.1[1]'(by rw[CD];omega)).e=280:=by
  have h:(Dy.2.1.map (·.e))[1]?=some 280:=by rw[runW_e];rfl
  rw[List.getElem?_map,List.getElem?_eq_getElem (by rw[CD];omega)] at h
  simpa using h
 have hv3:(Dy.2.1[3]'(by rw[CD];omega)).v=1:=by
  have h:(Dy.2.1.map (·.v))[3]?=some 1:=by rw[runW_v];rfl
  rw[List.getElem?_map,List.getElem?_eq_getElem (by rw[CD];omega)] at h
  simpa using h
 have hb3:Df (Dy.2.1[3]'(by rw[CD];omega)).b (txT ⟨#[120]⟩)=true:=by
  have h:(Dy.2.1.map (fun r=> Df r.b (txT ⟨#[120]⟩)))[3]?=some true:=by rw[runW_b];rfl
  rw[List.getElem?_map,List.getElem?_eq_getElem (by rw[CD];omega)] at h
  simpa using h
 rw[CD]
 generalize Dy.2.1[1]=r1 at he1 hra1
 generalize Dy.2.1[3]=r3 at hv3 hb3 hra3 ht3
 rw[he1] at hra1
 rw[hv3] at hra3
 have HT3:=Ag (Ai ht3 hb3)
 have HTL:=Ag ht3.len
 have HC:=Ag (show w3.cell? ⟨rb,ro+8,none⟩=some (.int .i64 280)∧w3.cell? ⟨rb,ro+25,none⟩=some (.int .i64 1)∧w3.rangeAt rb (ro+27) tc3 from⟨hra1 0 _ rfl,hra3 1 _ rfl,fun i z hz=> (congrArg (fun q=> w3.cell? ⟨rb,q,none⟩) (by omega)).trans (hra3 (3+i) z (by rw[Nat.add_comm];exact hz))⟩)
 clear he1 hv3 hb3 hra1 hra3 ht3 hl1 hl3 e3 hrlt
 go_upto_region 3 with(first
  | ((with_reducible refine Av w3 rfl 26 rfl ([(.slice none 0 0),(.slice none 0 0),(.slice none 0 0)]) Tryz.zeroId3b ?_);intro w4 hb hbel hsz;have H4:=Ag (Ai hb hbel);clear hb hbel hsz)
  | ((with_reducible refine Ao w4 rfl 26 (.tmp 2) (.tmp 15) rfl (w3.heap.size) 26 ([(.slice none 0 0),(.slice none 0 0),(.slice none 0 0)]) cs H4.out.1 rfl rfl HZL.out (At Tryz.infoId HCL.out) HCO.out ?_);intro w5 hb hc hs;have H5:=Ag (show Below w.heap.size w w5∧Blk w5 w3.heap.size 26 cs∧Below w3.heap.size w3 w5∧w5.cell? ⟨rb,ro+8,none⟩=some (.int .i64 280)∧w5.cell? ⟨rb,ro+25,none⟩=some (.int .i64 1)∧w5.rangeAt rb (ro+27) tc3 from⟨An HB3.out (B0 H4.out.2 hc) (Ah _),hb,B0 H4.out.2 hc,((B0 H4.out.2 hc).cell (Am HC.out.1)).trans HC.out.1,((B0 H4.out.2 hc).cell (Am HC.out.2.1)).trans HC.out.2.1,AF HC.out.2.2 (B0 H4.out.2 hc)⟩);clear hb hc hs))
 try simp only[Al,Ad,Ae,Af]
 go_wp2_with fail
 refine Az (fun W=> W.cell? ⟨rb,ro+8,none⟩=some (.int .i64 280)∧W.cell? ⟨rb,ro+25,none⟩=some (.int .i64 1)∧W.rangeAt rb (ro+27) tc3) [0,1,2,3,4,5,6,7,8,9,10,11,12,13,14,15,16,17,18,19,20,21,22,23,24,25] 16 (by kernel_rfl) rfl (by kernel_rfl) (by kernel_rfl) ⟨H5.out.2.2.2.1,H5.out.2.2.2.2.1,H5.out.2.2.2.2.2⟩ ?_
 iterate 26(refine' AH.run ?_ ?_ ?_ ?_;rotate_left 2;(simp only[Aa,Ab,Ac];rfl);rfl;(rintro w' ⟨k0,k1,k2⟩;first|exact AA rfl rfl k2 Tryz.underlying29 rfl (At Tryz.infoTm HTL.out)|(go_simp;with_reducible rfl));simp only[Al,Ad,Ae,Af])
 have sm:=(Sm.refl w5).drew
 have HV2:=hJ6 (An H5.out.1 (sm.below _) (Ah _)) (H5.out.2.1.below (sm.below _) H5.out.2.1.lt) (An H5.out.2.2.1 (sm.below _) (Ah _)) (((sm.below _).cell (p:=⟨rb,ro+8,none⟩) (Am H5.out.2.2.2.1)).trans H5.out.2.2.2.1) (((sm.below _).cell (p:=⟨rb,ro+25,none⟩) (Am H5.out.2.2.2.2.1)).trans H5.out.2.2.2.2.1) (AF H5.out.2.2.2.2.2 (sm.below _))
 clear sm
 generalize w5.drew=v1 at HV2 ⊢
 refine' Ar 26 (by kernel_rfl) ?_ ?_;rotate_left;(simp only[Aa,Ab,Ac];rfl)
 try simp only[Al,Ad,Ae,Af]
 go_wp2_with fail
 refine(GH ⟨#[120]⟩ v1).mono ?_
 rintro e' u3 ⟨rfl,hb⟩
 have K4:=hJ6 (An HV2.out.1 hb (Ah _)) (HV2.out.2.1.below hb HV2.out.2.1.lt) (An HV2.out.2.2.1 hb (Ah _)) ((hb.cell (p:=⟨rb,ro+8,none⟩) (Am HV2.out.2.2.2.1)).trans HV2.out.2.2.2.1) ((hb.cell (p:=⟨rb,ro+25,none⟩) (Am HV2.out.2.2.2.2.1)).trans HV2.out.2.2.2.2.1) (AF HV2.out.2.2.2.2.2 hb)
 clear hb
 go_wp2_with fail
 refine QK.normal ⟨⟨K4.out.2.2.2.1,K4.out.2.2.2.2.1,K4.out.2.2.2.2.2⟩,?_⟩
 refine' Ar 27 (by kernel_rfl) ?_ ?_;rotate_left;(simp only[Aa,Ab,Ac];rfl)
 try simp only[Al,Ad,Ae,Af]
 go_wp2_with fail
 refine(Jq r3.b (txT ⟨#[120]⟩) tc3 (tmC 1 0 0 ⟨#[120]⟩ (.slice none 0 0)) _ (fun _=> True) u3 (HT3.out.1.below K4.out.2.2.1) (txT_C _ _ _)).mono ?_
 rintro e' u5 ⟨rfl,hb⟩
 rw[HT3.out.2]
 have K6:=hJ6 (An K4.out.1 hb (Ah _)) (K4.out.2.1.below hb K4.out.2.1.lt) (An K4.out.2.2.1 hb (Ah _)) ((hb.cell (p:=⟨rb,ro+8,none⟩) (Am K4.out.2.2.2.1)).trans K4.out.2.2.2.1) ((hb.cell (p:=⟨rb,ro+25,none⟩) (Am K4.out.2.2.2.2.1)).trans K4.out.2.2.2.2.1) (AF K4.out.2.2.2.2.2 hb)
 clear hb
 go_wp2_with fail
 refine QK.normal ⟨⟨K6.out.2.2.2.1,K6.out.2.2.2.2.1,K6.out.2.2.2.2.2⟩,?_⟩
 refine' Ar 28 (by kernel_rfl) ?_ ?_;rotate_left;(simp only[Aa,Ab,Ac];rfl)
 try simp only[Al]
 go_wp2_with fail
 refine QK.normal ⟨⟨K6.out.2.2.2.1,K6.out.2.2.2.2.1,K6.out.2.2.2.2.2⟩,?_⟩
 refine' Ar 29 (by kernel_rfl) ?_ ?_;rotate_left;(simp only[Aa,Ab,Ac];rfl)
 try simp only[Al]
 go_wp2_with fail
 refine QK.normal ⟨⟨K6.out.2.2.2.1,K6.out.2.2.2.2.1,K6.out.2.2.2.2.2⟩,?_⟩
 refine' Ar 30 (by kernel_rfl) ?_ ?_;rotate_left;(simp only[Aa,Ab,Ac];rfl)
 try simp only[Al,Ad,Ae,Af]
 go_wp2_with (first
  | ((with_reducible refine BR ?_ 26 (.tmp 2) rfl (w3.heap.size) 0 rfl cs _ (As K6.out.2.1) Tryz.underlying26 rfl (At Tryz.infoId HCL.out) ?_);focus rfl))
 refine QK.normal ⟨⟨K6.out.2.2.2.1,K6.out.2.2.2.2.1,K6.out.2.2.2.2.2⟩,?_⟩
 refine' Ar 31 (by kernel_rfl) ?_ ?_;rotate_left;(simp only[Aa,Ab,Ac];rfl)
 try simp only[Al,Ad,Ae,Af]
 go_wp2_with fail
 refine(Dx Dy.1 nmW cs (·∉[]) u5 (HS.out.below K6.out.2.2.1) (by rw[Jp.1];omega) (by rw[Jp.2];omega)).mono ?_
 rintro e' u7 ⟨v,rfl,hv,hb⟩
 obtain⟨va2,vc2,rfl,-⟩:=hv.1.nums
 rw[runW_r]
 have K8:=hJ6 (An K6.out.1 hb (Ah _)) (K6.out.2.1.below hb K6.out.2.1.lt) (An K6.out.2.2.1 hb (Ah _)) ((hb.cell (p:=⟨rb,ro+8,none⟩) (Am K6.out.2.2.2.1)).trans K6.out.2.2.2.1) ((hb.cell (p:=⟨rb,ro+25,none⟩) (Am K6.out.2.2.2.2.1)).trans K6.out.2.2.2.2.1) (AF K6.out.2.2.2.2.2 hb)
 clear hv hb
 go_wp2_with fail
 refine QK.normal ⟨⟨K8.out.2.2.2.1,K8.out.2.2.2.2.1,K8.out.2.2.2.2.2⟩,?_⟩
 refine' Ar 32 (by kernel_rfl) ?_ ?_;rotate_left;(simp only[Aa,Ab,Ac];rfl)
 try simp only[Al]
 go_wp2_with fail
 refine QK.normal ⟨⟨K8.out.2.2.2.1,K8.out.2.2.2.2.1,K8.out.2.2.2.2.2⟩,?_⟩
 refine' Ar 33 (by kernel_rfl) ?_ ?_;rotate_left;(simp only[Aa,Ab,Ac];rfl)
 try simp only[Al]
 go_wp2_with fail
 refine QK.normal ⟨⟨K8.out.2.2.2.1,K8.out.2.2.2.2.1,K8.out.2.2.2.2.2⟩,?_⟩
 refine' Ar 34 (by kernel_rfl) ?_ ?_;rotate_left;(simp only[Aa,Ab,Ac];rfl)
 try simp only[Al]
 go_wp2_with fail
 refine QK.normal ⟨⟨K8.out.2.2.2.1,K8.out.2.2.2.2.1,K8.out.2.2.2.2.2⟩,?_⟩
 refine' Ar 35 (by kernel_rfl) ?_ ?_;rotate_left;(simp only[Aa,Ab,Ac];rfl)
 try simp only[Al]
 go_wp2_with fail
 refine QK.normal ⟨⟨K8.out.2.2.2.1,K8.out.2.2.2.2.1,K8.out.2.2.2.2.2⟩,?_⟩
 refine' Ar 36 (by kernel_rfl) ?_ ?_;rotate_left;(simp only[Aa,Ab,Ac];rfl)
 try simp only[Al,Ad,Ae,Af]
 go_wp2_with (first
  | ((with_reducible refine BR ?_ 26 (.tmp 2) rfl (w3.heap.size) 0 rfl cs _ (As K8.out.2.1) Tryz.underlying26 rfl (At Tryz.infoId HCL.out) ?_);focus rfl))
 refine QK.normal ⟨⟨K8.out.2.2.2.1,K8.out.2.2.2.2.1,K8.out.2.2.2.2.2⟩,?_⟩
 refine' Ar 37 (by kernel_rfl) ?_ ?_;rotate_left;(simp only[Aa,Ab,Ac];rfl)
 try simp only[Al,Ad,Ae,Af]
 go_wp2_with fail
 refine(FE Dy.1 nmW cs (·∉[]) u7 (HS.out.below K8.out.2.2.1) (by rw[Jp.1];omega)).mono ?_
 rintro e' u9 ⟨v,rfl,hv,hb⟩
 obtain⟨va3,vc3,rfl,-⟩:=hv.shape
 rw[runW_h]
 have K10:=hJ6 (An K8.out.1 hb (Ah _)) (K8.out.2.1.below hb K8.out.2.1.lt) (An K8.out.2.2.1 hb (Ah _)) ((hb.cell (p:=⟨rb,ro+8,none⟩) (Am K8.out.2.2.2.1)).trans K8.out.2.2.2.1) ((hb.cell (p:=⟨rb,ro+25,none⟩) (Am K8.out.2.2.2.2.1)).trans K8.out.2.2.2.2.1) (AF K8.out.2.2.2.2.2 hb)
 clear hv hb
 go_wp2_with fail
 refine QK.normal ⟨⟨K10.out.2.2.2.1,K10.out.2.2.2.2.1,K10.out.2.2.2.2.2⟩,?_⟩
 refine' Ar 38 (by kernel_rfl) ?_ ?_;rotate_left;(simp only[Aa,Ab,Ac];rfl)
 try simp only[Al]
 go_wp2_with fail
 refine QK.normal ⟨⟨K10.out.2.2.2.1,K10.out.2.2.2.2.1,K10.out.2.2.2.2.2⟩,?_⟩
 refine' Ar 39 (by kernel_rfl) ?_ ?_;rotate_left;(simp only[Aa,Ab,Ac];rfl)
 try simp only[Al]
 go_wp2_with fail
 refine QK.normal ⟨⟨K10.out.2.2.2.1,K10.out.2.2.2.2.1,K10.out.2.2.2.2.2⟩,?_⟩
 refine' Ar 40 (by kernel_rfl) ?_ ?_;rotate_left;(simp only[Aa,Ab,Ac];rfl)
 try simp only[Al]
 go_wp2_with fail
 refine QK.normal ⟨⟨K10.out.2.2.2.1,K10.out.2.2.2.2.1,K10.out.2.2.2.2.2⟩,?_⟩
 refine' Ar 41 (by kernel_rfl) ?_ ?_;rotate_left;(simp only[Aa,Ab,Ac];rfl)
 try simp only[Al]
 go_wp2_with fail
 refine QK.normal ⟨⟨K10.out.2.2.2.1,K10.out.2.2.2.2.1,K10.out.2.2.2.2.2⟩,?_⟩
 refine wpAnyH_done (by kernel_rfl) ?_ _
 refine NoPanic.normal ?_
 go_wp2_with fail
 go_ret
 exact⟨rfl,K10.out.1⟩
theorem cb_eq:∀ a b:List UInt8,Lib.compareBytes a b=0↔a=b
 | [],[]=> by simp[Lib.compareBytes]
 | [],_::_=> by simp[Lib.compareBytes]
 | _::_,[]=> by simp[Lib.compareBytes]
 | a::x,b::y=> by
  rw[Lib.compareBytes]
  by_cases h1:a<b
  ·rw[if_pos h1]
   refine⟨fun h=> absurd h (by decide),fun e=> ?_⟩
   injection e with e1 e2
   rw[e1,UInt8.lt_iff_toNat_lt] at h1
   omega
  ·rw[if_neg h1]
   by_cases h2:b<a
   ·rw[if_pos h2]
    refine⟨fun h=> absurd h (by decide),fun e=> ?_⟩
    injection e with e1 e2
    rw[e1,UInt8.lt_iff_toNat_lt] at h2
    omega
   ·rw[if_neg h2,cb_eq x y]
    have e:a=b:=by
     rw[UInt8.lt_iff_toNat_lt] at h1 h2
     exact UInt8.toNat_inj.1 (by omega)
    rw[e]
    simp
theorem JG:∀ a b:List UInt8,Lib.compareBytes a b<0↔0<Lib.compareBytes b a
 | [],[]=> by simp[Lib.compareBytes]
 | [],_::_=> by simp[Lib.compareBytes]
 | _::_,[]=> by simp[Lib.compareBytes]
 | a::x,b::y=> by
  rw[Lib.compareBytes,Lib.compareBytes]
  by_cases h1:a<b
  ·have h2:¬ b<a:=by rw[UInt8.lt_iff_toNat_lt] at h1 ⊢;omega
   rw[if_pos h1,if_neg h2,if_pos h1]
   decide
  ·by_cases h2:b<a
   ·rw[if_neg h1,if_pos h2,if_pos h2]
    decide
   ·rw[if_neg h1,if_neg h2,if_neg h2,if_neg h1]
    exact JG x y
theorem IC:∀ a b c:List UInt8,Lib.compareBytes a b<0→Lib.compareBytes b c<0→Lib.compareBytes a c<0
 | _,[],[]=> fun _ h=> absurd h (by simp[Lib.compareBytes])
 | _::_,[],_=> fun h _=> absurd h (by simp[Lib.compareBytes])
 | [],[],_=> fun h _=> absurd h (by simp[Lib.compareBytes])
 | _,_::_,[]=> fun _ h=> absurd h (by simp[Lib.compareBytes])
 | [],_::_,_::_=> fun _ _=> by simp[Lib.compareBytes]
 | a::x,b::y,c::z=> fun h1 h2=> by
  rw[Lib.compareBytes] at h1 h2 ⊢
  have hab:a.toNat≤b.toNat:=by
   by_cases k:a<b
   ·rw[UInt8.lt_iff_toNat_lt] at k;omega
   ·by_cases k2:b<a
    ·rw[if_neg k,if_pos k2] at h1;exact absurd h1 (by decide)
    ·rw[UInt8.lt_iff_toNat_lt] at k2;omega
  have hbc:b.toNat≤c.toNat:=by
   by_cases k:b<c
   ·rw[UInt8.lt_iff_toNat_lt] at k;omega
   ·by_cases k2:c<b
    ·rw[if_neg k,if_pos k2] at h2;exact absurd h2 (by decide)
    ·rw[UInt8.lt_iff_toNat_lt] at k2;omega
  by_cases hac:a<c
  ·rw[if_pos hac];decide
  ·have e1:¬ a<b:=by rw[UInt8.lt_iff_toNat_lt] at hac ⊢;omega
   have e2:¬ b<a:=by rw[UInt8.lt_iff_toNat_lt];omega
   have e3:¬ b<c:=by rw[UInt8.lt_iff_toNat_lt] at hac ⊢;omega
   have e4:¬ c<b:=by rw[UInt8.lt_iff_toNat_lt];omega
   have e5:¬ c<a:=by rw[UInt8.lt_iff_toNat_lt];omega
   rw[if_neg e1,if_neg e2] at h1
   rw[if_neg e3,if_neg e4] at h2
   rw[if_neg hac,if_neg e5]
   exact IC x y z h1 h2
theorem bl_cb:∀ a b:List UInt8,Op.bytesLess a b=decide (Lib.compareBytes a b<0)
 | [],[]=> by simp[Op.bytesLess,Lib.compareBytes]
 | [],_::_=> by simp[Op.bytesLess,Lib.compareBytes]
 | _::_,[]=> by simp[Op.bytesLess,Lib.compareBytes]
 | a::x,b::y=> by
  rw[Op.bytesLess,Lib.compareBytes,bl_cb x y]
  by_cases h1:a<b
  ·simp[h1]
  ·by_cases h2:b<a
   ·have h3:¬ a=b:=fun e=> by rw[e,UInt8.lt_iff_toNat_lt] at h2;omega
    simp[h1,h2,h3]
   ·have e:a=b:=by
     rw[UInt8.lt_iff_toNat_lt] at h1 h2
     exact UInt8.toNat_inj.1 (by omega)
    subst e
    simp[h1]
structure Lin {κ:Type} (cmp:κ→κ→Int):Prop where
 eq:∀ a b,cmp a b=0↔a=b
 swap:∀ a b,cmp a b<0↔0<cmp b a
 trans:∀ a b c,cmp a b<0→cmp b c<0→cmp a c<0
theorem BU:Lin BS:=⟨fun a b=> by
 unfold BS;rw[cb_eq]
 constructor
 ·intro h
  have:a.data=b.data:=Array.toList_inj.1 h
  cases a;cases b;simp only at this;rw[this]
 ·intro h;rw[h],fun a b=> JG _ _,fun a b c=> IC _ _ _⟩
theorem DN (a b:Int):BA a b<0↔a<b:=by
 unfold BA
 by_cases h:a<b
 ·rw[if_pos h];omega
 ·rw[if_neg h]
  by_cases h2:b<a
  ·rw[if_pos h2];omega
  ·rw[if_neg h2];omega
theorem ID (a b:Int):0<BA a b↔b<a:=by
 unfold BA
 by_cases h:a<b
 ·rw[if_pos h];omega
 ·rw[if_neg h]
  by_cases h2:b<a
  ·rw[if_pos h2];omega
  ·rw[if_neg h2];omega
theorem DO:Lin BA:=⟨fun a b=> by
 have h1:=DN a b
 have h2:=ID a b
 constructor
 ·intro h;omega
 ·intro h;omega,fun a b=> by rw[DN,ID],fun a b c=> by rw[DN,DN,DN];omega⟩
theorem La (a b:ByteArray):geS a b=false↔BS a b<0:=by
 unfold geS BS
 rw[bl_cb,Lib.toList_data,Lib.toList_data]
 simp
theorem Lb (a b:Int):geN a b=false↔BA a b<0:=by
 rw[DN]
 unfold geN
 simp
theorem Dd {α:Type} {ge:α→α→Bool} {lt:α→α→Prop} (h:∀ a b,ge a b=false↔lt a b) (tr:∀ a b c,lt a b→lt b c→lt a c):∀ l:List α,BF ge l=true↔l.Pairwise lt
 | []=> by simp[BF]
 | [a]=> by simp[BF]
 | a::b::t=> by
  rw[BF,Bool.and_eq_true,Dd h tr (b::t),Bool.not_eq_true',h,List.pairwise_cons (a:=a)]
  constructor
  ·rintro⟨h1,h2⟩
   refine⟨fun x hx=> ?_,h2⟩
   rcases List.mem_cons.1 hx with rfl|hx
   ·exact h1
   ·exact tr _ _ _ h1 ((List.pairwise_cons.1 h2).1 x hx)
  ·rintro⟨h1,h2⟩
   exact⟨h1 b List.mem_cons_self,h2⟩
section
variable {α κ:Type} {cmp:κ→κ→Int} {key:α→κ}
theorem Lc {c:Nat→Int} (n:Nat):∀ (lo hi:Nat),hi - lo≤n→lo≤hi→(∀ a b,lo≤a→a≤b→b<hi→c b<0→c a<0)→
  lo≤bsI c lo hi∧bsI c lo hi≤hi∧(∀ j,lo≤j→j<bsI c lo hi→c j<0)∧(∀ j,bsI c lo hi≤j→j<hi→¬ c j<0):=by
 induction n with
 | zero=>
  intro lo hi h1 h2 _
  rw[Ej (by omega)]
  exact⟨Ah _,h2,fun j a b=> by omega,fun j a b=> by omega⟩
 | succ n ih=>
  intro lo hi h1 h2 hm
  by_cases hl:lo<hi
  ·by_cases hc:c ((lo+hi) / 2)<0
   ·rw[Hl hl hc]
    obtain⟨a1,a2,a3,a4⟩:=ih ((lo+hi) / 2+1) hi (by omega) (by omega) (fun a b x y z=> hm a b (by omega) y z)
    refine⟨by omega,a2,fun j x y=> ?_,a4⟩
    by_cases hj:j≤(lo+hi) / 2
    ·exact hm j _ x hj (by omega) hc
    ·exact a3 j (by omega) y
   ·rw[EQ hl hc]
    obtain⟨a1,a2,a3,a4⟩:=ih lo ((lo+hi) / 2) (by omega) (by omega) (fun a b x y z=> hm a b x y (by omega))
    refine⟨a1,by omega,a3,fun j x y hj=> ?_⟩
    by_cases hj2:j<(lo+hi) / 2
    ·exact a4 j x hj2 hj
    ·exact hc (hm _ j (by omega) (by omega) y hj)
  ·rw[Ej hl]
   exact⟨Ah _,h2,fun j a b=> by omega,fun j a b=> by omega⟩
theorem Fs (hc:Lin cmp) {l:List α} (hs:l.Pairwise (fun x y=> cmp (key x) (key y)<0)) (k:κ):
  (AU (fun x=> cmp (key x) k) l).1≤l.length∧(∀ j (hj:j<l.length),j<(AU (fun x=> cmp (key x) k) l).1→cmp (key l[j]) k<0)∧(∀ j (hj:j<l.length),(AU (fun x=> cmp (key x) k) l).1≤j→¬ cmp (key l[j]) k<0):=by
 have h:=Lc (c:=Dh (fun x=> cmp (key x) k) l) l.length 0 l.length (by omega) (by omega) (fun a b _ hab hb h=> by
  rcases Nat.lt_or_eq_of_le hab with h1|rfl
  ·rw[CM _ _ _ hb] at h
   rw[CM _ _ _ (show a<l.length by omega)]
   exact hc.trans _ _ _ (List.pairwise_iff_getElem.1 hs a b (by omega) hb h1) h
  ·exact h)
 unfold AU
 refine⟨h.2.1,fun j hj hlt=> ?_,fun j hj hle=> ?_⟩
 ·have:=h.2.2.1 j (Nat.zero_le _) hlt
  rw[CM _ _ _ hj] at this
  exact this
 ·have:=h.2.2.2 j hle hj
  rw[CM _ _ _ hj] at this
  exact this
theorem CE (hc:Lin cmp) {l:List α} {k:κ} (h:(AU (fun x=> cmp (key x) k) l).2=true):∃ x,l[(AU (fun x=> cmp (key x) k) l).1]?=some x∧key x=k∧x∈l:=by
 have h1:=DV h
 refine⟨l[(AU (fun x=> cmp (key x) k) l).1]'h1.1,List.getElem?_eq_getElem h1.1,?_,List.getElem_mem _⟩
 have h2:=h1.2
 rw[CM _ _ _ h1.1] at h2
 exact(hc.eq _ _).1 h2
theorem Hr (hc:Lin cmp) {l:List α} (hs:l.Pairwise (fun x y=> cmp (key x) (key y)<0)) {k:κ} (h:(AU (fun x=> cmp (key x) k) l).2=false):∀ x∈l,key x≠k:=by
 intro x hx e
 obtain⟨j,hj,rfl⟩:=List.mem_iff_getElem.1 hx
 obtain⟨h1,h2,h3⟩:=Fs hc hs k
 have h0:cmp (key l[j]) k=0:=(hc.eq _ _).2 e
 have hj2:(AU (fun x=> cmp (key x) k) l).1=j:=by
  rcases Nat.lt_trichotomy (AU (fun x=> cmp (key x) k) l).1 j with h4|h4|h4
  ·have h5:=h3 (AU (fun x=> cmp (key x) k) l).1 (by omega) (Ah _)
   have h6:=List.pairwise_iff_getElem.1 hs _ j (show(AU (fun x=> cmp (key x) k) l).1<l.length by omega) hj h4
   rw[e] at h6
   exact absurd h6 h5
  ·exact h4
  ·have:=h2 j hj h4;omega
 have h':(decide ((AU (fun x=> cmp (key x) k) l).1<l.length) && (Dh (fun x=> cmp (key x) k) l (AU (fun x=> cmp (key x) k) l).1==0))=false:=h
 rw[hj2,CM _ _ _ hj] at h'
 simp[hj,h0] at h'
theorem Ld (hc:Lin cmp) {l:List α} (hs:l.Pairwise (fun x y=> cmp (key x) (key y)<0)) {k:κ}:(AU (fun x=> cmp (key x) k) l).2=true↔∃ x∈l,key x=k:=by
 constructor
 ·intro h
  obtain⟨x,-,h1,h2⟩:=CE hc h
  exact⟨x,h2,h1⟩
 ·rintro⟨x,hx,e⟩
  cases hb:(AU (fun x=> cmp (key x) k) l).2 with
  | true=> rfl
  | false=> exact absurd e (Hr hc hs hb x hx)
theorem IE (hc:Lin cmp) {l:List α} (hs:l.Pairwise (fun x y=> cmp (key x) (key y)<0)) {k:κ} {x:α} (hx:x∈l) (e:key x=k):(AU (fun x=> cmp (key x) k) l).2=true∧l[(AU (fun x=> cmp (key x) k) l).1]?=some x:=by
 have h2:=(Ld hc hs).2 ⟨x,hx,e⟩
 obtain⟨y,h3,h4,h5⟩:=CE hc h2
 refine⟨h2,?_⟩
 rw[h3]
 obtain⟨i,hi,rfl⟩:=List.mem_iff_getElem.1 hx
 obtain⟨j,hj,rfl⟩:=List.mem_iff_getElem.1 h5
 have hij:i=j:=by
  have hp:=List.pairwise_iff_getElem.1 hs
  rcases Nat.lt_trichotomy i j with h|h|h
  ·have h6:=hp i j hi hj h
   rw[e,h4,(hc.eq k k).2 rfl] at h6
   omega
  ·exact h
  ·have h6:=hp j i hj hi h
   rw[e,h4,(hc.eq k k).2 rfl] at h6
   omega
 subst hij
 rfl
theorem IF (hc:Lin cmp) {l:List α} (hs:l.Pairwise (fun x y=> cmp (key x) (key y)<0)) {x:α} (h:(AU (fun y=> cmp (key y) (key x)) l).2=false):(BY l (AU (fun y=> cmp (key y) (key x)) l).1 x).Pairwise (fun x y=> cmp (key x) (key y)<0):=by
 obtain⟨h1,h2,h3⟩:=Fs hc hs (key x)
 have hn:=Hr hc hs h
 unfold BY
 generalize (AU (fun y=> cmp (key y) (key x)) l).1=i at h1 h2 h3
 rw[List.pairwise_append]
 refine⟨hs.sublist (List.take_sublist _ _),?_,?_⟩
 ·rw[List.pairwise_cons]
  refine⟨fun y hy=> ?_,hs.sublist (List.drop_sublist _ _)⟩
  obtain⟨j,hj,rfl⟩:=List.mem_iff_getElem.1 hy
  rw[List.length_drop] at hj
  rw[List.getElem_drop]
  have h4:=h3 (i+j) (by omega) (by omega)
  have h5:=hn _ (List.getElem_mem (show i+j<l.length by omega))
  have h6:cmp (key l[i+j]) (key x)≠0:=fun e=> h5 ((hc.eq _ _).1 e)
  exact(hc.swap _ _).2 (by omega)
 ·intro a ha b hb
  obtain⟨j,hj,rfl⟩:=List.mem_iff_getElem.1 ha
  rw[List.length_take] at hj
  rw[List.getElem_take]
  have h4:=h2 j (by omega) (by omega)
  rcases List.mem_cons.1 hb with rfl|hb
  ·exact h4
  ·obtain⟨m,hm,rfl⟩:=List.mem_iff_getElem.1 hb
   rw[List.length_drop] at hm
   rw[List.getElem_drop]
   exact List.pairwise_iff_getElem.1 hs j (i+m) (by omega) (by omega) (by omega)
theorem De {l:List α} {i:Nat} {x y:α}:y∈BY l i x↔y=x∨y∈l:=by
 unfold BY
 rw[List.mem_append,List.mem_cons]
 conv=> rhs;rw[←List.take_append_drop i l,List.mem_append]
 constructor
 ·rintro(h|h|h)
  ·exact .inr (.inl h)
  ·exact .inl h
  ·exact .inr (.inr h)
 ·rintro(h|h|h)
  ·exact .inr (.inl h)
  ·exact .inl h
  ·exact .inr (.inr h)
theorem GI {l:List α} (hs:l.Pairwise (fun x y=> cmp (key x) (key y)<0)) {i:Nat} {x y:α} (h:l[i]?=some x) (e:key y=key x):(l.set i y).Pairwise (fun x y=> cmp (key x) (key y)<0):=by
 have hm:(l.set i y).map key=l.map key:=by
  rw[List.map_set]
  obtain⟨hi,hx⟩:=List.getElem?_eq_some_iff.1 h
  rw[e,←hx,show key l[i]=(l.map key)[i]'(by simpa using hi) by simp,List.set_getElem_self]
 have h1:(l.map key).Pairwise (fun x y=> cmp x y<0):=List.pairwise_map.2 hs
 rw[←hm] at h1
 exact List.pairwise_map.1 h1
end
end Go.Proofs.YtgdlfiphihaooaaGreat

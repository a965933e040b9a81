import Derived.Test.YtgdlfiphihaooaaGreatYs0
import Derived.Deep.QuietTactic
import Derived.Lib.SliceRun
import Derived.Lib.SlicesSearch
import Derived.Lib.AppendZerosOnto
import Derived.Lib.Overlaps
import Derived.Laws.Externs
import Derived.Laws.IdiomCopy
set_option linter.unusedSimpArgs false
set_option linter.unusedVariables false
set_option maxRecDepth 100000
set_option maxHeartbeats 8000000
open _root_.List renaming getElem?_toArray→Aa,getElem?_cons_zero→Ab,getElem?_cons_succ→Ac,setIfInBounds_toArray→Ad,set_cons_zero→Ae,set_cons_succ→Af
open _root_.Go.Lib renaming hid→Ag
open _root_.Nat renaming le_refl→Ah,le_trans→Aj,lt_of_lt_of_le→Ak
open _root_.And renaming intro→Ai
open _root_.Go.Act renaming put→Al
namespace Go.Proofs.YtgdlfiphihaooaaGreat
open Go Go.RowKit
mutual
def C0:Tm→Tm→Bool
 | .mk k u n s ks,.mk k' u' n' s' ks'=> (k==k') && ((u==u') && ((n==n') && ((s.toList==s'.toList) && BL ks ks')))
def BL:List Tm→List Tm→Bool
 | [],[]=> true
 | a::xa,b::bs=> C0 a b && BL xa bs
 | [],_::_=> false
 | _::_,[]=> false
end
theorem DJ (a b:Tm) (xa bs:List Tm):BL (a::xa) (b::bs)=(C0 a b && BL xa bs):=by rw[BL]
theorem E6:∀ {xa bs:List Tm},xa.length≠bs.length→BL xa bs=false
 | [],[],h=> (h rfl).elim
 | [],_::_,_=> by rw[BL]
 | _::_,[],_=> by rw[BL]
 | a::xa,b::bs,h=> by rw[BL,E6 (by simpa using h),Bool.and_false]
theorem toList_inj {s t:ByteArray} (h:s.toList=t.toList):s=t:=by
 rw[ByteArray.toList_eq,ByteArray.toList_eq] at h
 exact ByteArray.ext (Array.toList_inj.1 h)
theorem Hz:∀ {xa bs:List Tm},(∀ a∈xa,∀ b,C0 a b=true↔a=b)→(BL xa bs=true↔xa=bs)
 | [],[],_=> by rw[BL];simp
 | [],_::_,_=> by rw[BL];simp
 | _::_,[],_=> by rw[BL];simp
 | a::xa,b::bs,ih=> by rw[BL,Bool.and_eq_true,ih a List.mem_cons_self,Hz (fun a ha=> ih a (List.mem_cons_of_mem _ ha))];simp
theorem Dp:∀ (a b:Tm),C0 a b=true↔a=b:=by
 refine Tm.ind fun k u n s ks ih b=> ?_
 obtain⟨k',u',n',s',ks'⟩:=b
 rw[C0]
 simp only[Bool.and_eq_true,beq_iff_eq,Hz ih,Tm.mk.injEq]
 constructor
 ·rintro⟨h1,h2,h3,h4,h5⟩;exact⟨h1,h2,h3,toList_inj h4,h5⟩
 ·rintro⟨h1,h2,h3,h4,h5⟩;exact⟨h1,h2,h3,by rw[h4],h5⟩
theorem Lq (xa bs:List Tm) (va vb:Value) (Fa Fb:Nat→Prop) (w:World) (ha:SlT Fa w va xa) (hb:SlT Fb w vb bs) (ih:∀ a∈xa,∀ (b:Tm) (ca cb:List Value) (Fa Fb:Nat→Prop) (w:World),TmC Fa w ca a→TmC Fb w cb b→Calls Tryz.prog 15 #[.agg ca.toArray,.agg cb.toArray] w (fun e w'=> e=.returned (.bool (C0 a b))∧Below w.heap.size w w')):
  Calls Tryz.prog 30 #[va,vb,.func (.func 15) #[] #[]] w (fun e w'=> e=.returned (.bool (BL xa bs))∧Below w.heap.size w w'):=by
 have HIH:=Ag ih
 obtain⟨ao,c,rfl,hca,hcm,-⟩:=id ha
 obtain⟨bo,d,rfl,hdb,hdm,-⟩:=id hb
 obtain⟨R,hR⟩:∃ R,BL xa bs=R:=⟨_,rfl⟩
 rw[hR]
 have HR:=Ag hR
 obtain⟨m,hm⟩:∃ m,xa.length=m:=⟨_,rfl⟩
 obtain⟨n,hn⟩:∃ n,bs.length=n:=⟨_,rfl⟩
 have HM:=Ag hm
 have HN:=Ag hn
 rw[hm] at ha hca ⊢
 rw[hn] at hb hdb ⊢
 have hm63:m≤9223372036854775807:=by unfold maxLen at hcm;omega
 have hn63:n≤9223372036854775807:=by unfold maxLen at hdm;omega
 have HA:=Ag ha
 have HB:=Ag hb
 clear ha hb ih hR hm hn hca hcm hdb hdm
 by_cases hmn:m=n
 rotate_left
 ·have e1:((m:Int) !=(n:Int))=true:=by simp;omega
  have HE:=Ag (show R=false from by rw[←HR.out];exact E6 (by rw[HM.out,HN.out];exact hmn))
  clear hmn
  go_enter Tryz.func30,Tryz.ntmps30
  go_wp2_with fail
  go_ret
  exact⟨by rw[HE.out];rfl,Below.refl _ _⟩
 have e1:((m:Int) !=(n:Int))=false:=by simp;omega
 have HMN:=Ag hmn
 clear hmn
 go_enter Tryz.func30,Tryz.ntmps30
 go_wp2_with fail
 clear e1
 go_loopw [17] (fun i wr=> ∃ (j:Nat),i=.int .i64 j∧j≤m∧Hid (BL (xa.drop j) (bs.drop j)=R)∧Hid (Below w.heap.size w wr)) (fun i _=> m - (intOf i).toNat)
 case atStart=> exact⟨0,rfl,Nat.zero_le _,Ag HR.out,Ag (Below.refl _ _)⟩
 case round=>
  obtain⟨j,rfl,hj,HQ,HW⟩:=hrel
  by_cases hlt:j<m
  ·have hja:j<xa.length:=by rw[HM.out];exact hlt
   have hjb:j<bs.length:=by rw[HN.out,←HMN.out];exact hlt
   have hjz:(j:Int)<(m:Int):=by omega
   have hjn:(j:Int)<(n:Int):=by have:=HMN.out;omega
   have hj0:(0:Int)≤(j:Int):=by omega
   obtain⟨b1,o1,ca,rfl,-,-,hra,hta⟩:=HA.out.get hja
   obtain⟨b2,o2,cb,rfl,-,-,hrb,htb⟩:=HB.out.get hjb
   have HMEM:=Ag (List.getElem_mem hja)
   have HQ2:=Ag (show BL (xa[j]::xa.drop (j+1)) (bs[j]::bs.drop (j+1))=R from by rw[←List.drop_eq_getElem_cons hja,←List.drop_eq_getElem_cons hjb];exact HQ.out)
   generalize xa[j]=ta at hta HMEM HQ2
   generalize bs[j]=tb at htb HQ2
   obtain⟨aa,pa,rfl,-,-,-⟩:=hta.shape
   obtain⟨ab,pb,rfl,-,-,-⟩:=htb.shape
   have HRA:=Ag (Ai hra hrb)
   have HTM:=Ag (Ai hta htb)
   clear hra hrb hta htb hja hjb
   go_wp2_with (first
  | (with_reducible refine Ap rfl 29 (.tmp 20) rfl b1 (o1+j* 5) rfl (tmC ta.k ta.u ta.n ta.s (.slice aa ta.ks.length pa)) _ (BF HRA.out.1 (Ch.of_below (S:=fun _=> False) HW.out (Ah _)) (fun h=> h)) Tryz.underlying29 rfl (A8 _ _ _ _ _) ?_)
  | ((with_reducible refine Av wr rfl 29 rfl (tmC 0 0 0 ⟨#[]⟩ (.slice none 0 0)) Tryz.zeroTm ?_);intro d1 hb hbel hsz;have HD1:=Ag (Ai hb hbel);clear hb hbel hsz)
  | ((with_reducible refine Ao d1 rfl 29 (.tmp 8) (.tmp 21) rfl wr.heap.size 29 (tmC 0 0 0 ⟨#[]⟩ (.slice none 0 0)) (tmC ta.k ta.u ta.n ta.s (.slice aa ta.ks.length pa)) HD1.out.1 rfl rfl rfl (A8 _ _ _ _ _) (AR _ _ _ _ _ _ _) ?_);intro d2 hb hc hs;have hbw:Below wr.heap.size wr d2:=Aw HD1.out.2 hc (Ah _) (fun k hk=> by have e:k=wr.heap.size:=hk;omega);have HD2:=hJ2 hb (An HW.out hbw (Ah _));clear hb hc hs hbw)
  | (with_reducible refine Ap rfl 29 (.tmp 24) rfl b2 (o2+j* 5) rfl (tmC tb.k tb.u tb.n tb.s (.slice ab tb.ks.length pb)) _ (BF HRA.out.2 (Ch.of_below (S:=fun _=> False) HD2.out.2 (Ah _)) (fun h=> h)) Tryz.underlying29 rfl (A8 _ _ _ _ _) ?_)
  | ((with_reducible refine Av d2 rfl 29 rfl (tmC 0 0 0 ⟨#[]⟩ (.slice none 0 0)) Tryz.zeroTm ?_);intro d3 hb hbel hsz;have HD3:=Ag (Ai hb hbel);clear hb hbel hsz)
  | ((with_reducible refine Ao d3 rfl 29 (.tmp 9) (.tmp 25) rfl d2.heap.size 29 (tmC 0 0 0 ⟨#[]⟩ (.slice none 0 0)) (tmC tb.k tb.u tb.n tb.s (.slice ab tb.ks.length pb)) HD3.out.1 rfl rfl rfl (A8 _ _ _ _ _) (AR _ _ _ _ _ _ _) ?_);intro d4 hb hc hs;have hbw:Below d2.heap.size d2 d4:=Aw HD3.out.2 hc (Ah _) (fun k hk=> by have e:k=d2.heap.size:=hk;omega);have HD4:=Ag (show Blk d4 d2.heap.size 29 (tmC tb.k tb.u tb.n tb.s (.slice ab tb.ks.length pb))∧Blk d4 wr.heap.size 29 (tmC ta.k ta.u ta.n ta.s (.slice aa ta.ks.length pa))∧Below w.heap.size w d4 from⟨hb,HD2.out.1.below hbw HD2.out.1.lt,An HD2.out.2 hbw (Ah _)⟩);clear hb hc hs hbw)
  | (with_reducible refine Ap rfl 29 (.tmp 8) rfl wr.heap.size 0 rfl (tmC ta.k ta.u ta.n ta.s (.slice aa ta.ks.length pa)) _ (As HD4.out.2.1) Tryz.underlying29 rfl (A8 _ _ _ _ _) ?_)
  | (with_reducible refine Ap rfl 29 (.tmp 9) rfl d2.heap.size 0 rfl (tmC tb.k tb.u tb.n tb.s (.slice ab tb.ks.length pb)) _ (As HD4.out.1) Tryz.underlying29 rfl (A8 _ _ _ _ _) ?_))
   have hx:=HIH.out ta HMEM.out tb _ _ Fa Fb d4 (HTM.out.1.below HD4.out.2.2) (HTM.out.2.below HD4.out.2.2)
   obtain⟨rb,hr⟩:∃ r,C0 ta tb=r:=⟨_,rfl⟩
   have HRB:=Ag hr
   rw[hr] at hx
   clear hr
   refine Calls.mono hx ?_
   clear hx
   rintro e' d5 ⟨rfl,hb⟩
   have HD5:=Ag (An HD4.out.2.2 hb (Ah _))
   clear hb
   cases rb
   ·have HE:=Ag (show R=false from by rw[←HQ2.out,DJ,HRB.out,Bool.false_and])
    go_wp2_with fail
    go_ret
    exact⟨by rw[HE.out];rfl,HD5.out⟩
   ·have HQ3:=Ag (show BL (xa.drop (j+1)) (bs.drop (j+1))=R from by have h:=HQ2.out;rw[DJ,HRB.out,Bool.true_and] at h;exact h)
    go_wp2_with fail
    go_roundw
    case rel=> exact⟨j+1,by go_num,by omega,HQ3,HD5⟩
    case measure=> simp[intOf];omega
  ·have hge:¬ (j:Int)<(m:Int):=by omega
   have HE:=Ag (show R=true from by rw[←HQ.out,List.drop_of_length_le (by rw[HM.out];omega),List.drop_of_length_le (by rw[HN.out,←HMN.out];omega),BL])
   go_wp2_with fail
   go_ret
   exact⟨by rw[HE.out];rfl,HW.out⟩
theorem Dq:∀ (a:Tm),∀ (b:Tm) (ca cb:List Value) (Fa Fb:Nat→Prop) (w:World),TmC Fa w ca a→TmC Fb w cb b→Calls Tryz.prog 15 #[.agg ca.toArray,.agg cb.toArray] w (fun e w'=> e=.returned (.bool (C0 a b))∧Below w.heap.size w w'):=by
 refine Tm.ind fun k u n s ks ih b ca cb Fa Fb w ha hb=> ?_
 obtain⟨k',u',n',s',ks'⟩:=b
 obtain⟨ao,c,rfl,-,-,hsa⟩:=ha.shape
 obtain⟨bo,d,rfl,-,-,hsb⟩:=hb.shape
 simp only[Tm.k,Tm.u,Tm.n,Tm.s,Tm.ks] at hsa hsb ⊢
 have HIH:=Ag ih
 have HS:=Ag (Ai hsa hsb)
 rw[C0]
 clear ha hb ih hsa hsb
 obtain⟨l,hl⟩:∃ l,ks.length=l:=⟨_,rfl⟩
 obtain⟨m,hm⟩:∃ l,ks'.length=l:=⟨_,rfl⟩
 rw[hl,hm] at HS
 rw[hl,hm]
 clear hl hm
 obtain⟨bk,hk⟩:∃ b,(k==k')=b:=⟨_,rfl⟩
 obtain⟨bu,hu⟩:∃ b,(u==u')=b:=⟨_,rfl⟩
 obtain⟨bn,hn⟩:∃ b,(n==n')=b:=⟨_,rfl⟩
 obtain⟨bs,hs⟩:∃ b,(s.toList==s'.toList)=b:=⟨_,rfl⟩
 obtain⟨R,hR⟩:∃ R,(bk && (bu && (bn && (bs && BL ks ks'))))=R:=⟨_,rfl⟩
 rw[hk,hu,hn,hs,hR]
 have HR:=Ag hR
 clear hR
 have H0:=Ag (Below.refl w.heap.size w)
 cases bk
 ·skip
  go_enter Tryz.func15,Tryz.ntmps15
  go_wp2_with (first
  | ((with_reducible refine Au w rfl 29 (.tmp 0) rfl (tmC k u n s (.slice ao l c)) rfl ?_);intro a1 hb hbel hsz;have HA1:=hJ2 (An H0.out hbel (Ah _)) hb;clear hb hbel hsz)
  | ((with_reducible refine Au a1 rfl 29 (.tmp 1) rfl (tmC k' u' n' s' (.slice bo m d)) rfl ?_);intro a2 hb hbel hsz;have HA2:=hJ3 (An HA1.out.1 hbel (Ah _)) (HA1.out.2.below hbel HA1.out.2.lt) hb;have c0:=HA2.out.2.1.cell 0;have d0:=HA2.out.2.2.cell 0;have c1:=HA2.out.2.1.cell 1;have d1:=HA2.out.2.2.cell 1;have c2:=HA2.out.2.1.cell 2;have d2:=HA2.out.2.2.cell 2;have c3:=HA2.out.2.1.cell 3;have d3:=HA2.out.2.2.cell 3;have c4:=HA2.out.2.1.cell 4;have d4:=HA2.out.2.2.cell 4;simp only[tmC,Ab,Ac] at c0 c1 c2 c3 c4 d0 d1 d2 d3 d4;clear hb hbel hsz))
  go_ret
  exact⟨by rw[←HR.out];rfl,HA2.out.1⟩
 cases bu
 ·skip
  go_enter Tryz.func15,Tryz.ntmps15
  go_wp2_with (first
  | ((with_reducible refine Au w rfl 29 (.tmp 0) rfl (tmC k u n s (.slice ao l c)) rfl ?_);intro a1 hb hbel hsz;have HA1:=hJ2 (An H0.out hbel (Ah _)) hb;clear hb hbel hsz)
  | ((with_reducible refine Au a1 rfl 29 (.tmp 1) rfl (tmC k' u' n' s' (.slice bo m d)) rfl ?_);intro a2 hb hbel hsz;have HA2:=hJ3 (An HA1.out.1 hbel (Ah _)) (HA1.out.2.below hbel HA1.out.2.lt) hb;have c0:=HA2.out.2.1.cell 0;have d0:=HA2.out.2.2.cell 0;have c1:=HA2.out.2.1.cell 1;have d1:=HA2.out.2.2.cell 1;have c2:=HA2.out.2.1.cell 2;have d2:=HA2.out.2.2.cell 2;have c3:=HA2.out.2.1.cell 3;have d3:=HA2.out.2.2.cell 3;have c4:=HA2.out.2.1.cell 4;have d4:=HA2.out.2.2.cell 4;simp only[tmC,Ab,Ac] at c0 c1 c2 c3 c4 d0 d1 d2 d3 d4;clear hb hbel hsz))
  go_ret
  exact⟨by rw[←HR.out];rfl,HA2.out.1⟩
 cases bn
 ·skip
  go_enter Tryz.func15,Tryz.ntmps15
  go_wp2_with (first
  | ((with_reducible refine Au w rfl 29 (.tmp 0) rfl (tmC k u n s (.slice ao l c)) rfl ?_);intro a1 hb hbel hsz;have HA1:=hJ2 (An H0.out hbel (Ah _)) hb;clear hb hbel hsz)
  | ((with_reducible refine Au a1 rfl 29 (.tmp 1) rfl (tmC k' u' n' s' (.slice bo m d)) rfl ?_);intro a2 hb hbel hsz;have HA2:=hJ3 (An HA1.out.1 hbel (Ah _)) (HA1.out.2.below hbel HA1.out.2.lt) hb;have c0:=HA2.out.2.1.cell 0;have d0:=HA2.out.2.2.cell 0;have c1:=HA2.out.2.1.cell 1;have d1:=HA2.out.2.2.cell 1;have c2:=HA2.out.2.1.cell 2;have d2:=HA2.out.2.2.cell 2;have c3:=HA2.out.2.1.cell 3;have d3:=HA2.out.2.2.cell 3;have c4:=HA2.out.2.1.cell 4;have d4:=HA2.out.2.2.cell 4;simp only[tmC,Ab,Ac] at c0 c1 c2 c3 c4 d0 d1 d2 d3 d4;clear hb hbel hsz))
  go_ret
  exact⟨by rw[←HR.out];rfl,HA2.out.1⟩
 cases bs
 ·skip
  go_enter Tryz.func15,Tryz.ntmps15
  go_wp2_with (first
  | ((with_reducible refine Au w rfl 29 (.tmp 0) rfl (tmC k u n s (.slice ao l c)) rfl ?_);intro a1 hb hbel hsz;have HA1:=hJ2 (An H0.out hbel (Ah _)) hb;clear hb hbel hsz)
  | ((with_reducible refine Au a1 rfl 29 (.tmp 1) rfl (tmC k' u' n' s' (.slice bo m d)) rfl ?_);intro a2 hb hbel hsz;have HA2:=hJ3 (An HA1.out.1 hbel (Ah _)) (HA1.out.2.below hbel HA1.out.2.lt) hb;have c0:=HA2.out.2.1.cell 0;have d0:=HA2.out.2.2.cell 0;have c1:=HA2.out.2.1.cell 1;have d1:=HA2.out.2.2.cell 1;have c2:=HA2.out.2.1.cell 2;have d2:=HA2.out.2.2.cell 2;have c3:=HA2.out.2.1.cell 3;have d3:=HA2.out.2.2.cell 3;have c4:=HA2.out.2.1.cell 4;have d4:=HA2.out.2.2.cell 4;simp only[tmC,Ab,Ac] at c0 c1 c2 c3 c4 d0 d1 d2 d3 d4;clear hb hbel hsz))
  go_ret
  exact⟨by rw[←HR.out];rfl,HA2.out.1⟩
 go_enter Tryz.func15,Tryz.ntmps15
 go_wp2_with (first
  | ((with_reducible refine Au w rfl 29 (.tmp 0) rfl (tmC k u n s (.slice ao l c)) rfl ?_);intro a1 hb hbel hsz;have HA1:=hJ2 (An H0.out hbel (Ah _)) hb;clear hb hbel hsz)
  | ((with_reducible refine Au a1 rfl 29 (.tmp 1) rfl (tmC k' u' n' s' (.slice bo m d)) rfl ?_);intro a2 hb hbel hsz;have HA2:=hJ3 (An HA1.out.1 hbel (Ah _)) (HA1.out.2.below hbel HA1.out.2.lt) hb;have c0:=HA2.out.2.1.cell 0;have d0:=HA2.out.2.2.cell 0;have c1:=HA2.out.2.1.cell 1;have d1:=HA2.out.2.2.cell 1;have c2:=HA2.out.2.1.cell 2;have d2:=HA2.out.2.2.cell 2;have c3:=HA2.out.2.1.cell 3;have d3:=HA2.out.2.2.cell 3;have c4:=HA2.out.2.1.cell 4;have d4:=HA2.out.2.2.cell 4;simp only[tmC,Ab,Ac] at c0 c1 c2 c3 c4 d0 d1 d2 d3 d4;clear hb hbel hsz))
 have hx:=Lq ks ks' _ _ Fa Fb a2 (HS.out.1.below HA2.out.1) (HS.out.2.below HA2.out.1) HIH.out
 refine Calls.mono hx ?_
 clear hx
 rintro e' a3 ⟨rfl,hb⟩
 have HB:=Ag (An HA2.out.1 hb (Ah _))
 clear hb
 have HE:=Ag (show R=BL ks ks' from by rw[←HR.out];rfl)
 go_wp2_with fail
 go_ret
 exact⟨by rw[HE.out];rfl,HB.out⟩
def AX (n:Int):Bool:=decide (1≤n) && decide (n≤6)
def BB (n:Int):Bool:=decide (1≤n) && decide (n≤3)
theorem Dr (n:Int) (w:World):Calls Tryz.prog 52 #[.int .i64 n] w (fun e w'=> e=.returned (.bool (AX n))∧w=w'):=by
 by_cases h1:1≤n
 ·by_cases h2:n≤6
  ·have HU:=Ag (show AX n=true by simp[AX,h1,h2])
   rw[HU.out]
   go_enter Tryz.func52,Tryz.ntmps52
   go_wp2
   go_ret
   exact⟨rfl,rfl⟩
  ·have HU:=Ag (show AX n=false by simp[AX,h2])
   rw[HU.out]
   go_enter Tryz.func52,Tryz.ntmps52
   go_wp2
   go_ret
   exact⟨rfl,rfl⟩
 ·have HU:=Ag (show AX n=false by simp[AX,h1])
  rw[HU.out]
  go_enter Tryz.func52,Tryz.ntmps52
  go_wp2
  go_ret
  exact⟨rfl,rfl⟩
theorem E7 (n:Int) (w:World):Calls Tryz.prog 59 #[.int .i64 n] w (fun e w'=> e=.returned (.bool (BB n))∧w=w'):=by
 by_cases h1:1≤n
 ·by_cases h2:n≤3
  ·have HU:=Ag (show BB n=true by simp[BB,h1,h2])
   rw[HU.out]
   go_enter Tryz.func59,Tryz.ntmps59
   go_wp2
   go_ret
   exact⟨rfl,rfl⟩
  ·have HU:=Ag (show BB n=false by simp[BB,h2])
   rw[HU.out]
   go_enter Tryz.func59,Tryz.ntmps59
   go_wp2
   go_ret
   exact⟨rfl,rfl⟩
 ·have HU:=Ag (show BB n=false by simp[BB,h1])
  rw[HU.out]
  go_enter Tryz.func59,Tryz.ntmps59
  go_wp2
  go_ret
  exact⟨rfl,rfl⟩
def Cr (P:Int→Bool) (l:List Int) (i:Nat):Bool:=P (l.getD i 0) && (i==0 ||decide (l.getD (i - 1) 0<l.getD i 0))
def D7 (P:Int→Bool) (l:List Int) (k:Nat):Bool:=(List.range k).all (Cr P l)
def BG (P:Int→Bool) (l:List Int):Bool:=D7 P l l.length
theorem Hf (P:Int→Bool) (l:List Int) (k:Nat):D7 P l (k+1)=(D7 P l k && Cr P l k):=by unfold D7;rw[List.range_succ,List.all_append];simp
theorem IS (P:Int→Bool) (l:List Int) {k:Nat} (h:Cr P l k=false) (hk:k<l.length):BG P l=false:=by
 unfold BG D7
 rw[Bool.eq_false_iff]
 intro h2
 have:=List.all_eq_true.1 h2 k (by simpa using hk)
 rw[h] at this;cases this
theorem Cs {l:List Int} {i:Nat} (h:i<l.length):l.getD i 0=l[i]:=by simp[List.getD_eq_getElem?_getD,List.getElem?_eq_getElem h]
theorem Es (P:Int→Bool) (gf:Nat) (lb:List Value) (v:Value) (l:List Int) (w:World) (hv:Sl w v (ofK .i64 l))
  (hcf:∀ args w1,Sem.run Tryz.prog (callFunc gf args) w1=.ok (.enter gf args) w1) (hst:∀ (n:Int),Calls Tryz.prog gf (.int .i64 n::lb).toArray w (fun e w'=> e=.returned (.bool (P n))∧w=w')):
  Calls Tryz.prog 58 #[v,.func (.func gf) #[] lb.toArray] w (fun e w'=> e=.returned (.bool (BG P l))∧w=w'):=by
 obtain⟨ao,c,rfl,a2,a3,a4⟩:=hv.nums
 have H:=Ag (Ai a4 hst)
 have HR:=Ag (Ai (Hf P l) (@IS P l))
 obtain⟨L,hL⟩:∃ L,l.length=L:=⟨_,rfl⟩
 obtain⟨R,hR⟩:∃ R,BG P l=R:=⟨_,rfl⟩
 have HL:=Ag (Ai hL hR)
 rw[hL] at a2 ⊢
 rw[hR]
 have hcf':=hcf
 clear hv a4 hst hL hR
 go_enter Tryz.func58,Tryz.ntmps58
 go_wp2_with fail
 go_loop [5,6,9] (fun u5 u6 i=> ∃ k:Nat,k≤L∧i=.int .i64 k∧Hid (D7 P l k=true)) (fun _ _ i=> L - (intOf i).toNat)
 case atStart=> exact⟨0,Nat.zero_le _,rfl,Ag rfl⟩
 case round=>
  obtain⟨k,hk,rfl,HT⟩:=hrel
  by_cases hlt:k<L
  ·have hkl:k<l.length:=by rw[HL.out.1];exact hlt
   have hklz:(k:Int)<(L:Int):=by omega
   have hk0:(0:Int)≤(k:Int):=by omega
   obtain⟨b,o,rfl,-,hcell⟩:=H.out.1 (by omega)
   have c1:=hcell k hkl
   have hat:=Cs hkl
   have hsu:=HR.out.1 k
   have hno:=fun h=> HR.out.2 (k:=k) h hkl
   rw[HL.out.2] at hno
   rw[HT.out,Bool.true_and] at hsu
   have hra:Cr P l k=(P (l.getD k 0) && (k==0 ||decide (l.getD (k - 1) 0<l.getD k 0))):=rfl
   rw[hat] at hra
   generalize l[k]=x at c1 hra
   obtain⟨px,hpx⟩:∃ b,P x=b:=⟨_,rfl⟩
   rw[hpx] at hra
   have HC:=Ag (H.out.2 x)
   rw[hpx] at HC
   clear hat hpx
   by_cases hz:k=0
   ·subst hz
    rw[Nat.add_zero] at c1
    have HS:=Ag hsu
    have HN:=Ag hno
    have HA:=Ag (show Cr P l 0=px by rw[hra];simp)
    clear hsu hno hra hcell hkl
    cases px
    ·go_wp2_with fail
     refine HC.out.mono ?_
     rintro e w' ⟨rfl,rfl⟩
     go_wp2_with fail
     go_ret
     exact⟨by rw[HN.out HA.out];rfl,rfl⟩
    ·go_wp2_with fail
     refine HC.out.mono ?_
     rintro e w' ⟨rfl,rfl⟩
     go_wp2_with fail
     go_round
     case rel=> exact⟨1,by omega,by go_num,Ag (HS.out.trans HA.out)⟩
     case measure=> simp[intOf];omega
   ·have c0:=hcell (k - 1) (by omega)
    rw[Cs (show k - 1<l.length by omega)] at hra
    have hk1:(0:Int)<(k:Int):=by omega
    have hkk:((k - 1:Nat):Int)=(k:Int) - 1:=by omega
    have hw1:IntKind.i64.wrap ((k:Int) - 1)=((k - 1:Nat):Int):=by rw[IntKind.wrap_i64];omega
    have hj0:(0:Int)≤((k - 1:Nat):Int):=by omega
    have hj1:((k - 1:Nat):Int)<(L:Int):=by omega
    generalize l[k - 1]=y at c0 hra
    have hkz:(k==0)=false:=by simpa using hz
    rw[hkz,Bool.false_or] at hra
    have HS:=Ag hsu
    have HN:=Ag hno
    clear hsu hno hcell hkl hkz hz
    cases px
    ·have HA:=Ag (show Cr P l k=false by rw[hra];simp)
     clear hra
     go_wp2_with fail
     refine HC.out.mono ?_
     rintro e w' ⟨rfl,rfl⟩
     go_wp2_with fail
     go_ret
     exact⟨by rw[HN.out HA.out];rfl,rfl⟩
    ·by_cases hyx:y<x
     ·have HA:=Ag (show Cr P l k=true by rw[hra];simp[hyx])
      have hyx2:¬ x≤y:=by omega
      clear hra
      go_wp2_with fail
      refine HC.out.mono ?_
      rintro e w' ⟨rfl,rfl⟩
      go_wp2_with fail
      go_round
      case rel=> exact⟨k+1,by omega,by go_num,Ag (HS.out.trans HA.out)⟩
      case measure=> simp[intOf];omega
     ·have HA:=Ag (show Cr P l k=false by rw[hra];simp[hyx])
      have hyx2:x≤y:=by omega
      clear hra
      go_wp2_with fail
      refine HC.out.mono ?_
      rintro e w' ⟨rfl,rfl⟩
      go_wp2_with fail
      go_ret
      exact⟨by rw[HN.out HA.out];rfl,rfl⟩
  ·have hge:¬ (k:Int)<(L:Int):=by omega
   have hR:R=true:=by rw[←HL.out.2];unfold BG;rw[HL.out.1,←show k=L by omega];exact HT.out
   have HRR:=Ag hR
   clear hR
   go_wp2_with fail
   go_ret
   exact⟨by rw[HRR.out];rfl,rfl⟩
def Ds (P:Int→Bool):List Int→Nat→Int
 | [],_=> -1
 | x::t,i=> if P x=true then (i:Int) else Ds P t (i+1)
theorem F6 (P:Int→Bool):∀ (l:List Int) (i:Nat),decide (0≤Ds P l i)=l.any P
 | [],i=> rfl
 | x::t,i=> by
  unfold Ds
  rw[List.any_cons]
  by_cases h:P x=true
  ·rw[if_pos h,h,decide_eq_true (by omega)];rfl
  ·rw[if_neg h,F6 P t,Bool.eq_false_iff.2 h];rfl
theorem GV (P:Int→Bool) (l:List Int) (k:Nat) (h:k<l.length):Ds P (l.drop k) k=if P l[k]=true then (k:Int) else Ds P (l.drop (k+1)) (k+1):=by
 rw[List.drop_eq_getElem_cons h];rfl
theorem JR (x:Int) (v:Value) (l:List Int) (w:World) (hv:Sl w v (ofK .i64 l)):
  Calls Tryz.prog 27 #[v,.int .i64 x] w (fun e w'=> e=.returned (.int .i64 (Ds (x==·) l 0))∧w=w'):=by
 obtain⟨ao,c,rfl,a2,a3,a4⟩:=hv.nums
 have H:=Ag a4
 have HD:=Ag (GV (x==·) l)
 obtain⟨L,hL⟩:∃ L,l.length=L:=⟨_,rfl⟩
 obtain⟨R,hR⟩:∃ R,Ds (x==·) l 0=R:=⟨_,rfl⟩
 have HL:=Ag (Ai hL hR)
 rw[hL] at a2 ⊢
 rw[hR]
 clear hv a4 hL hR
 go_enter Tryz.func27,Tryz.ntmps27
 go_wp2_with fail
 go_loop [5,8] (fun u5 i=> ∃ k:Nat,k≤L∧i=.int .i64 k∧Hid (Ds (x==·) (l.drop k) k=R)) (fun _ i=> L - (intOf i).toNat)
 case atStart=> exact⟨0,Nat.zero_le _,rfl,Ag HL.out.2⟩
 case round=>
  obtain⟨k,hk,rfl,HT⟩:=hrel
  by_cases hlt:k<L
  ·have hkl:k<l.length:=by rw[HL.out.1];exact hlt
   have hklz:(k:Int)<(L:Int):=by omega
   have hk0:(0:Int)≤(k:Int):=by omega
   obtain⟨b,o,rfl,-,hcell⟩:=H.out (by omega)
   have c1:=hcell k hkl
   have hd:=HD.out k hkl
   rw[HT.out] at hd
   generalize l[k]=y at c1 hd
   by_cases hxy:x=y
   ·have hb:(x==y)=true:=by simpa using hxy
    have HA:=Ag (show R=(k:Int) by rw[hd,if_pos hb])
    clear hd hcell hkl hxy
    go_wp2_with fail
    go_ret
    exact⟨by rw[HA.out];rfl,rfl⟩
   ·have hb:(x==y)=false:=by simpa using hxy
    have HA:=Ag (show Ds (x==·) (l.drop (k+1)) (k+1)=R by rw[hd,if_neg (by rw[hb];simp)])
    clear hd hcell hkl hxy
    go_wp2_with fail
    go_round
    case rel=> exact⟨k+1,by omega,by go_num,HA⟩
    case measure=> simp[intOf];omega
  ·have hge:¬ (k:Int)<(L:Int):=by omega
   have hR:R= -1:=by rw[←HT.out,List.drop_of_length_le (by rw[HL.out.1];omega)];rfl
   have HRR:=Ag hR
   clear hR
   go_wp2_with fail
   go_ret
   exact⟨by rw[HRR.out];rfl,rfl⟩
theorem AV (x:Int) (v:Value) (l:List Int) (w:World) (hv:Sl w v (ofK .i64 l)):
  Calls Tryz.prog 12 #[v,.int .i64 x] w (fun e w'=> e=.returned (.bool (l.any (x==·)))∧w=w'):=by
 have H:=Ag (JR x v l w hv)
 have hA:=F6 (x==·) l 0
 generalize l.any (x==·)=b at hA ⊢
 generalize Ds (x==·) l 0=r at hA H
 clear hv
 cases b
 ·have hr:decide (0≤r)=false:=hA
  have hr2:¬ 0≤r:=by simpa using hr
  clear hA
  go_enter Tryz.func12,Tryz.ntmps12
  go_wp2_with fail
  refine H.out.mono ?_
  rintro e w' ⟨rfl,rfl⟩
  go_wp2_with fail
  go_ret
  exact⟨rfl,rfl⟩
 ·have hr:decide (0≤r)=true:=hA
  have hr2:0≤r:=by simpa using hr
  clear hA
  go_enter Tryz.func12,Tryz.ntmps12
  go_wp2_with fail
  refine H.out.mono ?_
  rintro e w' ⟨rfl,rfl⟩
  go_wp2_with fail
  go_ret
  exact⟨rfl,rfl⟩
theorem F7 (P:Int→Bool) (gf:Nat) (lb:List Value) (v:Value) (l:List Int) (w:World) (hv:Sl w v (ofK .i64 l))
  (hcf:∀ args w1,Sem.run Tryz.prog (callFunc gf args) w1=.ok (.enter gf args) w1) (hst:∀ (n:Int),Calls Tryz.prog gf (.int .i64 n::lb).toArray w (fun e w'=> e=.returned (.bool (P n))∧w=w')):
  Calls Tryz.prog 82 #[v,.func (.func gf) #[] lb.toArray] w (fun e w'=> e=.returned (.int .i64 (Ds P l 0))∧w=w'):=by
 obtain⟨ao,c,rfl,a2,a3,a4⟩:=hv.nums
 have H:=Ag (Ai a4 hst)
 have HD:=Ag (GV P l)
 obtain⟨L,hL⟩:∃ L,l.length=L:=⟨_,rfl⟩
 obtain⟨R,hR⟩:∃ R,Ds P l 0=R:=⟨_,rfl⟩
 have HL:=Ag (Ai hL hR)
 rw[hL] at a2 ⊢
 rw[hR]
 have hcf':=hcf
 clear hv a4 hL hR hst
 go_enter Tryz.func82,Tryz.ntmps82
 go_wp2_with fail
 go_loop [5,8] (fun u5 i=> ∃ k:Nat,k≤L∧i=.int .i64 k∧Hid (Ds P (l.drop k) k=R)) (fun _ i=> L - (intOf i).toNat)
 case atStart=> exact⟨0,Nat.zero_le _,rfl,Ag HL.out.2⟩
 case round=>
  obtain⟨k,hk,rfl,HT⟩:=hrel
  by_cases hlt:k<L
  ·have hkl:k<l.length:=by rw[HL.out.1];exact hlt
   have hklz:(k:Int)<(L:Int):=by omega
   have hk0:(0:Int)≤(k:Int):=by omega
   obtain⟨b,o,rfl,-,hcell⟩:=H.out.1 (by omega)
   have c1:=hcell k hkl
   have hd:=HD.out k hkl
   rw[HT.out] at hd
   generalize l[k]=y at c1 hd
   obtain⟨py,hpy⟩:∃ b,P y=b:=⟨_,rfl⟩
   rw[hpy] at hd
   have HC:=Ag (H.out.2 y)
   rw[hpy] at HC
   clear hpy
   cases py
   ·have HA:=Ag (show Ds P (l.drop (k+1)) (k+1)=R by rw[hd,if_neg (by simp)])
    clear hd hcell hkl
    go_wp2_with fail
    refine HC.out.mono ?_
    rintro e w' ⟨rfl,rfl⟩
    go_wp2_with fail
    go_round
    case rel=> exact⟨k+1,by omega,by go_num,HA⟩
    case measure=> simp[intOf];omega
   ·have HA:=Ag (show R=(k:Int) by rw[hd,if_pos rfl])
    clear hd hcell hkl
    go_wp2_with fail
    refine HC.out.mono ?_
    rintro e w' ⟨rfl,rfl⟩
    go_wp2_with fail
    go_ret
    exact⟨by rw[HA.out];rfl,rfl⟩
  ·have hge:¬ (k:Int)<(L:Int):=by omega
   have hR:R= -1:=by rw[←HT.out,List.drop_of_length_le (by rw[HL.out.1];omega)];rfl
   have HRR:=Ag hR
   clear hR
   go_wp2_with fail
   go_ret
   exact⟨by rw[HRR.out];rfl,rfl⟩
theorem Em (P:Int→Bool) (gf:Nat) (lb:List Value) (v:Value) (l:List Int) (w:World) (hv:Sl w v (ofK .i64 l))
  (hcf:∀ args w1,Sem.run Tryz.prog (callFunc gf args) w1=.ok (.enter gf args) w1) (hst:∀ (n:Int),Calls Tryz.prog gf (.int .i64 n::lb).toArray w (fun e w'=> e=.returned (.bool (P n))∧w=w')):
  Calls Tryz.prog 60 #[v,.func (.func gf) #[] lb.toArray] w (fun e w'=> e=.returned (.bool (l.any P))∧w=w'):=by
 have H:=Ag (F7 P gf lb v l w hv hcf hst)
 have hA:=F6 P l 0
 generalize l.any P=b at hA ⊢
 generalize Ds P l 0=r at hA H
 clear hv hst hcf
 cases b
 ·have hr:decide (0≤r)=false:=hA
  have hr2:¬ 0≤r:=by simpa using hr
  clear hA
  go_enter Tryz.func60,Tryz.ntmps60
  go_wp2_with fail
  refine H.out.mono ?_
  rintro e w' ⟨rfl,rfl⟩
  go_wp2_with fail
  go_ret
  exact⟨rfl,rfl⟩
 ·have hr:decide (0≤r)=true:=hA
  have hr2:0≤r:=by simpa using hr
  clear hA
  go_enter Tryz.func60,Tryz.ntmps60
  go_wp2_with fail
  refine H.out.mono ?_
  rintro e w' ⟨rfl,rfl⟩
  go_wp2_with fail
  go_ret
  exact⟨rfl,rfl⟩
theorem nil_or {w:World} {v:Value} {xs:List Value} (h:Sl w v xs):(v=.slice none 0 0∧xs=[])∨∃ ad n c,v=.slice (some ad) n c:=by
 rcases h with h|⟨ad,c,h,_⟩
 ·exact .inl h
 ·exact .inr ⟨ad,_,c,h⟩
theorem Tryz.infoI:(Tryz.prog.info? 3).map (fun i=> (i.zero,i.size,i.bytes))=some (some (.int .i64 0),1,8):=by kernel_rfl
theorem Cx {w:World} {ops:Array Oper} {rest:List Oper} {o:Oper} {a:Act} {Q:Exit→Act→World→Prop} (base:Nat) (s x':Operand) (hgd:o.guard=none)
  (ho:o.op=.call {callee:=.builtin .append,args:=#[s,x'],argTypes:=#[40,40]}) {v:Value} {n:Nat} {xs:List Int} (hr:w.ownsRow base 3 1 v n (ofK .i64 xs)) (hs:a.eval s=v)
  {vx:Value} {ys:List Int} (hx:a.eval x'=vx) (hsl:Sl w vx (ofK .i64 ys)) (N:Nat) (hN:n+ys.length=N) (hn:N≤1000000000) (hb:base≤w.heap.size)
  (h:∀ ao c w',w'.ownsRow base 3 1 (.slice ao N c) N (ofK .i64 (xs ++ ys))→w.grownBy w' v.ownBlock→((Value.slice ao N c).ownBlock=v.ownBlock∨(Value.slice ao N c).ownBlock=some w.heap.size)→wpList Tryz.prog ops Q rest (a.put o.dst (.slice ao N c)) w'):
  wpList Tryz.prog ops Q (o::rest) a w:=by
 obtain⟨i0,hi,hz0,hz1,hz2⟩:=info_parts Tryz.infoI
 refine Cw w hgd s x' _ ho base 3 i0 (.int .i64 0) 8 Tryz.underlying40 hi hz0 hz1 hz2 rfl v n (ofK .i64 xs) hs hr vx (ofK .i64 ys) hx hsl (Cp _ _) N (by rw[AJ];exact hN) (by unfold maxLen;omega) (by omega) hb ?_
 intro ao c w' hown hgr hbl
 refine h ao c w' ?_ hgr hbl
 have e:ofK .i64 (xs ++ ys)=ofK .i64 xs ++ ofK .i64 ys:=by simp[ofK]
 rw[e];exact hown
theorem E8 (w:World) {ops:Array Oper} {rest:List Oper} {o:Oper} {a:Act} {Q:Exit→Act→World→Prop} (hgd:o.guard=none) (ho:o.op=.buildSlice 40 0 #[])
  (h:∀ w',w'.ownsRow w.heap.size 3 1 (.slice (some ⟨w.heap.size,0,none⟩) 0 0) 0 (ofK .i64 ([]:List Int))→Below w.heap.size w w'→w'.heap.size=w.heap.size+1→wpList Tryz.prog ops Q rest (a.put o.dst (.slice (some ⟨w.heap.size,0,none⟩) 0 0)) w'):
  wpList Tryz.prog ops Q (o::rest) a w:=by
 refine wpList_plain hgd fun K hK=> ?_
 have hrun:(execOp a.eval o).run Tryz.prog w=.ok (.value (.slice (some ⟨w.heap.size,0,none⟩) 0 0)) (w.alloc (.cells #[] 3)):=by
  have hb:(Instr.buildSlice 40 0 #[]).run Tryz.prog w=.ok (.slice (some ⟨w.heap.size,0,none⟩) 0 0) (w.alloc (.cells #[] 3)):=by
   have sz:∀ w,(sizeOf 3).run Tryz.prog w=.ok 1 w:=fun w=> by kernel_rfl
   have zv:∀ w,(zeroValue 3).run Tryz.prog w=.ok (.int .i64 0) w:=fun w=> by kernel_rfl
   have nr:∀ cs,(newRow 3 cs).run Tryz.prog w=.ok ⟨w.heap.size,0,none⟩ (w.alloc (.cells cs 3)):=fun cs=> by simp[newRow,Result.andThen]
   simp[Instr.buildSlice,run_underlying Tryz.underlying40,sz,zv,Result.andThen,Instr.fill,nr]
   have e:∀ f:Nat→Value,Array.map f (Array.range 0)=#[]:=fun f=> Array.eq_empty_of_size_eq_zero (by simp)
   rw[e]
  unfold execOp
  simp[ho,hb,Result.andThen]
 unfold Oper.wp
 rw[hrun]
 refine hK _ _ (h _ ⟨rfl,.inr ⟨w.heap.size,0,#[],rfl,Ah _,?_,Ah _,Nat.zero_le _,rfl,rfl⟩⟩ ((Below.refl _ _).alloc (Ah _) _) (World.size_alloc _ _))
 have:=Blk.new w [] 3
 unfold Blk at this
 exact this
theorem Bq (v:Value) (l:List Int) (w:World) (hv:Sl w v (ofK .i64 l)) (hl:l.length≤1000000000):
  Calls Tryz.prog 56 #[v] w (fun e w'=> ∃ v',e=.returned v'∧w'.ownsRow w.heap.size 3 1 v' l.length (ofK .i64 l)∧Below w.heap.size w w'):=by
 have q22:∀ (w:World) (a:Option Addr) (n c n' c':Nat),(binOp .eql 40 (.slice a n c) (.slice none n' c')).run Tryz.prog w=.ok (.bool a.isNone) w:=fun w a n c n' c'=> Lib.run_eql_slice_nil w _ _ a n c n' c' Tryz.underlying40
 rcases nil_or hv with⟨rfl,h0⟩|⟨ad,n,c,rfl⟩
 ·have:l=[]:=by cases l with
   | nil=> rfl
   | cons x t=> cases h0
  subst this
  clear hv h0 hl
  go_enter Tryz.func56,Tryz.ntmps56
  go_wp2_with fail
  go_ret
  exact⟨_,rfl,World.ownsRow_nil _ _ _ _,Below.refl _ _⟩
 ·have HV:=Ag hv
  have HL:=Ag hl
  clear hv hl
  go_enter Tryz.func56,Tryz.ntmps56
  go_wp2_with (first
   | ((with_reducible refine E8 w rfl rfl ?_);intro w1 hown hbel hsz;have H1:=Ag (Ai hown hbel);clear hown hbel hsz)
   | (at_builtin;refine Cx w.heap.size (.tmp 5) (.tmp 6) rfl rfl H1.out.1 rfl rfl (HV.out.below H1.out.2 (Ah _)) l.length (by omega) HL.out H1.out.2.size ?_))
  intro ao c2 w2 hown hgr _
  have hb2:Below w.heap.size w w2:=H1.out.2.grown hgr H1.out.2.size (fun j e=> by cases e;exact Ah _)
  have H2:=Ag (Ai hown hb2)
  clear hown hgr hb2
  go_wp2_with fail
  go_ret
  exact⟨_,rfl,by simpa using H2.out.1,H2.out.2⟩
structure PmD where
 o:Int
 e:Int
 r:List Int
 q:List Int
 g:List Int
def pmC (o e:Int) (vr vq vg:Value):List Value:=[.int .i64 o,.int .i64 e,vr,vq,vg]
theorem Tryz.infoPm:(Tryz.prog.info? 43).map (·.size)=some 5:=by kernel_rfl
theorem Tryz.zeroPm:∀ w,(zeroValue 43).run Tryz.prog w=.ok (.agg (pmC 0 0 (.slice none 0 0) (.slice none 0 0) (.slice none 0 0)).toArray) w:=fun w=> by kernel_rfl
theorem Ay (o e:Int) (vr vq vg:Value):(Tryz.prog.info? 43).map (·.size)=some (pmC o e vr vq vg).length:=Tryz.infoPm
theorem Bn (o e:Int) (ra qa ga:Option Addr) (rn rc qn qc gn gc:Nat):∀ v∈pmC o e (.slice ra rn rc) (.slice qa qn qc) (.slice ga gn gc),v.oneCell'=true:=fun v hv=> by
 simp only[pmC,List.mem_cons,List.not_mem_nil,or_false] at hv
 rcases hv with rfl|rfl|rfl|rfl|rfl <;> rfl
def PmS (w:World) (p:PmD) (vr vq vg:Value):Prop:=Sl w vr (ofK .i64 p.r)∧Sl w vq (ofK .i64 p.q)∧Sl w vg (ofK .i64 p.g)
theorem PmS.below {w w':World} {p:PmD} {vr vq vg:Value} (h:PmS w p vr vq vg) (hb:Below w.heap.size w w'):PmS w' p vr vq vg:=
 ⟨h.1.below hb (Ah _),h.2.1.below hb (Ah _),h.2.2.below hb (Ah _)⟩
def BK (o n:Int):Bool:=AX n && (n !=o)
def okB (p:PmD):Bool:=AX p.o && (decide (1≤p.e) && (decide (p.e≤8) && (BG (BK p.o) p.r && (BG (BK p.o) p.q && (BG BB p.g && !(p.q.any (fun n=> !(p.r.any (n==·)))))))))
theorem GW (n o:Int) (b:Nat) (w:World) (hc:w.cell? ⟨b,0,none⟩=some (.int .i64 o)):
  Calls Tryz.prog 57 #[.int .i64 n,.pointer (some ⟨b,0,none⟩)] w (fun e w'=> e=.returned (.bool (BK o n))∧w=w'):=by
 have HU:=Ag (Dr n w)
 obtain⟨u,hu⟩:∃ u,AX n=u:=⟨_,rfl⟩
 have HO:=Ag (show BK o n=(u && (n !=o)) by rw[←hu];rfl)
 rw[hu] at HU
 rw[HO.out]
 clear hu
 cases u
 ·go_enter Tryz.func57,Tryz.ntmps57
  go_wp2_with fail
  refine HU.out.mono ?_
  rintro e w' ⟨rfl,rfl⟩
  go_wp2_with fail
  go_ret
  exact⟨rfl,rfl⟩
 ·obtain⟨z,hz⟩:∃ z,(n !=o)=z:=⟨_,rfl⟩
  rw[hz]
  cases z
  ·go_enter Tryz.func57,Tryz.ntmps57
   go_wp2_with fail
   refine HU.out.mono ?_
   rintro e w' ⟨rfl,rfl⟩
   go_wp2_with fail
   go_ret
   exact⟨rfl,rfl⟩
  ·go_enter Tryz.func57,Tryz.ntmps57
   go_wp2_with fail
   refine HU.out.mono ?_
   rintro e w' ⟨rfl,rfl⟩
   go_wp2_with fail
   go_ret
   exact⟨rfl,rfl⟩
theorem IT (n:Int) (b:Nat) (vr:Value) (r:List Int) (w:World) (hc:w.cell? ⟨b,2,none⟩=some vr) (hr:Sl w vr (ofK .i64 r)):
  Calls Tryz.prog 61 #[.int .i64 n,.pointer (some ⟨b,0,none⟩)] w (fun e w'=> e=.returned (.bool (!(r.any (n==·))))∧w=w'):=by
 have HU:=Ag (AV n vr r w hr)
 obtain⟨ao,c,rfl,-⟩:=hr.shape
 generalize r.any (n==·)=u at HU ⊢
 generalize (ofK .i64 r).length=rl at hc HU
 clear hr
 go_enter Tryz.func61,Tryz.ntmps61
 go_wp2_with fail
 refine HU.out.mono ?_
 rintro e w' ⟨rfl,rfl⟩
 go_wp2_with fail
 go_ret
 exact⟨rfl,rfl⟩
theorem DW (args:Array Value) (w:World):Sem.run Tryz.prog (callFunc 57 args) w=.ok (.enter 57 args) w:=
 AP Tryz.func57 (by kernel_rfl) (by kernel_rfl) args w
theorem F8 (args:Array Value) (w:World):Sem.run Tryz.prog (callFunc 61 args) w=.ok (.enter 61 args) w:=
 AP Tryz.func61 (by kernel_rfl) (by kernel_rfl) args w
theorem F9 (args:Array Value) (w:World):Sem.run Tryz.prog (callFunc 59 args) w=.ok (.enter 59 args) w:=
 AP Tryz.func59 (by kernel_rfl) (by kernel_rfl) args w
theorem JS (p:PmD) (vr vq vg:Value) (w:World) (hp:PmS w p vr vq vg):
  Calls Tryz.prog 28 #[.agg (pmC p.o p.e vr vq vg).toArray] w (fun e w'=> e=.returned (.int .i64 (if okB p=true then 0 else 210))∧Below w.heap.size w w'):=by
 obtain⟨o,pe,r,q,g⟩:=p
 have HP:=Ag hp
 obtain⟨ra,rc,rfl,-⟩:=hp.1.shape
 obtain⟨qa,qc,rfl,-⟩:=hp.2.1.shape
 obtain⟨ga,gc,rfl,-⟩:=hp.2.2.shape
 simp only at hp HP ⊢
 rw[AJ] at HP ⊢
 rw[AJ] at HP ⊢
 rw[AJ] at HP ⊢
 have HC:=Ag (fun (w1:World) (hb:Blk w1 w.heap.size 43 (pmC o pe (.slice ra r.length rc) (.slice qa q.length qc) (.slice ga g.length gc))) (hbel:Below w.heap.size w w1)=>
  show Calls Tryz.prog 52 #[.int .i64 o] w1 (fun e w'=> e=.returned (.bool (AX o))∧w1=w')∧
   Calls Tryz.prog 58 #[.slice ra r.length rc,.func (.func 57) #[] #[.pointer (some ⟨w.heap.size,0,none⟩)]] w1 (fun e w'=> e=.returned (.bool (BG (BK o) r))∧w1=w')∧
   Calls Tryz.prog 58 #[.slice qa q.length qc,.func (.func 57) #[] #[.pointer (some ⟨w.heap.size,0,none⟩)]] w1 (fun e w'=> e=.returned (.bool (BG (BK o) q))∧w1=w')∧
   Calls Tryz.prog 58 #[.slice ga g.length gc,.func (.func 59) #[] #[]] w1 (fun e w'=> e=.returned (.bool (BG BB g))∧w1=w')∧
   Calls Tryz.prog 60 #[.slice qa q.length qc,.func (.func 61) #[] #[.pointer (some ⟨w.heap.size,0,none⟩)]] w1 (fun e w'=> e=.returned (.bool (q.any (fun n=> !(r.any (n==·)))))∧w1=w')
  from⟨Dr o w1,
   Es (BK o) 57 [.pointer (some ⟨w.heap.size,0,none⟩)] _ r w1 (HP.out.below hbel).1 DW (fun n=> GW n o _ w1 (hb.cell 0)),
   Es (BK o) 57 [.pointer (some ⟨w.heap.size,0,none⟩)] _ q w1 (HP.out.below hbel).2.1 DW (fun n=> GW n o _ w1 (hb.cell 0)),
   Es BB 59 [] _ g w1 (HP.out.below hbel).2.2 F9 (fun n=> E7 n w1),
   Em (fun n=> !(r.any (n==·))) 61 [.pointer (some ⟨w.heap.size,0,none⟩)] _ q w1 (HP.out.below hbel).2.1 F8 (fun n=> IT n _ _ r w1 (hb.cell 2) (HP.out.below hbel).1)⟩)
 have hok:okB ⟨o,pe,r,q,g⟩=(AX o && (decide (1≤pe) && (decide (pe≤8) && (BG (BK o) r && (BG (BK o) q && (BG BB g && !(q.any (fun n=> !(r.any (n==·)))))))))):=rfl
 obtain⟨b1,hb1⟩:∃ b,AX o=b:=⟨_,rfl⟩
 obtain⟨b2,hb2⟩:∃ b,BG (BK o) r=b:=⟨_,rfl⟩
 obtain⟨b3,hb3⟩:∃ b,BG (BK o) q=b:=⟨_,rfl⟩
 obtain⟨b4,hb4⟩:∃ b,BG BB g=b:=⟨_,rfl⟩
 obtain⟨b5,hb5⟩:∃ b,q.any (fun n=> !(r.any (n==·)))=b:=⟨_,rfl⟩
 rw[hb1,hb2,hb3,hb4,hb5] at HC hok
 rw[hok]
 generalize r.length=rl at HC ⊢
 generalize q.length=ql at HC ⊢
 generalize g.length=gl at HC ⊢
 clear hok hb1 hb2 hb3 hb4 hb5 HP hp
 by_cases h1:1≤pe
 ·by_cases h8:pe≤8
  ·simp only[h1,h8,decide_true,Bool.true_and]
   go_enter Tryz.func28,Tryz.ntmps28
   go_wp2_with ((with_reducible refine Au w rfl 43 (.tmp 0) rfl (pmC o pe (.slice ra rl rc) (.slice qa ql qc) (.slice ga gl gc)) rfl ?_);intro w1 hb hbel hsz;have c0:=hb.cell 0;have c1:=hb.cell 1;have c2:=hb.cell 2;have c3:=hb.cell 3;have c4:=hb.cell 4;simp only[pmC,Ab,Ac] at c0 c1 c2 c3 c4;have H1:=Ag hbel;have HD:=Ag (HC.out w1 hb hbel);clear hb hbel hsz)
   go_wp2_with fail
   refine HD.out.1.mono ?_
   rintro e w' ⟨rfl,rfl⟩
   cases b1
   ·skip
    go_wp2_with fail
    go_ret
    exact⟨rfl,H1.out⟩
   ·skip
    go_wp2_with fail
    refine HD.out.2.1.mono ?_
    rintro e w' ⟨rfl,rfl⟩
    cases b2
    ·skip
     go_wp2_with fail
     go_ret
     exact⟨rfl,H1.out⟩
    ·skip
     go_wp2_with fail
     refine HD.out.2.2.1.mono ?_
     rintro e w' ⟨rfl,rfl⟩
     cases b3
     ·skip
      go_wp2_with fail
      go_ret
      exact⟨rfl,H1.out⟩
     ·skip
      go_wp2_with fail
      refine HD.out.2.2.2.1.mono ?_
      rintro e w' ⟨rfl,rfl⟩
      cases b4
      ·skip
       go_wp2_with fail
       go_ret
       exact⟨rfl,H1.out⟩
      ·skip
       go_wp2_with fail
       refine HD.out.2.2.2.2.mono ?_
       rintro e w' ⟨rfl,rfl⟩
       cases b5
       ·skip
        go_wp2_with fail
        go_ret
        exact⟨rfl,H1.out⟩
       ·skip
        go_wp2_with fail
        go_ret
        exact⟨rfl,H1.out⟩
  ·simp only[h1,h8,decide_true,decide_false,Bool.true_and,Bool.false_and,Bool.and_false]
   go_enter Tryz.func28,Tryz.ntmps28
   go_wp2_with ((with_reducible refine Au w rfl 43 (.tmp 0) rfl (pmC o pe (.slice ra rl rc) (.slice qa ql qc) (.slice ga gl gc)) rfl ?_);intro w1 hb hbel hsz;have c0:=hb.cell 0;have c1:=hb.cell 1;have c2:=hb.cell 2;have c3:=hb.cell 3;have c4:=hb.cell 4;simp only[pmC,Ab,Ac] at c0 c1 c2 c3 c4;have H1:=Ag hbel;have HD:=Ag (HC.out w1 hb hbel);clear hb hbel hsz)
   go_wp2_with fail
   refine HD.out.1.mono ?_
   rintro e w' ⟨rfl,rfl⟩
   cases b1
   ·skip
    go_wp2_with fail
    go_ret
    exact⟨rfl,H1.out⟩
   ·skip
    go_wp2_with fail
    go_ret
    exact⟨rfl,H1.out⟩
 ·simp only[h1,decide_false,Bool.false_and,Bool.and_false]
  go_enter Tryz.func28,Tryz.ntmps28
  go_wp2_with ((with_reducible refine Au w rfl 43 (.tmp 0) rfl (pmC o pe (.slice ra rl rc) (.slice qa ql qc) (.slice ga gl gc)) rfl ?_);intro w1 hb hbel hsz;have c0:=hb.cell 0;have c1:=hb.cell 1;have c2:=hb.cell 2;have c3:=hb.cell 3;have c4:=hb.cell 4;simp only[pmC,Ab,Ac] at c0 c1 c2 c3 c4;have H1:=Ag hbel;have HD:=Ag (HC.out w1 hb hbel);clear hb hbel hsz)
  go_wp2_with fail
  refine HD.out.1.mono ?_
  rintro e w' ⟨rfl,rfl⟩
  cases b1
  ·skip
   go_wp2_with fail
   go_ret
   exact⟨rfl,H1.out⟩
  ·skip
   go_wp2_with fail
   go_ret
   exact⟨rfl,H1.out⟩
theorem EC (p:PmD) (b:Bool) (hb:okB p=b) (vr vq vg:Value) (w:World) (hp:PmS w p vr vq vg):
  Calls Tryz.prog 28 #[.agg (pmC p.o p.e vr vq vg).toArray] w (fun e w'=> e=.returned (.int .i64 (if b=true then 0 else 210))∧Below w.heap.size w w'):=by
 rw[←hb];exact JS p vr vq vg w hp
theorem ED (x:Int) (w:World):Calls Tryz.prog 86 #[.int .i64 x] w (fun e w'=> e=.returned (.bool false)∧w=w'):=by
 go_enter Tryz.func86,Tryz.ntmps86
 go_wp2
 go_ret
 exact⟨by simp,rfl⟩
theorem Gc (x:Int) (w:World):Calls Tryz.prog 118 #[.int .i64 x] w (fun e w'=> e=.returned (.bool false)∧w=w'):=by
 go_enter Tryz.func118,Tryz.ntmps118
 go_wp2
 go_ret
 exact⟨by simp,rfl⟩
theorem Dt (x y:Int) (w:World):Calls Tryz.prog 117 #[.int .i64 x,.int .i64 y] w (fun e w'=> e=.returned (.bool (decide (x<y)))∧w=w'):=by
 go_enter Tryz.func117,Tryz.ntmps117
 go_wp2_with (go_at_call 86;refine(ED _ _).mono ?_;rintro e w' ⟨rfl,rfl⟩)
 go_ret
 exact⟨rfl,rfl⟩
def BT (l:List Int) (x:Int):Nat:=l.countP (·<x)
theorem GX {l:List Int} (hs:l.Pairwise (·<·)):∀ a b,a≤b→b<l.length→l.getD a 0≤l.getD b 0:=fun a b hab hb=> by
 rcases Nat.lt_or_ge a b with h|h
 ·have:=List.pairwise_iff_getElem.1 hs a b (by omega) hb h
  rw[Cs hb,Cs (by omega)];omega
 ·obtain rfl:a=b:=by omega
  exact Int.le_refl _
theorem IU {l:List Int} {x:Int} (hs:l.Pairwise (·<·)) (i:Nat) (hi:i≤l.length) (h1:∀ j,j<i→l.getD j 0<x) (h2:∀ j,i≤j→j<l.length→x≤l.getD j 0):
  BT l x=i∧l.any (x==·)=decide (i<l.length∧l.getD i 0=x):=by
 have h:=Lib.search_end l l.length i x (Ah _) hi h1 h2 (GX hs)
 rw[List.take_of_length_le (Ah _)] at h
 refine⟨h.1,?_⟩
 rw[←h.2,List.contains_eq_any_beq]
theorem Gd (x:Int) (v:Value) (l:List Int) (w:World) (hv:Sl w v (ofK .i64 l)) (hs:l.Pairwise (·<·)) (hl:l.length≤1000000000):
  Calls Tryz.prog 96 #[v,.int .i64 x] w (fun e w'=> e=.returned (.tuple #[.int .i64 (BT l x:Nat),.bool (l.any (x==·))])∧w=w'):=by
 obtain⟨ao,c,rfl,a2,a3,a4⟩:=hv.nums
 have H:=Ag (Ai a4 (Ai (GX hs) (fun i=> IU (x:=x) hs i)))
 obtain⟨n,hL⟩:∃ n,l.length=n:=⟨_,rfl⟩
 have HL:=Ag hL
 rw[hL] at a2 hl ⊢
 clear hv a4 hs hL
 go_enter Tryz.func96,Tryz.ntmps96
 go_wp2_with fail
 go_loop [7,8,9] (fun s7 s8 s9=> ∃ lo hi:Nat,s7=.int .i64 lo∧s8=.int .i64 hi∧lo≤hi∧hi≤n∧Hid ((∀ t,t<lo→l.getD t 0<x)∧(∀ t,hi≤t→t<n→x≤l.getD t 0))) (fun s7 s8 _=> ((intOf s8) - (intOf s7)).toNat)
 case atStart=> exact⟨0,n,rfl,rfl,Nat.zero_le _,Ah _,Ag ⟨fun t ht=> absurd ht (Nat.not_lt_zero _),fun t h1 h2=> by omega⟩⟩
 case round=>
  obtain⟨lo,hi,rfl,rfl,hlh,hin,I⟩:=hrel
  by_cases hlt:lo<hi
  ·obtain⟨b,o,rfl,-,hcell⟩:=H.out.1 (by rw[HL.out];omega)
   have hm:(lo+hi) / 2<l.length:=by rw[HL.out];omega
   have cm:=hcell ((lo+hi) / 2) hm
   have hy:=Cs hm
   generalize l[(lo+hi) / 2]=y at cm hy
   have Y:=Ag hy
   clear hcell hm hy
   by_cases hyx:y<x
   ·go_wp2_with (go_at_call 117;refine(Dt _ _ _).mono ?_;rintro e w' ⟨rfl,rfl⟩)
    go_round
    case measure=> simp[intOf];omega
    case rel=>
     refine⟨(lo+hi) / 2+1,hi,by rw[show((lo:Int)+(hi:Int)) / 2+1=(((lo+hi) / 2+1:Nat):Int) by omega],rfl,by omega,hin,Ag ⟨fun t ht=> ?_,I.out.2⟩⟩
     have:=H.out.2.1 t ((lo+hi) / 2) (by omega) (by rw[HL.out];omega)
     rw[Y.out] at this
     omega
   ·go_wp2_with (go_at_call 117;refine(Dt _ _ _).mono ?_;rintro e w' ⟨rfl,rfl⟩)
    go_round
    case measure=> simp[intOf];omega
    case rel=>
     refine⟨lo,(lo+hi) / 2,rfl,by rw[show((lo:Int)+(hi:Int)) / 2=(((lo+hi) / 2:Nat):Int) by omega],by omega,by omega,Ag ⟨I.out.1,fun t ht htn=> ?_⟩⟩
     have:=H.out.2.1 ((lo+hi) / 2) t ht (by rw[HL.out];exact htn)
     rw[Y.out] at this
     omega
  ·obtain rfl:hi=lo:=by omega
   have E:=Ag (H.out.2.2 hi (by rw[HL.out];exact hin) I.out.1 (fun j h1 h2=> I.out.2 j h1 (by rw[←HL.out];exact h2)))
   rw[HL.out] at E
   by_cases hn:hi<n
   ·obtain⟨b,o,rfl,-,hcell⟩:=H.out.1 (by rw[HL.out];omega)
    have hm:hi<l.length:=by rw[HL.out];omega
    have cm:=hcell hi hm
    have hy:=Cs hm
    generalize l[hi]=y at cm hy
    have Y:=Ag hy
    clear hcell hm hy
    by_cases hyx:y=x
    ·go_wp2_with (first|(go_at_call 117;refine(Dt _ _ _).mono ?_;rintro e w' ⟨rfl,rfl⟩)|(go_at_call 118;refine(Gc _ _).mono ?_;rintro e w' ⟨rfl,rfl⟩))
     go_ret2
     refine⟨?_,rfl⟩
     rw[E.out.1,E.out.2,Y.out,decide_eq_true (show hi<n∧y=x from⟨hn,hyx⟩)]
     first|rfl|simp[*]
    ·go_wp2_with (first|(go_at_call 117;refine(Dt _ _ _).mono ?_;rintro e w' ⟨rfl,rfl⟩)|(go_at_call 118;refine(Gc _ _).mono ?_;rintro e w' ⟨rfl,rfl⟩))
     go_ret2
     refine⟨?_,rfl⟩
     rw[E.out.1,E.out.2,Y.out,decide_eq_false (show ¬ (hi<n∧y=x) from fun h=> hyx h.2)]
     first|rfl|simp[*]
   ·go_wp2_with (first|(go_at_call 117;refine(Dt _ _ _).mono ?_;rintro e w' ⟨rfl,rfl⟩)|(go_at_call 118;refine(Gc _ _).mono ?_;rintro e w' ⟨rfl,rfl⟩))
    go_ret2
    refine⟨?_,rfl⟩
    rw[E.out.1,E.out.2,decide_eq_false (show ¬ (hi<n∧l.getD hi 0=x) from fun h=> hn h.1)]
    first|rfl|simp[*]
end Go.Proofs.YtgdlfiphihaooaaGreat
namespace Go.Proofs.YtgdlfiphihaooaaGreat
open Go Go.RowKit Go.Sort
theorem Cf {P:Program} (w:World) {ops:Array Oper} {rest:List Oper} {o:Oper} {a:Act} {Q:Exit→Act→World→Prop} (hgd:o.guard=none) (d s:Operand) (dT sT:TypeId)
  (ho:o.op=.call {callee:=.builtin .copy,args:=#[d,s],argTypes:=#[dT,sT]}) (elem:TypeId) (hu:P.underlying dT=some (.slice elem)) (hsz:(P.info? elem).map (·.size)=some 1)
  (g off dLen dCap:Nat) (hd:a.eval d=.slice (some ⟨g,off,none⟩) dLen dCap) (ad:Addr) (sLen sCap:Nat) (hs:a.eval s=.slice (some ad) sLen sCap)
  (cur:List Value) (t:TypeId) (hg:Blk w g t cur) (cs:List Value) (hn:cs.length=min sLen dLen) (hsrc:∀ j v,cs[j]?=some v→w.cell? (ad.add j)=some v) (hfit:off+cs.length≤cur.length) (h1:∀ v∈cs,v.oneCell'=true)
  (h:∀ w',Blk w' g t (splice cur off cs)→Ch (·=g) w w'→w'.heap.size=w.heap.size→wpList P ops Q rest (a.put o.dst (goInt cs.length)) w'):wpList P ops Q (o::rest) a w:=by
 refine wpList_copy_own hgd d s dT sT ho elem hu hsz g off dLen dCap ad sLen sCap hd hs cur.toArray t hg cs hn hsrc (by simpa using hfit) h1 ?_
 refine h _ ?_ ⟨rfl,rfl,rfl,by simp[World.setRow],fun k hk hne=> setRow_other w g k _ hne⟩ (by simp[World.setRow])
 unfold Blk
 simpa [splice] using setRow_heap w g _ _ t _ hg
theorem Blk.shape {w:World} {g:Nat} {t:TypeId} {cs:List Value} (h:Blk w g t cs):w.shape? g=some (t,cs.length):=by
 unfold Blk at h;simp[World.shape?,h]
def Cl (l:List Int) (i:Nat) (x:Int):List Int:=l.take i ++ x::l.drop i
theorem DX {l:List Int} {i:Nat} {x:Int} (h:i≤l.length):(Cl l i x).length=l.length+1:=by
 unfold Cl;rw[List.length_append,List.length_take,List.length_cons,List.length_drop];omega
theorem Cn (L:List Value) (off:Nat) (cs:List Value) (j:Nat) (h:off+cs.length≤L.length):(splice L off cs)[j]?=if j<off then L[j]? else if j<off+cs.length then cs[j - off]? else L[j]?:=by
 unfold splice
 have ho:(L.take off).length=off:=by rw[List.length_take];omega
 split
 ·rename_i hj
  rw[List.getElem?_append_left (by omega),List.getElem?_take,if_pos hj]
 ·rename_i hj
  rw[List.getElem?_append_right (by omega),ho]
  split
  ·rename_i hk
   rw[List.getElem?_append_left (by omega)]
  ·rename_i hk
   rw[List.getElem?_append_right (by omega),List.getElem?_drop]
   congr 1;omega
theorem Jy (l:List Int) (i:Nat) (x:Int) (h:i≤l.length) (j:Nat):(ofK .i64 (Cl l i x))[j]?=if j<i then (ofK .i64 l)[j]? else if j=i then some (.int .i64 x) else (ofK .i64 l)[j - 1]?:=by
 unfold Cl ofK
 have hl:(l.take i).length=i:=by rw[List.length_take];omega
 rw[List.getElem?_map,List.getElem?_map,List.getElem?_map]
 split
 ·rename_i hj
  rw[List.getElem?_append_left (by omega),List.getElem?_take,if_pos hj]
 ·rename_i hj
  rw[List.getElem?_append_right (by omega),hl]
  split
  ·rename_i hk
   subst hk
   rw[Nat.sub_self];rfl
  ·rename_i hk
   rw[show j - i=(j - 1 - i)+1 by omega,Ac,List.getElem?_drop,show i+(j - 1 - i)=j - 1 by omega]
theorem Dh (l:List Int) (i j:Nat):(ofK .i64 (l.drop i))[j]?=(ofK .i64 l)[i+j]?:=by
 unfold ofK
 rw[List.getElem?_map,List.getElem?_map,List.getElem?_drop]
theorem Ky (l:List Int) (sp:List Value) (i:Nat) (x:Int) (h:i<l.length) (hs:0<sp.length) (j:Nat) (hj:j<l.length+1):
  (splice (splice (ofK .i64 l ++ sp) (i+1) (ofK .i64 (l.drop i))) i [.int .i64 x])[j]?=(ofK .i64 (Cl l i x))[j]?:=by
 have hl:(ofK .i64 l).length=l.length:=AJ _ _
 have hd:(ofK .i64 (l.drop i)).length=l.length - i:=by rw[AJ,List.length_drop]
 have hsl:(splice (ofK .i64 l ++ sp) (i+1) (ofK .i64 (l.drop i))).length=l.length+sp.length:=by rw[length_splice _ _ _ (by rw[List.length_append];omega),List.length_append,hl]
 rw[Cn _ _ _ _ (by rw[hsl];simp;omega),Cn _ _ _ _ (by rw[List.length_append];omega),Jy _ _ _ (by omega),Dh,hd]
 by_cases h1:j<i
 ·rw[if_pos h1,if_pos h1,if_pos (by omega),List.getElem?_append_left (by omega)]
 ·rw[if_neg h1,if_neg h1]
  by_cases h2:j=i
  ·subst h2;simp
  ·rw[if_neg (by simp;omega),if_neg (by omega),if_pos (by omega),if_neg h2]
   congr 1;omega
theorem Lr (l:List Int) (Z:List Value) (i:Nat) (x:Int) (h:i<l.length) (hs:l.length+1 - i≤Z.length) (j:Nat) (hj:j<l.length+1):
  (splice (splice ((ofK .i64 l).take i ++ Z) i [.int .i64 x]) (i+1) (ofK .i64 (l.drop i)))[j]?=(ofK .i64 (Cl l i x))[j]?:=by
 have hl:(ofK .i64 l).length=l.length:=AJ _ _
 have hd:(ofK .i64 (l.drop i)).length=l.length - i:=by rw[AJ,List.length_drop]
 have ht:((ofK .i64 l).take i).length=i:=by rw[List.length_take];omega
 have hsl:(splice ((ofK .i64 l).take i ++ Z) i [.int .i64 x]).length=i+Z.length:=by rw[length_splice _ _ _ (by rw[List.length_append];simp;omega),List.length_append,ht]
 rw[Cn _ _ _ _ (by rw[hsl];omega),Cn _ _ _ _ (by rw[List.length_append];simp;omega),Jy _ _ _ (by omega),Dh,hd]
 by_cases h1:j<i
 ·rw[if_pos (by omega),if_pos h1,if_pos h1,List.getElem?_append_left (by omega),List.getElem?_take,if_pos h1]
 ·by_cases h2:j=i
  ·subst h2;simp
  ·rw[if_neg (by omega),if_pos (by omega),if_neg h1,if_neg h2]
   congr 1;omega
theorem Blk.sl_at {w:World} {g:Nat} {t:TypeId} {X:List Value} {xs:List Int} (h:Blk w g t X) (n c:Nat) (hn:xs.length=n) (hc:n≤c) (hm:c≤maxLen) (hx:∀ j,j<n→X[j]?=(ofK .i64 xs)[j]?):Sl w (.slice (some ⟨g,0,none⟩) n c) (ofK .i64 xs):=by
 refine .inr ⟨⟨g,0,none⟩,c,by rw[AJ,hn],by rw[AJ,hn];exact hc,hm,fun j u hu=> ?_⟩
 have hj:j<n:=by have:=(List.getElem?_eq_some_iff.1 hu).1;rwa [AJ,hn] at this
 have e:(Addr.add ⟨g,0,none⟩ j)=⟨g,j,none⟩:=by unfold Addr.add;split <;> simp_all
 rw[e,h.cell,hx j hj];exact hu
def Abv (B:Nat) (v:Value):Prop:=∀ k,v.ownBlock=some k→B≤k
def JT (base:Nat) (w:World) (xs:List Int) (e:Ending) (w':World):Prop:=∃ ao n c,e=.returned (.slice ao n c)∧Sl w' (.slice ao n c) (ofK .i64 xs)∧Below base w w'∧Abv base (.slice ao n c)
theorem IV (base vb:Nat) (x:Int) (v:Value) (l:List Int) (w:World) (hv:w.ownsRow base 3 1 v l.length (ofK .i64 l)) (hb:base≤w.heap.size) (hx:Blk w vb 3 [.int .i64 x]) (hl:l.length≤1000000):
  Calls Tryz.prog 97 #[v,.int .i64 l.length,.slice (some ⟨vb,0,none⟩) 1 1] w (JT base w (l ++ [x])):=by
 obtain⟨ao,c,rfl⟩:=AY hv
 have hc:l.length≤c:=by obtain⟨ao2,c2,e,h,_⟩:=(Sl.of_owns hv).nums;cases e;exact h
 have hc2:c≤9223372036854775807:=by obtain⟨ao2,c2,e,_,h,_⟩:=(Sl.of_owns hv).nums;cases e;exact h
 have HV:=Ag (Ai hv (Ai hb hx))
 obtain⟨n,hn⟩:∃ n,l.length=n:=⟨_,rfl⟩
 rw[hn] at hc hl HV ⊢
 have HN:=Ag hn
 have hsx:Sl w (.slice (some ⟨vb,0,none⟩) 1 1) (ofK .i64 [x]):=hx.sl_at 1 1 rfl (by omega) (by unfold maxLen;omega) (fun j hj=> match j,hj with|0,_=> rfl)
 have HX:=Ag hsx
 clear hv hb hx hsx hn
 by_cases hcn:c=n
 ·subst hcn
  go_enter Tryz.func97,Tryz.ntmps97
  go_wp2_with (at_builtin;refine Cx base (.tmp 23) (.tmp 24) rfl rfl HV.out.1 rfl rfl HX.out (c+1) rfl (by omega) HV.out.2.1 ?_)
  intro ao2 c2 w1 hown hgr _
  have H1:=Ag (show Sl w1 (.slice ao2 (c+1) c2) (ofK .i64 (l ++ [x]))∧Below base w w1∧Abv base (.slice ao2 (c+1) c2) from⟨Sl.of_owns hown,(Below.refl _ _).grown hgr HV.out.2.1 (fun k hk=> (HV.out.1.lt k hk).1),fun k hk=> (hown.lt k hk).1⟩)
  clear hown hgr
  go_wp2_with fail
  go_ret
  exact⟨_,_,_,rfl,H1.out.1,H1.out.2.1,H1.out.2.2⟩
 ·skip
  go_enter Tryz.func97,Tryz.ntmps97
  go_wp2_with (at_builtin;refine Cx base (.tmp 23) (.tmp 24) rfl rfl HV.out.1 rfl rfl HX.out (n+1) rfl (by omega) HV.out.2.1 ?_)
  intro ao2 c2 w1 hown hgr _
  have H1:=Ag (show Sl w1 (.slice ao2 (n+1) c2) (ofK .i64 (l ++ [x]))∧Below base w w1∧Abv base (.slice ao2 (n+1) c2) from⟨Sl.of_owns hown,(Below.refl _ _).grown hgr HV.out.2.1 (fun k hk=> (HV.out.1.lt k hk).1),fun k hk=> (hown.lt k hk).1⟩)
  clear hown hgr
  go_wp2_with fail
  go_ret
  exact⟨_,_,_,rfl,H1.out.1,H1.out.2.1,H1.out.2.2⟩
theorem Tryz.sizeInt1:(Tryz.prog.info? 3).map (·.size)=some 1:=by kernel_rfl
theorem IW (base vb i:Nat) (x:Int) (v:Value) (l:List Int) (w:World) (hv:w.ownsRow base 3 1 v l.length (ofK .i64 l)) (hb:base≤w.heap.size) (hx:Blk w vb 3 [.int .i64 x]) (hnv:∀ k,v.ownBlock=some k→k≠vb) (hl:l.length≤1000000) (hi:i<l.length):
  Calls Tryz.prog 97 #[v,.int .i64 i,.slice (some ⟨vb,0,none⟩) 1 1] w (JT base w (Cl l i x)):=by
 obtain⟨h1,⟨rfl,h2⟩|⟨g,c,C,rfl,hg,hh,hnc,hcm,hcs,htk⟩⟩:=hv
 ·omega
 have hblk:Blk w g 3 C.toList:=hh
 rw[Nat.mul_one] at hcs htk
 have hgv:=hnv g rfl
 have hmx:c≤9223372036854775807:=by unfold maxLen at hcm;omega
 obtain⟨sp,hsp⟩:∃ sp,C.toList=ofK .i64 l ++ sp:=⟨C.toList.drop l.length,by rw[←htk,List.take_append_drop]⟩
 have hspl:l.length+sp.length=c:=by have:=congrArg List.length hsp;rw[List.length_append,AJ] at this;simp at this;omega
 rw[hsp] at hblk
 have hov:∀ la ca,(callFunc 119 #[.slice (some ⟨vb,0,none⟩) 1 1,.slice (some ⟨g,i+1,none⟩) la ca]).run Tryz.prog w=.ok (.value (.bool false)) w:=fun la ca=> by
  rw[run_callFunc_extern Tryz.func119 (by kernel_rfl) (by kernel_rfl) (by kernel_rfl) (e:=Extern.SlicesOverlaps.overlaps #[40,40] #[4]) (by kernel_rfl),
   Lib.run_overlaps_apart w 40 4 3 Tryz.underlying40 1 (fun w=> by kernel_rfl) ⟨vb,0,none⟩ ⟨g,i+1,none⟩ 1 1 la ca (fun e=> hgv e.symm) _ _ _ _ hx.shape hblk.shape (by rw[List.length_append,AJ];omega) (hx.free 0) (hx.free 1)]
  rfl
 have HB:=Ag (Ai hblk (Ai hx (Ai hg (Ai hb (Ai hgv hov)))))
 have HSP:=Ag hspl
 have HI:=Ag hi
 obtain⟨n,hn⟩:∃ n,l.length=n:=⟨_,rfl⟩
 have HN:=Ag hn
 rw[hn] at hi hl hnc ⊢
 have hne:((i:Int)==(n:Int))=false:=by simp;omega
 have hin:(i:Int)≤(n:Int):=by omega
 have hic:(i:Int)≤(c:Int):=by omega
 have h0i:(0:Int)≤(i:Int):=by omega
 have hxs:∀ W:World,Blk W vb 3 [.int .i64 x]→∀ j u,[Value.int .i64 x][j]?=some u→W.cell? (Addr.add ⟨vb,0,none⟩ j)=some u:=fun W hW j u hu=> by
  have e:(Addr.add ⟨vb,0,none⟩ j)=⟨vb,j,none⟩:=by unfold Addr.add;split <;> simp_all
  rw[e,hW.cell];exact hu
 have HXS:=Ag hxs
 have hdr:∀ (W:World) (X:List Value),Blk W g 3 X→(∀ j,i≤j→j<n→X[j]?=(ofK .i64 l)[j]?)→∀ j u,(ofK .i64 (l.drop i))[j]?=some u→W.cell? (Addr.add ⟨g,i,none⟩ j)=some u:=fun W X hW hX j u hu=> by
  have hj:j<n - i:=by have:=(List.getElem?_eq_some_iff.1 hu).1;rwa [AJ,List.length_drop,HN.out] at this
  have e:(Addr.add ⟨g,i,none⟩ j)=⟨g,i+j,none⟩:=by unfold Addr.add;split <;> simp_all
  rw[e,hW.cell,hX _ (by omega) (by omega),←Dh];exact hu
 have HDR:=Ag hdr
 have HDL:=Ag (show(ofK .i64 (l.drop i)).length=n - i by rw[AJ,List.length_drop,HN.out])
 have hgk:n+1≤grownCap w (n+1) c 3:=grownCap_ge w _ _ _
 clear hblk hx hg hb hnv hcm hcs htk hh hsp hov hspl hn h1 hxs hdr
 have hw1:IntKind.i64.wrap ((n:Int)+1)=(n:Int)+1:=by rw[IntKind.wrap_i64];omega
 have hwi:IntKind.i64.wrap ((i:Int)+1)=(i:Int)+1:=by rw[IntKind.wrap_i64];omega
 have hi1:(0:Int)≤(i:Int)+1:=by omega
 have hti:((i:Int)+1).toNat=i+1:=by omega
 by_cases hroom:c<n+1
 ·
  have hrz:(c:Int)<(n:Int)+1:=by omega
  have hkk:(n:Int)+1 - (i:Int)=((n+1 - i:Nat):Int):=by omega
  have hwk:IntKind.i64.wrap ((n:Int)+1 - (i:Int))=((n+1 - i:Nat):Int):=by rw[IntKind.wrap_i64];omega
  obtain⟨i0,hi0,hz0,hzs,hzb⟩:=info_parts Tryz.infoI
  have hold:(Builtin.firstCells i0.size i (.slice (some ⟨g,0,none⟩) i c)).run Tryz.prog w.drew=.ok ((ofK .i64 l).take i).toArray w.drew:=by
   rw[hzs]
   exact run_firstCells_some w.drew 1 i ⟨g,0,none⟩ i c ((ofK .i64 l).take i) (by rw[List.length_take,AJ,HN.out];omega) (fun j u hj=> by
    have e:(Addr.add ⟨g,0,none⟩ j)=⟨g,j,none⟩:=by unfold Addr.add;split <;> simp_all
    rw[List.getElem?_take] at hj
    split at hj
    ·rw[e]
     show w.cell? _=_
     rw[HB.out.1.cell,List.getElem?_append_left (by rw[AJ,HN.out];omega)];exact hj
    ·cases hj)
  have hrun:∀ ty,(Builtin.append_ #[40,3] ty #[.slice (some ⟨g,0,none⟩) i c,.int .i64 ((n+1 - i:Nat):Int)]).run Tryz.prog w=
    .ok (.slice (some ⟨w.heap.size,0,none⟩) (n+1) (grownCap w (n+1) c 3)) (w.drew.alloc (.cells (((ofK .i64 l).take i).toArray ++ Builtin.zeroCells (Value.int .i64 0).cells (n+1 - i) ++ Builtin.zeroCells (Value.int .i64 0).cells (grownCap w (n+1) c 3 - (n+1))) 3)):=fun ty=> by
   have h:=Lib.run_append_grow_zeros w 40 3 ty 3 i0 _ .i64 .i64 Tryz.underlying40 Tryz.underlying3 hi0 hz0 (some ⟨g,0,none⟩) i c _ hold (n+1 - i) (by omega) (by omega) (by omega) (by omega) (by rw[hzb];omega) (by rw[hzb];exact growslice_fits (by omega) (by omega))
   rw[show i+(n+1 - i)=n+1 by omega] at h
   exact h
  obtain⟨G,hG⟩:∃ G,grownCap w (n+1) c 3=G:=⟨_,rfl⟩
  have hGm:G≤9223372036854775807:=by
   have:=grownCap_le_maxLen w (n+1) c 3 (by unfold maxLen;omega)
   rw[hG] at this
   unfold maxLen at this
   omega
  rw[hG] at hrun hgk
  obtain⟨Z,hZ⟩:∃ Z:List Value,(((ofK .i64 l).take i).toArray ++ Builtin.zeroCells (Value.int .i64 0).cells (n+1 - i) ++ Builtin.zeroCells (Value.int .i64 0).cells (G - (n+1)))=((ofK .i64 l).take i ++ Z).toArray∧Z.length=G - i:=by
   refine⟨(Builtin.zeroCells (Value.int .i64 0).cells (n+1 - i)).toList ++ (Builtin.zeroCells (Value.int .i64 0).cells (G - (n+1))).toList,?_,?_⟩
   ·rw[←Array.toList_inj];simp
   ·simp[Builtin.zeroCells,Value.cells];omega
  obtain⟨W1,hW1⟩:∃ W1,w.drew.alloc (.cells ((ofK .i64 l).take i ++ Z).toArray 3)=W1:=⟨_,rfl⟩
  have HZ:=Ag (show ∀ ty,(Builtin.append_ #[40,3] ty #[.slice (some ⟨g,0,none⟩) i c,.int .i64 ((n+1 - i:Nat):Int)]).run Tryz.prog w=.ok (.slice (some ⟨w.heap.size,0,none⟩) (n+1) G) W1 from fun ty=> by rw[hrun ty,hZ.1,hW1])
  have HZL:=Ag hZ.2
  have HA1:=Ag (show Blk W1 w.heap.size 3 ((ofK .i64 l).take i ++ Z)∧Below w.heap.size w W1 from by rw[←hW1];exact⟨Blk.new w.drew _ _,((Below.refl w.heap.size w).drew).alloc (Ah _) _⟩)
  have HT:=Ag (show((ofK .i64 l).take i).length=i by rw[List.length_take,AJ,HN.out];omega)
  have hGi:(i:Int)≤(G:Int):=by omega
  have hGi1:(i:Int)+1≤(G:Int):=by omega
  have hi1n:(i:Int)+1≤(n:Int)+1:=by omega
  have hci:¬ (c=i):=by omega
  have hGi2:¬ (G=i):=by omega
  have hGi3:¬ (G=i+1):=by omega
  clear hold hrun hG hZ hW1 hi0 hz0 hzs hzb
  go_enter Tryz.func97,Tryz.ntmps97
  go_wp2_with (first
   | (at_builtin;refine Lib.wpList_append_run _ rfl _ _ _ _ rfl _ _ rfl rfl _ _ (HZ.out _) ?_)
   | ((with_reducible refine Cf W1 rfl (.tmp 43) (.tmp 44) 40 40 rfl 3 Tryz.underlying40 Tryz.sizeInt1 w.heap.size i (n+1 - i) (G - i) rfl ⟨vb,0,none⟩ 1 1 rfl ((ofK .i64 l).take i ++ Z) 3 HA1.out.1 [.int .i64 x] ?_ ?_ ?_ ?_ ?_)))
  ·rw[Nat.min_eq_left (by omega)];rfl
  ·exact fun j u hu=> HXS.out _ (HB.out.2.1.below HA1.out.2 HB.out.2.1.lt) j u hu
  ·rw[List.length_append,HT.out,HZL.out];simp;omega
  ·exact Cp .i64 [x]
  intro w2 hb2 hc2 hs2
  have H2:=Ag (show Blk w2 w.heap.size 3 (splice ((ofK .i64 l).take i ++ Z) i [.int .i64 x])∧Blk w2 g 3 (ofK .i64 l ++ sp)∧Below w.heap.size w w2 from
   ⟨hb2,(HB.out.1.below HA1.out.2 HB.out.1.lt).keep hc2 (fun e=> by have:=HB.out.1.lt;have e:g=w.heap.size:=e;omega),Aw HA1.out.2 hc2 (Ah _) (fun k hk=> by have e:k=w.heap.size:=hk;omega)⟩)
  clear hb2 hc2 hs2
  go_wp2_with fail
  refine Az (fun _=> True) [0,1,2,3,4,5,6,7] 1 (by kernel_rfl) rfl (by kernel_rfl) (by kernel_rfl) trivial ?_
  iterate 8(refine' AK.run ?_ ?_ ?_ ?_;rotate_left 2;(simp only[Aa,Ab,Ac];rfl);rfl;(rintro w' -;go_simp;with_reducible rfl);simp only[Al,Ad,Ae,Af])
  refine' Ar 8 (by kernel_rfl) ?_ ?_;rotate_left;(simp only[Aa,Ab,Ac];rfl)
  refine Cf w2.drew rfl (.tmp 50) (.tmp 53) 40 40 rfl 3 Tryz.underlying40 Tryz.sizeInt1 w.heap.size (i+1) (n - i) (G - (i+1)) rfl ⟨g,i,none⟩ (n - i) (c - i) rfl _ 3 H2.out.1 (ofK .i64 (l.drop i)) ?_ ?_ ?_ (Cp _ _) ?_
  ·rw[HDL.out,Nat.min_self]
  ·exact fun j u hu=> HDR.out w2.drew _ H2.out.2.1 (fun k _ hk=> by rw[List.getElem?_append_left (by rw[AJ,HN.out];exact hk)]) j u hu
  ·rw[length_splice _ _ _ (by rw[List.length_append,HT.out,HZL.out];simp;omega),List.length_append,HT.out,HZL.out,HDL.out];omega
  intro w3 hb3 hc3 _
  have H3:=Ag (show Sl w3 (.slice (some ⟨w.heap.size,0,none⟩) (n+1) G) (ofK .i64 (Cl l i x))∧Below base w w3 from
   ⟨hb3.sl_at (n+1) G (by rw[DX (by rw[HN.out];omega),HN.out]) hgk (by unfold maxLen;omega) (fun j hj=> Lr l Z i x HI.out (by rw[HZL.out,HN.out];omega) j (by rw[HN.out];exact hj)),
    (Aw (H2.out.2.2.drew) hc3 (Ah _) (fun k hk=> by have e:k=w.heap.size:=hk;omega)).mono HB.out.2.2.2.1⟩)
  clear hb3 hc3
  refine QK.normal ⟨trivial,?_⟩
  refine wpAnyH_done (by kernel_rfl) ?_ _
  refine NoPanic.normal ?_
  go_wp2_with fail
  go_ret
  exact⟨_,_,_,rfl,H3.out.1,H3.out.2,fun k hk=> by have e:some w.heap.size=some k:=hk;cases e;exact HB.out.2.2.2.1⟩
 ·
  have hrn:n+1≤c:=by omega
  have hrz:¬ (c:Int)<(n:Int)+1:=by omega
  have hrz2:(n:Int)+1≤(c:Int):=by omega
  have hi1c:(i:Int)+1≤(c:Int):=by omega
  have hci:¬ (c=i):=by omega
  have hci1:¬ (c=i+1):=by omega
  have hi1n:(i:Int)+1≤(n:Int)+1:=by omega
  have htn:((n:Int)+1).toNat=n+1:=by omega
  have h0n:(0:Int)≤(n:Int)+1:=by omega
  have hin1:(i:Int)≤(n:Int)+1:=by omega
  have hov:=HB.out.2.2.2.2.2
  clear hroom hgk
  go_enter Tryz.func97,Tryz.ntmps97
  go_wp2_with (simp only[hov])
  refine Az (fun _=> True) [0,1,2,3,4,5,6,7] 1 (by kernel_rfl) rfl (by kernel_rfl) (by kernel_rfl) trivial ?_
  iterate 8(refine' AK.run ?_ ?_ ?_ ?_;rotate_left 2;(simp only[Aa,Ab,Ac];rfl);rfl;(rintro w' -;go_simp;with_reducible rfl);simp only[Al,Ad,Ae,Af])
  refine' Ar 8 (by kernel_rfl) ?_ ?_;rotate_left;(simp only[Aa,Ab,Ac];rfl)
  refine Cf w.drew rfl (.tmp 73) (.tmp 76) 40 40 rfl 3 Tryz.underlying40 Tryz.sizeInt1 g (i+1) (n - i) (c - (i+1)) rfl ⟨g,i,none⟩ (n+1 - i) (c - i) rfl _ 3 HB.out.1 (ofK .i64 (l.drop i)) ?_ ?_ ?_ (Cp _ _) ?_
  ·rw[HDL.out,Nat.min_eq_right (by omega)]
  ·exact fun j u hu=> HDR.out w.drew _ HB.out.1 (fun k _ hk=> by rw[List.getElem?_append_left (by rw[AJ,HN.out];exact hk)]) j u hu
  ·rw[List.length_append,HDL.out,AJ,HSP.out];omega
  intro w2 hb2 hc2 hs2
  have H2:=Ag (show Blk w2 g 3 (splice (ofK .i64 l ++ sp) (i+1) (ofK .i64 (l.drop i)))∧Blk w2 vb 3 [.int .i64 x]∧Below base w w2 from
   ⟨hb2,(show Blk w.drew vb 3 [.int .i64 x] from HB.out.2.1).keep hc2 (fun e=> HB.out.2.2.2.2.1 e.symm),Aw ((Below.refl base w).drew) hc2 HB.out.2.2.2.1 (fun k hk=> by have e:k=g:=hk;have:=HB.out.2.2.1;omega)⟩)
  clear hb2 hc2 hs2 hov
  refine QK.normal ⟨trivial,?_⟩
  refine wpAnyH_done (by kernel_rfl) ?_ _
  refine NoPanic.normal ?_
  go_wp2_with ((with_reducible refine Cf w2 rfl (.tmp 80) (.tmp 81) 40 40 rfl 3 Tryz.underlying40 Tryz.sizeInt1 g i (n+1 - i) (c - i) rfl ⟨vb,0,none⟩ 1 1 rfl _ 3 H2.out.1 [.int .i64 x] ?_ ?_ ?_ ?_ ?_))
  ·rw[Nat.min_eq_left (by omega)];rfl
  ·exact fun j u hu=> HXS.out _ H2.out.2.1 j u hu
  ·rw[length_splice _ _ _ (by rw[List.length_append,HDL.out,AJ,HSP.out];omega),List.length_append,AJ,HSP.out];simp;omega
  ·exact Cp .i64 [x]
  intro w3 hb3 hc3 _
  have H3:=Ag (show Sl w3 (.slice (some ⟨g,0,none⟩) (n+1) c) (ofK .i64 (Cl l i x))∧Below base w w3 from
   ⟨hb3.sl_at (n+1) c (by rw[DX (by rw[HN.out];omega),HN.out]) hrn (by unfold maxLen;omega) (fun j hj=> Ky l sp i x HI.out (by have:=HSP.out;rw[HN.out] at this;omega) j (by rw[HN.out];exact hj)),
    Aw H2.out.2.2 hc3 HB.out.2.2.2.1 (fun k hk=> by have e:k=g:=hk;have:=HB.out.2.2.1;omega)⟩)
  clear hb3 hc3
  go_wp2_with fail
  go_ret
  exact⟨_,_,_,rfl,H3.out.1,H3.out.2,fun k hk=> by have e:some g=some k:=hk;cases e;exact HB.out.2.2.1⟩
theorem A9 {w w':World} {S:Nat→Prop} {base e size n:Nat} {v:Value} {xs:List Value} (h:w.ownsRow base e size v n xs) (hc:Ch S w w') (hS:∀ k,v.ownBlock=some k→¬ S k):w'.ownsRow base e size v n xs:=by
 obtain⟨h1,h2|⟨g,cap,C,h3,h4,h5,h6⟩⟩:=h
 ·exact⟨h1,.inl h2⟩
 ·exact⟨h1,.inr ⟨g,cap,C,h3,h4,by rw[hc.block g (lt_of_block h5) (hS g (by rw[h3];rfl))];exact h5,h6⟩⟩
theorem IX (base vb i:Nat) (x:Int) (v:Value) (l:List Int) (w:World) (hv:w.ownsRow base 3 1 v l.length (ofK .i64 l)) (hb:base≤w.heap.size) (hx:Blk w vb 3 [.int .i64 x]) (hnv:∀ k,v.ownBlock=some k→k≠vb) (hl:l.length≤1000000) (hi:i≤l.length):
  Calls Tryz.prog 97 #[v,.int .i64 i,.slice (some ⟨vb,0,none⟩) 1 1] w (JT base w (Cl l i x)):=by
 rcases Nat.lt_or_ge i l.length with h|h
 ·exact IW base vb i x v l w hv hb hx hnv hl h
 ·obtain rfl:i=l.length:=by omega
  have e:Cl l l.length x=l ++ [x]:=by simp[Cl]
  rw[e]
  exact IV base vb x v l w hv hb hx hl
theorem Tryz.sizeI:∀ w,(sizeOf 3).run Tryz.prog w=.ok 1 w:=fun w=> by kernel_rfl
theorem Tryz.zeroI:∀ w,(zeroValue 3).run Tryz.prog w=.ok (.int .i64 0) w:=fun w=> by kernel_rfl
theorem Kz (w:World) (cs:Array Value):(newRow 3 cs).run Tryz.prog w=.ok ⟨w.heap.size,0,none⟩ (w.alloc (.cells cs 3)):=by simp[newRow,Result.andThen]
theorem CM (w:World) {ops:Array Oper} {rest:List Oper} {o:Oper} {a:Act} {Q:Exit→Act→World→Prop} (hgd:o.guard=none) (x:Operand) (ho:o.op=.buildSlice 40 1 #[(0,x)]) {c:Int} (hx:a.eval x=.int .i64 c)
  (h:∀ w',Blk w' w.heap.size 3 [.int .i64 c]→Below w.heap.size w w'→w'.heap.size=w.heap.size+1→wpList Tryz.prog ops Q rest (a.put o.dst (.slice (some ⟨w.heap.size,0,none⟩) 1 1)) w'):
  wpList Tryz.prog ops Q (o::rest) a w:=by
 refine wpList_plain hgd fun K hK=> ?_
 have hb:(Instr.buildSlice 40 1 #[(0,.int .i64 c)]).run Tryz.prog w=.ok (.slice (some ⟨w.heap.size,0,none⟩) 1 1) (w.alloc (.cells [Value.int .i64 c].toArray 3)):=by
  simp[Instr.buildSlice,run_underlying Tryz.underlying40,Tryz.sizeI,Tryz.zeroI,Value.cells,Result.andThen,Instr.fill,Kz,Array.range_succ]
  rw[Array.eq_empty_of_size_eq_zero (xs:=Array.map _ (Array.range 0)) (by simp)]
  rfl
 have hrun:(execOp a.eval o).run Tryz.prog w=.ok (.value (.slice (some ⟨w.heap.size,0,none⟩) 1 1)) (w.alloc (.cells [Value.int .i64 c].toArray 3)):=by
  unfold execOp
  simp only[ho]
  rw[show(#[((0:Nat),x)].map fun (i,x)=> (i,a.eval x))=#[(0,.int .i64 c)] by simp[hx]]
  simp[hb,Result.andThen]
 unfold Oper.wp
 rw[hrun]
 exact hK _ _ (h _ (Blk.new w _ _) ((Below.refl _ _).alloc (Ah _) _) (World.size_alloc _ _))
def Bs (l:List Int) (x:Int):List Int:=if l.any (x==·)=true then l else Cl l (BT l x) x
theorem Ge (l:List Int) (x:Int):BT l x≤l.length:=List.countP_le_length
theorem Du (x:Int) (v:Value) (l:List Int) (w:World) (hv:Sl w v (ofK .i64 l)) (hs:l.Pairwise (·<·)) (hl:l.length≤1000000):
  Calls Tryz.prog 107 #[v,.int .i64 x] w (JT w.heap.size w (Bs l x)):=by
 have hS:=Gd x v l w hv hs (by omega)
 obtain⟨b,hb⟩:∃ b,l.any (x==·)=b:=⟨_,rfl⟩
 obtain⟨i,hi⟩:∃ i,BT l x=i:=⟨_,rfl⟩
 have hil:=Ge l x
 rw[hb,hi] at hS
 rw[hi] at hil
 have hwl:Bs l x=if b=true then l else Cl l i x:=by unfold Bs;rw[hb,hi]
 rw[hwl]
 have HS:=Ag hS
 have HC:=Ag (Bq v l w hv (by omega))
 have HI:=Ag (Ai hil hl)
 obtain⟨ao,n,c,rfl⟩:∃ ao n c,v=.slice ao n c:=by obtain⟨ao,c,e,_⟩:=hv.nums;exact⟨_,_,_,e⟩
 clear hb hi hwl hS hil hl hv hs
 cases b
 ·go_enter Tryz.func107,Tryz.ntmps107
  go_wp2_with fail
  refine HS.out.mono ?_
  rintro e w' ⟨rfl,rfl⟩
  go_wp2_with fail
  refine HC.out.mono ?_
  rintro e w1 ⟨v1,rfl,hown,hb1⟩
  have H1:=Ag (Ai hown hb1)
  obtain⟨ao1,c1,rfl⟩:=AY hown
  clear hown hb1
  go_wp2_with ((with_reducible refine CM w1 rfl (.tmp 19) rfl rfl ?_);intro w2 hb hbel hsz;have H2:=Ag (Ai hb hbel);clear hb hbel hsz)
  refine(IX w.heap.size w1.heap.size i x _ l w2 (A9 H1.out.1 (Ch.of_below (S:=fun _=> False) H2.out.2 (Ah _)) (fun _ _ h=> h)) (Aj H1.out.2.size H2.out.2.size) H2.out.1 (fun k hk=> by have:=(H1.out.1.lt k hk).2;omega) HI.out.2 HI.out.1).mono ?_
  rintro e w3 ⟨ao3,n3,c3,rfl,h3,h4,h5⟩
  have H3:=Ag (Ai h3 (An H1.out.2 (H2.out.2) (Ah _)))
  have H4:=Ag (Ai h4 h5)
  clear h3 h4 h5
  go_wp2_with fail
  go_ret
  exact⟨_,_,_,rfl,H3.out.1,H3.out.2.trans H4.out.1,H4.out.2⟩
 ·go_enter Tryz.func107,Tryz.ntmps107
  go_wp2_with fail
  refine HS.out.mono ?_
  rintro e w' ⟨rfl,rfl⟩
  go_wp2_with fail
  refine HC.out.mono ?_
  rintro e w1 ⟨v1,rfl,hown,hb1⟩
  have H1:=Ag (Ai hown hb1)
  obtain⟨ao1,c1,rfl⟩:=AY hown
  clear hown hb1
  go_wp2_with fail
  go_ret
  exact⟨_,_,_,rfl,Sl.of_owns H1.out.1,H1.out.2,fun k hk=> (H1.out.1.lt k hk).1⟩
theorem Ch.setCells (b:Nat):∀ (vs:List Value) (o:Nat) (w:World),Ch (·=b) w (w.setCells b o vs)
 | [],_,w=> Ch.refl _ w
 | v::r,o,w=> (Ch.set w ⟨b,o,none⟩ v).trans (Ch.setCells b r (o+1) _)
theorem GY (P:Int→Bool):∀ (l:List Int) (i:Nat),(Ds P l i= -1∧∀ y∈l,P y=false)∨∃ k,∃ (h:k<l.length),Ds P l i=((i+k:Nat):Int)∧P l[k]=true∧∀ j (hj:j<k),P (l[j]'(by omega))=false
 | [],i=> .inl ⟨rfl,fun y h=> by cases h⟩
 | x::t,i=> by
  by_cases h:P x=true
  ·exact .inr ⟨0,by simp,by unfold Ds;rw[if_pos h];rfl,h,fun j hj=> by omega⟩
  ·have hx:=Bool.eq_false_iff.2 h
   rcases GY P t (i+1) with⟨e,ha⟩|⟨k,hk,e,ht,ha⟩
   ·refine .inl ⟨by unfold Ds;rw[if_neg h];exact e,fun y hy=> ?_⟩
    rcases List.mem_cons.1 hy with rfl|hy
    ·exact hx
    ·exact ha y hy
   ·refine .inr ⟨k+1,by simpa using hk,by unfold Ds;rw[if_neg h,e];congr 1;omega,by simpa using ht,fun j hj=> ?_⟩
    cases j with
    | zero=> simpa using hx
    | succ j=> simpa using ha j (by omega)
def Bb (P:Int→Bool) (l:List Int):List Int:=l.filter (fun y=> !P y)
theorem GZ {P:Int→Bool} {l:List Int} (h:∀ y∈l,P y=false):Bb P l=l:=List.filter_eq_self.2 (fun y hy=> by rw[h y hy];rfl)
theorem Gf (P:Int→Bool) (l:List Int) (j:Nat) (h:j<l.length):Bb P (l.take (j+1))=Bb P (l.take j) ++ if P l[j]=true then [] else [l[j]]:=by
 unfold Bb
 rw[List.take_succ_eq_append_getElem h,List.filter_append]
 by_cases hp:P l[j]=true <;> simp[hp]
theorem Ls (l k:List Int):ofK .i64 (l ++ k)=ofK .i64 l ++ ofK .i64 k:=by simp[ofK]
theorem KA (X:List Value) (i:Nat) (u:Value) (h:i<X.length):(X.set i u).take (i+1)=X.take i ++ [u]:=by
 rw[List.take_succ_eq_append_getElem (by rw[List.length_set];exact h),List.getElem_set_self,List.take_set_of_le (Ah _)]
theorem KB (X:List Value) (i t:Nat) (u:Value) (h:i+1≤t):(X.set i u)[t]?=X[t]?:=List.getElem?_set_ne (by omega)
theorem IY (base:Nat) (P:Int→Bool) (gf:Nat) (lb:List Value) (v:Value) (l:List Int) (w:World) (hv:w.ownsRow base 3 1 v l.length (ofK .i64 l)) (hb:base≤w.heap.size) (hl:l.length≤1000000)
  (hcf:∀ args w1,Sem.run Tryz.prog (callFunc gf args) w1=.ok (.enter gf args) w1) (hst:∀ (n:Int) (w1:World),Ch (fun k=> v.ownBlock=some k) w w1→Calls Tryz.prog gf (.int .i64 n::lb).toArray w1 (fun e w'=> e=.returned (.bool (P n))∧w1=w')):
  Calls Tryz.prog 124 #[v,.func (.func gf) #[] lb.toArray] w (JT base w (Bb P l)):=by
 have HI:=Ag (F7 P gf lb v l w (Sl.of_owns hv) hcf (fun n=> hst n w (Ch.refl _ _)))
 rcases GY P l 0 with⟨e,hall⟩|⟨k0,hk0,e,hp0,hall⟩
 ·rw[e] at HI
  have HK:=Ag (GZ hall)
  have HV:=Ag hv
  obtain⟨ao,c,rfl⟩:=AY hv
  have hcf':=hcf
  clear hall e hst hv
  go_enter Tryz.func124,Tryz.ntmps124
  go_wp2_with fail
  refine HI.out.mono ?_
  rintro e w' ⟨rfl,rfl⟩
  go_wp2_with fail
  go_ret
  exact⟨_,_,_,rfl,by rw[HK.out];exact Sl.of_owns HV.out,Below.refl _ _,fun k hk=> (HV.out.lt k hk).1⟩
 ·rw[e,Nat.zero_add] at HI
  obtain⟨h1,⟨rfl,h2⟩|⟨g,c,C,rfl,hg,hh,hnc,hcm,hcs,htk⟩⟩:=hv
  ·omega
  have hblk:Blk w g 3 C.toList:=hh
  rw[Nat.mul_one] at hcs htk
  obtain⟨sp,hsp⟩:∃ sp,C.toList=ofK .i64 l ++ sp:=⟨C.toList.drop l.length,by rw[←htk,List.take_append_drop]⟩
  have hXl:C.toList.length=c:=by simpa using hcs
  have hst0:Bb P (l.take (k0+1))=l.take k0:=by
   rw[Gf P l k0 hk0,if_pos hp0,List.append_nil]
   refine GZ (fun y hy=> ?_)
   obtain⟨j,hj,rfl⟩:=List.mem_iff_getElem.1 hy
   rw[List.getElem_take]
   exact hall j (by rw[List.length_take] at hj;omega)
  obtain⟨n,hn⟩:∃ n,l.length=n:=⟨_,rfl⟩
  have HN:=Ag hn
  rw[hn] at hk0 hl hnc HI ⊢
  have HB:=Ag (show Blk w g 3 C.toList∧C.toList.length=c∧C.toList=ofK .i64 l ++ sp∧base≤g∧base≤w.heap.size∧c≤9223372036854775807 from⟨hblk,hXl,hsp,hg,hb,by unfold maxLen at hcm;omega⟩)
  have HS:=Ag hst
  have H0:=Ag (show Bb P (l.take (k0+1))=l.take k0∧C.toList.take k0=ofK .i64 (l.take k0) from⟨hst0,by rw[hsp,List.take_append_of_le_length (by rw[AJ,HN.out];omega),Hv]⟩)
  have HKS:=Ag (Gf P l)
  have hne:((k0:Int)== -1)=false:=by simp
  have hcf':=hcf
  have hw0:IntKind.i64.wrap ((k0:Int)+1)=((k0+1:Nat):Int):=by rw[IntKind.wrap_i64];omega
  have hwj:∀ j:Nat,j<n→IntKind.i64.wrap ((j:Int)+1)=((j+1:Nat):Int):=fun j hj=> by rw[IntKind.wrap_i64];omega
  have HWJ:=Ag hwj
  have hcz:=HB.out.2.2.2.2.2
  clear hblk hcs htk hsp hXl hst0 hall hp0 e hh hcm hg hb h1 hst hn hwj
  go_enter Tryz.func124,Tryz.ntmps124
  go_wp2_with fail
  refine HI.out.mono ?_
  rintro e w' ⟨rfl,rfl⟩
  go_wp2_with fail
  go_loopw [5,6,7] (fun s5 s6 _ wr=> ∃ (i j:Nat) (X:List Value),s5=.int .i64 i∧s6=.int .i64 j∧i<j∧j≤n∧Hid (Blk wr g 3 X∧X.length=c∧X.take i=ofK .i64 (Bb P (l.take j))∧(Bb P (l.take j)).length=i∧(∀ t,i≤t→X[t]?=(ofK .i64 l ++ sp)[t]?)∧Ch (fun k=> (Value.slice (some ⟨g,0,none⟩) n c).ownBlock=some k) w wr)) (fun _ s6 _ _=> n - (intOf s6).toNat)
  case atStart=> exact⟨k0,k0+1,C.toList,rfl,by go_num,by omega,by omega,Ag ⟨HB.out.1,HB.out.2.1,by rw[H0.out.1];exact H0.out.2,by rw[H0.out.1,List.length_take,HN.out];omega,fun t _=> by rw[←HB.out.2.2.1],Ch.refl _ _⟩⟩
  case round=>
   obtain⟨i,j,X,rfl,rfl,hij,hjn,HX⟩:=hrel
   by_cases hlt:j<n
   ·have hltz:(j:Int)<(n:Int):=by omega
    have hjl:j<l.length:=by rw[HN.out];exact hlt
    have hj0:(0:Int)≤(j:Int):=by omega
    have hi0:(0:Int)≤(i:Int):=by omega
    have hin:(i:Int)<(n:Int):=by omega
    have hks:=HKS.out j hjl
    have hcj:wr.cell? ⟨g,j,none⟩=some (.int .i64 l[j]):=by
     rw[HX.out.1.cell,HX.out.2.2.2.2.1 j (by omega),List.getElem?_append_left (by rw[AJ];exact hjl),Hb _ _ _ hjl]
    have HC:=Ag (HS.out l[j] wr HX.out.2.2.2.2.2)
    generalize l[j]=y at hks hcj HC
    obtain⟨py,hpy⟩:∃ b,P y=b:=⟨_,rfl⟩
    rw[hpy] at hks HC
    have hwj:=HWJ.out j hlt
    have hwi:=HWJ.out i (by omega)
    have hii:i<X.length:=by rw[HX.out.2.1];omega
    have hci:(wr.cell? ⟨g,i,none⟩).isSome=true:=by rw[HX.out.1.cell,List.getElem?_eq_getElem hii];rfl
    obtain⟨old,hold⟩:∃ u,wr.cell? ⟨g,i,none⟩=some u:=Option.isSome_iff_exists.1 hci
    have hfi:=HX.out.1.free i
    clear hpy hjl hii hci
    cases py
    ·have HKE:=Ag (show Bb P (l.take (j+1))=Bb P (l.take j) ++ [y] by rw[hks,if_neg (by simp)])
     clear hks
     go_wp2_with fail
     refine HC.out.mono ?_
     rintro e w' ⟨rfl,rfl⟩
     go_wp2_with fail
     go_roundw
     case rel=>
      refine⟨i+1,j+1,X.set i (.int .i64 y),by go_num,by go_num,by omega,by omega,Ag ⟨HX.out.1.set i _,by rw[List.length_set];exact HX.out.2.1,?_,?_,fun t ht=> ?_,HX.out.2.2.2.2.2.setCell (p:=⟨g,i,none⟩) (.inl rfl) _⟩⟩
      ·rw[KA X i _ (by rw[HX.out.2.1];omega),HKE.out,Ls,HX.out.2.2.1];rfl
      ·rw[HKE.out,List.length_append,HX.out.2.2.2.1];rfl
      ·rw[KB X i t _ ht];exact HX.out.2.2.2.2.1 t (by omega)
     case measure=> simp[intOf];omega
    ·have HKE:=Ag (show Bb P (l.take (j+1))=Bb P (l.take j) by rw[hks,if_pos rfl,List.append_nil])
     clear hks
     go_wp2_with fail
     refine HC.out.mono ?_
     rintro e w' ⟨rfl,rfl⟩
     go_wp2_with fail
     go_roundw
     case rel=> exact⟨i,j+1,X,rfl,by go_num,by omega,by omega,Ag ⟨HX.out.1,HX.out.2.1,by rw[HKE.out];exact HX.out.2.2.1,by rw[HKE.out];exact HX.out.2.2.2.1,HX.out.2.2.2.2.1,HX.out.2.2.2.2.2⟩⟩
     case measure=> simp[intOf];omega
   ·obtain rfl:j=n:=by omega
    have hltz:¬ (j:Int)<(j:Int):=by omega
    have hi0:(0:Int)≤(i:Int):=by omega
    have hin:(i:Int)≤(j:Int):=by omega
    have hic:(i:Int)≤(c:Int):=by omega
    have hci:¬ (c=i):=by omega
    have hcl:∀ ty,(Builtin.clear_ #[40] ty #[.slice (some ⟨g,i,none⟩) (j - i) (c - i)]).run Tryz.prog wr=.ok (.tuple #[]) (wr.setCells g i (List.replicate (j - i) (.int .i64 0))):=
     fun ty=> Lib.run_clear_slice wr 40 3 ty (.int .i64 0) Tryz.underlying40 Tryz.zeroI rfl rfl g i _ _ (by omega) (fun t ht=> by rw[HX.out.1.cell,List.getElem?_eq_getElem (by rw[HX.out.2.1];omega)];rfl) (fun t ht=> HX.out.1.free _)
    have HE:=Ag (show Sl (wr.setCells g i (List.replicate (j - i) (.int .i64 0))) (.slice (some ⟨g,0,none⟩) i c) (ofK .i64 (Bb P l))∧Below base w (wr.setCells g i (List.replicate (j - i) (.int .i64 0))) from by
     have hkk:Bb P (l.take j)=Bb P l:=by rw[List.take_of_length_le (by rw[HN.out];exact Ah _)]
     have h3:=HX.out.2.2.1
     have h4:=HX.out.2.2.2.1
     rw[hkk] at h3 h4
     refine⟨.inr ⟨⟨g,0,none⟩,c,by rw[AJ,h4],by rw[AJ,h4];omega,by unfold maxLen;have:=HB.out.2.2.2.2.2;omega,fun t u hu=> ?_⟩,?_⟩
     ·have ht:t<i:=by have:=(List.getElem?_eq_some_iff.1 hu).1;rwa [AJ,h4] at this
      have e:(Addr.add ⟨g,0,none⟩ t)=⟨g,t,none⟩:=by unfold Addr.add;split <;> simp_all
      rw[e,World.cell?_setCells_out _ _ _ _ _ (fun _ _=> .inl ht),HX.out.1.cell,←hu,←h3,List.getElem?_take,if_pos ht]
     ·refine Aw (Below.refl base w) ((HX.out.2.2.2.2.2).trans' (T:=(·=g)) ?_ (fun k _ hk=> by rw[hk];rfl)) HB.out.2.2.2.2.1 (fun k hk=> by have e:some g=some k:=hk;cases e;exact HB.out.2.2.2.1)
      exact Ch.setCells g _ _ _)
    clear hlt
    go_wp2_with fail
    go_ret
    exact⟨_,_,_,rfl,HE.out.1,HE.out.2,fun k hk=> by have e:some g=some k:=hk;cases e;exact HB.out.2.2.2.1⟩
theorem A4 {P:Program} (w:World) {ops:Array Oper} {rest:List Oper} {o:Oper} {a:Act} {Q:Exit→Act→World→Prop} (hgd:o.guard=none) (t:TypeId) (x:Operand) (ho:o.op=.box t x) (v:Value) (hv:v.cells=#[v]) (hx:a.eval x=v)
  (h:∀ w',Blk w' w.heap.size t [v]→Below w.heap.size w w'→w'.heap.size=w.heap.size+1→wpList P ops Q rest (a.put o.dst (.pointer (some ⟨w.heap.size,0,none⟩))) w'):wpList P ops Q (o::rest) a w:=by
 refine wpList_plain hgd fun K' hK'=> ?_
 have hrun:(execOp a.eval o).run P w=.ok (.value (.pointer (some ⟨w.heap.size,0,none⟩))) (w.alloc (.cells [v].toArray t)):=by
  simp[execOp,ho,Instr.box,hx,Result.andThen,CF,hv]
 unfold Oper.wp
 rw[hrun]
 exact hK' _ _ (h _ (Blk.new w [v] t) ((Below.refl _ _).alloc (Ah _) _) (by simp))
theorem IZ (x n:Int) (b:Nat) (w:World) (hc:w.cell? ⟨b,0,none⟩=some (.int .i64 x)):
  Calls Tryz.prog 125 #[.int .i64 n,.pointer (some ⟨b,0,none⟩)] w (fun e w'=> e=.returned (.bool (x==n))∧w=w'):=by
 obtain⟨z,hz⟩:∃ z,(x==n)=z:=⟨_,rfl⟩
 rw[hz]
 cases z
 ·go_enter Tryz.func125,Tryz.ntmps125
  go_wp2_with fail
  go_ret
  exact⟨rfl,rfl⟩
 ·go_enter Tryz.func125,Tryz.ntmps125
  go_wp2_with fail
  go_ret
  exact⟨rfl,rfl⟩
theorem FE (args:Array Value) (w:World):Sem.run Tryz.prog (callFunc 125 args) w=.ok (.enter 125 args) w:=
 AP Tryz.func125 (by kernel_rfl) (by kernel_rfl) args w
theorem B3 (x:Int) (v:Value) (l:List Int) (w:World) (hv:Sl w v (ofK .i64 l)) (hl:l.length≤1000000):
  Calls Tryz.prog 109 #[v,.int .i64 x] w (JT w.heap.size w (Bb (x==·) l)):=by
 have HV:=Ag (Ai hv hl)
 obtain⟨ao,n,c,rfl⟩:∃ ao n c,v=.slice ao n c:=by obtain⟨ao,c,e,_⟩:=hv.nums;exact⟨_,_,_,e⟩
 clear hv hl
 go_enter Tryz.func109,Tryz.ntmps109
 go_wp2_with ((with_reducible refine A4 w rfl 3 (.tmp 1) rfl (.int .i64 x) rfl rfl ?_);intro w1 hb hbel hsz;have H1:=Ag (Ai hb (Ai hbel hsz));clear hb hbel hsz)
 refine(Bq _ l w1 (HV.out.1.below H1.out.2.1 (Ah _)) (by have:=HV.out.2;omega)).mono ?_
 rintro e w2 ⟨v2,rfl,hown,hb2⟩
 have H2:=Ag (Ai hown (Ai hb2 (H1.out.1.below hb2 H1.out.1.lt)))
 obtain⟨ao2,c2,rfl⟩:=AY hown
 clear hown hb2
 go_wp2_with fail
 refine(IY w1.heap.size (x==·) 125 [.pointer (some ⟨w.heap.size,0,none⟩)] _ l w2 H2.out.1 H2.out.2.1.size HV.out.2 FE (fun n w3 hc=> IZ x n _ w3 ((H2.out.2.2.keep hc (fun hk=> by have:=(H2.out.1.lt _ hk).1;have:=H1.out.2.2;omega)).cell 0))).mono ?_
 rintro e w3 ⟨ao3,n3,c3,rfl,h3,h4,h5⟩
 have H3:=Ag (show Sl w3 (.slice ao3 n3 c3) (ofK .i64 (Bb (x==·) l))∧Abv w.heap.size (.slice ao3 n3 c3)∧Below w.heap.size w w3 from⟨h3,fun k hk=> Aj H1.out.2.1.size (h5 k hk),(An H1.out.2.1 H2.out.2.1 (Ah _)).trans (h4.mono (by have:=H1.out.2.2;omega))⟩)
 clear h3 h4 h5
 go_wp2_with fail
 go_ret
 exact⟨_,_,_,rfl,H3.out.1,H3.out.2.2,H3.out.2.1⟩
def BD (B:Nat) (vr vq vg:Value):Prop:=Abv B vr∧Abv B vq∧Abv B vg
def En (w:World) (g B:Nat) (r:Int × PmD) (e:Ending) (w':World):Prop:=
 e=.returned (.int .i64 r.1)∧∃ vr vq vg,Blk w' g 43 (pmC r.2.o r.2.e vr vq vg)∧PmS w' r.2 vr vq vg∧Ch (·=g) w w'∧BD B vr vq vg
def BN (p:PmD):Int × PmD:=if p.e=8 then (212,p) else (0,{p with e:=p.e+1})
theorem PmS.ch {w w':World} {p:PmD} {g:Nat} {vr vq vg:Value} (h:PmS w p vr vq vg) (hc:Ch (·=g) w w') (hn:(∀ k,vr.ownBlock=some k→k≠g)∧(∀ k,vq.ownBlock=some k→k≠g)∧(∀ k,vg.ownBlock=some k→k≠g)):PmS w' p vr vq vg:=
 ⟨h.1.keep hc hn.1,h.2.1.keep hc hn.2.1,h.2.2.keep hc hn.2.2⟩
def Off (g:Nat) (vr vq vg:Value):Prop:=(∀ k,vr.ownBlock=some k→k≠g)∧(∀ k,vq.ownBlock=some k→k≠g)∧(∀ k,vg.ownBlock=some k→k≠g)
theorem DY (p:PmD) (g B:Nat) (vr vq vg:Value) (w:World) (hb:Blk w g 43 (pmC p.o p.e vr vq vg)) (hp:PmS w p vr vq vg) (hn:Off g vr vq vg) (hB:BD B vr vq vg) (h1:1≤p.e) (h8:p.e≤8):
  Calls Tryz.prog 110 #[.pointer (some ⟨g,0,none⟩)] w (fun e w'=> En w g B (BN p) e w'):=by
 have c1:w.cell? ⟨g,1,none⟩=some (.int .i64 p.e):=hb.cell 1
 have f1:=hb.free 1
 have HB:=Ag (Ai hb (Ai hp (Ai hn hB)))
 obtain⟨o,pe,r,q,gg⟩:=p
 simp only at c1 h1 h8 HB
 clear hb hp hn hB
 by_cases h:pe=8
 ·subst h
  have HR:=Ag (show BN ⟨o,8,r,q,gg⟩=(212,⟨o,8,r,q,gg⟩) from rfl)
  rw[HR.out]
  go_enter Tryz.func110,Tryz.ntmps110
  go_wp2_with fail
  go_ret
  exact⟨rfl,vr,vq,vg,HB.out.1,HB.out.2.1,Ch.refl _ _,HB.out.2.2.2⟩
 ·have HR:=Ag (show BN ⟨o,pe,r,q,gg⟩=(0,⟨o,pe+1,r,q,gg⟩) from if_neg h)
  have hw:IntKind.i64.wrap (pe+1)=pe+1:=by rw[IntKind.wrap_i64];omega
  have hbq:(pe==8)=false:=by simpa using h
  rw[HR.out]
  clear h
  go_enter Tryz.func110,Tryz.ntmps110
  go_wp2_with fail
  go_ret
  exact⟨rfl,vr,vq,vg,HB.out.1.set 1 _,HB.out.2.1.ch (Ch.set w ⟨g,1,none⟩ _) HB.out.2.2.1,Ch.set w ⟨g,1,none⟩ _,HB.out.2.2.2⟩
end Go.Proofs.YtgdlfiphihaooaaGreat

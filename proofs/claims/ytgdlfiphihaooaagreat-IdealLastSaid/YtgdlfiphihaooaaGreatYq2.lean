import Derived.Test.YtgdlfiphihaooaaGreatYq1
import Derived.Deep.QuietTactic
import Derived.Lib.SliceRun
set_option linter.unusedSimpArgs false
set_option linter.unusedVariables false
set_option maxRecDepth 100000
set_option maxHeartbeats 8000000
open _root_.List renaming getElem?_toArray→Aa,getElem?_cons_zero→Ab,getElem?_cons_succ→Ac,setIfInBounds_toArray→Ad,set_cons_zero→Ae,set_cons_succ→Af
open _root_.Go.Lib renaming hid→Ag
open _root_.Nat renaming le_refl→Ah,le_trans→Aj,lt_of_lt_of_le→Ak
open _root_.And renaming intro→Ai
open _root_.Go.Act renaming put→Al
namespace Go.Proofs.YtgdlfiphihaooaaGreat
open Go Go.RowKit
theorem AtC.old {F:Nat→Prop} {w:World} {b:Nat}:∀ {ts:List Tm} {o:Nat},(∀ t∈ts,∀ cs,TmC F w cs t→TmC (fun j=> F j∧j<w.heap.size) w cs t)→AtC F w b o ts→AtC (fun j=> F j∧j<w.heap.size) w b o ts
 | [],_,_,_=> by unfold AtC;trivial
 | t::ts,o,ih,h=> by
  unfold AtC at h ⊢
  obtain⟨⟨cs,h1,h2,h3⟩,h4⟩:=h
  exact⟨⟨cs,h1,h2,ih t List.mem_cons_self cs h3⟩,AtC.old (fun t ht=> ih t (List.mem_cons_of_mem _ ht)) h4⟩
theorem TmC.old' {F:Nat→Prop} {w:World}:∀ (t:Tm) (cs:List Value),TmC F w cs t→TmC (fun j=> F j∧j<w.heap.size) w cs t:=by
 refine Tm.ind fun k u n s ks ih cs h=> ?_
 unfold TmC at h ⊢
 obtain⟨ao,c,h1,h2,h3,h4⟩:=h
 refine⟨ao,c,h1,h2,h3,fun h0=> ?_⟩
 obtain⟨b,o,e,hF,hb,ha⟩:=h4 h0
 exact⟨b,o,e,⟨hF,hb⟩,hb,AtC.old ih ha⟩
theorem TmC.old {F:Nat→Prop} {w:World} {cs:List Value} {t:Tm} (h:TmC F w cs t):TmC (·<w.heap.size) w cs t:=(TmC.old' t cs h).mono fun _ h=> h.2
theorem SlT.old {F:Nat→Prop} {w:World} {v:Value} {ts:List Tm} (h:SlT F w v ts):SlT (·<w.heap.size) w v ts:=by
 have h1:TmC F w (tmC 0 0 0 ⟨#[]⟩ v) (.mk 0 0 0 ⟨#[]⟩ ts):=B6.2 ⟨v,rfl,h⟩
 obtain⟨v',e,h2⟩:=B6.1 h1.old
 simp only[tmC,List.cons.injEq,and_true,true_and] at e
 subst e;exact h2
def DX (t:Tm):Int:=if (BP t 1 1200).1=true then 1200 - (BP t 1 1200).2 else 0
theorem Tryz.zeroIT:∀ w,(zeroValue 3).run Tryz.prog w=.ok (.int .i64 0) w:=fun w=> by kernel_rfl
theorem E7 (w:World) {ops:Array Oper} {rest:List Oper} {o:Oper} {a:Act} {Q:Exit→Act→World→Prop} (hgd:o.guard=none) (ho:o.op=.alloc 3)
  (h:∀ w',Blk w' w.heap.size 3 [.int .i64 0]→Below w.heap.size w w'→w'.heap.size=w.heap.size+1→wpList Tryz.prog ops Q rest (a.put o.dst (.pointer (some ⟨w.heap.size,0,none⟩))) w'):wpList Tryz.prog ops Q (o::rest) a w:=by
 refine wpList_plain hgd fun K hK=> ?_
 have hrun:(execOp a.eval o).run Tryz.prog w=.ok (.value (.pointer (some ⟨w.heap.size,0,none⟩))) (w.alloc (.cells [Value.int .i64 0].toArray 3)):=by
  simp[execOp,ho,Instr.alloc,Tryz.zeroIT,Result.andThen,CQ,Value.cells]
 unfold Oper.wp
 rw[hrun]
 exact hK _ _ (h _ (Blk.new w _ _) ((Below.refl _ _).alloc (Ah _) _) (World.size_alloc _ _))
theorem Ia (t:Tm) (cs:List Value) (F:Nat→Prop) (w:World) (ht:TmC F w cs t):
  Calls Tryz.prog 102 #[.agg cs.toArray] w (fun e w'=> e=.returned (.int .i64 (DX t))∧Below w.heap.size w w'):=by
 have h1:=ht.old
 obtain⟨ao,c,rfl,-,-,-⟩:=ht.shape
 clear ht
 have HT:=Ag h1
 obtain⟨⟨rb,l2⟩,hr⟩:∃ r,BP t 1 1200=r:=⟨_,rfl⟩
 have HR:=Ag hr
 obtain⟨P,hP⟩:∃ P:Value,(.int .i64 (DX t))=P:=⟨_,rfl⟩
 have HP:=Ag hP
 rw[hP]
 clear h1 hr hP
 generalize t.ks.length=m at HT ⊢
 generalize t.k=k at HT ⊢
 generalize t.u=u at HT ⊢
 generalize t.n=n at HT ⊢
 generalize t.s=s at HT ⊢
 have H0:=Ag (Below.refl w.heap.size w)
 go_enter Tryz.func102,Tryz.ntmps102
 go_wp2_with (first
  | ((with_reducible refine Au w rfl 29 (.tmp 0) rfl (tmC k u n s (.slice ao m c)) rfl ?_);intro a1 hb hbel hsz;have HA1:=hJ2 (An H0.out hbel (Ah _)) hb;clear hb hbel hsz)
  | ((with_reducible refine E7 a1 rfl rfl ?_);intro b1 hb hbel hsz;have HB:=Ag (Ai hb hbel);clear hb hbel hsz)
  | ((with_reducible refine AK b1 rfl 3 (.tmp 3) (.const (.int .i64 1200)) rfl a1.heap.size 0 3 [.int .i64 0] HB.out.1 rfl (.int .i64 1200) rfl (by simp) Tryz.sizeInt1T rfl rfl ?_);intro a2 hb hc hs;have hbw:=Aw HB.out.2 hc (Ah _) (fun k hk=> by have e:k=a1.heap.size:=hk;omega);have HA2:=Ag (show Below w.heap.size w a2∧Blk a2 w.heap.size 29 (tmC k u n s (.slice ao m c))∧Blk a2 a1.heap.size 3 ([.int .i64 1200]) from⟨An HA1.out.1 hbw (Ah _),HA1.out.2.below hbw HA1.out.2.lt,hb⟩);clear hb hc hs hbw)
  | (with_reducible refine Ap rfl 29 (.tmp 1) rfl w.heap.size 0 rfl (tmC k u n s (.slice ao m c)) _ (As HA2.out.2.1) Tryz.underlying29 rfl (A9 _ _ _ _ _) ?_))
 have hx:=Kx t _ (·<w.heap.size) 1 1200 a1.heap.size a2 ((HT.out.below HA2.out.1)) (fun j hj e=> by have h1:=HA1.out.2.lt;have h2:j<w.heap.size:=hj;omega) HA2.out.2.2 (by omega) (by omega) (by omega) (by omega)
 rw[HR.out] at hx
 refine Calls.mono hx ?_
 clear hx
 rintro e' a3 ⟨rfl,hb,hc⟩
 have HA3:=hJ2 (Aw HA2.out.1 hc (Ah _) (fun k hk=> by have e:k=a1.heap.size:=hk;have:=HA1.out.2.lt;omega)) hb
 clear hb hc
 have cl:=HA3.out.2.cell 0
 simp only[Ab] at cl
 cases rb
 ·have HE:=Ag (show P=.int .i64 0 from by rw[←HP.out];unfold DX;rw[HR.out];rfl)
  go_wp2_with fail
  go_ret
  exact⟨by rw[HE.out];rfl,HA3.out.1⟩
 ·have HE:=Ag (show P=.int .i64 (1200 - l2) from by rw[←HP.out];unfold DX;rw[HR.out];rfl)
  have hbd:=Hz t 1 1200 (by rw[HR.out])
  rw[HR.out] at hbd
  have h1:0≤l2:=hbd.1
  have h2:l2<1200:=hbd.2
  have h3: -9223372036854775808≤1200 - l2:=by omega
  have h4:1200 - l2≤9223372036854775807:=by omega
  clear hbd
  go_wp2_with fail
  go_ret
  exact⟨by rw[HE.out];rfl,HA3.out.1⟩
def D5 (t:Tm):Int:=if DX t=0 then 150 else 0
theorem IT (t:Tm) (cs:List Value) (F:Nat→Prop) (w:World) (ht:TmC F w cs t):
  Calls Tryz.prog 83 #[.agg cs.toArray] w (fun e w'=> e=.returned (.int .i64 (D5 t))∧Below w.heap.size w w'):=by
 obtain⟨ao,c,rfl,-,-,-⟩:=ht.shape
 have HT:=Ag ht
 obtain⟨x,hx⟩:∃ x,DX t=x:=⟨_,rfl⟩
 have HX:=Ag hx
 have HC:=Ag (show D5 t=if x=0 then 150 else 0 from by unfold D5;rw[hx])
 clear ht hx
 generalize t.ks.length=m at HT ⊢
 generalize t.k=k at HT ⊢
 generalize t.u=u at HT ⊢
 generalize t.n=n at HT ⊢
 generalize t.s=s at HT ⊢
 have H0:=Ag (Below.refl w.heap.size w)
 go_enter Tryz.func83,Tryz.ntmps83
 go_wp2_with (first
  | ((with_reducible refine Au w rfl 29 (.tmp 0) rfl (tmC k u n s (.slice ao m c)) rfl ?_);intro a1 hb hbel hsz;have HA1:=hJ2 (An H0.out hbel (Ah _)) hb;clear hb hbel hsz)
  | (with_reducible refine Ap rfl 29 (.tmp 1) rfl w.heap.size 0 rfl (tmC k u n s (.slice ao m c)) _ (As HA1.out.2) Tryz.underlying29 rfl (A9 _ _ _ _ _) ?_))
 have hx:=Ia t _ F a1 (HT.out.below HA1.out.1)
 rw[HX.out] at hx
 refine Calls.mono hx ?_
 clear hx
 rintro e' a2 ⟨rfl,hb⟩
 have HB:=Ag (An HA1.out.1 hb (Ah _))
 clear hb
 by_cases h0:x=0
 ·have e1:(x==0)=true:=by simpa using h0
  have HE:=Ag (show D5 t=150 from by rw[HC.out];exact if_pos h0)
  clear h0
  go_wp2_with fail
  go_ret
  exact⟨by rw[HE.out];rfl,HB.out⟩
 ·have e1:(x==0)=false:=by simpa using h0
  have HE:=Ag (show D5 t=0 from by rw[HC.out];exact if_neg h0)
  clear h0
  go_wp2_with fail
  go_ret
  exact⟨by rw[HE.out];rfl,HB.out⟩
theorem Ky (t:Tm) (cs:List Value) (F:Nat→Prop) (w:World) (ht:TmC F w cs t):
  Calls Tryz.prog 84 #[.agg cs.toArray] w (fun e w'=> e=.returned (.int .i64 (DX t))∧Below w.heap.size w w'):=by
 obtain⟨ao,c,rfl,-,-,-⟩:=ht.shape
 have HT:=Ag ht
 obtain⟨x,hx⟩:∃ x,DX t=x:=⟨_,rfl⟩
 have HX:=Ag hx
 rw[hx]
 clear ht hx
 generalize t.ks.length=m at HT ⊢
 generalize t.k=k at HT ⊢
 generalize t.u=u at HT ⊢
 generalize t.n=n at HT ⊢
 generalize t.s=s at HT ⊢
 have H0:=Ag (Below.refl w.heap.size w)
 go_enter Tryz.func84,Tryz.ntmps84
 go_wp2_with (first
  | ((with_reducible refine Au w rfl 29 (.tmp 0) rfl (tmC k u n s (.slice ao m c)) rfl ?_);intro a1 hb hbel hsz;have HA1:=hJ2 (An H0.out hbel (Ah _)) hb;clear hb hbel hsz)
  | (with_reducible refine Ap rfl 29 (.tmp 1) rfl w.heap.size 0 rfl (tmC k u n s (.slice ao m c)) _ (As HA1.out.2) Tryz.underlying29 rfl (A9 _ _ _ _ _) ?_))
 have hx:=Ia t _ F a1 (HT.out.below HA1.out.1)
 rw[HX.out] at hx
 refine Calls.mono hx ?_
 clear hx
 rintro e' a2 ⟨rfl,hb⟩
 have HB:=Ag (An HA1.out.1 hb (Ah _))
 clear hb
 go_wp2_with fail
 go_ret
 exact⟨rfl,HB.out⟩
mutual
def Df:Tm→Tm→Bool
 | .mk k u n s ks,.mk k' u' n' s' ks'=> (k==k') && ((u==u') && ((n==n') && ((s.toList==s'.toList) && BO ks ks')))
def BO:List Tm→List Tm→Bool
 | [],[]=> true
 | a::xa,b::bs=> Df a b && BO xa bs
 | [],_::_=> false
 | _::_,[]=> false
end
theorem DT (a b:Tm) (xa bs:List Tm):BO (a::xa) (b::bs)=(Df a b && BO xa bs):=by rw[BO]
theorem E8:∀ {xa bs:List Tm},xa.length≠bs.length→BO xa bs=false
 | [],[],h=> (h rfl).elim
 | [],_::_,_=> by rw[BO]
 | _::_,[],_=> by rw[BO]
 | a::xa,b::bs,h=> by rw[BO,E8 (by simpa using h),Bool.and_false]
theorem toList_inj {s t:ByteArray} (h:s.toList=t.toList):s=t:=by
 rw[ByteArray.toList_eq,ByteArray.toList_eq] at h
 exact ByteArray.ext (Array.toList_inj.1 h)
theorem Ib:∀ {xa bs:List Tm},(∀ a∈xa,∀ b,Df a b=true↔a=b)→(BO xa bs=true↔xa=bs)
 | [],[],_=> by rw[BO];simp
 | [],_::_,_=> by rw[BO];simp
 | _::_,[],_=> by rw[BO];simp
 | a::xa,b::bs,ih=> by rw[BO,Bool.and_eq_true,ih a List.mem_cons_self,Ib (fun a ha=> ih a (List.mem_cons_of_mem _ ha))];simp
theorem JS:∀ (a b:Tm),Df a b=true↔a=b:=by
 refine Tm.ind fun k u n s ks ih b=> ?_
 obtain⟨k',u',n',s',ks'⟩:=b
 rw[Df]
 simp only[Bool.and_eq_true,beq_iff_eq,Ib ih,Tm.mk.injEq]
 constructor
 ·rintro⟨h1,h2,h3,h4,h5⟩;exact⟨h1,h2,h3,toList_inj h4,h5⟩
 ·rintro⟨h1,h2,h3,h4,h5⟩;exact⟨h1,h2,h3,by rw[h4],h5⟩
theorem Lu (xa bs:List Tm) (va vb:Value) (Fa Fb:Nat→Prop) (w:World) (ha:SlT Fa w va xa) (hb:SlT Fb w vb bs) (ih:∀ a∈xa,∀ (b:Tm) (ca cb:List Value) (Fa Fb:Nat→Prop) (w:World),TmC Fa w ca a→TmC Fb w cb b→Calls Tryz.prog 15 #[.agg ca.toArray,.agg cb.toArray] w (fun e w'=> e=.returned (.bool (Df a b))∧Below w.heap.size w w')):
  Calls Tryz.prog 30 #[va,vb,.func (.func 15) #[] #[]] w (fun e w'=> e=.returned (.bool (BO xa bs))∧Below w.heap.size w w'):=by
 have HIH:=Ag ih
 obtain⟨ao,c,rfl,hca,hcm,-⟩:=id ha
 obtain⟨bo,d,rfl,hdb,hdm,-⟩:=id hb
 obtain⟨R,hR⟩:∃ R,BO xa bs=R:=⟨_,rfl⟩
 rw[hR]
 have HR:=Ag hR
 obtain⟨m,hm⟩:∃ m,xa.length=m:=⟨_,rfl⟩
 obtain⟨n,hn⟩:∃ n,bs.length=n:=⟨_,rfl⟩
 have HM:=Ag hm
 have HN:=Ag hn
 rw[hm] at ha hca ⊢
 rw[hn] at hb hdb ⊢
 have hm63:m≤9223372036854775807:=by unfold maxLen at hcm;omega
 have hn63:n≤9223372036854775807:=by unfold maxLen at hdm;omega
 have HA:=Ag ha
 have HB:=Ag hb
 clear ha hb ih hR hm hn hca hcm hdb hdm
 by_cases hmn:m=n
 rotate_left
 ·have e1:((m:Int) !=(n:Int))=true:=by simp;omega
  have HE:=Ag (show R=false from by rw[←HR.out];exact E8 (by rw[HM.out,HN.out];exact hmn))
  clear hmn
  go_enter Tryz.func30,Tryz.ntmps30
  go_wp2_with fail
  go_ret
  exact⟨by rw[HE.out];rfl,Below.refl _ _⟩
 have e1:((m:Int) !=(n:Int))=false:=by simp;omega
 have HMN:=Ag hmn
 clear hmn
 go_enter Tryz.func30,Tryz.ntmps30
 go_wp2_with fail
 clear e1
 go_loopw [17] (fun i wr=> ∃ (j:Nat),i=.int .i64 j∧j≤m∧Hid (BO (xa.drop j) (bs.drop j)=R)∧Hid (Below w.heap.size w wr)) (fun i _=> m - (intOf i).toNat)
 case atStart=> exact⟨0,rfl,Nat.zero_le _,Ag HR.out,Ag (Below.refl _ _)⟩
 case round=>
  obtain⟨j,rfl,hj,HQ,HW⟩:=hrel
  by_cases hlt:j<m
  ·have hja:j<xa.length:=by rw[HM.out];exact hlt
   have hjb:j<bs.length:=by rw[HN.out,←HMN.out];exact hlt
   have hjz:(j:Int)<(m:Int):=by omega
   have hjn:(j:Int)<(n:Int):=by have:=HMN.out;omega
   have hj0:(0:Int)≤(j:Int):=by omega
   obtain⟨b1,o1,ca,rfl,-,-,hra,hta⟩:=HA.out.get hja
   obtain⟨b2,o2,cb,rfl,-,-,hrb,htb⟩:=HB.out.get hjb
   have HMEM:=Ag (List.getElem_mem hja)
   have HQ2:=Ag (show BO (xa[j]::xa.drop (j+1)) (bs[j]::bs.drop (j+1))=R from by rw[←List.drop_eq_getElem_cons hja,←List.drop_eq_getElem_cons hjb];exact HQ.out)
   generalize xa[j]=ta at hta HMEM HQ2
   generalize bs[j]=tb at htb HQ2
   obtain⟨aa,pa,rfl,-,-,-⟩:=hta.shape
   obtain⟨ab,pb,rfl,-,-,-⟩:=htb.shape
   have HRA:=Ag (Ai hra hrb)
   have HTM:=Ag (Ai hta htb)
   clear hra hrb hta htb hja hjb
   go_wp2_with (first
  | (with_reducible refine Ap rfl 29 (.tmp 20) rfl b1 (o1+j* 5) rfl (tmC ta.k ta.u ta.n ta.s (.slice aa ta.ks.length pa)) _ (BJ HRA.out.1 (Ch.of_below (S:=fun _=> False) HW.out (Ah _)) (fun h=> h)) Tryz.underlying29 rfl (A9 _ _ _ _ _) ?_)
  | ((with_reducible refine Av wr rfl 29 rfl (tmC 0 0 0 ⟨#[]⟩ (.slice none 0 0)) Tryz.zeroTm ?_);intro d1 hb hbel hsz;have HD1:=Ag (Ai hb hbel);clear hb hbel hsz)
  | ((with_reducible refine Ao d1 rfl 29 (.tmp 8) (.tmp 21) rfl wr.heap.size 29 (tmC 0 0 0 ⟨#[]⟩ (.slice none 0 0)) (tmC ta.k ta.u ta.n ta.s (.slice aa ta.ks.length pa)) HD1.out.1 rfl rfl rfl (A9 _ _ _ _ _) (AS _ _ _ _ _ _ _) ?_);intro d2 hb hc hs;have hbw:Below wr.heap.size wr d2:=Aw HD1.out.2 hc (Ah _) (fun k hk=> by have e:k=wr.heap.size:=hk;omega);have HD2:=hJ2 hb (An HW.out hbw (Ah _));clear hb hc hs hbw)
  | (with_reducible refine Ap rfl 29 (.tmp 24) rfl b2 (o2+j* 5) rfl (tmC tb.k tb.u tb.n tb.s (.slice ab tb.ks.length pb)) _ (BJ HRA.out.2 (Ch.of_below (S:=fun _=> False) HD2.out.2 (Ah _)) (fun h=> h)) Tryz.underlying29 rfl (A9 _ _ _ _ _) ?_)
  | ((with_reducible refine Av d2 rfl 29 rfl (tmC 0 0 0 ⟨#[]⟩ (.slice none 0 0)) Tryz.zeroTm ?_);intro d3 hb hbel hsz;have HD3:=Ag (Ai hb hbel);clear hb hbel hsz)
  | ((with_reducible refine Ao d3 rfl 29 (.tmp 9) (.tmp 25) rfl d2.heap.size 29 (tmC 0 0 0 ⟨#[]⟩ (.slice none 0 0)) (tmC tb.k tb.u tb.n tb.s (.slice ab tb.ks.length pb)) HD3.out.1 rfl rfl rfl (A9 _ _ _ _ _) (AS _ _ _ _ _ _ _) ?_);intro d4 hb hc hs;have hbw:Below d2.heap.size d2 d4:=Aw HD3.out.2 hc (Ah _) (fun k hk=> by have e:k=d2.heap.size:=hk;omega);have HD4:=Ag (show Blk d4 d2.heap.size 29 (tmC tb.k tb.u tb.n tb.s (.slice ab tb.ks.length pb))∧Blk d4 wr.heap.size 29 (tmC ta.k ta.u ta.n ta.s (.slice aa ta.ks.length pa))∧Below w.heap.size w d4 from⟨hb,HD2.out.1.below hbw HD2.out.1.lt,An HD2.out.2 hbw (Ah _)⟩);clear hb hc hs hbw)
  | (with_reducible refine Ap rfl 29 (.tmp 8) rfl wr.heap.size 0 rfl (tmC ta.k ta.u ta.n ta.s (.slice aa ta.ks.length pa)) _ (As HD4.out.2.1) Tryz.underlying29 rfl (A9 _ _ _ _ _) ?_)
  | (with_reducible refine Ap rfl 29 (.tmp 9) rfl d2.heap.size 0 rfl (tmC tb.k tb.u tb.n tb.s (.slice ab tb.ks.length pb)) _ (As HD4.out.1) Tryz.underlying29 rfl (A9 _ _ _ _ _) ?_))
   have hx:=HIH.out ta HMEM.out tb _ _ Fa Fb d4 (HTM.out.1.below HD4.out.2.2) (HTM.out.2.below HD4.out.2.2)
   obtain⟨rb,hr⟩:∃ r,Df ta tb=r:=⟨_,rfl⟩
   have HRB:=Ag hr
   rw[hr] at hx
   clear hr
   refine Calls.mono hx ?_
   clear hx
   rintro e' d5 ⟨rfl,hb⟩
   have HD5:=Ag (An HD4.out.2.2 hb (Ah _))
   clear hb
   cases rb
   ·have HE:=Ag (show R=false from by rw[←HQ2.out,DT,HRB.out,Bool.false_and])
    go_wp2_with fail
    go_ret
    exact⟨by rw[HE.out];rfl,HD5.out⟩
   ·have HQ3:=Ag (show BO (xa.drop (j+1)) (bs.drop (j+1))=R from by have h:=HQ2.out;rw[DT,HRB.out,Bool.true_and] at h;exact h)
    go_wp2_with fail
    go_roundw
    case rel=> exact⟨j+1,by go_num,by omega,HQ3,HD5⟩
    case measure=> simp[intOf];omega
  ·have hge:¬ (j:Int)<(m:Int):=by omega
   have HE:=Ag (show R=true from by rw[←HQ.out,List.drop_of_length_le (by rw[HM.out];omega),List.drop_of_length_le (by rw[HN.out,←HMN.out];omega),BO])
   go_wp2_with fail
   go_ret
   exact⟨by rw[HE.out];rfl,HW.out⟩
theorem JT:∀ (a:Tm),∀ (b:Tm) (ca cb:List Value) (Fa Fb:Nat→Prop) (w:World),TmC Fa w ca a→TmC Fb w cb b→Calls Tryz.prog 15 #[.agg ca.toArray,.agg cb.toArray] w (fun e w'=> e=.returned (.bool (Df a b))∧Below w.heap.size w w'):=by
 refine Tm.ind fun k u n s ks ih b ca cb Fa Fb w ha hb=> ?_
 obtain⟨k',u',n',s',ks'⟩:=b
 obtain⟨ao,c,rfl,-,-,hsa⟩:=ha.shape
 obtain⟨bo,d,rfl,-,-,hsb⟩:=hb.shape
 simp only[Tm.k,Tm.u,Tm.n,Tm.s,Tm.ks] at hsa hsb ⊢
 have HIH:=Ag ih
 have HS:=Ag (Ai hsa hsb)
 rw[Df]
 clear ha hb ih hsa hsb
 obtain⟨l,hl⟩:∃ l,ks.length=l:=⟨_,rfl⟩
 obtain⟨m,hm⟩:∃ l,ks'.length=l:=⟨_,rfl⟩
 rw[hl,hm] at HS
 rw[hl,hm]
 clear hl hm
 obtain⟨bk,hk⟩:∃ b,(k==k')=b:=⟨_,rfl⟩
 obtain⟨bu,hu⟩:∃ b,(u==u')=b:=⟨_,rfl⟩
 obtain⟨bn,hn⟩:∃ b,(n==n')=b:=⟨_,rfl⟩
 obtain⟨bs,hs⟩:∃ b,(s.toList==s'.toList)=b:=⟨_,rfl⟩
 obtain⟨R,hR⟩:∃ R,(bk && (bu && (bn && (bs && BO ks ks'))))=R:=⟨_,rfl⟩
 rw[hk,hu,hn,hs,hR]
 have HR:=Ag hR
 clear hR
 have H0:=Ag (Below.refl w.heap.size w)
 cases bk
 ·skip
  go_enter Tryz.func15,Tryz.ntmps15
  go_wp2_with (first
  | ((with_reducible refine Au w rfl 29 (.tmp 0) rfl (tmC k u n s (.slice ao l c)) rfl ?_);intro a1 hb hbel hsz;have HA1:=hJ2 (An H0.out hbel (Ah _)) hb;clear hb hbel hsz)
  | ((with_reducible refine Au a1 rfl 29 (.tmp 1) rfl (tmC k' u' n' s' (.slice bo m d)) rfl ?_);intro a2 hb hbel hsz;have HA2:=hJ3 (An HA1.out.1 hbel (Ah _)) (HA1.out.2.below hbel HA1.out.2.lt) hb;have c0:=HA2.out.2.1.cell 0;have d0:=HA2.out.2.2.cell 0;have c1:=HA2.out.2.1.cell 1;have d1:=HA2.out.2.2.cell 1;have c2:=HA2.out.2.1.cell 2;have d2:=HA2.out.2.2.cell 2;have c3:=HA2.out.2.1.cell 3;have d3:=HA2.out.2.2.cell 3;have c4:=HA2.out.2.1.cell 4;have d4:=HA2.out.2.2.cell 4;simp only[tmC,Ab,Ac] at c0 c1 c2 c3 c4 d0 d1 d2 d3 d4;clear hb hbel hsz))
  go_ret
  exact⟨by rw[←HR.out];rfl,HA2.out.1⟩
 cases bu
 ·skip
  go_enter Tryz.func15,Tryz.ntmps15
  go_wp2_with (first
  | ((with_reducible refine Au w rfl 29 (.tmp 0) rfl (tmC k u n s (.slice ao l c)) rfl ?_);intro a1 hb hbel hsz;have HA1:=hJ2 (An H0.out hbel (Ah _)) hb;clear hb hbel hsz)
  | ((with_reducible refine Au a1 rfl 29 (.tmp 1) rfl (tmC k' u' n' s' (.slice bo m d)) rfl ?_);intro a2 hb hbel hsz;have HA2:=hJ3 (An HA1.out.1 hbel (Ah _)) (HA1.out.2.below hbel HA1.out.2.lt) hb;have c0:=HA2.out.2.1.cell 0;have d0:=HA2.out.2.2.cell 0;have c1:=HA2.out.2.1.cell 1;have d1:=HA2.out.2.2.cell 1;have c2:=HA2.out.2.1.cell 2;have d2:=HA2.out.2.2.cell 2;have c3:=HA2.out.2.1.cell 3;have d3:=HA2.out.2.2.cell 3;have c4:=HA2.out.2.1.cell 4;have d4:=HA2.out.2.2.cell 4;simp only[tmC,Ab,Ac] at c0 c1 c2 c3 c4 d0 d1 d2 d3 d4;clear hb hbel hsz))
  go_ret
  exact⟨by rw[←HR.out];rfl,HA2.out.1⟩
 cases bn
 ·skip
  go_enter Tryz.func15,Tryz.ntmps15
  go_wp2_with (first
  | ((with_reducible refine Au w rfl 29 (.tmp 0) rfl (tmC k u n s (.slice ao l c)) rfl ?_);intro a1 hb hbel hsz;have HA1:=hJ2 (An H0.out hbel (Ah _)) hb;clear hb hbel hsz)
  | ((with_reducible refine Au a1 rfl 29 (.tmp 1) rfl (tmC k' u' n' s' (.slice bo m d)) rfl ?_);intro a2 hb hbel hsz;have HA2:=hJ3 (An HA1.out.1 hbel (Ah _)) (HA1.out.2.below hbel HA1.out.2.lt) hb;have c0:=HA2.out.2.1.cell 0;have d0:=HA2.out.2.2.cell 0;have c1:=HA2.out.2.1.cell 1;have d1:=HA2.out.2.2.cell 1;have c2:=HA2.out.2.1.cell 2;have d2:=HA2.out.2.2.cell 2;have c3:=HA2.out.2.1.cell 3;have d3:=HA2.out.2.2.cell 3;have c4:=HA2.out.2.1.cell 4;have d4:=HA2.out.2.2.cell 4;simp only[tmC,Ab,Ac] at c0 c1 c2 c3 c4 d0 d1 d2 d3 d4;clear hb hbel hsz))
  go_ret
  exact⟨by rw[←HR.out];rfl,HA2.out.1⟩
 cases bs
 ·skip
  go_enter Tryz.func15,Tryz.ntmps15
  go_wp2_with (first
  | ((with_reducible refine Au w rfl 29 (.tmp 0) rfl (tmC k u n s (.slice ao l c)) rfl ?_);intro a1 hb hbel hsz;have HA1:=hJ2 (An H0.out hbel (Ah _)) hb;clear hb hbel hsz)
  | ((with_reducible refine Au a1 rfl 29 (.tmp 1) rfl (tmC k' u' n' s' (.slice bo m d)) rfl ?_);intro a2 hb hbel hsz;have HA2:=hJ3 (An HA1.out.1 hbel (Ah _)) (HA1.out.2.below hbel HA1.out.2.lt) hb;have c0:=HA2.out.2.1.cell 0;have d0:=HA2.out.2.2.cell 0;have c1:=HA2.out.2.1.cell 1;have d1:=HA2.out.2.2.cell 1;have c2:=HA2.out.2.1.cell 2;have d2:=HA2.out.2.2.cell 2;have c3:=HA2.out.2.1.cell 3;have d3:=HA2.out.2.2.cell 3;have c4:=HA2.out.2.1.cell 4;have d4:=HA2.out.2.2.cell 4;simp only[tmC,Ab,Ac] at c0 c1 c2 c3 c4 d0 d1 d2 d3 d4;clear hb hbel hsz))
  go_ret
  exact⟨by rw[←HR.out];rfl,HA2.out.1⟩
 go_enter Tryz.func15,Tryz.ntmps15
 go_wp2_with (first
  | ((with_reducible refine Au w rfl 29 (.tmp 0) rfl (tmC k u n s (.slice ao l c)) rfl ?_);intro a1 hb hbel hsz;have HA1:=hJ2 (An H0.out hbel (Ah _)) hb;clear hb hbel hsz)
  | ((with_reducible refine Au a1 rfl 29 (.tmp 1) rfl (tmC k' u' n' s' (.slice bo m d)) rfl ?_);intro a2 hb hbel hsz;have HA2:=hJ3 (An HA1.out.1 hbel (Ah _)) (HA1.out.2.below hbel HA1.out.2.lt) hb;have c0:=HA2.out.2.1.cell 0;have d0:=HA2.out.2.2.cell 0;have c1:=HA2.out.2.1.cell 1;have d1:=HA2.out.2.2.cell 1;have c2:=HA2.out.2.1.cell 2;have d2:=HA2.out.2.2.cell 2;have c3:=HA2.out.2.1.cell 3;have d3:=HA2.out.2.2.cell 3;have c4:=HA2.out.2.1.cell 4;have d4:=HA2.out.2.2.cell 4;simp only[tmC,Ab,Ac] at c0 c1 c2 c3 c4 d0 d1 d2 d3 d4;clear hb hbel hsz))
 have hx:=Lu ks ks' _ _ Fa Fb a2 (HS.out.1.below HA2.out.1) (HS.out.2.below HA2.out.1) HIH.out
 refine Calls.mono hx ?_
 clear hx
 rintro e' a3 ⟨rfl,hb⟩
 have HB:=Ag (An HA2.out.1 hb (Ah _))
 clear hb
 have HE:=Ag (show R=BO ks ks' from by rw[←HR.out];rfl)
 go_wp2_with fail
 go_ret
 exact⟨by rw[HE.out];rfl,HB.out⟩
def AX (n:Int):Bool:=decide (1≤n) && decide (n≤6)
def BD (n:Int):Bool:=decide (1≤n) && decide (n≤3)
theorem Dz (n:Int) (w:World):Calls Tryz.prog 52 #[.int .i64 n] w (fun e w'=> e=.returned (.bool (AX n))∧w=w'):=by
 by_cases h1:1≤n
 ·by_cases h2:n≤6
  ·have HU:=Ag (show AX n=true by simp[AX,h1,h2])
   rw[HU.out]
   go_enter Tryz.func52,Tryz.ntmps52
   go_wp2
   go_ret
   exact⟨rfl,rfl⟩
  ·have HU:=Ag (show AX n=false by simp[AX,h2])
   rw[HU.out]
   go_enter Tryz.func52,Tryz.ntmps52
   go_wp2
   go_ret
   exact⟨rfl,rfl⟩
 ·have HU:=Ag (show AX n=false by simp[AX,h1])
  rw[HU.out]
  go_enter Tryz.func52,Tryz.ntmps52
  go_wp2
  go_ret
  exact⟨rfl,rfl⟩
theorem E9 (n:Int) (w:World):Calls Tryz.prog 59 #[.int .i64 n] w (fun e w'=> e=.returned (.bool (BD n))∧w=w'):=by
 by_cases h1:1≤n
 ·by_cases h2:n≤3
  ·have HU:=Ag (show BD n=true by simp[BD,h1,h2])
   rw[HU.out]
   go_enter Tryz.func59,Tryz.ntmps59
   go_wp2
   go_ret
   exact⟨rfl,rfl⟩
  ·have HU:=Ag (show BD n=false by simp[BD,h2])
   rw[HU.out]
   go_enter Tryz.func59,Tryz.ntmps59
   go_wp2
   go_ret
   exact⟨rfl,rfl⟩
 ·have HU:=Ag (show BD n=false by simp[BD,h1])
  rw[HU.out]
  go_enter Tryz.func59,Tryz.ntmps59
  go_wp2
  go_ret
  exact⟨rfl,rfl⟩
def Cz (P:Int→Bool) (l:List Int) (i:Nat):Bool:=P (l.getD i 0) && (i==0 ||decide (l.getD (i - 1) 0<l.getD i 0))
def Ef (P:Int→Bool) (l:List Int) (k:Nat):Bool:=(List.range k).all (Cz P l)
def BK (P:Int→Bool) (l:List Int):Bool:=Ef P l l.length
theorem Hg (P:Int→Bool) (l:List Int) (k:Nat):Ef P l (k+1)=(Ef P l k && Cz P l k):=by unfold Ef;rw[List.range_succ,List.all_append];simp
theorem IU (P:Int→Bool) (l:List Int) {k:Nat} (h:Cz P l k=false) (hk:k<l.length):BK P l=false:=by
 unfold BK Ef
 rw[Bool.eq_false_iff]
 intro h2
 have:=List.all_eq_true.1 h2 k (by simpa using hk)
 rw[h] at this;cases this
theorem CA {l:List Int} {i:Nat} (h:i<l.length):l.getD i 0=l[i]:=by simp[List.getD_eq_getElem?_getD,List.getElem?_eq_getElem h]
theorem Ez (P:Int→Bool) (gf:Nat) (lb:List Value) (v:Value) (l:List Int) (w:World) (hv:Sl w v (ofK .i64 l))
  (hcf:∀ args w1,Sem.run Tryz.prog (callFunc gf args) w1=.ok (.enter gf args) w1) (hst:∀ (n:Int),Calls Tryz.prog gf (.int .i64 n::lb).toArray w (fun e w'=> e=.returned (.bool (P n))∧w=w')):
  Calls Tryz.prog 58 #[v,.func (.func gf) #[] lb.toArray] w (fun e w'=> e=.returned (.bool (BK P l))∧w=w'):=by
 obtain⟨ao,c,rfl,a2,a3,a4⟩:=hv.nums
 have H:=Ag (Ai a4 hst)
 have HR:=Ag (Ai (Hg P l) (@IU P l))
 obtain⟨L,hL⟩:∃ L,l.length=L:=⟨_,rfl⟩
 obtain⟨R,hR⟩:∃ R,BK P l=R:=⟨_,rfl⟩
 have HL:=Ag (Ai hL hR)
 rw[hL] at a2 ⊢
 rw[hR]
 have hcf':=hcf
 clear hv a4 hst hL hR
 go_enter Tryz.func58,Tryz.ntmps58
 go_wp2_with fail
 go_loop [5,6,9] (fun u5 u6 i=> ∃ k:Nat,k≤L∧i=.int .i64 k∧Hid (Ef P l k=true)) (fun _ _ i=> L - (intOf i).toNat)
 case atStart=> exact⟨0,Nat.zero_le _,rfl,Ag rfl⟩
 case round=>
  obtain⟨k,hk,rfl,HT⟩:=hrel
  by_cases hlt:k<L
  ·have hkl:k<l.length:=by rw[HL.out.1];exact hlt
   have hklz:(k:Int)<(L:Int):=by omega
   have hk0:(0:Int)≤(k:Int):=by omega
   obtain⟨b,o,rfl,-,hcell⟩:=H.out.1 (by omega)
   have c1:=hcell k hkl
   have hat:=CA hkl
   have hsu:=HR.out.1 k
   have hno:=fun h=> HR.out.2 (k:=k) h hkl
   rw[HL.out.2] at hno
   rw[HT.out,Bool.true_and] at hsu
   have hra:Cz P l k=(P (l.getD k 0) && (k==0 ||decide (l.getD (k - 1) 0<l.getD k 0))):=rfl
   rw[hat] at hra
   generalize l[k]=x at c1 hra
   obtain⟨px,hpx⟩:∃ b,P x=b:=⟨_,rfl⟩
   rw[hpx] at hra
   have HC:=Ag (H.out.2 x)
   rw[hpx] at HC
   clear hat hpx
   by_cases hz:k=0
   ·subst hz
    rw[Nat.add_zero] at c1
    have HS:=Ag hsu
    have HN:=Ag hno
    have HA:=Ag (show Cz P l 0=px by rw[hra];simp)
    clear hsu hno hra hcell hkl
    cases px
    ·go_wp2_with fail
     refine HC.out.mono ?_
     rintro e w' ⟨rfl,rfl⟩
     go_wp2_with fail
     go_ret
     exact⟨by rw[HN.out HA.out];rfl,rfl⟩
    ·go_wp2_with fail
     refine HC.out.mono ?_
     rintro e w' ⟨rfl,rfl⟩
     go_wp2_with fail
     go_round
     case rel=> exact⟨1,by omega,by go_num,Ag (HS.out.trans HA.out)⟩
     case measure=> simp[intOf];omega
   ·have c0:=hcell (k - 1) (by omega)
    rw[CA (show k - 1<l.length by omega)] at hra
    have hk1:(0:Int)<(k:Int):=by omega
    have hkk:((k - 1:Nat):Int)=(k:Int) - 1:=by omega
    have hw1:IntKind.i64.wrap ((k:Int) - 1)=((k - 1:Nat):Int):=by rw[IntKind.wrap_i64];omega
    have hj0:(0:Int)≤((k - 1:Nat):Int):=by omega
    have hj1:((k - 1:Nat):Int)<(L:Int):=by omega
    generalize l[k - 1]=y at c0 hra
    have hkz:(k==0)=false:=by simpa using hz
    rw[hkz,Bool.false_or] at hra
    have HS:=Ag hsu
    have HN:=Ag hno
    clear hsu hno hcell hkl hkz hz
    cases px
    ·have HA:=Ag (show Cz P l k=false by rw[hra];simp)
     clear hra
     go_wp2_with fail
     refine HC.out.mono ?_
     rintro e w' ⟨rfl,rfl⟩
     go_wp2_with fail
     go_ret
     exact⟨by rw[HN.out HA.out];rfl,rfl⟩
    ·by_cases hyx:y<x
     ·have HA:=Ag (show Cz P l k=true by rw[hra];simp[hyx])
      have hyx2:¬ x≤y:=by omega
      clear hra
      go_wp2_with fail
      refine HC.out.mono ?_
      rintro e w' ⟨rfl,rfl⟩
      go_wp2_with fail
      go_round
      case rel=> exact⟨k+1,by omega,by go_num,Ag (HS.out.trans HA.out)⟩
      case measure=> simp[intOf];omega
     ·have HA:=Ag (show Cz P l k=false by rw[hra];simp[hyx])
      have hyx2:x≤y:=by omega
      clear hra
      go_wp2_with fail
      refine HC.out.mono ?_
      rintro e w' ⟨rfl,rfl⟩
      go_wp2_with fail
      go_ret
      exact⟨by rw[HN.out HA.out];rfl,rfl⟩
  ·have hge:¬ (k:Int)<(L:Int):=by omega
   have hR:R=true:=by rw[←HL.out.2];unfold BK;rw[HL.out.1,←show k=L by omega];exact HT.out
   have HRR:=Ag hR
   clear hR
   go_wp2_with fail
   go_ret
   exact⟨by rw[HRR.out];rfl,rfl⟩
def DA (P:Int→Bool):List Int→Nat→Int
 | [],_=> -1
 | x::t,i=> if P x=true then (i:Int) else DA P t (i+1)
theorem Gb (P:Int→Bool):∀ (l:List Int) (i:Nat),decide (0≤DA P l i)=l.any P
 | [],i=> rfl
 | x::t,i=> by
  unfold DA
  rw[List.any_cons]
  by_cases h:P x=true
  ·rw[if_pos h,h,decide_eq_true (by omega)];rfl
  ·rw[if_neg h,Gb P t,Bool.eq_false_iff.2 h];rfl
theorem GW (P:Int→Bool) (l:List Int) (k:Nat) (h:k<l.length):DA P (l.drop k) k=if P l[k]=true then (k:Int) else DA P (l.drop (k+1)) (k+1):=by
 rw[List.drop_eq_getElem_cons h];rfl
theorem JU (x:Int) (v:Value) (l:List Int) (w:World) (hv:Sl w v (ofK .i64 l)):
  Calls Tryz.prog 27 #[v,.int .i64 x] w (fun e w'=> e=.returned (.int .i64 (DA (x==·) l 0))∧w=w'):=by
 obtain⟨ao,c,rfl,a2,a3,a4⟩:=hv.nums
 have H:=Ag a4
 have HD:=Ag (GW (x==·) l)
 obtain⟨L,hL⟩:∃ L,l.length=L:=⟨_,rfl⟩
 obtain⟨R,hR⟩:∃ R,DA (x==·) l 0=R:=⟨_,rfl⟩
 have HL:=Ag (Ai hL hR)
 rw[hL] at a2 ⊢
 rw[hR]
 clear hv a4 hL hR
 go_enter Tryz.func27,Tryz.ntmps27
 go_wp2_with fail
 go_loop [5,8] (fun u5 i=> ∃ k:Nat,k≤L∧i=.int .i64 k∧Hid (DA (x==·) (l.drop k) k=R)) (fun _ i=> L - (intOf i).toNat)
 case atStart=> exact⟨0,Nat.zero_le _,rfl,Ag HL.out.2⟩
 case round=>
  obtain⟨k,hk,rfl,HT⟩:=hrel
  by_cases hlt:k<L
  ·have hkl:k<l.length:=by rw[HL.out.1];exact hlt
   have hklz:(k:Int)<(L:Int):=by omega
   have hk0:(0:Int)≤(k:Int):=by omega
   obtain⟨b,o,rfl,-,hcell⟩:=H.out (by omega)
   have c1:=hcell k hkl
   have hd:=HD.out k hkl
   rw[HT.out] at hd
   generalize l[k]=y at c1 hd
   by_cases hxy:x=y
   ·have hb:(x==y)=true:=by simpa using hxy
    have HA:=Ag (show R=(k:Int) by rw[hd,if_pos hb])
    clear hd hcell hkl hxy
    go_wp2_with fail
    go_ret
    exact⟨by rw[HA.out];rfl,rfl⟩
   ·have hb:(x==y)=false:=by simpa using hxy
    have HA:=Ag (show DA (x==·) (l.drop (k+1)) (k+1)=R by rw[hd,if_neg (by rw[hb];simp)])
    clear hd hcell hkl hxy
    go_wp2_with fail
    go_round
    case rel=> exact⟨k+1,by omega,by go_num,HA⟩
    case measure=> simp[intOf];omega
  ·have hge:¬ (k:Int)<(L:Int):=by omega
   have hR:R= -1:=by rw[←HT.out,List.drop_of_length_le (by rw[HL.out.1];omega)];rfl
   have HRR:=Ag hR
   clear hR
   go_wp2_with fail
   go_ret
   exact⟨by rw[HRR.out];rfl,rfl⟩
theorem AM (x:Int) (v:Value) (l:List Int) (w:World) (hv:Sl w v (ofK .i64 l)):
  Calls Tryz.prog 12 #[v,.int .i64 x] w (fun e w'=> e=.returned (.bool (l.any (x==·)))∧w=w'):=by
 have H:=Ag (JU x v l w hv)
 have hA:=Gb (x==·) l 0
 generalize l.any (x==·)=b at hA ⊢
 generalize DA (x==·) l 0=r at hA H
 clear hv
 cases b
 ·have hr:decide (0≤r)=false:=hA
  have hr2:¬ 0≤r:=by simpa using hr
  clear hA
  go_enter Tryz.func12,Tryz.ntmps12
  go_wp2_with fail
  refine H.out.mono ?_
  rintro e w' ⟨rfl,rfl⟩
  go_wp2_with fail
  go_ret
  exact⟨rfl,rfl⟩
 ·have hr:decide (0≤r)=true:=hA
  have hr2:0≤r:=by simpa using hr
  clear hA
  go_enter Tryz.func12,Tryz.ntmps12
  go_wp2_with fail
  refine H.out.mono ?_
  rintro e w' ⟨rfl,rfl⟩
  go_wp2_with fail
  go_ret
  exact⟨rfl,rfl⟩
theorem Gc (P:Int→Bool) (gf:Nat) (lb:List Value) (v:Value) (l:List Int) (w:World) (hv:Sl w v (ofK .i64 l))
  (hcf:∀ args w1,Sem.run Tryz.prog (callFunc gf args) w1=.ok (.enter gf args) w1) (hst:∀ (n:Int),Calls Tryz.prog gf (.int .i64 n::lb).toArray w (fun e w'=> e=.returned (.bool (P n))∧w=w')):
  Calls Tryz.prog 82 #[v,.func (.func gf) #[] lb.toArray] w (fun e w'=> e=.returned (.int .i64 (DA P l 0))∧w=w'):=by
 obtain⟨ao,c,rfl,a2,a3,a4⟩:=hv.nums
 have H:=Ag (Ai a4 hst)
 have HD:=Ag (GW P l)
 obtain⟨L,hL⟩:∃ L,l.length=L:=⟨_,rfl⟩
 obtain⟨R,hR⟩:∃ R,DA P l 0=R:=⟨_,rfl⟩
 have HL:=Ag (Ai hL hR)
 rw[hL] at a2 ⊢
 rw[hR]
 have hcf':=hcf
 clear hv a4 hL hR hst
 go_enter Tryz.func82,Tryz.ntmps82
 go_wp2_with fail
 go_loop [5,8] (fun u5 i=> ∃ k:Nat,k≤L∧i=.int .i64 k∧Hid (DA P (l.drop k) k=R)) (fun _ i=> L - (intOf i).toNat)
 case atStart=> exact⟨0,Nat.zero_le _,rfl,Ag HL.out.2⟩
 case round=>
  obtain⟨k,hk,rfl,HT⟩:=hrel
  by_cases hlt:k<L
  ·have hkl:k<l.length:=by rw[HL.out.1];exact hlt
   have hklz:(k:Int)<(L:Int):=by omega
   have hk0:(0:Int)≤(k:Int):=by omega
   obtain⟨b,o,rfl,-,hcell⟩:=H.out.1 (by omega)
   have c1:=hcell k hkl
   have hd:=HD.out k hkl
   rw[HT.out] at hd
   generalize l[k]=y at c1 hd
   obtain⟨py,hpy⟩:∃ b,P y=b:=⟨_,rfl⟩
   rw[hpy] at hd
   have HC:=Ag (H.out.2 y)
   rw[hpy] at HC
   clear hpy
   cases py
   ·have HA:=Ag (show DA P (l.drop (k+1)) (k+1)=R by rw[hd,if_neg (by simp)])
    clear hd hcell hkl
    go_wp2_with fail
    refine HC.out.mono ?_
    rintro e w' ⟨rfl,rfl⟩
    go_wp2_with fail
    go_round
    case rel=> exact⟨k+1,by omega,by go_num,HA⟩
    case measure=> simp[intOf];omega
   ·have HA:=Ag (show R=(k:Int) by rw[hd,if_pos rfl])
    clear hd hcell hkl
    go_wp2_with fail
    refine HC.out.mono ?_
    rintro e w' ⟨rfl,rfl⟩
    go_wp2_with fail
    go_ret
    exact⟨by rw[HA.out];rfl,rfl⟩
  ·have hge:¬ (k:Int)<(L:Int):=by omega
   have hR:R= -1:=by rw[←HT.out,List.drop_of_length_le (by rw[HL.out.1];omega)];rfl
   have HRR:=Ag hR
   clear hR
   go_wp2_with fail
   go_ret
   exact⟨by rw[HRR.out];rfl,rfl⟩
theorem Eu (P:Int→Bool) (gf:Nat) (lb:List Value) (v:Value) (l:List Int) (w:World) (hv:Sl w v (ofK .i64 l))
  (hcf:∀ args w1,Sem.run Tryz.prog (callFunc gf args) w1=.ok (.enter gf args) w1) (hst:∀ (n:Int),Calls Tryz.prog gf (.int .i64 n::lb).toArray w (fun e w'=> e=.returned (.bool (P n))∧w=w')):
  Calls Tryz.prog 60 #[v,.func (.func gf) #[] lb.toArray] w (fun e w'=> e=.returned (.bool (l.any P))∧w=w'):=by
 have H:=Ag (Gc P gf lb v l w hv hcf hst)
 have hA:=Gb P l 0
 generalize l.any P=b at hA ⊢
 generalize DA P l 0=r at hA H
 clear hv hst hcf
 cases b
 ·have hr:decide (0≤r)=false:=hA
  have hr2:¬ 0≤r:=by simpa using hr
  clear hA
  go_enter Tryz.func60,Tryz.ntmps60
  go_wp2_with fail
  refine H.out.mono ?_
  rintro e w' ⟨rfl,rfl⟩
  go_wp2_with fail
  go_ret
  exact⟨rfl,rfl⟩
 ·have hr:decide (0≤r)=true:=hA
  have hr2:0≤r:=by simpa using hr
  clear hA
  go_enter Tryz.func60,Tryz.ntmps60
  go_wp2_with fail
  refine H.out.mono ?_
  rintro e w' ⟨rfl,rfl⟩
  go_wp2_with fail
  go_ret
  exact⟨rfl,rfl⟩
theorem nil_or {w:World} {v:Value} {xs:List Value} (h:Sl w v xs):(v=.slice none 0 0∧xs=[])∨∃ ad n c,v=.slice (some ad) n c:=by
 rcases h with h|⟨ad,c,h,_⟩
 ·exact .inl h
 ·exact .inr ⟨ad,_,c,h⟩
theorem Tryz.infoI:(Tryz.prog.info? 3).map (fun i=> (i.zero,i.size,i.bytes))=some (some (.int .i64 0),1,8):=by kernel_rfl
theorem CH {w:World} {ops:Array Oper} {rest:List Oper} {o:Oper} {a:Act} {Q:Exit→Act→World→Prop} (base:Nat) (s x':Operand) (hgd:o.guard=none)
  (ho:o.op=.call {callee:=.builtin .append,args:=#[s,x'],argTypes:=#[40,40]}) {v:Value} {n:Nat} {xs:List Int} (hr:w.ownsRow base 3 1 v n (ofK .i64 xs)) (hs:a.eval s=v)
  {vx:Value} {ys:List Int} (hx:a.eval x'=vx) (hsl:Sl w vx (ofK .i64 ys)) (N:Nat) (hN:n+ys.length=N) (hn:N≤1000000000) (hb:base≤w.heap.size)
  (h:∀ ao c w',w'.ownsRow base 3 1 (.slice ao N c) N (ofK .i64 (xs ++ ys))→w.grownBy w' v.ownBlock→((Value.slice ao N c).ownBlock=v.ownBlock∨(Value.slice ao N c).ownBlock=some w.heap.size)→wpList Tryz.prog ops Q rest (a.put o.dst (.slice ao N c)) w'):
  wpList Tryz.prog ops Q (o::rest) a w:=by
 obtain⟨i0,hi,hz0,hz1,hz2⟩:=info_parts Tryz.infoI
 refine CG w hgd s x' _ ho base 3 i0 (.int .i64 0) 8 Tryz.underlying40 hi hz0 hz1 hz2 rfl v n (ofK .i64 xs) hs hr vx (ofK .i64 ys) hx hsl (Cx _ _) N (by rw[AJ];exact hN) (by unfold maxLen;omega) (by omega) hb ?_
 intro ao c w' hown hgr hbl
 refine h ao c w' ?_ hgr hbl
 have e:ofK .i64 (xs ++ ys)=ofK .i64 xs ++ ofK .i64 ys:=by simp[ofK]
 rw[e];exact hown
theorem Fc (w:World) {ops:Array Oper} {rest:List Oper} {o:Oper} {a:Act} {Q:Exit→Act→World→Prop} (hgd:o.guard=none) (ho:o.op=.buildSlice 40 0 #[])
  (h:∀ w',w'.ownsRow w.heap.size 3 1 (.slice (some ⟨w.heap.size,0,none⟩) 0 0) 0 (ofK .i64 ([]:List Int))→Below w.heap.size w w'→w'.heap.size=w.heap.size+1→wpList Tryz.prog ops Q rest (a.put o.dst (.slice (some ⟨w.heap.size,0,none⟩) 0 0)) w'):
  wpList Tryz.prog ops Q (o::rest) a w:=by
 refine wpList_plain hgd fun K hK=> ?_
 have hrun:(execOp a.eval o).run Tryz.prog w=.ok (.value (.slice (some ⟨w.heap.size,0,none⟩) 0 0)) (w.alloc (.cells #[] 3)):=by
  have hb:(Instr.buildSlice 40 0 #[]).run Tryz.prog w=.ok (.slice (some ⟨w.heap.size,0,none⟩) 0 0) (w.alloc (.cells #[] 3)):=by
   have sz:∀ w,(sizeOf 3).run Tryz.prog w=.ok 1 w:=fun w=> by kernel_rfl
   have zv:∀ w,(zeroValue 3).run Tryz.prog w=.ok (.int .i64 0) w:=fun w=> by kernel_rfl
   have nr:∀ cs,(newRow 3 cs).run Tryz.prog w=.ok ⟨w.heap.size,0,none⟩ (w.alloc (.cells cs 3)):=fun cs=> by simp[newRow,Result.andThen]
   simp[Instr.buildSlice,run_underlying Tryz.underlying40,sz,zv,Result.andThen,Instr.fill,nr]
   have e:∀ f:Nat→Value,Array.map f (Array.range 0)=#[]:=fun f=> Array.eq_empty_of_size_eq_zero (by simp)
   rw[e]
  unfold execOp
  simp[ho,hb,Result.andThen]
 unfold Oper.wp
 rw[hrun]
 refine hK _ _ (h _ ⟨rfl,.inr ⟨w.heap.size,0,#[],rfl,Ah _,?_,Ah _,Nat.zero_le _,rfl,rfl⟩⟩ ((Below.refl _ _).alloc (Ah _) _) (World.size_alloc _ _))
 have:=Blk.new w [] 3
 unfold Blk at this
 exact this
theorem Bu (v:Value) (l:List Int) (w:World) (hv:Sl w v (ofK .i64 l)) (hl:l.length≤1000000000):
  Calls Tryz.prog 56 #[v] w (fun e w'=> ∃ v',e=.returned v'∧w'.ownsRow w.heap.size 3 1 v' l.length (ofK .i64 l)∧Below w.heap.size w w'):=by
 have q22:∀ (w:World) (a:Option Addr) (n c n' c':Nat),(binOp .eql 40 (.slice a n c) (.slice none n' c')).run Tryz.prog w=.ok (.bool a.isNone) w:=fun w a n c n' c'=> Lib.run_eql_slice_nil w _ _ a n c n' c' Tryz.underlying40
 rcases nil_or hv with⟨rfl,h0⟩|⟨ad,n,c,rfl⟩
 ·have:l=[]:=by cases l with
   | nil=> rfl
   | cons x t=> cases h0
  subst this
  clear hv h0 hl
  go_enter Tryz.func56,Tryz.ntmps56
  go_wp2_with fail
  go_ret
  exact⟨_,rfl,World.ownsRow_nil _ _ _ _,Below.refl _ _⟩
 ·have HV:=Ag hv
  have HL:=Ag hl
  clear hv hl
  go_enter Tryz.func56,Tryz.ntmps56
  go_wp2_with (first
   | ((with_reducible refine Fc w rfl rfl ?_);intro w1 hown hbel hsz;have H1:=Ag (Ai hown hbel);clear hown hbel hsz)
   | (at_builtin;refine CH w.heap.size (.tmp 5) (.tmp 6) rfl rfl H1.out.1 rfl rfl (HV.out.below H1.out.2 (Ah _)) l.length (by omega) HL.out H1.out.2.size ?_))
  intro ao c2 w2 hown hgr _
  have hb2:Below w.heap.size w w2:=H1.out.2.grown hgr H1.out.2.size (fun j e=> by cases e;exact Ah _)
  have H2:=Ag (Ai hown hb2)
  clear hown hgr hb2
  go_wp2_with fail
  go_ret
  exact⟨_,rfl,by simpa using H2.out.1,H2.out.2⟩
end Go.Proofs.YtgdlfiphihaooaaGreat

import Derived.Test.YtgdlfiphihaooaaGreatYq10
import Derived.Lib.Bytealg
set_option linter.unusedSimpArgs false
set_option linter.unusedVariables false
set_option maxRecDepth 100000
set_option maxHeartbeats 8000000
open _root_.List renaming getElem?_toArray→Aa,getElem?_cons_zero→Ab,getElem?_cons_succ→Ac,setIfInBounds_toArray→Ad,set_cons_zero→Ae,set_cons_succ→Af
open _root_.Go.Lib renaming hid→Ag
open _root_.Nat renaming le_refl→Ah,le_trans→Aj,lt_of_lt_of_le→Ak
open _root_.And renaming intro→Ai
open _root_.Go.Act renaming put→Al
namespace Go.Proofs.YtgdlfiphihaooaaGreat
open Go Go.RowKit
def BS (a b:ByteArray):Int:=Lib.compareBytes a.data.toList b.data.toList
def BA (a b:Int):Int:=if a<b then -1 else if b<a then 1 else 0
theorem Jb (a b:ByteArray) (w:World):Calls Tryz.prog 81 #[.string a,.string b] w (fun e w'=> e=.returned (.int .i64 (BS a b))∧w=w'):=by
 go_enter Tryz.func81,Tryz.ntmps81
 go_wp2
 rw[run_callFunc_extern Tryz.func101 (by kernel_rfl) (by kernel_rfl) (by kernel_rfl) (e:=Extern.BytealgCompare.compare) (by kernel_rfl),Lib.run_compareString]
 simp only[Result.andThen]
 rw[Oper.upon_value]
 go_wp2
 go_ret
 exact⟨rfl,rfl⟩
theorem KH (a b:ByteArray) (w:World):Calls Tryz.prog 55 #[.string a,.string b] w (fun e w'=> e=.returned (.int .i64 (BS a b))∧w=w'):=by
 have H:=Ag (Jb a b)
 go_enter Tryz.func55,Tryz.ntmps55
 go_wp2_with fail
 refine(H.out w).mono ?_
 rintro e w' ⟨rfl,rfl⟩
 go_wp2_with fail
 go_ret
 exact⟨rfl,rfl⟩
theorem KI (a b:Int) (w:World):Calls Tryz.prog 71 #[.int .i64 a,.int .i64 b] w (fun e w'=> e=.returned (.int .i64 (BA a b))∧w=w'):=by
 by_cases h1:a<b
 ·have HE:=Ag (show BA a b= -1 from if_pos h1)
  rw[HE.out]
  go_enter Tryz.func71,Tryz.ntmps71
  go_wp2_with (go_at_call 86;refine(EL _ _).mono ?_;rintro e w' ⟨rfl,rfl⟩)
  go_ret
  exact⟨rfl,rfl⟩
 ·by_cases h2:b<a
  ·have HE:=Ag (show BA a b=1 from by unfold BA;rw[if_neg h1,if_pos h2])
   rw[HE.out]
   go_enter Tryz.func71,Tryz.ntmps71
   go_wp2_with (go_at_call 86;refine(EL _ _).mono ?_;rintro e w' ⟨rfl,rfl⟩)
   go_ret
   exact⟨rfl,rfl⟩
  ·have HE:=Ag (show BA a b=0 from by unfold BA;rw[if_neg h1,if_neg h2])
   rw[HE.out]
   go_enter Tryz.func71,Tryz.ntmps71
   go_wp2_with (go_at_call 86;refine(EL _ _).mono ?_;rintro e w' ⟨rfl,rfl⟩)
   go_ret
   exact⟨rfl,rfl⟩
theorem Gn (args:Array Value) (w:World):Sem.run Tryz.prog (callFunc 54 args) w=.ok (.enter 54 args) w:=
 AP Tryz.func54 (by kernel_rfl) (by kernel_rfl) args w
theorem Gp (args:Array Value) (w:World):Sem.run Tryz.prog (callFunc 70 args) w=.ok (.enter 70 args) w:=
 AP Tryz.func70 (by kernel_rfl) (by kernel_rfl) args w
def bsI (c:Nat→Int) (lo hi:Nat):Nat:=if h:lo<hi then (if c ((lo+hi) / 2)<0 then bsI c ((lo+hi) / 2+1) hi else bsI c lo ((lo+hi) / 2)) else lo
termination_by hi - lo
decreasing_by all_goals omega
theorem Ej {c:Nat→Int} {lo hi:Nat} (h:¬ lo<hi):bsI c lo hi=lo:=by rw[bsI,dif_neg h]
theorem Hl {c:Nat→Int} {lo hi:Nat} (h:lo<hi) (hc:c ((lo+hi) / 2)<0):bsI c lo hi=bsI c ((lo+hi) / 2+1) hi:=by rw[bsI,dif_pos h,if_pos hc]
theorem EQ {c:Nat→Int} {lo hi:Nat} (h:lo<hi) (hc:¬ c ((lo+hi) / 2)<0):bsI c lo hi=bsI c lo ((lo+hi) / 2):=by rw[bsI,dif_pos h,if_neg hc]
def Dh {α:Type} (c:α→Int) (l:List α) (j:Nat):Int:=(l[j]?.map c).getD 0
theorem CM {α:Type} (c:α→Int) (l:List α) (j:Nat) (h:j<l.length):Dh c l j=c l[j]:=by unfold Dh;rw[List.getElem?_eq_getElem h];rfl
def AU {α:Type} (c:α→Int) (l:List α):Nat × Bool:=(bsI (Dh c l) 0 l.length,decide (bsI (Dh c l) 0 l.length<l.length) && (Dh c l (bsI (Dh c l) 0 l.length)==0))
theorem KJ (x:FileM) (s:ByteArray) (cs:List Value) (F:Nat→Prop) (w:World) (hx:FlC F w cs x):
  Calls Tryz.prog 54 #[.agg cs.toArray,.string s] w (fun e w'=> e=.returned (.int .i64 (BS x.nm s))∧Below w.heap.size w w'):=by
 have HC:=Ag (show cs[0]?=some (.string x.nm) from by obtain⟨_,_,_,_,rfl,-,-⟩:=hx;rfl)
 generalize x.nm=k at HC ⊢
 clear hx
 have H0:=Ag (Below.refl w.heap.size w)
 go_enter Tryz.func54,Tryz.ntmps54
 go_wp2_with (first
  | ((with_reducible refine Au w rfl 45 (.tmp 0) rfl (cs) rfl ?_);intro a1 hb hbel hsz;have H1:=hJ2 (An H0.out hbel (Ah _)) hb;have c0:=hb.cell 0;rw[HC.out] at c0;clear hb hbel hsz))
 refine(KH _ _ _).mono ?_
 rintro e w' ⟨rfl,rfl⟩
 go_wp2_with fail
 go_ret
 exact⟨rfl,H1.out.1⟩
theorem KK (x:CirM) (s:Int) (cs:List Value) (F:Nat→Prop) (w:World) (hx:CiC F w cs x):
  Calls Tryz.prog 70 #[.agg cs.toArray,.int .i64 s] w (fun e w'=> e=.returned (.int .i64 (BA x.n s))∧Below w.heap.size w w'):=by
 have HC:=Ag (show cs[0]?=some (.int .i64 x.n) from by obtain⟨_,rfl,-⟩:=hx;rfl)
 generalize x.n=k at HC ⊢
 clear hx
 have H0:=Ag (Below.refl w.heap.size w)
 go_enter Tryz.func70,Tryz.ntmps70
 go_wp2_with (first
  | ((with_reducible refine Au w rfl 49 (.tmp 0) rfl (cs) rfl ?_);intro a1 hb hbel hsz;have H1:=hJ2 (An H0.out hbel (Ah _)) hb;have c0:=hb.cell 0;rw[HC.out] at c0;clear hb hbel hsz))
 refine(KI _ _ _).mono ?_
 rintro e w' ⟨rfl,rfl⟩
 go_wp2_with fail
 go_ret
 exact⟨rfl,H1.out.1⟩
theorem J9 (c:FileM→Int) (key:Value) (gf:Nat) (v:Value) (l:List FileM) (F:Nat→Prop) (w:World) (hv:RwF F w v l) (hl:l.length≤1000000000)
  (hcf:∀ args w1,Sem.run Tryz.prog (callFunc gf args) w1=.ok (.enter gf args) w1) (hst:∀ x∈l,∀ cs w',FlC F w' cs x→Calls Tryz.prog gf #[.agg cs.toArray,key] w' (fun e w''=> e=.returned (.int .i64 (c x))∧Below w'.heap.size w' w'')):
  Calls Tryz.prog 53 #[v,key,.func (.func gf) #[] #[]] w (fun e w'=> e=.returned (.tuple #[.int .i64 ((AU c l).1:Nat),.bool (AU c l).2])∧Below w.heap.size w w'):=by
 obtain⟨ao,cc,rfl,a2,a3⟩:=hv.shape
 obtain⟨n,hL⟩:∃ n,l.length=n:=⟨_,rfl⟩
 have HL:=Ag hL
 obtain⟨I,hI⟩:∃ I,bsI (Dh c l) 0 l.length=I:=⟨_,rfl⟩
 obtain⟨B,hB⟩:∃ B,(AU c l).2=B:=⟨_,rfl⟩
 have HB:=Ag (show B=(decide (I<n) && (Dh c l I==0)) from by rw[←hB,←hL,←hI];rfl)
 have h1:(AU c l).1=I:=hI
 rw[h1,hB]
 have H:=Ag (Ai (show RwC (FlC F) 14 F w (.slice ao l.length cc) l from hv) (Ai hst hI))
 rw[hL] at H a2 hl ⊢
 have hcf':=hcf
 clear hv a3 hL hst hI hB h1
 go_enter Tryz.func53,Tryz.ntmps53
 go_wp2_with fail
 go_loopw [9,10,11] (fun s9 s10 s11 wr=> ∃ lo hi:Nat,s9=.int .i64 lo∧s10=.int .i64 hi∧lo≤hi∧hi≤n∧Hid (bsI (Dh c l) lo hi=I)∧Hid (Below w.heap.size w wr)) (fun s9 s10 _ _=> ((intOf s10) - (intOf s9)).toNat)
 case atStart=> exact⟨0,n,rfl,rfl,Nat.zero_le _,Ah _,Ag H.out.2.2,Ag (Below.refl _ _)⟩
 case round=>
  obtain⟨lo,hi,rfl,rfl,hlh,hin,HT,HW⟩:=hrel
  by_cases hlt:lo<hi
  ·have hm:(lo+hi) / 2<n:=by omega
   obtain⟨b,o,cs,rfl,-,-,hlen,hra,hta⟩:=RwC.get H.out.1 (show(lo+hi) / 2<l.length from by rw[HL.out];omega)
   have HK:=Ag (CM c l ((lo+hi) / 2) (by rw[HL.out];omega))
   have HMEM:=Ag (List.getElem_mem (show(lo+hi) / 2<l.length from by rw[HL.out];omega))
   generalize l[(lo+hi) / 2]'(by rw[HL.out];omega)=y at hta HK HMEM
   have HC:=Ag (H.out.2.1 y HMEM.out cs wr (hta.below HW.out))
   have HRA:=Ag (Ai (AF hra HW.out) hlen)
   generalize hcy:c y=q at HK HC
   clear hra hta hlen hcy
   by_cases hyx:q<0
   ·have HT2:=Ag (show bsI (Dh c l) ((lo+hi) / 2+1) hi=I from by rw[←HT.out,Hl hlt (by rw[HK.out];exact hyx)])
    go_wp2_with (first
  | (with_reducible refine Ap rfl 45 (.tmp 27) rfl b (o+(lo+hi) / 2* 14) rfl cs _ (HRA.out.1) Tryz.underlying45 rfl (At Tryz.infoFl HRA.out.2) ?_))
    refine HC.out.mono ?_
    rintro e w' ⟨rfl,hb⟩
    have HW2:=Ag (An HW.out hb (Ah _))
    clear hb
    go_wp2_with fail
    go_roundw
    case measure=> simp[intOf];omega
    case rel=> exact⟨(lo+hi) / 2+1,hi,by rw[show((lo:Int)+(hi:Int)) / 2+1=(((lo+hi) / 2+1:Nat):Int) by omega],rfl,by omega,hin,HT2,HW2⟩
   ·have HT2:=Ag (show bsI (Dh c l) lo ((lo+hi) / 2)=I from by rw[←HT.out,EQ hlt (by rw[HK.out];exact hyx)])
    go_wp2_with (first
  | (with_reducible refine Ap rfl 45 (.tmp 27) rfl b (o+(lo+hi) / 2* 14) rfl cs _ (HRA.out.1) Tryz.underlying45 rfl (At Tryz.infoFl HRA.out.2) ?_))
    refine HC.out.mono ?_
    rintro e w' ⟨rfl,hb⟩
    have HW2:=Ag (An HW.out hb (Ah _))
    clear hb
    go_wp2_with fail
    go_roundw
    case measure=> simp[intOf];omega
    case rel=> exact⟨lo,(lo+hi) / 2,rfl,by rw[show((lo:Int)+(hi:Int)) / 2=(((lo+hi) / 2:Nat):Int) by omega],by omega,by omega,HT2,HW2⟩
  ·obtain rfl:hi=lo:=by omega
   have E:=Ag (show I=hi from by rw[←HT.out,Ej (Nat.lt_irrefl _)])
   have HB2:=Ag (show B=(decide (hi<n) && (Dh c l hi==0)) from by rw[HB.out,E.out])
   by_cases hn:hi<n
   ·have HB3:=Ag (show B=(Dh c l hi==0) from by rw[HB2.out,decide_eq_true hn,Bool.true_and])
    obtain⟨b,o,cs,rfl,-,-,hlen,hra,hta⟩:=RwC.get H.out.1 (show hi<l.length from by rw[HL.out];omega)
    have HK:=Ag (CM c l (hi) (by rw[HL.out];omega))
    have HMEM:=Ag (List.getElem_mem (show hi<l.length from by rw[HL.out];omega))
    generalize l[hi]'(by rw[HL.out];omega)=y at hta HK HMEM
    have HC:=Ag (H.out.2.1 y HMEM.out cs wr (hta.below HW.out))
    have HRA:=Ag (Ai (AF hra HW.out) hlen)
    generalize hcy:c y=q at HK HC
    clear hra hta hlen hcy
    have HB4:=Ag (show B=(q==0) from by rw[HB3.out,HK.out])
    go_wp2_with (first
  | (with_reducible refine Ap rfl 45 (.tmp 43) rfl b (o+hi* 14) rfl cs _ (HRA.out.1) Tryz.underlying45 rfl (At Tryz.infoFl HRA.out.2) ?_))
    refine HC.out.mono ?_
    rintro e w' ⟨rfl,hb⟩
    have HW2:=Ag (An HW.out hb (Ah _))
    clear hb
    go_wp2_with fail
    go_ret2
    exact⟨by rw[HB4.out,E.out];rfl,HW2.out⟩
   ·have HB3:=Ag (show B=false from by rw[HB2.out,decide_eq_false hn,Bool.false_and])
    go_wp2_with fail
    go_ret2
    exact⟨by rw[HB3.out,E.out];rfl,HW.out⟩
theorem Ka (c:CirM→Int) (key:Value) (gf:Nat) (v:Value) (l:List CirM) (F:Nat→Prop) (w:World) (hv:RwI F w v l) (hl:l.length≤1000000000)
  (hcf:∀ args w1,Sem.run Tryz.prog (callFunc gf args) w1=.ok (.enter gf args) w1) (hst:∀ x∈l,∀ cs w',CiC F w' cs x→Calls Tryz.prog gf #[.agg cs.toArray,key] w' (fun e w''=> e=.returned (.int .i64 (c x))∧Below w'.heap.size w' w'')):
  Calls Tryz.prog 69 #[v,key,.func (.func gf) #[] #[]] w (fun e w'=> e=.returned (.tuple #[.int .i64 ((AU c l).1:Nat),.bool (AU c l).2])∧Below w.heap.size w w'):=by
 obtain⟨ao,cc,rfl,a2,a3⟩:=hv.shape
 obtain⟨n,hL⟩:∃ n,l.length=n:=⟨_,rfl⟩
 have HL:=Ag hL
 obtain⟨I,hI⟩:∃ I,bsI (Dh c l) 0 l.length=I:=⟨_,rfl⟩
 obtain⟨B,hB⟩:∃ B,(AU c l).2=B:=⟨_,rfl⟩
 have HB:=Ag (show B=(decide (I<n) && (Dh c l I==0)) from by rw[←hB,←hL,←hI];rfl)
 have h1:(AU c l).1=I:=hI
 rw[h1,hB]
 have H:=Ag (Ai (show RwC (CiC F) 3 F w (.slice ao l.length cc) l from hv) (Ai hst hI))
 rw[hL] at H a2 hl ⊢
 have hcf':=hcf
 clear hv a3 hL hst hI hB h1
 go_enter Tryz.func69,Tryz.ntmps69
 go_wp2_with fail
 go_loopw [9,10,11] (fun s9 s10 s11 wr=> ∃ lo hi:Nat,s9=.int .i64 lo∧s10=.int .i64 hi∧lo≤hi∧hi≤n∧Hid (bsI (Dh c l) lo hi=I)∧Hid (Below w.heap.size w wr)) (fun s9 s10 _ _=> ((intOf s10) - (intOf s9)).toNat)
 case atStart=> exact⟨0,n,rfl,rfl,Nat.zero_le _,Ah _,Ag H.out.2.2,Ag (Below.refl _ _)⟩
 case round=>
  obtain⟨lo,hi,rfl,rfl,hlh,hin,HT,HW⟩:=hrel
  by_cases hlt:lo<hi
  ·have hm:(lo+hi) / 2<n:=by omega
   obtain⟨b,o,cs,rfl,-,-,hlen,hra,hta⟩:=RwC.get H.out.1 (show(lo+hi) / 2<l.length from by rw[HL.out];omega)
   have HK:=Ag (CM c l ((lo+hi) / 2) (by rw[HL.out];omega))
   have HMEM:=Ag (List.getElem_mem (show(lo+hi) / 2<l.length from by rw[HL.out];omega))
   generalize l[(lo+hi) / 2]'(by rw[HL.out];omega)=y at hta HK HMEM
   have HC:=Ag (H.out.2.1 y HMEM.out cs wr (hta.below HW.out))
   have HRA:=Ag (Ai (AF hra HW.out) hlen)
   generalize hcy:c y=q at HK HC
   clear hra hta hlen hcy
   by_cases hyx:q<0
   ·have HT2:=Ag (show bsI (Dh c l) ((lo+hi) / 2+1) hi=I from by rw[←HT.out,Hl hlt (by rw[HK.out];exact hyx)])
    go_wp2_with (first
  | (with_reducible refine Ap rfl 49 (.tmp 27) rfl b (o+(lo+hi) / 2* 3) rfl cs _ (HRA.out.1) Tryz.underlying49 rfl (At Tryz.infoCi HRA.out.2) ?_))
    refine HC.out.mono ?_
    rintro e w' ⟨rfl,hb⟩
    have HW2:=Ag (An HW.out hb (Ah _))
    clear hb
    go_wp2_with fail
    go_roundw
    case measure=> simp[intOf];omega
    case rel=> exact⟨(lo+hi) / 2+1,hi,by rw[show((lo:Int)+(hi:Int)) / 2+1=(((lo+hi) / 2+1:Nat):Int) by omega],rfl,by omega,hin,HT2,HW2⟩
   ·have HT2:=Ag (show bsI (Dh c l) lo ((lo+hi) / 2)=I from by rw[←HT.out,EQ hlt (by rw[HK.out];exact hyx)])
    go_wp2_with (first
  | (with_reducible refine Ap rfl 49 (.tmp 27) rfl b (o+(lo+hi) / 2* 3) rfl cs _ (HRA.out.1) Tryz.underlying49 rfl (At Tryz.infoCi HRA.out.2) ?_))
    refine HC.out.mono ?_
    rintro e w' ⟨rfl,hb⟩
    have HW2:=Ag (An HW.out hb (Ah _))
    clear hb
    go_wp2_with fail
    go_roundw
    case measure=> simp[intOf];omega
    case rel=> exact⟨lo,(lo+hi) / 2,rfl,by rw[show((lo:Int)+(hi:Int)) / 2=(((lo+hi) / 2:Nat):Int) by omega],by omega,by omega,HT2,HW2⟩
  ·obtain rfl:hi=lo:=by omega
   have E:=Ag (show I=hi from by rw[←HT.out,Ej (Nat.lt_irrefl _)])
   have HB2:=Ag (show B=(decide (hi<n) && (Dh c l hi==0)) from by rw[HB.out,E.out])
   by_cases hn:hi<n
   ·have HB3:=Ag (show B=(Dh c l hi==0) from by rw[HB2.out,decide_eq_true hn,Bool.true_and])
    obtain⟨b,o,cs,rfl,-,-,hlen,hra,hta⟩:=RwC.get H.out.1 (show hi<l.length from by rw[HL.out];omega)
    have HK:=Ag (CM c l (hi) (by rw[HL.out];omega))
    have HMEM:=Ag (List.getElem_mem (show hi<l.length from by rw[HL.out];omega))
    generalize l[hi]'(by rw[HL.out];omega)=y at hta HK HMEM
    have HC:=Ag (H.out.2.1 y HMEM.out cs wr (hta.below HW.out))
    have HRA:=Ag (Ai (AF hra HW.out) hlen)
    generalize hcy:c y=q at HK HC
    clear hra hta hlen hcy
    have HB4:=Ag (show B=(q==0) from by rw[HB3.out,HK.out])
    go_wp2_with (first
  | (with_reducible refine Ap rfl 49 (.tmp 43) rfl b (o+hi* 3) rfl cs _ (HRA.out.1) Tryz.underlying49 rfl (At Tryz.infoCi HRA.out.2) ?_))
    refine HC.out.mono ?_
    rintro e w' ⟨rfl,hb⟩
    have HW2:=Ag (An HW.out hb (Ah _))
    clear hb
    go_wp2_with fail
    go_ret2
    exact⟨by rw[HB4.out,E.out];rfl,HW2.out⟩
   ·have HB3:=Ag (show B=false from by rw[HB2.out,decide_eq_false hn,Bool.false_and])
    go_wp2_with fail
    go_ret2
    exact⟨by rw[HB3.out,E.out];rfl,HW.out⟩
theorem ER (s:IdM) (k:ByteArray) (cs:List Value) (F:Nat→Prop) (w:World) (hs:IdC F w cs s) (hl:s.fs.length≤1000000000):
  Calls Tryz.prog 25 #[.agg cs.toArray,.string k] w (fun e w'=> e=.returned (.tuple #[.int .i64 ((AU (fun x=> BS x.nm k) s.fs).1:Nat),.bool (AU (fun x=> BS x.nm k) s.fs).2])∧Below w.heap.size w w'):=by
 obtain⟨vf,vc,vw,rfl,hf,hc,hw⟩:=hs
 have HS:=Ag (Ai (show RwF F w vf s.fs from hf) hl)
 have HH:=Ag (fun x (_:x∈s.fs) cs w' (h:FlC F w' cs x)=> KJ x k cs F w' h)
 generalize s.fs=l at HS HH ⊢
 clear hf hc hw hl
 have H0:=Ag (Below.refl w.heap.size w)
 have HB:=Ag (fun w' (h:Below w.heap.size w w')=> J9 (fun x=> BS x.nm k) (.string k) 54 vf l F w' (HS.out.1.below h) HS.out.2 Gn HH.out)
 generalize hr:AU (fun x:FileM=> BS x.nm k) l=r at HB ⊢
 obtain⟨i,b⟩:=r
 clear hr
 simp only at HB ⊢
 go_enter Tryz.func25,Tryz.ntmps25
 go_wp2_with (first
  | ((with_reducible refine Au w rfl 26 (.tmp 0) rfl ([vf,vc,vw]) rfl ?_);intro a1 hb hbel hsz;have H1:=hJ2 (An H0.out hbel (Ah _)) hb;have c0:=hb.cell 0;simp only[Ab,Ac] at c0;clear hb hbel hsz))
 refine(HB.out a1 H1.out.1).mono ?_
 rintro e w' ⟨rfl,hb⟩
 have HW:=Ag (An H1.out.1 hb (Ah _))
 clear hb
 go_wp2_with fail
 go_ret2
 exact⟨rfl,HW.out⟩
theorem DU (s:IdM) (k:Int) (cs:List Value) (F:Nat→Prop) (w:World) (hs:IdC F w cs s) (hl:s.cs.length≤1000000000):
  Calls Tryz.prog 39 #[.agg cs.toArray,.int .i64 k] w (fun e w'=> e=.returned (.tuple #[.int .i64 ((AU (fun x=> BA x.n k) s.cs).1:Nat),.bool (AU (fun x=> BA x.n k) s.cs).2])∧Below w.heap.size w w'):=by
 obtain⟨vf,vc,vw,rfl,hf,hc,hw⟩:=hs
 have HS:=Ag (Ai (show RwI F w vc s.cs from hc) hl)
 have HH:=Ag (fun x (_:x∈s.cs) cs w' (h:CiC F w' cs x)=> KK x k cs F w' h)
 generalize s.cs=l at HS HH ⊢
 clear hf hc hw hl
 have H0:=Ag (Below.refl w.heap.size w)
 have HB:=Ag (fun w' (h:Below w.heap.size w w')=> Ka (fun x=> BA x.n k) (.int .i64 k) 70 vc l F w' (HS.out.1.below h) HS.out.2 Gp HH.out)
 generalize hr:AU (fun x:CirM=> BA x.n k) l=r at HB ⊢
 obtain⟨i,b⟩:=r
 clear hr
 simp only at HB ⊢
 go_enter Tryz.func39,Tryz.ntmps39
 go_wp2_with (first
  | ((with_reducible refine Au w rfl 26 (.tmp 0) rfl ([vf,vc,vw]) rfl ?_);intro a1 hb hbel hsz;have H1:=hJ2 (An H0.out hbel (Ah _)) hb;have c0:=hb.cell 1;simp only[Ab,Ac] at c0;clear hb hbel hsz))
 refine(HB.out a1 H1.out.1).mono ?_
 rintro e w' ⟨rfl,hb⟩
 have HW:=Ag (An H1.out.1 hb (Ah _))
 clear hb
 go_wp2_with fail
 go_ret2
 exact⟨rfl,HW.out⟩
def BF {α:Type} (ge:α→α→Bool):List α→Bool
 | []=> true
 | [_]=> true
 | a::b::t=> !ge a b && BF ge (b::t)
theorem Fe {α:Type} (ge:α→α→Bool) (l:List α) (h:l.length≤1):BF ge l=true:=by
 match l,h with
 | [],_=> rfl
 | [_],_=> rfl
theorem Gq {α:Type} (ge:α→α→Bool) (l:List α) (m:Nat) (h:m+1<l.length):BF ge (l.drop m)=(!ge l[m] l[m+1] && BF ge (l.drop (m+1))):=by
 rw[List.drop_eq_getElem_cons (show m<l.length by omega),List.drop_eq_getElem_cons h]
 rfl
def geS (a b:ByteArray):Bool:=!Op.bytesLess a.toList b.toList
def geN (a b:Int):Bool:=decide (b≤a)
theorem Gr (args:Array Value) (w:World):Sem.run Tryz.prog (callFunc 32 args) w=.ok (.enter 32 args) w:=
 AP Tryz.func32 (by kernel_rfl) (by kernel_rfl) args w
theorem Gs (args:Array Value) (w:World):Sem.run Tryz.prog (callFunc 34 args) w=.ok (.enter 34 args) w:=
 AP Tryz.func34 (by kernel_rfl) (by kernel_rfl) args w
theorem Gt (args:Array Value) (w:World):Sem.run Tryz.prog (callFunc 63 args) w=.ok (.enter 63 args) w:=
 AP Tryz.func63 (by kernel_rfl) (by kernel_rfl) args w
theorem Gu (args:Array Value) (w:World):Sem.run Tryz.prog (callFunc 66 args) w=.ok (.enter 66 args) w:=
 AP Tryz.func66 (by kernel_rfl) (by kernel_rfl) args w
theorem Kb (x:FileM) (cs:List Value) (F:Nat→Prop) (w:World) (hx:FlC F w cs x):
  Calls Tryz.prog 32 #[.agg cs.toArray] w (fun e w'=> e=.returned (.string x.nm)∧Below w.heap.size w w'):=by
 have HC:=Ag (show cs[0]?=some (.string x.nm) from by obtain⟨_,_,_,_,rfl,-,-⟩:=hx;rfl)
 generalize x.nm=k at HC ⊢
 clear hx
 have H0:=Ag (Below.refl w.heap.size w)
 go_enter Tryz.func32,Tryz.ntmps32
 go_wp2_with (first
  | ((with_reducible refine Au w rfl 45 (.tmp 0) rfl (cs) rfl ?_);intro a1 hb hbel hsz;have H1:=hJ2 (An H0.out hbel (Ah _)) hb;have c0:=hb.cell 0;rw[HC.out] at c0;clear hb hbel hsz))
 go_ret
 exact⟨rfl,H1.out.1⟩
theorem KL (x:CirM) (cs:List Value) (F:Nat→Prop) (w:World) (hx:CiC F w cs x):
  Calls Tryz.prog 34 #[.agg cs.toArray] w (fun e w'=> e=.returned (.int .i64 x.n)∧Below w.heap.size w w'):=by
 have HC:=Ag (show cs[0]?=some (.int .i64 x.n) from by obtain⟨_,rfl,-⟩:=hx;rfl)
 generalize x.n=k at HC ⊢
 clear hx
 have H0:=Ag (Below.refl w.heap.size w)
 go_enter Tryz.func34,Tryz.ntmps34
 go_wp2_with (first
  | ((with_reducible refine Au w rfl 49 (.tmp 0) rfl (cs) rfl ?_);intro a1 hb hbel hsz;have H1:=hJ2 (An H0.out hbel (Ah _)) hb;have c0:=hb.cell 0;rw[HC.out] at c0;clear hb hbel hsz))
 go_ret
 exact⟨rfl,H1.out.1⟩
theorem JA (n:Int) (w:World):Calls Tryz.prog 63 #[.int .i64 n] w (fun e w'=> e=.returned (.int .i64 n)∧w=w'):=by
 go_enter Tryz.func63,Tryz.ntmps63
 go_wp2_with fail
 go_ret
 exact⟨rfl,rfl⟩
theorem Kc (n:Int) (w:World):Calls Tryz.prog 66 #[.int .i64 n] w (fun e w'=> e=.returned (.bool (!AX n))∧w=w'):=by
 have H:=Ag (CJ n)
 go_enter Tryz.func66,Tryz.ntmps66
 go_wp2_with fail
 refine(H.out w).mono ?_
 rintro e w' ⟨rfl,rfl⟩
 go_wp2_with fail
 go_ret
 exact⟨rfl,rfl⟩
theorem Jc (v:Value) (l:List FileM) (F:Nat→Prop) (w:World) (hv:RwF F w v l):
  Calls Tryz.prog 31 #[v,.func (.func 32) #[] #[]] w (fun e w'=> e=.returned (.bool (BF (fun x y:FileM=> geS (x.nm) (y.nm)) l))∧Below w.heap.size w w'):=by
 obtain⟨ao,cc,rfl,a2,a3⟩:=hv.shape
 obtain⟨n,hL⟩:∃ n,l.length=n:=⟨_,rfl⟩
 have HL:=Ag hL
 obtain⟨R,hR⟩:∃ R,BF (fun x y:FileM=> geS (x.nm) (y.nm)) l=R:=⟨_,rfl⟩
 have HA:=Ag (Gq (fun x y:FileM=> geS (x.nm) (y.nm)) l)
 have HE:=Ag (Fe (fun x y:FileM=> geS (x.nm) (y.nm)))
 have H:=Ag (Ai (show RwC (FlC F) 14 F w (.slice ao l.length cc) l from hv) (Ai (fun (x:FileM) cs w' (h:FlC F w' cs x)=> Kb x cs F w' h) hR))
 rw[hR]
 rw[hL] at H a2 ⊢
 have hcf':=Gr
 have hn63:n≤9223372036854775807:=by unfold maxLen at a3;omega
 clear hv a3 hL hR
 generalize BF (fun x y:FileM=> geS (x.nm) (y.nm))=RA at HA HE H
 go_enter Tryz.func31,Tryz.ntmps31
 go_wp2_with fail
 go_loopw [5,8] (fun s5 s8 wr=> ∃ k:Nat,k≤n∧s8=.int .i64 k∧Hid (RA (l.drop (k - 1))=R)∧Hid (Below w.heap.size w wr)) (fun _ s8 _=> n - (intOf s8).toNat)
 case atStart=> exact⟨0,Nat.zero_le _,rfl,Ag H.out.2.2,Ag (Below.refl _ _)⟩
 case round=>
  obtain⟨k,hk,rfl,HT,HW⟩:=hrel
  by_cases hlt:k<n
  ·rcases k with _|m
   ·have hn0:(0:Int)<(n:Int):=by omega
    have hz:decide ((0:Int)<((0:Nat):Int))=false:=by decide
    go_wp2_with fail
    go_quiet (fail)
    go_wp2_with fail
    go_roundw
    case measure=> simp[intOf];omega
    case rel=> exact⟨1,by omega,by go_num,HT,Ag (An HW.out (((Sm.refl _).drewN _).below _) (Ah _))⟩
   ·have hz:decide ((0:Int)<((m+1:Nat):Int))=true:=by simp
    have hp:((m+1:Nat):Int) - 1=(m:Int):=by omega
    have hm0:(0:Int)≤(m:Int):=by omega
    have hmn:(m:Int)<(n:Int):=by omega
    have hm1n:((m+1:Nat):Int)<(n:Int):=by omega
    have hml:m<l.length:=by rw[HL.out];omega
    have hml1:m+1<l.length:=by rw[HL.out];omega
    obtain⟨b,o,cs,e1,-,-,hlen,hra,hta⟩:=RwC.get H.out.1 hml
    obtain⟨b',o',cs',e2,-,-,hlen',hra',hta'⟩:=RwC.get H.out.1 hml1
    subst e1
    simp only[Option.some.injEq,Addr.mk.injEq,and_true] at e2
    obtain⟨rfl,rfl⟩:=e2
    have HT2:=Ag (show(!(geS (l[m].nm) (l[m+1].nm)) && RA (l.drop (m+1)))=R from by rw[←HT.out,show m+1 - 1=m from rfl,HA.out m hml1])
    generalize l[m]=x at hta HT2
    generalize l[m+1]=y at hta' HT2
    clear hml hml1
    have C1:=Ag (fun p=> H.out.2.1 x cs (Bh wr p) ((hta.below HW.out).below (AO wr p)))
    have C2:=Ag (fun p=> H.out.2.1 y cs' (Bh wr p) ((hta'.below HW.out).below (AO wr p)))
    have HRA:=Ag (Ai (AF hra HW.out) (AF hra' HW.out))
    have HLE:=Ag (Ai hlen hlen')
    generalize x.nm=kx at C1 HT2
    generalize y.nm=ky at C2 HT2
    obtain⟨g,hg⟩:∃ g,geS kx ky=g:=⟨_,rfl⟩
    rw[hg] at HT2
    have hgg:(!Op.bytesLess kx.toList ky.toList)=g:=hg
    clear hta hta' hra hra' hlen hlen' hg
    go_wp2_with fail
    refine A4 (by kernel_rfl) (by kernel_rfl) ?_
    repeat (first|go_big_quiet_skip|(go_big_quiet_want;(first|(refine A1 45 (.tmp 18) rfl b (o+m* 14) rfl cs _ (fun w' hw'=> A7 HRA.out.1 w' hw') Tryz.underlying45 rfl (At Tryz.infoFl HLE.out.1) ?_;go_simp;go_big_quiet_on)|(refine A1 45 (.tmp 24) rfl b (o+(m+1)* 14) rfl cs' _ (fun w' hw'=> A7 HRA.out.2 w' hw') Tryz.underlying45 rfl (At Tryz.infoFl HLE.out.2) ?_;go_simp;go_big_quiet_on)|(go_big_quiet_op;(first|go_big_quiet_on|(apply Exists.intro;refine⟨fun _=> ?_,?_⟩;(focus (first|(go_at_call_of 32 (Value.agg cs.toArray);with_reducible exact AV (C1.out _))|(go_at_call_of 32 (Value.agg cs'.toArray);with_reducible exact AV (C2.out _))));go_big_quiet_on))))))
    refine wpQuiet_nil ?_
    intro w9 hw9
    obtain⟨x9,rfl⟩:=hw9
    clear C1 C2
    have HW2:=Ag (An HW.out (AO wr x9) (Ah _))
    generalize Bh wr x9=wz at HW2 ⊢
    cases g
    ·have HT3:=Ag (show RA (l.drop (m+1+1 - 1))=R from by have h:=HT2.out;rw[Bool.not_false,Bool.true_and] at h;exact h)
     go_wp2_with fail
     go_roundw
     case measure=> simp[intOf];omega
     case rel=> exact⟨m+1+1,by omega,by go_num,HT3,HW2⟩
    ·have HF:=Ag (show R=false from by rw[←HT2.out,Bool.not_true,Bool.false_and])
     go_wp2_with fail
     go_ret
     exact⟨by rw[HF.out];rfl,HW2.out⟩
  ·have hge:¬ (k:Int)<(n:Int):=by omega
   have HF:=Ag (show R=true from by rw[←HT.out];exact HE.out _ (by rw[List.length_drop,HL.out];omega))
   go_wp2_with fail
   go_ret
   exact⟨by rw[HF.out];rfl,HW.out⟩
theorem Jd (v:Value) (l:List CirM) (F:Nat→Prop) (w:World) (hv:RwI F w v l):
  Calls Tryz.prog 33 #[v,.func (.func 34) #[] #[]] w (fun e w'=> e=.returned (.bool (BF (fun x y:CirM=> geN (x.n) (y.n)) l))∧Below w.heap.size w w'):=by
 obtain⟨ao,cc,rfl,a2,a3⟩:=hv.shape
 obtain⟨n,hL⟩:∃ n,l.length=n:=⟨_,rfl⟩
 have HL:=Ag hL
 obtain⟨R,hR⟩:∃ R,BF (fun x y:CirM=> geN (x.n) (y.n)) l=R:=⟨_,rfl⟩
 have HA:=Ag (Gq (fun x y:CirM=> geN (x.n) (y.n)) l)
 have HE:=Ag (Fe (fun x y:CirM=> geN (x.n) (y.n)))
 have H:=Ag (Ai (show RwC (CiC F) 3 F w (.slice ao l.length cc) l from hv) (Ai (fun (x:CirM) cs w' (h:CiC F w' cs x)=> KL x cs F w' h) hR))
 rw[hR]
 rw[hL] at H a2 ⊢
 have hcf':=Gs
 have hn63:n≤9223372036854775807:=by unfold maxLen at a3;omega
 clear hv a3 hL hR
 generalize BF (fun x y:CirM=> geN (x.n) (y.n))=RA at HA HE H
 go_enter Tryz.func33,Tryz.ntmps33
 go_wp2_with fail
 go_loopw [5,8] (fun s5 s8 wr=> ∃ k:Nat,k≤n∧s8=.int .i64 k∧Hid (RA (l.drop (k - 1))=R)∧Hid (Below w.heap.size w wr)) (fun _ s8 _=> n - (intOf s8).toNat)
 case atStart=> exact⟨0,Nat.zero_le _,rfl,Ag H.out.2.2,Ag (Below.refl _ _)⟩
 case round=>
  obtain⟨k,hk,rfl,HT,HW⟩:=hrel
  by_cases hlt:k<n
  ·rcases k with _|m
   ·have hn0:(0:Int)<(n:Int):=by omega
    have hz:decide ((0:Int)<((0:Nat):Int))=false:=by decide
    go_wp2_with fail
    go_quiet (fail)
    go_wp2_with fail
    go_roundw
    case measure=> simp[intOf];omega
    case rel=> exact⟨1,by omega,by go_num,HT,Ag (An HW.out (((Sm.refl _).drewN _).below _) (Ah _))⟩
   ·have hz:decide ((0:Int)<((m+1:Nat):Int))=true:=by simp
    have hp:((m+1:Nat):Int) - 1=(m:Int):=by omega
    have hm0:(0:Int)≤(m:Int):=by omega
    have hmn:(m:Int)<(n:Int):=by omega
    have hm1n:((m+1:Nat):Int)<(n:Int):=by omega
    have hml:m<l.length:=by rw[HL.out];omega
    have hml1:m+1<l.length:=by rw[HL.out];omega
    obtain⟨b,o,cs,e1,-,-,hlen,hra,hta⟩:=RwC.get H.out.1 hml
    obtain⟨b',o',cs',e2,-,-,hlen',hra',hta'⟩:=RwC.get H.out.1 hml1
    subst e1
    simp only[Option.some.injEq,Addr.mk.injEq,and_true] at e2
    obtain⟨rfl,rfl⟩:=e2
    have HT2:=Ag (show(!(geN (l[m].n) (l[m+1].n)) && RA (l.drop (m+1)))=R from by rw[←HT.out,show m+1 - 1=m from rfl,HA.out m hml1])
    generalize l[m]=x at hta HT2
    generalize l[m+1]=y at hta' HT2
    clear hml hml1
    have C1:=Ag (fun p=> H.out.2.1 x cs (Bh wr p) ((hta.below HW.out).below (AO wr p)))
    have C2:=Ag (fun p=> H.out.2.1 y cs' (Bh wr p) ((hta'.below HW.out).below (AO wr p)))
    have HRA:=Ag (Ai (AF hra HW.out) (AF hra' HW.out))
    have HLE:=Ag (Ai hlen hlen')
    generalize x.n=kx at C1 HT2
    generalize y.n=ky at C2 HT2
    obtain⟨g,hg⟩:∃ g,geN kx ky=g:=⟨_,rfl⟩
    rw[hg] at HT2
    have hgg:decide (ky≤kx)=g:=hg
    clear hta hta' hra hra' hlen hlen' hg
    go_wp2_with fail
    refine A4 (by kernel_rfl) (by kernel_rfl) ?_
    repeat (first|go_big_quiet_skip|(go_big_quiet_want;(first|(refine A1 49 (.tmp 18) rfl b (o+m* 3) rfl cs _ (fun w' hw'=> A7 HRA.out.1 w' hw') Tryz.underlying49 rfl (At Tryz.infoCi HLE.out.1) ?_;go_simp;go_big_quiet_on)|(refine A1 49 (.tmp 24) rfl b (o+(m+1)* 3) rfl cs' _ (fun w' hw'=> A7 HRA.out.2 w' hw') Tryz.underlying49 rfl (At Tryz.infoCi HLE.out.2) ?_;go_simp;go_big_quiet_on)|(go_big_quiet_op;(first|go_big_quiet_on|(apply Exists.intro;refine⟨fun _=> ?_,?_⟩;(focus (first|(go_at_call_of 34 (Value.agg cs.toArray);with_reducible exact AV (C1.out _))|(go_at_call_of 34 (Value.agg cs'.toArray);with_reducible exact AV (C2.out _))));go_big_quiet_on))))))
    refine wpQuiet_nil ?_
    intro w9 hw9
    obtain⟨x9,rfl⟩:=hw9
    clear C1 C2
    have HW2:=Ag (An HW.out (AO wr x9) (Ah _))
    generalize Bh wr x9=wz at HW2 ⊢
    cases g
    ·have HT3:=Ag (show RA (l.drop (m+1+1 - 1))=R from by have h:=HT2.out;rw[Bool.not_false,Bool.true_and] at h;exact h)
     go_wp2_with fail
     go_roundw
     case measure=> simp[intOf];omega
     case rel=> exact⟨m+1+1,by omega,by go_num,HT3,HW2⟩
    ·have HF:=Ag (show R=false from by rw[←HT2.out,Bool.not_true,Bool.false_and])
     go_wp2_with fail
     go_ret
     exact⟨by rw[HF.out];rfl,HW2.out⟩
  ·have hge:¬ (k:Int)<(n:Int):=by omega
   have HF:=Ag (show R=true from by rw[←HT.out];exact HE.out _ (by rw[List.length_drop,HL.out];omega))
   go_wp2_with fail
   go_ret
   exact⟨by rw[HF.out];rfl,HW.out⟩
theorem Je (v:Value) (l:List Int) (w:World) (hv:Sl w v (ofK .i64 l)):
  Calls Tryz.prog 65 #[v,.func (.func 63) #[] #[]] w (fun e w'=> e=.returned (.bool (BF geN l))∧Below w.heap.size w w'):=by
 obtain⟨ao,cc,rfl,a2,a3,a4⟩:=hv.nums
 obtain⟨n,hL⟩:∃ n,l.length=n:=⟨_,rfl⟩
 have HL:=Ag hL
 obtain⟨R,hR⟩:∃ R,BF geN l=R:=⟨_,rfl⟩
 have HA:=Ag (Gq geN l)
 have HE:=Ag (Fe geN)
 have H:=Ag (Ai hv (Ai a4 hR))
 rw[hR]
 rw[hL] at a2 ⊢
 have hcf':=Gt
 have hn63:n≤9223372036854775807:=by omega
 clear hv a3 a4 hL hR
 generalize BF geN=RA at HA HE H
 go_enter Tryz.func65,Tryz.ntmps65
 go_wp2_with fail
 go_loopw [5,8] (fun s5 s8 wr=> ∃ k:Nat,k≤n∧s8=.int .i64 k∧Hid (RA (l.drop (k - 1))=R)∧Hid (Below w.heap.size w wr)) (fun _ s8 _=> n - (intOf s8).toNat)
 case atStart=> exact⟨0,Nat.zero_le _,rfl,Ag H.out.2.2,Ag (Below.refl _ _)⟩
 case round=>
  obtain⟨k,hk,rfl,HT,HW⟩:=hrel
  by_cases hlt:k<n
  ·rcases k with _|m
   ·have hn0:(0:Int)<(n:Int):=by omega
    have hz:decide ((0:Int)<((0:Nat):Int))=false:=by decide
    go_wp2_with fail
    go_quiet (fail)
    go_wp2_with fail
    go_roundw
    case measure=> simp[intOf];omega
    case rel=> exact⟨1,by omega,by go_num,HT,Ag (An HW.out (((Sm.refl _).drewN _).below _) (Ah _))⟩
   ·have hz:decide ((0:Int)<((m+1:Nat):Int))=true:=by simp
    have hp:((m+1:Nat):Int) - 1=(m:Int):=by omega
    have hm0:(0:Int)≤(m:Int):=by omega
    have hmn:(m:Int)<(n:Int):=by omega
    have hm1n:((m+1:Nat):Int)<(n:Int):=by omega
    have hml:m<l.length:=by rw[HL.out];omega
    have hml1:m+1<l.length:=by rw[HL.out];omega
    obtain⟨b,o,rfl,hbl,hcell⟩:=H.out.2.1 (by rw[HL.out];omega)
    have c1:=hcell m hml
    have c2:=hcell (m+1) hml1
    have HT2:=Ag (show(!(geN l[m] l[m+1]) && RA (l.drop (m+1)))=R from by rw[←HT.out,show m+1 - 1=m from rfl,HA.out m hml1])
    generalize l[m]=x at c1 HT2
    generalize l[m+1]=y at c2 HT2
    clear hml hml1 hcell
    have c1:=fun p=> AT ((HW.out.cell (p:=⟨b,o+m,none⟩) (Am c1)).trans c1) p
    have c2:=fun p=> AT ((HW.out.cell (p:=⟨b,o+(m+1),none⟩) (Am c2)).trans c2) p
    have C1:=Ag (fun p=> show Calls Tryz.prog 63 #[.int .i64 x] (Bh wr p) (fun e w'=> e=.returned (.int .i64 x)∧Below (Bh wr p).heap.size (Bh wr p) w') from(JA x (Bh wr p)).mono fun _ _ h=> ⟨h.1,by rw[←h.2];exact Below.refl _ _⟩)
    have C2:=Ag (fun p=> show Calls Tryz.prog 63 #[.int .i64 y] (Bh wr p) (fun e w'=> e=.returned (.int .i64 y)∧Below (Bh wr p).heap.size (Bh wr p) w') from(JA y (Bh wr p)).mono fun _ _ h=> ⟨h.1,by rw[←h.2];exact Below.refl _ _⟩)
    obtain⟨g,hg⟩:∃ g,geN x y=g:=⟨_,rfl⟩
    rw[hg] at HT2
    have hgg:decide (y≤x)=g:=hg
    clear hg hbl
    go_wp2_with fail
    refine A4 (by kernel_rfl) (by kernel_rfl) ?_
    repeat (first|go_big_quiet_skip|(go_big_quiet_want;(go_big_quiet_op;(first|go_big_quiet_on|(apply Exists.intro;refine⟨fun _=> ?_,?_⟩;(focus (first|(go_at_call_of 63 (Value.int .i64 x);with_reducible exact AV (C1.out _))|(go_at_call_of 63 (Value.int .i64 y);with_reducible exact AV (C2.out _))));go_big_quiet_on)))))
    refine wpQuiet_nil ?_
    intro w9 hw9
    obtain⟨x9,rfl⟩:=hw9
    clear C1 C2 c1 c2
    have HW2:=Ag (An HW.out (AO wr x9) (Ah _))
    generalize Bh wr x9=wz at HW2 ⊢
    cases g
    ·have HT3:=Ag (show RA (l.drop (m+1+1 - 1))=R from by have h:=HT2.out;rw[Bool.not_false,Bool.true_and] at h;exact h)
     go_wp2_with fail
     go_roundw
     case measure=> simp[intOf];omega
     case rel=> exact⟨m+1+1,by omega,by go_num,HT3,HW2⟩
    ·have HF:=Ag (show R=false from by rw[←HT2.out,Bool.not_true,Bool.false_and])
     go_wp2_with fail
     go_ret
     exact⟨by rw[HF.out];rfl,HW2.out⟩
  ·have hge:¬ (k:Int)<(n:Int):=by omega
   have HF:=Ag (show R=true from by rw[←HT.out];exact HE.out _ (by rw[List.length_drop,HL.out];omega))
   go_wp2_with fail
   go_ret
   exact⟨by rw[HF.out];rfl,HW.out⟩
def Er (c:CirM):Bool:=decide (1≤c.n) && (decide (c.n≤3) && (AX c.o && (BF geN c.us && !(c.us.any fun u=> !AX u))))
theorem Il (c:CirM) (cs:List Value) (F:Nat→Prop) (w:World) (hc:CiC F w cs c):
  Calls Tryz.prog 35 #[.agg cs.toArray] w (fun e w'=> e=.returned (.bool (Er c))∧Below w.heap.size w w'):=by
 obtain⟨R,hR⟩:∃ R,Er c=R:=⟨_,rfl⟩
 rw[hR]
 obtain⟨n,o,us⟩:=c
 obtain⟨vu,rfl,hu⟩:=hc
 have HU:=Ag hu.1
 obtain⟨ub,hub⟩:∃ b,AX o=b:=⟨_,rfl⟩
 obtain⟨rb,hrb⟩:∃ b,BF geN us=b:=⟨_,rfl⟩
 obtain⟨ab,hab⟩:∃ b,(us.any fun u=> !AX u)=b:=⟨_,rfl⟩
 have HN:=Ag (Ai hub (Ai hrb hab))
 have HR:=Ag (show R=(decide (1≤n) && (decide (n≤3) && (ub && (rb && !ab)))) from by rw[←hR,←hub,←hrb,←hab];rfl)
 clear hR hub hrb hab hu
 have H0:=Ag (Below.refl w.heap.size w)
 show Calls Tryz.prog 35 #[.agg (ciC n o vu).toArray] w _
 go_enter Tryz.func35,Tryz.ntmps35
 by_cases q0:1≤n
 ·have E0:=Ag (show R=(decide (n≤3) && (ub && (rb && !ab))) from by rw[HR.out,decide_eq_true q0,Bool.true_and])
  by_cases q1:n≤3
  ·have E1:=Ag (show R=(ub && (rb && !ab)) from by rw[E0.out,decide_eq_true q1,Bool.true_and])
   go_wp2_with (first
  | ((with_reducible refine Au w rfl 49 (.tmp 0) rfl (ciC n o vu) rfl ?_);intro a1 hb hbel hsz;have H1:=hJ2 (An H0.out hbel (Ah _)) hb;have c0:=hb.cell 0;have c1:=hb.cell 1;have c2:=hb.cell 2;simp only[ciC,Ab,Ac] at c0 c1 c2;clear hb hbel hsz))
   refine(CJ o a1).mono ?_
   rintro e' w2 ⟨rfl,rfl⟩
   rw[HN.out.1]
   cases ub
   ·have EE:=Ag (show R=false from by rw[E1.out,Bool.false_and])
    go_wp2_with fail
    go_ret
    exact⟨by rw[EE.out];rfl,H1.out.1⟩
   ·have E2:=Ag (show R=(rb && !ab) from by rw[E1.out,Bool.true_and])
    go_wp2_with fail
    refine(Je vu us a1 (HU.out.below H1.out.1 (Ah _))).mono ?_
    rintro e' a2 ⟨rfl,hb⟩
    have H2:=hJ2 (An H1.out.1 hb (Ah _)) (H1.out.2.below hb H1.out.2.lt)
    replace c0:=(hb.cell (p:=⟨w.heap.size,0,none⟩) (Am c0)).trans c0;replace c1:=(hb.cell (p:=⟨w.heap.size,1,none⟩) (Am c1)).trans c1;replace c2:=(hb.cell (p:=⟨w.heap.size,2,none⟩) (Am c2)).trans c2;clear hb
    rw[HN.out.2.1]
    cases rb
    ·have EE:=Ag (show R=false from by rw[E2.out,Bool.false_and])
     go_wp2_with fail
     go_ret
     exact⟨by rw[EE.out];rfl,H2.out.1⟩
    ·have E3:=Ag (show R=!ab from by rw[E2.out,Bool.true_and])
     go_wp2_with fail
     refine(Eu (fun u=> !AX u) 66 [] vu us a2 (HU.out.below H2.out.1 (Ah _)) Gu (fun x=> Kc x a2)).mono ?_
     rintro e' w3 ⟨rfl,rfl⟩
     rw[HN.out.2.2]
     go_wp2_with fail
     go_ret
     exact⟨by rw[E3.out];rfl,H2.out.1⟩
  ·have EE:=Ag (show R=false from by rw[E0.out,decide_eq_false q1,Bool.false_and])
   go_wp2_with (first
  | ((with_reducible refine Au w rfl 49 (.tmp 0) rfl (ciC n o vu) rfl ?_);intro a1 hb hbel hsz;have H1:=hJ2 (An H0.out hbel (Ah _)) hb;have c0:=hb.cell 0;have c1:=hb.cell 1;have c2:=hb.cell 2;simp only[ciC,Ab,Ac] at c0 c1 c2;clear hb hbel hsz))
   go_ret
   exact⟨by rw[EE.out];rfl,H1.out.1⟩
 ·have EE:=Ag (show R=false from by rw[HR.out,decide_eq_false q0,Bool.false_and])
  go_wp2_with (first
  | ((with_reducible refine Au w rfl 49 (.tmp 0) rfl (ciC n o vu) rfl ?_);intro a1 hb hbel hsz;have H1:=hJ2 (An H0.out hbel (Ah _)) hb;have c0:=hb.cell 0;have c1:=hb.cell 1;have c2:=hb.cell 2;simp only[ciC,Ab,Ac] at c0 c1 c2;clear hb hbel hsz))
  go_ret
  exact⟨by rw[EE.out];rfl,H1.out.1⟩
end Go.Proofs.YtgdlfiphihaooaaGreat

import Derived.Test.YtgdlfiphihaooaaGreatYq0
import Derived.Test.YtgdlfiphihaooaaGreatProg
set_option linter.unusedSimpArgs false
set_option linter.unusedVariables false
set_option maxRecDepth 100000
set_option maxHeartbeats 8000000
open _root_.List renaming getElem?_toArray→Aa,getElem?_cons_zero→Ab,getElem?_cons_succ→Ac,setIfInBounds_toArray→Ad,set_cons_zero→Ae,set_cons_succ→Af
open _root_.Go.Lib renaming hid→Ag
open _root_.Nat renaming le_refl→Ah,le_trans→Aj,lt_of_lt_of_le→Ak
open _root_.And renaming intro→Ai
open _root_.Go.Act renaming put→Al
namespace Go.Proofs.YtgdlfiphihaooaaGreat
open Go Go.RowKit
inductive Tm where
 | mk (k u n:Int) (s:ByteArray) (ks:List Tm)
def Tm.k:Tm→Int|.mk k _ _ _ _=> k
def Tm.u:Tm→Int|.mk _ u _ _ _=> u
def Tm.n:Tm→Int|.mk _ _ n _ _=> n
def Tm.s:Tm→ByteArray|.mk _ _ _ s _=> s
def Tm.ks:Tm→List Tm|.mk _ _ _ _ ks=> ks
theorem Tm.ind {m:Tm→Prop} (h:∀ k u n s ks,(∀ t∈ks,m t)→m (.mk k u n s ks)):∀ t,m t
 | .mk k u n s ks=> h k u n s ks fun t ht=> Tm.ind h t
termination_by t=> SizeOf.sizeOf t
decreasing_by
 have:=List.sizeOf_lt_of_mem ht
 simp only[Tm.mk.sizeOf_spec]
 omega
def tmC (k u n:Int) (s:ByteArray) (v:Value):List Value:=[.int .i64 k,.int .i64 u,.int .i64 n,.string s,v]
theorem Tryz.infoTm:(Tryz.prog.info? 29).map (·.size)=some 5:=by kernel_rfl
theorem Tryz.zeroTm:∀ w,(zeroValue 29).run Tryz.prog w=.ok (.agg (tmC 0 0 0 ⟨#[]⟩ (.slice none 0 0)).toArray) w:=fun w=> by kernel_rfl
theorem A9 (k u n:Int) (s:ByteArray) (v:Value):(Tryz.prog.info? 29).map (·.size)=some (tmC k u n s v).length:=Tryz.infoTm
theorem AS (k u n:Int) (s:ByteArray) (ao:Option Addr) (l c:Nat):∀ v∈tmC k u n s (.slice ao l c),v.oneCell'=true:=fun v hv=> by
 simp only[tmC,List.mem_cons,List.not_mem_nil,or_false] at hv
 rcases hv with rfl|rfl|rfl|rfl|rfl <;> rfl
mutual
def TmC (F:Nat→Prop) (w:World) (cs:List Value):Tm→Prop
 | .mk k u n s ks=> ∃ ao c,cs=tmC k u n s (.slice ao ks.length c)∧ks.length≤c∧c≤maxLen∧(0<ks.length→∃ b o,ao=some ⟨b,o,none⟩∧F b∧b<w.heap.size∧AtC F w b o ks)
def AtC (F:Nat→Prop) (w:World) (b o:Nat):List Tm→Prop
 | []=> True
 | t::ts=> (∃ cs,cs.length=5∧w.rangeAt b o cs∧TmC F w cs t)∧AtC F w b (o+5) ts
end
def SlT (F:Nat→Prop) (w:World) (v:Value) (ts:List Tm):Prop:=
 ∃ ao c,v=.slice ao ts.length c∧ts.length≤c∧c≤maxLen∧(0<ts.length→∃ b o,ao=some ⟨b,o,none⟩∧F b∧b<w.heap.size∧AtC F w b o ts)
theorem B6 {F:Nat→Prop} {w:World} {cs:List Value} {k u n:Int} {s:ByteArray} {ks:List Tm}:TmC F w cs (.mk k u n s ks)↔∃ v,cs=tmC k u n s v∧SlT F w v ks:=by
 unfold TmC SlT
 constructor
 ·rintro⟨ao,c,h1,h2⟩;exact⟨_,h1,ao,c,rfl,h2⟩
 ·rintro⟨_,h1,ao,c,rfl,h2⟩;exact⟨ao,c,h1,h2⟩
theorem TmC.len {F:Nat→Prop} {w:World} {cs:List Value} {t:Tm} (h:TmC F w cs t):cs.length=5:=by
 obtain⟨k,u,n,s,ks⟩:=t
 obtain⟨v,rfl,-⟩:=B6.1 h
 rfl
theorem AtC.get {F:Nat→Prop} {w:World} {b:Nat}:∀ {ts:List Tm} {o:Nat},AtC F w b o ts→∀ j (hj:j<ts.length),∃ cs,w.rangeAt b (o+j* 5) cs∧TmC F w cs ts[j]
 | t::ts,o,h,0,_=> by
  unfold AtC at h
  obtain⟨⟨cs,-,h1,h2⟩,-⟩:=h
  exact⟨cs,by simpa using h1,h2⟩
 | t::ts,o,h,j+1,hj=> by
  unfold AtC at h
  obtain⟨cs,h1,h2⟩:=AtC.get h.2 j (by simpa using hj)
  exact⟨cs,by rw[show o+(j+1)* 5=o+5+j* 5 by omega];exact h1,h2⟩
theorem AtC.mk' {F:Nat→Prop} {w:World} {b:Nat}:∀ {ts:List Tm} {o:Nat},(∀ j (hj:j<ts.length),∃ cs,w.rangeAt b (o+j* 5) cs∧TmC F w cs ts[j])→AtC F w b o ts
 | [],o,_=> by unfold AtC;trivial
 | t::ts,o,h=> by
  unfold AtC
  refine⟨?_,AtC.mk' fun j hj=> ?_⟩
  ·obtain⟨cs,h1,h2⟩:=h 0 (by simp)
   exact⟨cs,h2.len,by simpa using h1,h2⟩
  ·obtain⟨cs,h1,h2⟩:=h (j+1) (by simpa using hj)
   exact⟨cs,by rw[show o+5+j* 5=o+(j+1)* 5 by omega];exact h1,h2⟩
theorem SlT.get {F:Nat→Prop} {w:World} {ao:Option Addr} {n c:Nat} {ts:List Tm} (h:SlT F w (.slice ao n c) ts) {j:Nat} (hj:j<ts.length):∃ b o cs,ao=some ⟨b,o,none⟩∧F b∧b<w.heap.size∧w.rangeAt b (o+j* 5) cs∧TmC F w cs ts[j]:=by
 obtain⟨ao',c',h1,h2,h3,h4⟩:=h
 obtain⟨rfl,-,-⟩:ao=ao'∧n=ts.length∧c=c':=by simpa using h1
 obtain⟨b,o,rfl,hF,hb,ha⟩:=h4 (by omega)
 obtain⟨cs,h5,h6⟩:=ha.get j hj
 exact⟨b,o,cs,rfl,hF,hb,h5,h6⟩
theorem AtC.keep' {F G:Nat→Prop} {S:Nat→Prop} {w w':World} (hc:Ch S w w') (hS:∀ k,F k→¬ S k) (hG:∀ k,F k→G k) {b:Nat} (hb:F b):∀ {ts:List Tm} {o:Nat},(∀ t∈ts,∀ cs,TmC F w cs t→TmC G w' cs t)→AtC F w b o ts→AtC G w' b o ts
 | [],_,_,_=> by unfold AtC;trivial
 | t::ts,o,ih,h=> by
  unfold AtC at h ⊢
  obtain⟨⟨cs,h1,h2,h3⟩,h4⟩:=h
  exact⟨⟨cs,h1,BJ h2 hc (hS b hb),ih t List.mem_cons_self cs h3⟩,AtC.keep' hc hS hG hb (fun t ht=> ih t (List.mem_cons_of_mem _ ht)) h4⟩
theorem TmC.keep' {F G:Nat→Prop} {S:Nat→Prop} {w w':World} (hc:Ch S w w') (hS:∀ k,F k→¬ S k) (hG:∀ k,F k→G k):∀ (t:Tm) (cs:List Value),TmC F w cs t→TmC G w' cs t:=by
 refine Tm.ind fun k u n s ks ih cs h=> ?_
 unfold TmC at h ⊢
 obtain⟨ao,c,h1,h2,h3,h4⟩:=h
 refine⟨ao,c,h1,h2,h3,fun h0=> ?_⟩
 obtain⟨b,o,e,hF,hb,ha⟩:=h4 h0
 exact⟨b,o,e,hG b hF,Ak hb hc.size,AtC.keep' hc hS hG hF ih ha⟩
theorem TmC.keep {F:Nat→Prop} {S:Nat→Prop} {w w':World} {t:Tm} {cs:List Value} (h:TmC F w cs t) (hc:Ch S w w') (hS:∀ k,F k→¬ S k):TmC F w' cs t:=TmC.keep' hc hS (fun _ h=> h) t cs h
theorem TmC.mono {F G:Nat→Prop} {w:World} {t:Tm} {cs:List Value} (h:TmC F w cs t) (hG:∀ k,F k→G k):TmC G w cs t:=TmC.keep' (Ch.refl (fun _=> False) w) (fun _ _ h=> h) hG t cs h
theorem TmC.below {F:Nat→Prop} {w w':World} {t:Tm} {cs:List Value} (h:TmC F w cs t) (hb:Below w.heap.size w w'):TmC F w' cs t:=h.keep (Ch.of_below (S:=fun _=> False) hb (Ah _)) (fun _ _ h=> h)
theorem SlT.keep' {F G:Nat→Prop} {S:Nat→Prop} {w w':World} {ts:List Tm} {v:Value} (h:SlT F w v ts) (hc:Ch S w w') (hS:∀ k,F k→¬ S k) (hG:∀ k,F k→G k):SlT G w' v ts:=by
 have h1:TmC F w (tmC 0 0 0 ⟨#[]⟩ v) (.mk 0 0 0 ⟨#[]⟩ ts):=B6.2 ⟨v,rfl,h⟩
 obtain⟨v',e,h2⟩:=B6.1 (TmC.keep' hc hS hG _ _ h1)
 simp only[tmC,List.cons.injEq,and_true,true_and] at e
 subst e;exact h2
theorem SlT.keep {F:Nat→Prop} {S:Nat→Prop} {w w':World} {ts:List Tm} {v:Value} (h:SlT F w v ts) (hc:Ch S w w') (hS:∀ k,F k→¬ S k):SlT F w' v ts:=h.keep' hc hS (fun _ h=> h)
theorem SlT.mono {F G:Nat→Prop} {w:World} {ts:List Tm} {v:Value} (h:SlT F w v ts) (hG:∀ k,F k→G k):SlT G w v ts:=h.keep' (Ch.refl (fun _=> False) w) (fun _ _ h=> h) hG
theorem SlT.below {F:Nat→Prop} {w w':World} {ts:List Tm} {v:Value} (h:SlT F w v ts) (hb:Below w.heap.size w w'):SlT F w' v ts:=h.keep (Ch.of_below (S:=fun _=> False) hb (Ah _)) (fun _ _ h=> h)
theorem SlT.nil (F:Nat→Prop) (w:World):SlT F w (.slice none 0 0) []:=⟨none,0,rfl,Ah _,by unfold maxLen;omega,fun h=> absurd h (by simp)⟩
theorem TmC.shape {F:Nat→Prop} {w:World} {cs:List Value} {t:Tm} (h:TmC F w cs t):∃ ao c,cs=tmC t.k t.u t.n t.s (.slice ao t.ks.length c)∧t.ks.length≤c∧c≤maxLen∧SlT F w (.slice ao t.ks.length c) t.ks:=by
 obtain⟨k,u,n,s,ks⟩:=t
 obtain⟨v,e,h⟩:=B6.1 h
 obtain⟨ao,c,e2,h2,h3,h4⟩:=id h
 subst e2
 exact⟨ao,c,e,h2,h3,h⟩
def Br (k:Int):Int:=if k=1 then 1 else if k=2 then 6 else if k=3 then 2 else if k=4 then 16 else if k=5 then 8 else if k=6 then 16 else if k=7 then 10 else if k=8 then 14 else 0
theorem GO (k:Int):Br k=0∨Br k=1∨Br k=2∨Br k=6∨Br k=8∨Br k=10∨Br k=14∨Br k=16:=by unfold Br;omega
theorem IS (k:Int) (w:World):Calls Tryz.prog 133 #[.int .i64 k] w (fun e w'=> e=.returned (.int .i64 (Br k))∧w=w'):=by
 rcases (show k=1∨k=2∨k=3∨k=4∨k=5∨k=6∨k=7∨k=8∨(k≠1∧k≠2∧k≠3∧k≠4∧k≠5∧k≠6∧k≠7∧k≠8) by omega) with rfl|rfl|rfl|rfl|rfl|rfl|rfl|rfl|⟨h1,h2,h3,h4,h5,h6,h7,h8⟩
 iterate 8(focus (go_enter Tryz.func133,Tryz.ntmps133;go_wp2_with fail;go_ret;exact⟨rfl,rfl⟩))
 ·have e1:(k==1)=false:=by simpa using h1
  have e2:(k==2)=false:=by simpa using h2
  have e3:(k==3)=false:=by simpa using h3
  have e4:(k==4)=false:=by simpa using h4
  have e5:(k==5)=false:=by simpa using h5
  have e6:(k==6)=false:=by simpa using h6
  have e7:(k==7)=false:=by simpa using h7
  have e8:(k==8)=false:=by simpa using h8
  have HF:=Ag (show Br k=0 from by unfold Br;simp[h1,h2,h3,h4,h5,h6,h7,h8])
  clear h1 h2 h3 h4 h5 h6 h7 h8
  go_enter Tryz.func133,Tryz.ntmps133
  go_wp2_with fail
  go_ret
  exact⟨by rw[HF.out];rfl,rfl⟩
def FI (k g:Int):Bool:=if g=1 then k==1 else if g=2 then (k==2 ||k==3 ||k==7 ||k==8) else if g=4 then (k==2 ||k==8) else if g=8 then (k==5 ||k==7 ||k==8) else (k==4 ||k==6)
theorem Ga (k:Int):k=1∨k=2∨k=3∨k=4∨k=5∨k=6∨k=7∨k=8∨(k≠1∧k≠2∧k≠3∧k≠4∧k≠5∧k≠6∧k≠7∧k≠8):=by omega
theorem Hf {k:Int} (h:k≠1∧k≠2∧k≠3∧k≠4∧k≠5∧k≠6∧k≠7∧k≠8):Br k=0:=by
 obtain⟨h1,h2,h3,h4,h5,h6,h7,h8⟩:=h
 unfold Br;simp[h1,h2,h3,h4,h5,h6,h7,h8]
theorem E6 {k:Int} (h:k≠1∧k≠2∧k≠3∧k≠4∧k≠5∧k≠6∧k≠7∧k≠8) (g:Int):FI k g=false:=by
 obtain⟨h1,h2,h3,h4,h5,h6,h7,h8⟩:=h
 unfold FI;simp[h1,h2,h3,h4,h5,h6,h7,h8]
theorem EH (k g:Int) (hg:g=1∨g=2∨g=4∨g=8∨g=16) (w:World):Calls Tryz.prog 135 #[.int .i64 (Br k),.int .i64 g] w (fun e w'=> e=.returned (.bool (FI k g))∧w=w'):=by
 have go:∀ f:Int,∀ r:Bool,(f=0∨f=1∨f=2∨f=6∨f=8∨f=10∨f=14∨f=16)→(∀ w',Calls Tryz.prog 135 #[.int .i64 f,.int .i64 g] w' (fun e w''=> e=.returned (.bool (decide (f.toNat &&& g.toNat≠0)))∧w'=w'')):=by
  intro f r hf w'
  rcases hg with rfl|rfl|rfl|rfl|rfl <;> rcases hf with rfl|rfl|rfl|rfl|rfl|rfl|rfl|rfl <;>
   (go_enter Tryz.func135,Tryz.ntmps135
    go_wp2_with fail
    go_ret
    exact⟨rfl,rfl⟩)
 have h:=go (Br k) true (GO k) w
 have e:decide ((Br k).toNat &&& g.toNat≠0)=FI k g:=by
  rcases Ga k with rfl|rfl|rfl|rfl|rfl|rfl|rfl|rfl|hk
  iterate 8(· rcases hg with rfl|rfl|rfl|rfl|rfl <;> rfl)
  ·rw[Hf hk,E6 hk];simp
 rw[e] at h
 exact h
def EI (k:Int):Nat:=if k=4∨k=6 then 2 else if k=5∨k=7∨k=8 then 1 else 0
theorem Kv (k:Int) (w:World):Calls Tryz.prog 134 #[.int .i64 (Br k)] w (fun e w'=> e=.returned (.int .i64 (EI k))∧w=w'):=by
 have h16:=Ag (EH k 16 (by omega) w)
 have h8:=Ag (EH k 8 (by omega) w)
 obtain⟨b16,e16⟩:∃ b,FI k 16=b:=⟨_,rfl⟩
 obtain⟨b8,e8⟩:∃ b,FI k 8=b:=⟨_,rfl⟩
 have HE:=Ag (show EI k=if b16=true then 2 else if b8=true then 1 else 0 from by
  rw[←e16,←e8]
  rcases Ga k with rfl|rfl|rfl|rfl|rfl|rfl|rfl|rfl|hk
  iterate 8(· rfl)
  ·rw[E6 hk,E6 hk]
   obtain⟨h1,h2,h3,h4,h5,h6,h7,h8⟩:=hk
   unfold EI;simp[h4,h5,h6,h7,h8])
 rw[e16] at h16
 rw[e8] at h8
 clear e16 e8
 generalize Br k=f at h16 h8 ⊢
 go_enter Tryz.func134,Tryz.ntmps134
 go_wp2_with fail
 refine h16.out.mono ?_
 rintro e' w' ⟨rfl,rfl⟩
 cases b16
 ·go_wp2_with fail
  refine h8.out.mono ?_
  rintro e' w' ⟨rfl,rfl⟩
  cases b8
  ·go_wp2_with fail
   go_ret
   exact⟨by rw[HE.out];rfl,rfl⟩
  ·go_wp2_with fail
   go_ret
   exact⟨by rw[HE.out];rfl,rfl⟩
 ·go_wp2_with fail
  go_ret
  exact⟨by rw[HE.out];rfl,rfl⟩
def DR (n:Int):Bool:=decide (1≤n) && decide (n≤6)
theorem JQ (n:Int) (w:World):Calls Tryz.prog 136 #[.int .i64 n] w (fun e w'=> e=.returned (.bool (DR n))∧w=w'):=by
 by_cases h1:1≤n
 ·by_cases h2:n≤6
  ·have HU:=Ag (show DR n=true by simp[DR,h1,h2])
   rw[HU.out]
   go_enter Tryz.func136,Tryz.ntmps136
   go_wp2
   go_ret
   exact⟨rfl,rfl⟩
  ·have HU:=Ag (show DR n=false by simp[DR,h2])
   rw[HU.out]
   go_enter Tryz.func136,Tryz.ntmps136
   go_wp2
   go_ret
   exact⟨rfl,rfl⟩
 ·have HU:=Ag (show DR n=false by simp[DR,h1])
  rw[HU.out]
  go_enter Tryz.func136,Tryz.ntmps136
  go_wp2
  go_ret
  exact⟨rfl,rfl⟩
def Kw (b0 c1 c2 bT c3 bU kn u0 bN ge le n0:Bool):Bool:=b0 && (c1 && (c2 && ((bT ||c3) && ((if bU=true then kn else u0) && (if bN=true then (ge && le) else n0)))))
def Cy (k u n:Int) (s:ByteArray) (l:Nat):Bool:=
 Kw (Br k !=0) ((l:Int)==(EI k:Int)) (decide ((s.size:Int)≤64)) (FI k 1) (s.toList.isEmpty) (FI k 2) (DR u) (u==0) (FI k 4) (decide (0≤n)) (decide (n≤65535)) (n==0)
theorem JR (k u n:Int) (s:ByteArray) (ao:Option Addr) (l c:Nat) (w:World):
  Calls Tryz.prog 129 #[.agg (tmC k u n s (.slice ao l c)).toArray] w (fun e w'=> e=.returned (.bool (Cy k u n s l))∧Below w.heap.size w w'):=by
 obtain⟨R,hR⟩:∃ R,Cy k u n s l=R:=⟨_,rfl⟩
 rw[hR]
 have HFD:=Ag (IS k)
 have HK:=Ag (Kv k)
 have HT:=Ag (EH k 1 (by omega))
 have HU:=Ag (EH k 2 (by omega))
 have HN:=Ag (EH k 4 (by omega))
 unfold Cy at hR
 have HKN:=Ag (JQ u)
 obtain⟨b0,hb0⟩:∃ x,(Br k !=0)=x:=⟨_,rfl⟩
 obtain⟨c1,hc1⟩:∃ x,((l:Int)==(EI k:Int))=x:=⟨_,rfl⟩
 obtain⟨c2,hc2⟩:∃ x,(decide ((s.size:Int)≤64))=x:=⟨_,rfl⟩
 obtain⟨bT,hbT⟩:∃ x,(FI k 1)=x:=⟨_,rfl⟩
 obtain⟨c3,hc3⟩:∃ x,(s.toList.isEmpty)=x:=⟨_,rfl⟩
 obtain⟨bU,hbU⟩:∃ x,(FI k 2)=x:=⟨_,rfl⟩
 obtain⟨kn,hkn⟩:∃ x,(DR u)=x:=⟨_,rfl⟩
 obtain⟨u0,hu0⟩:∃ x,(u==0)=x:=⟨_,rfl⟩
 obtain⟨bN,hbN⟩:∃ x,(FI k 4)=x:=⟨_,rfl⟩
 obtain⟨ge,hge⟩:∃ x,(decide (0≤n))=x:=⟨_,rfl⟩
 obtain⟨le,hle⟩:∃ x,(decide (n≤65535))=x:=⟨_,rfl⟩
 obtain⟨n0,hn0⟩:∃ x,(n==0)=x:=⟨_,rfl⟩
 rw[hb0,hc1,hc2,hbT,hc3,hbU,hkn,hu0,hbN,hge,hle,hn0] at hR
 have HR:=Ag hR
 clear hR
 rw[hbT] at HT
 rw[hbU] at HU
 rw[hbN] at HN
 rw[hkn] at HKN
 clear hbT hbU hbN hkn
 generalize Br k=f at HFD HK HT HU HN hb0
 generalize EI k=kd at HK hc1
 have Eb0:=Ag hb0
 clear hb0
 have Ec1:=Ag hc1
 clear hc1
 have Ec2:=Ag hc2
 clear hc2
 have Ec3:=Ag hc3
 clear hc3
 have Eu0:=Ag hu0
 clear hu0
 have Ege:=Ag hge
 clear hge
 have Ele:=Ag hle
 clear hle
 have En0:=Ag hn0
 clear hn0
 have H0:=Ag (Below.refl w.heap.size w)
 go_enter Tryz.func129,Tryz.ntmps129
 go_wp2_with (first
  | ((with_reducible refine Au w rfl 29 (.tmp 0) rfl (tmC k u n s (.slice ao l c)) rfl ?_);intro a1 hb hbel hsz;have HA1:=hJ2 (An H0.out hbel (Ah _)) hb;have c0:=HA1.out.2.cell 0;have c1':=HA1.out.2.cell 1;have c2':=HA1.out.2.cell 2;have c3':=HA1.out.2.cell 3;have c4:=HA1.out.2.cell 4;simp only[tmC,Ab,Ac] at c0 c1' c2' c3' c4;clear hb hbel hsz))
 refine(HFD.out a1).mono ?_
 rintro e' w' ⟨rfl,rfl⟩
 have C1:=Ag (fun x=> show Calls Tryz.prog 134 #[.int .i64 f] (Bh a1 x) (fun e w'=> e=.returned (.int .i64 kd)∧w'=Bh a1 x) from(HK.out (Bh a1 x)).mono fun _ _ ⟨he,hm⟩=> ⟨he,hm.symm⟩)
 have C2:=Ag (fun x=> show Calls Tryz.prog 135 #[.int .i64 f,.int .i64 1] (Bh a1 x) (fun e w'=> e=.returned (.bool bT)∧w'=Bh a1 x) from(HT.out (Bh a1 x)).mono fun _ _ ⟨he,hm⟩=> ⟨he,hm.symm⟩)
 have eb0:=Eb0.out
 cases b0
 ·skip
  go_wp2_with fail
  replace c3':=fun q=> AT c3' q
  replace c4:=fun q=> AT c4 q
  refine A4 (by kernel_rfl) (by kernel_rfl) ?_
  repeat (first|go_big_quiet_skip|(go_big_quiet_want;go_big_quiet_op;(first|go_big_quiet_on|(apply Exists.intro;refine⟨fun _=> ?_,?_⟩;(focus (first|(go_at_call 134;with_reducible exact A8 (C1.out _))|(go_at_call 135;with_reducible exact A8 (C2.out _))));go_big_quiet_on))))
  refine wpQuiet_nil ?_
  intro w2 hw2
  obtain⟨x2,rfl⟩:=hw2
  have HB:=Ag (An HA1.out.1 (AO a1 x2) (Ah _))
  replace c1':=AT c1' x2
  replace c2':=AT c2' x2
  clear c0 c3' c4 C1 C2
  generalize Bh a1 x2=w2 at HB c1' c2' ⊢
  go_wp2_with fail
  go_ret
  exact⟨by rw[←HR.out];rfl,HB.out⟩
 ·skip
  have ec1:=Ec1.out
  cases c1
  ·skip
   go_wp2_with fail
   replace c3':=fun q=> AT c3' q
   replace c4:=fun q=> AT c4 q
   refine A4 (by kernel_rfl) (by kernel_rfl) ?_
   repeat (first|go_big_quiet_skip|(go_big_quiet_want;go_big_quiet_op;(first|go_big_quiet_on|(apply Exists.intro;refine⟨fun _=> ?_,?_⟩;(focus (first|(go_at_call 134;with_reducible exact A8 (C1.out _))|(go_at_call 135;with_reducible exact A8 (C2.out _))));go_big_quiet_on))))
   refine wpQuiet_nil ?_
   intro w2 hw2
   obtain⟨x2,rfl⟩:=hw2
   have HB:=Ag (An HA1.out.1 (AO a1 x2) (Ah _))
   replace c1':=AT c1' x2
   replace c2':=AT c2' x2
   clear c0 c3' c4 C1 C2
   generalize Bh a1 x2=w2 at HB c1' c2' ⊢
   go_wp2_with fail
   go_ret
   exact⟨by rw[←HR.out];rfl,HB.out⟩
  ·skip
   have ec2:=Ec2.out
   cases c2
   ·skip
    go_wp2_with fail
    replace c3':=fun q=> AT c3' q
    replace c4:=fun q=> AT c4 q
    refine A4 (by kernel_rfl) (by kernel_rfl) ?_
    repeat (first|go_big_quiet_skip|(go_big_quiet_want;go_big_quiet_op;(first|go_big_quiet_on|(apply Exists.intro;refine⟨fun _=> ?_,?_⟩;(focus (first|(go_at_call 134;with_reducible exact A8 (C1.out _))|(go_at_call 135;with_reducible exact A8 (C2.out _))));go_big_quiet_on))))
    refine wpQuiet_nil ?_
    intro w2 hw2
    obtain⟨x2,rfl⟩:=hw2
    have HB:=Ag (An HA1.out.1 (AO a1 x2) (Ah _))
    replace c1':=AT c1' x2
    replace c2':=AT c2' x2
    clear c0 c3' c4 C1 C2
    generalize Bh a1 x2=w2 at HB c1' c2' ⊢
    go_wp2_with fail
    go_ret
    exact⟨by rw[←HR.out];rfl,HB.out⟩
   ·skip
    cases bT
    ·skip
     have ec3:=Ec3.out
     cases c3
     ·skip
      go_wp2_with fail
      replace c3':=fun q=> AT c3' q
      replace c4:=fun q=> AT c4 q
      refine A4 (by kernel_rfl) (by kernel_rfl) ?_
      repeat (first|go_big_quiet_skip|(go_big_quiet_want;go_big_quiet_op;(first|go_big_quiet_on|(apply Exists.intro;refine⟨fun _=> ?_,?_⟩;(focus (first|(go_at_call 134;with_reducible exact A8 (C1.out _))|(go_at_call 135;with_reducible exact A8 (C2.out _))));go_big_quiet_on))))
      refine wpQuiet_nil ?_
      intro w2 hw2
      obtain⟨x2,rfl⟩:=hw2
      have HB:=Ag (An HA1.out.1 (AO a1 x2) (Ah _))
      replace c1':=AT c1' x2
      replace c2':=AT c2' x2
      clear c0 c3' c4 C1 C2
      generalize Bh a1 x2=w2 at HB c1' c2' ⊢
      go_wp2_with fail
      go_ret
      exact⟨by rw[←HR.out];rfl,HB.out⟩
     ·skip
      go_wp2_with fail
      replace c3':=fun q=> AT c3' q
      replace c4:=fun q=> AT c4 q
      refine A4 (by kernel_rfl) (by kernel_rfl) ?_
      repeat (first|go_big_quiet_skip|(go_big_quiet_want;go_big_quiet_op;(first|go_big_quiet_on|(apply Exists.intro;refine⟨fun _=> ?_,?_⟩;(focus (first|(go_at_call 134;with_reducible exact A8 (C1.out _))|(go_at_call 135;with_reducible exact A8 (C2.out _))));go_big_quiet_on))))
      refine wpQuiet_nil ?_
      intro w2 hw2
      obtain⟨x2,rfl⟩:=hw2
      have HB:=Ag (An HA1.out.1 (AO a1 x2) (Ah _))
      replace c1':=AT c1' x2
      replace c2':=AT c2' x2
      clear c0 c3' c4 C1 C2
      generalize Bh a1 x2=w2 at HB c1' c2' ⊢
      go_wp2_with fail
      refine(HU.out w2).mono ?_
      rintro e' w' ⟨rfl,rfl⟩
      cases bU
      ·skip
       go_wp2_with fail
       refine(HU.out w2).mono ?_
       rintro e' w' ⟨rfl,rfl⟩
       have eu0:=Eu0.out
       cases u0
       ·skip
        go_wp2_with fail
        go_ret
        exact⟨by rw[←HR.out];rfl,HB.out⟩
       ·skip
        go_wp2_with fail
        refine(HN.out w2).mono ?_
        rintro e' w' ⟨rfl,rfl⟩
        cases bN
        ·skip
         go_wp2_with fail
         refine(HN.out w2).mono ?_
         rintro e' w' ⟨rfl,rfl⟩
         have en0:=En0.out
         cases n0
         ·skip
          go_wp2_with fail
          go_ret
          exact⟨by rw[←HR.out];rfl,HB.out⟩
         ·skip
          go_wp2_with fail
          go_ret
          exact⟨by rw[←HR.out];rfl,HB.out⟩
        ·skip
         have ege:=Ege.out
         cases ge
         ·skip
          go_wp2_with fail
          refine(HN.out w2).mono ?_
          rintro e' w' ⟨rfl,rfl⟩
          go_wp2_with fail
          go_ret
          exact⟨by rw[←HR.out];rfl,HB.out⟩
         ·skip
          have ele:=Ele.out
          cases le
          ·skip
           go_wp2_with fail
           refine(HN.out w2).mono ?_
           rintro e' w' ⟨rfl,rfl⟩
           go_wp2_with fail
           go_ret
           exact⟨by rw[←HR.out];rfl,HB.out⟩
          ·skip
           go_wp2_with fail
           go_ret
           exact⟨by rw[←HR.out];rfl,HB.out⟩
      ·skip
       go_wp2_with fail
       refine(HKN.out w2).mono ?_
       rintro e' w' ⟨rfl,rfl⟩
       cases kn
       ·skip
        go_wp2_with fail
        refine(HU.out w2).mono ?_
        rintro e' w' ⟨rfl,rfl⟩
        go_wp2_with fail
        go_ret
        exact⟨by rw[←HR.out];rfl,HB.out⟩
       ·skip
        go_wp2_with fail
        refine(HN.out w2).mono ?_
        rintro e' w' ⟨rfl,rfl⟩
        cases bN
        ·skip
         go_wp2_with fail
         refine(HN.out w2).mono ?_
         rintro e' w' ⟨rfl,rfl⟩
         have en0:=En0.out
         cases n0
         ·skip
          go_wp2_with fail
          go_ret
          exact⟨by rw[←HR.out];rfl,HB.out⟩
         ·skip
          go_wp2_with fail
          go_ret
          exact⟨by rw[←HR.out];rfl,HB.out⟩
        ·skip
         have ege:=Ege.out
         cases ge
         ·skip
          go_wp2_with fail
          refine(HN.out w2).mono ?_
          rintro e' w' ⟨rfl,rfl⟩
          go_wp2_with fail
          go_ret
          exact⟨by rw[←HR.out];rfl,HB.out⟩
         ·skip
          have ele:=Ele.out
          cases le
          ·skip
           go_wp2_with fail
           refine(HN.out w2).mono ?_
           rintro e' w' ⟨rfl,rfl⟩
           go_wp2_with fail
           go_ret
           exact⟨by rw[←HR.out];rfl,HB.out⟩
          ·skip
           go_wp2_with fail
           go_ret
           exact⟨by rw[←HR.out];rfl,HB.out⟩
    ·skip
     go_wp2_with fail
     replace c3':=fun q=> AT c3' q
     replace c4:=fun q=> AT c4 q
     refine A4 (by kernel_rfl) (by kernel_rfl) ?_
     repeat (first|go_big_quiet_skip|(go_big_quiet_want;go_big_quiet_op;(first|go_big_quiet_on|(apply Exists.intro;refine⟨fun _=> ?_,?_⟩;(focus (first|(go_at_call 134;with_reducible exact A8 (C1.out _))|(go_at_call 135;with_reducible exact A8 (C2.out _))));go_big_quiet_on))))
     refine wpQuiet_nil ?_
     intro w2 hw2
     obtain⟨x2,rfl⟩:=hw2
     have HB:=Ag (An HA1.out.1 (AO a1 x2) (Ah _))
     replace c1':=AT c1' x2
     replace c2':=AT c2' x2
     clear c0 c3' c4 C1 C2
     generalize Bh a1 x2=w2 at HB c1' c2' ⊢
     go_wp2_with fail
     refine(HU.out w2).mono ?_
     rintro e' w' ⟨rfl,rfl⟩
     cases bU
     ·skip
      go_wp2_with fail
      refine(HU.out w2).mono ?_
      rintro e' w' ⟨rfl,rfl⟩
      have eu0:=Eu0.out
      cases u0
      ·skip
       go_wp2_with fail
       go_ret
       exact⟨by rw[←HR.out];rfl,HB.out⟩
      ·skip
       go_wp2_with fail
       refine(HN.out w2).mono ?_
       rintro e' w' ⟨rfl,rfl⟩
       cases bN
       ·skip
        go_wp2_with fail
        refine(HN.out w2).mono ?_
        rintro e' w' ⟨rfl,rfl⟩
        have en0:=En0.out
        cases n0
        ·skip
         go_wp2_with fail
         go_ret
         exact⟨by rw[←HR.out];rfl,HB.out⟩
        ·skip
         go_wp2_with fail
         go_ret
         exact⟨by rw[←HR.out];rfl,HB.out⟩
       ·skip
        have ege:=Ege.out
        cases ge
        ·skip
         go_wp2_with fail
         refine(HN.out w2).mono ?_
         rintro e' w' ⟨rfl,rfl⟩
         go_wp2_with fail
         go_ret
         exact⟨by rw[←HR.out];rfl,HB.out⟩
        ·skip
         have ele:=Ele.out
         cases le
         ·skip
          go_wp2_with fail
          refine(HN.out w2).mono ?_
          rintro e' w' ⟨rfl,rfl⟩
          go_wp2_with fail
          go_ret
          exact⟨by rw[←HR.out];rfl,HB.out⟩
         ·skip
          go_wp2_with fail
          go_ret
          exact⟨by rw[←HR.out];rfl,HB.out⟩
     ·skip
      go_wp2_with fail
      refine(HKN.out w2).mono ?_
      rintro e' w' ⟨rfl,rfl⟩
      cases kn
      ·skip
       go_wp2_with fail
       refine(HU.out w2).mono ?_
       rintro e' w' ⟨rfl,rfl⟩
       go_wp2_with fail
       go_ret
       exact⟨by rw[←HR.out];rfl,HB.out⟩
      ·skip
       go_wp2_with fail
       refine(HN.out w2).mono ?_
       rintro e' w' ⟨rfl,rfl⟩
       cases bN
       ·skip
        go_wp2_with fail
        refine(HN.out w2).mono ?_
        rintro e' w' ⟨rfl,rfl⟩
        have en0:=En0.out
        cases n0
        ·skip
         go_wp2_with fail
         go_ret
         exact⟨by rw[←HR.out];rfl,HB.out⟩
        ·skip
         go_wp2_with fail
         go_ret
         exact⟨by rw[←HR.out];rfl,HB.out⟩
       ·skip
        have ege:=Ege.out
        cases ge
        ·skip
         go_wp2_with fail
         refine(HN.out w2).mono ?_
         rintro e' w' ⟨rfl,rfl⟩
         go_wp2_with fail
         go_ret
         exact⟨by rw[←HR.out];rfl,HB.out⟩
        ·skip
         have ele:=Ele.out
         cases le
         ·skip
          go_wp2_with fail
          refine(HN.out w2).mono ?_
          rintro e' w' ⟨rfl,rfl⟩
          go_wp2_with fail
          go_ret
          exact⟨by rw[←HR.out];rfl,HB.out⟩
         ·skip
          go_wp2_with fail
          go_ret
          exact⟨by rw[←HR.out];rfl,HB.out⟩
theorem AK {P:Program} (w:World) {ops:Array Oper} {rest:List Oper} {o:Oper} {a:Act} {Q:Exit→Act→World→Prop} (hgd:o.guard=none) (ty:TypeId) (x y:Operand) (ho:o.op=.store ty x y)
  (g i:Nat) (e:TypeId) (xs:List Value) (hb:Blk w g e xs) (hx:a.eval x=.pointer (some ⟨g,i,none⟩)) (v:Value) (hy:a.eval y=v) (hl:i<xs.length) (hi:(P.info? ty).map (·.size)=some 1) (h1:v.oneCell'=true) (hc:v.cells=#[v])
  (h:∀ w',Blk w' g e (xs.set i v)→Ch (·=g) w w'→w'.heap.size=w.heap.size→wpList P ops Q rest (a.put o.dst undef) w'):wpList P ops Q (o::rest) a w:=by
 refine wpList_plain hgd fun K' hK'=> ?_
 have hrun:(execOp a.eval o).run P w=.ok .skip (w.setCell ⟨g,i,none⟩ v):=by
  have hce:=hb.cell i
  rw[List.getElem?_eq_getElem hl] at hce
  have hst:=run_store P w ⟨g,i,none⟩ v .plain h1
  rw[hce] at hst
  simp only[hb.free] at hst
  unfold execOp
  have hsv:(storeVar ty ⟨g,i,none⟩ v).run P w=.ok () (w.setCell ⟨g,i,none⟩ v):=by
   cases hq:P.info? ty with
   | none=> simp[hq] at hi
   | some ii=>
    have hs:1=ii.size:=by simp[hq] at hi;omega
    have e1:=run_storeCells_cells (P:=P) g i [v] 0 w (fun j hj=> by
     obtain rfl:j=0:=by simpa using hj
     simp[hce]) (fun j hj=> hb.free _) (fun u hu=> by
      obtain rfl:u=v:=by simpa using hu
      exact h1)
    simp only[Nat.add_zero] at e1
    simp[storeVar,sizeOf,typeInfo,hq,hc,hs.symm,e1,World.setCells]
  simp only[ho,hx,hy,Instr.storeAt,Instr.sureAddr,Sem.run_bind,Sem.run_pure,Result.andThen_ok,hsv]
 unfold Oper.wp
 rw[hrun]
 exact hK' _ _ (h _ (hb.set i v) (Ch.set w ⟨g,i,none⟩ v) (by simp))
theorem EJ {P:Program} {ops:Array Oper} {rest:List Oper} {op:Oper} {a:Act} {w:World} {Q:Exit→Act→World→Prop} (hgd:Region.wanted op (yielded ops a.tmps)=true) (ty:TypeId) (x:Operand) (ho:op.op=.load ty x)
  (b o:Nat) (hx:a.eval x=.pointer (some ⟨b,o,none⟩)) (cs:List Value) (d:TypeDesc) (hc:w.rangeAt b o cs)
  (hu:P.underlying ty=some d) (hd:d.isRow=true) (hi:(P.info? ty).map (·.size)=some cs.length)
  (h:wpList P ops Q rest (a.put op.dst (.agg cs.toArray)) w):wpList P ops Q (op::rest) a w:=
 wpList_step fun _ hK=> by rw[if_pos hgd];exact wp_load_mid ty x ho b o hx cs d hc hu hd hi (hK _ _ h)
theorem Tryz.sizeInt1T:(Tryz.prog.info? 3).map (·.size)=some 1:=by kernel_rfl
mutual
def BP:Tm→Int→Int→Bool × Int
 | .mk k u n s ks,d,l=> if l - 1<0∨60<d∨Cy k u n s ks.length=false then (false,l - 1) else C6 ks (d+1) (l - 1)
def C6:List Tm→Int→Int→Bool × Int
 | [],_,l=> (true,l)
 | t::ts,d,l=> if (BP t d l).1=true then C6 ts d (BP t d l).2 else (false,(BP t d l).2)
end
theorem DS (t:Tm) (ts:List Tm) (d l:Int):C6 (t::ts) d l=if (BP t d l).1=true then C6 ts d (BP t d l).2 else (false,(BP t d l).2):=by rw[C6]
theorem Hy:∀ (ts:List Tm),(∀ t∈ts,∀ d l,(BP t d l).1=true→0≤(BP t d l).2∧(BP t d l).2<l)→∀ d l,0≤l→(C6 ts d l).1=true→0≤(C6 ts d l).2∧(C6 ts d l).2≤l
 | [],_,d,l,hl,_=> by rw[C6];exact⟨hl,Int.le_refl _⟩
 | t::ts,ih,d,l,hl,h=> by
  rw[DS] at h ⊢
  by_cases hk:(BP t d l).1=true
  ·rw[if_pos hk] at h ⊢
   have h1:=ih t List.mem_cons_self d l hk
   have h2:=Hy ts (fun t ht=> ih t (List.mem_cons_of_mem _ ht)) d _ h1.1 h
   omega
  ·rw[if_neg hk] at h;cases h
theorem Hz:∀ (t:Tm) (d l:Int),(BP t d l).1=true→0≤(BP t d l).2∧(BP t d l).2<l:=by
 refine Tm.ind fun k u n s ks ih d l h=> ?_
 rw[BP] at h ⊢
 by_cases hk:l - 1<0∨60<d∨Cy k u n s ks.length=false
 ·rw[if_pos hk] at h;cases h
 ·rw[if_neg hk] at h ⊢
  have:=Hy ks ih (d+1) (l - 1) (by omega) h
  omega
theorem Kx:∀ (t:Tm) (cs:List Value) (F:Nat→Prop) (d l:Int) (g:Nat) (w:World),TmC F w cs t→(∀ j,F j→j≠g)→Blk w g 3 [.int .i64 l]→0≤l→l≤100000→1≤d→d≤61→
  Calls Tryz.prog 122 #[.agg cs.toArray,.int .i64 d,.pointer (some ⟨g,0,none⟩)] w (fun e w'=> e=.returned (.bool (BP t d l).1)∧Blk w' g 3 [.int .i64 (BP t d l).2]∧Ch (·=g) w w'):=by
 refine Tm.ind fun k u n s ks ih cs F d l g w ht hF hg hl0 hl1 hd1 hd2=> ?_
 obtain⟨ao,c,rfl,hmc,hcm,hsl⟩:=ht.shape
 simp only[Tm.k,Tm.u,Tm.n,Tm.s,Tm.ks] at hmc hsl ⊢
 have HIH:=Ag ih
 have HF:=Ag hF
 obtain⟨R,hR⟩:∃ R,BP (.mk k u n s ks) d l=R:=⟨_,rfl⟩
 rw[hR]
 have HR:=Ag (show(if l - 1<0∨60<d∨Cy k u n s ks.length=false then (false,l - 1) else C6 ks (d+1) (l - 1))=R from by rw[←hR,BP])
 obtain⟨m,hm⟩:∃ m,ks.length=m:=⟨_,rfl⟩
 have HM:=Ag hm
 rw[hm] at hsl hmc ⊢
 have hm63:m≤9223372036854775807:=by unfold maxLen at hcm;omega
 have HGL:=Ag hg.lt
 have H0:=Ag (show Blk w g 3 [.int .i64 l]∧SlT F w (.slice ao m c) ks∧Ch (·=g) w w from⟨hg,hsl,Ch.refl _ _⟩)
 have lo: -9223372036854775808≤l - 1:=by omega
 have hi:l - 1≤9223372036854775807:=by omega
 clear ht hF hg hR hm ih hsl hmc hcm
 by_cases h1:l - 1<0
 ·have e1:decide (l - 1<0)=true:=by simpa using h1
  have HE:=Ag (show R=(false,l - 1) from by rw[←HR.out];exact if_pos (.inl h1))
  clear h1
  go_enter Tryz.func122,Tryz.ntmps122
  go_wp2_with (first
  | ((with_reducible refine Au w rfl 29 (.tmp 0) rfl (tmC k u n s (.slice ao m c)) rfl ?_);intro a1 hb hbel hsz;have HA1:=Ag (show Blk a1 g 3 ([.int .i64 l])∧SlT F a1 (.slice ao m c) ks∧Ch (·=g) w a1∧Blk a1 w.heap.size 29 (tmC k u n s (.slice ao m c)) from⟨H0.out.1.below hbel H0.out.1.lt,H0.out.2.1.below hbel,H0.out.2.2.trans (Ch.of_below hbel (Ah _)),hb⟩);have cg:=HA1.out.1.cell 0;simp only[Ab] at cg;clear hb hbel hsz)
  | ((with_reducible refine AK a1 rfl 3 (.tmp 13) (.tmp 12) rfl g 0 3 [.int .i64 l] HA1.out.1 rfl (.int .i64 (l - 1)) rfl (by simp) Tryz.sizeInt1T rfl rfl ?_);intro a2 hb hc hs;have HA2:=Ag (show Blk a2 g 3 ([.int .i64 (l - 1)])∧SlT F a2 (.slice ao m c) ks∧Ch (·=g) w a2∧Blk a2 w.heap.size 29 (tmC k u n s (.slice ao m c)) from⟨hb,HA1.out.2.1.keep hc HF.out,HA1.out.2.2.1.trans hc,HA1.out.2.2.2.keep hc (fun e=> by have e:w.heap.size=g:=e;have:=HGL.out;omega)⟩);have cg2:=HA2.out.1.cell 0;simp only[Ab] at cg2;clear hb hc hs cg))
  go_ret
  exact⟨by rw[HE.out];rfl,by rw[HE.out];exact HA2.out.1,HA2.out.2.2.1⟩
 have e1:decide (l - 1<0)=false:=by simpa using h1
 by_cases h2:60<d
 ·have e2:decide (60<d)=true:=by simpa using h2
  have HE:=Ag (show R=(false,l - 1) from by rw[←HR.out];exact if_pos (.inr (.inl h2)))
  clear h1 h2
  go_enter Tryz.func122,Tryz.ntmps122
  go_wp2_with (first
  | ((with_reducible refine Au w rfl 29 (.tmp 0) rfl (tmC k u n s (.slice ao m c)) rfl ?_);intro a1 hb hbel hsz;have HA1:=Ag (show Blk a1 g 3 ([.int .i64 l])∧SlT F a1 (.slice ao m c) ks∧Ch (·=g) w a1∧Blk a1 w.heap.size 29 (tmC k u n s (.slice ao m c)) from⟨H0.out.1.below hbel H0.out.1.lt,H0.out.2.1.below hbel,H0.out.2.2.trans (Ch.of_below hbel (Ah _)),hb⟩);have cg:=HA1.out.1.cell 0;simp only[Ab] at cg;clear hb hbel hsz)
  | ((with_reducible refine AK a1 rfl 3 (.tmp 13) (.tmp 12) rfl g 0 3 [.int .i64 l] HA1.out.1 rfl (.int .i64 (l - 1)) rfl (by simp) Tryz.sizeInt1T rfl rfl ?_);intro a2 hb hc hs;have HA2:=Ag (show Blk a2 g 3 ([.int .i64 (l - 1)])∧SlT F a2 (.slice ao m c) ks∧Ch (·=g) w a2∧Blk a2 w.heap.size 29 (tmC k u n s (.slice ao m c)) from⟨hb,HA1.out.2.1.keep hc HF.out,HA1.out.2.2.1.trans hc,HA1.out.2.2.2.keep hc (fun e=> by have e:w.heap.size=g:=e;have:=HGL.out;omega)⟩);have cg2:=HA2.out.1.cell 0;simp only[Ab] at cg2;clear hb hc hs cg))
  go_ret
  exact⟨by rw[HE.out];rfl,by rw[HE.out];exact HA2.out.1,HA2.out.2.2.1⟩
 have e2:decide (60<d)=false:=by simpa using h2
 have hd3:d+1≤9223372036854775807:=by omega
 have HN1:=Ag h1
 have HN2:=Ag h2
 clear h1 h2
 obtain⟨pb,hpb⟩:∃ b,Cy k u n s m=b:=⟨_,rfl⟩
 have HPB:=Ag (show Cy k u n s ks.length=pb from by rw[HM.out];exact hpb)
 have C1:=Ag (fun w=> JR k u n s ao m c w)
 rw[hpb] at C1
 clear hpb
 go_enter Tryz.func122,Tryz.ntmps122
 go_wp2_with (first
  | ((with_reducible refine Au w rfl 29 (.tmp 0) rfl (tmC k u n s (.slice ao m c)) rfl ?_);intro a1 hb hbel hsz;have HA1:=Ag (show Blk a1 g 3 ([.int .i64 l])∧SlT F a1 (.slice ao m c) ks∧Ch (·=g) w a1∧Blk a1 w.heap.size 29 (tmC k u n s (.slice ao m c)) from⟨H0.out.1.below hbel H0.out.1.lt,H0.out.2.1.below hbel,H0.out.2.2.trans (Ch.of_below hbel (Ah _)),hb⟩);have cg:=HA1.out.1.cell 0;simp only[Ab] at cg;clear hb hbel hsz)
  | ((with_reducible refine AK a1 rfl 3 (.tmp 13) (.tmp 12) rfl g 0 3 [.int .i64 l] HA1.out.1 rfl (.int .i64 (l - 1)) rfl (by simp) Tryz.sizeInt1T rfl rfl ?_);intro a2 hb hc hs;have HA2:=Ag (show Blk a2 g 3 ([.int .i64 (l - 1)])∧SlT F a2 (.slice ao m c) ks∧Ch (·=g) w a2∧Blk a2 w.heap.size 29 (tmC k u n s (.slice ao m c)) from⟨hb,HA1.out.2.1.keep hc HF.out,HA1.out.2.2.1.trans hc,HA1.out.2.2.2.keep hc (fun e=> by have e:w.heap.size=g:=e;have:=HGL.out;omega)⟩);have cg2:=HA2.out.1.cell 0;simp only[Ab] at cg2;clear hb hc hs cg)
  | ((with_reducible refine EJ ?_ 29 (.tmp 3) rfl w.heap.size 0 rfl (tmC k u n s (.slice ao m c)) _ (As HA2.out.2.2.2) Tryz.underlying29 rfl (A9 _ _ _ _ _) ?_);focus rfl))
 refine Calls.mono (C1.out a2) ?_
 rintro e' a3 ⟨rfl,hb⟩
 have HA3:=hJ4 (HA2.out.1.below hb HA2.out.1.lt) (HA2.out.2.1.below hb) (HA2.out.2.2.1.trans (Ch.of_below hb (Ah _))) (HA2.out.2.2.2.below hb HA2.out.2.2.2.lt)
 have c4:=HA3.out.2.2.2.cell 4
 simp only[tmC,Ab,Ac] at c4
 clear hb cg2 C1
 cases pb
 ·skip
  have HE:=Ag (show R=(false,l - 1) from by rw[←HR.out];exact if_pos (.inr (.inr HPB.out)))
  go_wp2_with fail
  go_ret
  exact⟨by rw[HE.out];rfl,by rw[HE.out];exact HA3.out.1,HA3.out.2.2.1⟩
 have HN3:=Ag (show ¬ Cy k u n s ks.length=false from by rw[HPB.out];simp)
 go_wp2_with fail
 clear c4
 have HRL:=Ag (show C6 ks (d+1) (l - 1)=R from by rw[←HR.out];exact(if_neg (by intro hx;have a1:=HN1.out;have a2:=HN2.out;rcases hx with hx|hx|hx;omega;omega;exact HN3.out hx)).symm)
 have hl2:0≤l - 1:=by have a1:=HN1.out;omega
 have hd4:d≤60:=by have a1:=HN2.out;omega
 go_loopw [30] (fun i wr=> ∃ (j:Nat) (lj:Int),i=.int .i64 j∧j≤m∧0≤lj∧lj<l∧Hid (C6 (ks.drop j) (d+1) lj=R)∧Hid (Blk wr g 3 [.int .i64 lj]∧SlT F wr (.slice ao m c) ks∧Ch (·=g) w wr)) (fun i _=> m - (intOf i).toNat)
 case atStart=> exact⟨0,l - 1,rfl,Nat.zero_le _,by omega,by omega,Ag (by rw[List.drop_zero];exact HRL.out),Ag ⟨HA3.out.1,HA3.out.2.1,HA3.out.2.2.1⟩⟩
 case round=>
  clear HA3 HRL
  obtain⟨j,lj,rfl,hj,hlj0,hlj1,HQ,HZ⟩:=hrel
  by_cases hlt:j<m
  ·have hjk:j<ks.length:=by rw[HM.out];exact hlt
   have hjz:(j:Int)<(m:Int):=by omega
   have hj0:(0:Int)≤(j:Int):=by omega
   have HJ:=Ag hjk
   obtain⟨b,o,csj,rfl,hFb,hbl,hra,htm⟩:=HZ.out.2.1.get hjk
   have HMEM:=Ag (List.getElem_mem hjk)
   have HDR:=Ag (List.drop_eq_getElem_cons hjk)
   generalize ks[j]=kj at htm HMEM HDR
   obtain⟨aj,cj,rfl,-,-,-⟩:=htm.shape
   have HRA:=Ag hra
   have HTM:=Ag htm
   have HQ2:=Ag (show C6 (kj::ks.drop (j+1)) (d+1) lj=R from by rw[←HDR.out];exact HQ.out)
   clear hra htm hjk hFb hbl
   go_wp2_with (first
  | (with_reducible refine Ap rfl 29 (.tmp 32) rfl b (o+j* 5) rfl (tmC kj.k kj.u kj.n kj.s (.slice aj kj.ks.length cj)) _ HRA.out Tryz.underlying29 rfl (A9 _ _ _ _ _) ?_)
  | ((with_reducible refine Av wr rfl 29 rfl (tmC 0 0 0 ⟨#[]⟩ (.slice none 0 0)) Tryz.zeroTm ?_);intro b1 hb hbel hsz;have HB1:=Ag (show Blk b1 g 3 ([.int .i64 lj])∧SlT F b1 (.slice (some ⟨b,o,none⟩) m c) ks∧Ch (·=g) w b1∧Blk b1 wr.heap.size 29 (tmC 0 0 0 ⟨#[]⟩ (.slice none 0 0))∧TmC F b1 (tmC kj.k kj.u kj.n kj.s (.slice aj kj.ks.length cj)) kj from⟨HZ.out.1.below hbel HZ.out.1.lt,HZ.out.2.1.below hbel,HZ.out.2.2.trans (Ch.of_below hbel (Ah _)),hb,HTM.out.below hbel⟩);have HBL:=Ag hbel;clear hb hbel hsz)
  | ((with_reducible refine Ao b1 rfl 29 (.tmp 8) (.tmp 33) rfl wr.heap.size 29 (tmC 0 0 0 ⟨#[]⟩ (.slice none 0 0)) (tmC kj.k kj.u kj.n kj.s (.slice aj kj.ks.length cj)) HB1.out.2.2.2.1 rfl rfl rfl (A9 _ _ _ _ _) (AS _ _ _ _ _ _ _) ?_);intro b2 hb hc hs;have hbw:Below wr.heap.size wr b2:=Aw HBL.out hc (Ah _) (fun k hk=> by have e:k=wr.heap.size:=hk;omega);have HB2:=Ag (show Blk b2 g 3 ([.int .i64 lj])∧SlT F b2 (.slice (some ⟨b,o,none⟩) m c) ks∧Ch (·=g) w b2∧Blk b2 wr.heap.size 29 (tmC kj.k kj.u kj.n kj.s (.slice aj kj.ks.length cj))∧TmC F b2 (tmC kj.k kj.u kj.n kj.s (.slice aj kj.ks.length cj)) kj from⟨HZ.out.1.below hbw HZ.out.1.lt,HZ.out.2.1.below hbw,HZ.out.2.2.trans (Ch.of_below hbw (Ah _)),hb,HTM.out.below hbw⟩);clear hb hc hs hbw)
  | (with_reducible refine Ap rfl 29 (.tmp 8) rfl wr.heap.size 0 rfl (tmC kj.k kj.u kj.n kj.s (.slice aj kj.ks.length cj)) _ (As HB2.out.2.2.2.1) Tryz.underlying29 rfl (A9 _ _ _ _ _) ?_))
   have hx:=HIH.out kj HMEM.out _ F (d+1) lj g b2 HB2.out.2.2.2.2 HF.out HB2.out.1 (by omega) (by omega) (by omega) (by omega)
   obtain⟨⟨rb,l2⟩,hr⟩:∃ r,BP kj (d+1) lj=r:=⟨_,rfl⟩
   have HRK:=Ag hr
   rw[hr] at hx
   clear hr
   refine Calls.mono hx ?_
   clear hx
   rintro e' b3 ⟨rfl,hb,hc⟩
   have HB3:=hJ3 hb (HB2.out.2.1.keep hc HF.out) (HB2.out.2.2.1.trans hc)
   clear hb hc
   cases rb
   ·skip
    have HE:=Ag (show R=(false,l2) from by rw[←HQ2.out,DS,HRK.out];rfl)
    go_wp2_with fail
    go_ret
    exact⟨by rw[HE.out];rfl,by rw[HE.out];exact HB3.out.1,HB3.out.2.2⟩
   ·skip
    have hbd:=Hz kj (d+1) lj (by rw[HRK.out])
    rw[HRK.out] at hbd
    have hb1:0≤l2:=hbd.1
    have hb2:l2<lj:=hbd.2
    clear hbd
    have HQ3:=Ag (show C6 (ks.drop (j+1)) (d+1) l2=R from by have h:=HQ2.out;rw[DS,HRK.out] at h;exact h)
    go_wp2_with fail
    go_roundw
    case rel=> exact⟨j+1,l2,by go_num,by omega,by omega,by omega,HQ3,HB3⟩
    case measure=> simp[intOf];omega
  ·have hge:¬ (j:Int)<(m:Int):=by omega
   have HE:=Ag (show R=(true,lj) from by rw[←HQ.out,List.drop_of_length_le (by rw[HM.out];omega),C6])
   go_wp2_with fail
   go_ret
   exact⟨by rw[HE.out];rfl,by rw[HE.out];exact HZ.out.1,HZ.out.2.2⟩
end Go.Proofs.YtgdlfiphihaooaaGreat

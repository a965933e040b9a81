import Derived.Test.YtgdlfiphihaooaaGreatYq33
set_option linter.unusedSimpArgs false
set_option linter.unusedVariables false
set_option maxRecDepth 100000
set_option maxHeartbeats 8000000
open _root_.List renaming getElem?_toArray→Aa,getElem?_cons_zero→Ab,getElem?_cons_succ→Ac,setIfInBounds_toArray→Ad,set_cons_zero→Ae,set_cons_succ→Af
open _root_.Go.Lib renaming hid→Ag
open _root_.Nat renaming le_refl→Ah,le_trans→Aj,lt_of_lt_of_le→Ak
open _root_.And renaming intro→Ai
open _root_.Go.Act renaming put→Al
namespace Go.Proofs.YtgdlfiphihaooaaGreat
open Go Go.RowKit
theorem Cw {p:PmD} {r:Int × PmD} (hp:OkP p) (h:(Bj p r).2=0):r.1=0∧(Bj p r).1=r.2:=by
 unfold Bj at h ⊢
 rw[if_pos (DW.2 hp)] at h ⊢
 by_cases hr:r.1=0
 ·rw[if_pos hr];exact⟨hr,rfl⟩
 ·rw[if_neg hr] at h;exact absurd h hr
theorem F7 {p:PmD} (hp:OkP p) (h:(BQ p).1=0):p.e≠8∧(BQ p).2={p with e:=p.e+1}∧OkP {p with e:=p.e+1}:=by
 unfold BQ at h ⊢
 by_cases he:p.e=8
 ·rw[if_pos he] at h;cases h
 ·rw[if_neg he]
  exact⟨he,rfl,hp.o,⟨by have:=hp.e.1;simp only;omega,by have:=hp.e.2;simp only;omega⟩,hp.r,hp.q,hp.g,hp.w⟩
theorem LI {p:PmD} (hp:OkP p) (n:Int):OkP {p with r:=Bd (n==·) p.r,q:=Bd (n==·) p.q}:=
 ⟨hp.o,hp.e,EC hp.r,EC hp.q,hp.g,fun m hm=> Dc.2 ⟨hp.w m (Dc.1 hm).1,(Dc.1 hm).2⟩⟩
theorem Le {p:PmD} (hp:OkP p) (n:Int):OkP {p with g:=Bd (n==·) p.g}:=
 ⟨hp.o,hp.e,hp.r,hp.q,EC hp.g,hp.w⟩
theorem JH {p:PmD} (hp:OkP p) {b n:Int} (h:(Cv p b n).1=0):
  b=p.o∧BE p.o n=true∧n∈p.r∧(Cv p b n).2={p with e:=p.e+1,r:=Bd (n==·) p.r,q:=Bd (n==·) p.q}∧OkP (Cv p b n).2:=by
 unfold Cv at h ⊢
 by_cases h1:b=p.o
 ·rw[if_neg (by simpa using h1)] at h ⊢
  by_cases h2:AX n=false∨n=p.o
  ·rw[if_pos h2] at h;cases h
  ·rw[if_neg h2] at h ⊢
   by_cases h3:inB p.r n=false
   ·rw[if_pos h3] at h;cases h
   ·rw[if_neg h3] at h ⊢
    obtain⟨a,b,c⟩:=F7 (LI hp n) h
    refine⟨h1,?_,CN.1 (by simpa using h3),b,b ▸ c⟩
    unfold BE
    have a:AX n=true:=by
     cases hu:AX n with
     | true=> rfl
     | false=> exact(h2 (.inl hu)).elim
    have b:n≠p.o:=fun e=> h2 (.inr e)
    simp[a,b]
 ·rw[if_pos h1] at h;cases h
theorem Kk {p:PmD} (hp:OkP p) {b n:Int} (h:(Cn p b n).1=0):b=p.o∧(Cn p b n).2={p with g:=Bv p.g n}∧OkP (Cn p b n).2:=by
 unfold Cn at h ⊢
 by_cases h1:b=p.o
 ·rw[if_neg (by simpa using h1)] at h ⊢
  by_cases h2:BD n=false
  ·rw[if_pos h2] at h;cases h
  ·rw[if_neg h2] at h ⊢
   by_cases h3:inB p.g n=true
   ·rw[if_pos h3] at h;cases h
   ·rw[if_neg h3]
    exact⟨h1,rfl,hp.o,hp.e,hp.r,hp.q,EB hp.g (by simpa using h2),hp.w⟩
 ·rw[if_pos h1] at h;cases h
theorem Lf {p:PmD} (hp:OkP p) {b n:Int} (h:(CY p b n).1=0):b=p.o∧(CY p b n).2={p with e:=p.e+1,g:=Bd (n==·) p.g}∧OkP (CY p b n).2:=by
 unfold CY at h ⊢
 by_cases h1:b=p.o
 ·rw[if_neg (by simpa using h1)] at h ⊢
  by_cases h2:BD n=false
  ·rw[if_pos h2] at h;cases h
  ·rw[if_neg h2] at h ⊢
   by_cases h3:inB p.g n=false
   ·rw[if_pos h3] at h;cases h
   ·rw[if_neg h3] at h ⊢
    obtain⟨a,b,c⟩:=F7 (Le hp n) h
    exact⟨h1,b,b ▸ c⟩
 ·rw[if_pos h1] at h;cases h
theorem ChkP.fp {s:IdM} (h:ChkP s):s.fs.Pairwise (fun x y=> BS x.nm y.nm<0):=(Dd (lt:=fun x y:FileM=> BS x.nm y.nm<0) (fun a b=> La a.nm b.nm) (fun a b c=> BU.trans _ _ _) _).1 h.fr
theorem ChkP.cp {s:IdM} (h:ChkP s):s.cs.Pairwise (fun x y=> BA x.n y.n<0):=(Dd (lt:=fun x y:CirM=> BA x.n y.n<0) (fun a b=> Lb a.n b.n) (fun a b c=> DO.trans _ _ _) _).1 h.cr
theorem JI {l:List FileM} (h:l.Pairwise (fun x y=> BS x.nm y.nm<0)):BF (fun x y:FileM=> geS x.nm y.nm) l=true:=(Dd (lt:=fun x y:FileM=> BS x.nm y.nm<0) (fun a b=> La a.nm b.nm) (fun a b c=> BU.trans _ _ _) _).2 h
theorem Lg {l:List CirM} (h:l.Pairwise (fun x y=> BA x.n y.n<0)):BF (fun x y:CirM=> geN x.n y.n) l=true:=(Dd (lt:=fun x y:CirM=> BA x.n y.n<0) (fun a b=> Lb a.n b.n) (fun a b c=> DO.trans _ _ _) _).2 h
theorem IG {s:IdM} (h:s.cs.Pairwise (fun x y=> BA x.n y.n<0)) {o n:Int}:DG s o n=true↔∃ c∈s.cs,c.n=n∧c.o=o:=by
 unfold DG By
 rw[Bool.and_eq_true,beq_iff_eq]
 constructor
 ·rintro⟨h1,h2⟩
  obtain⟨x,h3,h4,h5⟩:=CE (key:=CirM.n) DO h1
  rw[h3] at h2
  exact⟨x,h5,h4,by simpa using h2⟩
 ·rintro⟨c,hc,e1,e2⟩
  obtain⟨h1,h2⟩:=IE (key:=CirM.n) DO h hc e1
  refine⟨h1,?_⟩
  rw[h2]
  simpa using e2
def JJ (s s':IdM):Prop:=∀ c∈s.cs,∃ c'∈s'.cs,c'.n=c.n∧c'.o=c.o
theorem JJ.grp {s s':IdM} (h:JJ s s') (h1:s.cs.Pairwise (fun x y=> BA x.n y.n<0)) (h2:s'.cs.Pairwise (fun x y=> BA x.n y.n<0)) {o n:Int} (hg:DG s o n=true):DG s' o n=true:=by
 obtain⟨c,hc,e1,e2⟩:=(IG h1).1 hg
 obtain⟨c',hc',e3,e4⟩:=h c hc
 exact(IG h2).2 ⟨c',hc',e3.trans e1,e4.trans e2⟩
theorem Ft {s:IdM} {f:FileM} (h1:OkP f.p) (h2:BI f.nm=f.p.o) (h3:f.e≤f.p.e) (h4:wrB (Bl f)=true) (h5:∀ n∈f.p.g,DG s f.p.o n=true):Dr s f=true:=by
 unfold Dr
 simp only[Bool.and_eq_true,decide_eq_true_eq,beq_iff_eq,List.all_eq_true]
 exact⟨⟨DW.2 h1,h2,h3,h4⟩,h5⟩
theorem Jr {s s':IdM} (h:JJ s s') (h1:s.cs.Pairwise (fun x y=> BA x.n y.n<0)) (h2:s'.cs.Pairwise (fun x y=> BA x.n y.n<0)) {f:FileM} (hf:Dr s f=true):Dr s' f=true:=by
 obtain⟨a,b,c,d,e⟩:=Bq hf
 exact Ft a b c d fun n hn=> h.grp h1 h2 (e n hn)
theorem GJ {s s':IdM} (h:s.cs=s'.cs) {f:FileM} (hf:Dr s f=true):Dr s' f=true:=by
 obtain⟨a,b,c,d,e⟩:=Bq hf
 refine Ft a b c d fun n hn=> ?_
 have:=e n hn
 unfold DG By at this ⊢
 rw[←h]
 exact this
theorem Lh {c:CirM} (h1:1≤c.n) (h2:c.n≤3) (h3:AX c.o=true) (h4:c.us.Pairwise (·<·)) (h5:∀ u∈c.us,AX u=true):Er c=true:=by
 unfold Er
 simp only[Bool.and_eq_true,decide_eq_true_eq,Bool.not_eq_true',List.any_eq_false]
 refine⟨h1,h2,h3,(Dd (lt:=(·<·)) (fun a b=> by unfold geN;simp) (fun a b c=> Int.lt_trans) _).2 h4,fun u hu=> by rw[h5 u hu];simp⟩
theorem wr_of {x:WrM} (h1:0<BI x.nm) (h2:1≤x.v) (h3:x.v≤9999) (h4:1≤x.e) (h5:x.e≤8) (h6:AX x.u=true) (h7:Dg x.b=true):wrB x=true:=by
 unfold wrB
 simp only[Bool.and_eq_true,decide_eq_true_eq]
 exact⟨h1,h2,h3,h4,h5,h6,h7⟩
theorem mem_set {α:Type} {l:List α} {i:Nat} {x y:α} (h:y∈l.set i x):y=x∨y∈l:=by
 rcases List.mem_or_eq_of_mem_set h with h|h
 ·exact .inr h
 ·exact .inl h
theorem DP {o:OpM} (h:opB o=true):1≤o.k∧o.k≤10∧AX o.u=true∧(o.k≤7→0<BI o.nm)∧(o.k≤2→Dg o.b=true):=by
 unfold opB at h
 simp only[Bool.and_eq_true,Bool.or_eq_true,decide_eq_true_eq] at h
 obtain⟨⟨h1,h2,h3⟩,h4,h5⟩:=h
 refine⟨h1,h2,h3,fun h=> ?_,fun h=> ?_⟩
 ·rcases h4 with h4|h4
  ·omega
  ·exact h4
 ·rcases h5 with h5|h5
  ·omega
  ·exact h5
theorem II {s:IdM} {f:FileM} {o:OpM} (hf:Dr s f=true) (h1:f.v≠9999) (h2:AX o.u=true) (h3:Dg o.b=true):wrB (Bl (BB f o))=true:=by
 obtain⟨a,b,c,d,e⟩:=Bq hf
 obtain⟨d1,d2,d3,d4,d5,d6,d7⟩:=Ec d
 unfold Bl at d1 d2 d3
 simp only at d1 d2 d3
 unfold BB Bl
 exact wr_of d1 (by simp only;omega) (by simp only;omega) a.e.1 a.e.2 h2 h3
theorem Kl {s:IdM} {f:FileM} {o:OpM} (hf:Dr s f=true) (h1:f.v≠9999) (h2:AX o.u=true) (h3:Dg o.b=true):Dr s (BB f o)=true:=by
 have hw:=II hf h1 h2 h3
 obtain⟨a,b,c,d,e⟩:=Bq hf
 exact Ft a b (Int.le_refl _) hw e
theorem Li {o:OpM} (h2:AX o.u=true):(I3 o.u).1=⟨o.u,1,[],[],[]⟩∧OkP ⟨o.u,1,[],[],[]⟩:=by
 refine⟨by unfold I3;rw[if_pos h2],h2,⟨Int.le_refl _,by show(1:Int)≤8;decide⟩,rfl,rfl,rfl,fun n hn=> absurd hn (by simp)⟩
theorem GK {s:IdM} {o:OpM} (h:ChkP s) (ho:opB o=true) (hk:o.k=1):ChkP (Cg s o).1:=by
 obtain⟨o1,o2,o3,o4,o5⟩:=DP ho
 unfold Cg
 by_cases h1:BI o.nm≠o.u
 ·rw[if_pos h1];exact h
 ·rw[if_neg h1]
  by_cases h2:(Bm s o.nm).2=true
  ·rw[if_pos h2];exact h
  ·rw[if_neg h2]
   by_cases h3:s.fs.length=6∨s.ws.length=400
   ·rw[if_pos h3];exact h
   ·rw[if_neg h3]
    obtain⟨n1,n2⟩:=Li o3
    have hi:=(Fs (key:=FileM.nm) BU h.fp o.nm).1
    have hu:=DI o3
    have hn:BI o.nm=o.u:=by simpa using h1
    have hW:wrB (Bl (BB (Cs o) o))=true:=by
     unfold BB Cs Bl
     rw[n1]
     exact wr_of (by simp only;omega) (by simp) (by simp) (by simp) (by simp) o3 (o5 (by omega))
    have hF:∀ s':IdM,Dr s' (BB (Cs o) o)=true:=fun s'=> by
     refine Ft ?_ ?_ (Int.le_refl _) hW ?_
     ·unfold BB Cs;rw[n1];exact n2
     ·unfold BB Cs;rw[n1];exact hn
     ·unfold BB Cs;rw[n1];intro n hn;simp at hn
    have hins:(BY s.fs (Bm s o.nm).1 (BB (Cs o) o)).length=s.fs.length+1:=by
     unfold BY Bm
     rw[List.length_append,List.length_cons,List.length_take,List.length_drop]
     omega
    refine⟨?_,?_,JI ?_,h.cr,h.c,?_,?_⟩
    ·rw[hins];have:=h.fl;omega
    ·rw[List.length_append,List.length_singleton];have:=h.wl;omega
    ·have hf:(AU (fun y:FileM=> BS y.nm o.nm) s.fs).2=false:=by simpa [Bm] using h2
     exact IF (key:=FileM.nm) (x:=BB (Cs o) o) BU h.fp hf
    ·intro f hf
     rcases De.1 hf with rfl|hf
     ·exact hF _
     ·exact GJ rfl (h.f f hf)
    ·intro x hx
     rcases List.mem_append.1 hx with hx|hx
     ·exact h.w x hx
     ·rw[List.mem_singleton.1 hx];exact hW
theorem FG {s:IdM} {o:OpM} (h:ChkP s) (ho:opB o=true) (hk:o.k=2∨o.k=3):ChkP (Bt s o).1:=by
 obtain⟨o1,o2,o3,o4,o5⟩:=DP ho
 unfold Bt
 by_cases h1:(Bm s o.nm).2=false
 ·rw[if_pos h1];exact h
 ·rw[if_neg h1]
  have h1':(AU (fun x:FileM=> BS x.nm o.nm) s.fs).2=true:=by simpa [Bm] using h1
  obtain⟨f,e1,e2,e3⟩:=CE (key:=FileM.nm) BU h1'
  have e1':s.fs[(Bm s o.nm).1]?=some f:=e1
  rw[e1']
  simp only
  by_cases h2:o.k=3∧CC f.p o.u (BX s.cs)=true
  ·rw[if_pos h2];exact h
  ·rw[if_neg h2]
   by_cases h3:o.k=3∨Dt f.p o.u=false
   ·rw[if_pos h3];exact h
   ·rw[if_neg h3]
    by_cases h4:f.v=9999∨s.ws.length=400
    ·rw[if_pos h4];exact h
    ·rw[if_neg h4]
     have hb:=o5 (by omega)
     have hv:f.v≠9999:=fun e=> h4 (.inl e)
     refine⟨by simp only[List.length_set];exact h.fl,?_,JI ?_,h.cr,h.c,?_,?_⟩
     ·rw[List.length_append,List.length_singleton];have:=h.wl;omega
     ·exact GI (key:=FileM.nm) h.fp e1 rfl
     ·intro g hg
      rcases mem_set hg with rfl|hg
      ·exact GJ (s:=s) rfl (Kl (h.f f e3) hv o3 hb)
      ·exact GJ (s:=s) rfl (h.f g hg)
     ·intro x hx
      rcases List.mem_append.1 hx with hx|hx
      ·exact h.w x hx
      ·rw[List.mem_singleton.1 hx];exact II (h.f f e3) hv o3 hb
theorem LJ {s:IdM} {p:PmD} {o:OpM} (hc:s.cs.Pairwise (fun x y=> BA x.n y.n<0)) (hp:OkP p) (h:(BV s p o).2=0):OkP (BV s p o).1∧(BV s p o).1.o=p.o∧p.e≤(BV s p o).1.e∧∀ n∈(BV s p o).1.g,n∈p.g∨DG s p.o n=true:=by
 unfold BV at h ⊢
 by_cases k4:o.k=4
 ·rw[if_pos k4] at h ⊢
  obtain⟨h1,h2⟩:=Cw hp h
  obtain⟨-,-,-,h3,h4⟩:=Iv hp h1
  rw[h2]
  refine⟨h4,?_⟩
  rw[h3]
  exact⟨rfl,Int.le_refl _,fun n hn=> .inl hn⟩
 rw[if_neg k4] at h ⊢
 by_cases k5:o.k=5
 ·rw[if_pos k5] at h ⊢
  obtain⟨h1,h2⟩:=Cw hp h
  obtain⟨-,-,-,h3,h4⟩:=JH hp h1
  rw[h2]
  refine⟨h4,?_⟩
  rw[h3]
  exact⟨rfl,by simp only;omega,fun n hn=> .inl hn⟩
 rw[if_neg k5] at h ⊢
 by_cases k6:o.k=6
 ·rw[if_pos k6] at h ⊢
  by_cases h5:(By s o.g).2=false
  ·rw[if_pos h5] at h;cases h
  ·rw[if_neg h5] at h ⊢
   by_cases h6:((s.cs[(By s o.g).1]?.map CirM.o).getD 0)≠o.u
   ·rw[if_pos h6] at h;cases h
   ·rw[if_neg h6] at h ⊢
    obtain⟨h1,h2⟩:=Cw hp h
    obtain⟨hb,h3,h4⟩:=Kk hp h1
    rw[h2]
    refine⟨h4,?_⟩
    rw[h3]
    refine⟨rfl,Int.le_refl _,fun n hn=> ?_⟩
    rcases CK.1 hn with rfl|hn
    ·right
     unfold DG
     rw[Bool.and_eq_true,beq_iff_eq,←hb]
     exact⟨by simpa using h5,by simpa using h6⟩
    ·exact .inl hn
 rw[if_neg k6] at h ⊢
 by_cases k7:o.k=7
 ·rw[if_pos k7] at h ⊢
  obtain⟨h1,h2⟩:=Cw hp h
  obtain⟨-,h3,h4⟩:=Lf hp h1
  rw[h2]
  refine⟨h4,?_⟩
  rw[h3]
  exact⟨rfl,by simp only;omega,fun n hn=> .inl (Dc.1 hn).1⟩
 rw[if_neg k7]
 exact⟨hp,rfl,Int.le_refl _,fun n hn=> .inl hn⟩
theorem IJ {s:IdM} {o:OpM} (h:ChkP s):ChkP (Bf s o).1:=by
 unfold Bf
 by_cases h1:(Bm s o.nm).2=false
 ·rw[if_pos h1];exact h
 ·rw[if_neg h1]
  have h1':(AU (fun x:FileM=> BS x.nm o.nm) s.fs).2=true:=by simpa [Bm] using h1
  obtain⟨f,e1,e2,e3⟩:=CE (key:=FileM.nm) BU h1'
  have e1':s.fs[(Bm s o.nm).1]?=some f:=e1
  rw[e1']
  simp only
  by_cases h2:(BV s f.p o).2≠0
  ·rw[if_pos h2];exact h
  ·rw[if_neg h2]
   have h2':(BV s f.p o).2=0:=by simpa using h2
   obtain⟨a,b,c,d,e⟩:=Bq (h.f f e3)
   obtain⟨p1,p2,p3,p4⟩:=LJ h.cp a h2'
   refine⟨by simp only[List.length_set];exact h.fl,h.wl,JI ?_,h.cr,h.c,?_,h.w⟩
   ·exact GI (key:=FileM.nm) h.fp e1 rfl
   ·intro g hg
    rcases mem_set hg with rfl|hg
    ·refine GJ (s:=s) rfl (Ft p1 (by rw[p2];exact b) (Int.le_trans c p3) d fun n hn=> ?_)
     rw[p2]
     rcases p4 n hn with h|h
     ·exact e n h
     ·exact h
    ·exact GJ (s:=s) rfl (h.f g hg)
theorem Km {s:IdM} {o:OpM} (h:ChkP s) (ho:opB o=true):ChkP (Dn s o).1:=by
 obtain⟨o1,o2,o3,o4,o5⟩:=DP ho
 unfold Dn
 by_cases h1:o.g<1∨3<o.g
 ·rw[if_pos h1];exact h
 ·rw[if_neg h1]
  by_cases h2:(By s o.g).2=true
  ·rw[if_pos h2];exact h
  ·rw[if_neg h2]
   have hf:(AU (fun y:CirM=> BA y.n o.g) s.cs).2=false:=by simpa [By] using h2
   have hp:(BY s.cs (By s o.g).1 (⟨o.g,o.u,[]⟩:CirM)).Pairwise (fun x y=> BA x.n y.n<0):=IF (key:=CirM.n) (x:=(⟨o.g,o.u,[]⟩:CirM)) DO h.cp hf
   refine⟨h.fl,h.wl,h.fr,Lg hp,?_,?_,h.w⟩
   ·intro c hc
    rcases De.1 hc with rfl|hc
    ·exact Lh (by simp only;omega) (by simp only;omega) o3 .nil (fun u hu=> absurd hu (by simp))
    ·exact h.c c hc
   ·intro f hf'
    exact Jr (s:=s) (fun c hc=> ⟨c,De.2 (.inr hc),rfl,rfl⟩) h.cp hp (h.f f hf')
theorem JK {s:IdM} {i:Nat} {c c':CirM} {fs:List FileM} {ws:List WrM} (h:s.cs[i]?=some c) (e1:c'.n=c.n) (e2:c'.o=c.o):JJ s ⟨fs,s.cs.set i c',ws⟩:=fun x hx=> by
 obtain⟨j,hj,rfl⟩:=List.mem_iff_getElem.1 hx
 obtain⟨hi,rfl⟩:=List.getElem?_eq_some_iff.1 h
 by_cases hij:i=j
 ·subst hij
  exact⟨c',List.mem_set hi _,e1,e2⟩
 ·exact⟨s.cs[j],by
   have:(s.cs.set i c')[j]'(by rw[List.length_set];exact hj)=s.cs[j]:=List.getElem_set_ne hij _
   rw[←this];exact List.getElem_mem _,rfl,rfl⟩
theorem Ed {g:Int}:∀ {l:List FileM},(∀ f∈l,OkP f.p)→CT g l=0→∀ f∈l,f.p.g.any (g==·)=true→(Bj f.p (BQ f.p)).2=0
 | [],_,_,f,hf,_=> absurd hf (by simp)
 | a::t,ha,h,f,hf,hg=> by
  rw[CT] at h
  by_cases h1:a.p.g.any (g==·)=true∧(Bj a.p (BQ a.p)).2≠0
  ·rw[if_pos h1] at h;exact absurd h h1.2
  ·rw[if_neg h1] at h
   rcases List.mem_cons.1 hf with rfl|hf
   ·exact Classical.byContradiction fun e=> h1 ⟨hg,e⟩
   ·exact Ed (fun f hf=> ha f (List.mem_cons_of_mem _ hf)) h f hf hg
theorem IK {g:Int} {f:FileM} (hp:OkP f.p) (h:f.p.g.any (g==·)=true→(Bj f.p (BQ f.p)).2=0):Do g f=if f.p.g.any (g==·)=true then ⟨f.nm,{f.p with e:=f.p.e+1},f.v,f.e,f.u,f.b⟩ else f:=by
 unfold Do
 by_cases h1:f.p.g.any (g==·)=true
 ·rw[if_pos h1,if_pos h1]
  obtain⟨a,b⟩:=Cw hp (h h1)
  rw[b,(F7 hp a).2.1]
 ·rw[if_neg h1,if_neg h1]
theorem IL (g:Int) (f:FileM):(Do g f).nm=f.nm:=by unfold Do;split <;> rfl
theorem Lj {l:List FileM} {t:FileM→FileM} (h:l.Pairwise (fun x y=> BS x.nm y.nm<0)) (ht:∀ f,(t f).nm=f.nm):(l.map t).Pairwise (fun x y=> BS x.nm y.nm<0):=by
 rw[List.pairwise_map]
 exact h.imp (fun {a b} e=> by rw[ht,ht];exact e)
theorem Ko {s:IdM} {o:OpM} (h:ChkP s) (ho:opB o=true):ChkP (BZ s o).1:=by
 obtain⟨o1,o2,o3,o4,o5⟩:=DP ho
 unfold BZ
 by_cases h1:(By s o.g).2=false
 ·rw[if_pos h1];exact h
 ·rw[if_neg h1]
  have h1':(AU (fun x:CirM=> BA x.n o.g) s.cs).2=true:=by simpa [By] using h1
  obtain⟨c,e1,e2,e3⟩:=CE (key:=CirM.n) DO h1'
  have e1':s.cs[(By s o.g).1]?=some c:=e1
  rw[e1']
  simp only
  obtain⟨c1,c2,c3,c4,c5⟩:=El (h.c c e3)
  have hset:∀ us:List Int,us.Pairwise (·<·)→(∀ u∈us,AX u=true)→(s.cs.set (By s o.g).1 ⟨c.n,c.o,us⟩).Pairwise (fun x y=> BA x.n y.n<0)∧∀ x∈s.cs.set (By s o.g).1 ⟨c.n,c.o,us⟩,Er x=true:=fun us k1 k2=> by
   refine⟨GI (key:=CirM.n) h.cp e1 rfl,fun x hx=> ?_⟩
   rcases mem_set hx with rfl|hx
   ·exact Lh c1 c2 c3 k1 k2
   ·exact h.c x hx
  by_cases h2:c.o≠o.u
  ·rw[if_pos h2];exact h
  rw[if_neg h2]
  by_cases h3:o.k=9∧AX o.t=false
  ·rw[if_pos h3];exact h
  rw[if_neg h3]
  by_cases h4:o.k=9∧c.us.any (o.t==·)=true
  ·rw[if_pos h4];exact h
  rw[if_neg h4]
  by_cases h5:o.k=9
  ·rw[if_pos h5]
   have hu:AX o.t=true:=by
    cases e:AX o.t with
    | true=> rfl
    | false=> exact absurd ⟨h5,e⟩ h3
   have hw:Cr c.us (B1 c.us o.t) o.t=Bv c.us o.t:=by
    unfold Bv
    rw[if_neg fun e=> h4 ⟨h5,e⟩]
   obtain⟨k1,k2⟩:=hset (Cr c.us (B1 c.us o.t) o.t) (by rw[hw];exact GA c4) (fun u hu'=> by
    rcases Iu.1 hu' with rfl|h
    ·exact hu
    ·exact c5 u h)
   exact⟨h.fl,h.wl,h.fr,Lg k1,k2,fun f hf=> Jr (s:=s) (s':=⟨s.fs,s.cs.set (By s o.g).1 ⟨c.n,c.o,Cr c.us (B1 c.us o.t) o.t⟩,s.ws⟩) (JK e1' rfl rfl) h.cp k1 (h.f f hf),h.w⟩
  rw[if_neg h5]
  by_cases h6:c.us.any (o.t==·)=false
  ·rw[if_pos h6];exact h
  rw[if_neg h6]
  by_cases h7:CT o.g s.fs≠0
  ·rw[if_pos h7];exact h
  rw[if_neg h7]
  obtain⟨k1,k2⟩:=hset (c.us.eraseIdx (B1 c.us o.t)) (c4.sublist (List.eraseIdx_sublist _ _)) (fun u hu'=> c5 u ((List.eraseIdx_sublist _ _).subset hu'))
  have hE:CT o.g s.fs=0:=by simpa using h7
  refine⟨by simp only[List.length_map];exact h.fl,h.wl,JI (Lj h.fp (IL _)),Lg k1,k2,?_,h.w⟩
  intro f' hf'
  obtain⟨f,hf,rfl⟩:=List.mem_map.1 hf'
  have hfil:Dr ⟨s.fs.map (Do o.g),s.cs.set (By s o.g).1 ⟨c.n,c.o,c.us.eraseIdx (B1 c.us o.t)⟩,s.ws⟩ f=true:=Jr (s:=s) (s':=⟨s.fs.map (Do o.g),s.cs.set (By s o.g).1 ⟨c.n,c.o,c.us.eraseIdx (B1 c.us o.t)⟩,s.ws⟩) (JK e1' rfl rfl) h.cp k1 (h.f f hf)
  obtain⟨a,b,c',d,e⟩:=Bq hfil
  have hz:=Ed (fun f hf=> (Bq (h.f f hf)).1) hE f hf
  rw[IK a hz]
  by_cases hg:f.p.g.any (o.g==·)=true
  ·rw[if_pos hg]
   obtain⟨t1,t2⟩:=Cw a (hz hg)
   exact Ft (F7 a t1).2.2 b (by simp only;omega) d e
  ·rw[if_neg hg];exact hfil
theorem BG {s:IdM} {o:OpM} (h:ChkP s) (ho:opB o=true):ChkP (Bp s o).1:=by
 unfold Bp
 by_cases h1:o.k=1
 ·rw[if_pos h1];exact GK h ho h1
 rw[if_neg h1]
 by_cases h2:o.k=2∨o.k=3
 ·rw[if_pos h2];exact FG h ho h2
 rw[if_neg h2]
 by_cases h3:o.k=8
 ·rw[if_pos h3];exact Km h ho
 rw[if_neg h3]
 by_cases h4:o.k=9∨o.k=10
 ·rw[if_pos h4];exact Ko h ho
 rw[if_neg h4]
 exact IJ h
theorem Hs {a b:ByteArray}:nmB a b=true↔a=b:=by
 unfold nmB
 rw[beq_iff_eq,Lib.toList_data,Lib.toList_data]
 constructor
 ·intro h
  have:a.data=b.data:=Array.toList_inj.1 h
  cases a;cases b;simp only at this;rw[this]
 ·intro h;rw[h]
def F4 (s:IdM) (nm:ByteArray):List WrM:=s.ws.filter (fun x=> nmB x.nm nm)
structure InvL (s:IdM):Prop where
 chk:ChkP s
 hist:∀ f∈s.fs,((F4 s f.nm).length:Int)=f.v∧(F4 s f.nm).getLast?=some (Bl f)
 own:∀ x∈s.ws,∃ f∈s.fs,f.nm=x.nm
theorem LK:ChkP C5:=⟨by simp[C5],by simp[C5],rfl,rfl,fun c hc=> absurd hc (by simp[C5]),fun c hc=> absurd hc (by simp[C5]),fun c hc=> absurd hc (by simp[C5])⟩
theorem Lk:InvL C5:=⟨LK,fun f hf=> absurd hf (by simp[C5]),fun f hf=> absurd hf (by simp[C5])⟩
def Js (fs fs':List FileM):Prop:=(∀ f'∈fs',∃ f∈fs,Bl f'=Bl f)∧(∀ f∈fs,∃ f'∈fs',f'.nm=f.nm)
theorem F8 {s:IdM} {fs':List FileM} {cs':List CirM} (h:InvL s) (hc:ChkP ⟨fs',cs',s.ws⟩) (hl:Js s.fs fs'):InvL ⟨fs',cs',s.ws⟩:=by
 refine⟨hc,fun f' hf'=> ?_,fun x hx=> ?_⟩
 ·obtain⟨f,hf,e⟩:=hl.1 f' hf'
  obtain⟨h1,h2⟩:=h.hist f hf
  have e1:f'.nm=f.nm:=congrArg WrM.nm e
  have e2:f'.v=f.v:=congrArg WrM.v e
  rw[e,e1,e2]
  exact⟨h1,h2⟩
 ·obtain⟨f,hf,e⟩:=h.own x hx
  obtain⟨f',hf',e'⟩:=hl.2 f hf
  exact⟨f',hf',e'.trans e⟩
theorem Js.refl (fs:List FileM):Js fs fs:=⟨fun f hf=> ⟨f,hf,rfl⟩,fun f hf=> ⟨f,hf,rfl⟩⟩
theorem Ll {fs:List FileM} {i:Nat} {f f':FileM} (h:fs[i]?=some f) (e:Bl f'=Bl f):Js fs (fs.set i f'):=by
 obtain⟨hi,rfl⟩:=List.getElem?_eq_some_iff.1 h
 refine⟨fun g hg=> ?_,fun g hg=> ?_⟩
 ·rcases mem_set hg with rfl|hg
  ·exact⟨_,List.getElem_mem hi,e⟩
  ·exact⟨g,hg,rfl⟩
 ·obtain⟨j,hj,rfl⟩:=List.mem_iff_getElem.1 hg
  by_cases hij:i=j
  ·subst hij
   exact⟨f',List.mem_set hi _,congrArg WrM.nm e⟩
  ·exact⟨fs[j],by
    have:(fs.set i f')[j]'(by rw[List.length_set];exact hj)=fs[j]:=List.getElem_set_ne hij _
    rw[←this];exact List.getElem_mem _,rfl⟩
theorem Lm {fs:List FileM} {t:FileM→FileM} (h:∀ f,Bl (t f)=Bl f):Js fs (fs.map t):=by
 refine⟨fun g hg=> ?_,fun g hg=> ⟨t g,List.mem_map.2 ⟨g,hg,rfl⟩,congrArg WrM.nm (h g)⟩⟩
 obtain⟨f,hf,rfl⟩:=List.mem_map.1 hg
 exact⟨f,hf,h f⟩
theorem Jt (g:Int) (f:FileM):Bl (Do g f)=Bl f:=by unfold Do;split <;> rfl
theorem Kp {fs:List FileM} (hp:fs.Pairwise (fun x y=> BS x.nm y.nm<0)) {i:Nat} {f F g:FileM} (h:fs[i]?=some f) (hg:g∈fs.set i F):g=F∨(g∈fs∧g.nm≠f.nm):=by
 obtain⟨hi,rfl⟩:=List.getElem?_eq_some_iff.1 h
 obtain⟨j,hj,rfl⟩:=List.mem_iff_getElem.1 hg
 rw[List.length_set] at hj
 by_cases hij:i=j
 ·subst hij
  left
  simp
 ·right
  have:(fs.set i F)[j]'(by rw[List.length_set];exact hj)=fs[j]:=List.getElem_set_ne hij _
  rw[this]
  refine⟨List.getElem_mem _,fun e=> ?_⟩
  have hp:=List.pairwise_iff_getElem.1 hp
  rcases Nat.lt_or_gt_of_ne hij with h|h
  ·have h6:=hp i j hi hj h
   rw[e,(BU.eq _ _).2 rfl] at h6
   omega
  ·have h6:=hp j i hj hi h
   rw[e,(BU.eq _ _).2 rfl] at h6
   omega
theorem IM {s:IdM} {fs:List FileM} {cs:List CirM} {x:WrM} {nm:ByteArray}:F4 ⟨fs,cs,s.ws ++ [x]⟩ nm=if x.nm=nm then F4 s nm ++ [x] else F4 s nm:=by
 unfold F4
 rw[List.filter_append]
 by_cases h:x.nm=nm
 ·rw[if_pos h]
  congr 1
  simp[Hs.2 h]
 ·rw[if_neg h]
  have e:nmB x.nm nm=false:=by
   cases e:nmB x.nm nm with
   | true=> exact absurd (Hs.1 e) h
   | false=> rfl
  simp[e]
theorem IN {s:IdM} {o:OpM} (h:InvL s) (ho:opB o=true) (hk:o.k=1):InvL (Cg s o).1:=by
 have hc:=GK h.chk ho hk
 obtain⟨o1,o2,o3,o4,o5⟩:=DP ho
 unfold Cg at hc ⊢
 by_cases h1:BI o.nm≠o.u
 ·rw[if_pos h1];exact h
 rw[if_neg h1] at hc ⊢
 by_cases h2:(Bm s o.nm).2=true
 ·rw[if_pos h2];exact h
 rw[if_neg h2] at hc ⊢
 by_cases h3:s.fs.length=6∨s.ws.length=400
 ·rw[if_pos h3];exact h
 rw[if_neg h3] at hc ⊢
 have hf:(AU (fun y:FileM=> BS y.nm o.nm) s.fs).2=false:=by simpa [Bm] using h2
 have hno:=Hr (key:=FileM.nm) BU h.chk.fp hf
 have hW:(BB (Cs o) o).nm=o.nm:=rfl
 have hL:(Bl (BB (Cs o) o)).nm=o.nm:=rfl
 refine⟨hc,fun f hf'=> ?_,fun x hx=> ?_⟩
 ·rw[IM]
  rcases De.1 hf' with rfl|hf'
  ·have h0:F4 s o.nm=[]:=by
    unfold F4
    rw[List.filter_eq_nil_iff]
    intro x hx e
    obtain⟨g,hg,e2⟩:=h.own x hx
    exact hno g hg (e2.trans (Hs.1 e))
   rw[if_pos (show(Bl (BB (Cs o) o)).nm=(BB (Cs o) o).nm from rfl),hW,h0]
   exact⟨rfl,rfl⟩
  ·rw[if_neg (fun e=> hno f hf' (e.symm.trans hL))]
   exact h.hist f hf'
 ·rcases List.mem_append.1 hx with hx|hx
  ·obtain⟨g,hg,e⟩:=h.own x hx
   exact⟨g,De.2 (.inr hg),e⟩
  ·rw[List.mem_singleton.1 hx]
   exact⟨_,De.2 (.inl rfl),rfl⟩
theorem Ht {s:IdM} {o:OpM} (h:InvL s) (ho:opB o=true) (hk:o.k=2∨o.k=3):InvL (Bt s o).1:=by
 have hc:=FG h.chk ho hk
 unfold Bt at hc ⊢
 by_cases h1:(Bm s o.nm).2=false
 ·rw[if_pos h1];exact h
 rw[if_neg h1] at hc ⊢
 have h1':(AU (fun x:FileM=> BS x.nm o.nm) s.fs).2=true:=by simpa [Bm] using h1
 obtain⟨f,e1,e2,e3⟩:=CE (key:=FileM.nm) BU h1'
 have e1':s.fs[(Bm s o.nm).1]?=some f:=e1
 rw[e1'] at hc ⊢
 simp only at hc ⊢
 by_cases h2:o.k=3∧CC f.p o.u (BX s.cs)=true
 ·rw[if_pos h2];exact h
 rw[if_neg h2] at hc ⊢
 by_cases h3:o.k=3∨Dt f.p o.u=false
 ·rw[if_pos h3];exact h
 rw[if_neg h3] at hc ⊢
 by_cases h4:f.v=9999∨s.ws.length=400
 ·rw[if_pos h4];exact h
 rw[if_neg h4] at hc ⊢
 obtain⟨k1,k2⟩:=h.hist f e3
 refine⟨hc,fun g hg=> ?_,fun x hx=> ?_⟩
 ·rw[IM]
  rcases Kp h.chk.fp e1' hg with rfl|⟨hg,hne⟩
  ·rw[if_pos (show(Bl (BB f o)).nm=(BB f o).nm from rfl)]
   refine⟨?_,by simp⟩
   have e:(BB f o).nm=f.nm:=rfl
   rw[e,List.length_append,List.length_singleton]
   show(((F4 s f.nm).length+1:Nat):Int)=f.v+1
   omega
  ·rw[if_neg (show ¬ (Bl (BB f o)).nm=g.nm from fun e=> hne e.symm)]
   exact h.hist g hg
 ·obtain⟨hi,hx0⟩:=List.getElem?_eq_some_iff.1 e1'
  rcases List.mem_append.1 hx with hx|hx
  ·obtain⟨g,hg,e⟩:=h.own x hx
   obtain⟨j,hj,rfl⟩:=List.mem_iff_getElem.1 hg
   by_cases hij:(Bm s o.nm).1=j
   ·refine⟨_,List.mem_set hi _,?_⟩
    subst hij
    rw[←e,hx0]
    rfl
   ·exact⟨s.fs[j],by
     have:(s.fs.set (Bm s o.nm).1 (BB f o))[j]'(by rw[List.length_set];exact hj)=s.fs[j]:=List.getElem_set_ne hij _
     rw[←this];exact List.getElem_mem _,e⟩
  ·rw[List.mem_singleton.1 hx]
   exact⟨_,List.mem_set hi _,rfl⟩
theorem Kq {s:IdM} {o:OpM} (h:InvL s) (ho:opB o=true):InvL (Bp s o).1:=by
 have hc:=BG h.chk ho
 unfold Bp at hc ⊢
 by_cases h1:o.k=1
 ·rw[if_pos h1];exact IN h ho h1
 rw[if_neg h1] at hc ⊢
 by_cases h2:o.k=2∨o.k=3
 ·rw[if_pos h2];exact Ht h ho h2
 rw[if_neg h2] at hc ⊢
 by_cases h3:o.k=8
 ·rw[if_pos h3] at hc ⊢
  unfold Dn at hc ⊢
  by_cases k1:o.g<1∨3<o.g
  ·rw[if_pos k1];exact h
  rw[if_neg k1] at hc ⊢
  by_cases k2:(By s o.g).2=true
  ·rw[if_pos k2];exact h
  rw[if_neg k2] at hc ⊢
  exact F8 h hc (Js.refl _)
 rw[if_neg h3] at hc ⊢
 by_cases h4:o.k=9∨o.k=10
 ·rw[if_pos h4] at hc ⊢
  unfold BZ at hc ⊢
  by_cases k1:(By s o.g).2=false
  ·rw[if_pos k1];exact h
  rw[if_neg k1] at hc ⊢
  cases e:s.cs[(By s o.g).1]? with
  | none=> exact h
  | some c=>
   rw[e] at hc
   simp only at hc ⊢
   by_cases k2:c.o≠o.u
   ·rw[if_pos k2];exact h
   rw[if_neg k2] at hc ⊢
   by_cases k3:o.k=9∧AX o.t=false
   ·rw[if_pos k3];exact h
   rw[if_neg k3] at hc ⊢
   by_cases k4:o.k=9∧c.us.any (o.t==·)=true
   ·rw[if_pos k4];exact h
   rw[if_neg k4] at hc ⊢
   by_cases k5:o.k=9
   ·rw[if_pos k5] at hc ⊢
    exact F8 h hc (Js.refl _)
   rw[if_neg k5] at hc ⊢
   by_cases k6:c.us.any (o.t==·)=false
   ·rw[if_pos k6];exact h
   rw[if_neg k6] at hc ⊢
   by_cases k7:CT o.g s.fs≠0
   ·rw[if_pos k7];exact h
   rw[if_neg k7] at hc ⊢
   exact F8 h hc (Lm (Jt _))
 rw[if_neg h4] at hc ⊢
 unfold Bf at hc ⊢
 by_cases k1:(Bm s o.nm).2=false
 ·rw[if_pos k1];exact h
 rw[if_neg k1] at hc ⊢
 cases e:s.fs[(Bm s o.nm).1]? with
 | none=> exact h
 | some f=>
  rw[e] at hc
  simp only at hc ⊢
  by_cases k2:(BV s f.p o).2≠0
  ·rw[if_pos k2];exact h
  rw[if_neg k2] at hc ⊢
  exact F8 h hc (Ll e rfl)
theorem E5 {s:IdM} {o:OpM} (h:(doM s o).2.2=0):Es s=true∧opB o=true∧doM s o=((Bp s o).1,(Bp s o).2,0):=by
 unfold doM at h ⊢
 by_cases h1:Es s=true
 ·rw[if_pos h1] at h ⊢
  by_cases h2:opB o=true
  ·rw[if_pos h2] at h ⊢;exact⟨h1,h2,rfl⟩
  ·rw[if_neg h2] at h;cases h
 ·rw[if_neg h1] at h;cases h
theorem LL {s:IdM} {o:OpM} (h:InvL s) (he:(doM s o).2.2=0):InvL (doM s o).1:=by
 obtain⟨-,h2,h3⟩:=E5 he
 rw[h3]
 exact Kq h h2
theorem Hu {p:PmD} {bs:List (Int × Int)}:∀ {n:Nat} {a u:Int},u∈rdL p bs n a↔(a≤u∧u<a+n)∧CC p u bs=true
 | 0,a,u=> by
  rw[rdL]
  simp
  omega
 | n+1,a,u=> by
  rw[rdL]
  by_cases h:CC p a bs=true
  ·rw[if_pos h,List.mem_cons,Hu]
   constructor
   ·rintro(rfl|⟨h1,h2⟩)
    ·exact⟨by omega,h⟩
    ·exact⟨by omega,h2⟩
   ·rintro⟨h1,h2⟩
    by_cases e:u=a
    ·exact .inl e
    ·exact .inr ⟨by omega,h2⟩
  ·rw[if_neg h,Hu]
   constructor
   ·rintro⟨h1,h2⟩
    exact⟨by omega,h2⟩
   ·rintro⟨h1,h2⟩
    have e:u≠a:=fun e=> h (e ▸ h2)
    exact⟨by omega,h2⟩
theorem DQ {s:IdM} (h:ChkP s) {f:FileM} (hf:f∈s.fs):Cl s f.nm=(f,true):=by
 obtain⟨h1,h2⟩:=IE (key:=FileM.nm) BU h.fp hf rfl
 unfold Cl
 rw[if_pos (CO.2 h)]
 have h1':(Bm s f.nm).2=true:=h1
 have h2':s.fs[(Bm s f.nm).1]?=some f:=h2
 rw[if_pos h1',h2']
 rfl
theorem Ee {s:IdM} (h:ChkP s) {f:FileM} (hf:f∈s.fs) (u:Int):(AQ s f.nm).any (u==·)=true↔(1≤u∧u≤6)∧CC f.p u (BX s.cs)=true:=by
 have e:AQ s f.nm=rdL f.p (BX s.cs) 6 1:=by
  unfold AQ
  rw[DQ h hf]
  rfl
 rw[e,show(rdL f.p (BX s.cs) 6 1).any (u==·)=inB (rdL f.p (BX s.cs) 6 1) u from rfl,CN,Hu]
 constructor
 ·rintro⟨a,b⟩;exact⟨by omega,b⟩
 ·rintro⟨a,b⟩;exact⟨by omega,b⟩
theorem Kr {s:IdM} {o:OpM} (h:InvL s) (he:(doM s o).2.2=0) (hk:o.k=3) (hr:(doM s o).2.1.e=0):
  ∃ (l0:List WrM) (x:WrM),CU s o.nm=l0 ++ [x]∧(doM s o).2.1.v=((l0.length+1:Nat):Int)∧x.v=(doM s o).2.1.v∧x.u=(doM s o).2.1.u∧x.b=(doM s o).2.1.b∧(AQ s o.nm).any (o.u==·)=true:=by
 obtain⟨h1,h2,h3⟩:=E5 he
 obtain⟨o1,o2,o3,o4,o5⟩:=DP h2
 rw[h3] at hr ⊢
 simp only at hr ⊢
 have hd:Bp s o=Bt s o:=by
  unfold Bp
  rw[if_neg (by omega),if_pos (.inr hk)]
 rw[hd] at hr ⊢
 unfold Bt at hr ⊢
 by_cases k1:(Bm s o.nm).2=false
 ·rw[if_pos k1] at hr;cases hr
 rw[if_neg k1] at hr ⊢
 have h1':(AU (fun x:FileM=> BS x.nm o.nm) s.fs).2=true:=by simpa [Bm] using k1
 obtain⟨f,e1,e2,e3⟩:=CE (key:=FileM.nm) BU h1'
 have e1':s.fs[(Bm s o.nm).1]?=some f:=e1
 rw[e1'] at hr ⊢
 simp only at hr ⊢
 by_cases k2:o.k=3∧CC f.p o.u (BX s.cs)=true
 ·rw[if_pos k2]
  simp only
  obtain⟨a1,a2⟩:=h.hist f e3
  have hh:CU s o.nm=F4 s f.nm:=by
   unfold CU F4
   rw[if_pos h1,e2]
  obtain⟨l0,hl0⟩:∃ l0,F4 s f.nm=l0 ++ [Bl f]:=List.getLast?_eq_some_iff.1 a2
  refine⟨l0,Bl f,by rw[hh,hl0],?_,rfl,rfl,rfl,?_⟩
  ·rw[←a1,hl0,List.length_append,List.length_singleton]
  ·rw[←e2]
   exact(Ee h.chk e3 o.u).2 ⟨DI o3,k2.2⟩
 ·rw[if_neg k2] at hr
  rw[if_pos (.inl hk)] at hr
  cases hr
end Go.Proofs.YtgdlfiphihaooaaGreat

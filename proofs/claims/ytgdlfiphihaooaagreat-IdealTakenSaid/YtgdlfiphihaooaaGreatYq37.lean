import Derived.Test.YtgdlfiphihaooaaGreatYq34
set_option linter.unusedSimpArgs false
set_option linter.unusedVariables false
set_option maxRecDepth 100000
set_option maxHeartbeats 8000000
open _root_.List renaming getElem?_toArray→Aa,getElem?_cons_zero→Ab,getElem?_cons_succ→Ac,setIfInBounds_toArray→Ad,set_cons_zero→Ae,set_cons_succ→Af
open _root_.Go.Lib renaming hid→Ag
open _root_.Nat renaming le_refl→Ah,le_trans→Aj,lt_of_lt_of_le→Ak
open _root_.And renaming intro→Ai
open _root_.Go.Act renaming put→Al
namespace Go.Proofs.YtgdlfiphihaooaaGreat
open Go Go.RowKit
theorem Hw {l:List Int} {x:Int}:l.any (x==·)=inB l x:=rfl
theorem LN {cs:List CirM} {G:List Int} {t:Int}:(CZ (BX cs) t).any (fun g=> G.any (g==·))=cs.any (fun c=> G.any (c.n==·) && c.us.any (t==·)):=by
 have h:(CZ (BX cs) t).any (fun g=> G.any (g==·))=true↔cs.any (fun c=> G.any (c.n==·) && c.us.any (t==·))=true:=by
  unfold CZ BX
  rw[List.any_eq_true,List.any_eq_true]
  constructor
  ·rintro⟨g,hg,hG⟩
   obtain⟨m,hm,rfl⟩:=List.mem_map.1 hg
   obtain⟨hm1,hm2⟩:=List.mem_filter.1 hm
   obtain⟨c,hc,hmc⟩:=List.mem_flatMap.1 hm1
   obtain⟨u,hu,rfl⟩:=List.mem_map.1 hmc
   refine⟨c,hc,?_⟩
   rw[Bool.and_eq_true]
   refine⟨hG,List.any_eq_true.2 ⟨u,hu,?_⟩⟩
   simp only[beq_iff_eq] at hm2 ⊢
   exact hm2.symm
  ·rintro⟨c,hc,h⟩
   rw[Bool.and_eq_true] at h
   obtain⟨u,hu,e⟩:=List.any_eq_true.1 h.2
   refine⟨c.n,List.mem_map.2 ⟨(c.n,u),List.mem_filter.2 ⟨List.mem_flatMap.2 ⟨c,hc,List.mem_map.2 ⟨u,hu,rfl⟩⟩,?_⟩,rfl⟩,h.1⟩
   simp only[beq_iff_eq] at e ⊢
   exact e.symm
 cases e1:(CZ (BX cs) t).any (fun g=> G.any (g==·)) with
 | true=> rw[h.1 e1]
 | false=>
  cases e2:cs.any (fun c=> G.any (c.n==·) && c.us.any (t==·)) with
  | true=> rw[h.2 e2] at e1;cases e1
  | false=> rfl
theorem JM {s:IdM} {o:OpM} (h:ChkP s) (hr:(Bf s o).2.e=0):∃ f∈s.fs,f.nm=o.nm∧(BV s f.p o).2=0∧∃ i,s.fs[i]?=some f∧(Bf s o).1=⟨s.fs.set i ⟨f.nm,(BV s f.p o).1,f.v,f.e,f.u,f.b⟩,s.cs,s.ws⟩:=by
 unfold Bf at hr ⊢
 by_cases k1:(Bm s o.nm).2=false
 ·rw[if_pos k1] at hr;cases hr
 rw[if_neg k1] at hr ⊢
 have h1':(AU (fun x:FileM=> BS x.nm o.nm) s.fs).2=true:=by simpa [Bm] using k1
 obtain⟨f,e1,e2,e3⟩:=CE (key:=FileM.nm) BU h1'
 have e1':s.fs[(Bm s o.nm).1]?=some f:=e1
 rw[e1'] at hr ⊢
 simp only at hr ⊢
 by_cases k2:(BV s f.p o).2≠0
 ·rw[if_pos k2] at hr
  exact absurd hr k2
 ·rw[if_neg k2]
  exact⟨f,e3,e2,by simpa using k2,_,e1',rfl⟩
theorem Lq {α:Type} {l:List α} {i:Nat} {x y:α} (h:l[i]?=some x):y∈l.set i y:=by
 obtain⟨hi,-⟩:=List.getElem?_eq_some_iff.1 h
 exact List.mem_set hi _
theorem JN {p q:PmD} {bs cs:List (Int × Int)} (h:∀ u,CC p u bs=true→CC q u cs=true):∀ (n:Nat) (a:Int),(rdL p bs n a).length≤(rdL q cs n a).length
 | 0,_=> Ah _
 | n+1,a=> by
  have ih:=JN h n (a+1)
  rw[rdL,rdL]
  by_cases h1:CC p a bs=true
  ·rw[if_pos h1,if_pos (h a h1),List.length_cons,List.length_cons];omega
  ·rw[if_neg h1]
   split
   ·rw[List.length_cons];omega
   ·exact ih
theorem Lr {s:IdM} {o:OpM} (he:(doM s o).2.2=0) (hr:(doM s o).2.1.e=0):ChkP s∧opB o=true∧(doM s o).1=(Bp s o).1∧(Bp s o).2.e=0:=by
 obtain⟨h1,h2,h3⟩:=E5 he
 rw[h3] at hr ⊢
 exact⟨CO.1 h1,h2,rfl,hr⟩
theorem Jv {s:IdM} {o:OpM} (he:(doM s o).2.2=0) (hr:(doM s o).2.1.e=0) (hk:o.k=5):
  (AQ (doM s o).1 o.nm).any (o.t==·)=(doM s o).1.cs.any (fun c=> (Cl (doM s o).1 o.nm).1.p.g.any (c.n==·) && c.us.any (o.t==·)):=by
 obtain⟨hc,ho,e1,e2⟩:=Lr he hr
 have hc':=BG hc ho
 rw[e1]
 have hd:Bp s o=Bf s o:=by
  unfold Bp
  rw[if_neg (by omega),if_neg (by omega),if_neg (by omega),if_neg (by omega)]
 rw[hd] at e2 hc' ⊢
 obtain⟨f,f1,f2,f3,i,f4,f5⟩:=JM hc e2
 rw[f5] at hc' ⊢
 obtain⟨a,b,c,d,e⟩:=Bq (hc.f f f1)
 have hP:BV s f.p o=Bj f.p (Cv f.p o.u o.t):=by
  unfold BV
  rw[if_neg (by omega),if_pos hk]
 rw[hP] at f3 hc' ⊢
 obtain⟨g1,g2⟩:=Cw a f3
 obtain⟨-,g4,g5,g6,g7⟩:=JH a g1
 rw[g2] at hc' ⊢
 have hin:=Lq (y:=(⟨f.nm,(Cv f.p o.u o.t).2,f.v,f.e,f.u,f.b⟩:FileM)) f4
 have hfm:=DQ hc' hin
 have hrd:=Ee hc' hin o.t
 simp only at hfm hrd
 rw[←f2]
 rw[hfm]
 simp only
 rw[←LN]
 unfold BE at g4
 simp only[Bool.and_eq_true,bne_iff_ne,ne_eq] at g4
 have hm:CC (Cv f.p o.u o.t).2 o.t (BX s.cs)=(CZ (BX s.cs) o.t).any (fun g=> (Cv f.p o.u o.t).2.g.any (g==·)):=by
  unfold CC
  rw[DW.2 g7,g4.1,Bool.true_and]
  have k1:(o.t==(Cv f.p o.u o.t).2.o)=false:=by rw[g6];simpa using g4.2
  have k2:(Cv f.p o.u o.t).2.r.any (o.t==·)=false:=by
   rw[Hw,KP,g6]
   intro h
   have:=(Dc.1 h).2
   simp at this
  rw[k1,k2]
  simp
 rw[hm] at hrd
 have hu:=DI g4.1
 cases hb:(CZ (BX s.cs) o.t).any (fun g=> (Cv f.p o.u o.t).2.g.any (g==·)) with
 | true=> exact hrd.2 ⟨hu,hb⟩
 | false=>
  cases hx:(AQ ⟨s.fs.set i ⟨f.nm,(Cv f.p o.u o.t).2,f.v,f.e,f.u,f.b⟩,s.cs,s.ws⟩ f.nm).any (o.t==·) with
  | false=> rfl
  | true=> rw[(hrd.1 hx).2] at hb;cases hb
theorem IP {s:IdM} {o:OpM} (he:(doM s o).2.2=0) (hr:(doM s o).2.1.e=0) (hk:o.k=4):
  (AQ (doM s o).1 o.nm).any (o.t==·)=true∧Dt (Cl (doM s o).1 o.nm).1.p o.t=(o.wr ||(Cl (doM s o).1 o.nm).1.p.q.any (o.t==·))∧(AQ s o.nm).length≤(AQ (doM s o).1 o.nm).length:=by
 obtain⟨hc,ho,e1,e2⟩:=Lr he hr
 have hc':=BG hc ho
 rw[e1]
 have hd:Bp s o=Bf s o:=by
  unfold Bp
  rw[if_neg (by omega),if_neg (by omega),if_neg (by omega),if_neg (by omega)]
 rw[hd] at e2 hc' ⊢
 obtain⟨f,f1,f2,f3,i,f4,f5⟩:=JM hc e2
 rw[f5] at hc' ⊢
 obtain⟨a,b,c,d,e⟩:=Bq (hc.f f f1)
 have hP:BV s f.p o=Bj f.p (B9 f.p o.u o.t o.wr):=by
  unfold BV
  rw[if_pos hk]
 rw[hP] at f3 hc' ⊢
 obtain⟨g1,g2⟩:=Cw a f3
 obtain⟨-,g4,-,g6,g7⟩:=Iv a g1
 rw[g2] at hc' ⊢
 have hin:=Lq (y:=(⟨f.nm,(B9 f.p o.u o.t o.wr).2,f.v,f.e,f.u,f.b⟩:FileM)) f4
 have hfm:=DQ hc' hin
 have hrd:=Ee hc' hin o.t
 have hfo:=DQ hc f1
 simp only at hfm hrd
 rw[←f2]
 rw[hfm]
 simp only
 unfold BE at g4
 simp only[Bool.and_eq_true,bne_iff_ne,ne_eq] at g4
 have hu:=DI g4.1
 refine⟨?_,?_,?_⟩
 ·refine hrd.2 ⟨hu,?_⟩
  unfold CC
  rw[DW.2 g7,Bool.true_and,Hw,CN.2 (by rw[g6];exact CK.2 (.inl rfl))]
  simp
 ·unfold Dt
  rw[DW.2 g7,Bool.true_and]
  have k1:(o.t==(B9 f.p o.u o.t o.wr).2.o)=false:=by rw[g6];simpa using g4.2
  rw[k1,Bool.false_or]
  cases hw:o.wr with
  | false=> simp
  | true=>
   rw[Hw,CN.2 (by rw[hw] at g6;rw[g6];exact CK.2 (.inl rfl))]
   rfl
 ·have l1:AQ s f.nm=rdL f.p (BX s.cs) 6 1:=by unfold AQ;rw[hfo];rfl
  have l2:AQ ⟨s.fs.set i ⟨f.nm,(B9 f.p o.u o.t o.wr).2,f.v,f.e,f.u,f.b⟩,s.cs,s.ws⟩ f.nm=rdL (B9 f.p o.u o.t o.wr).2 (BX s.cs) 6 1:=by unfold AQ;rw[hfm];rfl
  rw[l1,l2]
  refine JN (fun u hu=> ?_) 6 1
  unfold CC at hu ⊢
  rw[Bool.and_eq_true] at hu ⊢
  refine⟨DW.2 g7,?_⟩
  have hu2:=hu.2
  rw[Bool.or_eq_true,Bool.or_eq_true] at hu2 ⊢
  rw[g6]
  rcases hu2 with(h|h)|h
  ·exact .inl (.inl h)
  ·refine .inl (.inr ?_)
   rw[Hw,CN] at h ⊢
   exact CK.2 (.inr h)
  ·exact .inr h
theorem IQ {s:IdM} {o:OpM} (he:(doM s o).2.2=0) (hr:(doM s o).2.1.e=0) (hk:o.k=10):
  ∀ g∈(doM s o).1.fs,g.p.g.any (o.g==·)=true→(Cl s g.nm).2=true∧g.p.e=(Cl s g.nm).1.p.e+1∧1≤g.p.e∧g.p.e≤8:=by
 obtain⟨hc,ho,e1,e2⟩:=Lr he hr
 have hc':=BG hc ho
 rw[e1]
 have hd:Bp s o=BZ s o:=by
  unfold Bp
  rw[if_neg (by omega),if_neg (by omega),if_neg (by omega),if_pos (by omega)]
 rw[hd] at e2 hc' ⊢
 unfold BZ at e2 hc' ⊢
 by_cases k1:(By s o.g).2=false
 ·rw[if_pos k1] at e2;cases e2
 rw[if_neg k1] at e2 hc' ⊢
 cases e:s.cs[(By s o.g).1]? with
 | none=> rw[e] at e2;cases e2
 | some c=>
  rw[e] at e2 hc'
  simp only at e2 hc' ⊢
  by_cases k2:c.o≠o.u
  ·rw[if_pos k2] at e2;cases e2
  rw[if_neg k2] at e2 hc' ⊢
  by_cases k3:o.k=9∧AX o.t=false
  ·rw[if_pos k3] at e2;cases e2
  rw[if_neg k3] at e2 hc' ⊢
  by_cases k4:o.k=9∧c.us.any (o.t==·)=true
  ·rw[if_pos k4] at e2;cases e2
  rw[if_neg k4,if_neg (by omega)] at e2 hc' ⊢
  by_cases k6:c.us.any (o.t==·)=false
  ·rw[if_pos k6] at e2;cases e2
  rw[if_neg k6] at e2 hc' ⊢
  by_cases k7:CT o.g s.fs≠0
  ·rw[if_pos k7] at e2;exact absurd e2 k7
  rw[if_neg k7] at hc' ⊢
  have hE:CT o.g s.fs=0:=by simpa using k7
  intro g hg hgg
  have hg8:=(Bq (hc'.f g hg)).1.e
  obtain⟨f,hf,rfl⟩:=List.mem_map.1 hg
  have a:=(Bq (hc.f f hf)).1
  have hz:=Ed (fun f hf=> (Bq (hc.f f hf)).1) hE f hf
  rw[IL,DQ hc hf]
  have hnf:=IK a hz
  by_cases hG:f.p.g.any (o.g==·)=true
  ·rw[if_pos hG] at hnf
   refine⟨rfl,?_,hg8⟩
   rw[hnf]
  ·rw[if_neg hG] at hnf
   rw[hnf] at hgg
   exact absurd hgg hG
theorem LO {s:IdM} {o:OpM} (he:(doM s o).2.2=0):ChkP s∧ChkP (doM s o).1:=by
 obtain⟨h1,h2,h3⟩:=E5 he
 rw[h3]
 exact⟨CO.1 h1,BG (CO.1 h1) h2⟩
end Go.Proofs.YtgdlfiphihaooaaGreat

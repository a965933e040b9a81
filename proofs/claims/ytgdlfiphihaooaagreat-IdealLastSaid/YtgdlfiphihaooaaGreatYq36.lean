import Derived.Test.YtgdlfiphihaooaaGreatYq28
set_option linter.unusedSimpArgs false
set_option linter.unusedVariables false
set_option maxRecDepth 100000
set_option maxHeartbeats 8000000
open _root_.List renaming getElem?_toArray→Aa,getElem?_cons_zero→Ab,getElem?_cons_succ→Ac,setIfInBounds_toArray→Ad,set_cons_zero→Ae,set_cons_succ→Af
open _root_.Go.Lib renaming hid→Ag
open _root_.Nat renaming le_refl→Ah,le_trans→Aj,lt_of_lt_of_le→Ak
open _root_.And renaming intro→Ai
open _root_.Go.Act renaming put→Al
namespace Go.Proofs.YtgdlfiphihaooaaGreat
open Go Go.RowKit Go.ChangeShapes Go.WideShapes Go.ChangeAt
def CF:Nat→Prop:=fun _=> True
section
variable {H:Type} {enc:TypeId × Value→H} {W:World}
theorem Ks {t e:TypeId} {n:Nat} {c0:Value} {x:DataW H × List MemPlace} (ht:Tryz.prog.underlying t=some (.slice e)) (hC:Tryz.prog.cellsOf e=5)
  (hread:∀ m,m+1≤n→∀ (cs:List Value) (x:DataW H × List MemPlace),DataW.trod enc Tryz.prog W 0 (fun _=> true) true m e cs=some x→∃ t,TmC CF W cs t)
  (h:DataW.trod enc Tryz.prog W 0 (fun _=> true) true n t [c0]=some x):∃ ts,SlT CF W c0 ts:=by
 rcases DataW.trod_slice ht h with⟨hcs,_⟩|⟨a,len,cap,elems,rest,n',hn,hcs,hx,hb,hl,hm,hlen,hel,-,-⟩
 ·simp only[List.cons.injEq,and_true] at hcs
  subst hcs
  exact⟨[],SlT.nil _ _⟩
 ·simp only[List.cons.injEq,and_true] at hcs
  subst hcs
  rw[hC] at hel
  have each:∀ i,i<len→∃ q:Tm × List Value,W.cells? 0 (a.add (i* 5)) 5=some q.2∧TmC CF W q.2 q.1:=by
   intro i hi
   have hi':=hel i hi
   rw[List.getElem?_eq_getElem (by omega)] at hi'
   obtain⟨cs',h1,h2⟩:=Option.bind_eq_some_iff.1 hi'
   obtain⟨t',ht'⟩:=hread n' (by omega) _ _ h2
   exact⟨(t',cs'),h1,ht'⟩
  haveI:Inhabited (Tm × List Value):=⟨(.mk 0 0 0 ⟨#[]⟩ [],[])⟩
  obtain⟨q,hq⟩:=Deep.choose_lt each
  have hlen':((List.range len).map fun i=> (q i).1).length=len:=by simp
  refine⟨(List.range len).map fun i=> (q i).1,some a,cap,by rw[hlen'],by rw[hlen'];exact hl,hm,fun h0=> ?_⟩
  rw[hlen'] at h0
  obtain⟨b,o,sp⟩:=a
  have h5:=(hq 0 h0).2.len
  have hc0:=(World.cells?_some (hq 0 h0).1).2.2 0 (by omega)
  rw[List.getElem?_eq_getElem (by omega)] at hc0
  have hsp:sp=none:=by simpa [Addr.add] using World.cell?_spot hc0
  subst hsp
  have hblk:b<W.heap.size:=by
   rw[CS,CS] at hc0
   exact Am hc0
  refine⟨b,o,rfl,trivial,hblk,AtC.mk' fun j hj=> ?_⟩
  rw[hlen'] at hj
  refine⟨(q j).2,fun i u hu=> ?_,?_⟩
  ·have hi:i<5:=by have:=(List.getElem?_eq_some_iff.1 hu).1;rwa [(hq j hj).2.len] at this
   have hh:=(World.cells?_some (hq j hj).1).2.2 i hi
   rw[CS,CS] at hh
   rw[hh];exact hu
  ·have e:((List.range len).map fun i=> (q i).1)[j]=(q j).1:=by simp
   rw[e];exact(hq j hj).2
theorem Eo {t:TypeId} {f0 f1 f2 f3 f4:Field} (hs:Tryz.prog.underlying t=some (.struct #[f0,f1,f2,f3,f4])) (hone:Deep.oneCellFields Tryz.prog #[f0,f1,f2,f3,f4]=true) (hC:Tryz.prog.cellsOf t=5)
  (u0:Tryz.prog.underlying f0.type=some (.int .i64)) (u1:Tryz.prog.underlying f1.type=some (.int .i64)) (u2:Tryz.prog.underlying f2.type=some (.int .i64)) (u3:Tryz.prog.underlying f3.type=some .string) (u4:Tryz.prog.underlying f4.type=some (.slice t)):
  ∀ (fuel:Nat) (cs:List Value) (x:DataW H × List MemPlace),DataW.trod enc Tryz.prog W 0 (fun _=> true) true fuel t cs=some x→∃ t,TmC CF W cs t:=by
 intro fuel
 induction fuel using Nat.strongRecOn with
 | ind fuel ih=>
  intro cs x h
  obtain⟨xs,n,hf,hx,hlen,hxl,hfd⟩:=DataW.trod_struct hs h
  rw[hC] at hlen
  obtain⟨v0,v1,v2,v3,v4,rfl⟩:∃ v0 v1 v2 v3 v4,cs=[v0,v1,v2,v3,v4]:=by
   match cs,hlen with
   | [c0,c1,c2,c3,c4],_=> exact⟨_,_,_,_,_,rfl⟩
  have hx5:xs.length=5:=hxl
  have g0:=hfd 0 f0 rfl
  have g1:=hfd 1 f1 rfl
  have g2:=hfd 2 f2 rfl
  have g3:=hfd 3 f3 rfl
  have g4:=hfd 4 f4 rfl
  obtain⟨o0,k0⟩:=Deep.hone_of hone 0 f0 rfl
  obtain⟨o1,k1⟩:=Deep.hone_of hone 1 f1 rfl
  obtain⟨o2,k2⟩:=Deep.hone_of hone 2 f2 rfl
  obtain⟨o3,k3⟩:=Deep.hone_of hone 3 f3 rfl
  obtain⟨o4,k4⟩:=Deep.hone_of hone 4 f4 rfl
  rw[List.getElem?_eq_getElem (by omega)] at g0 g1 g2 g3 g4
  simp only[o0,o1,o2,o3,o4,k0,k1,k2,k3,k4,List.drop_succ_cons,List.drop_zero,List.take_succ_cons,List.take_zero] at g0 g1 g2 g3 g4
  obtain⟨n0,e0,-,-⟩:=DataW.trod_int u0 g0
  obtain⟨n1,e1,-,-⟩:=DataW.trod_int u1 g1
  obtain⟨n2,e2,-,-⟩:=DataW.trod_int u2 g2
  obtain⟨s,e3,-,-⟩:=DataW.trod_string u3 g3
  obtain⟨ts,h4⟩:=Ks u4 hC (fun m hm cs x h=> ih m (by omega) cs x h) g4
  simp only[List.cons.injEq,and_true] at e0 e1 e2 e3
  subst e0 e1 e2 e3
  exact⟨.mk n0 n1 n2 s ts,B6.2 ⟨_,rfl,h4⟩⟩
end
section
variable {H:Type} {enc:TypeId × Value→H} {W:World}
theorem Ep {α:Type} [Inhabited α] {C:World→List Value→α→Prop} {sz:Nat} {t e:TypeId} {n:Nat} {c0:Value} {x:DataW H × List MemPlace} (hsz:0<sz) (ht:Tryz.prog.underlying t=some (.slice e)) (hC:Tryz.prog.cellsOf e=sz) (hCl:∀ cs a,C W cs a→cs.length=sz)
  (hread:∀ (m:Nat) (cs:List Value) (x:DataW H × List MemPlace),DataW.trod enc Tryz.prog W 0 (fun _=> true) true m e cs=some x→∃ a,C W cs a)
  (h:DataW.trod enc Tryz.prog W 0 (fun _=> true) true n t [c0]=some x):∃ l:List α,RwC C sz CF W c0 l:=by
 rcases DataW.trod_slice ht h with⟨hcs,_⟩|⟨a,len,cap,elems,rest,n',hn,hcs,hx,hb,hl,hm,hlen,hel,-,-⟩
 ·simp only[List.cons.injEq,and_true] at hcs
  subst hcs
  exact⟨[],RwC.nil _ _ _ _⟩
 ·simp only[List.cons.injEq,and_true] at hcs
  subst hcs
  rw[hC] at hel
  have each:∀ i,i<len→∃ q:α × List Value,W.cells? 0 (a.add (i* sz)) sz=some q.2∧C W q.2 q.1:=by
   intro i hi
   have hi':=hel i hi
   rw[List.getElem?_eq_getElem (by omega)] at hi'
   obtain⟨cs',h1,h2⟩:=Option.bind_eq_some_iff.1 hi'
   obtain⟨t',ht'⟩:=hread n' _ _ h2
   exact⟨(t',cs'),h1,ht'⟩
  haveI:Inhabited (α × List Value):=⟨(default,[])⟩
  obtain⟨q,hq⟩:=Deep.choose_lt each
  have hlen':((List.range len).map fun i=> (q i).1).length=len:=by simp
  refine⟨(List.range len).map fun i=> (q i).1,some a,cap,by rw[hlen'],by rw[hlen'];exact hl,hm,fun h0=> ?_⟩
  rw[hlen'] at h0
  obtain⟨b,o,sp⟩:=a
  have h5:=hCl _ _ (hq 0 h0).2
  have hc0:=(World.cells?_some (hq 0 h0).1).2.2 0 (by omega)
  rw[List.getElem?_eq_getElem (by omega)] at hc0
  have hsp:sp=none:=by simpa [Addr.add] using World.cell?_spot hc0
  subst hsp
  have hblk:b<W.heap.size:=by
   rw[CS,CS] at hc0
   exact Am hc0
  refine⟨b,o,rfl,trivial,hblk,fun j hj=> ?_⟩
  rw[hlen'] at hj
  have e:((List.range len).map fun i=> (q i).1)[j]=(q j).1:=by simp
  refine⟨(q j).2,hCl _ _ (hq j hj).2,fun i u hu=> ?_,?_⟩
  ·have hi:i<sz:=by have:=(List.getElem?_eq_some_iff.1 hu).1;rwa [hCl _ _ (hq j hj).2] at this
   have hh:=(World.cells?_some (hq j hj).1).2.2 i hi
   rw[CS,CS] at hh
   rw[hh];exact hu
  ·rw[e];exact(hq j hj).2
instance:Inhabited OpM:=⟨⟨0,0,⟨#[]⟩,0,0,false,tm0⟩⟩
instance:Inhabited FileM:=⟨⟨⟨#[]⟩,⟨0,0,[],[],[]⟩,0,0,0,tm0⟩⟩
instance:Inhabited CirM:=⟨⟨0,0,[]⟩⟩
instance:Inhabited WrM:=⟨⟨⟨#[]⟩,0,0,0,tm0⟩⟩
theorem JL {t:TypeId} {f0 f1 f2 f3 f4 f5 f6:Field} {fuel:Nat} {cs:List Value} {x:DataW H × List MemPlace} (hs:Tryz.prog.underlying t=some (.struct #[f0,f1,f2,f3,f4,f5,f6])) (hC:Tryz.prog.cellsOf t=11)
  (ho:f0.offset=0∧f1.offset=1∧f2.offset=2∧f3.offset=3∧f4.offset=4∧f5.offset=5∧f6.offset=6)
  (c0:Tryz.prog.cellsOf f0.type=1) (c1:Tryz.prog.cellsOf f1.type=1) (c2:Tryz.prog.cellsOf f2.type=1) (c3:Tryz.prog.cellsOf f3.type=1) (c4:Tryz.prog.cellsOf f4.type=1) (c5:Tryz.prog.cellsOf f5.type=1) (c6:Tryz.prog.cellsOf f6.type=5)
  (u0:Tryz.prog.underlying f0.type=some (.int .i64)) (u1:Tryz.prog.underlying f1.type=some (.int .i64)) (u2:Tryz.prog.underlying f2.type=some .string) (u3:Tryz.prog.underlying f3.type=some (.int .i64)) (u4:Tryz.prog.underlying f4.type=some (.int .i64)) (u5:Tryz.prog.underlying f5.type=some .bool)
  (hT:∀ (fuel:Nat) (cs:List Value) (x:DataW H × List MemPlace),DataW.trod enc Tryz.prog W 0 (fun _=> true) true fuel f6.type cs=some x→∃ t,TmC CF W cs t)
  (h:DataW.trod enc Tryz.prog W 0 (fun _=> true) true fuel t cs=some x):∃ p,OpC CF W cs p:=by
 obtain⟨xs,n,_,hx,hlen,hxl,hfd⟩:=DataW.trod_struct hs h
 rw[hC] at hlen
 obtain⟨o0,o1,o2,o3,o4,o5,o6⟩:=ho
 obtain⟨v0,v1,v2,v3,v4,v5,v6,v7,v8,v9,v10,rfl⟩:∃ v0 v1 v2 v3 v4 v5 v6 v7 v8 v9 v10,cs=[v0,v1,v2,v3,v4,v5,v6,v7,v8,v9,v10]:=by
  match cs,hlen with
  | [c0,c1,c2,c3,c4,c5,c6,c7,c8,c9,c10],_=> exact⟨_,_,_,_,_,_,_,_,_,_,_,rfl⟩
 have hx7:xs.length=7:=hxl
 have g0:=hfd 0 f0 rfl
 have g1:=hfd 1 f1 rfl
 have g2:=hfd 2 f2 rfl
 have g3:=hfd 3 f3 rfl
 have g4:=hfd 4 f4 rfl
 have g5:=hfd 5 f5 rfl
 have g6:=hfd 6 f6 rfl
 rw[List.getElem?_eq_getElem (by omega)] at g0 g1 g2 g3 g4 g5 g6
 simp only[o0,o1,o2,o3,o4,o5,o6,c0,c1,c2,c3,c4,c5,c6,List.drop_succ_cons,List.drop_zero,List.take_succ_cons,List.take_zero] at g0 g1 g2 g3 g4 g5 g6
 obtain⟨n0,e0,-,-⟩:=DataW.trod_int u0 g0
 obtain⟨n1,e1,-,-⟩:=DataW.trod_int u1 g1
 obtain⟨s2,e2,-,-⟩:=DataW.trod_string u2 g2
 obtain⟨n3,e3,-,-⟩:=DataW.trod_int u3 g3
 obtain⟨n4,e4,-,-⟩:=DataW.trod_int u4 g4
 obtain⟨b5,e5,-⟩:=DataW.trod_bool u5 g5
 obtain⟨t6,h6⟩:=hT _ _ _ g6
 simp only[List.cons.injEq,and_true] at e0 e1 e2 e3 e4 e5
 subst e0 e1 e2 e3 e4 e5
 exact⟨⟨n0,n1,s2,n3,n4,b5,t6⟩,_,rfl,h6⟩
theorem Hv {v:Value} {l:List Int} (h:Sl W v (ofK .i64 l)):SlI CF W v l:=⟨h,fun _ _ _=> trivial⟩
theorem Kt {t:TypeId} {f0 f1 f2 f3 f4 f5:Field} {fuel:Nat} {cs:List Value} {x:DataW H × List MemPlace} (hs:Tryz.prog.underlying t=some (.struct #[f0,f1,f2,f3,f4,f5])) (hC:Tryz.prog.cellsOf t=14)
  (ho:f0.offset=0∧f1.offset=1∧f2.offset=6∧f3.offset=7∧f4.offset=8∧f5.offset=9)
  (c0:Tryz.prog.cellsOf f0.type=1) (c1:Tryz.prog.cellsOf f1.type=5) (c2:Tryz.prog.cellsOf f2.type=1) (c3:Tryz.prog.cellsOf f3.type=1) (c4:Tryz.prog.cellsOf f4.type=1) (c5:Tryz.prog.cellsOf f5.type=5)
  (u0:Tryz.prog.underlying f0.type=some .string) (u2:Tryz.prog.underlying f2.type=some (.int .i64)) (u3:Tryz.prog.underlying f3.type=some (.int .i64)) (u4:Tryz.prog.underlying f4.type=some (.int .i64))
  (hP:∀ (fuel:Nat) (cs:List Value) (x:DataW H × List MemPlace),DataW.trod enc Tryz.prog W 0 (fun _=> true) true fuel f1.type cs=some x→∃ p vr vq vg,cs=pmC p.o p.e vr vq vg∧PmS W p vr vq vg∧PmI p)
  (hT:∀ (fuel:Nat) (cs:List Value) (x:DataW H × List MemPlace),DataW.trod enc Tryz.prog W 0 (fun _=> true) true fuel f5.type cs=some x→∃ t,TmC CF W cs t)
  (h:DataW.trod enc Tryz.prog W 0 (fun _=> true) true fuel t cs=some x):∃ p,FlC CF W cs p:=by
 obtain⟨xs,n,_,hx,hlen,hxl,hfd⟩:=DataW.trod_struct hs h
 rw[hC] at hlen
 obtain⟨o0,o1,o2,o3,o4,o5⟩:=ho
 obtain⟨v0,v1,v2,v3,v4,v5,v6,v7,v8,v9,v10,v11,v12,v13,rfl⟩:∃ v0 v1 v2 v3 v4 v5 v6 v7 v8 v9 v10 v11 v12 v13,cs=[v0,v1,v2,v3,v4,v5,v6,v7,v8,v9,v10,v11,v12,v13]:=by
  match cs,hlen with
  | [c0,c1,c2,c3,c4,c5,c6,c7,c8,c9,c10,c11,c12,c13],_=> exact⟨_,_,_,_,_,_,_,_,_,_,_,_,_,_,rfl⟩
 have hx6:xs.length=6:=hxl
 have g0:=hfd 0 f0 rfl
 have g1:=hfd 1 f1 rfl
 have g2:=hfd 2 f2 rfl
 have g3:=hfd 3 f3 rfl
 have g4:=hfd 4 f4 rfl
 have g5:=hfd 5 f5 rfl
 rw[List.getElem?_eq_getElem (by omega)] at g0 g1 g2 g3 g4 g5
 simp only[o0,o1,o2,o3,o4,o5,c0,c1,c2,c3,c4,c5,List.drop_succ_cons,List.drop_zero,List.take_succ_cons,List.take_zero] at g0 g1 g2 g3 g4 g5
 obtain⟨s0,e0,-,-⟩:=DataW.trod_string u0 g0
 obtain⟨p,vr,vq,vg,e1,⟨p1,p2,p3⟩,-⟩:=hP _ _ _ g1
 obtain⟨n2,e2,-,-⟩:=DataW.trod_int u2 g2
 obtain⟨n3,e3,-,-⟩:=DataW.trod_int u3 g3
 obtain⟨n4,e4,-,-⟩:=DataW.trod_int u4 g4
 obtain⟨t5,h5⟩:=hT _ _ _ g5
 simp only[pmC,List.cons.injEq,and_true] at e0 e1 e2 e3 e4
 obtain⟨rfl,rfl,rfl,rfl,rfl⟩:=e1
 subst e0 e2 e3 e4
 exact⟨⟨s0,p,n2,n3,n4,t5⟩,_,_,_,_,rfl,⟨Hv p1,Hv p2,Hv p3⟩,h5⟩
theorem Ln {t b:TypeId} {f0 f1 f2:Field} {fuel:Nat} {cs:List Value} {x:DataW H × List MemPlace} (hs:Tryz.prog.underlying t=some (.struct #[f0,f1,f2])) (hone:Deep.oneCellFields Tryz.prog #[f0,f1,f2]=true) (hC:Tryz.prog.cellsOf t=3)
  (u0:Tryz.prog.underlying f0.type=some (.int .i64)) (u1:Tryz.prog.underlying f1.type=some (.int .i64)) (u2:Tryz.prog.underlying f2.type=some (.slice b)) (ub:Tryz.prog.underlying b=some (.int .i64)) (cb:Tryz.prog.cellsOf b=1)
  (h:DataW.trod enc Tryz.prog W 0 (fun _=> true) true fuel t cs=some x):∃ p,CiC CF W cs p:=by
 obtain⟨xs,n,_,hx,hlen,hxl,hfd⟩:=DataW.trod_struct hs h
 rw[hC] at hlen
 obtain⟨v0,v1,v2,rfl⟩:∃ v0 v1 v2,cs=[v0,v1,v2]:=by
  match cs,hlen with
  | [c0,c1,c2],_=> exact⟨_,_,_,rfl⟩
 have hx3:xs.length=3:=hxl
 have g0:=hfd 0 f0 rfl
 have g1:=hfd 1 f1 rfl
 have g2:=hfd 2 f2 rfl
 obtain⟨o0,k0⟩:=Deep.hone_of hone 0 f0 rfl
 obtain⟨o1,k1⟩:=Deep.hone_of hone 1 f1 rfl
 obtain⟨o2,k2⟩:=Deep.hone_of hone 2 f2 rfl
 rw[List.getElem?_eq_getElem (by omega)] at g0 g1 g2
 simp only[o0,o1,o2,k0,k1,k2,List.drop_succ_cons,List.drop_zero,List.take_succ_cons,List.take_zero] at g0 g1 g2
 obtain⟨n0,e0,-,-⟩:=DataW.trod_int u0 g0
 obtain⟨n1,e1,-,-⟩:=DataW.trod_int u1 g1
 obtain⟨l2,h2,-⟩:=Eh u2 ub cb g2
 simp only[List.cons.injEq,and_true] at e0 e1
 subst e0 e1
 exact⟨⟨n0,n1,l2⟩,_,rfl,Hv h2⟩
theorem LM {t:TypeId} {f0 f1 f2 f3 f4:Field} {fuel:Nat} {cs:List Value} {x:DataW H × List MemPlace} (hs:Tryz.prog.underlying t=some (.struct #[f0,f1,f2,f3,f4])) (hC:Tryz.prog.cellsOf t=9)
  (ho:f0.offset=0∧f1.offset=1∧f2.offset=2∧f3.offset=3∧f4.offset=4)
  (c0:Tryz.prog.cellsOf f0.type=1) (c1:Tryz.prog.cellsOf f1.type=1) (c2:Tryz.prog.cellsOf f2.type=1) (c3:Tryz.prog.cellsOf f3.type=1) (c4:Tryz.prog.cellsOf f4.type=5)
  (u0:Tryz.prog.underlying f0.type=some .string) (u1:Tryz.prog.underlying f1.type=some (.int .i64)) (u2:Tryz.prog.underlying f2.type=some (.int .i64)) (u3:Tryz.prog.underlying f3.type=some (.int .i64))
  (hT:∀ (fuel:Nat) (cs:List Value) (x:DataW H × List MemPlace),DataW.trod enc Tryz.prog W 0 (fun _=> true) true fuel f4.type cs=some x→∃ t,TmC CF W cs t)
  (h:DataW.trod enc Tryz.prog W 0 (fun _=> true) true fuel t cs=some x):∃ p,WrC CF W cs p:=by
 obtain⟨xs,n,_,hx,hlen,hxl,hfd⟩:=DataW.trod_struct hs h
 rw[hC] at hlen
 obtain⟨o0,o1,o2,o3,o4⟩:=ho
 obtain⟨v0,v1,v2,v3,v4,v5,v6,v7,v8,rfl⟩:∃ v0 v1 v2 v3 v4 v5 v6 v7 v8,cs=[v0,v1,v2,v3,v4,v5,v6,v7,v8]:=by
  match cs,hlen with
  | [c0,c1,c2,c3,c4,c5,c6,c7,c8],_=> exact⟨_,_,_,_,_,_,_,_,_,rfl⟩
 have hx5:xs.length=5:=hxl
 have g0:=hfd 0 f0 rfl
 have g1:=hfd 1 f1 rfl
 have g2:=hfd 2 f2 rfl
 have g3:=hfd 3 f3 rfl
 have g4:=hfd 4 f4 rfl
 rw[List.getElem?_eq_getElem (by omega)] at g0 g1 g2 g3 g4
 simp only[o0,o1,o2,o3,o4,c0,c1,c2,c3,c4,List.drop_succ_cons,List.drop_zero,List.take_succ_cons,List.take_zero] at g0 g1 g2 g3 g4
 obtain⟨s0,e0,-,-⟩:=DataW.trod_string u0 g0
 obtain⟨n1,e1,-,-⟩:=DataW.trod_int u1 g1
 obtain⟨n2,e2,-,-⟩:=DataW.trod_int u2 g2
 obtain⟨n3,e3,-,-⟩:=DataW.trod_int u3 g3
 obtain⟨t4,h4⟩:=hT _ _ _ g4
 simp only[List.cons.injEq,and_true] at e0 e1 e2 e3
 subst e0 e1 e2 e3
 exact⟨⟨s0,n1,n2,n3,t4⟩,_,rfl,h4⟩
theorem Ju {t:TypeId} {f0 f1 f2:Field} {e0 e1 e2:TypeId} {fuel:Nat} {cs:List Value} {x:DataW H × List MemPlace} (hs:Tryz.prog.underlying t=some (.struct #[f0,f1,f2])) (hone:Deep.oneCellFields Tryz.prog #[f0,f1,f2]=true) (hC:Tryz.prog.cellsOf t=3)
  (u0:Tryz.prog.underlying f0.type=some (.slice e0)) (u1:Tryz.prog.underlying f1.type=some (.slice e1)) (u2:Tryz.prog.underlying f2.type=some (.slice e2)) (k0:Tryz.prog.cellsOf e0=14) (k1:Tryz.prog.cellsOf e1=3) (k2:Tryz.prog.cellsOf e2=9)
  (hF:∀ (fuel:Nat) (cs:List Value) (x:DataW H × List MemPlace),DataW.trod enc Tryz.prog W 0 (fun _=> true) true fuel e0 cs=some x→∃ t,FlC CF W cs t)
  (hI:∀ (fuel:Nat) (cs:List Value) (x:DataW H × List MemPlace),DataW.trod enc Tryz.prog W 0 (fun _=> true) true fuel e1 cs=some x→∃ t,CiC CF W cs t)
  (hW:∀ (fuel:Nat) (cs:List Value) (x:DataW H × List MemPlace),DataW.trod enc Tryz.prog W 0 (fun _=> true) true fuel e2 cs=some x→∃ t,WrC CF W cs t)
  (h:DataW.trod enc Tryz.prog W 0 (fun _=> true) true fuel t cs=some x):∃ s,IdC CF W cs s:=by
 obtain⟨xs,n,_,hx,hlen,hxl,hfd⟩:=DataW.trod_struct hs h
 rw[hC] at hlen
 obtain⟨v0,v1,v2,rfl⟩:∃ v0 v1 v2,cs=[v0,v1,v2]:=by
  match cs,hlen with
  | [c0,c1,c2],_=> exact⟨_,_,_,rfl⟩
 have hx3:xs.length=3:=hxl
 have g0:=hfd 0 f0 rfl
 have g1:=hfd 1 f1 rfl
 have g2:=hfd 2 f2 rfl
 obtain⟨o0,q0⟩:=Deep.hone_of hone 0 f0 rfl
 obtain⟨o1,q1⟩:=Deep.hone_of hone 1 f1 rfl
 obtain⟨o2,q2⟩:=Deep.hone_of hone 2 f2 rfl
 rw[List.getElem?_eq_getElem (by omega)] at g0 g1 g2
 simp only[o0,o1,o2,q0,q1,q2,List.drop_succ_cons,List.drop_zero,List.take_succ_cons,List.take_zero] at g0 g1 g2
 obtain⟨l0,h0⟩:=Ep (C:=FlC CF) (by omega) u0 k0 (fun _ _ h=> h.len) hF g0
 obtain⟨l1,h1⟩:=Ep (C:=CiC CF) (by omega) u1 k1 (fun _ _ h=> h.len) hI g1
 obtain⟨l2,h2⟩:=Ep (C:=WrC CF) (by omega) u2 k2 (fun _ _ h=> h.len) hW g2
 exact⟨⟨l0,l1,l2⟩,v0,v1,v2,rfl,h0,h1,h2⟩
theorem Lp {t e:TypeId} {v:Value} {d:DataW H} {p:List MemPlace} (ht:Tryz.prog.underlying t=some (.slice e)) (hC:Tryz.prog.cellsOf e=11)
  (hread:∀ (fuel:Nat) (cs:List Value) (x:DataW H × List MemPlace),DataW.trod enc Tryz.prog W 0 (fun _=> true) true fuel e cs=some x→∃ t,OpC CF W cs t)
  (hv:∃ a len cap,v=.slice a len cap) (h:DataW.Trod enc Tryz.prog W 0 (fun _=> true) true t v d p):∃ l,RwC (OpC CF) 11 CF W v l:=by
 obtain⟨a,len,cap,rfl⟩:=hv
 obtain⟨fuel,hfu⟩:=h
 exact Ep (C:=OpC CF) (by omega) ht hC (fun _ _ h=> h.len) hread (show DataW.trod enc Tryz.prog W 0 (fun _=> true) true fuel t [.slice a len cap]=some (d,p) from by simpa [Value.cells] using hfu)
end
end Go.Proofs.YtgdlfiphihaooaaGreat

import Derived.Test.YtgdlfiphihaooaaGreatYq17
set_option linter.unusedSimpArgs false
set_option linter.unusedVariables false
set_option maxRecDepth 100000
set_option maxHeartbeats 8000000
open _root_.List renaming getElem?_toArray→Aa,getElem?_cons_zero→Ab,getElem?_cons_succ→Ac,setIfInBounds_toArray→Ad,set_cons_zero→Ae,set_cons_succ→Af
open _root_.Go.Lib renaming hid→Ag
open _root_.Nat renaming le_refl→Ah,le_trans→Aj,lt_of_lt_of_le→Ak
open _root_.And renaming intro→Ai
open _root_.Go.Act renaming put→Al
namespace Go.Proofs.YtgdlfiphihaooaaGreat
open Go Go.RowKit
structure OpM where
 k:Int
 u:Int
 nm:ByteArray
 t:Int
 g:Int
 wr:Bool
 b:Tm
structure ResM where
 e:Int
 v:Int
 u:Int
 b:Tm
def tm0:Tm:=.mk 0 0 0 ⟨#[]⟩ []
def opC (o:OpM) (tc:List Value):List Value:=.int .i64 o.k::.int .i64 o.u::.string o.nm::.int .i64 o.t::.int .i64 o.g::.bool o.wr::tc
def AD (e v u:Int) (tc:List Value):List Value:=.int .i64 e::.int .i64 v::.int .i64 u::tc
theorem Bo (F:Nat→Prop) (w:World):TmC F w (tmC 0 0 0 ⟨#[]⟩ (.slice none 0 0)) tm0:=B6.2 ⟨_,rfl,SlT.nil _ _⟩
theorem Tryz.infoOp:(Tryz.prog.info? 31).map (·.size)=some 11:=by kernel_rfl
theorem Tryz.infoRs:(Tryz.prog.info? 37).map (·.size)=some 8:=by kernel_rfl
theorem Tryz.zeroRs:∀ w,(zeroValue 37).run Tryz.prog w=.ok (.agg (AD 0 0 0 (tmC 0 0 0 ⟨#[]⟩ (.slice none 0 0))).toArray) w:=fun w=> by kernel_rfl
theorem Ax {e v u:Int} {tc:List Value} (h:tc.length=5):(Tryz.prog.info? 37).map (·.size)=some (AD e v u tc).length:=by rw[show(AD e v u tc).length=8 by simp[AD,h]];exact Tryz.infoRs
theorem Bs {p:OpM} {tc:List Value} (h:tc.length=5):(Tryz.prog.info? 31).map (·.size)=some (opC p tc).length:=by rw[show(opC p tc).length=11 by simp[opC,h]];exact Tryz.infoOp
theorem AN {e v u:Int} {tc:List Value} (h:∀ x∈tc,x.oneCell'=true):∀ x∈AD e v u tc,x.oneCell'=true:=fun x hx=> by
 simp only[AD,List.mem_cons] at hx
 rcases hx with rfl|rfl|rfl|hx
 ·rfl
 ·rfl
 ·rfl
 ·exact h x hx
theorem Ek {p:OpM} {tc:List Value} (h:∀ x∈tc,x.oneCell'=true):∀ x∈opC p tc,x.oneCell'=true:=fun x hx=> by
 simp only[opC,List.mem_cons] at hx
 rcases hx with rfl|rfl|rfl|rfl|rfl|rfl|hx
 ·rfl
 ·rfl
 ·rfl
 ·rfl
 ·rfl
 ·rfl
 ·exact h x hx
theorem Tryz.buildtold (e:Int):∀ w,(Instr.build 37 #[(0,.int .i64 e)]).run Tryz.prog w=.ok (.agg (AD e 0 0 (tmC 0 0 0 ⟨#[]⟩ (.slice none 0 0))).toArray) w:=fun w=> by kernel_rfl
theorem ET {ops:Array Oper} {rest:List Oper} {op:Oper} {a:Act} {w:World} {Q:Exit→Act→World→Prop} (hgd:op.guard=none) (x0:Operand) (ho:op.op=.build 37 #[(0,x0)])
  (e:Int) (h0:a.eval x0=.int .i64 e)
  (h:wpList Tryz.prog ops Q rest (a.put op.dst (.agg (AD e 0 0 (tmC 0 0 0 ⟨#[]⟩ (.slice none 0 0))).toArray)) w):wpList Tryz.prog ops Q (op::rest) a w:=by
 refine wpList_plain hgd fun K hK=> ?_
 have hrun:(execOp a.eval op).run Tryz.prog w=.ok (.value (.agg (AD e 0 0 (tmC 0 0 0 ⟨#[]⟩ (.slice none 0 0))).toArray)) w:=by
  unfold execOp
  simp only[ho]
  rw[show((#[((0:Nat),x0)]:Array (Nat × Operand)).map fun (i,x)=> (i,a.eval x))=#[(0,.int .i64 e)] by simp[h0]]
  simp[Tryz.buildtold,Result.andThen]
 unfold Oper.wp
 rw[hrun]
 exact hK _ _ h
theorem Tryz.buildres0:∀ w,(Instr.build 37 #[]).run Tryz.prog w=.ok (.agg (AD 0 0 0 (tmC 0 0 0 ⟨#[]⟩ (.slice none 0 0))).toArray) w:=fun w=> by kernel_rfl
theorem Bb {ops:Array Oper} {rest:List Oper} {op:Oper} {a:Act} {w:World} {Q:Exit→Act→World→Prop} (hgd:op.guard=none) (ho:op.op=.build 37 #[])
  (h:wpList Tryz.prog ops Q rest (a.put op.dst (.agg (AD 0 0 0 (tmC 0 0 0 ⟨#[]⟩ (.slice none 0 0))).toArray)) w):wpList Tryz.prog ops Q (op::rest) a w:=by
 refine wpList_plain hgd fun K hK=> ?_
 have hrun:(execOp a.eval op).run Tryz.prog w=.ok (.value (.agg (AD 0 0 0 (tmC 0 0 0 ⟨#[]⟩ (.slice none 0 0))).toArray)) w:=by
  unfold execOp
  simp only[ho]
  simp[Tryz.buildres0,Result.andThen]
 unfold Oper.wp
 rw[hrun]
 exact hK _ _ h
theorem Tryz.buildblg (x y:Int):∀ w,(Instr.build 105 #[(0,.int .i64 x),(1,.int .i64 y)]).run Tryz.prog w=.ok (.agg [.int .i64 x,.int .i64 y].toArray) w:=fun w=> by kernel_rfl
theorem Fg {ops:Array Oper} {rest:List Oper} {op:Oper} {a:Act} {w:World} {Q:Exit→Act→World→Prop} (hgd:op.guard=none) (x0 x1:Operand) (ho:op.op=.build 105 #[(0,x0),(1,x1)])
  (x y:Int) (h0:a.eval x0=.int .i64 x) (h1:a.eval x1=.int .i64 y)
  (h:wpList Tryz.prog ops Q rest (a.put op.dst (.agg [.int .i64 x,.int .i64 y].toArray)) w):wpList Tryz.prog ops Q (op::rest) a w:=by
 refine wpList_plain hgd fun K hK=> ?_
 have hrun:(execOp a.eval op).run Tryz.prog w=.ok (.value (.agg [.int .i64 x,.int .i64 y].toArray)) w:=by
  unfold execOp
  simp only[ho]
  rw[show((#[((0:Nat),x0),(1,x1)]:Array (Nat × Operand)).map fun (i,x)=> (i,a.eval x))=#[(0,.int .i64 x),(1,.int .i64 y)] by simp[h0,h1]]
  simp[Tryz.buildblg,Result.andThen]
 unfold Oper.wp
 rw[hrun]
 exact hK _ _ h
theorem Be (e:Int) (w:World):Calls Tryz.prog 87 #[.int .i64 e] w (fun e' w'=> e'=.returned (.agg (AD e 0 0 (tmC 0 0 0 ⟨#[]⟩ (.slice none 0 0))).toArray)∧Below w.heap.size w w'):=by
 go_enter Tryz.func87,Tryz.ntmps87
 go_wp2_with (first
  | ((with_reducible refine Av w rfl 37 rfl (AD 0 0 0 (tmC 0 0 0 ⟨#[]⟩ (.slice none 0 0))) Tryz.zeroRs ?_);intro b1 hb hbel hsz;have HB1:=Ag (Ai hb hbel);clear hb hbel hsz)
  | (with_reducible refine ET rfl (.tmp 3) rfl e rfl ?_)
  | ((with_reducible refine Ao b1 rfl 37 (.tmp 2) (.tmp 4) rfl w.heap.size 37 (AD 0 0 0 (tmC 0 0 0 ⟨#[]⟩ (.slice none 0 0))) (AD e 0 0 (tmC 0 0 0 ⟨#[]⟩ (.slice none 0 0))) HB1.out.1 rfl rfl rfl (Ax rfl) (AN (AS _ _ _ _ _ _ _)) ?_);intro b2 hb hc hs;have HB2:=Ag (Ai hb (Aw HB1.out.2 hc (Ah _) (fun k hk=> by have e:k=w.heap.size:=hk;omega)));clear hb hc hs))
 refine bodyPost_ret (AC Tryz.results87 _ _ w.heap.size _ _ rfl HB2.out.1 _ Tryz.underlying37 rfl (Ax rfl)) rfl ?_
 exact⟨rfl,HB2.out.2⟩
def BX (cs:List CirM):List (Int × Int):=cs.flatMap fun c=> c.us.map fun u=> (c.n,u)
def BlC (_:World) (cs:List Value) (p:Int × Int):Prop:=cs=[.int .i64 p.1,.int .i64 p.2]
theorem OwR.slP {B:Nat} {w:World} {v:Value} {l:List (Int × Int)} (h:OwR BlC 2 105 B w v l):SlP w v .i64 .i64 l:=by
 obtain⟨ao,c,h1,h2,h3,h4⟩:=h.rwc
 refine⟨ao,c,h1,h2,by unfold maxLen at h3;exact h3,fun h0=> ?_⟩
 obtain⟨b,o,e,-,hb,ha⟩:=h4 h0
 refine⟨b,o,e,hb,fun j hj=> ?_⟩
 obtain⟨cs,-,k1,k2⟩:=ha j hj
 unfold BlC at k2
 subst k2
 exact⟨by have:=k1 0 _ rfl;simpa using this,k1 1 _ rfl⟩
theorem Tryz.infoBe:(Tryz.prog.info? 105).map (fun i=> (i.zero,i.size,i.bytes))=some (some (.agg ([.int .i64 0,.int .i64 0]:List Value).toArray),2,16):=by kernel_rfl
theorem Tryz.zeroBe:∀ w,(zeroValue 105).run Tryz.prog w=.ok (.agg ([.int .i64 0,.int .i64 0]:List Value).toArray) w:=fun w=> by kernel_rfl
theorem Tryz.zeroCi3:∀ w,(zeroValue 49).run Tryz.prog w=.ok (.agg (ciC 0 0 (.slice none 0 0)).toArray) w:=fun w=> by kernel_rfl
theorem FX (w:World) {ops:Array Oper} {rest:List Oper} {o:Oper} {a:Act} {Q:Exit→Act→World→Prop} (hgd:o.guard=none) (x:Operand) (ho:o.op=.buildSlice 69 1 #[(0,x)]) (cs:List Value) (hcs:cs.length=2)
  (hx:a.eval x=.agg cs.toArray) (h:∀ w',Blk w' w.heap.size 105 cs→Below w.heap.size w w'→w'.heap.size=w.heap.size+1→wpList Tryz.prog ops Q rest (a.put o.dst (.slice (some ⟨w.heap.size,0,none⟩) 1 1)) w'):wpList Tryz.prog ops Q (o::rest) a w:=
 Bk w hgd 69 x ho Tryz.underlying69 (fun w=> by kernel_rfl) Tryz.zeroBe (by decide) (by decide) cs hcs hx h
theorem RwC.of_one {α:Type} {C:World→List Value→α→Prop} {sz:Nat} {F:Nat→Prop} {w:World} {b:Nat} {ty:TypeId} {cs:List Value} {t:α} (hb:Blk w b ty cs) (hF:F b) (hl:cs.length=sz) (ht:C w cs t):RwC C sz F w (.slice (some ⟨b,0,none⟩) 1 1) [t]:=
 ⟨some ⟨b,0,none⟩,1,rfl,Ah _,by unfold maxLen;omega,fun _=> ⟨b,0,rfl,hF,hb.lt,fun j hj=> match j,hj with|0,_=> ⟨cs,hl,by simpa using As hb,ht⟩⟩⟩
theorem FB (s:IdM) (cs:List Value) (F:Nat→Prop) (w:World) (hs:IdC F w cs s) (hl:(BX s.cs).length≤1000000):
  Calls Tryz.prog 24 #[.agg cs.toArray] w (fun e w'=> ∃ v,e=.returned v∧SlP w' v .i64 .i64 (BX s.cs)∧Below w.heap.size w w'):=by
 obtain⟨vf,vc,vw,rfl,hf,hc,hw⟩:=hs
 obtain⟨ca,cc,rfl,hcn,hcc⟩:=hc.shape
 have HC0:=Ag hc
 obtain⟨cn,hcn'⟩:∃ n,s.cs.length=n:=⟨_,rfl⟩
 have HN:=Ag hcn'
 rw[hcn'] at HC0 hcn ⊢
 obtain⟨R,hR⟩:∃ R,BX s.cs=R:=⟨_,rfl⟩
 have HR:=Ag hR
 have HL:=Ag hl
 rw[hR] at HL ⊢
 have hcc63:cn≤9223372036854775807:=by unfold maxLen at hcc;omega
 obtain⟨i0,hi0,hz0,hz1,hz2⟩:=info_parts Tryz.infoBe
 have HI:=Ag (Ai hi0 (Ai hz0 (Ai hz1 hz2)))
 clear hf hc hw hl hR hcn' hcn hcc hi0 hz0 hz1 hz2
 go_enter Tryz.func24,Tryz.ntmps24
 go_upto_region 2 with(first
  | ((with_reducible refine Au w rfl 26 (.tmp 0) rfl ([vf,.slice ca cn cc,vw]) rfl ?_);intro a1 hb hbel hsz;have H1:=hJ2 hb hbel;clear hb hbel hsz))
 try simp only[Al,Ad,Ae,Af]
 have c1:=H1.out.1.cell 1
 simp only[Ab,Ac] at c1
 have HG0:=Ag H1.out.1.lt
 go_wp2_with fail
 clear c1
 go_loopw [3,5,7,11] (fun s3 s5 s7 s11 wr=> ∃ (k:Nat) (l:List (Int × Int)) (oz:Option Addr) (pz:Nat),s11=.int .i64 k∧k≤cn∧s3=.slice oz l.length pz∧Hid (l ++ BX (s.cs.drop k)=R)∧Hid (Blk wr (w.heap.size) 26 ([vf,.slice ca cn cc,vw])∧OwR BlC 2 105 a1.heap.size wr (.slice oz l.length pz) l∧a1.heap.size≤wr.heap.size∧Below w.heap.size w wr)) (fun _ _ _ s11 _=> cn - (intOf s11).toNat)
 case atStart=> exact⟨0,[],none,0,rfl,Nat.zero_le _,rfl,Ag (by rw[List.drop_zero,HR.out];rfl),Ag ⟨H1.out.1,OwR.nil,Ah _,H1.out.2⟩⟩
 case round=>
  clear H1
  obtain⟨k,l,oz,pz,rfl,hk,rfl,HT,HZ⟩:=hrel
  by_cases hlt:k<cn
  ·have hkl:k<s.cs.length:=by rw[HN.out];exact hlt
   have hkz:(k:Int)<(cn:Int):=by omega
   have hk0:(0:Int)≤(k:Int):=by omega
   have HGG:=hJ2 HG0.out HZ.out.2.2.1
   obtain⟨b,o,cs,rfl,-,-,hlen,hra,hci⟩:=HC0.out.get hkl
   have HT2:=Ag (show l ++ ((s.cs[k].us.map fun u=> (s.cs[k].n,u)) ++ BX (s.cs.drop (k+1)))=R from by rw[←HT.out,List.drop_eq_getElem_cons hkl];rfl)
   generalize s.cs[k]=y at hci HT2
   have HON:=Ag hci.one
   obtain⟨vu,hcs,hus⟩:=hci
   obtain⟨ua,uc,rfl,hu1,hu2,-⟩:=hus.1.nums
   have HUS:=Ag hus
   obtain⟨un,hun⟩:∃ n,y.us.length=n:=⟨_,rfl⟩
   have HUN:=Ag hun
   have HU:=Ag (show cs=ciC y.n y.o (.slice ua un uc) from by rw[hcs,hun])
   have HRA:=Ag (Ai (show wr.rangeAt b (o+k* 3) cs from fun i x hx=> (HZ.out.2.2.2.cell (Am (hra i x hx))).trans (hra i x hx)) hlen)
   have HZL:=Ag (show cs.length=(ciC 0 0 (.slice none 0 0)).length from hlen)
   have hun63:un≤9223372036854775807:=by omega
   clear hra hlen hcs hus hun hu1 hu2 HT hkl
   go_upto_region 5 with(first
  | (with_reducible refine Ap rfl 49 (.tmp 13) rfl b (o+k* 3) rfl cs _ HRA.out.1 Tryz.underlying49 rfl (At Tryz.infoCi HRA.out.2) ?_)
  | ((with_reducible refine Av wr rfl 49 rfl (ciC 0 0 (.slice none 0 0)) Tryz.zeroCi3 ?_);intro x2 hb hbel hsz;have HX2:=Ag (show Blk x2 (w.heap.size) 26 ([vf,.slice (some ⟨b,o,none⟩) cn cc,vw])∧OwR BlC 2 105 a1.heap.size x2 (.slice oz l.length pz) l∧a1.heap.size≤x2.heap.size∧Below w.heap.size w x2∧Blk x2 (wr.heap.size) 49 (ciC 0 0 (.slice none 0 0)) from⟨HZ.out.1.below hbel HZ.out.1.lt,(HZ.out.2.1.keep' (Ch.of_below (S:=fun _=> False) hbel (Ah _)) (fun _ _ e=> e) (fun _ _ _ h=> h)),(Aj HZ.out.2.2.1 hbel.size),(An HZ.out.2.2.2 hbel (Ah _)),hb⟩);clear hb hbel hsz)
  | ((with_reducible refine Ao x2 rfl 49 (.tmp 5) (.tmp 14) rfl (wr.heap.size) 49 (ciC 0 0 (.slice none 0 0)) cs HX2.out.2.2.2.2 rfl rfl HZL.out (At Tryz.infoCi HRA.out.2) HON.out ?_);intro x3 hb hc hs;have HX3:=Ag (show Blk x3 (w.heap.size) 26 ([vf,.slice (some ⟨b,o,none⟩) cn cc,vw])∧OwR BlC 2 105 a1.heap.size x3 (.slice oz l.length pz) l∧a1.heap.size≤x3.heap.size∧Below w.heap.size w x3∧Blk x3 (wr.heap.size) 49 (cs)∧((∀ k,(Value.slice oz l.length pz).ownBlock=some k→k≠wr.heap.size)) from⟨HX2.out.1.keep hc (fun e=> by have e:w.heap.size=wr.heap.size:=e;have:=HGG.out;omega),HX2.out.2.1.keep' hc (fun k hk e=> by have e:k=wr.heap.size:=e;have:=(HZ.out.2.1.lt k hk).2;omega) (fun _ _ _ h=> h),(Aj HX2.out.2.2.1 hc.size),Aw HX2.out.2.2.2.1 hc (Ah _) (fun k hk=> by have e:k=wr.heap.size:=hk;have:=HGG.out;omega),hb,fun k hk e=> by have:=(HZ.out.2.1.lt k hk).2;omega⟩);clear hb hc hs))
   try simp only[Al,Ad,Ae,Af]
   obtain⟨gc,hgc⟩:∃ g,wr.heap.size=g:=⟨_,rfl⟩
   have HGC:=Ag (show a1.heap.size≤gc from by rw[←hgc];exact HGG.out.2)
   have HY0:=HX3
   rw[hgc,HU.out] at HY0
   rw[hgc]
   clear hgc HX2 HX3
   have c2:=HY0.out.2.2.2.2.1.cell 2
   simp only[ciC,Ab,Ac] at c2
   go_wp2_with fail
   clear c2
   go_loopw [3,7,18] (fun s3 s7 s18 wr=> ∃ (j:Nat) (l:List (Int × Int)) (oz:Option Addr) (pz:Nat),s18=.int .i64 j∧j≤un∧s3=.slice oz l.length pz∧Hid (l ++ (((y.us.drop j).map fun u=> (y.n,u)) ++ BX (s.cs.drop (k+1)))=R)∧Hid (Blk wr (w.heap.size) 26 ([vf,.slice (some ⟨b,o,none⟩) cn cc,vw])∧OwR BlC 2 105 a1.heap.size wr (.slice oz l.length pz) l∧a1.heap.size≤wr.heap.size∧Below w.heap.size w wr∧Blk wr (gc) 49 (ciC y.n y.o (.slice ua un uc))∧((∀ k,(Value.slice oz l.length pz).ownBlock=some k→k≠gc)))) (fun _ _ s18 _=> un - (intOf s18).toNat)
   case atStart=> exact⟨0,l,oz,pz,rfl,Nat.zero_le _,rfl,Ag (by rw[List.drop_zero];exact HT2.out),HY0⟩
   case round=>
    clear HY0 HT2 HZ HRA HGG
    obtain⟨j,l,oz,pz,rfl,hj,rfl,HT,HY⟩:=hrel
    by_cases hlt:j<un
    ·have hjl:j<y.us.length:=by rw[HUN.out];exact hlt
     have hjz:(j:Int)<(un:Int):=by omega
     have hj0:(0:Int)≤(j:Int):=by omega
     obtain⟨ua',uc',e1,-,-,hcl⟩:=(HUS.out.below HY.out.2.2.2.1).1.nums
     obtain⟨ub,uo,e2,-,hcell⟩:=hcl (by omega)
     obtain rfl:ua=ua':=by simpa using (Value.slice.inj e1).1
     subst e2
     have z1:=hcell j hjl
     have c0:=HY.out.2.2.2.2.1.cell 0
     simp only[ciC,Ab,Ac] at c0
     have HT2:=Ag (show(l ++ [(y.n,y.us[j])]) ++ (((y.us.drop (j+1)).map fun u=> (y.n,u)) ++ BX (s.cs.drop (k+1)))=R from by rw[←HT.out,List.drop_eq_getElem_cons hjl,List.map_cons,List.append_assoc];rfl)
     have HLL:=Ag (show l.length+1≤1000000 from by have h:=congrArg List.length HT2.out;have:=HL.out;simp only[List.length_append,List.length_cons,List.length_nil] at h;omega)
     generalize y.us[j]=ux at z1 HT2
     clear e1 hcl hcell HT hjl
     go_wp2_with (first
      | (with_reducible refine Fg rfl (.tmp 24) (.tmp 25) rfl y.n ux rfl rfl ?_)
      | ((with_reducible refine FX wr rfl (.tmp 26) rfl [.int .i64 y.n,.int .i64 ux] rfl rfl ?_);intro z2 hb hbel hsz;have HX2:=Ag (show Blk z2 (w.heap.size) 26 ([vf,.slice (some ⟨b,o,none⟩) cn cc,vw])∧OwR BlC 2 105 a1.heap.size z2 (.slice oz l.length pz) l∧a1.heap.size≤z2.heap.size∧Below w.heap.size w z2∧Blk z2 (gc) 49 (ciC y.n y.o (.slice (some ⟨ub,uo,none⟩) un uc))∧((∀ k,(Value.slice oz l.length pz).ownBlock=some k→k≠gc))∧Blk z2 (wr.heap.size) 105 ([.int .i64 y.n,.int .i64 ux]) from⟨HY.out.1.below hbel HY.out.1.lt,(HY.out.2.1.keep' (Ch.of_below (S:=fun _=> False) hbel (Ah _)) (fun _ _ e=> e) (fun _ _ _ h=> h)),(Aj HY.out.2.2.1 hbel.size),(An HY.out.2.2.2.1 hbel (Ah _)),HY.out.2.2.2.2.1.below hbel HY.out.2.2.2.2.1.lt,HY.out.2.2.2.2.2,hb⟩);clear hb hbel hsz)
      | (at_builtin;refine Bz rfl (.tmp 22) (.tmp 27) 69 rfl Tryz.underlying69 i0 _ 16 HI.out.1 HI.out.2.1 HI.out.2.2.1 HI.out.2.2.2 rfl (by omega) (r:=[(y.n,ux)]) (F:=fun _=> True) (C':=BlC) HX2.out.2.1 rfl rfl (RwC.of_one HX2.out.2.2.2.2.2.2 trivial rfl rfl) (fun cs a _ h u hu=> by unfold BlC at h;subst h;simp only[List.mem_cons,List.not_mem_nil,or_false] at hu;rcases hu with rfl|rfl <;> rfl) (l ++ [(y.n,ux)]).length (by simp) (by have:=HLL.out;simp;omega) (by omega) HX2.out.2.2.1 (fun _ _ _ _ _ h=> h) ?_))
     intro oy py z3 hown hc hob
     have HX:=Ag (show Blk z3 (w.heap.size) 26 ([vf,.slice (some ⟨b,o,none⟩) cn cc,vw])∧OwR BlC 2 105 a1.heap.size z3 (.slice oy (l.length+1) py) (l ++ [(y.n,ux)])∧a1.heap.size≤z3.heap.size∧Below w.heap.size w z3∧Blk z3 (gc) 49 (ciC y.n y.o (.slice (some ⟨ub,uo,none⟩) un uc))∧((∀ k,(Value.slice oy (l.length+1) py).ownBlock=some k→k≠gc)) from⟨HX2.out.1.keep hc (fun e=> by have h:=(HX2.out.2.1.lt _ e).1;have:=HG0.out;omega),hown,(Aj HX2.out.2.2.1 hc.size),Aw HX2.out.2.2.2.1 hc (Ah _) (fun k hk=> by have h:=(HX2.out.2.1.lt k hk).1;have:=HG0.out;omega),HX2.out.2.2.2.2.1.keep hc (fun e=> HX2.out.2.2.2.2.2.1 _ e rfl),fun k hk e=> by
      rcases hob with h|h
      ·rw[h] at hk;exact HX2.out.2.2.2.2.2.1 k hk e
      ·rw[h] at hk;injection hk with hk;have:=HX2.out.2.2.2.2.1.lt;omega⟩)
     clear hown hc hob
     go_wp2_with fail
     go_roundw
     case measure=> simp[intOf];omega
     case rel=>
      have e:(l ++ [(y.n,ux)]).length=l.length+1:=by simp
      exact⟨j+1,l ++ [(y.n,ux)],oy,py,by go_num,by omega,by rw[e],HT2,by rw[e];exact HX⟩
    ·have hge:¬ (j:Int)<(un:Int):=by omega
     have HT2:=Ag (show l ++ BX (s.cs.drop (k+1))=R from by rw[←HT.out,show y.us.drop j=[] from List.drop_of_length_le (by rw[HUN.out];omega)];simp)
     go_wp2_with fail
     go_roundw
     case measure=> simp[intOf];omega
     case rel=> exact⟨k+1,l,oz,pz,by go_num,by omega,rfl,HT2,Ag ⟨HY.out.1,HY.out.2.1,HY.out.2.2.1,HY.out.2.2.2.1⟩⟩
  ·have hge:¬ (k:Int)<(cn:Int):=by omega
   have HE:=Ag (show l=R from by rw[←HT.out,List.drop_of_length_le (by rw[HN.out];omega)];simp[BX])
   go_wp2_with fail
   go_ret
   exact⟨_,rfl,by rw[←HE.out];exact HZ.out.2.1.slP,HZ.out.2.2.2⟩
theorem Co (w:World) {ops:Array Oper} {rest:List Oper} {o:Oper} {a:Act} {Q:Exit→Act→World→Prop} (hgd:o.guard=none) (x:Operand) (ho:o.op=.buildSlice 24 1 #[(0,x)]) (cs:List Value) (hcs:cs.length=9)
  (hx:a.eval x=.agg cs.toArray) (h:∀ w',Blk w' w.heap.size 56 cs→Below w.heap.size w w'→w'.heap.size=w.heap.size+1→wpList Tryz.prog ops Q rest (a.put o.dst (.slice (some ⟨w.heap.size,0,none⟩) 1 1)) w'):wpList Tryz.prog ops Q (o::rest) a w:=
 Bk w hgd 24 x ho Tryz.underlying24 (fun w=> by kernel_rfl) (zs:=(wrC ⟨#[]⟩ 0 0 0 (tmC 0 0 0 ⟨#[]⟩ (.slice none 0 0))).toArray) (fun w=> by kernel_rfl) (by decide) (by decide) cs hcs hx h
theorem Tryz.zeroWr9:∀ w,(zeroValue 56).run Tryz.prog w=.ok (.agg (wrC ⟨#[]⟩ 0 0 0 (tmC 0 0 0 ⟨#[]⟩ (.slice none 0 0))).toArray) w:=fun w=> by kernel_rfl
section
variable {w0 w w':World} {m0 xs:List Nat} {bp:Nat} {bt:TypeId} {cells cells':List Value} {vf vc vw vf' vc' vw':Value} {fs fs':List FileM} {cv cv':List CirV} {ws ws':List WrM} {ex:List (List Value × Tm)}
theorem OwnX.exadd (h:OwnX w0 m0 xs w bp bt cells vf vc vw fs cv ws ex) {cs:List Value} {t:Tm} (ht:TmC (Fz xs (msL bp vf vc vw cv) w) w cs t):OwnX w0 m0 xs w bp bt cells vf vc vw fs cv ws ((cs,t)::ex):=
 ⟨h.ch,h.nd,h.sub,h.ax,h.bl,h.rf,h.rc,h.rw,fun p hp=> by
  rcases List.mem_cons.1 hp with rfl|hp
  ·exact ht
  ·exact h.ex p hp⟩
theorem DY {ops:Array Oper} {rest:List Oper} {o:Oper} {a:Act} {Q:Exit→Act→World→Prop} (hgd:o.guard=none) (s x':Operand) (ho:o.op=.call {callee:=.builtin .append,args:=#[s,x'],argTypes:=#[24,24]})
  (h:OwnX w0 m0 xs w bp bt cells vf vc vw fs cv ws ex) (hs:a.eval s=vw) {b:Nat} {cs:List Value} {x:WrM} (hx:a.eval x'=.slice (some ⟨b,0,none⟩) 1 1) (hb:Blk w b 56 cs) (hw:WrC (Fz xs (msL bp vf vc vw cv) w) w cs x) (hn:ws.length≤1000000)
  (hK:∀ ao c w',OwnX w0 m0 xs w' bp bt cells vf vc (.slice ao (ws.length+1) c) fs cv (ws ++ [x]) ex→Ch (fun k=> vw.ownBlock=some k) w w'→wpList Tryz.prog ops Q rest (a.put o.dst (.slice ao (ws.length+1) c)) w'):wpList Tryz.prog ops Q (o::rest) a w:=by
 obtain⟨i0,hi,hz0,hz1,hz2⟩:=info_parts Tryz.infoRW
 have hN:∀ k,Fz xs (msL bp vf vc vw cv) w k→¬ (vw.ownBlock=some k):=fun k hk e=> hk.1.2 (GS k (AG.2 e))
 refine Bz hgd s x' 24 ho Tryz.underlying24 i0 _ 104 hi hz0 hz1 hz2 rfl (by omega) (C':=WrC (Fz xs (msL bp vf vc vw cv) w)) h.rw hs hx (r:=[x]) (RwC.of_one (F:=fun _=> True) hb trivial hw.len hw) (fun cs a _ h=> h.one) (ws.length+1) (by simp) (by omega) (by omega) (Nat.zero_le _) (fun w' hc cs a _ hf=> hf.keep' hc hN (idf _)) ?_
 intro ao c w' hown hc hob
 have hob':(Value.slice ao (ws.length+1) c).ownBlock=vw.ownBlock∨∀ k,(Value.slice ao (ws.length+1) c).ownBlock=some k→w.heap.size≤k:=hob.imp id (fun h k hk=> by rw[h] at hk;injection hk with hk;omega)
 exact hK ao c w' (h.newW hc hob' (fun _=> hown.mono (Ah _) (fun cs a _ hf=> hf.mono (frz hc.size (msL_w (Im hob' GS) (fun k hk=> .inl hk)))))) hc
theorem OwnX.elF {g n c i:Nat} {f:FileM} (h:OwnX w0 m0 xs w bp bt cells (.slice (some ⟨g,0,none⟩) n c) vc vw (fs.set i f) cv ws ex) (hi:i<fs.length):g<w.heap.size∧∃ vr vq vg tc,
  w.rangeAt g (i* 14) (flC f.nm f.p.o f.p.e vr vq vg f.v f.e f.u tc)∧PmF (Fz xs (msL bp (.slice (some ⟨g,0,none⟩) n c) vc vw cv) w) w f.p vr vq vg∧TmC (Fz xs (msL bp (.slice (some ⟨g,0,none⟩) n c) vc vw cv) w) w tc f.b∧w.there g (i* 14) 14∧
  (∀ x,OwnX w0 m0 xs (w.setCells g (i* 14+6) [.int .i64 x]) bp bt cells (.slice (some ⟨g,0,none⟩) n c) vc vw (fs.set i ⟨f.nm,f.p,x,f.e,f.u,f.b⟩) cv ws ex)∧
  (∀ x,OwnX w0 m0 xs (w.setCells g (i* 14+7) [.int .i64 x]) bp bt cells (.slice (some ⟨g,0,none⟩) n c) vc vw (fs.set i ⟨f.nm,f.p,f.v,x,f.u,f.b⟩) cv ws ex)∧
  (∀ x,OwnX w0 m0 xs (w.setCells g (i* 14+8) [.int .i64 x]) bp bt cells (.slice (some ⟨g,0,none⟩) n c) vc vw (fs.set i ⟨f.nm,f.p,f.v,f.e,x,f.b⟩) cv ws ex)∧
  (∀ tc' b',TmC (Fz xs (msL bp (.slice (some ⟨g,0,none⟩) n c) vc vw cv) w) w tc' b'→OwnX w0 m0 xs (w.setCells g (i* 14+9) tc') bp bt cells (.slice (some ⟨g,0,none⟩) n c) vc vw (fs.set i ⟨f.nm,f.p,f.v,f.e,f.u,b'⟩) cv ws ex)∧
  (∀ p' ur uq ug,PmF (Fz xs (msL bp (.slice (some ⟨g,0,none⟩) n c) vc vw cv) w) w p' ur uq ug→OwnX w0 m0 xs (w.setCells g (i* 14+1) (pmC p'.o p'.e ur uq ug)) bp bt cells (.slice (some ⟨g,0,none⟩) n c) vc vw (fs.set i ⟨f.nm,p',f.v,f.e,f.u,f.b⟩) cv ws ex):=by
 have hi':i<(fs.set i f).length:=by rw[List.length_set];exact hi
 obtain⟨hg,cs,hl,hra,hf,hth,hput⟩:=h.putF hi'
 rw[List.getElem_set_self] at hf
 obtain⟨vr,vq,vg,tc,rfl,hp,ht⟩:=hf
 have hput':∀ q new f',q+new.length≤14→FlC (Fz xs (msL bp (.slice (some ⟨g,0,none⟩) n c) vc vw cv) w) w (AW (flC f.nm f.p.o f.p.e vr vq vg f.v f.e f.u tc) q new) f'→OwnX w0 m0 xs (w.setCells g (i* 14+q) new) bp bt cells (.slice (some ⟨g,0,none⟩) n c) vc vw (fs.set i f') cv ws ex:=fun q new f' h1 h2=> by
  have:=hput q new f' h1 h2
  rw[List.set_set] at this
  exact this
 refine⟨hg,vr,vq,vg,tc,hra,hp,ht,hth,fun x=> hput' 6 _ _ (by simp) ⟨vr,vq,vg,tc,rfl,hp,ht⟩,fun x=> hput' 7 _ _ (by simp) ⟨vr,vq,vg,tc,rfl,hp,ht⟩,fun x=> hput' 8 _ _ (by simp) ⟨vr,vq,vg,tc,rfl,hp,ht⟩,fun tc' b' ht'=> hput' 9 _ _ (by rw[ht'.len];omega) ⟨vr,vq,vg,tc',?_,hp,ht'⟩,fun p' ur uq ug hp'=> hput' 1 _ _ (by simp[pmC]) ⟨ur,uq,ug,tc,rfl,hp',ht⟩⟩
 exact Gv _ _ _ _ _ _ _ _ _ _ _ (by rw[ht.len,ht'.len])
theorem OwnX.ne {g:Nat} (h:OwnX w0 m0 xs w bp bt cells vf vc vw fs cv ws ex) (hg:g∈xs):g≠bp∧g∉ob vf∧g∉ob vc∧g∉ob vw∧g∉ubs cv:=
 ⟨fun e=> (h.ax g hg).1 (e ▸ of_b),fun e=> (h.ax g hg).1 (FV g e),fun e=> (h.ax g hg).1 (FW g e),fun e=> (h.ax g hg).1 (GS g e),fun e=> (h.ax g hg).1 (Gw g e)⟩
end
end Go.Proofs.YtgdlfiphihaooaaGreat

import Derived.Test.YtgdlfiphihaooaaGreatYq3
import Derived.Laws.IdiomCopy
set_option linter.unusedSimpArgs false
set_option linter.unusedVariables false
set_option maxRecDepth 100000
set_option maxHeartbeats 8000000
open _root_.List renaming getElem?_toArray→Aa,getElem?_cons_zero→Ab,getElem?_cons_succ→Ac,setIfInBounds_toArray→Ad,set_cons_zero→Ae,set_cons_succ→Af
open _root_.Go.Lib renaming hid→Ag
open _root_.Nat renaming le_refl→Ah,le_trans→Aj,lt_of_lt_of_le→Ak
open _root_.And renaming intro→Ai
open _root_.Go.Act renaming put→Al
namespace Go.Proofs.YtgdlfiphihaooaaGreat
open Go Go.RowKit Go.Sort
theorem Ch.setCells (b:Nat):∀ (vs:List Value) (o:Nat) (w:World),Ch (·=b) w (w.setCells b o vs)
 | [],_,w=> Ch.refl _ w
 | v::r,o,w=> (Ch.set w ⟨b,o,none⟩ v).trans (Ch.setCells b r (o+1) _)
theorem GZ (P:Int→Bool):∀ (l:List Int) (i:Nat),(DA P l i= -1∧∀ y∈l,P y=false)∨∃ k,∃ (h:k<l.length),DA P l i=((i+k:Nat):Int)∧P l[k]=true∧∀ j (hj:j<k),P (l[j]'(by omega))=false
 | [],i=> .inl ⟨rfl,fun y h=> by cases h⟩
 | x::t,i=> by
  by_cases h:P x=true
  ·exact .inr ⟨0,by simp,by unfold DA;rw[if_pos h];rfl,h,fun j hj=> by omega⟩
  ·have hx:=Bool.eq_false_iff.2 h
   rcases GZ P t (i+1) with⟨e,ha⟩|⟨k,hk,e,ht,ha⟩
   ·refine .inl ⟨by unfold DA;rw[if_neg h];exact e,fun y hy=> ?_⟩
    rcases List.mem_cons.1 hy with rfl|hy
    ·exact hx
    ·exact ha y hy
   ·refine .inr ⟨k+1,by simpa using hk,by unfold DA;rw[if_neg h,e];congr 1;omega,by simpa using ht,fun j hj=> ?_⟩
    cases j with
    | zero=> simpa using hx
    | succ j=> simpa using ha j (by omega)
def Bd (P:Int→Bool) (l:List Int):List Int:=l.filter (fun y=> !P y)
theorem G0 {P:Int→Bool} {l:List Int} (h:∀ y∈l,P y=false):Bd P l=l:=List.filter_eq_self.2 (fun y hy=> by rw[h y hy];rfl)
theorem Gi (P:Int→Bool) (l:List Int) (j:Nat) (h:j<l.length):Bd P (l.take (j+1))=Bd P (l.take j) ++ if P l[j]=true then [] else [l[j]]:=by
 unfold Bd
 rw[List.take_succ_eq_append_getElem h,List.filter_append]
 by_cases hp:P l[j]=true <;> simp[hp]
theorem Lw (l k:List Int):ofK .i64 (l ++ k)=ofK .i64 l ++ ofK .i64 k:=by simp[ofK]
theorem KB (X:List Value) (i:Nat) (u:Value) (h:i<X.length):(X.set i u).take (i+1)=X.take i ++ [u]:=by
 rw[List.take_succ_eq_append_getElem (by rw[List.length_set];exact h),List.getElem_set_self,List.take_set_of_le (Ah _)]
theorem KC (X:List Value) (i t:Nat) (u:Value) (h:i+1≤t):(X.set i u)[t]?=X[t]?:=List.getElem?_set_ne (by omega)
theorem I0 (base:Nat) (P:Int→Bool) (gf:Nat) (lb:List Value) (v:Value) (l:List Int) (w:World) (hv:w.ownsRow base 3 1 v l.length (ofK .i64 l)) (hb:base≤w.heap.size) (hl:l.length≤1000000)
  (hcf:∀ args w1,Sem.run Tryz.prog (callFunc gf args) w1=.ok (.enter gf args) w1) (hst:∀ (n:Int) (w1:World),Ch (fun k=> v.ownBlock=some k) w w1→Calls Tryz.prog gf (.int .i64 n::lb).toArray w1 (fun e w'=> e=.returned (.bool (P n))∧w1=w')):
  Calls Tryz.prog 124 #[v,.func (.func gf) #[] lb.toArray] w (JW base w (Bd P l)):=by
 have HI:=Ag (Gc P gf lb v l w (Sl.of_owns hv) hcf (fun n=> hst n w (Ch.refl _ _)))
 rcases GZ P l 0 with⟨e,hall⟩|⟨k0,hk0,e,hp0,hall⟩
 ·rw[e] at HI
  have HK:=Ag (G0 hall)
  have HV:=Ag hv
  obtain⟨ao,c,rfl⟩:=AY hv
  have hcf':=hcf
  clear hall e hst hv
  go_enter Tryz.func124,Tryz.ntmps124
  go_wp2_with fail
  refine HI.out.mono ?_
  rintro e w' ⟨rfl,rfl⟩
  go_wp2_with fail
  go_ret
  exact⟨_,_,_,rfl,by rw[HK.out];exact Sl.of_owns HV.out,Below.refl _ _,fun k hk=> (HV.out.lt k hk).1⟩
 ·rw[e,Nat.zero_add] at HI
  obtain⟨h1,⟨rfl,h2⟩|⟨g,c,C,rfl,hg,hh,hnc,hcm,hcs,htk⟩⟩:=hv
  ·omega
  have hblk:Blk w g 3 C.toList:=hh
  rw[Nat.mul_one] at hcs htk
  obtain⟨sp,hsp⟩:∃ sp,C.toList=ofK .i64 l ++ sp:=⟨C.toList.drop l.length,by rw[←htk,List.take_append_drop]⟩
  have hXl:C.toList.length=c:=by simpa using hcs
  have hst0:Bd P (l.take (k0+1))=l.take k0:=by
   rw[Gi P l k0 hk0,if_pos hp0,List.append_nil]
   refine G0 (fun y hy=> ?_)
   obtain⟨j,hj,rfl⟩:=List.mem_iff_getElem.1 hy
   rw[List.getElem_take]
   exact hall j (by rw[List.length_take] at hj;omega)
  obtain⟨n,hn⟩:∃ n,l.length=n:=⟨_,rfl⟩
  have HN:=Ag hn
  rw[hn] at hk0 hl hnc HI ⊢
  have HB:=Ag (show Blk w g 3 C.toList∧C.toList.length=c∧C.toList=ofK .i64 l ++ sp∧base≤g∧base≤w.heap.size∧c≤9223372036854775807 from⟨hblk,hXl,hsp,hg,hb,by unfold maxLen at hcm;omega⟩)
  have HS:=Ag hst
  have H0:=Ag (show Bd P (l.take (k0+1))=l.take k0∧C.toList.take k0=ofK .i64 (l.take k0) from⟨hst0,by rw[hsp,List.take_append_of_le_length (by rw[AJ,HN.out];omega),Hx]⟩)
  have HKS:=Ag (Gi P l)
  have hne:((k0:Int)== -1)=false:=by simp
  have hcf':=hcf
  have hw0:IntKind.i64.wrap ((k0:Int)+1)=((k0+1:Nat):Int):=by rw[IntKind.wrap_i64];omega
  have hwj:∀ j:Nat,j<n→IntKind.i64.wrap ((j:Int)+1)=((j+1:Nat):Int):=fun j hj=> by rw[IntKind.wrap_i64];omega
  have HWJ:=Ag hwj
  have hcz:=HB.out.2.2.2.2.2
  clear hblk hcs htk hsp hXl hst0 hall hp0 e hh hcm hg hb h1 hst hn hwj
  go_enter Tryz.func124,Tryz.ntmps124
  go_wp2_with fail
  refine HI.out.mono ?_
  rintro e w' ⟨rfl,rfl⟩
  go_wp2_with fail
  go_loopw [5,6,7] (fun s5 s6 _ wr=> ∃ (i j:Nat) (X:List Value),s5=.int .i64 i∧s6=.int .i64 j∧i<j∧j≤n∧Hid (Blk wr g 3 X∧X.length=c∧X.take i=ofK .i64 (Bd P (l.take j))∧(Bd P (l.take j)).length=i∧(∀ t,i≤t→X[t]?=(ofK .i64 l ++ sp)[t]?)∧Ch (fun k=> (Value.slice (some ⟨g,0,none⟩) n c).ownBlock=some k) w wr)) (fun _ s6 _ _=> n - (intOf s6).toNat)
  case atStart=> exact⟨k0,k0+1,C.toList,rfl,by go_num,by omega,by omega,Ag ⟨HB.out.1,HB.out.2.1,by rw[H0.out.1];exact H0.out.2,by rw[H0.out.1,List.length_take,HN.out];omega,fun t _=> by rw[←HB.out.2.2.1],Ch.refl _ _⟩⟩
  case round=>
   obtain⟨i,j,X,rfl,rfl,hij,hjn,HX⟩:=hrel
   by_cases hlt:j<n
   ·have hltz:(j:Int)<(n:Int):=by omega
    have hjl:j<l.length:=by rw[HN.out];exact hlt
    have hj0:(0:Int)≤(j:Int):=by omega
    have hi0:(0:Int)≤(i:Int):=by omega
    have hin:(i:Int)<(n:Int):=by omega
    have hks:=HKS.out j hjl
    have hcj:wr.cell? ⟨g,j,none⟩=some (.int .i64 l[j]):=by
     rw[HX.out.1.cell,HX.out.2.2.2.2.1 j (by omega),List.getElem?_append_left (by rw[AJ];exact hjl),Hc _ _ _ hjl]
    have HC:=Ag (HS.out l[j] wr HX.out.2.2.2.2.2)
    generalize l[j]=y at hks hcj HC
    obtain⟨py,hpy⟩:∃ b,P y=b:=⟨_,rfl⟩
    rw[hpy] at hks HC
    have hwj:=HWJ.out j hlt
    have hwi:=HWJ.out i (by omega)
    have hii:i<X.length:=by rw[HX.out.2.1];omega
    have hci:(wr.cell? ⟨g,i,none⟩).isSome=true:=by rw[HX.out.1.cell,List.getElem?_eq_getElem hii];rfl
    obtain⟨old,hold⟩:∃ u,wr.cell? ⟨g,i,none⟩=some u:=Option.isSome_iff_exists.1 hci
    have hfi:=HX.out.1.free i
    clear hpy hjl hii hci
    cases py
    ·have HKE:=Ag (show Bd P (l.take (j+1))=Bd P (l.take j) ++ [y] by rw[hks,if_neg (by simp)])
     clear hks
     go_wp2_with fail
     refine HC.out.mono ?_
     rintro e w' ⟨rfl,rfl⟩
     go_wp2_with fail
     go_roundw
     case rel=>
      refine⟨i+1,j+1,X.set i (.int .i64 y),by go_num,by go_num,by omega,by omega,Ag ⟨HX.out.1.set i _,by rw[List.length_set];exact HX.out.2.1,?_,?_,fun t ht=> ?_,HX.out.2.2.2.2.2.setCell (p:=⟨g,i,none⟩) (.inl rfl) _⟩⟩
      ·rw[KB X i _ (by rw[HX.out.2.1];omega),HKE.out,Lw,HX.out.2.2.1];rfl
      ·rw[HKE.out,List.length_append,HX.out.2.2.2.1];rfl
      ·rw[KC X i t _ ht];exact HX.out.2.2.2.2.1 t (by omega)
     case measure=> simp[intOf];omega
    ·have HKE:=Ag (show Bd P (l.take (j+1))=Bd P (l.take j) by rw[hks,if_pos rfl,List.append_nil])
     clear hks
     go_wp2_with fail
     refine HC.out.mono ?_
     rintro e w' ⟨rfl,rfl⟩
     go_wp2_with fail
     go_roundw
     case rel=> exact⟨i,j+1,X,rfl,by go_num,by omega,by omega,Ag ⟨HX.out.1,HX.out.2.1,by rw[HKE.out];exact HX.out.2.2.1,by rw[HKE.out];exact HX.out.2.2.2.1,HX.out.2.2.2.2.1,HX.out.2.2.2.2.2⟩⟩
     case measure=> simp[intOf];omega
   ·obtain rfl:j=n:=by omega
    have hltz:¬ (j:Int)<(j:Int):=by omega
    have hi0:(0:Int)≤(i:Int):=by omega
    have hin:(i:Int)≤(j:Int):=by omega
    have hic:(i:Int)≤(c:Int):=by omega
    have hci:¬ (c=i):=by omega
    have hcl:∀ ty,(Builtin.clear_ #[40] ty #[.slice (some ⟨g,i,none⟩) (j - i) (c - i)]).run Tryz.prog wr=.ok (.tuple #[]) (wr.setCells g i (List.replicate (j - i) (.int .i64 0))):=
     fun ty=> Lib.run_clear_slice wr 40 3 ty (.int .i64 0) Tryz.underlying40 Tryz.zeroI rfl rfl g i _ _ (by omega) (fun t ht=> by rw[HX.out.1.cell,List.getElem?_eq_getElem (by rw[HX.out.2.1];omega)];rfl) (fun t ht=> HX.out.1.free _)
    have HE:=Ag (show Sl (wr.setCells g i (List.replicate (j - i) (.int .i64 0))) (.slice (some ⟨g,0,none⟩) i c) (ofK .i64 (Bd P l))∧Below base w (wr.setCells g i (List.replicate (j - i) (.int .i64 0))) from by
     have hkk:Bd P (l.take j)=Bd P l:=by rw[List.take_of_length_le (by rw[HN.out];exact Ah _)]
     have h3:=HX.out.2.2.1
     have h4:=HX.out.2.2.2.1
     rw[hkk] at h3 h4
     refine⟨.inr ⟨⟨g,0,none⟩,c,by rw[AJ,h4],by rw[AJ,h4];omega,by unfold maxLen;have:=HB.out.2.2.2.2.2;omega,fun t u hu=> ?_⟩,?_⟩
     ·have ht:t<i:=by have:=(List.getElem?_eq_some_iff.1 hu).1;rwa [AJ,h4] at this
      have e:(Addr.add ⟨g,0,none⟩ t)=⟨g,t,none⟩:=by unfold Addr.add;split <;> simp_all
      rw[e,World.cell?_setCells_out _ _ _ _ _ (fun _ _=> .inl ht),HX.out.1.cell,←hu,←h3,List.getElem?_take,if_pos ht]
     ·refine Aw (Below.refl base w) ((HX.out.2.2.2.2.2).trans' (T:=(·=g)) ?_ (fun k _ hk=> by rw[hk];rfl)) HB.out.2.2.2.2.1 (fun k hk=> by have e:some g=some k:=hk;cases e;exact HB.out.2.2.2.1)
      exact Ch.setCells g _ _ _)
    clear hlt
    go_wp2_with fail
    go_ret
    exact⟨_,_,_,rfl,HE.out.1,HE.out.2,fun k hk=> by have e:some g=some k:=hk;cases e;exact HB.out.2.2.2.1⟩
theorem A5 {P:Program} (w:World) {ops:Array Oper} {rest:List Oper} {o:Oper} {a:Act} {Q:Exit→Act→World→Prop} (hgd:o.guard=none) (t:TypeId) (x:Operand) (ho:o.op=.box t x) (v:Value) (hv:v.cells=#[v]) (hx:a.eval x=v)
  (h:∀ w',Blk w' w.heap.size t [v]→Below w.heap.size w w'→w'.heap.size=w.heap.size+1→wpList P ops Q rest (a.put o.dst (.pointer (some ⟨w.heap.size,0,none⟩))) w'):wpList P ops Q (o::rest) a w:=by
 refine wpList_plain hgd fun K' hK'=> ?_
 have hrun:(execOp a.eval o).run P w=.ok (.value (.pointer (some ⟨w.heap.size,0,none⟩))) (w.alloc (.cells [v].toArray t)):=by
  simp[execOp,ho,Instr.box,hx,Result.andThen,CQ,hv]
 unfold Oper.wp
 rw[hrun]
 exact hK' _ _ (h _ (Blk.new w [v] t) ((Below.refl _ _).alloc (Ah _) _) (by simp))
theorem I1 (x n:Int) (b:Nat) (w:World) (hc:w.cell? ⟨b,0,none⟩=some (.int .i64 x)):
  Calls Tryz.prog 125 #[.int .i64 n,.pointer (some ⟨b,0,none⟩)] w (fun e w'=> e=.returned (.bool (x==n))∧w=w'):=by
 obtain⟨z,hz⟩:∃ z,(x==n)=z:=⟨_,rfl⟩
 rw[hz]
 cases z
 ·go_enter Tryz.func125,Tryz.ntmps125
  go_wp2_with fail
  go_ret
  exact⟨rfl,rfl⟩
 ·go_enter Tryz.func125,Tryz.ntmps125
  go_wp2_with fail
  go_ret
  exact⟨rfl,rfl⟩
theorem FJ (args:Array Value) (w:World):Sem.run Tryz.prog (callFunc 125 args) w=.ok (.enter 125 args) w:=
 AP Tryz.func125 (by kernel_rfl) (by kernel_rfl) args w
theorem B8 (x:Int) (v:Value) (l:List Int) (w:World) (hv:Sl w v (ofK .i64 l)) (hl:l.length≤1000000):
  Calls Tryz.prog 109 #[v,.int .i64 x] w (JW w.heap.size w (Bd (x==·) l)):=by
 have HV:=Ag (Ai hv hl)
 obtain⟨ao,n,c,rfl⟩:∃ ao n c,v=.slice ao n c:=by obtain⟨ao,c,e,_⟩:=hv.nums;exact⟨_,_,_,e⟩
 clear hv hl
 go_enter Tryz.func109,Tryz.ntmps109
 go_wp2_with ((with_reducible refine A5 w rfl 3 (.tmp 1) rfl (.int .i64 x) rfl rfl ?_);intro w1 hb hbel hsz;have H1:=Ag (Ai hb (Ai hbel hsz));clear hb hbel hsz)
 refine(Bu _ l w1 (HV.out.1.below H1.out.2.1 (Ah _)) (by have:=HV.out.2;omega)).mono ?_
 rintro e w2 ⟨v2,rfl,hown,hb2⟩
 have H2:=Ag (Ai hown (Ai hb2 (H1.out.1.below hb2 H1.out.1.lt)))
 obtain⟨ao2,c2,rfl⟩:=AY hown
 clear hown hb2
 go_wp2_with fail
 refine(I0 w1.heap.size (x==·) 125 [.pointer (some ⟨w.heap.size,0,none⟩)] _ l w2 H2.out.1 H2.out.2.1.size HV.out.2 FJ (fun n w3 hc=> I1 x n _ w3 ((H2.out.2.2.keep hc (fun hk=> by have:=(H2.out.1.lt _ hk).1;have:=H1.out.2.2;omega)).cell 0))).mono ?_
 rintro e w3 ⟨ao3,n3,c3,rfl,h3,h4,h5⟩
 have H3:=Ag (show Sl w3 (.slice ao3 n3 c3) (ofK .i64 (Bd (x==·) l))∧Abv w.heap.size (.slice ao3 n3 c3)∧Below w.heap.size w w3 from⟨h3,fun k hk=> Aj H1.out.2.1.size (h5 k hk),(An H1.out.2.1 H2.out.2.1 (Ah _)).trans (h4.mono (by have:=H1.out.2.2;omega))⟩)
 clear h3 h4 h5
 go_wp2_with fail
 go_ret
 exact⟨_,_,_,rfl,H3.out.1,H3.out.2.2,H3.out.2.1⟩
def BH (B:Nat) (vr vq vg:Value):Prop:=Abv B vr∧Abv B vq∧Abv B vg
def Ev (w:World) (g B:Nat) (r:Int × PmD) (e:Ending) (w':World):Prop:=
 e=.returned (.int .i64 r.1)∧∃ vr vq vg,Blk w' g 43 (pmC r.2.o r.2.e vr vq vg)∧PmS w' r.2 vr vq vg∧Ch (·=g) w w'∧BH B vr vq vg
def BQ (p:PmD):Int × PmD:=if p.e=8 then (212,p) else (0,{p with e:=p.e+1})
theorem PmS.ch {w w':World} {p:PmD} {g:Nat} {vr vq vg:Value} (h:PmS w p vr vq vg) (hc:Ch (·=g) w w') (hn:(∀ k,vr.ownBlock=some k→k≠g)∧(∀ k,vq.ownBlock=some k→k≠g)∧(∀ k,vg.ownBlock=some k→k≠g)):PmS w' p vr vq vg:=
 ⟨h.1.keep hc hn.1,h.2.1.keep hc hn.2.1,h.2.2.keep hc hn.2.2⟩
def Off (g:Nat) (vr vq vg:Value):Prop:=(∀ k,vr.ownBlock=some k→k≠g)∧(∀ k,vq.ownBlock=some k→k≠g)∧(∀ k,vg.ownBlock=some k→k≠g)
theorem D8 (p:PmD) (g B:Nat) (vr vq vg:Value) (w:World) (hb:Blk w g 43 (pmC p.o p.e vr vq vg)) (hp:PmS w p vr vq vg) (hn:Off g vr vq vg) (hB:BH B vr vq vg) (h1:1≤p.e) (h8:p.e≤8):
  Calls Tryz.prog 110 #[.pointer (some ⟨g,0,none⟩)] w (fun e w'=> Ev w g B (BQ p) e w'):=by
 have c1:w.cell? ⟨g,1,none⟩=some (.int .i64 p.e):=hb.cell 1
 have f1:=hb.free 1
 have HB:=Ag (Ai hb (Ai hp (Ai hn hB)))
 obtain⟨o,pe,r,q,gg⟩:=p
 simp only at c1 h1 h8 HB
 clear hb hp hn hB
 by_cases h:pe=8
 ·subst h
  have HR:=Ag (show BQ ⟨o,8,r,q,gg⟩=(212,⟨o,8,r,q,gg⟩) from rfl)
  rw[HR.out]
  go_enter Tryz.func110,Tryz.ntmps110
  go_wp2_with fail
  go_ret
  exact⟨rfl,vr,vq,vg,HB.out.1,HB.out.2.1,Ch.refl _ _,HB.out.2.2.2⟩
 ·have HR:=Ag (show BQ ⟨o,pe,r,q,gg⟩=(0,⟨o,pe+1,r,q,gg⟩) from if_neg h)
  have hw:IntKind.i64.wrap (pe+1)=pe+1:=by rw[IntKind.wrap_i64];omega
  have hbq:(pe==8)=false:=by simpa using h
  rw[HR.out]
  clear h
  go_enter Tryz.func110,Tryz.ntmps110
  go_wp2_with fail
  go_ret
  exact⟨rfl,vr,vq,vg,HB.out.1.set 1 _,HB.out.2.1.ch (Ch.set w ⟨g,1,none⟩ _) HB.out.2.2.1,Ch.set w ⟨g,1,none⟩ _,HB.out.2.2.2⟩
end Go.Proofs.YtgdlfiphihaooaaGreat

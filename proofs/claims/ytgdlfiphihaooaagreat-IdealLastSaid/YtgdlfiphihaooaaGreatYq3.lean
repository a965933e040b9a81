import Derived.Test.YtgdlfiphihaooaaGreatYq2
import Derived.Lib.SlicesSearch
import Derived.Lib.AppendZerosOnto
import Derived.Lib.Overlaps
import Derived.Laws.Externs
set_option linter.unusedSimpArgs false
set_option linter.unusedVariables false
set_option maxRecDepth 100000
set_option maxHeartbeats 8000000
open _root_.List renaming getElem?_toArray→Aa,getElem?_cons_zero→Ab,getElem?_cons_succ→Ac,setIfInBounds_toArray→Ad,set_cons_zero→Ae,set_cons_succ→Af
open _root_.Go.Lib renaming hid→Ag
open _root_.Nat renaming le_refl→Ah,le_trans→Aj,lt_of_lt_of_le→Ak
open _root_.And renaming intro→Ai
open _root_.Go.Act renaming put→Al
namespace Go.Proofs.YtgdlfiphihaooaaGreat
open Go Go.RowKit
structure PmD where
 o:Int
 e:Int
 r:List Int
 q:List Int
 g:List Int
def pmC (o e:Int) (vr vq vg:Value):List Value:=[.int .i64 o,.int .i64 e,vr,vq,vg]
theorem Tryz.infoPm:(Tryz.prog.info? 43).map (·.size)=some 5:=by kernel_rfl
theorem Tryz.zeroPm:∀ w,(zeroValue 43).run Tryz.prog w=.ok (.agg (pmC 0 0 (.slice none 0 0) (.slice none 0 0) (.slice none 0 0)).toArray) w:=fun w=> by kernel_rfl
theorem Ay (o e:Int) (vr vq vg:Value):(Tryz.prog.info? 43).map (·.size)=some (pmC o e vr vq vg).length:=Tryz.infoPm
theorem Bn (o e:Int) (ra qa ga:Option Addr) (rn rc qn qc gn gc:Nat):∀ v∈pmC o e (.slice ra rn rc) (.slice qa qn qc) (.slice ga gn gc),v.oneCell'=true:=fun v hv=> by
 simp only[pmC,List.mem_cons,List.not_mem_nil,or_false] at hv
 rcases hv with rfl|rfl|rfl|rfl|rfl <;> rfl
def PmS (w:World) (p:PmD) (vr vq vg:Value):Prop:=Sl w vr (ofK .i64 p.r)∧Sl w vq (ofK .i64 p.q)∧Sl w vg (ofK .i64 p.g)
theorem PmS.below {w w':World} {p:PmD} {vr vq vg:Value} (h:PmS w p vr vq vg) (hb:Below w.heap.size w w'):PmS w' p vr vq vg:=
 ⟨h.1.below hb (Ah _),h.2.1.below hb (Ah _),h.2.2.below hb (Ah _)⟩
def BE (o n:Int):Bool:=AX n && (n !=o)
def okB (p:PmD):Bool:=AX p.o && (decide (1≤p.e) && (decide (p.e≤8) && (BK (BE p.o) p.r && (BK (BE p.o) p.q && (BK BD p.g && !(p.q.any (fun n=> !(p.r.any (n==·)))))))))
theorem GX (n o:Int) (b:Nat) (w:World) (hc:w.cell? ⟨b,0,none⟩=some (.int .i64 o)):
  Calls Tryz.prog 57 #[.int .i64 n,.pointer (some ⟨b,0,none⟩)] w (fun e w'=> e=.returned (.bool (BE o n))∧w=w'):=by
 have HU:=Ag (Dz n w)
 obtain⟨u,hu⟩:∃ u,AX n=u:=⟨_,rfl⟩
 have HO:=Ag (show BE o n=(u && (n !=o)) by rw[←hu];rfl)
 rw[hu] at HU
 rw[HO.out]
 clear hu
 cases u
 ·go_enter Tryz.func57,Tryz.ntmps57
  go_wp2_with fail
  refine HU.out.mono ?_
  rintro e w' ⟨rfl,rfl⟩
  go_wp2_with fail
  go_ret
  exact⟨rfl,rfl⟩
 ·obtain⟨z,hz⟩:∃ z,(n !=o)=z:=⟨_,rfl⟩
  rw[hz]
  cases z
  ·go_enter Tryz.func57,Tryz.ntmps57
   go_wp2_with fail
   refine HU.out.mono ?_
   rintro e w' ⟨rfl,rfl⟩
   go_wp2_with fail
   go_ret
   exact⟨rfl,rfl⟩
  ·go_enter Tryz.func57,Tryz.ntmps57
   go_wp2_with fail
   refine HU.out.mono ?_
   rintro e w' ⟨rfl,rfl⟩
   go_wp2_with fail
   go_ret
   exact⟨rfl,rfl⟩
theorem IV (n:Int) (b:Nat) (vr:Value) (r:List Int) (w:World) (hc:w.cell? ⟨b,2,none⟩=some vr) (hr:Sl w vr (ofK .i64 r)):
  Calls Tryz.prog 61 #[.int .i64 n,.pointer (some ⟨b,0,none⟩)] w (fun e w'=> e=.returned (.bool (!(r.any (n==·))))∧w=w'):=by
 have HU:=Ag (AM n vr r w hr)
 obtain⟨ao,c,rfl,-⟩:=hr.shape
 generalize r.any (n==·)=u at HU ⊢
 generalize (ofK .i64 r).length=rl at hc HU
 clear hr
 go_enter Tryz.func61,Tryz.ntmps61
 go_wp2_with fail
 refine HU.out.mono ?_
 rintro e w' ⟨rfl,rfl⟩
 go_wp2_with fail
 go_ret
 exact⟨rfl,rfl⟩
theorem D6 (args:Array Value) (w:World):Sem.run Tryz.prog (callFunc 57 args) w=.ok (.enter 57 args) w:=
 AP Tryz.func57 (by kernel_rfl) (by kernel_rfl) args w
theorem Gd (args:Array Value) (w:World):Sem.run Tryz.prog (callFunc 61 args) w=.ok (.enter 61 args) w:=
 AP Tryz.func61 (by kernel_rfl) (by kernel_rfl) args w
theorem Ge (args:Array Value) (w:World):Sem.run Tryz.prog (callFunc 59 args) w=.ok (.enter 59 args) w:=
 AP Tryz.func59 (by kernel_rfl) (by kernel_rfl) args w
theorem JV (p:PmD) (vr vq vg:Value) (w:World) (hp:PmS w p vr vq vg):
  Calls Tryz.prog 28 #[.agg (pmC p.o p.e vr vq vg).toArray] w (fun e w'=> e=.returned (.int .i64 (if okB p=true then 0 else 210))∧Below w.heap.size w w'):=by
 obtain⟨o,pe,r,q,g⟩:=p
 have HP:=Ag hp
 obtain⟨ra,rc,rfl,-⟩:=hp.1.shape
 obtain⟨qa,qc,rfl,-⟩:=hp.2.1.shape
 obtain⟨ga,gc,rfl,-⟩:=hp.2.2.shape
 simp only at hp HP ⊢
 rw[AJ] at HP ⊢
 rw[AJ] at HP ⊢
 rw[AJ] at HP ⊢
 have HC:=Ag (fun (w1:World) (hb:Blk w1 w.heap.size 43 (pmC o pe (.slice ra r.length rc) (.slice qa q.length qc) (.slice ga g.length gc))) (hbel:Below w.heap.size w w1)=>
  show Calls Tryz.prog 52 #[.int .i64 o] w1 (fun e w'=> e=.returned (.bool (AX o))∧w1=w')∧
   Calls Tryz.prog 58 #[.slice ra r.length rc,.func (.func 57) #[] #[.pointer (some ⟨w.heap.size,0,none⟩)]] w1 (fun e w'=> e=.returned (.bool (BK (BE o) r))∧w1=w')∧
   Calls Tryz.prog 58 #[.slice qa q.length qc,.func (.func 57) #[] #[.pointer (some ⟨w.heap.size,0,none⟩)]] w1 (fun e w'=> e=.returned (.bool (BK (BE o) q))∧w1=w')∧
   Calls Tryz.prog 58 #[.slice ga g.length gc,.func (.func 59) #[] #[]] w1 (fun e w'=> e=.returned (.bool (BK BD g))∧w1=w')∧
   Calls Tryz.prog 60 #[.slice qa q.length qc,.func (.func 61) #[] #[.pointer (some ⟨w.heap.size,0,none⟩)]] w1 (fun e w'=> e=.returned (.bool (q.any (fun n=> !(r.any (n==·)))))∧w1=w')
  from⟨Dz o w1,
   Ez (BE o) 57 [.pointer (some ⟨w.heap.size,0,none⟩)] _ r w1 (HP.out.below hbel).1 D6 (fun n=> GX n o _ w1 (hb.cell 0)),
   Ez (BE o) 57 [.pointer (some ⟨w.heap.size,0,none⟩)] _ q w1 (HP.out.below hbel).2.1 D6 (fun n=> GX n o _ w1 (hb.cell 0)),
   Ez BD 59 [] _ g w1 (HP.out.below hbel).2.2 Ge (fun n=> E9 n w1),
   Eu (fun n=> !(r.any (n==·))) 61 [.pointer (some ⟨w.heap.size,0,none⟩)] _ q w1 (HP.out.below hbel).2.1 Gd (fun n=> IV n _ _ r w1 (hb.cell 2) (HP.out.below hbel).1)⟩)
 have hok:okB ⟨o,pe,r,q,g⟩=(AX o && (decide (1≤pe) && (decide (pe≤8) && (BK (BE o) r && (BK (BE o) q && (BK BD g && !(q.any (fun n=> !(r.any (n==·)))))))))):=rfl
 obtain⟨b1,hb1⟩:∃ b,AX o=b:=⟨_,rfl⟩
 obtain⟨b2,hb2⟩:∃ b,BK (BE o) r=b:=⟨_,rfl⟩
 obtain⟨b3,hb3⟩:∃ b,BK (BE o) q=b:=⟨_,rfl⟩
 obtain⟨b4,hb4⟩:∃ b,BK BD g=b:=⟨_,rfl⟩
 obtain⟨b5,hb5⟩:∃ b,q.any (fun n=> !(r.any (n==·)))=b:=⟨_,rfl⟩
 rw[hb1,hb2,hb3,hb4,hb5] at HC hok
 rw[hok]
 generalize r.length=rl at HC ⊢
 generalize q.length=ql at HC ⊢
 generalize g.length=gl at HC ⊢
 clear hok hb1 hb2 hb3 hb4 hb5 HP hp
 by_cases h1:1≤pe
 ·by_cases h8:pe≤8
  ·simp only[h1,h8,decide_true,Bool.true_and]
   go_enter Tryz.func28,Tryz.ntmps28
   go_wp2_with ((with_reducible refine Au w rfl 43 (.tmp 0) rfl (pmC o pe (.slice ra rl rc) (.slice qa ql qc) (.slice ga gl gc)) rfl ?_);intro w1 hb hbel hsz;have c0:=hb.cell 0;have c1:=hb.cell 1;have c2:=hb.cell 2;have c3:=hb.cell 3;have c4:=hb.cell 4;simp only[pmC,Ab,Ac] at c0 c1 c2 c3 c4;have H1:=Ag hbel;have HD:=Ag (HC.out w1 hb hbel);clear hb hbel hsz)
   go_wp2_with fail
   refine HD.out.1.mono ?_
   rintro e w' ⟨rfl,rfl⟩
   cases b1
   ·skip
    go_wp2_with fail
    go_ret
    exact⟨rfl,H1.out⟩
   ·skip
    go_wp2_with fail
    refine HD.out.2.1.mono ?_
    rintro e w' ⟨rfl,rfl⟩
    cases b2
    ·skip
     go_wp2_with fail
     go_ret
     exact⟨rfl,H1.out⟩
    ·skip
     go_wp2_with fail
     refine HD.out.2.2.1.mono ?_
     rintro e w' ⟨rfl,rfl⟩
     cases b3
     ·skip
      go_wp2_with fail
      go_ret
      exact⟨rfl,H1.out⟩
     ·skip
      go_wp2_with fail
      refine HD.out.2.2.2.1.mono ?_
      rintro e w' ⟨rfl,rfl⟩
      cases b4
      ·skip
       go_wp2_with fail
       go_ret
       exact⟨rfl,H1.out⟩
      ·skip
       go_wp2_with fail
       refine HD.out.2.2.2.2.mono ?_
       rintro e w' ⟨rfl,rfl⟩
       cases b5
       ·skip
        go_wp2_with fail
        go_ret
        exact⟨rfl,H1.out⟩
       ·skip
        go_wp2_with fail
        go_ret
        exact⟨rfl,H1.out⟩
  ·simp only[h1,h8,decide_true,decide_false,Bool.true_and,Bool.false_and,Bool.and_false]
   go_enter Tryz.func28,Tryz.ntmps28
   go_wp2_with ((with_reducible refine Au w rfl 43 (.tmp 0) rfl (pmC o pe (.slice ra rl rc) (.slice qa ql qc) (.slice ga gl gc)) rfl ?_);intro w1 hb hbel hsz;have c0:=hb.cell 0;have c1:=hb.cell 1;have c2:=hb.cell 2;have c3:=hb.cell 3;have c4:=hb.cell 4;simp only[pmC,Ab,Ac] at c0 c1 c2 c3 c4;have H1:=Ag hbel;have HD:=Ag (HC.out w1 hb hbel);clear hb hbel hsz)
   go_wp2_with fail
   refine HD.out.1.mono ?_
   rintro e w' ⟨rfl,rfl⟩
   cases b1
   ·skip
    go_wp2_with fail
    go_ret
    exact⟨rfl,H1.out⟩
   ·skip
    go_wp2_with fail
    go_ret
    exact⟨rfl,H1.out⟩
 ·simp only[h1,decide_false,Bool.false_and,Bool.and_false]
  go_enter Tryz.func28,Tryz.ntmps28
  go_wp2_with ((with_reducible refine Au w rfl 43 (.tmp 0) rfl (pmC o pe (.slice ra rl rc) (.slice qa ql qc) (.slice ga gl gc)) rfl ?_);intro w1 hb hbel hsz;have c0:=hb.cell 0;have c1:=hb.cell 1;have c2:=hb.cell 2;have c3:=hb.cell 3;have c4:=hb.cell 4;simp only[pmC,Ab,Ac] at c0 c1 c2 c3 c4;have H1:=Ag hbel;have HD:=Ag (HC.out w1 hb hbel);clear hb hbel hsz)
  go_wp2_with fail
  refine HD.out.1.mono ?_
  rintro e w' ⟨rfl,rfl⟩
  cases b1
  ·skip
   go_wp2_with fail
   go_ret
   exact⟨rfl,H1.out⟩
  ·skip
   go_wp2_with fail
   go_ret
   exact⟨rfl,H1.out⟩
theorem EK (p:PmD) (b:Bool) (hb:okB p=b) (vr vq vg:Value) (w:World) (hp:PmS w p vr vq vg):
  Calls Tryz.prog 28 #[.agg (pmC p.o p.e vr vq vg).toArray] w (fun e w'=> e=.returned (.int .i64 (if b=true then 0 else 210))∧Below w.heap.size w w'):=by
 rw[←hb];exact JV p vr vq vg w hp
theorem EL (x:Int) (w:World):Calls Tryz.prog 86 #[.int .i64 x] w (fun e w'=> e=.returned (.bool false)∧w=w'):=by
 go_enter Tryz.func86,Tryz.ntmps86
 go_wp2
 go_ret
 exact⟨by simp,rfl⟩
theorem Gf (x:Int) (w:World):Calls Tryz.prog 118 #[.int .i64 x] w (fun e w'=> e=.returned (.bool false)∧w=w'):=by
 go_enter Tryz.func118,Tryz.ntmps118
 go_wp2
 go_ret
 exact⟨by simp,rfl⟩
theorem DB (x y:Int) (w:World):Calls Tryz.prog 117 #[.int .i64 x,.int .i64 y] w (fun e w'=> e=.returned (.bool (decide (x<y)))∧w=w'):=by
 go_enter Tryz.func117,Tryz.ntmps117
 go_wp2_with (go_at_call 86;refine(EL _ _).mono ?_;rintro e w' ⟨rfl,rfl⟩)
 go_ret
 exact⟨rfl,rfl⟩
def B1 (l:List Int) (x:Int):Nat:=l.countP (·<x)
theorem GY {l:List Int} (hs:l.Pairwise (·<·)):∀ a b,a≤b→b<l.length→l.getD a 0≤l.getD b 0:=fun a b hab hb=> by
 rcases Nat.lt_or_ge a b with h|h
 ·have:=List.pairwise_iff_getElem.1 hs a b (by omega) hb h
  rw[CA hb,CA (by omega)];omega
 ·obtain rfl:a=b:=by omega
  exact Int.le_refl _
theorem IW {l:List Int} {x:Int} (hs:l.Pairwise (·<·)) (i:Nat) (hi:i≤l.length) (h1:∀ j,j<i→l.getD j 0<x) (h2:∀ j,i≤j→j<l.length→x≤l.getD j 0):
  B1 l x=i∧l.any (x==·)=decide (i<l.length∧l.getD i 0=x):=by
 have h:=Lib.search_end l l.length i x (Ah _) hi h1 h2 (GY hs)
 rw[List.take_of_length_le (Ah _)] at h
 refine⟨h.1,?_⟩
 rw[←h.2,List.contains_eq_any_beq]
theorem Gg (x:Int) (v:Value) (l:List Int) (w:World) (hv:Sl w v (ofK .i64 l)) (hs:l.Pairwise (·<·)) (hl:l.length≤1000000000):
  Calls Tryz.prog 96 #[v,.int .i64 x] w (fun e w'=> e=.returned (.tuple #[.int .i64 (B1 l x:Nat),.bool (l.any (x==·))])∧w=w'):=by
 obtain⟨ao,c,rfl,a2,a3,a4⟩:=hv.nums
 have H:=Ag (Ai a4 (Ai (GY hs) (fun i=> IW (x:=x) hs i)))
 obtain⟨n,hL⟩:∃ n,l.length=n:=⟨_,rfl⟩
 have HL:=Ag hL
 rw[hL] at a2 hl ⊢
 clear hv a4 hs hL
 go_enter Tryz.func96,Tryz.ntmps96
 go_wp2_with fail
 go_loop [7,8,9] (fun s7 s8 s9=> ∃ lo hi:Nat,s7=.int .i64 lo∧s8=.int .i64 hi∧lo≤hi∧hi≤n∧Hid ((∀ t,t<lo→l.getD t 0<x)∧(∀ t,hi≤t→t<n→x≤l.getD t 0))) (fun s7 s8 _=> ((intOf s8) - (intOf s7)).toNat)
 case atStart=> exact⟨0,n,rfl,rfl,Nat.zero_le _,Ah _,Ag ⟨fun t ht=> absurd ht (Nat.not_lt_zero _),fun t h1 h2=> by omega⟩⟩
 case round=>
  obtain⟨lo,hi,rfl,rfl,hlh,hin,I⟩:=hrel
  by_cases hlt:lo<hi
  ·obtain⟨b,o,rfl,-,hcell⟩:=H.out.1 (by rw[HL.out];omega)
   have hm:(lo+hi) / 2<l.length:=by rw[HL.out];omega
   have cm:=hcell ((lo+hi) / 2) hm
   have hy:=CA hm
   generalize l[(lo+hi) / 2]=y at cm hy
   have Y:=Ag hy
   clear hcell hm hy
   by_cases hyx:y<x
   ·go_wp2_with (go_at_call 117;refine(DB _ _ _).mono ?_;rintro e w' ⟨rfl,rfl⟩)
    go_round
    case measure=> simp[intOf];omega
    case rel=>
     refine⟨(lo+hi) / 2+1,hi,by rw[show((lo:Int)+(hi:Int)) / 2+1=(((lo+hi) / 2+1:Nat):Int) by omega],rfl,by omega,hin,Ag ⟨fun t ht=> ?_,I.out.2⟩⟩
     have:=H.out.2.1 t ((lo+hi) / 2) (by omega) (by rw[HL.out];omega)
     rw[Y.out] at this
     omega
   ·go_wp2_with (go_at_call 117;refine(DB _ _ _).mono ?_;rintro e w' ⟨rfl,rfl⟩)
    go_round
    case measure=> simp[intOf];omega
    case rel=>
     refine⟨lo,(lo+hi) / 2,rfl,by rw[show((lo:Int)+(hi:Int)) / 2=(((lo+hi) / 2:Nat):Int) by omega],by omega,by omega,Ag ⟨I.out.1,fun t ht htn=> ?_⟩⟩
     have:=H.out.2.1 ((lo+hi) / 2) t ht (by rw[HL.out];exact htn)
     rw[Y.out] at this
     omega
  ·obtain rfl:hi=lo:=by omega
   have E:=Ag (H.out.2.2 hi (by rw[HL.out];exact hin) I.out.1 (fun j h1 h2=> I.out.2 j h1 (by rw[←HL.out];exact h2)))
   rw[HL.out] at E
   by_cases hn:hi<n
   ·obtain⟨b,o,rfl,-,hcell⟩:=H.out.1 (by rw[HL.out];omega)
    have hm:hi<l.length:=by rw[HL.out];omega
    have cm:=hcell hi hm
    have hy:=CA hm
    generalize l[hi]=y at cm hy
    have Y:=Ag hy
    clear hcell hm hy
    by_cases hyx:y=x
    ·go_wp2_with (first|(go_at_call 117;refine(DB _ _ _).mono ?_;rintro e w' ⟨rfl,rfl⟩)|(go_at_call 118;refine(Gf _ _).mono ?_;rintro e w' ⟨rfl,rfl⟩))
     go_ret2
     refine⟨?_,rfl⟩
     rw[E.out.1,E.out.2,Y.out,decide_eq_true (show hi<n∧y=x from⟨hn,hyx⟩)]
     first|rfl|simp[*]
    ·go_wp2_with (first|(go_at_call 117;refine(DB _ _ _).mono ?_;rintro e w' ⟨rfl,rfl⟩)|(go_at_call 118;refine(Gf _ _).mono ?_;rintro e w' ⟨rfl,rfl⟩))
     go_ret2
     refine⟨?_,rfl⟩
     rw[E.out.1,E.out.2,Y.out,decide_eq_false (show ¬ (hi<n∧y=x) from fun h=> hyx h.2)]
     first|rfl|simp[*]
   ·go_wp2_with (first|(go_at_call 117;refine(DB _ _ _).mono ?_;rintro e w' ⟨rfl,rfl⟩)|(go_at_call 118;refine(Gf _ _).mono ?_;rintro e w' ⟨rfl,rfl⟩))
    go_ret2
    refine⟨?_,rfl⟩
    rw[E.out.1,E.out.2,decide_eq_false (show ¬ (hi<n∧l.getD hi 0=x) from fun h=> hn h.1)]
    first|rfl|simp[*]
end Go.Proofs.YtgdlfiphihaooaaGreat
namespace Go.Proofs.YtgdlfiphihaooaaGreat
open Go Go.RowKit Go.Sort
theorem Cm {P:Program} (w:World) {ops:Array Oper} {rest:List Oper} {o:Oper} {a:Act} {Q:Exit→Act→World→Prop} (hgd:o.guard=none) (d s:Operand) (dT sT:TypeId)
  (ho:o.op=.call {callee:=.builtin .copy,args:=#[d,s],argTypes:=#[dT,sT]}) (elem:TypeId) (hu:P.underlying dT=some (.slice elem)) (hsz:(P.info? elem).map (·.size)=some 1)
  (g off dLen dCap:Nat) (hd:a.eval d=.slice (some ⟨g,off,none⟩) dLen dCap) (ad:Addr) (sLen sCap:Nat) (hs:a.eval s=.slice (some ad) sLen sCap)
  (cur:List Value) (t:TypeId) (hg:Blk w g t cur) (cs:List Value) (hn:cs.length=min sLen dLen) (hsrc:∀ j v,cs[j]?=some v→w.cell? (ad.add j)=some v) (hfit:off+cs.length≤cur.length) (h1:∀ v∈cs,v.oneCell'=true)
  (h:∀ w',Blk w' g t (splice cur off cs)→Ch (·=g) w w'→w'.heap.size=w.heap.size→wpList P ops Q rest (a.put o.dst (goInt cs.length)) w'):wpList P ops Q (o::rest) a w:=by
 refine wpList_copy_own hgd d s dT sT ho elem hu hsz g off dLen dCap ad sLen sCap hd hs cur.toArray t hg cs hn hsrc (by simpa using hfit) h1 ?_
 refine h _ ?_ ⟨rfl,rfl,rfl,by simp[World.setRow],fun k hk hne=> setRow_other w g k _ hne⟩ (by simp[World.setRow])
 unfold Blk
 simpa [splice] using setRow_heap w g _ _ t _ hg
theorem Blk.shape {w:World} {g:Nat} {t:TypeId} {cs:List Value} (h:Blk w g t cs):w.shape? g=some (t,cs.length):=by
 unfold Blk at h;simp[World.shape?,h]
def Cr (l:List Int) (i:Nat) (x:Int):List Int:=l.take i ++ x::l.drop i
theorem D7 {l:List Int} {i:Nat} {x:Int} (h:i≤l.length):(Cr l i x).length=l.length+1:=by
 unfold Cr;rw[List.length_append,List.length_take,List.length_cons,List.length_drop];omega
theorem Cu (L:List Value) (off:Nat) (cs:List Value) (j:Nat) (h:off+cs.length≤L.length):(splice L off cs)[j]?=if j<off then L[j]? else if j<off+cs.length then cs[j - off]? else L[j]?:=by
 unfold splice
 have ho:(L.take off).length=off:=by rw[List.length_take];omega
 split
 ·rename_i hj
  rw[List.getElem?_append_left (by omega),List.getElem?_take,if_pos hj]
 ·rename_i hj
  rw[List.getElem?_append_right (by omega),ho]
  split
  ·rename_i hk
   rw[List.getElem?_append_left (by omega)]
  ·rename_i hk
   rw[List.getElem?_append_right (by omega),List.getElem?_drop]
   congr 1;omega
theorem Jw (l:List Int) (i:Nat) (x:Int) (h:i≤l.length) (j:Nat):(ofK .i64 (Cr l i x))[j]?=if j<i then (ofK .i64 l)[j]? else if j=i then some (.int .i64 x) else (ofK .i64 l)[j - 1]?:=by
 unfold Cr ofK
 have hl:(l.take i).length=i:=by rw[List.length_take];omega
 rw[List.getElem?_map,List.getElem?_map,List.getElem?_map]
 split
 ·rename_i hj
  rw[List.getElem?_append_left (by omega),List.getElem?_take,if_pos hj]
 ·rename_i hj
  rw[List.getElem?_append_right (by omega),hl]
  split
  ·rename_i hk
   subst hk
   rw[Nat.sub_self];rfl
  ·rename_i hk
   rw[show j - i=(j - 1 - i)+1 by omega,Ac,List.getElem?_drop,show i+(j - 1 - i)=j - 1 by omega]
theorem Ds (l:List Int) (i j:Nat):(ofK .i64 (l.drop i))[j]?=(ofK .i64 l)[i+j]?:=by
 unfold ofK
 rw[List.getElem?_map,List.getElem?_map,List.getElem?_drop]
theorem Kz (l:List Int) (sp:List Value) (i:Nat) (x:Int) (h:i<l.length) (hs:0<sp.length) (j:Nat) (hj:j<l.length+1):
  (splice (splice (ofK .i64 l ++ sp) (i+1) (ofK .i64 (l.drop i))) i [.int .i64 x])[j]?=(ofK .i64 (Cr l i x))[j]?:=by
 have hl:(ofK .i64 l).length=l.length:=AJ _ _
 have hd:(ofK .i64 (l.drop i)).length=l.length - i:=by rw[AJ,List.length_drop]
 have hsl:(splice (ofK .i64 l ++ sp) (i+1) (ofK .i64 (l.drop i))).length=l.length+sp.length:=by rw[length_splice _ _ _ (by rw[List.length_append];omega),List.length_append,hl]
 rw[Cu _ _ _ _ (by rw[hsl];simp;omega),Cu _ _ _ _ (by rw[List.length_append];omega),Jw _ _ _ (by omega),Ds,hd]
 by_cases h1:j<i
 ·rw[if_pos h1,if_pos h1,if_pos (by omega),List.getElem?_append_left (by omega)]
 ·rw[if_neg h1,if_neg h1]
  by_cases h2:j=i
  ·subst h2;simp
  ·rw[if_neg (by simp;omega),if_neg (by omega),if_pos (by omega),if_neg h2]
   congr 1;omega
theorem Lv (l:List Int) (Z:List Value) (i:Nat) (x:Int) (h:i<l.length) (hs:l.length+1 - i≤Z.length) (j:Nat) (hj:j<l.length+1):
  (splice (splice ((ofK .i64 l).take i ++ Z) i [.int .i64 x]) (i+1) (ofK .i64 (l.drop i)))[j]?=(ofK .i64 (Cr l i x))[j]?:=by
 have hl:(ofK .i64 l).length=l.length:=AJ _ _
 have hd:(ofK .i64 (l.drop i)).length=l.length - i:=by rw[AJ,List.length_drop]
 have ht:((ofK .i64 l).take i).length=i:=by rw[List.length_take];omega
 have hsl:(splice ((ofK .i64 l).take i ++ Z) i [.int .i64 x]).length=i+Z.length:=by rw[length_splice _ _ _ (by rw[List.length_append];simp;omega),List.length_append,ht]
 rw[Cu _ _ _ _ (by rw[hsl];omega),Cu _ _ _ _ (by rw[List.length_append];simp;omega),Jw _ _ _ (by omega),Ds,hd]
 by_cases h1:j<i
 ·rw[if_pos (by omega),if_pos h1,if_pos h1,List.getElem?_append_left (by omega),List.getElem?_take,if_pos h1]
 ·by_cases h2:j=i
  ·subst h2;simp
  ·rw[if_neg (by omega),if_pos (by omega),if_neg h1,if_neg h2]
   congr 1;omega
theorem Blk.sl_at {w:World} {g:Nat} {t:TypeId} {X:List Value} {xs:List Int} (h:Blk w g t X) (n c:Nat) (hn:xs.length=n) (hc:n≤c) (hm:c≤maxLen) (hx:∀ j,j<n→X[j]?=(ofK .i64 xs)[j]?):Sl w (.slice (some ⟨g,0,none⟩) n c) (ofK .i64 xs):=by
 refine .inr ⟨⟨g,0,none⟩,c,by rw[AJ,hn],by rw[AJ,hn];exact hc,hm,fun j u hu=> ?_⟩
 have hj:j<n:=by have:=(List.getElem?_eq_some_iff.1 hu).1;rwa [AJ,hn] at this
 have e:(Addr.add ⟨g,0,none⟩ j)=⟨g,j,none⟩:=by unfold Addr.add;split <;> simp_all
 rw[e,h.cell,hx j hj];exact hu
def Abv (B:Nat) (v:Value):Prop:=∀ k,v.ownBlock=some k→B≤k
def JW (base:Nat) (w:World) (xs:List Int) (e:Ending) (w':World):Prop:=∃ ao n c,e=.returned (.slice ao n c)∧Sl w' (.slice ao n c) (ofK .i64 xs)∧Below base w w'∧Abv base (.slice ao n c)
theorem IX (base vb:Nat) (x:Int) (v:Value) (l:List Int) (w:World) (hv:w.ownsRow base 3 1 v l.length (ofK .i64 l)) (hb:base≤w.heap.size) (hx:Blk w vb 3 [.int .i64 x]) (hl:l.length≤1000000):
  Calls Tryz.prog 97 #[v,.int .i64 l.length,.slice (some ⟨vb,0,none⟩) 1 1] w (JW base w (l ++ [x])):=by
 obtain⟨ao,c,rfl⟩:=AY hv
 have hc:l.length≤c:=by obtain⟨ao2,c2,e,h,_⟩:=(Sl.of_owns hv).nums;cases e;exact h
 have hc2:c≤9223372036854775807:=by obtain⟨ao2,c2,e,_,h,_⟩:=(Sl.of_owns hv).nums;cases e;exact h
 have HV:=Ag (Ai hv (Ai hb hx))
 obtain⟨n,hn⟩:∃ n,l.length=n:=⟨_,rfl⟩
 rw[hn] at hc hl HV ⊢
 have HN:=Ag hn
 have hsx:Sl w (.slice (some ⟨vb,0,none⟩) 1 1) (ofK .i64 [x]):=hx.sl_at 1 1 rfl (by omega) (by unfold maxLen;omega) (fun j hj=> match j,hj with|0,_=> rfl)
 have HX:=Ag hsx
 clear hv hb hx hsx hn
 by_cases hcn:c=n
 ·subst hcn
  go_enter Tryz.func97,Tryz.ntmps97
  go_wp2_with (at_builtin;refine CH base (.tmp 23) (.tmp 24) rfl rfl HV.out.1 rfl rfl HX.out (c+1) rfl (by omega) HV.out.2.1 ?_)
  intro ao2 c2 w1 hown hgr _
  have H1:=Ag (show Sl w1 (.slice ao2 (c+1) c2) (ofK .i64 (l ++ [x]))∧Below base w w1∧Abv base (.slice ao2 (c+1) c2) from⟨Sl.of_owns hown,(Below.refl _ _).grown hgr HV.out.2.1 (fun k hk=> (HV.out.1.lt k hk).1),fun k hk=> (hown.lt k hk).1⟩)
  clear hown hgr
  go_wp2_with fail
  go_ret
  exact⟨_,_,_,rfl,H1.out.1,H1.out.2.1,H1.out.2.2⟩
 ·skip
  go_enter Tryz.func97,Tryz.ntmps97
  go_wp2_with (at_builtin;refine CH base (.tmp 23) (.tmp 24) rfl rfl HV.out.1 rfl rfl HX.out (n+1) rfl (by omega) HV.out.2.1 ?_)
  intro ao2 c2 w1 hown hgr _
  have H1:=Ag (show Sl w1 (.slice ao2 (n+1) c2) (ofK .i64 (l ++ [x]))∧Below base w w1∧Abv base (.slice ao2 (n+1) c2) from⟨Sl.of_owns hown,(Below.refl _ _).grown hgr HV.out.2.1 (fun k hk=> (HV.out.1.lt k hk).1),fun k hk=> (hown.lt k hk).1⟩)
  clear hown hgr
  go_wp2_with fail
  go_ret
  exact⟨_,_,_,rfl,H1.out.1,H1.out.2.1,H1.out.2.2⟩
theorem Tryz.sizeInt1:(Tryz.prog.info? 3).map (·.size)=some 1:=by kernel_rfl
theorem IY (base vb i:Nat) (x:Int) (v:Value) (l:List Int) (w:World) (hv:w.ownsRow base 3 1 v l.length (ofK .i64 l)) (hb:base≤w.heap.size) (hx:Blk w vb 3 [.int .i64 x]) (hnv:∀ k,v.ownBlock=some k→k≠vb) (hl:l.length≤1000000) (hi:i<l.length):
  Calls Tryz.prog 97 #[v,.int .i64 i,.slice (some ⟨vb,0,none⟩) 1 1] w (JW base w (Cr l i x)):=by
 obtain⟨h1,⟨rfl,h2⟩|⟨g,c,C,rfl,hg,hh,hnc,hcm,hcs,htk⟩⟩:=hv
 ·omega
 have hblk:Blk w g 3 C.toList:=hh
 rw[Nat.mul_one] at hcs htk
 have hgv:=hnv g rfl
 have hmx:c≤9223372036854775807:=by unfold maxLen at hcm;omega
 obtain⟨sp,hsp⟩:∃ sp,C.toList=ofK .i64 l ++ sp:=⟨C.toList.drop l.length,by rw[←htk,List.take_append_drop]⟩
 have hspl:l.length+sp.length=c:=by have:=congrArg List.length hsp;rw[List.length_append,AJ] at this;simp at this;omega
 rw[hsp] at hblk
 have hov:∀ la ca,(callFunc 119 #[.slice (some ⟨vb,0,none⟩) 1 1,.slice (some ⟨g,i+1,none⟩) la ca]).run Tryz.prog w=.ok (.value (.bool false)) w:=fun la ca=> by
  rw[run_callFunc_extern Tryz.func119 (by kernel_rfl) (by kernel_rfl) (by kernel_rfl) (e:=Extern.SlicesOverlaps.overlaps #[40,40] #[4]) (by kernel_rfl),
   Lib.run_overlaps_apart w 40 4 3 Tryz.underlying40 1 (fun w=> by kernel_rfl) ⟨vb,0,none⟩ ⟨g,i+1,none⟩ 1 1 la ca (fun e=> hgv e.symm) _ _ _ _ hx.shape hblk.shape (by rw[List.length_append,AJ];omega) (hx.free 0) (hx.free 1)]
  rfl
 have HB:=Ag (Ai hblk (Ai hx (Ai hg (Ai hb (Ai hgv hov)))))
 have HSP:=Ag hspl
 have HI:=Ag hi
 obtain⟨n,hn⟩:∃ n,l.length=n:=⟨_,rfl⟩
 have HN:=Ag hn
 rw[hn] at hi hl hnc ⊢
 have hne:((i:Int)==(n:Int))=false:=by simp;omega
 have hin:(i:Int)≤(n:Int):=by omega
 have hic:(i:Int)≤(c:Int):=by omega
 have h0i:(0:Int)≤(i:Int):=by omega
 have hxs:∀ W:World,Blk W vb 3 [.int .i64 x]→∀ j u,[Value.int .i64 x][j]?=some u→W.cell? (Addr.add ⟨vb,0,none⟩ j)=some u:=fun W hW j u hu=> by
  have e:(Addr.add ⟨vb,0,none⟩ j)=⟨vb,j,none⟩:=by unfold Addr.add;split <;> simp_all
  rw[e,hW.cell];exact hu
 have HXS:=Ag hxs
 have hdr:∀ (W:World) (X:List Value),Blk W g 3 X→(∀ j,i≤j→j<n→X[j]?=(ofK .i64 l)[j]?)→∀ j u,(ofK .i64 (l.drop i))[j]?=some u→W.cell? (Addr.add ⟨g,i,none⟩ j)=some u:=fun W X hW hX j u hu=> by
  have hj:j<n - i:=by have:=(List.getElem?_eq_some_iff.1 hu).1;rwa [AJ,List.length_drop,HN.out] at this
  have e:(Addr.add ⟨g,i,none⟩ j)=⟨g,i+j,none⟩:=by unfold Addr.add;split <;> simp_all
  rw[e,hW.cell,hX _ (by omega) (by omega),←Ds];exact hu
 have HDR:=Ag hdr
 have HDL:=Ag (show(ofK .i64 (l.drop i)).length=n - i by rw[AJ,List.length_drop,HN.out])
 have hgk:n+1≤grownCap w (n+1) c 3:=grownCap_ge w _ _ _
 clear hblk hx hg hb hnv hcm hcs htk hh hsp hov hspl hn h1 hxs hdr
 have hw1:IntKind.i64.wrap ((n:Int)+1)=(n:Int)+1:=by rw[IntKind.wrap_i64];omega
 have hwi:IntKind.i64.wrap ((i:Int)+1)=(i:Int)+1:=by rw[IntKind.wrap_i64];omega
 have hi1:(0:Int)≤(i:Int)+1:=by omega
 have hti:((i:Int)+1).toNat=i+1:=by omega
 by_cases hroom:c<n+1
 ·
  have hrz:(c:Int)<(n:Int)+1:=by omega
  have hkk:(n:Int)+1 - (i:Int)=((n+1 - i:Nat):Int):=by omega
  have hwk:IntKind.i64.wrap ((n:Int)+1 - (i:Int))=((n+1 - i:Nat):Int):=by rw[IntKind.wrap_i64];omega
  obtain⟨i0,hi0,hz0,hzs,hzb⟩:=info_parts Tryz.infoI
  have hold:(Builtin.firstCells i0.size i (.slice (some ⟨g,0,none⟩) i c)).run Tryz.prog w.drew=.ok ((ofK .i64 l).take i).toArray w.drew:=by
   rw[hzs]
   exact run_firstCells_some w.drew 1 i ⟨g,0,none⟩ i c ((ofK .i64 l).take i) (by rw[List.length_take,AJ,HN.out];omega) (fun j u hj=> by
    have e:(Addr.add ⟨g,0,none⟩ j)=⟨g,j,none⟩:=by unfold Addr.add;split <;> simp_all
    rw[List.getElem?_take] at hj
    split at hj
    ·rw[e]
     show w.cell? _=_
     rw[HB.out.1.cell,List.getElem?_append_left (by rw[AJ,HN.out];omega)];exact hj
    ·cases hj)
  have hrun:∀ ty,(Builtin.append_ #[40,3] ty #[.slice (some ⟨g,0,none⟩) i c,.int .i64 ((n+1 - i:Nat):Int)]).run Tryz.prog w=
    .ok (.slice (some ⟨w.heap.size,0,none⟩) (n+1) (grownCap w (n+1) c 3)) (w.drew.alloc (.cells (((ofK .i64 l).take i).toArray ++ Builtin.zeroCells (Value.int .i64 0).cells (n+1 - i) ++ Builtin.zeroCells (Value.int .i64 0).cells (grownCap w (n+1) c 3 - (n+1))) 3)):=fun ty=> by
   have h:=Lib.run_append_grow_zeros w 40 3 ty 3 i0 _ .i64 .i64 Tryz.underlying40 Tryz.underlying3 hi0 hz0 (some ⟨g,0,none⟩) i c _ hold (n+1 - i) (by omega) (by omega) (by omega) (by omega) (by rw[hzb];omega) (by rw[hzb];exact growslice_fits (by omega) (by omega))
   rw[show i+(n+1 - i)=n+1 by omega] at h
   exact h
  obtain⟨G,hG⟩:∃ G,grownCap w (n+1) c 3=G:=⟨_,rfl⟩
  have hGm:G≤9223372036854775807:=by
   have:=grownCap_le_maxLen w (n+1) c 3 (by unfold maxLen;omega)
   rw[hG] at this
   unfold maxLen at this
   omega
  rw[hG] at hrun hgk
  obtain⟨Z,hZ⟩:∃ Z:List Value,(((ofK .i64 l).take i).toArray ++ Builtin.zeroCells (Value.int .i64 0).cells (n+1 - i) ++ Builtin.zeroCells (Value.int .i64 0).cells (G - (n+1)))=((ofK .i64 l).take i ++ Z).toArray∧Z.length=G - i:=by
   refine⟨(Builtin.zeroCells (Value.int .i64 0).cells (n+1 - i)).toList ++ (Builtin.zeroCells (Value.int .i64 0).cells (G - (n+1))).toList,?_,?_⟩
   ·rw[←Array.toList_inj];simp
   ·simp[Builtin.zeroCells,Value.cells];omega
  obtain⟨W1,hW1⟩:∃ W1,w.drew.alloc (.cells ((ofK .i64 l).take i ++ Z).toArray 3)=W1:=⟨_,rfl⟩
  have HZ:=Ag (show ∀ ty,(Builtin.append_ #[40,3] ty #[.slice (some ⟨g,0,none⟩) i c,.int .i64 ((n+1 - i:Nat):Int)]).run Tryz.prog w=.ok (.slice (some ⟨w.heap.size,0,none⟩) (n+1) G) W1 from fun ty=> by rw[hrun ty,hZ.1,hW1])
  have HZL:=Ag hZ.2
  have HA1:=Ag (show Blk W1 w.heap.size 3 ((ofK .i64 l).take i ++ Z)∧Below w.heap.size w W1 from by rw[←hW1];exact⟨Blk.new w.drew _ _,((Below.refl w.heap.size w).drew).alloc (Ah _) _⟩)
  have HT:=Ag (show((ofK .i64 l).take i).length=i by rw[List.length_take,AJ,HN.out];omega)
  have hGi:(i:Int)≤(G:Int):=by omega
  have hGi1:(i:Int)+1≤(G:Int):=by omega
  have hi1n:(i:Int)+1≤(n:Int)+1:=by omega
  have hci:¬ (c=i):=by omega
  have hGi2:¬ (G=i):=by omega
  have hGi3:¬ (G=i+1):=by omega
  clear hold hrun hG hZ hW1 hi0 hz0 hzs hzb
  go_enter Tryz.func97,Tryz.ntmps97
  go_wp2_with (first
   | (at_builtin;refine Lib.wpList_append_run _ rfl _ _ _ _ rfl _ _ rfl rfl _ _ (HZ.out _) ?_)
   | ((with_reducible refine Cm W1 rfl (.tmp 43) (.tmp 44) 40 40 rfl 3 Tryz.underlying40 Tryz.sizeInt1 w.heap.size i (n+1 - i) (G - i) rfl ⟨vb,0,none⟩ 1 1 rfl ((ofK .i64 l).take i ++ Z) 3 HA1.out.1 [.int .i64 x] ?_ ?_ ?_ ?_ ?_)))
  ·rw[Nat.min_eq_left (by omega)];rfl
  ·exact fun j u hu=> HXS.out _ (HB.out.2.1.below HA1.out.2 HB.out.2.1.lt) j u hu
  ·rw[List.length_append,HT.out,HZL.out];simp;omega
  ·exact Cx .i64 [x]
  intro w2 hb2 hc2 hs2
  have H2:=Ag (show Blk w2 w.heap.size 3 (splice ((ofK .i64 l).take i ++ Z) i [.int .i64 x])∧Blk w2 g 3 (ofK .i64 l ++ sp)∧Below w.heap.size w w2 from
   ⟨hb2,(HB.out.1.below HA1.out.2 HB.out.1.lt).keep hc2 (fun e=> by have:=HB.out.1.lt;have e:g=w.heap.size:=e;omega),Aw HA1.out.2 hc2 (Ah _) (fun k hk=> by have e:k=w.heap.size:=hk;omega)⟩)
  clear hb2 hc2 hs2
  go_wp2_with fail
  refine Az (fun _=> True) [0,1,2,3,4,5,6,7] 1 (by kernel_rfl) rfl (by kernel_rfl) (by kernel_rfl) trivial ?_
  iterate 8(refine' AH.run ?_ ?_ ?_ ?_;rotate_left 2;(simp only[Aa,Ab,Ac];rfl);rfl;(rintro w' -;go_simp;with_reducible rfl);simp only[Al,Ad,Ae,Af])
  refine' Ar 8 (by kernel_rfl) ?_ ?_;rotate_left;(simp only[Aa,Ab,Ac];rfl)
  refine Cm w2.drew rfl (.tmp 50) (.tmp 53) 40 40 rfl 3 Tryz.underlying40 Tryz.sizeInt1 w.heap.size (i+1) (n - i) (G - (i+1)) rfl ⟨g,i,none⟩ (n - i) (c - i) rfl _ 3 H2.out.1 (ofK .i64 (l.drop i)) ?_ ?_ ?_ (Cx _ _) ?_
  ·rw[HDL.out,Nat.min_self]
  ·exact fun j u hu=> HDR.out w2.drew _ H2.out.2.1 (fun k _ hk=> by rw[List.getElem?_append_left (by rw[AJ,HN.out];exact hk)]) j u hu
  ·rw[length_splice _ _ _ (by rw[List.length_append,HT.out,HZL.out];simp;omega),List.length_append,HT.out,HZL.out,HDL.out];omega
  intro w3 hb3 hc3 _
  have H3:=Ag (show Sl w3 (.slice (some ⟨w.heap.size,0,none⟩) (n+1) G) (ofK .i64 (Cr l i x))∧Below base w w3 from
   ⟨hb3.sl_at (n+1) G (by rw[D7 (by rw[HN.out];omega),HN.out]) hgk (by unfold maxLen;omega) (fun j hj=> Lv l Z i x HI.out (by rw[HZL.out,HN.out];omega) j (by rw[HN.out];exact hj)),
    (Aw (H2.out.2.2.drew) hc3 (Ah _) (fun k hk=> by have e:k=w.heap.size:=hk;omega)).mono HB.out.2.2.2.1⟩)
  clear hb3 hc3
  refine QK.normal ⟨trivial,?_⟩
  refine wpAnyH_done (by kernel_rfl) ?_ _
  refine NoPanic.normal ?_
  go_wp2_with fail
  go_ret
  exact⟨_,_,_,rfl,H3.out.1,H3.out.2,fun k hk=> by have e:some w.heap.size=some k:=hk;cases e;exact HB.out.2.2.2.1⟩
 ·
  have hrn:n+1≤c:=by omega
  have hrz:¬ (c:Int)<(n:Int)+1:=by omega
  have hrz2:(n:Int)+1≤(c:Int):=by omega
  have hi1c:(i:Int)+1≤(c:Int):=by omega
  have hci:¬ (c=i):=by omega
  have hci1:¬ (c=i+1):=by omega
  have hi1n:(i:Int)+1≤(n:Int)+1:=by omega
  have htn:((n:Int)+1).toNat=n+1:=by omega
  have h0n:(0:Int)≤(n:Int)+1:=by omega
  have hin1:(i:Int)≤(n:Int)+1:=by omega
  have hov:=HB.out.2.2.2.2.2
  clear hroom hgk
  go_enter Tryz.func97,Tryz.ntmps97
  go_wp2_with (simp only[hov])
  refine Az (fun _=> True) [0,1,2,3,4,5,6,7] 1 (by kernel_rfl) rfl (by kernel_rfl) (by kernel_rfl) trivial ?_
  iterate 8(refine' AH.run ?_ ?_ ?_ ?_;rotate_left 2;(simp only[Aa,Ab,Ac];rfl);rfl;(rintro w' -;go_simp;with_reducible rfl);simp only[Al,Ad,Ae,Af])
  refine' Ar 8 (by kernel_rfl) ?_ ?_;rotate_left;(simp only[Aa,Ab,Ac];rfl)
  refine Cm w.drew rfl (.tmp 73) (.tmp 76) 40 40 rfl 3 Tryz.underlying40 Tryz.sizeInt1 g (i+1) (n - i) (c - (i+1)) rfl ⟨g,i,none⟩ (n+1 - i) (c - i) rfl _ 3 HB.out.1 (ofK .i64 (l.drop i)) ?_ ?_ ?_ (Cx _ _) ?_
  ·rw[HDL.out,Nat.min_eq_right (by omega)]
  ·exact fun j u hu=> HDR.out w.drew _ HB.out.1 (fun k _ hk=> by rw[List.getElem?_append_left (by rw[AJ,HN.out];exact hk)]) j u hu
  ·rw[List.length_append,HDL.out,AJ,HSP.out];omega
  intro w2 hb2 hc2 hs2
  have H2:=Ag (show Blk w2 g 3 (splice (ofK .i64 l ++ sp) (i+1) (ofK .i64 (l.drop i)))∧Blk w2 vb 3 [.int .i64 x]∧Below base w w2 from
   ⟨hb2,(show Blk w.drew vb 3 [.int .i64 x] from HB.out.2.1).keep hc2 (fun e=> HB.out.2.2.2.2.1 e.symm),Aw ((Below.refl base w).drew) hc2 HB.out.2.2.2.1 (fun k hk=> by have e:k=g:=hk;have:=HB.out.2.2.1;omega)⟩)
  clear hb2 hc2 hs2 hov
  refine QK.normal ⟨trivial,?_⟩
  refine wpAnyH_done (by kernel_rfl) ?_ _
  refine NoPanic.normal ?_
  go_wp2_with ((with_reducible refine Cm w2 rfl (.tmp 80) (.tmp 81) 40 40 rfl 3 Tryz.underlying40 Tryz.sizeInt1 g i (n+1 - i) (c - i) rfl ⟨vb,0,none⟩ 1 1 rfl _ 3 H2.out.1 [.int .i64 x] ?_ ?_ ?_ ?_ ?_))
  ·rw[Nat.min_eq_left (by omega)];rfl
  ·exact fun j u hu=> HXS.out _ H2.out.2.1 j u hu
  ·rw[length_splice _ _ _ (by rw[List.length_append,HDL.out,AJ,HSP.out];omega),List.length_append,AJ,HSP.out];simp;omega
  ·exact Cx .i64 [x]
  intro w3 hb3 hc3 _
  have H3:=Ag (show Sl w3 (.slice (some ⟨g,0,none⟩) (n+1) c) (ofK .i64 (Cr l i x))∧Below base w w3 from
   ⟨hb3.sl_at (n+1) c (by rw[D7 (by rw[HN.out];omega),HN.out]) hrn (by unfold maxLen;omega) (fun j hj=> Kz l sp i x HI.out (by have:=HSP.out;rw[HN.out] at this;omega) j (by rw[HN.out];exact hj)),
    Aw H2.out.2.2 hc3 HB.out.2.2.2.1 (fun k hk=> by have e:k=g:=hk;have:=HB.out.2.2.1;omega)⟩)
  clear hb3 hc3
  go_wp2_with fail
  go_ret
  exact⟨_,_,_,rfl,H3.out.1,H3.out.2,fun k hk=> by have e:some g=some k:=hk;cases e;exact HB.out.2.2.1⟩
theorem Ba {w w':World} {S:Nat→Prop} {base e size n:Nat} {v:Value} {xs:List Value} (h:w.ownsRow base e size v n xs) (hc:Ch S w w') (hS:∀ k,v.ownBlock=some k→¬ S k):w'.ownsRow base e size v n xs:=by
 obtain⟨h1,h2|⟨g,cap,C,h3,h4,h5,h6⟩⟩:=h
 ·exact⟨h1,.inl h2⟩
 ·exact⟨h1,.inr ⟨g,cap,C,h3,h4,by rw[hc.block g (lt_of_block h5) (hS g (by rw[h3];rfl))];exact h5,h6⟩⟩
theorem IZ (base vb i:Nat) (x:Int) (v:Value) (l:List Int) (w:World) (hv:w.ownsRow base 3 1 v l.length (ofK .i64 l)) (hb:base≤w.heap.size) (hx:Blk w vb 3 [.int .i64 x]) (hnv:∀ k,v.ownBlock=some k→k≠vb) (hl:l.length≤1000000) (hi:i≤l.length):
  Calls Tryz.prog 97 #[v,.int .i64 i,.slice (some ⟨vb,0,none⟩) 1 1] w (JW base w (Cr l i x)):=by
 rcases Nat.lt_or_ge i l.length with h|h
 ·exact IY base vb i x v l w hv hb hx hnv hl h
 ·obtain rfl:i=l.length:=by omega
  have e:Cr l l.length x=l ++ [x]:=by simp[Cr]
  rw[e]
  exact IX base vb x v l w hv hb hx hl
theorem Tryz.sizeI:∀ w,(sizeOf 3).run Tryz.prog w=.ok 1 w:=fun w=> by kernel_rfl
theorem Tryz.zeroI:∀ w,(zeroValue 3).run Tryz.prog w=.ok (.int .i64 0) w:=fun w=> by kernel_rfl
theorem KA (w:World) (cs:Array Value):(newRow 3 cs).run Tryz.prog w=.ok ⟨w.heap.size,0,none⟩ (w.alloc (.cells cs 3)):=by simp[newRow,Result.andThen]
theorem CX (w:World) {ops:Array Oper} {rest:List Oper} {o:Oper} {a:Act} {Q:Exit→Act→World→Prop} (hgd:o.guard=none) (x:Operand) (ho:o.op=.buildSlice 40 1 #[(0,x)]) {c:Int} (hx:a.eval x=.int .i64 c)
  (h:∀ w',Blk w' w.heap.size 3 [.int .i64 c]→Below w.heap.size w w'→w'.heap.size=w.heap.size+1→wpList Tryz.prog ops Q rest (a.put o.dst (.slice (some ⟨w.heap.size,0,none⟩) 1 1)) w'):
  wpList Tryz.prog ops Q (o::rest) a w:=by
 refine wpList_plain hgd fun K hK=> ?_
 have hb:(Instr.buildSlice 40 1 #[(0,.int .i64 c)]).run Tryz.prog w=.ok (.slice (some ⟨w.heap.size,0,none⟩) 1 1) (w.alloc (.cells [Value.int .i64 c].toArray 3)):=by
  simp[Instr.buildSlice,run_underlying Tryz.underlying40,Tryz.sizeI,Tryz.zeroI,Value.cells,Result.andThen,Instr.fill,KA,Array.range_succ]
  rw[Array.eq_empty_of_size_eq_zero (xs:=Array.map _ (Array.range 0)) (by simp)]
  rfl
 have hrun:(execOp a.eval o).run Tryz.prog w=.ok (.value (.slice (some ⟨w.heap.size,0,none⟩) 1 1)) (w.alloc (.cells [Value.int .i64 c].toArray 3)):=by
  unfold execOp
  simp only[ho]
  rw[show(#[((0:Nat),x)].map fun (i,x)=> (i,a.eval x))=#[(0,.int .i64 c)] by simp[hx]]
  simp[hb,Result.andThen]
 unfold Oper.wp
 rw[hrun]
 exact hK _ _ (h _ (Blk.new w _ _) ((Below.refl _ _).alloc (Ah _) _) (World.size_alloc _ _))
def Bv (l:List Int) (x:Int):List Int:=if l.any (x==·)=true then l else Cr l (B1 l x) x
theorem Gh (l:List Int) (x:Int):B1 l x≤l.length:=List.countP_le_length
theorem DC (x:Int) (v:Value) (l:List Int) (w:World) (hv:Sl w v (ofK .i64 l)) (hs:l.Pairwise (·<·)) (hl:l.length≤1000000):
  Calls Tryz.prog 107 #[v,.int .i64 x] w (JW w.heap.size w (Bv l x)):=by
 have hS:=Gg x v l w hv hs (by omega)
 obtain⟨b,hb⟩:∃ b,l.any (x==·)=b:=⟨_,rfl⟩
 obtain⟨i,hi⟩:∃ i,B1 l x=i:=⟨_,rfl⟩
 have hil:=Gh l x
 rw[hb,hi] at hS
 rw[hi] at hil
 have hwl:Bv l x=if b=true then l else Cr l i x:=by unfold Bv;rw[hb,hi]
 rw[hwl]
 have HS:=Ag hS
 have HC:=Ag (Bu v l w hv (by omega))
 have HI:=Ag (Ai hil hl)
 obtain⟨ao,n,c,rfl⟩:∃ ao n c,v=.slice ao n c:=by obtain⟨ao,c,e,_⟩:=hv.nums;exact⟨_,_,_,e⟩
 clear hb hi hwl hS hil hl hv hs
 cases b
 ·go_enter Tryz.func107,Tryz.ntmps107
  go_wp2_with fail
  refine HS.out.mono ?_
  rintro e w' ⟨rfl,rfl⟩
  go_wp2_with fail
  refine HC.out.mono ?_
  rintro e w1 ⟨v1,rfl,hown,hb1⟩
  have H1:=Ag (Ai hown hb1)
  obtain⟨ao1,c1,rfl⟩:=AY hown
  clear hown hb1
  go_wp2_with ((with_reducible refine CX w1 rfl (.tmp 19) rfl rfl ?_);intro w2 hb hbel hsz;have H2:=Ag (Ai hb hbel);clear hb hbel hsz)
  refine(IZ w.heap.size w1.heap.size i x _ l w2 (Ba H1.out.1 (Ch.of_below (S:=fun _=> False) H2.out.2 (Ah _)) (fun _ _ h=> h)) (Aj H1.out.2.size H2.out.2.size) H2.out.1 (fun k hk=> by have:=(H1.out.1.lt k hk).2;omega) HI.out.2 HI.out.1).mono ?_
  rintro e w3 ⟨ao3,n3,c3,rfl,h3,h4,h5⟩
  have H3:=Ag (Ai h3 (An H1.out.2 (H2.out.2) (Ah _)))
  have H4:=Ag (Ai h4 h5)
  clear h3 h4 h5
  go_wp2_with fail
  go_ret
  exact⟨_,_,_,rfl,H3.out.1,H3.out.2.trans H4.out.1,H4.out.2⟩
 ·go_enter Tryz.func107,Tryz.ntmps107
  go_wp2_with fail
  refine HS.out.mono ?_
  rintro e w' ⟨rfl,rfl⟩
  go_wp2_with fail
  refine HC.out.mono ?_
  rintro e w1 ⟨v1,rfl,hown,hb1⟩
  have H1:=Ag (Ai hown hb1)
  obtain⟨ao1,c1,rfl⟩:=AY hown
  clear hown hb1
  go_wp2_with fail
  go_ret
  exact⟨_,_,_,rfl,Sl.of_owns H1.out.1,H1.out.2,fun k hk=> (H1.out.1.lt k hk).1⟩
end Go.Proofs.YtgdlfiphihaooaaGreat

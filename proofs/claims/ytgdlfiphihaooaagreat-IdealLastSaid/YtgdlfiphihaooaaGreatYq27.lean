import Derived.Test.YtgdlfiphihaooaaGreatYq26
set_option linter.unusedSimpArgs false
set_option linter.unusedVariables false
set_option maxRecDepth 100000
set_option maxHeartbeats 8000000
open _root_.List renaming getElem?_toArray→Aa,getElem?_cons_zero→Ab,getElem?_cons_succ→Ac,setIfInBounds_toArray→Ad,set_cons_zero→Ae,set_cons_succ→Af
open _root_.Go.Lib renaming hid→Ag
open _root_.Nat renaming le_refl→Ah,le_trans→Aj,lt_of_lt_of_le→Ak
open _root_.And renaming intro→Ai
open _root_.Go.Act renaming put→Al
namespace Go.Proofs.YtgdlfiphihaooaaGreat
open Go Go.RowKit
theorem D0 (w:World) {ops:Array Oper} {rest:List Oper} {o:Oper} {a:Act} {Q:Exit→Act→World→Prop} (hgd:o.guard=none) (x:Operand) (ho:o.op=.buildSlice 23 1 #[(0,x)]) (cs:List Value) (hcs:cs.length=3)
  (hx:a.eval x=.agg cs.toArray) (h:∀ w',Blk w' w.heap.size 49 cs→Below w.heap.size w w'→w'.heap.size=w.heap.size+1→wpList Tryz.prog ops Q rest (a.put o.dst (.slice (some ⟨w.heap.size,0,none⟩) 1 1)) w'):wpList Tryz.prog ops Q (o::rest) a w:=
 Bk w hgd 23 x ho Tryz.underlying23 (fun w=> by kernel_rfl) Tryz.zeroCi3 (by decide) (by decide) cs hcs hx h
theorem KV {α β:Type} (f:α→β) (l:List α) (i:Nat) (x:α):(BY l i x).map f=BY (l.map f) i (f x):=by unfold BY;simp
theorem KW {α:Type} {l:List α} {i:Nat} {x y:α}:y∈BY l i x↔y=x∨y∈l:=by
 unfold BY
 rw[List.mem_append,List.mem_cons]
 constructor
 ·rintro(h|h|h)
  ·exact .inr (List.mem_of_mem_take h)
  ·exact .inl h
  ·exact .inr (List.mem_of_mem_drop h)
 ·rintro(h|h)
  ·exact .inr (.inl h)
  ·rw[←List.take_append_drop i l,List.mem_append] at h
   exact h.imp id .inr
theorem Tryz.buildcir (x y:Int):∀ w,(Instr.build 49 #[(0,.int .i64 x),(1,.int .i64 y)]).run Tryz.prog w=.ok (.agg (ciC x y (.slice none 0 0)).toArray) w:=fun w=> by kernel_rfl
theorem Fl {ops:Array Oper} {rest:List Oper} {op:Oper} {a:Act} {w:World} {Q:Exit→Act→World→Prop} (hgd:op.guard=none) (x0 x1:Operand) (ho:op.op=.build 49 #[(0,x0),(1,x1)])
  (x y:Int) (h0:a.eval x0=.int .i64 x) (h1:a.eval x1=.int .i64 y)
  (h:wpList Tryz.prog ops Q rest (a.put op.dst (.agg (ciC x y (.slice none 0 0)).toArray)) w):wpList Tryz.prog ops Q (op::rest) a w:=by
 refine wpList_plain hgd fun K hK=> ?_
 have hrun:(execOp a.eval op).run Tryz.prog w=.ok (.value (.agg (ciC x y (.slice none 0 0)).toArray)) w:=by
  unfold execOp
  simp only[ho]
  rw[show((#[((0:Nat),x0),(1,x1)]:Array (Nat × Operand)).map fun (i,x)=> (i,a.eval x))=#[(0,.int .i64 x),(1,.int .i64 y)] by simp[h0,h1]]
  simp[Tryz.buildcir,Result.andThen]
 unfold Oper.wp
 rw[hrun]
 exact hK _ _ h
theorem Kj (p:OpM) (tco:List Value) {w0 w:World} {m0 xs:List Nat} {bp:Nat} {vf vc vw:Value} {fs:List FileM} {cv:List CirV} {ws:List WrM} {ex:List (List Value × Tm)}
  (h:OwnX w0 m0 xs w bp 97 [vf,vc,vw] vf vc vw fs cv ws ex) (hb:(tco,p.b)∈ex) (hk:ChkP (⟨fs,cv.map CirV.m,ws⟩:IdM)) (ho:opB p=true) (hall:∀ c∈cv,c.own=true):
  Calls Tryz.prog 78 #[.pointer (some ⟨bp,0,none⟩),.agg (opC p tco).toArray] w (G6 w0 m0 xs bp 97 ex (Dn (⟨fs,cv.map CirV.m,ws⟩:IdM) p)):=by
 obtain⟨af,cf,rfl,hf1,hf2⟩:=h.rf.shape
 obtain⟨ac,cc,rfl,hc1,hc2⟩:=h.rc.shape
 obtain⟨aw,cw,rfl,hw1,hw2⟩:=h.rw.shape
 obtain⟨fn,hfn⟩:∃ n,fs.length=n:=⟨_,rfl⟩
 obtain⟨cn,hcn⟩:∃ n,cv.length=n:=⟨_,rfl⟩
 obtain⟨wn,hwn⟩:∃ n,ws.length=n:=⟨_,rfl⟩
 have HN:=Ag (Ai hfn (Ai hcn hwn))
 have hfl:fn≤6:=by have:=hk.fl;simp only at this;omega
 have hcl:cn≤3:=by have:=hk.cl;simp only[List.length_map] at this;omega
 have hwl:wn≤400:=by have:=hk.wl;simp only at this;omega
 rw[hfn,hcn,hwn] at h
 have HOWN:=Ag h
 have HB:=Ag hb
 have HK:=Ag hk
 have HO:=Ag ho
 have HALL:=Ag hall
 have HTL:=Ag (h.ex _ hb).len
 obtain⟨SR,hSR⟩:∃ r,Dn (⟨fs,cv.map CirV.m,ws⟩:IdM) p=r:=⟨_,rfl⟩
 have HSR:=Ag hSR
 rw[hSR]
 clear h hb hk ho hall hfn hcn hwn hSR hf1 hf2 hc1 hc2 hw1 hw2
 obtain⟨⟨ix,th⟩,hsk⟩:∃ r,By (⟨fs,cv.map CirV.m,ws⟩:IdM) p.g=r:=⟨_,rfl⟩
 have HSK:=Ag hsk
 have HF:=Ag (fun (W:World) (hW:IdC (fun _=> True) W [(.slice af fn cf),(.slice ac cn cc),(.slice aw wn cw)] (⟨fs,cv.map CirV.m,ws⟩:IdM))=> show Calls Tryz.prog 39 #[.agg ([(.slice af fn cf),(.slice ac cn cc),(.slice aw wn cw)]:List Value).toArray,.int .i64 p.g] W (fun e w'=> e=.returned (.tuple #[.int .i64 (ix:Nat),.bool th])∧Below W.heap.size W w') from by
  have h:=DU (⟨fs,cv.map CirV.m,ws⟩:IdM) p.g [(.slice af fn cf),(.slice ac cn cc),(.slice aw wn cw)] _ W hW (by have:=HK.out.cl;omega)
  rw[show AU (fun x=> BA x.n p.g) (⟨fs,cv.map CirV.m,ws⟩:IdM).cs=(ix,th) from hsk] at h
  exact h)
 clear hsk
 go_enter Tryz.func78,Tryz.ntmps78
 go_upto_region 1 with(first
  | ((with_reducible refine Au w rfl 31 (.tmp 1) rfl (opC p tco) rfl ?_);intro a1 hb hbel hsz;have H1:=hJ2 (HOWN.out.rsv hbel (Ah _) hb.lt) hb;clear hb hbel hsz)
  | ((with_reducible refine Av a1 rfl 37 rfl (AD 0 0 0 (tmC 0 0 0 ⟨#[]⟩ (.slice none 0 0))) Tryz.zeroRs ?_);intro a2 hb hbel hsz;have H2:=hJ3 (H1.out.1.rsv hbel (Ah _) hb.lt) (H1.out.2.below hbel H1.out.2.lt) hb;have HSZ:=Ag (show w0.heap.size≤a1.heap.size from H1.out.1.ch.size);clear hb hbel hsz))
 try simp only[Al,Ad,Ae,Af]
 have HG:=hJ2 H1.out.2.lt H2.out.2.2.lt
 have HIX:=Ag (show ix≤cv.length from by have h:=Ho (fun x:CirM=> BA x.n p.g) (cv.map CirV.m);rw[show AU (fun x:CirM=> BA x.n p.g) (cv.map CirV.m)=(ix,th) from HSK.out,List.length_map] at h;exact h)
 have hixf:ix≤cn:=by have:=HIX.out;have:=HN.out.2.1;omega
 have hixz:(ix:Int)<(cn:Int)+1:=by omega
 have hix0:(0:Int)≤(ix:Int):=by omega
 go_wp2_with fail
 refine Az (fun W=> W.rangeAt bp 0 [(.slice af fn cf),(.slice ac cn cc),(.slice aw wn cw)]∧W.cell? ⟨w.heap.size,4,none⟩=some (.int .i64 p.g)) [0,1,2,3,4,5] 6 (by kernel_rfl) rfl (by kernel_rfl) (by kernel_rfl) ⟨As H2.out.1.bl,H2.out.2.1.cell 4⟩ ?_
 iterate 6(refine' AH.run ?_ ?_ ?_ ?_;rotate_left 2;(simp only[Aa,Ab,Ac];rfl);rfl;(rintro w' ⟨k0,k1⟩;first|exact AA rfl rfl k0 Tryz.underlying26 rfl (At Tryz.infoId rfl)|(go_simp;with_reducible rfl));simp only[Al,Ad,Ae,Af])
 have sm:=(Sm.refl a2).drew
 have HV2:=hJ3 (H2.out.1.below (sm.below _)) (H2.out.2.1.below (sm.below _) H2.out.2.1.lt) (H2.out.2.2.below (sm.below _) H2.out.2.2.lt)
 clear sm
 generalize a2.drew=v1 at HV2 ⊢
 refine' Ar 6 (by kernel_rfl) ?_ ?_;rotate_left;(simp only[Aa,Ab,Ac];rfl)
 try simp only[Al,Ad,Ae,Af]
 go_wp2_with fail
 refine Calls.mono (HF.out v1 HV2.out.1.idc) ?_
 rintro e' u3 ⟨rfl,hb⟩
 have K4:=hJ3 (HV2.out.1.below hb) (HV2.out.2.1.below hb HV2.out.2.1.lt) (HV2.out.2.2.below hb HV2.out.2.2.lt)
 clear hb
 go_wp2_with fail
 refine QK.normal ⟨⟨As K4.out.1.bl,K4.out.2.1.cell 4⟩,?_⟩
 refine A2 (fuel:=0) (by kernel_rfl) AE ⟨As K4.out.1.bl,K4.out.2.1.cell 4⟩ [7,8,9,10,11] _ _ (by kernel_rfl) ?_
 try simp only[Al]
 iterate 5(refine' AH.run ?_ ?_ ?_ ?_;rotate_left 2;(simp only[Aa,Ab,Ac];rfl);rfl;(rintro w' ⟨k0,k1⟩;first|exact AA rfl rfl k0 Tryz.underlying26 rfl (At Tryz.infoId rfl)|(go_simp;with_reducible rfl));simp only[Al,Ad,Ae,Af])
 refine wpAnyH_done (by kernel_rfl) ?_ _
 refine NoPanic.normal ?_
 have c4:=K4.out.2.1.cell 4
 simp only[opC,Ab,Ac] at c4
 by_cases h1:p.g<1
 ·have h1e:decide (p.g<1)=true:=decide_eq_true h1
  have HX:=Ag (show SR=((⟨fs,cv.map CirV.m,ws⟩:IdM),A3 2) from by rw[←HSR.out];unfold Dn;rw[if_pos (.inl h1)])
  go_wp2_with fail
  refine(Be (2) u3).mono ?_
  rintro e' u5 ⟨rfl,hb⟩
  have K6:=hJ3 (K4.out.1.below hb) (K4.out.2.1.below hb K4.out.2.1.lt) (K4.out.2.2.below hb K4.out.2.2.lt)
  clear hb
  go_wp2_with (first
  | ((with_reducible refine Ao u5 rfl 37 (.tmp 4) (.tmp 26) rfl (a1.heap.size) 37 (AD 0 0 0 (tmC 0 0 0 ⟨#[]⟩ (.slice none 0 0))) (AD (2) 0 0 (tmC 0 0 0 ⟨#[]⟩ (.slice none 0 0))) K6.out.2.2 rfl rfl rfl (Ax rfl) (AN (AS _ _ _ _ _ _ _)) ?_);intro z9 hb hc hs;have HZ:=Ag (Ai (K6.out.1.setX (show a1.heap.size∈_ by simp) HSZ.out hc) hb);clear hb hc hs))
  refine bodyPost_ret (AC Tryz.results78 _ _ (a1.heap.size) _ _ rfl HZ.out.2 _ Tryz.underlying37 rfl (Ax rfl)) rfl ?_
  rw[HX.out]
  exact⟨_,_,_,_,cv,rfl,rfl,HALL.out,((HZ.out.1).keepoff (fun k hk=> by simp[hk])).exadd (Bo _ _)⟩
 ·have h1e:decide (p.g<1)=false:=decide_eq_false h1
  by_cases h3:3<p.g
  ·have h3e:decide (3<p.g)=true:=decide_eq_true h3
   have HX:=Ag (show SR=((⟨fs,cv.map CirV.m,ws⟩:IdM),A3 2) from by rw[←HSR.out];unfold Dn;rw[if_pos (.inr h3)])
   go_wp2_with fail
   refine(Be (2) u3).mono ?_
   rintro e' u7 ⟨rfl,hb⟩
   have K8:=hJ3 (K4.out.1.below hb) (K4.out.2.1.below hb K4.out.2.1.lt) (K4.out.2.2.below hb K4.out.2.2.lt)
   clear hb
   go_wp2_with (first
  | ((with_reducible refine Ao u7 rfl 37 (.tmp 4) (.tmp 26) rfl (a1.heap.size) 37 (AD 0 0 0 (tmC 0 0 0 ⟨#[]⟩ (.slice none 0 0))) (AD (2) 0 0 (tmC 0 0 0 ⟨#[]⟩ (.slice none 0 0))) K8.out.2.2 rfl rfl rfl (Ax rfl) (AN (AS _ _ _ _ _ _ _)) ?_);intro z9 hb hc hs;have HZ:=Ag (Ai (K8.out.1.setX (show a1.heap.size∈_ by simp) HSZ.out hc) hb);clear hb hc hs))
   refine bodyPost_ret (AC Tryz.results78 _ _ (a1.heap.size) _ _ rfl HZ.out.2 _ Tryz.underlying37 rfl (Ax rfl)) rfl ?_
   rw[HX.out]
   exact⟨_,_,_,_,cv,rfl,rfl,HALL.out,((HZ.out.1).keepoff (fun k hk=> by simp[hk])).exadd (Bo _ _)⟩
  ·have h3e:decide (3<p.g)=false:=decide_eq_false h3
   cases th
   ·skip
    go_upto_region 6 with fail
    try simp only[Al,Ad,Ae,Af]
    clear c4
    go_wp2_with fail
    refine AZ (fun W=> W.cell? ⟨bp,1,none⟩=some (.slice ac cn cc)∧W.cell? ⟨w.heap.size,4,none⟩=some (.int .i64 p.g)∧W.cell? ⟨w.heap.size,1,none⟩=some (.int .i64 p.u)) 17 [0,1,2,3,4,5,6,7,8,9,10] 7 (by kernel_rfl) rfl (by kernel_rfl) (by kernel_rfl) ⟨K4.out.1.bl.cell 1,K4.out.2.1.cell 4,K4.out.2.1.cell 1⟩ ?_
    iterate 11(refine' AH.run ?_ ?_ ?_ ?_;rotate_left 2;(simp only[Aa,Ab,Ac];rfl);rfl;(rintro w' ⟨k0,k1,k2⟩;go_simp;with_reducible rfl);simp only[Al,Ad,Ae,Af])
    have sm:=(Sm.refl u3).drew
    have HV10:=hJ3 (K4.out.1.below (sm.below _)) (K4.out.2.1.below (sm.below _) K4.out.2.1.lt) (K4.out.2.2.below (sm.below _) K4.out.2.2.lt)
    clear sm
    generalize u3.drew=v9 at HV10 ⊢
    refine' AB 11 (by kernel_rfl) ?_ ?_;rotate_left;(simp only[Aa,Ab,Ac];rfl)
    try simp only[Al,Ad,Ae,Af]
    with_reducible refine Fl rfl (.tmp 38) (.tmp 40) rfl p.g p.u rfl rfl ?_
    try simp only[Al,Ad,Ae,Af]
    refine QK.normal ⟨fun _=> ⟨HV10.out.1.bl.cell 1,HV10.out.2.1.cell 4,HV10.out.2.1.cell 1⟩,?_⟩
    refine' AB 12 (by kernel_rfl) ?_ ?_;rotate_left;(simp only[Aa,Ab,Ac];rfl)
    try simp only[Al,Ad,Ae,Af]
    refine D0 v9 rfl (.tmp 41) rfl (ciC p.g p.u (.slice none 0 0)) rfl rfl ?_
    intro e1 hb hbel hsz
    have HE1:=Ag (show OwnX w0 m0 (a1.heap.size::w.heap.size::xs) e1 bp 97 [(.slice af fn cf),(.slice ac cn cc),(.slice aw wn cw)] (.slice af fn cf) (.slice ac cn cc) (.slice aw wn cw) fs cv ws ex∧Blk e1 (w.heap.size) 31 (opC p tco)∧Blk e1 (a1.heap.size) 37 (AD 0 0 0 (tmC 0 0 0 ⟨#[]⟩ (.slice none 0 0)))∧Blk e1 (v9.heap.size) 49 (ciC p.g p.u (.slice none 0 0))∧((∀ k,(Value.ownBlock (.slice ac cn cc))=some k→k≠v9.heap.size)) from⟨(HV10.out.1.below hbel),HV10.out.2.1.below hbel HV10.out.2.1.lt,HV10.out.2.2.below hbel HV10.out.2.2.lt,hb,fun k hk e=> by have:=HV10.out.1.lt k (FW k (AG.2 hk));omega⟩)
    clear hb hbel hsz
    try simp only[Al,Ad,Ae,Af]
    refine QK.normal ⟨fun _=> ⟨HE1.out.1.bl.cell 1,HE1.out.2.1.cell 4,HE1.out.2.1.cell 1⟩,?_⟩
    refine' AB 13 (by kernel_rfl) ?_ ?_;rotate_left;(simp only[Aa,Ab,Ac];rfl)
    try simp only[Al,Ad,Ae,Af]
    go_wp2_with fail
    refine(HE1.out.1.insC (i:=ix) HE1.out.2.2.2.1 (c:=(⟨p.g,p.u,[],(.slice none 0 0),true⟩:CirV)) ⟨rfl,fun _=> World.ownsRow_nil _ _ _ _,fun e=> by cases e⟩ rfl HE1.out.2.2.2.2 (by rw[HN.out.2.1];omega) HIX.out).mono ?_
    rintro e' e2 ⟨ay,cy,rfl,hown,hc⟩
    rw[HN.out.2.1] at hown ⊢
    have HE2:=hJ3 hown (HE1.out.2.1.keep hc (fun e=> (HE1.out.1.ne (show w.heap.size∈(a1.heap.size::w.heap.size::xs) by simp)).2.2.1 (AG.2 e))) (HE1.out.2.2.1.keep hc (fun e=> (HE1.out.1.ne (show a1.heap.size∈(a1.heap.size::w.heap.size::xs) by simp)).2.2.1 (AG.2 e)))
    clear hown hc
    go_wp2_with fail
    refine QK.normal ⟨fun _=> ⟨HE2.out.1.bl.cell 1,HE2.out.2.1.cell 4,HE2.out.2.1.cell 1⟩,?_⟩
    refine AL (by kernel_rfl) AE (fuel:=3) (fun _=> ⟨HE2.out.1.bl.cell 1,HE2.out.2.1.cell 4,HE2.out.2.1.cell 1⟩) 14 (by kernel_rfl) ?_
    refine' AH.run ?_ ?_ ?_ ?_;rotate_left 2;(simp only[Aa,Ab,Ac];rfl);rfl;(rintro w' -;go_simp;with_reducible rfl);simp only[Al,Ad,Ae,Af]
    refine AL (by kernel_rfl) AE (fuel:=2) (fun _=> ⟨HE2.out.1.bl.cell 1,HE2.out.2.1.cell 4,HE2.out.2.1.cell 1⟩) 15 (by kernel_rfl) ?_
    refine' AH.run ?_ ?_ ?_ ?_;rotate_left 2;(simp only[Aa,Ab,Ac];rfl);rfl;(rintro w' -;go_simp;with_reducible rfl);simp only[Al,Ad,Ae,Af]
    refine AL (by kernel_rfl) AE (fuel:=1) (fun _=> ⟨HE2.out.1.bl.cell 1,HE2.out.2.1.cell 4,HE2.out.2.1.cell 1⟩) 16 (by kernel_rfl) ?_
    refine' AH.run ?_ ?_ ?_ ?_;rotate_left 2;(simp only[Aa,Ab,Ac];rfl);rfl;(rintro w' -;go_simp;with_reducible rfl);simp only[Al,Ad,Ae,Af]
    refine' AB 17 (by kernel_rfl) ?_ ?_;rotate_left;(simp only[Aa,Ab,Ac];rfl)
    try simp only[Al,Ad,Ae,Af]
    refine AK e2 rfl 23 (.tmp 46) (.tmp 43) rfl bp 1 97 _ HE2.out.1.bl rfl (.slice ay (cn+1) cy) rfl (by simp) Tryz.sizeSc1 rfl rfl ?_
    intro e3 hb hc hs
    have HE3:=Ag (show OwnX w0 m0 (a1.heap.size::w.heap.size::xs) e3 bp 97 [(.slice af fn cf),(.slice ay (cn+1) cy),(.slice aw wn cw)] (.slice af fn cf) (.slice ay (cn+1) cy) (.slice aw wn cw) fs (BY cv ix (⟨p.g,p.u,[],(.slice none 0 0),true⟩:CirV)) ws ex∧Blk e3 (w.heap.size) 31 (opC p tco)∧Blk e3 (a1.heap.size) 37 (AD 0 0 0 (tmC 0 0 0 ⟨#[]⟩ (.slice none 0 0))) from⟨HE2.out.1.setB hc hb,HE2.out.2.1.keep hc (fun e=> (HE2.out.1.ne (show w.heap.size∈(a1.heap.size::w.heap.size::xs) by simp)).1 e),HE2.out.2.2.keep hc (fun e=> (HE2.out.1.ne (show a1.heap.size∈(a1.heap.size::w.heap.size::xs) by simp)).1 e)⟩)
    clear hb hc hs
    refine QK.normal ⟨fun h=> absurd h (by decide),?_⟩
    refine Bc (by kernel_rfl) ?_ _
    refine NoPanic.normal ?_
    have HX:=Ag (show SR=(⟨fs,BY (cv.map CirV.m) ix ⟨p.g,p.u,[]⟩,ws⟩,A3 0) from by
     rw[←HSR.out]
     unfold Dn
     rw[if_neg (by omega),HSK.out,if_neg (by simp)])
    go_wp2_with (first
  | (with_reducible refine Bb rfl rfl ?_)
  | ((with_reducible refine Ao e3 rfl 37 (.tmp 4) (.tmp 47) rfl (a1.heap.size) 37 (AD 0 0 0 (tmC 0 0 0 ⟨#[]⟩ (.slice none 0 0))) (AD 0 0 0 (tmC 0 0 0 ⟨#[]⟩ (.slice none 0 0))) HE3.out.2.2 rfl rfl rfl (Ax rfl) (AN (AS _ _ _ _ _ _ _)) ?_);intro z9 hb hc hs;have HZ:=Ag (Ai (HE3.out.1.setX (show a1.heap.size∈_ by simp) HSZ.out hc) hb);clear hb hc hs))
    refine bodyPost_ret (AC Tryz.results78 _ _ (a1.heap.size) _ _ rfl HZ.out.2 _ Tryz.underlying37 rfl (Ax rfl)) rfl ?_
    rw[HX.out]
    exact⟨_,_,_,_,(BY cv ix (⟨p.g,p.u,[],(.slice none 0 0),true⟩:CirV)),rfl,(KV _ _ _ _),(fun c hc=> (KW.1 hc).elim (fun e=> by rw[e]) (HALL.out c)),((HZ.out.1).keepoff (fun k hk=> by simp[hk])).exadd (Bo _ _)⟩
   ·skip
    have HX:=Ag (show SR=((⟨fs,cv.map CirV.m,ws⟩:IdM),A3 5) from by rw[←HSR.out];unfold Dn;rw[if_neg (by omega),HSK.out,if_pos rfl])
    go_wp2_with fail
    refine(Be (5) u3).mono ?_
    rintro e' u11 ⟨rfl,hb⟩
    have K12:=hJ3 (K4.out.1.below hb) (K4.out.2.1.below hb K4.out.2.1.lt) (K4.out.2.2.below hb K4.out.2.2.lt)
    clear hb
    go_wp2_with (first
  | ((with_reducible refine Ao u11 rfl 37 (.tmp 4) (.tmp 29) rfl (a1.heap.size) 37 (AD 0 0 0 (tmC 0 0 0 ⟨#[]⟩ (.slice none 0 0))) (AD (5) 0 0 (tmC 0 0 0 ⟨#[]⟩ (.slice none 0 0))) K12.out.2.2 rfl rfl rfl (Ax rfl) (AN (AS _ _ _ _ _ _ _)) ?_);intro z9 hb hc hs;have HZ:=Ag (Ai (K12.out.1.setX (show a1.heap.size∈_ by simp) HSZ.out hc) hb);clear hb hc hs))
    refine bodyPost_ret (AC Tryz.results78 _ _ (a1.heap.size) _ _ rfl HZ.out.2 _ Tryz.underlying37 rfl (Ax rfl)) rfl ?_
    rw[HX.out]
    exact⟨_,_,_,_,cv,rfl,rfl,HALL.out,((HZ.out.1).keepoff (fun k hk=> by simp[hk])).exadd (Bo _ _)⟩
section
variable {w0 w w':World} {m0 xs:List Nat} {bp:Nat} {bt:TypeId} {cells cells':List Value} {vf vc vw vf' vc' vw':Value} {fs fs':List FileM} {cv cv':List CirV} {ws ws':List WrM} {ex ex':List (List Value × Tm)}
theorem OwnX.leave2 (h:OwnX w0 m0 xs w bp bt cells vf vc vw fs cv ws ex) (h':OwnX w (msL bp vf vc vw cv) xs w' bp bt cells' vf' vc' vw' fs' cv' ws' ex'):OwnX w0 m0 xs w' bp bt cells' vf' vc' vw' fs' cv' ws' ex':=by
 refine⟨⟨h'.ch.os.trans h.ch.os,h'.ch.tape.trans h.ch.tape,h'.ch.output.trans h.ch.output,Aj h.ch.size h'.ch.size,fun k hk hn=> ?_⟩,h'.nd,fun k hk=> ?_,h'.ax,h'.bl,h'.rf,h'.rc,h'.rw,h'.ex⟩
 ·rw[h'.ch.block k (Ak hk h.ch.size) (fun hm=> by
   rcases h.sub k hm with h1|h1
   ·exact hn h1
   ·omega)]
  exact h.ch.block k hk hn
 ·rcases h'.sub k hk with h1|h1
  ·exact h.sub k h1
  ·exact .inr (Aj h.ch.size h1)
end
theorem KX (p:OpM) (tco:List Value) {w0 w:World} {m0 xs:List Nat} {bp:Nat} {vf vc vw:Value} {fs:List FileM} {cv:List CirV} {ws:List WrM} {ex:List (List Value × Tm)}
  (h:OwnX w0 m0 xs w bp 97 [vf,vc,vw] vf vc vw fs cv ws ex) (hb:(tco,p.b)∈ex) (hk:ChkP (⟨fs,cv.map CirV.m,ws⟩:IdM)) (ho:opB p=true) (hall:∀ c∈cv,c.own=true):
  Calls Tryz.prog 50 #[.pointer (some ⟨bp,0,none⟩),.agg (opC p tco).toArray] w (G6 w0 m0 xs bp 97 ex (Bp (⟨fs,cv.map CirV.m,ws⟩:IdM) p)):=by
 obtain⟨af,cf,rfl,hf1,hf2⟩:=h.rf.shape
 obtain⟨ac,cc,rfl,hc1,hc2⟩:=h.rc.shape
 obtain⟨aw,cw,rfl,hw1,hw2⟩:=h.rw.shape
 obtain⟨fn,hfn⟩:∃ n,fs.length=n:=⟨_,rfl⟩
 obtain⟨cn,hcn⟩:∃ n,cv.length=n:=⟨_,rfl⟩
 obtain⟨wn,hwn⟩:∃ n,ws.length=n:=⟨_,rfl⟩
 have HN:=Ag (Ai hfn (Ai hcn hwn))
 have hfl:fn≤6:=by have:=hk.fl;simp only at this;omega
 have hcl:cn≤3:=by have:=hk.cl;simp only[List.length_map] at this;omega
 have hwl:wn≤400:=by have:=hk.wl;simp only at this;omega
 rw[hfn,hcn,hwn] at h
 have HOWN:=Ag h
 have HB:=Ag hb
 have HK:=Ag hk
 have HO:=Ag ho
 have HALL:=Ag hall
 have HTL:=Ag (h.ex _ hb).len
 obtain⟨SR,hSR⟩:∃ r,Bp (⟨fs,cv.map CirV.m,ws⟩:IdM) p=r:=⟨_,rfl⟩
 have HSR:=Ag hSR
 rw[hSR]
 clear h hb hk ho hall hfn hcn hwn hSR hf1 hf2 hc1 hc2 hw1 hw2
 go_enter Tryz.func50,Tryz.ntmps50
 go_upto_region 1 with(first
  | ((with_reducible refine Au w rfl 31 (.tmp 1) rfl (opC p tco) rfl ?_);intro a1 hb hbel hsz;have H1:=hJ2 (HOWN.out.rsv hbel (Ah _) hb.lt) hb;clear hb hbel hsz)
  | ((with_reducible refine Av a1 rfl 37 rfl (AD 0 0 0 (tmC 0 0 0 ⟨#[]⟩ (.slice none 0 0))) Tryz.zeroRs ?_);intro a2 hb hbel hsz;have H2:=hJ3 (H1.out.1.rsv hbel (Ah _) hb.lt) (H1.out.2.below hbel H1.out.2.lt) hb;have HSZ:=Ag (show w0.heap.size≤a1.heap.size from H1.out.1.ch.size);clear hb hbel hsz))
 try simp only[Al,Ad,Ae,Af]
 have HG:=hJ2 H1.out.2.lt H2.out.2.2.lt
 have hkr:p.k=1∨p.k=2∨p.k=3∨p.k=4∨p.k=5∨p.k=6∨p.k=7∨p.k=8∨p.k=9∨p.k=10:=by
  have h:=HO.out
  unfold opB at h
  simp only[Bool.and_eq_true,decide_eq_true_eq] at h
  omega
 rcases hkr with hk|hk|hk|hk|hk|hk|hk|hk|hk|hk
 ·skip
  have HK2:=Ag hk
  have HC0:=Ag (show(opC p tco)[0]?=some (.int .i64 1) from by show some (Value.int .i64 p.k)=_;rw[hk])
  have HX:=Ag (show Cg (⟨fs,cv.map CirV.m,ws⟩:IdM) p=SR from by rw[←HSR.out];unfold Bp;simp[hk])
  clear hk
  have c0:a2.cell? ⟨w.heap.size,0,none⟩=some (.int .i64 1):=(H2.out.2.1.cell 0).trans HC0.out
  go_wp2_with (first
  | (with_reducible refine Ap rfl 31 (.tmp 3) rfl (w.heap.size) 0 rfl (opC p tco) _ (As H2.out.2.1) Tryz.underlying31 rfl (Bs HTL.out) ?_))
  clear c0
  have HCC:=Ag (Jl p tco H2.out.1.enter HB.out HK.out HO.out HALL.out (by rw[HK2.out];omega))
  rw[HX.out] at HCC
  refine HCC.out.mono ?_
  rintro e' b1 ⟨rtc,vf',vc',vw',cv',rfl,hm,hall',hown⟩
  have HB1:=Ag (show OwnX w0 m0 (a1.heap.size::w.heap.size::xs) b1 bp 97 [vf',vc',vw'] vf' vc' vw' SR.1.fs cv' SR.1.ws ((rtc,SR.2.b)::ex)∧Blk b1 a1.heap.size 37 (AD 0 0 0 (tmC 0 0 0 ⟨#[]⟩ (.slice none 0 0))) from⟨H2.out.1.leave2 hown,H2.out.2.2.keep hown.ch (fun e=> (H2.out.1.ax (a1.heap.size) (by simp)).1 e)⟩)
  have HR:=Ag (HB1.out.1.ex _ List.mem_cons_self)
  have HRL:=Ag HR.out.len
  have HRO:=Ag HR.out.one
  have HRZ:=Ag (show(AD SR.2.e SR.2.v SR.2.u rtc).length=(AD 0 0 0 (tmC 0 0 0 ⟨#[]⟩ (.slice none 0 0))).length from by simp[AD,HRL.out,tmC])
  have HM:=Ag (Ai hm hall')
  clear hm hall' hown
  go_wp2_with ((with_reducible refine Ao b1 rfl 37 (.tmp 4) (.tmp 30) rfl (a1.heap.size) 37 (AD 0 0 0 (tmC 0 0 0 ⟨#[]⟩ (.slice none 0 0))) (AD SR.2.e SR.2.v SR.2.u rtc) HB1.out.2 rfl rfl HRZ.out (Ax HRL.out) (AN HRO.out) ?_);intro z9 hb hc hs;have HZ:=Ag (Ai (HB1.out.1.setX (show a1.heap.size∈(a1.heap.size::w.heap.size::xs) by simp) HSZ.out hc) hb);clear hb hc hs)
  refine bodyPost_ret (AC Tryz.results50 _ _ (a1.heap.size) _ _ rfl HZ.out.2 _ Tryz.underlying37 rfl (Ax HRL.out)) rfl ?_
  exact⟨_,_,_,_,cv',rfl,HM.out.1,HM.out.2,HZ.out.1.keepoff (fun k hk=> by simp[hk])⟩
 ·skip
  have HK2:=Ag hk
  have HC0:=Ag (show(opC p tco)[0]?=some (.int .i64 2) from by show some (Value.int .i64 p.k)=_;rw[hk])
  have HX:=Ag (show Bt (⟨fs,cv.map CirV.m,ws⟩:IdM) p=SR from by rw[←HSR.out];unfold Bp;simp[hk])
  clear hk
  have c0:a2.cell? ⟨w.heap.size,0,none⟩=some (.int .i64 2):=(H2.out.2.1.cell 0).trans HC0.out
  go_wp2_with (first
  | (with_reducible refine Ap rfl 31 (.tmp 3) rfl (w.heap.size) 0 rfl (opC p tco) _ (As H2.out.2.1) Tryz.underlying31 rfl (Bs HTL.out) ?_))
  clear c0
  have HCC:=Ag (FC p tco H2.out.1.enter HB.out HK.out HO.out HALL.out (.inl HK2.out))
  rw[HX.out] at HCC
  refine HCC.out.mono ?_
  rintro e' b1 ⟨rtc,vf',vc',vw',cv',rfl,hm,hall',hown⟩
  have HB1:=Ag (show OwnX w0 m0 (a1.heap.size::w.heap.size::xs) b1 bp 97 [vf',vc',vw'] vf' vc' vw' SR.1.fs cv' SR.1.ws ((rtc,SR.2.b)::ex)∧Blk b1 a1.heap.size 37 (AD 0 0 0 (tmC 0 0 0 ⟨#[]⟩ (.slice none 0 0))) from⟨H2.out.1.leave2 hown,H2.out.2.2.keep hown.ch (fun e=> (H2.out.1.ax (a1.heap.size) (by simp)).1 e)⟩)
  have HR:=Ag (HB1.out.1.ex _ List.mem_cons_self)
  have HRL:=Ag HR.out.len
  have HRO:=Ag HR.out.one
  have HRZ:=Ag (show(AD SR.2.e SR.2.v SR.2.u rtc).length=(AD 0 0 0 (tmC 0 0 0 ⟨#[]⟩ (.slice none 0 0))).length from by simp[AD,HRL.out,tmC])
  have HM:=Ag (Ai hm hall')
  clear hm hall' hown
  go_wp2_with ((with_reducible refine Ao b1 rfl 37 (.tmp 4) (.tmp 30) rfl (a1.heap.size) 37 (AD 0 0 0 (tmC 0 0 0 ⟨#[]⟩ (.slice none 0 0))) (AD SR.2.e SR.2.v SR.2.u rtc) HB1.out.2 rfl rfl HRZ.out (Ax HRL.out) (AN HRO.out) ?_);intro z9 hb hc hs;have HZ:=Ag (Ai (HB1.out.1.setX (show a1.heap.size∈(a1.heap.size::w.heap.size::xs) by simp) HSZ.out hc) hb);clear hb hc hs)
  refine bodyPost_ret (AC Tryz.results50 _ _ (a1.heap.size) _ _ rfl HZ.out.2 _ Tryz.underlying37 rfl (Ax HRL.out)) rfl ?_
  exact⟨_,_,_,_,cv',rfl,HM.out.1,HM.out.2,HZ.out.1.keepoff (fun k hk=> by simp[hk])⟩
 ·skip
  have HK2:=Ag hk
  have HC0:=Ag (show(opC p tco)[0]?=some (.int .i64 3) from by show some (Value.int .i64 p.k)=_;rw[hk])
  have HX:=Ag (show Bt (⟨fs,cv.map CirV.m,ws⟩:IdM) p=SR from by rw[←HSR.out];unfold Bp;simp[hk])
  clear hk
  have c0:a2.cell? ⟨w.heap.size,0,none⟩=some (.int .i64 3):=(H2.out.2.1.cell 0).trans HC0.out
  go_wp2_with (first
  | (with_reducible refine Ap rfl 31 (.tmp 3) rfl (w.heap.size) 0 rfl (opC p tco) _ (As H2.out.2.1) Tryz.underlying31 rfl (Bs HTL.out) ?_))
  clear c0
  have HCC:=Ag (FC p tco H2.out.1.enter HB.out HK.out HO.out HALL.out (.inr HK2.out))
  rw[HX.out] at HCC
  refine HCC.out.mono ?_
  rintro e' b1 ⟨rtc,vf',vc',vw',cv',rfl,hm,hall',hown⟩
  have HB1:=Ag (show OwnX w0 m0 (a1.heap.size::w.heap.size::xs) b1 bp 97 [vf',vc',vw'] vf' vc' vw' SR.1.fs cv' SR.1.ws ((rtc,SR.2.b)::ex)∧Blk b1 a1.heap.size 37 (AD 0 0 0 (tmC 0 0 0 ⟨#[]⟩ (.slice none 0 0))) from⟨H2.out.1.leave2 hown,H2.out.2.2.keep hown.ch (fun e=> (H2.out.1.ax (a1.heap.size) (by simp)).1 e)⟩)
  have HR:=Ag (HB1.out.1.ex _ List.mem_cons_self)
  have HRL:=Ag HR.out.len
  have HRO:=Ag HR.out.one
  have HRZ:=Ag (show(AD SR.2.e SR.2.v SR.2.u rtc).length=(AD 0 0 0 (tmC 0 0 0 ⟨#[]⟩ (.slice none 0 0))).length from by simp[AD,HRL.out,tmC])
  have HM:=Ag (Ai hm hall')
  clear hm hall' hown
  go_wp2_with ((with_reducible refine Ao b1 rfl 37 (.tmp 4) (.tmp 30) rfl (a1.heap.size) 37 (AD 0 0 0 (tmC 0 0 0 ⟨#[]⟩ (.slice none 0 0))) (AD SR.2.e SR.2.v SR.2.u rtc) HB1.out.2 rfl rfl HRZ.out (Ax HRL.out) (AN HRO.out) ?_);intro z9 hb hc hs;have HZ:=Ag (Ai (HB1.out.1.setX (show a1.heap.size∈(a1.heap.size::w.heap.size::xs) by simp) HSZ.out hc) hb);clear hb hc hs)
  refine bodyPost_ret (AC Tryz.results50 _ _ (a1.heap.size) _ _ rfl HZ.out.2 _ Tryz.underlying37 rfl (Ax HRL.out)) rfl ?_
  exact⟨_,_,_,_,cv',rfl,HM.out.1,HM.out.2,HZ.out.1.keepoff (fun k hk=> by simp[hk])⟩
 ·skip
  have HK2:=Ag hk
  have HC0:=Ag (show(opC p tco)[0]?=some (.int .i64 4) from by show some (Value.int .i64 p.k)=_;rw[hk])
  have HX:=Ag (show Bf (⟨fs,cv.map CirV.m,ws⟩:IdM) p=SR from by rw[←HSR.out];unfold Bp;simp[hk])
  clear hk
  have c0:a2.cell? ⟨w.heap.size,0,none⟩=some (.int .i64 4):=(H2.out.2.1.cell 0).trans HC0.out
  go_wp2_with (first
  | (with_reducible refine Ap rfl 31 (.tmp 3) rfl (w.heap.size) 0 rfl (opC p tco) _ (As H2.out.2.1) Tryz.underlying31 rfl (Bs HTL.out) ?_))
  clear c0
  have HCC:=Ag (Dv p tco H2.out.1.enter HB.out HK.out HO.out HALL.out (.inl HK2.out))
  rw[HX.out] at HCC
  refine HCC.out.mono ?_
  rintro e' b1 ⟨rtc,vf',vc',vw',cv',rfl,hm,hall',hown⟩
  have HB1:=Ag (show OwnX w0 m0 (a1.heap.size::w.heap.size::xs) b1 bp 97 [vf',vc',vw'] vf' vc' vw' SR.1.fs cv' SR.1.ws ((rtc,SR.2.b)::ex)∧Blk b1 a1.heap.size 37 (AD 0 0 0 (tmC 0 0 0 ⟨#[]⟩ (.slice none 0 0))) from⟨H2.out.1.leave2 hown,H2.out.2.2.keep hown.ch (fun e=> (H2.out.1.ax (a1.heap.size) (by simp)).1 e)⟩)
  have HR:=Ag (HB1.out.1.ex _ List.mem_cons_self)
  have HRL:=Ag HR.out.len
  have HRO:=Ag HR.out.one
  have HRZ:=Ag (show(AD SR.2.e SR.2.v SR.2.u rtc).length=(AD 0 0 0 (tmC 0 0 0 ⟨#[]⟩ (.slice none 0 0))).length from by simp[AD,HRL.out,tmC])
  have HM:=Ag (Ai hm hall')
  clear hm hall' hown
  go_wp2_with ((with_reducible refine Ao b1 rfl 37 (.tmp 4) (.tmp 30) rfl (a1.heap.size) 37 (AD 0 0 0 (tmC 0 0 0 ⟨#[]⟩ (.slice none 0 0))) (AD SR.2.e SR.2.v SR.2.u rtc) HB1.out.2 rfl rfl HRZ.out (Ax HRL.out) (AN HRO.out) ?_);intro z9 hb hc hs;have HZ:=Ag (Ai (HB1.out.1.setX (show a1.heap.size∈(a1.heap.size::w.heap.size::xs) by simp) HSZ.out hc) hb);clear hb hc hs)
  refine bodyPost_ret (AC Tryz.results50 _ _ (a1.heap.size) _ _ rfl HZ.out.2 _ Tryz.underlying37 rfl (Ax HRL.out)) rfl ?_
  exact⟨_,_,_,_,cv',rfl,HM.out.1,HM.out.2,HZ.out.1.keepoff (fun k hk=> by simp[hk])⟩
 ·skip
  have HK2:=Ag hk
  have HC0:=Ag (show(opC p tco)[0]?=some (.int .i64 5) from by show some (Value.int .i64 p.k)=_;rw[hk])
  have HX:=Ag (show Bf (⟨fs,cv.map CirV.m,ws⟩:IdM) p=SR from by rw[←HSR.out];unfold Bp;simp[hk])
  clear hk
  have c0:a2.cell? ⟨w.heap.size,0,none⟩=some (.int .i64 5):=(H2.out.2.1.cell 0).trans HC0.out
  go_wp2_with (first
  | (with_reducible refine Ap rfl 31 (.tmp 3) rfl (w.heap.size) 0 rfl (opC p tco) _ (As H2.out.2.1) Tryz.underlying31 rfl (Bs HTL.out) ?_))
  clear c0
  have HCC:=Ag (Dv p tco H2.out.1.enter HB.out HK.out HO.out HALL.out (.inr (.inl HK2.out)))
  rw[HX.out] at HCC
  refine HCC.out.mono ?_
  rintro e' b1 ⟨rtc,vf',vc',vw',cv',rfl,hm,hall',hown⟩
  have HB1:=Ag (show OwnX w0 m0 (a1.heap.size::w.heap.size::xs) b1 bp 97 [vf',vc',vw'] vf' vc' vw' SR.1.fs cv' SR.1.ws ((rtc,SR.2.b)::ex)∧Blk b1 a1.heap.size 37 (AD 0 0 0 (tmC 0 0 0 ⟨#[]⟩ (.slice none 0 0))) from⟨H2.out.1.leave2 hown,H2.out.2.2.keep hown.ch (fun e=> (H2.out.1.ax (a1.heap.size) (by simp)).1 e)⟩)
  have HR:=Ag (HB1.out.1.ex _ List.mem_cons_self)
  have HRL:=Ag HR.out.len
  have HRO:=Ag HR.out.one
  have HRZ:=Ag (show(AD SR.2.e SR.2.v SR.2.u rtc).length=(AD 0 0 0 (tmC 0 0 0 ⟨#[]⟩ (.slice none 0 0))).length from by simp[AD,HRL.out,tmC])
  have HM:=Ag (Ai hm hall')
  clear hm hall' hown
  go_wp2_with ((with_reducible refine Ao b1 rfl 37 (.tmp 4) (.tmp 30) rfl (a1.heap.size) 37 (AD 0 0 0 (tmC 0 0 0 ⟨#[]⟩ (.slice none 0 0))) (AD SR.2.e SR.2.v SR.2.u rtc) HB1.out.2 rfl rfl HRZ.out (Ax HRL.out) (AN HRO.out) ?_);intro z9 hb hc hs;have HZ:=Ag (Ai (HB1.out.1.setX (show a1.heap.size∈(a1.heap.size::w.heap.size::xs) by simp) HSZ.out hc) hb);clear hb hc hs)
  refine bodyPost_ret (AC Tryz.results50 _ _ (a1.heap.size) _ _ rfl HZ.out.2 _ Tryz.underlying37 rfl (Ax HRL.out)) rfl ?_
  exact⟨_,_,_,_,cv',rfl,HM.out.1,HM.out.2,HZ.out.1.keepoff (fun k hk=> by simp[hk])⟩
 ·skip
  have HK2:=Ag hk
  have HC0:=Ag (show(opC p tco)[0]?=some (.int .i64 6) from by show some (Value.int .i64 p.k)=_;rw[hk])
  have HX:=Ag (show Bf (⟨fs,cv.map CirV.m,ws⟩:IdM) p=SR from by rw[←HSR.out];unfold Bp;simp[hk])
  clear hk
  have c0:a2.cell? ⟨w.heap.size,0,none⟩=some (.int .i64 6):=(H2.out.2.1.cell 0).trans HC0.out
  go_wp2_with (first
  | (with_reducible refine Ap rfl 31 (.tmp 3) rfl (w.heap.size) 0 rfl (opC p tco) _ (As H2.out.2.1) Tryz.underlying31 rfl (Bs HTL.out) ?_))
  clear c0
  have HCC:=Ag (Dv p tco H2.out.1.enter HB.out HK.out HO.out HALL.out (.inr (.inr (.inl HK2.out))))
  rw[HX.out] at HCC
  refine HCC.out.mono ?_
  rintro e' b1 ⟨rtc,vf',vc',vw',cv',rfl,hm,hall',hown⟩
  have HB1:=Ag (show OwnX w0 m0 (a1.heap.size::w.heap.size::xs) b1 bp 97 [vf',vc',vw'] vf' vc' vw' SR.1.fs cv' SR.1.ws ((rtc,SR.2.b)::ex)∧Blk b1 a1.heap.size 37 (AD 0 0 0 (tmC 0 0 0 ⟨#[]⟩ (.slice none 0 0))) from⟨H2.out.1.leave2 hown,H2.out.2.2.keep hown.ch (fun e=> (H2.out.1.ax (a1.heap.size) (by simp)).1 e)⟩)
  have HR:=Ag (HB1.out.1.ex _ List.mem_cons_self)
  have HRL:=Ag HR.out.len
  have HRO:=Ag HR.out.one
  have HRZ:=Ag (show(AD SR.2.e SR.2.v SR.2.u rtc).length=(AD 0 0 0 (tmC 0 0 0 ⟨#[]⟩ (.slice none 0 0))).length from by simp[AD,HRL.out,tmC])
  have HM:=Ag (Ai hm hall')
  clear hm hall' hown
  go_wp2_with ((with_reducible refine Ao b1 rfl 37 (.tmp 4) (.tmp 30) rfl (a1.heap.size) 37 (AD 0 0 0 (tmC 0 0 0 ⟨#[]⟩ (.slice none 0 0))) (AD SR.2.e SR.2.v SR.2.u rtc) HB1.out.2 rfl rfl HRZ.out (Ax HRL.out) (AN HRO.out) ?_);intro z9 hb hc hs;have HZ:=Ag (Ai (HB1.out.1.setX (show a1.heap.size∈(a1.heap.size::w.heap.size::xs) by simp) HSZ.out hc) hb);clear hb hc hs)
  refine bodyPost_ret (AC Tryz.results50 _ _ (a1.heap.size) _ _ rfl HZ.out.2 _ Tryz.underlying37 rfl (Ax HRL.out)) rfl ?_
  exact⟨_,_,_,_,cv',rfl,HM.out.1,HM.out.2,HZ.out.1.keepoff (fun k hk=> by simp[hk])⟩
 ·skip
  have HK2:=Ag hk
  have HC0:=Ag (show(opC p tco)[0]?=some (.int .i64 7) from by show some (Value.int .i64 p.k)=_;rw[hk])
  have HX:=Ag (show Bf (⟨fs,cv.map CirV.m,ws⟩:IdM) p=SR from by rw[←HSR.out];unfold Bp;simp[hk])
  clear hk
  have c0:a2.cell? ⟨w.heap.size,0,none⟩=some (.int .i64 7):=(H2.out.2.1.cell 0).trans HC0.out
  go_wp2_with (first
  | (with_reducible refine Ap rfl 31 (.tmp 3) rfl (w.heap.size) 0 rfl (opC p tco) _ (As H2.out.2.1) Tryz.underlying31 rfl (Bs HTL.out) ?_))
  clear c0
  have HCC:=Ag (Dv p tco H2.out.1.enter HB.out HK.out HO.out HALL.out (.inr (.inr (.inr HK2.out))))
  rw[HX.out] at HCC
  refine HCC.out.mono ?_
  rintro e' b1 ⟨rtc,vf',vc',vw',cv',rfl,hm,hall',hown⟩
  have HB1:=Ag (show OwnX w0 m0 (a1.heap.size::w.heap.size::xs) b1 bp 97 [vf',vc',vw'] vf' vc' vw' SR.1.fs cv' SR.1.ws ((rtc,SR.2.b)::ex)∧Blk b1 a1.heap.size 37 (AD 0 0 0 (tmC 0 0 0 ⟨#[]⟩ (.slice none 0 0))) from⟨H2.out.1.leave2 hown,H2.out.2.2.keep hown.ch (fun e=> (H2.out.1.ax (a1.heap.size) (by simp)).1 e)⟩)
  have HR:=Ag (HB1.out.1.ex _ List.mem_cons_self)
  have HRL:=Ag HR.out.len
  have HRO:=Ag HR.out.one
  have HRZ:=Ag (show(AD SR.2.e SR.2.v SR.2.u rtc).length=(AD 0 0 0 (tmC 0 0 0 ⟨#[]⟩ (.slice none 0 0))).length from by simp[AD,HRL.out,tmC])
  have HM:=Ag (Ai hm hall')
  clear hm hall' hown
  go_wp2_with ((with_reducible refine Ao b1 rfl 37 (.tmp 4) (.tmp 30) rfl (a1.heap.size) 37 (AD 0 0 0 (tmC 0 0 0 ⟨#[]⟩ (.slice none 0 0))) (AD SR.2.e SR.2.v SR.2.u rtc) HB1.out.2 rfl rfl HRZ.out (Ax HRL.out) (AN HRO.out) ?_);intro z9 hb hc hs;have HZ:=Ag (Ai (HB1.out.1.setX (show a1.heap.size∈(a1.heap.size::w.heap.size::xs) by simp) HSZ.out hc) hb);clear hb hc hs)
  refine bodyPost_ret (AC Tryz.results50 _ _ (a1.heap.size) _ _ rfl HZ.out.2 _ Tryz.underlying37 rfl (Ax HRL.out)) rfl ?_
  exact⟨_,_,_,_,cv',rfl,HM.out.1,HM.out.2,HZ.out.1.keepoff (fun k hk=> by simp[hk])⟩
 ·skip
  have HK2:=Ag hk
  have HC0:=Ag (show(opC p tco)[0]?=some (.int .i64 8) from by show some (Value.int .i64 p.k)=_;rw[hk])
  have HX:=Ag (show Dn (⟨fs,cv.map CirV.m,ws⟩:IdM) p=SR from by rw[←HSR.out];unfold Bp;simp[hk])
  clear hk
  have c0:a2.cell? ⟨w.heap.size,0,none⟩=some (.int .i64 8):=(H2.out.2.1.cell 0).trans HC0.out
  go_wp2_with (first
  | (with_reducible refine Ap rfl 31 (.tmp 3) rfl (w.heap.size) 0 rfl (opC p tco) _ (As H2.out.2.1) Tryz.underlying31 rfl (Bs HTL.out) ?_))
  clear c0
  have HCC:=Ag (Kj p tco H2.out.1.enter HB.out HK.out HO.out HALL.out)
  rw[HX.out] at HCC
  refine HCC.out.mono ?_
  rintro e' b1 ⟨rtc,vf',vc',vw',cv',rfl,hm,hall',hown⟩
  have HB1:=Ag (show OwnX w0 m0 (a1.heap.size::w.heap.size::xs) b1 bp 97 [vf',vc',vw'] vf' vc' vw' SR.1.fs cv' SR.1.ws ((rtc,SR.2.b)::ex)∧Blk b1 a1.heap.size 37 (AD 0 0 0 (tmC 0 0 0 ⟨#[]⟩ (.slice none 0 0))) from⟨H2.out.1.leave2 hown,H2.out.2.2.keep hown.ch (fun e=> (H2.out.1.ax (a1.heap.size) (by simp)).1 e)⟩)
  have HR:=Ag (HB1.out.1.ex _ List.mem_cons_self)
  have HRL:=Ag HR.out.len
  have HRO:=Ag HR.out.one
  have HRZ:=Ag (show(AD SR.2.e SR.2.v SR.2.u rtc).length=(AD 0 0 0 (tmC 0 0 0 ⟨#[]⟩ (.slice none 0 0))).length from by simp[AD,HRL.out,tmC])
  have HM:=Ag (Ai hm hall')
  clear hm hall' hown
  go_wp2_with ((with_reducible refine Ao b1 rfl 37 (.tmp 4) (.tmp 30) rfl (a1.heap.size) 37 (AD 0 0 0 (tmC 0 0 0 ⟨#[]⟩ (.slice none 0 0))) (AD SR.2.e SR.2.v SR.2.u rtc) HB1.out.2 rfl rfl HRZ.out (Ax HRL.out) (AN HRO.out) ?_);intro z9 hb hc hs;have HZ:=Ag (Ai (HB1.out.1.setX (show a1.heap.size∈(a1.heap.size::w.heap.size::xs) by simp) HSZ.out hc) hb);clear hb hc hs)
  refine bodyPost_ret (AC Tryz.results50 _ _ (a1.heap.size) _ _ rfl HZ.out.2 _ Tryz.underlying37 rfl (Ax HRL.out)) rfl ?_
  exact⟨_,_,_,_,cv',rfl,HM.out.1,HM.out.2,HZ.out.1.keepoff (fun k hk=> by simp[hk])⟩
 ·skip
  have HK2:=Ag hk
  have HC0:=Ag (show(opC p tco)[0]?=some (.int .i64 9) from by show some (Value.int .i64 p.k)=_;rw[hk])
  have HX:=Ag (show BZ (⟨fs,cv.map CirV.m,ws⟩:IdM) p=SR from by rw[←HSR.out];unfold Bp;simp[hk])
  clear hk
  have c0:a2.cell? ⟨w.heap.size,0,none⟩=some (.int .i64 9):=(H2.out.2.1.cell 0).trans HC0.out
  go_wp2_with (first
  | (with_reducible refine Ap rfl 31 (.tmp 3) rfl (w.heap.size) 0 rfl (opC p tco) _ (As H2.out.2.1) Tryz.underlying31 rfl (Bs HTL.out) ?_))
  clear c0
  have HCC:=Ag (G9 p tco H2.out.1.enter HB.out HK.out HO.out HALL.out (.inl HK2.out))
  rw[HX.out] at HCC
  refine HCC.out.mono ?_
  rintro e' b1 ⟨rtc,vf',vc',vw',cv',rfl,hm,hall',hown⟩
  have HB1:=Ag (show OwnX w0 m0 (a1.heap.size::w.heap.size::xs) b1 bp 97 [vf',vc',vw'] vf' vc' vw' SR.1.fs cv' SR.1.ws ((rtc,SR.2.b)::ex)∧Blk b1 a1.heap.size 37 (AD 0 0 0 (tmC 0 0 0 ⟨#[]⟩ (.slice none 0 0))) from⟨H2.out.1.leave2 hown,H2.out.2.2.keep hown.ch (fun e=> (H2.out.1.ax (a1.heap.size) (by simp)).1 e)⟩)
  have HR:=Ag (HB1.out.1.ex _ List.mem_cons_self)
  have HRL:=Ag HR.out.len
  have HRO:=Ag HR.out.one
  have HRZ:=Ag (show(AD SR.2.e SR.2.v SR.2.u rtc).length=(AD 0 0 0 (tmC 0 0 0 ⟨#[]⟩ (.slice none 0 0))).length from by simp[AD,HRL.out,tmC])
  have HM:=Ag (Ai hm hall')
  clear hm hall' hown
  go_wp2_with ((with_reducible refine Ao b1 rfl 37 (.tmp 4) (.tmp 30) rfl (a1.heap.size) 37 (AD 0 0 0 (tmC 0 0 0 ⟨#[]⟩ (.slice none 0 0))) (AD SR.2.e SR.2.v SR.2.u rtc) HB1.out.2 rfl rfl HRZ.out (Ax HRL.out) (AN HRO.out) ?_);intro z9 hb hc hs;have HZ:=Ag (Ai (HB1.out.1.setX (show a1.heap.size∈(a1.heap.size::w.heap.size::xs) by simp) HSZ.out hc) hb);clear hb hc hs)
  refine bodyPost_ret (AC Tryz.results50 _ _ (a1.heap.size) _ _ rfl HZ.out.2 _ Tryz.underlying37 rfl (Ax HRL.out)) rfl ?_
  exact⟨_,_,_,_,cv',rfl,HM.out.1,HM.out.2,HZ.out.1.keepoff (fun k hk=> by simp[hk])⟩
 ·skip
  have HK2:=Ag hk
  have HC0:=Ag (show(opC p tco)[0]?=some (.int .i64 10) from by show some (Value.int .i64 p.k)=_;rw[hk])
  have HX:=Ag (show BZ (⟨fs,cv.map CirV.m,ws⟩:IdM) p=SR from by rw[←HSR.out];unfold Bp;simp[hk])
  clear hk
  have c0:a2.cell? ⟨w.heap.size,0,none⟩=some (.int .i64 10):=(H2.out.2.1.cell 0).trans HC0.out
  go_wp2_with (first
  | (with_reducible refine Ap rfl 31 (.tmp 3) rfl (w.heap.size) 0 rfl (opC p tco) _ (As H2.out.2.1) Tryz.underlying31 rfl (Bs HTL.out) ?_))
  clear c0
  have HCC:=Ag (G9 p tco H2.out.1.enter HB.out HK.out HO.out HALL.out (.inr HK2.out))
  rw[HX.out] at HCC
  refine HCC.out.mono ?_
  rintro e' b1 ⟨rtc,vf',vc',vw',cv',rfl,hm,hall',hown⟩
  have HB1:=Ag (show OwnX w0 m0 (a1.heap.size::w.heap.size::xs) b1 bp 97 [vf',vc',vw'] vf' vc' vw' SR.1.fs cv' SR.1.ws ((rtc,SR.2.b)::ex)∧Blk b1 a1.heap.size 37 (AD 0 0 0 (tmC 0 0 0 ⟨#[]⟩ (.slice none 0 0))) from⟨H2.out.1.leave2 hown,H2.out.2.2.keep hown.ch (fun e=> (H2.out.1.ax (a1.heap.size) (by simp)).1 e)⟩)
  have HR:=Ag (HB1.out.1.ex _ List.mem_cons_self)
  have HRL:=Ag HR.out.len
  have HRO:=Ag HR.out.one
  have HRZ:=Ag (show(AD SR.2.e SR.2.v SR.2.u rtc).length=(AD 0 0 0 (tmC 0 0 0 ⟨#[]⟩ (.slice none 0 0))).length from by simp[AD,HRL.out,tmC])
  have HM:=Ag (Ai hm hall')
  clear hm hall' hown
  go_wp2_with ((with_reducible refine Ao b1 rfl 37 (.tmp 4) (.tmp 30) rfl (a1.heap.size) 37 (AD 0 0 0 (tmC 0 0 0 ⟨#[]⟩ (.slice none 0 0))) (AD SR.2.e SR.2.v SR.2.u rtc) HB1.out.2 rfl rfl HRZ.out (Ax HRL.out) (AN HRO.out) ?_);intro z9 hb hc hs;have HZ:=Ag (Ai (HB1.out.1.setX (show a1.heap.size∈(a1.heap.size::w.heap.size::xs) by simp) HSZ.out hc) hb);clear hb hc hs)
  refine bodyPost_ret (AC Tryz.results50 _ _ (a1.heap.size) _ _ rfl HZ.out.2 _ Tryz.underlying37 rfl (Ax HRL.out)) rfl ?_
  exact⟨_,_,_,_,cv',rfl,HM.out.1,HM.out.2,HZ.out.1.keepoff (fun k hk=> by simp[hk])⟩
theorem FD (p:OpM) (tc:List Value) (F:Nat→Prop) (w:World) (ht:TmC F w tc p.b):
  Calls Tryz.prog 49 #[.agg (opC p tc).toArray] w (fun e w'=> e=.returned (.int .i64 (if opB p=true then 0 else 281))∧Below w.heap.size w w'):=by
 have HT:=Ag (Ai ht ht.len)
 obtain⟨R,hR⟩:∃ r,opB p=r:=⟨_,rfl⟩
 have HR:=Ag hR
 rw[hR]
 obtain⟨ans,hans⟩:∃ x:Int,(if R=true then 0 else 281)=x:=⟨_,rfl⟩
 have HANS:=Ag hans
 rw[hans]
 clear hans
 obtain⟨us,hus⟩:∃ b,AX p.u=b:=⟨_,rfl⟩
 have HUS:=Ag hus
 obtain⟨nf,hnf⟩:∃ n,BI p.nm=n:=⟨_,rfl⟩
 have HNF:=Ag hnf
 obtain⟨bd,hbd⟩:∃ b,Dg p.b=b:=⟨_,rfl⟩
 have HBD:=Ag hbd
 have HU1:=Ag (fun (W:World)=> show Calls Tryz.prog 64 #[.int .i64 p.u] W (fun e w'=> e=.returned (.bool us)∧W=w') from by have h:=CJ p.u W;rw[hus] at h;exact h)
 have HN1:=Ag (fun (W:World)=> show Calls Tryz.prog 36 #[.string p.nm] W (fun e w'=> e=.returned (.int .i64 nf)∧Below W.heap.size W w') from by have h:=Ei p.nm W;rw[hnf] at h;exact h)
 have HB1:=Ag (fun (W:World) (hb:Below w.heap.size w W)=> show Calls Tryz.prog 68 #[.agg tc.toArray] W (fun e w'=> e=.returned (.bool bd)∧Below W.heap.size W w') from by have h:=Ij p.b tc F W (ht.below hb);rw[hbd] at h;exact h)
 clear ht hR hus hnf hbd
 go_enter Tryz.func49,Tryz.ntmps49
 go_upto_region 1 with(first
  | ((with_reducible refine Au w rfl 31 (.tmp 0) rfl (opC p tc) rfl ?_);intro a1 hb hbel hsz;have H1:=hJ2 hb hbel;have c0:=hb.cell 0;have c1:=hb.cell 1;have c2:=hb.cell 2;simp only[opC,Ab,Ac] at c0 c1 c2;clear hb hbel hsz))
 try simp only[Al,Ad,Ae,Af]
 by_cases h1:1≤p.k
 ·have h1d:decide (1≤p.k)=true:=decide_eq_true h1
  by_cases h10:p.k≤10
  ·have h10d:decide (p.k≤10)=true:=decide_eq_true h10
   go_wp2_with fail
   refine(HU1.out a1).mono ?_
   rintro e' w' ⟨rfl,rfl⟩
   cases us
   ·skip
    have HX:=Ag (show ans=281 from by
     have h:R=false:=by
      rw[←HR.out]
      unfold opB
      simp[HUS.out]
     rw[←HANS.out,h]
     rfl)
    go_wp2_with fail
    go_ret
    exact⟨by rw[HX.out] <;> rfl,H1.out.2⟩
   ·skip
    by_cases h7:7<p.k
    ·have h7d:decide (7<p.k)=true:=decide_eq_true h7
     have h2:2<p.k:=by omega
     have h2d:decide (2<p.k)=true:=decide_eq_true h2
     have HX:=Ag (show ans=0 from by
      have h:R=true:=by
       rw[←HR.out]
       unfold opB
       simp[HUS.out,h1,h10,h2,h7]
      rw[←HANS.out,h]
      rfl)
     go_wp2_with fail
     go_ret
     exact⟨by rw[HX.out] <;> rfl,H1.out.2⟩
    ·have h7d:decide (7<p.k)=false:=decide_eq_false h7
     go_wp2_with fail
     refine(HN1.out a1).mono ?_
     rintro e' b1 ⟨rfl,hb⟩
     have HB0:=hJ2 (H1.out.1.below hb H1.out.1.lt) (An H1.out.2 hb (Ah _))
     have c0:=HB0.out.1.cell 0
     simp only[opC,Ab,Ac] at c0
     clear hb
     by_cases hn:0<nf
     ·have hnd:decide (0<nf)=true:=decide_eq_true hn
      by_cases h2:2<p.k
      ·have h2d:decide (2<p.k)=true:=decide_eq_true h2
       have HX:=Ag (show ans=0 from by
        have h:R=true:=by
         rw[←HR.out]
         unfold opB
         simp[HUS.out,h1,h10,h2,HNF.out,hn]
        rw[←HANS.out,h]
        rfl)
       go_wp2_with fail
       go_ret
       exact⟨by rw[HX.out] <;> rfl,HB0.out.2⟩
      ·have h2d:decide (2<p.k)=false:=decide_eq_false h2
       go_wp2_with (first
  | ((with_reducible refine BR ?_ 29 (.tmp 34) rfl (w.heap.size) 6 rfl tc _ (Dm HB0.out.1) Tryz.underlying29 rfl (At Tryz.infoTm HT.out.2) ?_);focus rfl))
       refine(HB1.out b1 HB0.out.2).mono ?_
       rintro e' b2 ⟨rfl,hb⟩
       have HB2:=hJ2 (HB0.out.1.below hb HB0.out.1.lt) (An HB0.out.2 hb (Ah _))
       clear hb
       cases bd
       ·skip
        have HX:=Ag (show ans=281 from by
         have h:R=false:=by
          rw[←HR.out]
          unfold opB
          simp[HBD.out,h2]
         rw[←HANS.out,h]
         rfl)
        go_wp2_with fail
        go_ret
        exact⟨by rw[HX.out] <;> rfl,HB2.out.2⟩
       ·skip
        have HX:=Ag (show ans=0 from by
         have h:R=true:=by
          rw[←HR.out]
          unfold opB
          simp[HUS.out,HBD.out,h1,h10,HNF.out,hn]
         rw[←HANS.out,h]
         rfl)
        go_wp2_with fail
        go_ret
        exact⟨by rw[HX.out] <;> rfl,HB2.out.2⟩
     ·have hnd:decide (0<nf)=false:=decide_eq_false hn
      have HX:=Ag (show ans=281 from by
       have h:R=false:=by
        rw[←HR.out]
        unfold opB
        simp[HNF.out,hn]
        intros
        omega
       rw[←HANS.out,h]
       rfl)
      go_wp2_with fail
      go_ret
      exact⟨by rw[HX.out] <;> rfl,HB0.out.2⟩
  ·have h10d:decide (p.k≤10)=false:=decide_eq_false h10
   have HX:=Ag (show ans=281 from by
    have h:R=false:=by
     rw[←HR.out]
     unfold opB
     simp[h10]
    rw[←HANS.out,h]
    rfl)
   go_wp2_with fail
   go_ret
   exact⟨by rw[HX.out] <;> rfl,H1.out.2⟩
 ·have h1d:decide (1≤p.k)=false:=decide_eq_false h1
  have HX:=Ag (show ans=281 from by
   have h:R=false:=by
    rw[←HR.out]
    unfold opB
    simp[h1]
   rw[←HANS.out,h]
   rfl)
  go_wp2_with fail
  go_ret
  exact⟨by rw[HX.out] <;> rfl,H1.out.2⟩
end Go.Proofs.YtgdlfiphihaooaaGreat

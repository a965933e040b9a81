import Derived.Test.YtgdlfiphihaooaaGreatYs14
set_option linter.unusedSimpArgs false
set_option linter.unusedVariables false
set_option maxRecDepth 100000
set_option maxHeartbeats 8000000
open _root_.List renaming getElem?_toArray→Aa,getElem?_cons_zero→Ab,getElem?_cons_succ→Ac,setIfInBounds_toArray→Ad,set_cons_zero→Ae,set_cons_succ→Af
open _root_.Go.Lib renaming hid→Ag
open _root_.Nat renaming le_refl→Ah,le_trans→Aj,lt_of_lt_of_le→Ak
open _root_.And renaming intro→Ai
open _root_.Go.Act renaming put→Al
namespace Go.Proofs.YtgdlfiphihaooaaGreat
open Go Go.RowKit
theorem DR (w:World) {ops:Array Oper} {rest:List Oper} {o:Oper} {a:Act} {Q:Exit→Act→World→Prop} (hgd:o.guard=none) (x:Operand) (ho:o.op=.buildSlice 23 1 #[(0,x)]) (cs:List Value) (hcs:cs.length=3)
  (hx:a.eval x=.agg cs.toArray) (h:∀ w',Blk w' w.heap.size 49 cs→Below w.heap.size w w'→w'.heap.size=w.heap.size+1→wpList Tryz.prog ops Q rest (a.put o.dst (.slice (some ⟨w.heap.size,0,none⟩) 1 1)) w'):wpList Tryz.prog ops Q (o::rest) a w:=
 Bk w hgd 23 x ho Tryz.underlying23 (fun w=> by kernel_rfl) Tryz.zeroCi3 (by decide) (by decide) cs hcs hx h
theorem KT {α β:Type} (f:α→β) (l:List α) (i:Nat) (x:α):(BS l i x).map f=BS (l.map f) i (f x):=by unfold BS;simp
theorem KU {α:Type} {l:List α} {i:Nat} {x y:α}:y∈BS l i x↔y=x∨y∈l:=by
 unfold BS
 rw[List.mem_append,List.mem_cons]
 constructor
 ·rintro(h|h|h)
  ·exact .inr (List.mem_of_mem_take h)
  ·exact .inl h
  ·exact .inr (List.mem_of_mem_drop h)
 ·rintro(h|h)
  ·exact .inr (.inl h)
  ·rw[←List.take_append_drop i l,List.mem_append] at h
   exact h.imp id .inr
theorem Tryz.buildcir (x y:Int):∀ w,(Instr.build 49 #[(0,.int .i64 x),(1,.int .i64 y)]).run Tryz.prog w=.ok (.agg (ciC x y (.slice none 0 0)).toArray) w:=fun w=> by kernel_rfl
theorem Fj {ops:Array Oper} {rest:List Oper} {op:Oper} {a:Act} {w:World} {Q:Exit→Act→World→Prop} (hgd:op.guard=none) (x0 x1:Operand) (ho:op.op=.build 49 #[(0,x0),(1,x1)])
  (x y:Int) (h0:a.eval x0=.int .i64 x) (h1:a.eval x1=.int .i64 y)
  (h:wpList Tryz.prog ops Q rest (a.put op.dst (.agg (ciC x y (.slice none 0 0)).toArray)) w):wpList Tryz.prog ops Q (op::rest) a w:=by
 refine wpList_plain hgd fun K hK=> ?_
 have hrun:(execOp a.eval op).run Tryz.prog w=.ok (.value (.agg (ciC x y (.slice none 0 0)).toArray)) w:=by
  unfold execOp
  simp only[ho]
  rw[show((#[((0:Nat),x0),(1,x1)]:Array (Nat × Operand)).map fun (i,x)=> (i,a.eval x))=#[(0,.int .i64 x),(1,.int .i64 y)] by simp[h0,h1]]
  simp[Tryz.buildcir,Result.andThen]
 unfold Oper.wp
 rw[hrun]
 exact hK _ _ h
theorem Kh (p:OpM) (tco:List Value) {w0 w:World} {m0 xs:List Nat} {bp:Nat} {vf vc vw:Value} {fs:List FileM} {cv:List CirV} {ws:List WrM} {ex:List (List Value × Tm)}
  (h:OwnX w0 m0 xs w bp 97 [vf,vc,vw] vf vc vw fs cv ws ex) (hb:(tco,p.b)∈ex) (hk:ChkP (⟨fs,cv.map CirV.m,ws⟩:IdM)) (ho:opB p=true) (hall:∀ c∈cv,c.own=true):
  Calls Tryz.prog 78 #[.pointer (some ⟨bp,0,none⟩),.agg (opC p tco).toArray] w (G5 w0 m0 xs bp 97 ex (CR (⟨fs,cv.map CirV.m,ws⟩:IdM) p)):=by
 obtain⟨af,cf,rfl,hf1,hf2⟩:=h.rf.shape
 obtain⟨ac,cc,rfl,hc1,hc2⟩:=h.rc.shape
 obtain⟨aw,cw,rfl,hw1,hw2⟩:=h.rw.shape
 obtain⟨fn,hfn⟩:∃ n,fs.length=n:=⟨_,rfl⟩
 obtain⟨cn,hcn⟩:∃ n,cv.length=n:=⟨_,rfl⟩
 obtain⟨wn,hwn⟩:∃ n,ws.length=n:=⟨_,rfl⟩
 have HN:=Ag (Ai hfn (Ai hcn hwn))
 have hfl:fn≤6:=by have:=hk.fl;simp only at this;omega
 have hcl:cn≤3:=by have:=hk.cl;simp only[List.length_map] at this;omega
 have hwl:wn≤400:=by have:=hk.wl;simp only at this;omega
 rw[hfn,hcn,hwn] at h
 have HOWN:=Ag h
 have HB:=Ag hb
 have HK:=Ag hk
 have HO:=Ag ho
 have HALL:=Ag hall
 have HTL:=Ag (h.ex _ hb).len
 obtain⟨SR,hSR⟩:∃ r,CR (⟨fs,cv.map CirV.m,ws⟩:IdM) p=r:=⟨_,rfl⟩
 have HSR:=Ag hSR
 rw[hSR]
 clear h hb hk ho hall hfn hcn hwn hSR hf1 hf2 hc1 hc2 hw1 hw2
 obtain⟨⟨ix,th⟩,hsk⟩:∃ r,Bz (⟨fs,cv.map CirV.m,ws⟩:IdM) p.g=r:=⟨_,rfl⟩
 have HSK:=Ag hsk
 have HF:=Ag (fun (W:World) (hW:IdC (fun _=> True) W [(.slice af fn cf),(.slice ac cn cc),(.slice aw wn cw)] (⟨fs,cv.map CirV.m,ws⟩:IdM))=> show Calls Tryz.prog 39 #[.agg ([(.slice af fn cf),(.slice ac cn cc),(.slice aw wn cw)]:List Value).toArray,.int .i64 p.g] W (fun e w'=> e=.returned (.tuple #[.int .i64 (ix:Nat),.bool th])∧Below W.heap.size W w') from by
  have h:=DL (⟨fs,cv.map CirV.m,ws⟩:IdM) p.g [(.slice af fn cf),(.slice ac cn cc),(.slice aw wn cw)] _ W hW (by have:=HK.out.cl;omega)
  rw[show AW (fun x=> Bx x.n p.g) (⟨fs,cv.map CirV.m,ws⟩:IdM).cs=(ix,th) from hsk] at h
  exact h)
 clear hsk
 go_enter Tryz.func78,Tryz.ntmps78
 go_upto_region 1 with(first
  | ((with_reducible refine Au w rfl 31 (.tmp 1) rfl (opC p tco) rfl ?_);intro a1 hb hbel hsz;have H1:=hJ2 (HOWN.out.rsv hbel (Ah _) hb.lt) hb;clear hb hbel hsz)
  | ((with_reducible refine Av a1 rfl 37 rfl (AC 0 0 0 (tmC 0 0 0 ⟨#[]⟩ (.slice none 0 0))) Tryz.zeroRs ?_);intro a2 hb hbel hsz;have H2:=hJ3 (H1.out.1.rsv hbel (Ah _) hb.lt) (H1.out.2.below hbel H1.out.2.lt) hb;have HSZ:=Ag (show w0.heap.size≤a1.heap.size from H1.out.1.ch.size);clear hb hbel hsz))
 try simp only[Al,Ad,Ae,Af]
 have HG:=hJ2 H1.out.2.lt H2.out.2.2.lt
 have HIX:=Ag (show ix≤cv.length from by have h:=Hp (fun x:CirM=> Bx x.n p.g) (cv.map CirV.m);rw[show AW (fun x:CirM=> Bx x.n p.g) (cv.map CirV.m)=(ix,th) from HSK.out,List.length_map] at h;exact h)
 have hixf:ix≤cn:=by have:=HIX.out;have:=HN.out.2.1;omega
 have hixz:(ix:Int)<(cn:Int)+1:=by omega
 have hix0:(0:Int)≤(ix:Int):=by omega
 go_wp2_with fail
 refine Az (fun W=> W.rangeAt bp 0 [(.slice af fn cf),(.slice ac cn cc),(.slice aw wn cw)]∧W.cell? ⟨w.heap.size,4,none⟩=some (.int .i64 p.g)) [0,1,2,3,4,5] 6 (by kernel_rfl) rfl (by kernel_rfl) (by kernel_rfl) ⟨As H2.out.1.bl,H2.out.2.1.cell 4⟩ ?_
 iterate 6(refine' AK.run ?_ ?_ ?_ ?_;rotate_left 2;(simp only[Aa,Ab,Ac];rfl);rfl;(rintro w' ⟨k0,k1⟩;first|exact AB rfl rfl k0 Tryz.underlying26 rfl (At Tryz.infoId rfl)|(go_simp;with_reducible rfl));simp only[Al,Ad,Ae,Af])
 have sm:=(Sm.refl a2).drew
 have HV2:=hJ3 (H2.out.1.below (sm.below _)) (H2.out.2.1.below (sm.below _) H2.out.2.1.lt) (H2.out.2.2.below (sm.below _) H2.out.2.2.lt)
 clear sm
 generalize a2.drew=v1 at HV2 ⊢
 refine' Ar 6 (by kernel_rfl) ?_ ?_;rotate_left;(simp only[Aa,Ab,Ac];rfl)
 try simp only[Al,Ad,Ae,Af]
 go_wp2_with fail
 refine Calls.mono (HF.out v1 HV2.out.1.idc) ?_
 rintro e' u3 ⟨rfl,hb⟩
 have K4:=hJ3 (HV2.out.1.below hb) (HV2.out.2.1.below hb HV2.out.2.1.lt) (HV2.out.2.2.below hb HV2.out.2.2.lt)
 clear hb
 go_wp2_with fail
 refine QK.normal ⟨⟨As K4.out.1.bl,K4.out.2.1.cell 4⟩,?_⟩
 refine Bi (fuel:=0) (by kernel_rfl) AG ⟨As K4.out.1.bl,K4.out.2.1.cell 4⟩ [7,8,9,10,11] _ _ (by kernel_rfl) ?_
 try simp only[Al]
 iterate 5(refine' AK.run ?_ ?_ ?_ ?_;rotate_left 2;(simp only[Aa,Ab,Ac];rfl);rfl;(rintro w' ⟨k0,k1⟩;first|exact AB rfl rfl k0 Tryz.underlying26 rfl (At Tryz.infoId rfl)|(go_simp;with_reducible rfl));simp only[Al,Ad,Ae,Af])
 refine wpAnyH_done (by kernel_rfl) ?_ _
 refine NoPanic.normal ?_
 have c4:=K4.out.2.1.cell 4
 simp only[opC,Ab,Ac] at c4
 by_cases h1:p.g<1
 ·have h1e:decide (p.g<1)=true:=decide_eq_true h1
  have HX:=Ag (show SR=((⟨fs,cv.map CirV.m,ws⟩:IdM),A1 2) from by rw[←HSR.out];unfold CR;rw[if_pos (.inl h1)])
  go_wp2_with fail
  refine(Bc (2) u3).mono ?_
  rintro e' u5 ⟨rfl,hb⟩
  have K6:=hJ3 (K4.out.1.below hb) (K4.out.2.1.below hb K4.out.2.1.lt) (K4.out.2.2.below hb K4.out.2.2.lt)
  clear hb
  go_wp2_with (first
  | ((with_reducible refine Ao u5 rfl 37 (.tmp 4) (.tmp 26) rfl (a1.heap.size) 37 (AC 0 0 0 (tmC 0 0 0 ⟨#[]⟩ (.slice none 0 0))) (AC (2) 0 0 (tmC 0 0 0 ⟨#[]⟩ (.slice none 0 0))) K6.out.2.2 rfl rfl rfl (Ax rfl) (AM (AR _ _ _ _ _ _ _)) ?_);intro z9 hb hc hs;have HZ:=Ag (Ai (K6.out.1.setX (show a1.heap.size∈_ by simp) HSZ.out hc) hb);clear hb hc hs))
  refine bodyPost_ret (AA Tryz.results78 _ _ (a1.heap.size) _ _ rfl HZ.out.2 _ Tryz.underlying37 rfl (Ax rfl)) rfl ?_
  rw[HX.out]
  exact⟨_,_,_,_,cv,rfl,rfl,HALL.out,((HZ.out.1).keepoff (fun k hk=> by simp[hk])).exadd (Bm _ _)⟩
 ·have h1e:decide (p.g<1)=false:=decide_eq_false h1
  by_cases h3:3<p.g
  ·have h3e:decide (3<p.g)=true:=decide_eq_true h3
   have HX:=Ag (show SR=((⟨fs,cv.map CirV.m,ws⟩:IdM),A1 2) from by rw[←HSR.out];unfold CR;rw[if_pos (.inr h3)])
   go_wp2_with fail
   refine(Bc (2) u3).mono ?_
   rintro e' u7 ⟨rfl,hb⟩
   have K8:=hJ3 (K4.out.1.below hb) (K4.out.2.1.below hb K4.out.2.1.lt) (K4.out.2.2.below hb K4.out.2.2.lt)
   clear hb
   go_wp2_with (first
  | ((with_reducible refine Ao u7 rfl 37 (.tmp 4) (.tmp 26) rfl (a1.heap.size) 37 (AC 0 0 0 (tmC 0 0 0 ⟨#[]⟩ (.slice none 0 0))) (AC (2) 0 0 (tmC 0 0 0 ⟨#[]⟩ (.slice none 0 0))) K8.out.2.2 rfl rfl rfl (Ax rfl) (AM (AR _ _ _ _ _ _ _)) ?_);intro z9 hb hc hs;have HZ:=Ag (Ai (K8.out.1.setX (show a1.heap.size∈_ by simp) HSZ.out hc) hb);clear hb hc hs))
   refine bodyPost_ret (AA Tryz.results78 _ _ (a1.heap.size) _ _ rfl HZ.out.2 _ Tryz.underlying37 rfl (Ax rfl)) rfl ?_
   rw[HX.out]
   exact⟨_,_,_,_,cv,rfl,rfl,HALL.out,((HZ.out.1).keepoff (fun k hk=> by simp[hk])).exadd (Bm _ _)⟩
  ·have h3e:decide (3<p.g)=false:=decide_eq_false h3
   cases th
   ·skip
    go_upto_region 6 with fail
    try simp only[Al,Ad,Ae,Af]
    clear c4
    go_wp2_with fail
    refine A2 (fun W=> W.cell? ⟨bp,1,none⟩=some (.slice ac cn cc)∧W.cell? ⟨w.heap.size,4,none⟩=some (.int .i64 p.g)∧W.cell? ⟨w.heap.size,1,none⟩=some (.int .i64 p.u)) 17 [0,1,2,3,4,5,6,7,8,9,10] 7 (by kernel_rfl) rfl (by kernel_rfl) (by kernel_rfl) ⟨K4.out.1.bl.cell 1,K4.out.2.1.cell 4,K4.out.2.1.cell 1⟩ ?_
    iterate 11(refine' AK.run ?_ ?_ ?_ ?_;rotate_left 2;(simp only[Aa,Ab,Ac];rfl);rfl;(rintro w' ⟨k0,k1,k2⟩;go_simp;with_reducible rfl);simp only[Al,Ad,Ae,Af])
    have sm:=(Sm.refl u3).drew
    have HV10:=hJ3 (K4.out.1.below (sm.below _)) (K4.out.2.1.below (sm.below _) K4.out.2.1.lt) (K4.out.2.2.below (sm.below _) K4.out.2.2.lt)
    clear sm
    generalize u3.drew=v9 at HV10 ⊢
    refine' AE 11 (by kernel_rfl) ?_ ?_;rotate_left;(simp only[Aa,Ab,Ac];rfl)
    try simp only[Al,Ad,Ae,Af]
    with_reducible refine Fj rfl (.tmp 38) (.tmp 40) rfl p.g p.u rfl rfl ?_
    try simp only[Al,Ad,Ae,Af]
    refine QK.normal ⟨fun _=> ⟨HV10.out.1.bl.cell 1,HV10.out.2.1.cell 4,HV10.out.2.1.cell 1⟩,?_⟩
    refine' AE 12 (by kernel_rfl) ?_ ?_;rotate_left;(simp only[Aa,Ab,Ac];rfl)
    try simp only[Al,Ad,Ae,Af]
    refine DR v9 rfl (.tmp 41) rfl (ciC p.g p.u (.slice none 0 0)) rfl rfl ?_
    intro e1 hb hbel hsz
    have HE1:=Ag (show OwnX w0 m0 (a1.heap.size::w.heap.size::xs) e1 bp 97 [(.slice af fn cf),(.slice ac cn cc),(.slice aw wn cw)] (.slice af fn cf) (.slice ac cn cc) (.slice aw wn cw) fs cv ws ex∧Blk e1 (w.heap.size) 31 (opC p tco)∧Blk e1 (a1.heap.size) 37 (AC 0 0 0 (tmC 0 0 0 ⟨#[]⟩ (.slice none 0 0)))∧Blk e1 (v9.heap.size) 49 (ciC p.g p.u (.slice none 0 0))∧((∀ k,(Value.ownBlock (.slice ac cn cc))=some k→k≠v9.heap.size)) from⟨(HV10.out.1.below hbel),HV10.out.2.1.below hbel HV10.out.2.1.lt,HV10.out.2.2.below hbel HV10.out.2.2.lt,hb,fun k hk e=> by have:=HV10.out.1.lt k (FS k (AF.2 hk));omega⟩)
    clear hb hbel hsz
    try simp only[Al,Ad,Ae,Af]
    refine QK.normal ⟨fun _=> ⟨HE1.out.1.bl.cell 1,HE1.out.2.1.cell 4,HE1.out.2.1.cell 1⟩,?_⟩
    refine' AE 13 (by kernel_rfl) ?_ ?_;rotate_left;(simp only[Aa,Ab,Ac];rfl)
    try simp only[Al,Ad,Ae,Af]
    go_wp2_with fail
    refine(HE1.out.1.insC (i:=ix) HE1.out.2.2.2.1 (c:=(⟨p.g,p.u,[],(.slice none 0 0),true⟩:CirV)) ⟨rfl,fun _=> World.ownsRow_nil _ _ _ _,fun e=> by cases e⟩ rfl HE1.out.2.2.2.2 (by rw[HN.out.2.1];omega) HIX.out).mono ?_
    rintro e' e2 ⟨ay,cy,rfl,hown,hc⟩
    rw[HN.out.2.1] at hown ⊢
    have HE2:=hJ3 hown (HE1.out.2.1.keep hc (fun e=> (HE1.out.1.ne (show w.heap.size∈(a1.heap.size::w.heap.size::xs) by simp)).2.2.1 (AF.2 e))) (HE1.out.2.2.1.keep hc (fun e=> (HE1.out.1.ne (show a1.heap.size∈(a1.heap.size::w.heap.size::xs) by simp)).2.2.1 (AF.2 e)))
    clear hown hc
    go_wp2_with fail
    refine QK.normal ⟨fun _=> ⟨HE2.out.1.bl.cell 1,HE2.out.2.1.cell 4,HE2.out.2.1.cell 1⟩,?_⟩
    refine AL (by kernel_rfl) AG (fuel:=3) (fun _=> ⟨HE2.out.1.bl.cell 1,HE2.out.2.1.cell 4,HE2.out.2.1.cell 1⟩) 14 (by kernel_rfl) ?_
    refine' AK.run ?_ ?_ ?_ ?_;rotate_left 2;(simp only[Aa,Ab,Ac];rfl);rfl;(rintro w' -;go_simp;with_reducible rfl);simp only[Al,Ad,Ae,Af]
    refine AL (by kernel_rfl) AG (fuel:=2) (fun _=> ⟨HE2.out.1.bl.cell 1,HE2.out.2.1.cell 4,HE2.out.2.1.cell 1⟩) 15 (by kernel_rfl) ?_
    refine' AK.run ?_ ?_ ?_ ?_;rotate_left 2;(simp only[Aa,Ab,Ac];rfl);rfl;(rintro w' -;go_simp;with_reducible rfl);simp only[Al,Ad,Ae,Af]
    refine AL (by kernel_rfl) AG (fuel:=1) (fun _=> ⟨HE2.out.1.bl.cell 1,HE2.out.2.1.cell 4,HE2.out.2.1.cell 1⟩) 16 (by kernel_rfl) ?_
    refine' AK.run ?_ ?_ ?_ ?_;rotate_left 2;(simp only[Aa,Ab,Ac];rfl);rfl;(rintro w' -;go_simp;with_reducible rfl);simp only[Al,Ad,Ae,Af]
    refine' AE 17 (by kernel_rfl) ?_ ?_;rotate_left;(simp only[Aa,Ab,Ac];rfl)
    try simp only[Al,Ad,Ae,Af]
    refine AI e2 rfl 23 (.tmp 46) (.tmp 43) rfl bp 1 97 _ HE2.out.1.bl rfl (.slice ay (cn+1) cy) rfl (by simp) Tryz.sizeSc1 rfl rfl ?_
    intro e3 hb hc hs
    have HE3:=Ag (show OwnX w0 m0 (a1.heap.size::w.heap.size::xs) e3 bp 97 [(.slice af fn cf),(.slice ay (cn+1) cy),(.slice aw wn cw)] (.slice af fn cf) (.slice ay (cn+1) cy) (.slice aw wn cw) fs (BS cv ix (⟨p.g,p.u,[],(.slice none 0 0),true⟩:CirV)) ws ex∧Blk e3 (w.heap.size) 31 (opC p tco)∧Blk e3 (a1.heap.size) 37 (AC 0 0 0 (tmC 0 0 0 ⟨#[]⟩ (.slice none 0 0))) from⟨HE2.out.1.setB hc hb,HE2.out.2.1.keep hc (fun e=> (HE2.out.1.ne (show w.heap.size∈(a1.heap.size::w.heap.size::xs) by simp)).1 e),HE2.out.2.2.keep hc (fun e=> (HE2.out.1.ne (show a1.heap.size∈(a1.heap.size::w.heap.size::xs) by simp)).1 e)⟩)
    clear hb hc hs
    refine QK.normal ⟨fun h=> absurd h (by decide),?_⟩
    refine Bd (by kernel_rfl) ?_ _
    refine NoPanic.normal ?_
    have HX:=Ag (show SR=(⟨fs,BS (cv.map CirV.m) ix ⟨p.g,p.u,[]⟩,ws⟩,A1 0) from by
     rw[←HSR.out]
     unfold CR
     rw[if_neg (by omega),HSK.out,if_neg (by simp)])
    go_wp2_with (first
  | (with_reducible refine Ba rfl rfl ?_)
  | ((with_reducible refine Ao e3 rfl 37 (.tmp 4) (.tmp 47) rfl (a1.heap.size) 37 (AC 0 0 0 (tmC 0 0 0 ⟨#[]⟩ (.slice none 0 0))) (AC 0 0 0 (tmC 0 0 0 ⟨#[]⟩ (.slice none 0 0))) HE3.out.2.2 rfl rfl rfl (Ax rfl) (AM (AR _ _ _ _ _ _ _)) ?_);intro z9 hb hc hs;have HZ:=Ag (Ai (HE3.out.1.setX (show a1.heap.size∈_ by simp) HSZ.out hc) hb);clear hb hc hs))
    refine bodyPost_ret (AA Tryz.results78 _ _ (a1.heap.size) _ _ rfl HZ.out.2 _ Tryz.underlying37 rfl (Ax rfl)) rfl ?_
    rw[HX.out]
    exact⟨_,_,_,_,(BS cv ix (⟨p.g,p.u,[],(.slice none 0 0),true⟩:CirV)),rfl,(KT _ _ _ _),(fun c hc=> (KU.1 hc).elim (fun e=> by rw[e]) (HALL.out c)),((HZ.out.1).keepoff (fun k hk=> by simp[hk])).exadd (Bm _ _)⟩
   ·skip
    have HX:=Ag (show SR=((⟨fs,cv.map CirV.m,ws⟩:IdM),A1 5) from by rw[←HSR.out];unfold CR;rw[if_neg (by omega),HSK.out,if_pos rfl])
    go_wp2_with fail
    refine(Bc (5) u3).mono ?_
    rintro e' u11 ⟨rfl,hb⟩
    have K12:=hJ3 (K4.out.1.below hb) (K4.out.2.1.below hb K4.out.2.1.lt) (K4.out.2.2.below hb K4.out.2.2.lt)
    clear hb
    go_wp2_with (first
  | ((with_reducible refine Ao u11 rfl 37 (.tmp 4) (.tmp 29) rfl (a1.heap.size) 37 (AC 0 0 0 (tmC 0 0 0 ⟨#[]⟩ (.slice none 0 0))) (AC (5) 0 0 (tmC 0 0 0 ⟨#[]⟩ (.slice none 0 0))) K12.out.2.2 rfl rfl rfl (Ax rfl) (AM (AR _ _ _ _ _ _ _)) ?_);intro z9 hb hc hs;have HZ:=Ag (Ai (K12.out.1.setX (show a1.heap.size∈_ by simp) HSZ.out hc) hb);clear hb hc hs))
    refine bodyPost_ret (AA Tryz.results78 _ _ (a1.heap.size) _ _ rfl HZ.out.2 _ Tryz.underlying37 rfl (Ax rfl)) rfl ?_
    rw[HX.out]
    exact⟨_,_,_,_,cv,rfl,rfl,HALL.out,((HZ.out.1).keepoff (fun k hk=> by simp[hk])).exadd (Bm _ _)⟩
section
variable {w0 w w':World} {m0 xs:List Nat} {bp:Nat} {bt:TypeId} {cells cells':List Value} {vf vc vw vf' vc' vw':Value} {fs fs':List FileM} {cv cv':List CirV} {ws ws':List WrM} {ex ex':List (List Value × Tm)}
theorem OwnX.leave2 (h:OwnX w0 m0 xs w bp bt cells vf vc vw fs cv ws ex) (h':OwnX w (msL bp vf vc vw cv) xs w' bp bt cells' vf' vc' vw' fs' cv' ws' ex'):OwnX w0 m0 xs w' bp bt cells' vf' vc' vw' fs' cv' ws' ex':=by
 refine⟨⟨h'.ch.os.trans h.ch.os,h'.ch.tape.trans h.ch.tape,h'.ch.output.trans h.ch.output,Aj h.ch.size h'.ch.size,fun k hk hn=> ?_⟩,h'.nd,fun k hk=> ?_,h'.ax,h'.bl,h'.rf,h'.rc,h'.rw,h'.ex⟩
 ·rw[h'.ch.block k (Ak hk h.ch.size) (fun hm=> by
   rcases h.sub k hm with h1|h1
   ·exact hn h1
   ·omega)]
  exact h.ch.block k hk hn
 ·rcases h'.sub k hk with h1|h1
  ·exact h.sub k h1
  ·exact .inr (Aj h.ch.size h1)
end
theorem KV (p:OpM) (tco:List Value) {w0 w:World} {m0 xs:List Nat} {bp:Nat} {vf vc vw:Value} {fs:List FileM} {cv:List CirV} {ws:List WrM} {ex:List (List Value × Tm)}
  (h:OwnX w0 m0 xs w bp 97 [vf,vc,vw] vf vc vw fs cv ws ex) (hb:(tco,p.b)∈ex) (hk:ChkP (⟨fs,cv.map CirV.m,ws⟩:IdM)) (ho:opB p=true) (hall:∀ c∈cv,c.own=true):
  Calls Tryz.prog 50 #[.pointer (some ⟨bp,0,none⟩),.agg (opC p tco).toArray] w (G5 w0 m0 xs bp 97 ex (BJ (⟨fs,cv.map CirV.m,ws⟩:IdM) p)):=by
 obtain⟨af,cf,rfl,hf1,hf2⟩:=h.rf.shape
 obtain⟨ac,cc,rfl,hc1,hc2⟩:=h.rc.shape
 obtain⟨aw,cw,rfl,hw1,hw2⟩:=h.rw.shape
 obtain⟨fn,hfn⟩:∃ n,fs.length=n:=⟨_,rfl⟩
 obtain⟨cn,hcn⟩:∃ n,cv.length=n:=⟨_,rfl⟩
 obtain⟨wn,hwn⟩:∃ n,ws.length=n:=⟨_,rfl⟩
 have HN:=Ag (Ai hfn (Ai hcn hwn))
 have hfl:fn≤6:=by have:=hk.fl;simp only at this;omega
 have hcl:cn≤3:=by have:=hk.cl;simp only[List.length_map] at this;omega
 have hwl:wn≤400:=by have:=hk.wl;simp only at this;omega
 rw[hfn,hcn,hwn] at h
 have HOWN:=Ag h
 have HB:=Ag hb
 have HK:=Ag hk
 have HO:=Ag ho
 have HALL:=Ag hall
 have HTL:=Ag (h.ex _ hb).len
 obtain⟨SR,hSR⟩:∃ r,BJ (⟨fs,cv.map CirV.m,ws⟩:IdM) p=r:=⟨_,rfl⟩
 have HSR:=Ag hSR
 rw[hSR]
 clear h hb hk ho hall hfn hcn hwn hSR hf1 hf2 hc1 hc2 hw1 hw2
 go_enter Tryz.func50,Tryz.ntmps50
 go_upto_region 1 with(first
  | ((with_reducible refine Au w rfl 31 (.tmp 1) rfl (opC p tco) rfl ?_);intro a1 hb hbel hsz;have H1:=hJ2 (HOWN.out.rsv hbel (Ah _) hb.lt) hb;clear hb hbel hsz)
  | ((with_reducible refine Av a1 rfl 37 rfl (AC 0 0 0 (tmC 0 0 0 ⟨#[]⟩ (.slice none 0 0))) Tryz.zeroRs ?_);intro a2 hb hbel hsz;have H2:=hJ3 (H1.out.1.rsv hbel (Ah _) hb.lt) (H1.out.2.below hbel H1.out.2.lt) hb;have HSZ:=Ag (show w0.heap.size≤a1.heap.size from H1.out.1.ch.size);clear hb hbel hsz))
 try simp only[Al,Ad,Ae,Af]
 have HG:=hJ2 H1.out.2.lt H2.out.2.2.lt
 have hkr:p.k=1∨p.k=2∨p.k=3∨p.k=4∨p.k=5∨p.k=6∨p.k=7∨p.k=8∨p.k=9∨p.k=10:=by
  have h:=HO.out
  unfold opB at h
  simp only[Bool.and_eq_true,decide_eq_true_eq] at h
  omega
 rcases hkr with hk|hk|hk|hk|hk|hk|hk|hk|hk|hk
 ·skip
  have HK2:=Ag hk
  have HC0:=Ag (show(opC p tco)[0]?=some (.int .i64 1) from by show some (Value.int .i64 p.k)=_;rw[hk])
  have HX:=Ag (show Ca (⟨fs,cv.map CirV.m,ws⟩:IdM) p=SR from by rw[←HSR.out];unfold BJ;simp[hk])
  clear hk
  have c0:a2.cell? ⟨w.heap.size,0,none⟩=some (.int .i64 1):=(H2.out.2.1.cell 0).trans HC0.out
  go_wp2_with (first
  | (with_reducible refine Ap rfl 31 (.tmp 3) rfl (w.heap.size) 0 rfl (opC p tco) _ (As H2.out.2.1) Tryz.underlying31 rfl (Bp HTL.out) ?_))
  clear c0
  have HCC:=Ag (Jk p tco H2.out.1.enter HB.out HK.out HO.out HALL.out (by rw[HK2.out];omega))
  rw[HX.out] at HCC
  refine HCC.out.mono ?_
  rintro e' b1 ⟨rtc,vf',vc',vw',cv',rfl,hm,hall',hown⟩
  have HB1:=Ag (show OwnX w0 m0 (a1.heap.size::w.heap.size::xs) b1 bp 97 [vf',vc',vw'] vf' vc' vw' SR.1.fs cv' SR.1.ws ((rtc,SR.2.b)::ex)∧Blk b1 a1.heap.size 37 (AC 0 0 0 (tmC 0 0 0 ⟨#[]⟩ (.slice none 0 0))) from⟨H2.out.1.leave2 hown,H2.out.2.2.keep hown.ch (fun e=> (H2.out.1.ax (a1.heap.size) (by simp)).1 e)⟩)
  have HR:=Ag (HB1.out.1.ex _ List.mem_cons_self)
  have HRL:=Ag HR.out.len
  have HRO:=Ag HR.out.one
  have HRZ:=Ag (show(AC SR.2.e SR.2.v SR.2.u rtc).length=(AC 0 0 0 (tmC 0 0 0 ⟨#[]⟩ (.slice none 0 0))).length from by simp[AC,HRL.out,tmC])
  have HM:=Ag (Ai hm hall')
  clear hm hall' hown
  go_wp2_with ((with_reducible refine Ao b1 rfl 37 (.tmp 4) (.tmp 30) rfl (a1.heap.size) 37 (AC 0 0 0 (tmC 0 0 0 ⟨#[]⟩ (.slice none 0 0))) (AC SR.2.e SR.2.v SR.2.u rtc) HB1.out.2 rfl rfl HRZ.out (Ax HRL.out) (AM HRO.out) ?_);intro z9 hb hc hs;have HZ:=Ag (Ai (HB1.out.1.setX (show a1.heap.size∈(a1.heap.size::w.heap.size::xs) by simp) HSZ.out hc) hb);clear hb hc hs)
  refine bodyPost_ret (AA Tryz.results50 _ _ (a1.heap.size) _ _ rfl HZ.out.2 _ Tryz.underlying37 rfl (Ax HRL.out)) rfl ?_
  exact⟨_,_,_,_,cv',rfl,HM.out.1,HM.out.2,HZ.out.1.keepoff (fun k hk=> by simp[hk])⟩
 ·skip
  have HK2:=Ag hk
  have HC0:=Ag (show(opC p tco)[0]?=some (.int .i64 2) from by show some (Value.int .i64 p.k)=_;rw[hk])
  have HX:=Ag (show Bw (⟨fs,cv.map CirV.m,ws⟩:IdM) p=SR from by rw[←HSR.out];unfold BJ;simp[hk])
  clear hk
  have c0:a2.cell? ⟨w.heap.size,0,none⟩=some (.int .i64 2):=(H2.out.2.1.cell 0).trans HC0.out
  go_wp2_with (first
  | (with_reducible refine Ap rfl 31 (.tmp 3) rfl (w.heap.size) 0 rfl (opC p tco) _ (As H2.out.2.1) Tryz.underlying31 rfl (Bp HTL.out) ?_))
  clear c0
  have HCC:=Ag (FB p tco H2.out.1.enter HB.out HK.out HO.out HALL.out (.inl HK2.out))
  rw[HX.out] at HCC
  refine HCC.out.mono ?_
  rintro e' b1 ⟨rtc,vf',vc',vw',cv',rfl,hm,hall',hown⟩
  have HB1:=Ag (show OwnX w0 m0 (a1.heap.size::w.heap.size::xs) b1 bp 97 [vf',vc',vw'] vf' vc' vw' SR.1.fs cv' SR.1.ws ((rtc,SR.2.b)::ex)∧Blk b1 a1.heap.size 37 (AC 0 0 0 (tmC 0 0 0 ⟨#[]⟩ (.slice none 0 0))) from⟨H2.out.1.leave2 hown,H2.out.2.2.keep hown.ch (fun e=> (H2.out.1.ax (a1.heap.size) (by simp)).1 e)⟩)
  have HR:=Ag (HB1.out.1.ex _ List.mem_cons_self)
  have HRL:=Ag HR.out.len
  have HRO:=Ag HR.out.one
  have HRZ:=Ag (show(AC SR.2.e SR.2.v SR.2.u rtc).length=(AC 0 0 0 (tmC 0 0 0 ⟨#[]⟩ (.slice none 0 0))).length from by simp[AC,HRL.out,tmC])
  have HM:=Ag (Ai hm hall')
  clear hm hall' hown
  go_wp2_with ((with_reducible refine Ao b1 rfl 37 (.tmp 4) (.tmp 30) rfl (a1.heap.size) 37 (AC 0 0 0 (tmC 0 0 0 ⟨#[]⟩ (.slice none 0 0))) (AC SR.2.e SR.2.v SR.2.u rtc) HB1.out.2 rfl rfl HRZ.out (Ax HRL.out) (AM HRO.out) ?_);intro z9 hb hc hs;have HZ:=Ag (Ai (HB1.out.1.setX (show a1.heap.size∈(a1.heap.size::w.heap.size::xs) by simp) HSZ.out hc) hb);clear hb hc hs)
  refine bodyPost_ret (AA Tryz.results50 _ _ (a1.heap.size) _ _ rfl HZ.out.2 _ Tryz.underlying37 rfl (Ax HRL.out)) rfl ?_
  exact⟨_,_,_,_,cv',rfl,HM.out.1,HM.out.2,HZ.out.1.keepoff (fun k hk=> by simp[hk])⟩
 ·skip
  have HK2:=Ag hk
  have HC0:=Ag (show(opC p tco)[0]?=some (.int .i64 3) from by show some (Value.int .i64 p.k)=_;rw[hk])
  have HX:=Ag (show Bw (⟨fs,cv.map CirV.m,ws⟩:IdM) p=SR from by rw[←HSR.out];unfold BJ;simp[hk])
  clear hk
  have c0:a2.cell? ⟨w.heap.size,0,none⟩=some (.int .i64 3):=(H2.out.2.1.cell 0).trans HC0.out
  go_wp2_with (first
  | (with_reducible refine Ap rfl 31 (.tmp 3) rfl (w.heap.size) 0 rfl (opC p tco) _ (As H2.out.2.1) Tryz.underlying31 rfl (Bp HTL.out) ?_))
  clear c0
  have HCC:=Ag (FB p tco H2.out.1.enter HB.out HK.out HO.out HALL.out (.inr HK2.out))
  rw[HX.out] at HCC
  refine HCC.out.mono ?_
  rintro e' b1 ⟨rtc,vf',vc',vw',cv',rfl,hm,hall',hown⟩
  have HB1:=Ag (show OwnX w0 m0 (a1.heap.size::w.heap.size::xs) b1 bp 97 [vf',vc',vw'] vf' vc' vw' SR.1.fs cv' SR.1.ws ((rtc,SR.2.b)::ex)∧Blk b1 a1.heap.size 37 (AC 0 0 0 (tmC 0 0 0 ⟨#[]⟩ (.slice none 0 0))) from⟨H2.out.1.leave2 hown,H2.out.2.2.keep hown.ch (fun e=> (H2.out.1.ax (a1.heap.size) (by simp)).1 e)⟩)
  have HR:=Ag (HB1.out.1.ex _ List.mem_cons_self)
  have HRL:=Ag HR.out.len
  have HRO:=Ag HR.out.one
  have HRZ:=Ag (show(AC SR.2.e SR.2.v SR.2.u rtc).length=(AC 0 0 0 (tmC 0 0 0 ⟨#[]⟩ (.slice none 0 0))).length from by simp[AC,HRL.out,tmC])
  have HM:=Ag (Ai hm hall')
  clear hm hall' hown
  go_wp2_with ((with_reducible refine Ao b1 rfl 37 (.tmp 4) (.tmp 30) rfl (a1.heap.size) 37 (AC 0 0 0 (tmC 0 0 0 ⟨#[]⟩ (.slice none 0 0))) (AC SR.2.e SR.2.v SR.2.u rtc) HB1.out.2 rfl rfl HRZ.out (Ax HRL.out) (AM HRO.out) ?_);intro z9 hb hc hs;have HZ:=Ag (Ai (HB1.out.1.setX (show a1.heap.size∈(a1.heap.size::w.heap.size::xs) by simp) HSZ.out hc) hb);clear hb hc hs)
  refine bodyPost_ret (AA Tryz.results50 _ _ (a1.heap.size) _ _ rfl HZ.out.2 _ Tryz.underlying37 rfl (Ax HRL.out)) rfl ?_
  exact⟨_,_,_,_,cv',rfl,HM.out.1,HM.out.2,HZ.out.1.keepoff (fun k hk=> by simp[hk])⟩
 ·skip
  have HK2:=Ag hk
  have HC0:=Ag (show(opC p tco)[0]?=some (.int .i64 4) from by show some (Value.int .i64 p.k)=_;rw[hk])
  have HX:=Ag (show Bg (⟨fs,cv.map CirV.m,ws⟩:IdM) p=SR from by rw[←HSR.out];unfold BJ;simp[hk])
  clear hk
  have c0:a2.cell? ⟨w.heap.size,0,none⟩=some (.int .i64 4):=(H2.out.2.1.cell 0).trans HC0.out
  go_wp2_with (first
  | (with_reducible refine Ap rfl 31 (.tmp 3) rfl (w.heap.size) 0 rfl (opC p tco) _ (As H2.out.2.1) Tryz.underlying31 rfl (Bp HTL.out) ?_))
  clear c0
  have HCC:=Ag (Dl p tco H2.out.1.enter HB.out HK.out HO.out HALL.out (.inl HK2.out))
  rw[HX.out] at HCC
  refine HCC.out.mono ?_
  rintro e' b1 ⟨rtc,vf',vc',vw',cv',rfl,hm,hall',hown⟩
  have HB1:=Ag (show OwnX w0 m0 (a1.heap.size::w.heap.size::xs) b1 bp 97 [vf',vc',vw'] vf' vc' vw' SR.1.fs cv' SR.1.ws ((rtc,SR.2.b)::ex)∧Blk b1 a1.heap.size 37 (AC 0 0 0 (tmC 0 0 0 ⟨#[]⟩ (.slice none 0 0))) from⟨H2.out.1.leave2 hown,H2.out.2.2.keep hown.ch (fun e=> (H2.out.1.ax (a1.heap.size) (by simp)).1 e)⟩)
  have HR:=Ag (HB1.out.1.ex _ List.mem_cons_self)
  have HRL:=Ag HR.out.len
  have HRO:=Ag HR.out.one
  have HRZ:=Ag (show(AC SR.2.e SR.2.v SR.2.u rtc).length=(AC 0 0 0 (tmC 0 0 0 ⟨#[]⟩ (.slice none 0 0))).length from by simp[AC,HRL.out,tmC])
  have HM:=Ag (Ai hm hall')
  clear hm hall' hown
  go_wp2_with ((with_reducible refine Ao b1 rfl 37 (.tmp 4) (.tmp 30) rfl (a1.heap.size) 37 (AC 0 0 0 (tmC 0 0 0 ⟨#[]⟩ (.slice none 0 0))) (AC SR.2.e SR.2.v SR.2.u rtc) HB1.out.2 rfl rfl HRZ.out (Ax HRL.out) (AM HRO.out) ?_);intro z9 hb hc hs;have HZ:=Ag (Ai (HB1.out.1.setX (show a1.heap.size∈(a1.heap.size::w.heap.size::xs) by simp) HSZ.out hc) hb);clear hb hc hs)
  refine bodyPost_ret (AA Tryz.results50 _ _ (a1.heap.size) _ _ rfl HZ.out.2 _ Tryz.underlying37 rfl (Ax HRL.out)) rfl ?_
  exact⟨_,_,_,_,cv',rfl,HM.out.1,HM.out.2,HZ.out.1.keepoff (fun k hk=> by simp[hk])⟩
 ·skip
  have HK2:=Ag hk
  have HC0:=Ag (show(opC p tco)[0]?=some (.int .i64 5) from by show some (Value.int .i64 p.k)=_;rw[hk])
  have HX:=Ag (show Bg (⟨fs,cv.map CirV.m,ws⟩:IdM) p=SR from by rw[←HSR.out];unfold BJ;simp[hk])
  clear hk
  have c0:a2.cell? ⟨w.heap.size,0,none⟩=some (.int .i64 5):=(H2.out.2.1.cell 0).trans HC0.out
  go_wp2_with (first
  | (with_reducible refine Ap rfl 31 (.tmp 3) rfl (w.heap.size) 0 rfl (opC p tco) _ (As H2.out.2.1) Tryz.underlying31 rfl (Bp HTL.out) ?_))
  clear c0
  have HCC:=Ag (Dl p tco H2.out.1.enter HB.out HK.out HO.out HALL.out (.inr (.inl HK2.out)))
  rw[HX.out] at HCC
  refine HCC.out.mono ?_
  rintro e' b1 ⟨rtc,vf',vc',vw',cv',rfl,hm,hall',hown⟩
  have HB1:=Ag (show OwnX w0 m0 (a1.heap.size::w.heap.size::xs) b1 bp 97 [vf',vc',vw'] vf' vc' vw' SR.1.fs cv' SR.1.ws ((rtc,SR.2.b)::ex)∧Blk b1 a1.heap.size 37 (AC 0 0 0 (tmC 0 0 0 ⟨#[]⟩ (.slice none 0 0))) from⟨H2.out.1.leave2 hown,H2.out.2.2.keep hown.ch (fun e=> (H2.out.1.ax (a1.heap.size) (by simp)).1 e)⟩)
  have HR:=Ag (HB1.out.1.ex _ List.mem_cons_self)
  have HRL:=Ag HR.out.len
  have HRO:=Ag HR.out.one
  have HRZ:=Ag (show(AC SR.2.e SR.2.v SR.2.u rtc).length=(AC 0 0 0 (tmC 0 0 0 ⟨#[]⟩ (.slice none 0 0))).length from by simp[AC,HRL.out,tmC])
  have HM:=Ag (Ai hm hall')
  clear hm hall' hown
  go_wp2_with ((with_reducible refine Ao b1 rfl 37 (.tmp 4) (.tmp 30) rfl (a1.heap.size) 37 (AC 0 0 0 (tmC 0 0 0 ⟨#[]⟩ (.slice none 0 0))) (AC SR.2.e SR.2.v SR.2.u rtc) HB1.out.2 rfl rfl HRZ.out (Ax HRL.out) (AM HRO.out) ?_);intro z9 hb hc hs;have HZ:=Ag (Ai (HB1.out.1.setX (show a1.heap.size∈(a1.heap.size::w.heap.size::xs) by simp) HSZ.out hc) hb);clear hb hc hs)
  refine bodyPost_ret (AA Tryz.results50 _ _ (a1.heap.size) _ _ rfl HZ.out.2 _ Tryz.underlying37 rfl (Ax HRL.out)) rfl ?_
  exact⟨_,_,_,_,cv',rfl,HM.out.1,HM.out.2,HZ.out.1.keepoff (fun k hk=> by simp[hk])⟩
 ·skip
  have HK2:=Ag hk
  have HC0:=Ag (show(opC p tco)[0]?=some (.int .i64 6) from by show some (Value.int .i64 p.k)=_;rw[hk])
  have HX:=Ag (show Bg (⟨fs,cv.map CirV.m,ws⟩:IdM) p=SR from by rw[←HSR.out];unfold BJ;simp[hk])
  clear hk
  have c0:a2.cell? ⟨w.heap.size,0,none⟩=some (.int .i64 6):=(H2.out.2.1.cell 0).trans HC0.out
  go_wp2_with (first
  | (with_reducible refine Ap rfl 31 (.tmp 3) rfl (w.heap.size) 0 rfl (opC p tco) _ (As H2.out.2.1) Tryz.underlying31 rfl (Bp HTL.out) ?_))
  clear c0
  have HCC:=Ag (Dl p tco H2.out.1.enter HB.out HK.out HO.out HALL.out (.inr (.inr (.inl HK2.out))))
  rw[HX.out] at HCC
  refine HCC.out.mono ?_
  rintro e' b1 ⟨rtc,vf',vc',vw',cv',rfl,hm,hall',hown⟩
  have HB1:=Ag (show OwnX w0 m0 (a1.heap.size::w.heap.size::xs) b1 bp 97 [vf',vc',vw'] vf' vc' vw' SR.1.fs cv' SR.1.ws ((rtc,SR.2.b)::ex)∧Blk b1 a1.heap.size 37 (AC 0 0 0 (tmC 0 0 0 ⟨#[]⟩ (.slice none 0 0))) from⟨H2.out.1.leave2 hown,H2.out.2.2.keep hown.ch (fun e=> (H2.out.1.ax (a1.heap.size) (by simp)).1 e)⟩)
  have HR:=Ag (HB1.out.1.ex _ List.mem_cons_self)
  have HRL:=Ag HR.out.len
  have HRO:=Ag HR.out.one
  have HRZ:=Ag (show(AC SR.2.e SR.2.v SR.2.u rtc).length=(AC 0 0 0 (tmC 0 0 0 ⟨#[]⟩ (.slice none 0 0))).length from by simp[AC,HRL.out,tmC])
  have HM:=Ag (Ai hm hall')
  clear hm hall' hown
  go_wp2_with ((with_reducible refine Ao b1 rfl 37 (.tmp 4) (.tmp 30) rfl (a1.heap.size) 37 (AC 0 0 0 (tmC 0 0 0 ⟨#[]⟩ (.slice none 0 0))) (AC SR.2.e SR.2.v SR.2.u rtc) HB1.out.2 rfl rfl HRZ.out (Ax HRL.out) (AM HRO.out) ?_);intro z9 hb hc hs;have HZ:=Ag (Ai (HB1.out.1.setX (show a1.heap.size∈(a1.heap.size::w.heap.size::xs) by simp) HSZ.out hc) hb);clear hb hc hs)
  refine bodyPost_ret (AA Tryz.results50 _ _ (a1.heap.size) _ _ rfl HZ.out.2 _ Tryz.underlying37 rfl (Ax HRL.out)) rfl ?_
  exact⟨_,_,_,_,cv',rfl,HM.out.1,HM.out.2,HZ.out.1.keepoff (fun k hk=> by simp[hk])⟩
 ·skip
  have HK2:=Ag hk
  have HC0:=Ag (show(opC p tco)[0]?=some (.int .i64 7) from by show some (Value.int .i64 p.k)=_;rw[hk])
  have HX:=Ag (show Bg (⟨fs,cv.map CirV.m,ws⟩:IdM) p=SR from by rw[←HSR.out];unfold BJ;simp[hk])
  clear hk
  have c0:a2.cell? ⟨w.heap.size,0,none⟩=some (.int .i64 7):=(H2.out.2.1.cell 0).trans HC0.out
  go_wp2_with (first
  | (with_reducible refine Ap rfl 31 (.tmp 3) rfl (w.heap.size) 0 rfl (opC p tco) _ (As H2.out.2.1) Tryz.underlying31 rfl (Bp HTL.out) ?_))
  clear c0
  have HCC:=Ag (Dl p tco H2.out.1.enter HB.out HK.out HO.out HALL.out (.inr (.inr (.inr HK2.out))))
  rw[HX.out] at HCC
  refine HCC.out.mono ?_
  rintro e' b1 ⟨rtc,vf',vc',vw',cv',rfl,hm,hall',hown⟩
  have HB1:=Ag (show OwnX w0 m0 (a1.heap.size::w.heap.size::xs) b1 bp 97 [vf',vc',vw'] vf' vc' vw' SR.1.fs cv' SR.1.ws ((rtc,SR.2.b)::ex)∧Blk b1 a1.heap.size 37 (AC 0 0 0 (tmC 0 0 0 ⟨#[]⟩ (.slice none 0 0))) from⟨H2.out.1.leave2 hown,H2.out.2.2.keep hown.ch (fun e=> (H2.out.1.ax (a1.heap.size) (by simp)).1 e)⟩)
  have HR:=Ag (HB1.out.1.ex _ List.mem_cons_self)
  have HRL:=Ag HR.out.len
  have HRO:=Ag HR.out.one
  have HRZ:=Ag (show(AC SR.2.e SR.2.v SR.2.u rtc).length=(AC 0 0 0 (tmC 0 0 0 ⟨#[]⟩ (.slice none 0 0))).length from by simp[AC,HRL.out,tmC])
  have HM:=Ag (Ai hm hall')
  clear hm hall' hown
  go_wp2_with ((with_reducible refine Ao b1 rfl 37 (.tmp 4) (.tmp 30) rfl (a1.heap.size) 37 (AC 0 0 0 (tmC 0 0 0 ⟨#[]⟩ (.slice none 0 0))) (AC SR.2.e SR.2.v SR.2.u rtc) HB1.out.2 rfl rfl HRZ.out (Ax HRL.out) (AM HRO.out) ?_);intro z9 hb hc hs;have HZ:=Ag (Ai (HB1.out.1.setX (show a1.heap.size∈(a1.heap.size::w.heap.size::xs) by simp) HSZ.out hc) hb);clear hb hc hs)
  refine bodyPost_ret (AA Tryz.results50 _ _ (a1.heap.size) _ _ rfl HZ.out.2 _ Tryz.underlying37 rfl (Ax HRL.out)) rfl ?_
  exact⟨_,_,_,_,cv',rfl,HM.out.1,HM.out.2,HZ.out.1.keepoff (fun k hk=> by simp[hk])⟩
 ·skip
  have HK2:=Ag hk
  have HC0:=Ag (show(opC p tco)[0]?=some (.int .i64 8) from by show some (Value.int .i64 p.k)=_;rw[hk])
  have HX:=Ag (show CR (⟨fs,cv.map CirV.m,ws⟩:IdM) p=SR from by rw[←HSR.out];unfold BJ;simp[hk])
  clear hk
  have c0:a2.cell? ⟨w.heap.size,0,none⟩=some (.int .i64 8):=(H2.out.2.1.cell 0).trans HC0.out
  go_wp2_with (first
  | (with_reducible refine Ap rfl 31 (.tmp 3) rfl (w.heap.size) 0 rfl (opC p tco) _ (As H2.out.2.1) Tryz.underlying31 rfl (Bp HTL.out) ?_))
  clear c0
  have HCC:=Ag (Kh p tco H2.out.1.enter HB.out HK.out HO.out HALL.out)
  rw[HX.out] at HCC
  refine HCC.out.mono ?_
  rintro e' b1 ⟨rtc,vf',vc',vw',cv',rfl,hm,hall',hown⟩
  have HB1:=Ag (show OwnX w0 m0 (a1.heap.size::w.heap.size::xs) b1 bp 97 [vf',vc',vw'] vf' vc' vw' SR.1.fs cv' SR.1.ws ((rtc,SR.2.b)::ex)∧Blk b1 a1.heap.size 37 (AC 0 0 0 (tmC 0 0 0 ⟨#[]⟩ (.slice none 0 0))) from⟨H2.out.1.leave2 hown,H2.out.2.2.keep hown.ch (fun e=> (H2.out.1.ax (a1.heap.size) (by simp)).1 e)⟩)
  have HR:=Ag (HB1.out.1.ex _ List.mem_cons_self)
  have HRL:=Ag HR.out.len
  have HRO:=Ag HR.out.one
  have HRZ:=Ag (show(AC SR.2.e SR.2.v SR.2.u rtc).length=(AC 0 0 0 (tmC 0 0 0 ⟨#[]⟩ (.slice none 0 0))).length from by simp[AC,HRL.out,tmC])
  have HM:=Ag (Ai hm hall')
  clear hm hall' hown
  go_wp2_with ((with_reducible refine Ao b1 rfl 37 (.tmp 4) (.tmp 30) rfl (a1.heap.size) 37 (AC 0 0 0 (tmC 0 0 0 ⟨#[]⟩ (.slice none 0 0))) (AC SR.2.e SR.2.v SR.2.u rtc) HB1.out.2 rfl rfl HRZ.out (Ax HRL.out) (AM HRO.out) ?_);intro z9 hb hc hs;have HZ:=Ag (Ai (HB1.out.1.setX (show a1.heap.size∈(a1.heap.size::w.heap.size::xs) by simp) HSZ.out hc) hb);clear hb hc hs)
  refine bodyPost_ret (AA Tryz.results50 _ _ (a1.heap.size) _ _ rfl HZ.out.2 _ Tryz.underlying37 rfl (Ax HRL.out)) rfl ?_
  exact⟨_,_,_,_,cv',rfl,HM.out.1,HM.out.2,HZ.out.1.keepoff (fun k hk=> by simp[hk])⟩
 ·skip
  have HK2:=Ag hk
  have HC0:=Ag (show(opC p tco)[0]?=some (.int .i64 9) from by show some (Value.int .i64 p.k)=_;rw[hk])
  have HX:=Ag (show BZ (⟨fs,cv.map CirV.m,ws⟩:IdM) p=SR from by rw[←HSR.out];unfold BJ;simp[hk])
  clear hk
  have c0:a2.cell? ⟨w.heap.size,0,none⟩=some (.int .i64 9):=(H2.out.2.1.cell 0).trans HC0.out
  go_wp2_with (first
  | (with_reducible refine Ap rfl 31 (.tmp 3) rfl (w.heap.size) 0 rfl (opC p tco) _ (As H2.out.2.1) Tryz.underlying31 rfl (Bp HTL.out) ?_))
  clear c0
  have HCC:=Ag (G8 p tco H2.out.1.enter HB.out HK.out HO.out HALL.out (.inl HK2.out))
  rw[HX.out] at HCC
  refine HCC.out.mono ?_
  rintro e' b1 ⟨rtc,vf',vc',vw',cv',rfl,hm,hall',hown⟩
  have HB1:=Ag (show OwnX w0 m0 (a1.heap.size::w.heap.size::xs) b1 bp 97 [vf',vc',vw'] vf' vc' vw' SR.1.fs cv' SR.1.ws ((rtc,SR.2.b)::ex)∧Blk b1 a1.heap.size 37 (AC 0 0 0 (tmC 0 0 0 ⟨#[]⟩ (.slice none 0 0))) from⟨H2.out.1.leave2 hown,H2.out.2.2.keep hown.ch (fun e=> (H2.out.1.ax (a1.heap.size) (by simp)).1 e)⟩)
  have HR:=Ag (HB1.out.1.ex _ List.mem_cons_self)
  have HRL:=Ag HR.out.len
  have HRO:=Ag HR.out.one
  have HRZ:=Ag (show(AC SR.2.e SR.2.v SR.2.u rtc).length=(AC 0 0 0 (tmC 0 0 0 ⟨#[]⟩ (.slice none 0 0))).length from by simp[AC,HRL.out,tmC])
  have HM:=Ag (Ai hm hall')
  clear hm hall' hown
  go_wp2_with ((with_reducible refine Ao b1 rfl 37 (.tmp 4) (.tmp 30) rfl (a1.heap.size) 37 (AC 0 0 0 (tmC 0 0 0 ⟨#[]⟩ (.slice none 0 0))) (AC SR.2.e SR.2.v SR.2.u rtc) HB1.out.2 rfl rfl HRZ.out (Ax HRL.out) (AM HRO.out) ?_);intro z9 hb hc hs;have HZ:=Ag (Ai (HB1.out.1.setX (show a1.heap.size∈(a1.heap.size::w.heap.size::xs) by simp) HSZ.out hc) hb);clear hb hc hs)
  refine bodyPost_ret (AA Tryz.results50 _ _ (a1.heap.size) _ _ rfl HZ.out.2 _ Tryz.underlying37 rfl (Ax HRL.out)) rfl ?_
  exact⟨_,_,_,_,cv',rfl,HM.out.1,HM.out.2,HZ.out.1.keepoff (fun k hk=> by simp[hk])⟩
 ·skip
  have HK2:=Ag hk
  have HC0:=Ag (show(opC p tco)[0]?=some (.int .i64 10) from by show some (Value.int .i64 p.k)=_;rw[hk])
  have HX:=Ag (show BZ (⟨fs,cv.map CirV.m,ws⟩:IdM) p=SR from by rw[←HSR.out];unfold BJ;simp[hk])
  clear hk
  have c0:a2.cell? ⟨w.heap.size,0,none⟩=some (.int .i64 10):=(H2.out.2.1.cell 0).trans HC0.out
  go_wp2_with (first
  | (with_reducible refine Ap rfl 31 (.tmp 3) rfl (w.heap.size) 0 rfl (opC p tco) _ (As H2.out.2.1) Tryz.underlying31 rfl (Bp HTL.out) ?_))
  clear c0
  have HCC:=Ag (G8 p tco H2.out.1.enter HB.out HK.out HO.out HALL.out (.inr HK2.out))
  rw[HX.out] at HCC
  refine HCC.out.mono ?_
  rintro e' b1 ⟨rtc,vf',vc',vw',cv',rfl,hm,hall',hown⟩
  have HB1:=Ag (show OwnX w0 m0 (a1.heap.size::w.heap.size::xs) b1 bp 97 [vf',vc',vw'] vf' vc' vw' SR.1.fs cv' SR.1.ws ((rtc,SR.2.b)::ex)∧Blk b1 a1.heap.size 37 (AC 0 0 0 (tmC 0 0 0 ⟨#[]⟩ (.slice none 0 0))) from⟨H2.out.1.leave2 hown,H2.out.2.2.keep hown.ch (fun e=> (H2.out.1.ax (a1.heap.size) (by simp)).1 e)⟩)
  have HR:=Ag (HB1.out.1.ex _ List.mem_cons_self)
  have HRL:=Ag HR.out.len
  have HRO:=Ag HR.out.one
  have HRZ:=Ag (show(AC SR.2.e SR.2.v SR.2.u rtc).length=(AC 0 0 0 (tmC 0 0 0 ⟨#[]⟩ (.slice none 0 0))).length from by simp[AC,HRL.out,tmC])
  have HM:=Ag (Ai hm hall')
  clear hm hall' hown
  go_wp2_with ((with_reducible refine Ao b1 rfl 37 (.tmp 4) (.tmp 30) rfl (a1.heap.size) 37 (AC 0 0 0 (tmC 0 0 0 ⟨#[]⟩ (.slice none 0 0))) (AC SR.2.e SR.2.v SR.2.u rtc) HB1.out.2 rfl rfl HRZ.out (Ax HRL.out) (AM HRO.out) ?_);intro z9 hb hc hs;have HZ:=Ag (Ai (HB1.out.1.setX (show a1.heap.size∈(a1.heap.size::w.heap.size::xs) by simp) HSZ.out hc) hb);clear hb hc hs)
  refine bodyPost_ret (AA Tryz.results50 _ _ (a1.heap.size) _ _ rfl HZ.out.2 _ Tryz.underlying37 rfl (Ax HRL.out)) rfl ?_
  exact⟨_,_,_,_,cv',rfl,HM.out.1,HM.out.2,HZ.out.1.keepoff (fun k hk=> by simp[hk])⟩
theorem FC (p:OpM) (tc:List Value) (F:Nat→Prop) (w:World) (ht:TmC F w tc p.b):
  Calls Tryz.prog 49 #[.agg (opC p tc).toArray] w (fun e w'=> e=.returned (.int .i64 (if opB p=true then 0 else 281))∧Below w.heap.size w w'):=by
 have HT:=Ag (Ai ht ht.len)
 obtain⟨R,hR⟩:∃ r,opB p=r:=⟨_,rfl⟩
 have HR:=Ag hR
 rw[hR]
 obtain⟨ans,hans⟩:∃ x:Int,(if R=true then 0 else 281)=x:=⟨_,rfl⟩
 have HANS:=Ag hans
 rw[hans]
 clear hans
 obtain⟨us,hus⟩:∃ b,AX p.u=b:=⟨_,rfl⟩
 have HUS:=Ag hus
 obtain⟨nf,hnf⟩:∃ n,BE p.nm=n:=⟨_,rfl⟩
 have HNF:=Ag hnf
 obtain⟨bd,hbd⟩:∃ b,C5 p.b=b:=⟨_,rfl⟩
 have HBD:=Ag hbd
 have HU1:=Ag (fun (W:World)=> show Calls Tryz.prog 64 #[.int .i64 p.u] W (fun e w'=> e=.returned (.bool us)∧W=w') from by have h:=CA p.u W;rw[hus] at h;exact h)
 have HN1:=Ag (fun (W:World)=> show Calls Tryz.prog 36 #[.string p.nm] W (fun e w'=> e=.returned (.int .i64 nf)∧Below W.heap.size W w') from by have h:=Eb p.nm W;rw[hnf] at h;exact h)
 have HB1:=Ag (fun (W:World) (hb:Below w.heap.size w W)=> show Calls Tryz.prog 68 #[.agg tc.toArray] W (fun e w'=> e=.returned (.bool bd)∧Below W.heap.size W w') from by have h:=Ih p.b tc F W (ht.below hb);rw[hbd] at h;exact h)
 clear ht hR hus hnf hbd
 go_enter Tryz.func49,Tryz.ntmps49
 go_upto_region 1 with(first
  | ((with_reducible refine Au w rfl 31 (.tmp 0) rfl (opC p tc) rfl ?_);intro a1 hb hbel hsz;have H1:=hJ2 hb hbel;have c0:=hb.cell 0;have c1:=hb.cell 1;have c2:=hb.cell 2;simp only[opC,Ab,Ac] at c0 c1 c2;clear hb hbel hsz))
 try simp only[Al,Ad,Ae,Af]
 by_cases h1:1≤p.k
 ·have h1d:decide (1≤p.k)=true:=decide_eq_true h1
  by_cases h10:p.k≤10
  ·have h10d:decide (p.k≤10)=true:=decide_eq_true h10
   go_wp2_with fail
   refine(HU1.out a1).mono ?_
   rintro e' w' ⟨rfl,rfl⟩
   cases us
   ·skip
    have HX:=Ag (show ans=281 from by
     have h:R=false:=by
      rw[←HR.out]
      unfold opB
      simp[HUS.out]
     rw[←HANS.out,h]
     rfl)
    go_wp2_with fail
    go_ret
    exact⟨by rw[HX.out] <;> rfl,H1.out.2⟩
   ·skip
    by_cases h7:7<p.k
    ·have h7d:decide (7<p.k)=true:=decide_eq_true h7
     have h2:2<p.k:=by omega
     have h2d:decide (2<p.k)=true:=decide_eq_true h2
     have HX:=Ag (show ans=0 from by
      have h:R=true:=by
       rw[←HR.out]
       unfold opB
       simp[HUS.out,h1,h10,h2,h7]
      rw[←HANS.out,h]
      rfl)
     go_wp2_with fail
     go_ret
     exact⟨by rw[HX.out] <;> rfl,H1.out.2⟩
    ·have h7d:decide (7<p.k)=false:=decide_eq_false h7
     go_wp2_with fail
     refine(HN1.out a1).mono ?_
     rintro e' b1 ⟨rfl,hb⟩
     have HB0:=hJ2 (H1.out.1.below hb H1.out.1.lt) (An H1.out.2 hb (Ah _))
     have c0:=HB0.out.1.cell 0
     simp only[opC,Ab,Ac] at c0
     clear hb
     by_cases hn:0<nf
     ·have hnd:decide (0<nf)=true:=decide_eq_true hn
      by_cases h2:2<p.k
      ·have h2d:decide (2<p.k)=true:=decide_eq_true h2
       have HX:=Ag (show ans=0 from by
        have h:R=true:=by
         rw[←HR.out]
         unfold opB
         simp[HUS.out,h1,h10,h2,HNF.out,hn]
        rw[←HANS.out,h]
        rfl)
       go_wp2_with fail
       go_ret
       exact⟨by rw[HX.out] <;> rfl,HB0.out.2⟩
      ·have h2d:decide (2<p.k)=false:=decide_eq_false h2
       go_wp2_with (first
  | ((with_reducible refine AO ?_ 29 (.tmp 34) rfl (w.heap.size) 6 rfl tc _ (Da HB0.out.1) Tryz.underlying29 rfl (At Tryz.infoTm HT.out.2) ?_);focus rfl))
       refine(HB1.out b1 HB0.out.2).mono ?_
       rintro e' b2 ⟨rfl,hb⟩
       have HB2:=hJ2 (HB0.out.1.below hb HB0.out.1.lt) (An HB0.out.2 hb (Ah _))
       clear hb
       cases bd
       ·skip
        have HX:=Ag (show ans=281 from by
         have h:R=false:=by
          rw[←HR.out]
          unfold opB
          simp[HBD.out,h2]
         rw[←HANS.out,h]
         rfl)
        go_wp2_with fail
        go_ret
        exact⟨by rw[HX.out] <;> rfl,HB2.out.2⟩
       ·skip
        have HX:=Ag (show ans=0 from by
         have h:R=true:=by
          rw[←HR.out]
          unfold opB
          simp[HUS.out,HBD.out,h1,h10,HNF.out,hn]
         rw[←HANS.out,h]
         rfl)
        go_wp2_with fail
        go_ret
        exact⟨by rw[HX.out] <;> rfl,HB2.out.2⟩
     ·have hnd:decide (0<nf)=false:=decide_eq_false hn
      have HX:=Ag (show ans=281 from by
       have h:R=false:=by
        rw[←HR.out]
        unfold opB
        simp[HNF.out,hn]
        intros
        omega
       rw[←HANS.out,h]
       rfl)
      go_wp2_with fail
      go_ret
      exact⟨by rw[HX.out] <;> rfl,HB0.out.2⟩
  ·have h10d:decide (p.k≤10)=false:=decide_eq_false h10
   have HX:=Ag (show ans=281 from by
    have h:R=false:=by
     rw[←HR.out]
     unfold opB
     simp[h10]
    rw[←HANS.out,h]
    rfl)
   go_wp2_with fail
   go_ret
   exact⟨by rw[HX.out] <;> rfl,H1.out.2⟩
 ·have h1d:decide (1≤p.k)=false:=decide_eq_false h1
  have HX:=Ag (show ans=281 from by
   have h:R=false:=by
    rw[←HR.out]
    unfold opB
    simp[h1]
   rw[←HANS.out,h]
   rfl)
  go_wp2_with fail
  go_ret
  exact⟨by rw[HX.out] <;> rfl,H1.out.2⟩
def ES:IdM:=⟨[],[],[]⟩
def OpC (F:Nat→Prop) (w:World) (cs:List Value) (p:OpM):Prop:=∃ tc,cs=opC p tc∧TmC F w tc p.b
def RsC (F:Nat→Prop) (w:World) (cs:List Value) (r:ResM):Prop:=∃ tc,cs=AC r.e r.v r.u tc∧TmC F w tc r.b
def RsX (ex:List (List Value × Tm)) (_:World) (cs:List Value) (r:ResM):Prop:=∃ tc,cs=AC r.e r.v r.u tc∧tc.length=5∧(∀ x∈tc,x.oneCell'=true)∧(tc,r.b)∈ex
def goM:List OpM→IdM→List ResM→IdM × List ResM × Int
 | [],s,acc=> (s,acc,0)
 | p::t,s,acc=> if opB p=true then goM t (BJ s p).1 (acc ++ [(BJ s p).2]) else (ES,[],281)
def Hq (s:IdM) (ops:List OpM):IdM × List ResM × Int:=if D0 s=true then goM ops s [] else (ES,[],282)
def RunP (ys:List Nat) (w:World) (r:IdM × List ResM × Int) (e:Ending) (w':World):Prop:=
 ∃ cs vr,e=.returned (.tuple #[.agg cs.toArray,vr,.int .i64 r.2.2])∧IdC (·∉ys) w' cs r.1∧RwC (RsC (·∉ys)) 8 (·∉ys) w' vr r.2.1∧Below w.heap.size w w'
theorem OpC.len {F:Nat→Prop} {w:World} {cs:List Value} {p:OpM} (h:OpC F w cs p):cs.length=11:=by
 obtain⟨tc,rfl,h⟩:=h
 simp[opC,h.len]
theorem OpC.one {F:Nat→Prop} {w:World} {cs:List Value} {p:OpM} (h:OpC F w cs p):∀ v∈cs,v.oneCell'=true:=by
 obtain⟨tc,rfl,h⟩:=h
 exact F2 h.one
theorem RsX.one {ex:List (List Value × Tm)} {w:World} {cs:List Value} {r:ResM} (h:RsX ex w cs r):∀ v∈cs,v.oneCell'=true:=by
 obtain⟨tc,rfl,-,h,-⟩:=h
 exact AM h
theorem Tryz.zeroId3b:∀ w,(zeroValue 26).run Tryz.prog w=.ok (.agg (([(.slice none 0 0),(.slice none 0 0),(.slice none 0 0)]:List Value)).toArray) w:=fun w=> by kernel_rfl
theorem Tryz.zeroOp:∀ w,(zeroValue 31).run Tryz.prog w=.ok (.agg (opC ⟨0,0,⟨#[]⟩,0,0,false,tm0⟩ (tmC 0 0 0 ⟨#[]⟩ (.slice none 0 0))).toArray) w:=fun w=> by kernel_rfl
theorem Tryz.infoR8:(Tryz.prog.info? 37).map (fun i=> (i.zero,i.size,i.bytes))=some (some (.agg (AC 0 0 0 (tmC 0 0 0 ⟨#[]⟩ (.slice none 0 0))).toArray),8,88):=by kernel_rfl
theorem FV (w:World) {ops:Array Oper} {rest:List Oper} {o:Oper} {a:Act} {Q:Exit→Act→World→Prop} (hgd:o.guard=none) (x:Operand) (ho:o.op=.buildSlice 63 1 #[(0,x)]) (cs:List Value) (hcs:cs.length=8)
  (hx:a.eval x=.agg cs.toArray) (h:∀ w',Blk w' w.heap.size 37 cs→Below w.heap.size w w'→w'.heap.size=w.heap.size+1→wpList Tryz.prog ops Q rest (a.put o.dst (.slice (some ⟨w.heap.size,0,none⟩) 1 1)) w'):wpList Tryz.prog ops Q (o::rest) a w:=
 Bk w hgd 63 x ho Tryz.underlying63 (fun w=> by kernel_rfl) (zs:=(AC 0 0 0 (tmC 0 0 0 ⟨#[]⟩ (.slice none 0 0))).toArray) (fun w=> by kernel_rfl) (by decide) (by decide) cs hcs hx h
theorem CB {P:Program} {fn:Func} {p u x:Tmp} {ty:TypeId} (h:fn.results=#[.cell p ty,.tmp u,.tmp x]) (tmps:Array Value) (w:World) (g:Nat) (e:TypeId) (xs:List Value) (hp:tmps.getD p undef=.pointer (some ⟨g,0,none⟩)) (hb:Blk w g e xs) (d:TypeDesc)
  (hu:P.underlying ty=some d) (hd:d.isRow=true) (hi:(P.info? ty).map (·.size)=some xs.length) (v:Value) (hv:tmps.getD u undef=v) (v':Value) (hv':tmps.getD x undef=v'):(results fn tmps).run P w=.ok (.tuple #[.agg xs.toArray,v,v']) w:=by
 have hl:=run_loadVar_mid (P:=P) w g 0 ty xs d (fun j v hv=> by rw[Nat.zero_add,hb.cell];exact hv) hu hd hi
 have e:(results fn tmps).run P w=((asAddr (tmps.getD p undef)).run P w).andThen fun a w₁=> ((loadVar ty a).run P w₁).andThen fun v w₂=> .ok (.tuple #[v,tmps.getD u undef,tmps.getD x undef]) w₂:=by
  simp only[results,h]
  simp[Sem.run_bind,Result.andThen]
 rw[e,hp,hv,hv']
 simp only[asAddr,Sem.run_pure,Result.andThen_ok,hl]
theorem Jn:∀ v∈([.slice none 0 0,.slice none 0 0,.slice none 0 0]:List Value),v.oneCell'=true:=fun v hv=> by
 simp only[List.mem_cons,List.not_mem_nil,or_false] at hv
 rcases hv with rfl|rfl|rfl <;> rfl
section
variable {w0 w w':World} {m0 xs:List Nat} {bp:Nat} {bt:TypeId} {cells cells':List Value} {vf vc vw vf' vc' vw':Value} {fs fs':List FileM} {cv cv':List CirV} {ws ws':List WrM} {ex:List (List Value × Tm)}
theorem OwnX.grow {v v':Value} {xs0:List Nat} (h:OwnX w0 m0 xs w bp bt cells vf vc vw fs cv ws ex) (hv:∀ k,v.ownBlock=some k→k∈xs∧w0.heap.size≤k) (hc:Ch (fun k=> v.ownBlock=some k) w w') (hx:∀ k∈xs0,k∈xs)
  (hob:v'.ownBlock=v.ownBlock∨v'.ownBlock=some w.heap.size) (hlt:∀ k,v'.ownBlock=some k→k<w'.heap.size):OwnX w0 m0 (ob v' ++ xs0) w' bp bt cells vf vc vw fs cv ws ex:=by
 have hN:∀ k,Fz xs (msL bp vf vc vw cv) w k→¬ (v.ownBlock=some k):=fun k hk e=> hk.1.1 (hv k e).1
 have hm:∀ k∈msL bp vf vc vw cv,¬ (v.ownBlock=some k):=fun k hk e=> (h.ax k (hv k e).1).1 hk
 have hG:∀ k,Fz xs (msL bp vf vc vw cv) w k→Fz (ob v' ++ xs0) (msL bp vf vc vw cv) w' k:=fun k hk=> ⟨⟨fun e=> by
  rcases List.mem_append.1 e with e|e
  ·have e:=AF.1 e
   rcases hob with h1|h1
   ·rw[h1] at e;exact hN k hk e
   ·rw[h1] at e;injection e with e;have:=hk.2;omega
  ·exact hk.1.1 (hx k e),hk.1.2⟩,Ak hk.2 hc.size⟩
 refine⟨⟨hc.os.trans h.ch.os,hc.tape.trans h.ch.tape,hc.output.trans h.ch.output,Aj h.ch.size hc.size,fun k hk hn=> ?_⟩,h.nd,h.sub,fun k hk=> ?_,
  h.bl.keep hc (hm _ of_b),h.rf.keep' hc (fun k hk=> hm k (FR k (AF.2 hk))) (fun cs a _ hf=> hf.keep' hc hN hG),h.rc.keep' hc (fun k hk=> hm k (FS k (AF.2 hk))) (fun cs a ha hf=> hf.keep' hc (fun k hk=> hm k (Gt k (BR.2 ⟨a,ha,hk⟩))) hN hG),h.rw.keep' hc (fun k hk=> hm k (GR k (AF.2 hk))) (fun cs a _ hf=> hf.keep' hc hN hG),fun p hp=> TmC.keep' hc hN hG _ _ (h.ex p hp)⟩
 ·rw[hc.block k (Ak hk h.ch.size) (fun e=> by have:=(hv k e).2;omega)]
  exact h.ch.block k hk hn
 ·rcases List.mem_append.1 hk with e|e
  ·have e:=AF.1 e
   refine⟨fun hmm=> ?_,hlt k e⟩
   rcases hob with h1|h1
   ·rw[h1] at e;exact hm k hmm e
   ·rw[h1] at e;injection e with e;have:=h.lt k hmm;omega
  ·exact⟨(h.ax k (hx k e)).1,Ak (h.ax k (hx k e)).2 hc.size⟩
theorem OwnX.idx (h:OwnX w0 m0 xs w bp bt cells vf vc vw fs cv ws ex) (ys:List Nat) (hy:∀ k∈ys,k∈xs):IdC (·∉ys) w [vf,vc,vw] ⟨fs,cv.map CirV.m,ws⟩:=by
 have hm:∀ k∈msL bp vf vc vw cv,k∉ys:=fun k hk e=> (h.ax k (hy k e)).1 hk
 have hz:∀ k,Fz xs (msL bp vf vc vw cv) w k→k∉ys:=fun k hk e=> hk.1.1 (hy k e)
 refine⟨vf,vc,vw,rfl,h.rf.rwc.mono (fun k hk=> hm k (FR k (AF.2 hk))) (fun cs a _ hf=> hf.mono hz),?_,h.rw.rwc.mono (fun k hk=> hm k (GR k (AF.2 hk))) (fun cs a _ hf=> hf.mono hz)⟩
 obtain⟨ao,c,h1,h2,h3,h4⟩:=h.rc.rwc
 refine⟨ao,c,by rw[List.length_map];exact h1,by rw[List.length_map];exact h2,h3,fun h0=> ?_⟩
 obtain⟨b,o,e,hF,hb,ha⟩:=h4 (by rwa [List.length_map] at h0)
 refine⟨b,o,e,hm b (FS b (AF.2 hF)),hb,fun j hj=> ?_⟩
 rw[List.length_map] at hj
 obtain⟨cs,h5,h6,h7⟩:=ha j hj
 refine⟨cs,h5,h6,?_⟩
 rw[List.getElem_map]
 obtain⟨k1,k2,k3⟩:=h7
 refine⟨cv[j].vu,k1,?_⟩
 cases ho:cv[j].own with
 | true=> exact⟨Sl.of_owns (k2 ho),fun k _ hk=> hm k (Gt k (BR.2 ⟨cv[j],List.getElem_mem hj,by unfold CirV.ub;rw[if_pos ho];exact AF.2 hk⟩))⟩
 | false=> exact⟨(k3 ho).1,fun k h0 hk=> hz k ((k3 ho).2 k h0 hk)⟩
theorem OwnX.bel0 (h:OwnX w0 [] xs w bp bt cells vf vc vw fs cv ws ex):Below w0.heap.size w0 w:=h.ch.below (fun k _ e=> nomatch e)
theorem OwnX.base {a:World} (h:OwnX w0 [] xs w bp bt cells vf vc vw fs cv ws ex) (hb:Below a.heap.size a w0):OwnX a [] xs w bp bt cells vf vc vw fs cv ws ex:=
 ⟨Ch.of_below (An hb h.bel0 (Ah _)) (Ah _),h.nd,fun k hk=> .inr ((h.sub k hk).elim (fun e=> nomatch e) (fun e=> Aj hb.size e)),h.ax,h.bl,h.rf,h.rc,h.rw,h.ex⟩
end
theorem OwR.rsx {ex ex':List (List Value × Tm)} {sz B:Nat} {ty:TypeId} {w w':World} {v:Value} {l:List ResM} {S:Nat→Prop} (h:OwR (RsX ex) sz ty B w v l) (hc:Ch S w w') (hS:∀ k,v.ownBlock=some k→¬ S k) (he:∀ p∈ex,p∈ex'):OwR (RsX ex') sz ty B w' v l:=
 h.keep' hc hS (fun cs a _ ⟨tc,h1,h2,h3,h4⟩=> ⟨tc,h1,h2,h3,he _ h4⟩)
theorem Tryz.buildid0:∀ w,(Instr.build 26 #[]).run Tryz.prog w=.ok (.agg (([(.slice none 0 0),(.slice none 0 0),(.slice none 0 0)]:List Value)).toArray) w:=fun w=> by kernel_rfl
theorem Cb {ops:Array Oper} {rest:List Oper} {op:Oper} {a:Act} {w:World} {Q:Exit→Act→World→Prop} (hgd:op.guard=none) (ho:op.op=.build 26 #[])
  (h:wpList Tryz.prog ops Q rest (a.put op.dst (.agg (([(.slice none 0 0),(.slice none 0 0),(.slice none 0 0)]:List Value)).toArray)) w):wpList Tryz.prog ops Q (op::rest) a w:=by
 refine wpList_plain hgd fun K hK=> ?_
 have hrun:(execOp a.eval op).run Tryz.prog w=.ok (.value (.agg (([(.slice none 0 0),(.slice none 0 0),(.slice none 0 0)]:List Value)).toArray)) w:=by
  unfold execOp
  simp only[ho]
  simp[Tryz.buildid0,Result.andThen]
 unfold Oper.wp
 rw[hrun]
 exact hK _ _ h
theorem Tryz.buildfiles (fa:Option Addr) (fl fc:Nat) (ca:Option Addr) (cl cc:Nat) (wa:Option Addr) (wl wc:Nat):∀ w,(Instr.build 97 #[(0,.agg ([.slice fa fl fc,.slice ca cl cc,.slice wa wl wc]:List Value).toArray)]).run Tryz.prog w=.ok (.agg ([.slice fa fl fc,.slice ca cl cc,.slice wa wl wc]:List Value).toArray) w:=fun w=> by kernel_rfl
theorem Ew {ops:Array Oper} {rest:List Oper} {op:Oper} {a:Act} {w:World} {Q:Exit→Act→World→Prop} (hgd:op.guard=none) (x0:Operand) (ho:op.op=.build 97 #[(0,x0)])
  (fa:Option Addr) (fl fc:Nat) (ca:Option Addr) (cl cc:Nat) (wa:Option Addr) (wl wc:Nat) (h0:a.eval x0=.agg ([.slice fa fl fc,.slice ca cl cc,.slice wa wl wc]:List Value).toArray)
  (h:wpList Tryz.prog ops Q rest (a.put op.dst (.agg ([.slice fa fl fc,.slice ca cl cc,.slice wa wl wc]:List Value).toArray)) w):wpList Tryz.prog ops Q (op::rest) a w:=by
 refine wpList_plain hgd fun K hK=> ?_
 have hrun:(execOp a.eval op).run Tryz.prog w=.ok (.value (.agg ([.slice fa fl fc,.slice ca cl cc,.slice wa wl wc]:List Value).toArray)) w:=by
  unfold execOp
  simp only[ho]
  rw[show((#[((0:Nat),x0)]:Array (Nat × Operand)).map fun (i,x)=> (i,a.eval x))=#[(0,.agg ([.slice fa fl fc,.slice ca cl cc,.slice wa wl wc]:List Value).toArray)] by simp[h0]]
  simp[Tryz.buildfiles,Result.andThen]
 unfold Oper.wp
 rw[hrun]
 exact hK _ _ h
theorem JG (Cv:∀ {s:IdM} {o:OpM},ChkP s→opB o=true→ChkP (BJ s o).1) (s:IdM) (cs:List Value) (ops:List OpM) (vl:Value) (F:Nat→Prop) (ys:List Nat) (w:World) (hs:IdC F w cs s) (hF:∀ k,F k→k∉ys) (hys:∀ k∈ys,k<w.heap.size) (hl:s.cs.length≤1000000000)
  (F':Nat→Prop) (ho:RwC (OpC F) 11 F' w vl ops) (hn:ops.length≤1000):Calls Tryz.prog 19 #[.agg cs.toArray,vl] w (RunP ys w (Hq s ops)):=by
 have HY:=Ag (show ∀ k∈ys,k<w.heap.size from hys)
 obtain⟨la,lc,rfl,hlc1,hlc2⟩:=ho.shape
 obtain⟨n,hn'⟩:∃ n,ops.length=n:=⟨_,rfl⟩
 have HN:=Ag hn'
 have HID:=Ag (show IdC (Lo ys w) w cs s∧cs.length=3∧(∀ v∈cs,v.oneCell'=true) from by
  obtain⟨vf,vc,vw,rfl,h1⟩:=id hs
  have h2:=hs.old' hF
  refine⟨⟨vf,vc,vw,rfl,h2⟩,rfl,fun v hv=> ?_⟩
  obtain⟨_,_,e1,-⟩:=h2.1.shape
  obtain⟨_,_,e2,-⟩:=h2.2.1.shape
  obtain⟨_,_,e3,-⟩:=h2.2.2.shape
  simp only[List.mem_cons,List.not_mem_nil,or_false] at hv
  rcases hv with rfl|rfl|rfl
  ·rw[e1];rfl
  ·rw[e2];rfl
  ·rw[e3];rfl)
 have HCL:=Ag HID.out.2.1
 have HOPS:=Ag (show RwC (OpC (Lo ys w)) 11 (fun _=> True) w (.slice la n lc) ops from by
  rw[←hn']
  exact ho.mono (fun _ _=> trivial) (fun cs a _ h=> by
   obtain⟨tc,h1,h2⟩:=h
   exact⟨tc,h1,(TmC.old' _ _ h2).mono fun k hk=> ⟨hF k hk.1,hk.2⟩⟩))
 have HL:=Ag hl
 have hnl:n≤1000:=by omega
 rw[hn']
 obtain⟨R,hR⟩:∃ R,Hq s ops=R:=⟨_,rfl⟩
 have HR:=Ag hR
 rw[hR]
 obtain⟨R1,R2,R3⟩:=R
 have HCK:=Ag (fun (W:World) (hb:Below w.heap.size w W)=> C7 s cs (Lo ys w) W (HID.out.1.below hb) HL.out)
 clear hs hF hys hl ho hn hn' hR hlc1 hlc2
 go_enter Tryz.func19,Tryz.ntmps19
 go_upto_region 1 with(first
  | ((with_reducible refine Au w rfl 26 (.tmp 0) rfl (cs) rfl ?_);intro a1 hb hbel hsz;have H1:=hJ2 hb hbel;clear hb hbel hsz)
  | ((with_reducible refine Av a1 rfl 26 rfl ([(.slice none 0 0),(.slice none 0 0),(.slice none 0 0)]) Tryz.zeroId3b ?_);intro a2 hb hbel hsz;have H2:=hJ3 (H1.out.1.below hbel H1.out.1.lt) (An H1.out.2 hbel (Ah _)) hb;have HG:=hJ2 H1.out.1.lt hb.lt;clear hb hbel hsz))
 try simp only[Al,Ad,Ae,Af]
 clear H1
 by_cases hk:D0 s=true
 ·have HK:=Ag (Dj.1 hk)
  have HRR:=Ag (show goM ops s []=(R1,R2,R3) from by rw[←HR.out];unfold Hq;rw[if_pos hk])
  have HC0:=Ag (show ∀ (W:World),Below w.heap.size w W→Calls Tryz.prog 16 #[.agg cs.toArray] W (fun e w'=> e=.returned (.int .i64 0)∧Below W.heap.size W w') from fun W hb=> by have h:=HCK.out W hb;rw[if_pos hk] at h;exact h)
  clear hk HR HCK
  go_wp2_with (first
  | (with_reducible refine Ap rfl 26 (.tmp 2) rfl (w.heap.size) 0 rfl (cs) _ (As H2.out.1) Tryz.underlying26 rfl (At Tryz.infoId HCL.out) ?_))
  refine(HC0.out a2 H2.out.2.1).mono ?_
  rintro e' b1 ⟨rfl,hb⟩
  have HB1:=hJ3 (H2.out.1.below hb H2.out.1.lt) (An H2.out.2.1 hb (Ah _)) (H2.out.2.2.below hb H2.out.2.2.lt)
  clear hb H2
  have HOW:=Ag (fun (W:World) (hb:Below b1.heap.size b1 W)=> Kb s cs (Lo ys w) W (HID.out.1.below (An HB1.out.2.1 hb (Ah _))) HK.out.few (a1.heap.size::ys) (fun k hk e=> by
   rcases List.mem_cons.1 e with e|e
   ·have:=hk.2;have:=HG.out;omega
   ·exact hk.1 e) (fun k e=> by
   have:=hb.size
   have h1:=HB1.out.2.2.lt
   have h2:=HB1.out.2.1.size
   rcases List.mem_cons.1 e with e|e
   ·omega
   ·have:=HY.out k e;omega))
  go_wp2_with (first
  | (with_reducible refine Ap rfl 26 (.tmp 2) rfl (w.heap.size) 0 rfl (cs) _ (As HB1.out.1) Tryz.underlying26 rfl (At Tryz.infoId HCL.out) ?_))
  refine(HOW.out b1 (Below.refl _ _)).mono ?_
  rintro e' b2 ⟨bp,vf,vc,vw,cv,rfl,hm,hall,hbp,hown⟩
  obtain⟨af,cf,rfl,-⟩:=hown.rf.shape
  obtain⟨ac,cc,rfl,-⟩:=hown.rc.shape
  obtain⟨aw,cw,rfl,-⟩:=hown.rw.shape
  have HRS:=Ag (show Blk b2 a1.heap.size 26 [(.slice none 0 0),(.slice none 0 0),(.slice none 0 0)] from HB1.out.2.2.keep hown.ch (fun e=> nomatch e))
  have HOWN:=Ag (hown.base HB1.out.2.1)
  have HM:=Ag (Ai hm hall)
  have HGB2:=Ag (show a1.heap.size<b1.heap.size∧w.heap.size≤a1.heap.size from⟨HB1.out.2.2.lt,by have:=HG.out;omega⟩)
  have HB12:=Ag (show b1.heap.size≤b2.heap.size from hown.ch.size)
  clear hm hall hown hbp
  go_wp2_with (first
  | (with_reducible refine Ew rfl (.tmp 20) rfl af s.fs.length cf ac cv.length cc aw s.ws.length cw rfl ?_)
  | ((with_reducible refine Au b2 rfl 97 (.tmp 21) rfl ([.slice af s.fs.length cf,.slice ac cv.length cc,.slice aw s.ws.length cw]) rfl ?_);intro b3 hb hbel hsz;have HB3:=Ag (show OwnX w [] (a1.heap.size::ys) b3 (b2.heap.size) 97 [(.slice af s.fs.length cf),(.slice ac cv.length cc),(.slice aw s.ws.length cw)] (.slice af s.fs.length cf) (.slice ac cv.length cc) (.slice aw s.ws.length cw) s.fs cv s.ws []∧Blk b3 (a1.heap.size) 26 ([(.slice none 0 0),(.slice none 0 0),(.slice none 0 0)]) from⟨HOWN.out.rebase hbel (Ah _) hb,HRS.out.below hbel HRS.out.lt⟩);have HB23:=Ag hbel.size;clear hb hbel hsz))
  clear HOWN HRS HOW HC0
  have H0:=Ag (show OwnX w [] (ob (.slice none 0 0) ++ (a1.heap.size::ys)) b3 (b2.heap.size) 97 [(.slice af s.fs.length cf),(.slice ac cv.length cc),(.slice aw s.ws.length cw)] (.slice af s.fs.length cf) (.slice ac cv.length cc) (.slice aw s.ws.length cw) s.fs cv s.ws []∧Blk b3 (a1.heap.size) 26 ([(.slice none 0 0),(.slice none 0 0),(.slice none 0 0)])∧OwR (RsX []) 8 37 b1.heap.size b3 (.slice none 0 0) []∧b1.heap.size≤b3.heap.size from⟨HB3.out.1,HB3.out.2,OwR.nil,by have:=HB12.out;have:=HB23.out;omega⟩)
  clear HB3
  go_wp2_with fail
  go_loopw [9,25] (fun s9 s25 wr=> ∃ (k:Nat) (l:List ResM) (oz:Option Addr) (pz:Nat) (vf vc vw:Value) (fs:List FileM) (cv:List CirV) (ws:List WrM) (ex:List (List Value × Tm)),s25=.int .i64 k∧k≤n∧s9=.slice oz l.length pz∧Hid (l.length=k∧goM (ops.drop k) ⟨fs,cv.map CirV.m,ws⟩ l=(R1,R2,R3))∧Hid (ChkP ⟨fs,cv.map CirV.m,ws⟩∧∀ c∈cv,c.own=true)∧Hid (OwnX w [] (ob (.slice oz l.length pz) ++ (a1.heap.size::ys)) wr (b2.heap.size) 97 [vf,vc,vw] vf vc vw fs cv ws ex∧Blk wr (a1.heap.size) 26 ([(.slice none 0 0),(.slice none 0 0),(.slice none 0 0)])∧OwR (RsX ex) 8 37 b1.heap.size wr (.slice oz l.length pz) l∧b1.heap.size≤wr.heap.size)) (fun _ s25 _=> n - (intOf s25).toNat)
  case atStart=> exact⟨0,[],none,0,_,_,_,s.fs,cv,s.ws,[],rfl,Nat.zero_le _,rfl,Ag ⟨rfl,by rw[List.drop_zero,HM.out.1];exact HRR.out⟩,Ag ⟨by rw[HM.out.1];exact HK.out,HM.out.2⟩,H0⟩
  case round=>
   clear H0 HRR HM HK
   obtain⟨k,l,oz,pz,vf,vc,vw,fs,cv,ws,ex,rfl,hk,rfl,HT,HP,HO⟩:=hrel
   by_cases hlt:k<n
   ·have hkl:k<ops.length:=by rw[HN.out];exact hlt
    have hkz:(k:Int)<(n:Int):=by omega
    have hk0:(0:Int)≤(k:Int):=by omega
    obtain⟨b,o,cso,rfl,-,-,hlen,hra,hop⟩:=HOPS.out.get hkl
    have HBW:=Ag (HO.out.1.bel0)
    have HT2:=Ag (show goM (ops[k]::ops.drop (k+1)) ⟨fs,cv.map CirV.m,ws⟩ l=(R1,R2,R3) from by rw[←List.drop_eq_getElem_cons hkl];exact HT.out.2)
    have HLL:=Ag HT.out.1
    generalize ops[k]=p at hop HT2
    have HON:=Ag hop.one
    obtain⟨tco,rfl,htc⟩:=hop
    have HTC:=Ag htc
    have HTL:=Ag htc.len
    have HRA:=Ag (Ai (show wr.rangeAt b (o+k* 11) (opC p tco) from fun i x hx=> (HBW.out.cell (Am (hra i x hx))).trans (hra i x hx)) hlen)
    clear hra hlen htc HT hkl
    have HZL:=Ag (show(opC p tco).length=(opC ⟨0,0,⟨#[]⟩,0,0,false,tm0⟩ (tmC 0 0 0 ⟨#[]⟩ (.slice none 0 0))).length from by simp[opC,HTL.out,tmC])
    go_upto_region 9 with(first
  | (with_reducible refine Ap rfl 31 (.tmp 27) rfl b (o+k* 11) rfl (opC p tco) _ HRA.out.1 Tryz.underlying31 rfl (Bp HTL.out) ?_)
  | ((with_reducible refine Av wr rfl 31 rfl (opC ⟨0,0,⟨#[]⟩,0,0,false,tm0⟩ (tmC 0 0 0 ⟨#[]⟩ (.slice none 0 0))) Tryz.zeroOp ?_);intro x2 hb hbel hsz;have HX2:=Ag (show OwnX w [] (wr.heap.size::(ob (.slice oz l.length pz) ++ (a1.heap.size::ys))) x2 (b2.heap.size) 97 [vf,vc,vw] vf vc vw fs cv ws ex∧Blk x2 (a1.heap.size) 26 ([(.slice none 0 0),(.slice none 0 0),(.slice none 0 0)])∧OwR (RsX ex) 8 37 b1.heap.size x2 (.slice oz l.length pz) l∧Blk x2 (wr.heap.size) 31 (opC ⟨0,0,⟨#[]⟩,0,0,false,tm0⟩ (tmC 0 0 0 ⟨#[]⟩ (.slice none 0 0)))∧b1.heap.size≤x2.heap.size from⟨HO.out.1.rsv hbel (Ah _) hb.lt,HO.out.2.1.below hbel HO.out.2.1.lt,(HO.out.2.2.1.rsx (Ch.of_below (S:=fun _=> False) hbel (Ah _)) (fun _ _ e=> e) (fun _ h=> h)),hb,Aj HO.out.2.2.2 hbel.size⟩);clear hb hbel hsz)
  | ((with_reducible refine Ao x2 rfl 31 (.tmp 11) (.tmp 28) rfl (wr.heap.size) 31 (opC ⟨0,0,⟨#[]⟩,0,0,false,tm0⟩ (tmC 0 0 0 ⟨#[]⟩ (.slice none 0 0))) (opC p tco) HX2.out.2.2.2.1 rfl rfl HZL.out (Bp HTL.out) HON.out ?_);intro x3 hb hc hs;have HX3:=Ag (show OwnX w [] (wr.heap.size::(ob (.slice oz l.length pz) ++ (a1.heap.size::ys))) x3 (b2.heap.size) 97 [vf,vc,vw] vf vc vw fs cv ws ex∧Blk x3 (a1.heap.size) 26 ([(.slice none 0 0),(.slice none 0 0),(.slice none 0 0)])∧OwR (RsX ex) 8 37 b1.heap.size x3 (.slice oz l.length pz) l∧Blk x3 (wr.heap.size) 31 (opC p tco)∧b1.heap.size≤x3.heap.size from⟨HX2.out.1.setX (by simp) HO.out.1.ch.size hc,HX2.out.2.1.keep hc (fun e=> by have e:=(show _=_ from e);have:=HO.out.2.1.lt;omega),HX2.out.2.2.1.rsx hc (fun k hk e=> by have e:=(show _=_ from e);have:=(HO.out.2.2.1.lt k hk).2;omega) (fun _ h=> h),hb,Aj HX2.out.2.2.2.2 hc.size⟩);clear hb hc hs))
    try simp only[Al,Ad,Ae,Af]
    have HB3':=Ag (HX3.out.1.bel0)
    have HTX:=Ag (show TmC (Lo ys w) x3 tco p.b from HTC.out.below HB3'.out)
    clear HX2
    by_cases hop:opB p=true
    ·skip
     have HCO:=Ag (show Calls Tryz.prog 49 #[.agg (opC p tco).toArray] x3 (fun e w'=> e=.returned (.int .i64 0)∧Below x3.heap.size x3 w') from by have h:=FC p tco _ x3 HTX.out;rw[if_pos hop] at h;exact h)
     go_wp2_with (first
  | (with_reducible refine Ap rfl 31 (.tmp 11) rfl (wr.heap.size) 0 rfl (opC p tco) _ (As HX3.out.2.2.2.1) Tryz.underlying31 rfl (Bp HTL.out) ?_))
     refine HCO.out.mono ?_
     rintro e' x4 ⟨rfl,hb⟩
     have HX4:=Ag (show OwnX w [] (wr.heap.size::(ob (.slice oz l.length pz) ++ (a1.heap.size::ys))) x4 (b2.heap.size) 97 [vf,vc,vw] vf vc vw fs cv ws ex∧Blk x4 (a1.heap.size) 26 ([(.slice none 0 0),(.slice none 0 0),(.slice none 0 0)])∧OwR (RsX ex) 8 37 b1.heap.size x4 (.slice oz l.length pz) l∧Blk x4 (wr.heap.size) 31 (opC p tco)∧b1.heap.size≤x4.heap.size from⟨(HX3.out.1.below hb),HX3.out.2.1.below hb HX3.out.2.1.lt,(HX3.out.2.2.1.rsx (Ch.of_below (S:=fun _=> False) hb (Ah _)) (fun _ _ e=> e) (fun _ h=> h)),HX3.out.2.2.2.1.below hb HX3.out.2.2.2.1.lt,(Aj HX3.out.2.2.2.2 hb.size)⟩)
     clear hb
     have HT3:=Ag (show goM (ops.drop (k+1)) (BJ ⟨fs,cv.map CirV.m,ws⟩ p).1 (l ++ [(BJ ⟨fs,cv.map CirV.m,ws⟩ p).2])=(R1,R2,R3) from by have h:=HT2.out;unfold goM at h;rw[if_pos hop] at h;exact h)
     have HCP:=Ag (show ChkP (BJ ⟨fs,cv.map CirV.m,ws⟩ p).1 from Cv HP.out.1 hop)
     have HF4:=Ag (show TmC (Fz (wr.heap.size::(ob (.slice oz l.length pz) ++ (a1.heap.size::ys))) (msL (b2.heap.size) vf vc vw cv) x4) x4 tco p.b from by
      have hb:=HX4.out.1.bel0
      have h0:=HTC.out.keep' (Ch.of_below (S:=fun _=> False) hb (Ah _)) (fun _ _ e=> e) (G:=Lo ys w) (fun _ h=> h)
      refine TmC.mono h0 fun k hk=> ⟨⟨fun e=> ?_,fun e=> ?_⟩,Ak hk.2 hb.size⟩
      ·have h1:=HGB2.out
       have h2:=HO.out.1.ch.size
       have h3:=hk.2
       rcases List.mem_cons.1 e with e|e
       ·omega
       rcases List.mem_append.1 e with e|e
       ·have:=(HO.out.2.2.1.lt k (AF.1 e)).1;omega
       rcases List.mem_cons.1 e with e|e
       ·have:=HG.out;omega
       ·exact hk.1 e
      ·have h1:=HGB2.out
       have h3:=hk.2
       rcases HX4.out.1.sub k e with e|e
       ·cases e
       ·omega)
     have HDO:=Ag (KV p tco (HX4.out.1.exadd HF4.out).enter List.mem_cons_self HP.out.1 hop HP.out.2)
     have HRX:=Ag (show ∀ k,(Value.slice oz l.length pz).ownBlock=some k→k∈(wr.heap.size::(ob (.slice oz l.length pz) ++ (a1.heap.size::ys)))∧w.heap.size≤k from fun k hk=> ⟨List.mem_cons_of_mem _ (List.mem_append_left _ (AF.2 hk)),by have:=(HO.out.2.2.1.lt k hk).1;have:=HGB2.out;omega⟩)
     have HRZ:=Ag (show a1.heap.size∈(wr.heap.size::(ob (.slice oz l.length pz) ++ (a1.heap.size::ys))) from List.mem_cons_of_mem _ (List.mem_append_right _ List.mem_cons_self))
     clear hop HT2 HTX HF4 HB3'
     generalize (BJ ⟨fs,cv.map CirV.m,ws⟩ p)=SR at HT3 HCP HDO
     obtain⟨⟨fs2,cs2,ws2⟩,re⟩:=SR
     go_wp2_with (first
  | (with_reducible refine Ap rfl 31 (.tmp 11) rfl (wr.heap.size) 0 rfl (opC p tco) _ (As HX4.out.2.2.2.1) Tryz.underlying31 rfl (Bp HTL.out) ?_))
     refine HDO.out.mono ?_
     rintro e' x5 ⟨rtc,vf',vc',vw',cv',rfl,hm,hall,hown⟩
     replace hm:cv'.map CirV.m=cs2:=hm
     subst hm
     have HX5:=Ag (show OwnX w [] (wr.heap.size::(ob (.slice oz l.length pz) ++ (a1.heap.size::ys))) x5 (b2.heap.size) 97 [vf',vc',vw'] vf' vc' vw' fs2 cv' ws2 ((rtc,re.b)::(tco,p.b)::ex)∧Blk x5 (a1.heap.size) 26 ([(.slice none 0 0),(.slice none 0 0),(.slice none 0 0)])∧OwR (RsX ((rtc,re.b)::(tco,p.b)::ex)) 8 37 b1.heap.size x5 (.slice oz l.length pz) l∧b1.heap.size≤x5.heap.size from⟨OwnX.leave2 (HX4.out.1) hown,HX4.out.2.1.keep hown.ch (fun e=> (HX4.out.1.ax _ HRZ.out).1 e),HX4.out.2.2.1.rsx hown.ch (fun k hk e=> (HX4.out.1.ax _ (HRX.out k hk).1).1 e) (fun _ h=> List.mem_cons_of_mem _ (List.mem_cons_of_mem _ h)),Aj HX4.out.2.2.2.2 hown.ch.size⟩)
     have HRT:=Ag (HX5.out.1.ex _ List.mem_cons_self)
     have HR8:=Ag (show(AC re.e re.v re.u rtc).length=8 from by simp[AC,HRT.out.len])
     have HRSX:=Ag (show ∀ W,RsX ((rtc,re.b)::(tco,p.b)::ex) W (AC re.e re.v re.u rtc) re from fun W=> ⟨rtc,rfl,HRT.out.len,HRT.out.one,List.mem_cons_self⟩)
     have HALL:=Ag hall
     obtain⟨i0,hi0,hz0,hz1,hz2⟩:=info_parts Tryz.infoR8
     have HI0:=Ag (Ai hi0 (Ai hz0 (Ai hz1 hz2)))
     clear hown hall HDO hi0 hz0 hz1 hz2 HX3 HX4
     go_wp2_with (first
  | ((with_reducible refine FV x5 rfl (.tmp 38) rfl (AC re.e re.v re.u rtc) HR8.out rfl ?_);intro x6 hb hbel hsz;have HX6:=Ag (show OwnX w [] (wr.heap.size::(ob (.slice oz l.length pz) ++ (a1.heap.size::ys))) x6 (b2.heap.size) 97 [vf',vc',vw'] vf' vc' vw' fs2 cv' ws2 ((rtc,re.b)::(tco,p.b)::ex)∧Blk x6 (a1.heap.size) 26 ([(.slice none 0 0),(.slice none 0 0),(.slice none 0 0)])∧OwR (RsX ((rtc,re.b)::(tco,p.b)::ex)) 8 37 b1.heap.size x6 (.slice oz l.length pz) l∧b1.heap.size≤x6.heap.size∧Blk x6 (x5.heap.size) 37 (AC re.e re.v re.u rtc) from⟨(HX5.out.1.below hbel),HX5.out.2.1.below hbel HX5.out.2.1.lt,(HX5.out.2.2.1.rsx (Ch.of_below (S:=fun _=> False) hbel (Ah _)) (fun _ _ e=> e) (fun _ h=> h)),(Aj HX5.out.2.2.2 hbel.size),hb⟩);clear hb hbel hsz)
  | (at_builtin;refine Bv rfl (.tmp 35) (.tmp 39) 63 rfl Tryz.underlying63 i0 _ 88 HI0.out.1 HI0.out.2.1 HI0.out.2.2.1 HI0.out.2.2.2 rfl (by omega) (r:=[re]) (F:=fun _=> True) (C:=RsX ((rtc,re.b)::(tco,p.b)::ex)) (C':=RsX ((rtc,re.b)::(tco,p.b)::ex)) HX6.out.2.2.1 rfl rfl (RwC.of_one HX6.out.2.2.2.2 trivial HR8.out (HRSX.out _)) (fun cs a _ h=> h.one) (l ++ [re]).length (by simp) (by have:=HLL.out;simp;omega) (by omega) HX6.out.2.2.2.1 (fun _ _ _ _ _ h=> h) ?_))
     intro oy py x7 hrow hc hob
     have HX7:=Ag (show OwnX w [] (ob (.slice oy (l.length+1) py) ++ (a1.heap.size::ys)) x7 (b2.heap.size) 97 [vf',vc',vw'] vf' vc' vw' fs2 cv' ws2 ((rtc,re.b)::(tco,p.b)::ex)∧Blk x7 (a1.heap.size) 26 ([(.slice none 0 0),(.slice none 0 0),(.slice none 0 0)])∧OwR (RsX ((rtc,re.b)::(tco,p.b)::ex)) 8 37 b1.heap.size x7 (.slice oy (l.length+1) py) (l ++ [re])∧b1.heap.size≤x7.heap.size from⟨HX6.out.1.grow HRX.out hc (fun k hk=> List.mem_cons_of_mem _ (List.mem_append_right _ hk)) hob (fun k hk=> (hrow.lt k hk).2),HX6.out.2.1.keep hc (fun e=> by
      have h1:=(HO.out.2.2.1.lt _ e).1
      have h2:=HG.out
      have h3:=HGB2.out.1
      omega),hrow,Aj HX6.out.2.2.2.1 hc.size⟩)
     clear hrow hc hob
     go_wp2_with fail
     go_roundw
     case measure=> simp[intOf];omega
     case rel=>
      have e:(l ++ [re]).length=l.length+1:=by simp
      exact⟨k+1,l ++ [re],oy,py,vf',vc',vw',fs2,cv',ws2,_,by go_num,by omega,by rw[e],Ag ⟨by rw[e,HLL.out],HT3.out⟩,Ag ⟨HCP.out,HALL.out⟩,by rw[e];exact HX7⟩
    ·skip
     have HCO:=Ag (show Calls Tryz.prog 49 #[.agg (opC p tco).toArray] x3 (fun e w'=> e=.returned (.int .i64 281)∧Below x3.heap.size x3 w') from by have h:=FC p tco _ x3 HTX.out;rw[if_neg hop] at h;exact h)
     go_wp2_with (first
  | (with_reducible refine Ap rfl 31 (.tmp 11) rfl (wr.heap.size) 0 rfl (opC p tco) _ (As HX3.out.2.2.2.1) Tryz.underlying31 rfl (Bp HTL.out) ?_))
     refine HCO.out.mono ?_
     rintro e' x4 ⟨rfl,hb⟩
     have HX4:=Ag (show OwnX w [] (wr.heap.size::(ob (.slice oz l.length pz) ++ (a1.heap.size::ys))) x4 (b2.heap.size) 97 [vf,vc,vw] vf vc vw fs cv ws ex∧Blk x4 (a1.heap.size) 26 ([(.slice none 0 0),(.slice none 0 0),(.slice none 0 0)])∧OwR (RsX ex) 8 37 b1.heap.size x4 (.slice oz l.length pz) l∧Blk x4 (wr.heap.size) 31 (opC p tco)∧b1.heap.size≤x4.heap.size from⟨(HX3.out.1.below hb),HX3.out.2.1.below hb HX3.out.2.1.lt,(HX3.out.2.2.1.rsx (Ch.of_below (S:=fun _=> False) hb (Ah _)) (fun _ _ e=> e) (fun _ h=> h)),HX3.out.2.2.2.1.below hb HX3.out.2.2.2.1.lt,(Aj HX3.out.2.2.2.2 hb.size)⟩)
     clear hb
     have HQ:=hJ2 HX4.out.2.1 HX4.out.1.bel0
     have HRR:=Ag (show ES=R1∧[]=R2∧281=R3 from by have h:=HT2.out;unfold goM at h;rw[if_neg hop] at h;simpa using h)
     clear hop HT2 HX3 HX4 HO
     go_wp2_with (first
  | (with_reducible refine Cb rfl rfl ?_)
  | ((with_reducible refine Ao x4 rfl 26 (.tmp 4) (.tmp 33) rfl (a1.heap.size) 26 ([(.slice none 0 0),(.slice none 0 0),(.slice none 0 0)]) ([(.slice none 0 0),(.slice none 0 0),(.slice none 0 0)]) HQ.out.1 rfl rfl rfl (At Tryz.infoId rfl) Jn ?_);intro z2 hb hc hs;have HX:=Ag (Ai hb (Aw HQ.out.2 hc (Ah _) (fun k hk=> by have e:=(show _=_ from hk);have:=HG.out;omega)));clear hb hc hs))
     refine bodyPost_ret (CB Tryz.results19 _ _ (a1.heap.size) _ _ rfl HX.out.1 _ Tryz.underlying26 rfl (At Tryz.infoId rfl) _ rfl _ rfl) rfl ?_
     obtain⟨r1,r2,r3⟩:=HRR.out
     subst r1 r2 r3
     exact⟨[(.slice none 0 0),(.slice none 0 0),(.slice none 0 0)],(.slice none 0 0),rfl,⟨_,_,_,rfl,RwC.nil _ _ _ _,RwC.nil _ _ _ _,RwC.nil _ _ _ _⟩,RwC.nil _ _ _ _,HX.out.2⟩
   ·have hge:¬ (k:Int)<(n:Int):=by omega
    have HE:=Ag (show(⟨fs,cv.map CirV.m,ws⟩:IdM)=R1∧l=R2∧0=R3 from by have h:=HT.out.2;rw[List.drop_of_length_le (by rw[HN.out];omega)] at h;unfold goM at h;simpa using h)
    have HONE:=Ag (show ∀ v∈([vf,vc,vw]:List Value),v.oneCell'=true from fun v hv=> by
     obtain⟨_,_,e1,-⟩:=HO.out.1.rf.shape
     obtain⟨_,_,e2,-⟩:=HO.out.1.rc.shape
     obtain⟨_,_,e3,-⟩:=HO.out.1.rw.shape
     simp only[List.mem_cons,List.not_mem_nil,or_false] at hv
     rcases hv with rfl|rfl|rfl
     ·rw[e1];rfl
     ·rw[e2];rfl
     ·rw[e3];rfl)
    go_wp2_with (first
  | (with_reducible refine Ap rfl 26 (.tmp 44) rfl (b2.heap.size) 0 rfl ([vf,vc,vw]) _ (As HO.out.1.bl) Tryz.underlying26 rfl (At Tryz.infoId rfl) ?_)
  | ((with_reducible refine Ao wr rfl 26 (.tmp 4) (.tmp 45) rfl (a1.heap.size) 26 ([(.slice none 0 0),(.slice none 0 0),(.slice none 0 0)]) ([vf,vc,vw]) HO.out.2.1 rfl rfl rfl (At Tryz.infoId rfl) HONE.out ?_);intro z2 hb hc hs;have HX:=Ag (Ai hb hc);clear hb hc hs))
    refine bodyPost_ret (CB Tryz.results19 _ _ (a1.heap.size) _ _ rfl HX.out.1 _ Tryz.underlying26 rfl (At Tryz.infoId rfl) _ rfl _ rfl) rfl ?_
    obtain⟨r1,r2,r3⟩:=HE.out
    have hne:∀ k,(Value.slice oz l.length pz).ownBlock=some k→¬ (k=a1.heap.size):=fun k hk e=> by
     have h1:=(HO.out.2.2.1.lt _ hk).1
     have h2:=HG.out
     have h3:=HGB2.out.1
     omega
    subst r2
    have HZ:=Ag (show OwR (RsX ex) 8 37 b1.heap.size z2 (.slice oz l.length pz) l from HO.out.2.2.1.rsx HX.out.2 hne (fun _ h=> h))
    refine⟨[vf,vc,vw],.slice oz l.length pz,by rw[←r3];rfl,?_,?_,?_⟩
    ·rw[←r1]
     exact(OwnX.setX HO.out.1 (List.mem_append_right _ List.mem_cons_self) HGB2.out.2 HX.out.2).idx ys (fun k hk=> List.mem_append_right _ (List.mem_cons_of_mem _ hk))
    ·have HW:=(OwnX.setX HO.out.1 (List.mem_append_right _ List.mem_cons_self) HGB2.out.2 HX.out.2)
     refine HZ.out.rwc.mono (fun k hk e=> ?_) (fun cs a _ h=> ?_)
     ·have h1:=(HZ.out.lt k hk).1
      have h2:=HY.out k e
      have h3:=HGB2.out
      omega
     ·obtain⟨tc,h1,-,-,h4⟩:=h
      exact⟨tc,h1,(HW.ex _ h4).mono fun k hk e=> hk.1.1 (List.mem_append_right _ (List.mem_cons_of_mem _ e))⟩
    ·exact(OwnX.setX HO.out.1 (List.mem_append_right _ List.mem_cons_self) HGB2.out.2 HX.out.2).bel0
 ·have HRR:=Ag (show ES=R1∧[]=R2∧282=R3 from by have h:=HR.out;unfold Hq at h;rw[if_neg hk] at h;simpa using h)
  have HC0:=Ag (show ∀ (W:World),Below w.heap.size w W→Calls Tryz.prog 16 #[.agg cs.toArray] W (fun e w'=> e=.returned (.int .i64 282)∧Below W.heap.size W w') from fun W hb=> by have h:=HCK.out W hb;rw[if_neg hk] at h;exact h)
  clear hk HR HCK
  go_wp2_with (first
  | (with_reducible refine Ap rfl 26 (.tmp 2) rfl (w.heap.size) 0 rfl (cs) _ (As H2.out.1) Tryz.underlying26 rfl (At Tryz.infoId HCL.out) ?_))
  refine(HC0.out a2 H2.out.2.1).mono ?_
  rintro e' b1 ⟨rfl,hb⟩
  have HB1:=hJ3 (H2.out.1.below hb H2.out.1.lt) (An H2.out.2.1 hb (Ah _)) (H2.out.2.2.below hb H2.out.2.2.lt)
  clear hb H2
  go_wp2_with (first
  | (with_reducible refine Cb rfl rfl ?_)
  | ((with_reducible refine Ao b1 rfl 26 (.tmp 4) (.tmp 17) rfl (a1.heap.size) 26 ([(.slice none 0 0),(.slice none 0 0),(.slice none 0 0)]) ([(.slice none 0 0),(.slice none 0 0),(.slice none 0 0)]) HB1.out.2.2 rfl rfl rfl (At Tryz.infoId rfl) Jn ?_);intro z2 hb hc hs;have HX:=Ag (Ai hb (Aw HB1.out.2.1 hc (Ah _) (fun k hk=> by have e:=(show _=_ from hk);have:=HG.out;omega)));clear hb hc hs))
  refine bodyPost_ret (CB Tryz.results19 _ _ (a1.heap.size) _ _ rfl HX.out.1 _ Tryz.underlying26 rfl (At Tryz.infoId rfl) _ rfl _ rfl) rfl ?_
  obtain⟨r1,r2,r3⟩:=HRR.out
  subst r1 r2 r3
  exact⟨[(.slice none 0 0),(.slice none 0 0),(.slice none 0 0)],(.slice none 0 0),rfl,⟨_,_,_,rfl,RwC.nil _ _ _ _,RwC.nil _ _ _ _,RwC.nil _ _ _ _⟩,RwC.nil _ _ _ _,HX.out.2⟩
end Go.Proofs.YtgdlfiphihaooaaGreat

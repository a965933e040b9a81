import Derived.Test.YtgdlfiphihaooaaGreatYs13
set_option linter.unusedSimpArgs false
set_option linter.unusedVariables false
set_option maxRecDepth 100000
set_option maxHeartbeats 8000000
open _root_.List renaming getElem?_toArray→Aa,getElem?_cons_zero→Ab,getElem?_cons_succ→Ac,setIfInBounds_toArray→Ad,set_cons_zero→Ae,set_cons_succ→Af
open _root_.Go.Lib renaming hid→Ag
open _root_.Nat renaming le_refl→Ah,le_trans→Aj,lt_of_lt_of_le→Ak
open _root_.And renaming intro→Ai
open _root_.Go.Act renaming put→Al
namespace Go.Proofs.YtgdlfiphihaooaaGreat
open Go Go.RowKit Go.Sort Go.Shelf
attribute [local go_sem] Oper.semAt_some
theorem Jm {l:List Int} {i:Nat} {x:Int}:(ofK .i64 l).take i ++ [.int .i64 x] ++ (ofK .i64 l).drop i=ofK .i64 (Cl l i x):=by
 unfold Cl ofK
 simp[List.map_take,List.map_drop]
theorem KS (vb i:Nat) (x:Int) (v:Value) (l:List Int) (w:World) (hv:w.ownsRow 0 3 1 v l.length (ofK .i64 l)) (hx:Blk w vb 3 [.int .i64 x]) (hnv:∀ k,v.ownBlock=some k→k≠vb) (hl:l.length≤1000000) (hi:i≤l.length):
  Calls Tryz.prog 97 #[v,.int .i64 i,.slice (some ⟨vb,0,none⟩) 1 1] w (GT 0 3 1 v (l.length+1) (ofK .i64 (Cl l i x)) w):=by
 by_cases h:i<l.length
 ·have:=Ir 0 vb i [.int .i64 x] (ofK .i64 l) l.length v w hv (Nat.zero_le _) hx rfl (Cp .i64 [x]) (Cp _ _) hnv hl h
  rw[Jm] at this
  exact this
 ·obtain rfl:i=l.length:=by omega
  have:=Iq 0 vb [.int .i64 x] (ofK .i64 l) l.length v w hv (Nat.zero_le _) hx rfl (Cp .i64 [x]) hl
  have e:ofK .i64 l ++ [.int .i64 x]=ofK .i64 (Cl l l.length x):=by
   unfold Cl ofK;simp
  rw[e] at this
  exact this
theorem G8 (p:OpM) (tco:List Value) {w0 w:World} {m0 xs:List Nat} {bp:Nat} {vf vc vw:Value} {fs:List FileM} {cv:List CirV} {ws:List WrM} {ex:List (List Value × Tm)}
  (h:OwnX w0 m0 xs w bp 97 [vf,vc,vw] vf vc vw fs cv ws ex) (hb:(tco,p.b)∈ex) (hk:ChkP (⟨fs,cv.map CirV.m,ws⟩:IdM)) (ho:opB p=true) (hall:∀ c∈cv,c.own=true) (hkk:p.k=9∨p.k=10):
  Calls Tryz.prog 79 #[.pointer (some ⟨bp,0,none⟩),.agg (opC p tco).toArray] w (G5 w0 m0 xs bp 97 ex (BZ (⟨fs,cv.map CirV.m,ws⟩:IdM) p)):=by
 obtain⟨af,cf,rfl,hf1,hf2⟩:=h.rf.shape
 obtain⟨ac,cc,rfl,hc1,hc2⟩:=h.rc.shape
 obtain⟨aw,cw,rfl,hw1,hw2⟩:=h.rw.shape
 obtain⟨fn,hfn⟩:∃ n,fs.length=n:=⟨_,rfl⟩
 obtain⟨cn,hcn⟩:∃ n,cv.length=n:=⟨_,rfl⟩
 obtain⟨wn,hwn⟩:∃ n,ws.length=n:=⟨_,rfl⟩
 have HN:=Ag (Ai hfn (Ai hcn hwn))
 have hfl:fn≤6:=by have:=hk.fl;simp only at this;omega
 have hcl:cn≤3:=by have:=hk.cl;simp only[List.length_map] at this;omega
 have hwl:wn≤400:=by have:=hk.wl;simp only at this;omega
 rw[hfn,hcn,hwn] at h
 have HOWN:=Ag h
 have HB:=Ag hb
 have HK:=Ag hk
 have HO:=Ag ho
 have HALL:=Ag hall
 have HTL:=Ag (h.ex _ hb).len
 obtain⟨SR,hSR⟩:∃ r,BZ (⟨fs,cv.map CirV.m,ws⟩:IdM) p=r:=⟨_,rfl⟩
 have HSR:=Ag hSR
 rw[hSR]
 have HKK:=Ag hkk
 clear hkk
 clear h hb hk ho hall hfn hcn hwn hSR hf1 hf2 hc1 hc2 hw1 hw2
 obtain⟨⟨ix,th⟩,hsk⟩:∃ r,Bz (⟨fs,cv.map CirV.m,ws⟩:IdM) p.g=r:=⟨_,rfl⟩
 have HSK:=Ag hsk
 have HF:=Ag (fun (W:World) (hW:IdC (fun _=> True) W [(.slice af fn cf),(.slice ac cn cc),(.slice aw wn cw)] (⟨fs,cv.map CirV.m,ws⟩:IdM))=> show Calls Tryz.prog 39 #[.agg ([(.slice af fn cf),(.slice ac cn cc),(.slice aw wn cw)]:List Value).toArray,.int .i64 p.g] W (fun e w'=> e=.returned (.tuple #[.int .i64 (ix:Nat),.bool th])∧Below W.heap.size W w') from by
  have h:=DL (⟨fs,cv.map CirV.m,ws⟩:IdM) p.g [(.slice af fn cf),(.slice ac cn cc),(.slice aw wn cw)] _ W hW (by have:=HK.out.cl;omega)
  rw[show AW (fun x=> Bx x.n p.g) (⟨fs,cv.map CirV.m,ws⟩:IdM).cs=(ix,th) from hsk] at h
  exact h)
 clear hsk
 have hg:=(by kernel_rfl:Tryz.prog.funcs[79]?=some Tryz.f79)
 refine callsIn_wide.1 (callsIn_of_wp_marks (F:=Fence.wide) (n:=9) (fn:=Tryz.f79) hg rfl trivial (wpIn_wide.2 ?_) rfl)
 simp only[Tryz.ntmps79,List.size_toArray,List.length_cons,List.length_nil,Nat.reduceAdd,Nat.reduceSub,Array.replicate_succ,Array.replicate_zero,List.push_toArray,List.append_toArray,List.nil_append,List.cons_append]
 clear hg
 go_upto_region 1 with(first
  | ((with_reducible refine Au w rfl 31 (.tmp 1) rfl (opC p tco) rfl ?_);intro a1 hb hbel hsz;have H1:=hJ2 (HOWN.out.rsv hbel (Ah _) hb.lt) hb;clear hb hbel hsz)
  | ((with_reducible refine Av a1 rfl 37 rfl (AC 0 0 0 (tmC 0 0 0 ⟨#[]⟩ (.slice none 0 0))) Tryz.zeroRs ?_);intro a2 hb hbel hsz;have H2:=hJ3 (H1.out.1.rsv hbel (Ah _) hb.lt) (H1.out.2.below hbel H1.out.2.lt) hb;have HSZ:=Ag (show w0.heap.size≤a1.heap.size from H1.out.1.ch.size);clear hb hbel hsz))
 try simp only[Al,Ad,Ae,Af]
 have HG:=hJ2 H1.out.2.lt H2.out.2.2.lt
 have HIX:=Ag (show ix≤cv.length from by have h:=Hp (fun x:CirM=> Bx x.n p.g) (cv.map CirV.m);rw[show AW (fun x:CirM=> Bx x.n p.g) (cv.map CirV.m)=(ix,th) from HSK.out,List.length_map] at h;exact h)
 go_wp2_with fail
 refine Az (fun W=> W.rangeAt bp 0 [(.slice af fn cf),(.slice ac cn cc),(.slice aw wn cw)]∧W.cell? ⟨w.heap.size,4,none⟩=some (.int .i64 p.g)) [0,1,2,3,4,5] 6 (by kernel_rfl) rfl (by kernel_rfl) (by kernel_rfl) ⟨As H2.out.1.bl,H2.out.2.1.cell 4⟩ ?_
 iterate 6(refine' AK.run ?_ ?_ ?_ ?_;rotate_left 2;(simp only[Aa,Ab,Ac];rfl);rfl;(rintro w' ⟨k0,k1⟩;first|exact AB rfl rfl k0 Tryz.underlying26 rfl (At Tryz.infoId rfl)|(go_simp;with_reducible rfl));simp only[Al,Ad,Ae,Af])
 have sm:=(Sm.refl a2).drew
 have HV2:=hJ3 (H2.out.1.below (sm.below _)) (H2.out.2.1.below (sm.below _) H2.out.2.1.lt) (H2.out.2.2.below (sm.below _) H2.out.2.2.lt)
 clear sm
 generalize a2.drew=v1 at HV2 ⊢
 refine' Ar 6 (by kernel_rfl) ?_ ?_;rotate_left;(simp only[Aa,Ab,Ac];rfl)
 try simp only[Al,Ad,Ae,Af]
 go_wp2_with fail
 refine Calls.mono (HF.out v1 HV2.out.1.idc) ?_
 rintro e' u3 ⟨rfl,hb⟩
 have K4:=hJ3 (HV2.out.1.below hb) (HV2.out.2.1.below hb HV2.out.2.1.lt) (HV2.out.2.2.below hb HV2.out.2.2.lt)
 clear hb
 go_wp2_with fail
 refine QK.normal ⟨⟨As K4.out.1.bl,K4.out.2.1.cell 4⟩,?_⟩
 refine Bi (fuel:=0) (by kernel_rfl) AG ⟨As K4.out.1.bl,K4.out.2.1.cell 4⟩ [7,8,9,10,11] _ _ (by kernel_rfl) ?_
 try simp only[Al]
 iterate 5(refine' AK.run ?_ ?_ ?_ ?_;rotate_left 2;(simp only[Aa,Ab,Ac];rfl);rfl;(rintro w' ⟨k0,k1⟩;first|exact AB rfl rfl k0 Tryz.underlying26 rfl (At Tryz.infoId rfl)|(go_simp;with_reducible rfl));simp only[Al,Ad,Ae,Af])
 refine wpAnyH_done (by kernel_rfl) ?_ _
 refine NoPanic.normal ?_
 cases th
 ·skip
  have HX:=Ag (show SR=((⟨fs,cv.map CirV.m,ws⟩:IdM),A1 4) from by rw[←HSR.out];unfold BZ;rw[HSK.out,if_pos rfl])
  go_wp2_with fail
  refine(Bc (4) u3).mono ?_
  rintro e' u5 ⟨rfl,hb⟩
  have K6:=hJ3 (K4.out.1.below hb) (K4.out.2.1.below hb K4.out.2.1.lt) (K4.out.2.2.below hb K4.out.2.2.lt)
  clear hb
  go_wp2_with (first
  | ((with_reducible refine Ao u5 rfl 37 (.tmp 4) (.tmp 28) rfl (a1.heap.size) 37 (AC 0 0 0 (tmC 0 0 0 ⟨#[]⟩ (.slice none 0 0))) (AC (4) 0 0 (tmC 0 0 0 ⟨#[]⟩ (.slice none 0 0))) K6.out.2.2 rfl rfl rfl (Ax rfl) (AM (AR _ _ _ _ _ _ _)) ?_);intro z9 hb hc hs;have HZ:=Ag (Ai (K6.out.1.setX (show a1.heap.size∈_ by simp) HSZ.out hc) hb);clear hb hc hs))
  refine⟨_,AA Tryz.results79 _ _ (a1.heap.size) _ _ rfl HZ.out.2 _ Tryz.underlying37 rfl (Ax rfl),?_⟩
  rw[HX.out]
  exact⟨_,_,_,_,cv,rfl,rfl,HALL.out,((HZ.out.1).keepoff (fun k hk=> by simp[hk])).exadd (Bm _ _)⟩
 ·skip
  have hixl:ix<cv.length:=by
   have h:=(DM (c:=fun x:CirM=> Bx x.n p.g) (l:=cv.map CirV.m) (by rw[show AW (fun x:CirM=> Bx x.n p.g) (cv.map CirV.m)=(ix,true) from HSK.out])).1
   rw[show AW (fun x:CirM=> Bx x.n p.g) (cv.map CirV.m)=(ix,true) from HSK.out,List.length_map] at h
   exact h
  obtain⟨gc,cc',e,-⟩:=K4.out.1.rc.ptr hixl
  rw[HN.out.2.1] at e
  obtain⟨rfl,rfl⟩:ac=some ⟨gc,0,none⟩∧cc=cc':=by simpa using e
  obtain⟨-,-,ccs,-,hra,hcv,-,-⟩:=K4.out.1.rc.focus hixl
  have hcic:=hcv.cic
  obtain⟨hcs,hcw,-⟩:=hcv
  obtain⟨c,hc⟩:∃ c,cv[ix]=c:=⟨_,rfl⟩
  rw[hc] at hcs hcw hcic
  have hco:c.own=true:=by rw[←hc];exact HALL.out _ (List.getElem_mem hixl)
  obtain⟨ua,uc,hvu⟩:=AY (hcw hco)
  obtain⟨un,hun⟩:∃ n,c.us.length=n:=⟨_,rfl⟩
  have HCB:=Ag (Ef (HK.out.c c.m (by show c.m∈cv.map CirV.m;rw[←hc];exact List.mem_map_of_mem (List.getElem_mem hixl))))
  have hul:un≤6:=by have:=Ho (HK.out.c c.m (by show c.m∈cv.map CirV.m;rw[←hc];exact List.mem_map_of_mem (List.getElem_mem hixl)));rw[show c.m.us=c.us from rfl] at this;omega
  rw[hun] at hvu
  obtain⟨vx,e2,hsx⟩:=hcic
  rw[hcs] at e2
  have e3:c.vu=vx:=by simpa [ciC,CirV.m] using e2
  rw[←e3,hvu] at hsx
  have HCC:=Ag (Ai hc (Ai hco hvu))
  have HUN:=Ag hun
  have HCI:=Ag (show(cv.map CirV.m)[ix]?=some c.m from by rw[List.getElem?_map,List.getElem?_eq_getElem hixl,hc];rfl)
  have HEC:=Ag (show OwnX w0 m0 (a1.heap.size::w.heap.size::xs) u3 bp 97 [(.slice af fn cf),(.slice (some ⟨gc,0,none⟩) cn cc),(.slice aw wn cw)] (.slice af fn cf) (.slice (some ⟨gc,0,none⟩) cn cc) (.slice aw wn cw) fs cv ws ex∧Blk u3 (w.heap.size) 31 (opC p tco)∧Blk u3 (a1.heap.size) 37 (AC 0 0 0 (tmC 0 0 0 ⟨#[]⟩ (.slice none 0 0)))∧u3.cell? ⟨gc,ix* 3+2,none⟩=some (.slice ua un uc)∧u3.cell? ⟨gc,ix* 3+1,none⟩=some (.int .i64 c.o)∧SlI (fun _=> True) u3 (.slice ua un uc) c.us from⟨K4.out.1,K4.out.2.1,K4.out.2.2,hra 2 _ (by rw[hcs,hvu];rfl),hra 1 _ (by rw[hcs];rfl),hsx⟩)
  have HIXL:=Ag hixl
  have hixz:(ix:Int)<(cn:Int):=by have:=HN.out.2.1;omega
  have hix0:(0:Int)≤(ix:Int):=by omega
  clear e hra hcs hcw hc hco hvu hun e2 e3 hsx K4
  have b1:=HEC.out.1.bl.cell 1
  simp only[Ab,Ac] at b1
  go_wp2_with fail
  clear b1
  obtain⟨ins,hins⟩:∃ b,c.us.any (p.t==·)=b:=⟨_,rfl⟩
  have HINS:=Ag hins
  obtain⟨lk,hlk⟩:∃ k,BT c.us p.t=k:=⟨_,rfl⟩
  have HLK:=Ag hlk
  have hlkn:lk≤un:=by have:=Ge c.us p.t;have:=HUN.out;omega
  have HSE:=Ag (fun (W:World) (hW:Sl W (.slice ua un uc) (ofK .i64 c.us))=> show Calls Tryz.prog 96 #[.slice ua un uc,.int .i64 p.t] W (fun e w'=> e=.returned (.tuple #[.int .i64 (lk:Nat),.bool ins])∧Below W.heap.size W w') from by
   have h:=Gd p.t _ c.us W hW HCB.out.2.2.2.1 (by have:=HUN.out;omega)
   rw[hlk,hins] at h
   exact h.mono (fun e w' h=> ⟨h.1,by rw[h.2];exact Below.refl _ _⟩))
  clear hins hlk
  go_wp2_with fail
  refine Az (fun W=> W.cell? ⟨gc,ix* 3+2,none⟩=some (.slice ua un uc)∧W.cell? ⟨w.heap.size,3,none⟩=some (.int .i64 p.t)) [0,1,2,3,4,5] 6 (by kernel_rfl) rfl (by kernel_rfl) (by kernel_rfl) ⟨HEC.out.2.2.2.1,HEC.out.2.1.cell 3⟩ ?_
  iterate 6(refine' AK.run ?_ ?_ ?_ ?_;rotate_left 2;(simp only[Aa,Ab,Ac];rfl);rfl;(rintro w' ⟨k0,k1⟩;go_simp;with_reducible rfl);simp only[Al,Ad,Ae,Af])
  have sm:=(Sm.refl u3).drew
  have HV8:=Ag (show OwnX w0 m0 (a1.heap.size::w.heap.size::xs) u3.drew bp 97 [(.slice af fn cf),(.slice (some ⟨gc,0,none⟩) cn cc),(.slice aw wn cw)] (.slice af fn cf) (.slice (some ⟨gc,0,none⟩) cn cc) (.slice aw wn cw) fs cv ws ex∧Blk u3.drew (w.heap.size) 31 (opC p tco)∧Blk u3.drew (a1.heap.size) 37 (AC 0 0 0 (tmC 0 0 0 ⟨#[]⟩ (.slice none 0 0)))∧u3.drew.cell? ⟨gc,ix* 3+2,none⟩=some (.slice ua un uc)∧u3.drew.cell? ⟨gc,ix* 3+1,none⟩=some (.int .i64 c.o)∧SlI (fun _=> True) u3.drew (.slice ua un uc) c.us from⟨(HEC.out.1.below (sm.below _)),HEC.out.2.1.below (sm.below _) HEC.out.2.1.lt,HEC.out.2.2.1.below (sm.below _) HEC.out.2.2.1.lt,(((sm.below _)).cell (p:=⟨gc,ix* 3+2,none⟩) (Am HEC.out.2.2.2.1)).trans HEC.out.2.2.2.1,(((sm.below _)).cell (p:=⟨gc,ix* 3+1,none⟩) (Am HEC.out.2.2.2.2.1)).trans HEC.out.2.2.2.2.1,(HEC.out.2.2.2.2.2.below (sm.below _))⟩)
  clear sm
  generalize u3.drew=v7 at HV8 ⊢
  refine' Ar 6 (by kernel_rfl) ?_ ?_;rotate_left;(simp only[Aa,Ab,Ac];rfl)
  try simp only[Al,Ad,Ae,Af]
  go_wp2_with fail
  refine Calls.mono (HSE.out v7 HV8.out.2.2.2.2.2.1) ?_
  rintro e' u9 ⟨rfl,hb⟩
  have K10:=hJ6 (HV8.out.1.below hb) (HV8.out.2.1.below hb HV8.out.2.1.lt) (HV8.out.2.2.1.below hb HV8.out.2.2.1.lt) (((hb).cell (p:=⟨gc,ix* 3+2,none⟩) (Am HV8.out.2.2.2.1)).trans HV8.out.2.2.2.1) (((hb).cell (p:=⟨gc,ix* 3+1,none⟩) (Am HV8.out.2.2.2.2.1)).trans HV8.out.2.2.2.2.1) (HV8.out.2.2.2.2.2.below hb)
  clear hb
  go_wp2_with fail
  refine QK.normal ⟨⟨K10.out.2.2.2.1,K10.out.2.1.cell 3⟩,?_⟩
  refine Bi (fuel:=0) (by kernel_rfl) AG ⟨K10.out.2.2.2.1,K10.out.2.1.cell 3⟩ [7,8,9,10,11] _ _ (by kernel_rfl) ?_
  try simp only[Al]
  iterate 5(refine' AK.run ?_ ?_ ?_ ?_;rotate_left 2;(simp only[Aa,Ab,Ac];rfl);rfl;(rintro w' ⟨k0,k1⟩;go_simp;with_reducible rfl);simp only[Al,Ad,Ae,Af])
  refine wpAnyH_done (by kernel_rfl) ?_ _
  refine NoPanic.normal ?_
  rcases HKK.out with hk|hk
  ·skip
   have HK2:=Ag hk
   have HC0:=Ag (show(opC p tco)[0]?=some (.int .i64 9) from by show some (Value.int .i64 p.k)=_;rw[hk])
   clear hk
   have c0:u9.cell? ⟨w.heap.size,0,none⟩=some (.int .i64 9):=(K10.out.2.1.cell 0).trans HC0.out
   have c1:u9.cell? ⟨w.heap.size,1,none⟩=some (.int .i64 p.u):=K10.out.2.1.cell 1
   have co:u9.cell? ⟨gc,ix* 3+1,none⟩=some (.int .i64 c.o):=K10.out.2.2.2.2.1
   by_cases hcu:c.o=p.u
   ·have hce:(c.o==p.u)=true:=by simpa using hcu
    have hce2:(c.o !=p.u)=false:=by simpa using hcu
    have HCU:=Ag hcu
    clear hcu
    go_wp2_with fail
    go_quiet (fail)
    clear c0 c1 co
    have sm:=((Sm.refl u9).drewN nq)
    have Hq4:=Ag (show OwnX w0 m0 (a1.heap.size::w.heap.size::xs) (u9.drewN nq) bp 97 [(.slice af fn cf),(.slice (some ⟨gc,0,none⟩) cn cc),(.slice aw wn cw)] (.slice af fn cf) (.slice (some ⟨gc,0,none⟩) cn cc) (.slice aw wn cw) fs cv ws ex∧Blk (u9.drewN nq) (w.heap.size) 31 (opC p tco)∧Blk (u9.drewN nq) (a1.heap.size) 37 (AC 0 0 0 (tmC 0 0 0 ⟨#[]⟩ (.slice none 0 0)))∧(u9.drewN nq).cell? ⟨gc,ix* 3+2,none⟩=some (.slice ua un uc)∧(u9.drewN nq).cell? ⟨gc,ix* 3+1,none⟩=some (.int .i64 c.o)∧SlI (fun _=> True) (u9.drewN nq) (.slice ua un uc) c.us from⟨(K10.out.1.below (sm.below _)),K10.out.2.1.below (sm.below _) K10.out.2.1.lt,K10.out.2.2.1.below (sm.below _) K10.out.2.2.1.lt,(((sm.below _)).cell (p:=⟨gc,ix* 3+2,none⟩) (Am K10.out.2.2.2.1)).trans K10.out.2.2.2.1,(((sm.below _)).cell (p:=⟨gc,ix* 3+1,none⟩) (Am K10.out.2.2.2.2.1)).trans K10.out.2.2.2.2.1,(K10.out.2.2.2.2.2.below (sm.below _))⟩)
    generalize u9.drewN nq=q4 at Hq4 ⊢
    clear sm
    obtain⟨uo,huo⟩:∃ b,AX p.t=b:=⟨_,rfl⟩
    have HUO:=Ag huo
    have c3:q4.cell? ⟨w.heap.size,3,none⟩=some (.int .i64 p.t):=Hq4.out.2.1.cell 3
    have HUS:=Ag (show Calls Tryz.prog 64 #[.int .i64 p.t] q4 (fun e w'=> e=.returned (.bool uo)∧q4=w') from by have h:=CA p.t q4;rw[huo] at h;exact h)
    clear huo
    go_wp2_with fail
    refine HUS.out.mono ?_
    rintro e' w' ⟨rfl,rfl⟩
    clear c3
    cases uo
    ·skip
     have HX:=Ag (show SR=((⟨fs,cv.map CirV.m,ws⟩:IdM),A1 2) from by rw[←HSR.out];unfold BZ;rw[HSK.out,if_neg (by simp),show(⟨fs,cv.map CirV.m,ws⟩:IdM).cs[ix]?=some c.m from HCI.out];simp only;rw[if_neg (by show ¬ (c.o≠p.u);rw[HCU.out];simp),if_pos ⟨HK2.out,HUO.out⟩])
     go_wp2_with fail
     refine(Bc (2) q4).mono ?_
     rintro e' u11 ⟨rfl,hb⟩
     have K12:=hJ6 (Hq4.out.1.below hb) (Hq4.out.2.1.below hb Hq4.out.2.1.lt) (Hq4.out.2.2.1.below hb Hq4.out.2.2.1.lt) (((hb).cell (p:=⟨gc,ix* 3+2,none⟩) (Am Hq4.out.2.2.2.1)).trans Hq4.out.2.2.2.1) (((hb).cell (p:=⟨gc,ix* 3+1,none⟩) (Am Hq4.out.2.2.2.2.1)).trans Hq4.out.2.2.2.2.1) (Hq4.out.2.2.2.2.2.below hb)
     clear hb
     go_wp2_with (first
  | ((with_reducible refine Ao u11 rfl 37 (.tmp 4) (.tmp 66) rfl (a1.heap.size) 37 (AC 0 0 0 (tmC 0 0 0 ⟨#[]⟩ (.slice none 0 0))) (AC (2) 0 0 (tmC 0 0 0 ⟨#[]⟩ (.slice none 0 0))) K12.out.2.2.1 rfl rfl rfl (Ax rfl) (AM (AR _ _ _ _ _ _ _)) ?_);intro z9 hb hc hs;have HZ:=Ag (Ai (K12.out.1.setX (show a1.heap.size∈_ by simp) HSZ.out hc) hb);clear hb hc hs))
     refine⟨_,AA Tryz.results79 _ _ (a1.heap.size) _ _ rfl HZ.out.2 _ Tryz.underlying37 rfl (Ax rfl),?_⟩
     rw[HX.out]
     exact⟨_,_,_,_,cv,rfl,rfl,HALL.out,((HZ.out.1).keepoff (fun k hk=> by simp[hk])).exadd (Bm _ _)⟩
    ·skip
     cases ins
     ·skip
      go_wp2_with fail
      have HUB:=Ag (show ∀ k,(Value.slice ua un uc).ownBlock=some k→k∈ubs cv from fun k hk=> BR.2 ⟨c,by rw[←HCC.out.1];exact List.getElem_mem HIXL.out,by unfold CirV.ub;rw[if_pos HCC.out.2.1,HCC.out.2.2];exact AF.2 hk⟩)
      have HROW:=Ag (fun (W:World) (hW:OwnX w0 m0 (a1.heap.size::w.heap.size::xs) W bp 97 [(.slice af fn cf),(.slice (some ⟨gc,0,none⟩) cn cc),(.slice aw wn cw)] (.slice af fn cf) (.slice (some ⟨gc,0,none⟩) cn cc) (.slice aw wn cw) fs cv ws ex)=> show W.ownsRow 0 3 1 (.slice ua un uc) c.us.length (ofK .i64 c.us) from by
       obtain⟨-,-,_,-,-,hcv,-,-⟩:=hW.rc.focus HIXL.out
       rw[HCC.out.1] at hcv
       have h:=hcv.2.1 HCC.out.2.1
       rw[HCC.out.2.2] at h
       exact h)
      go_wp2_with fail
      refine A2 (fun W=> W.cell? ⟨gc,ix* 3+2,none⟩=some (.slice ua un uc)∧W.cell? ⟨w.heap.size,3,none⟩=some (.int .i64 p.t)) 12 [0,1,2,3,4,5,6,7] 5 (by kernel_rfl) rfl (by kernel_rfl) (by kernel_rfl) ⟨Hq4.out.2.2.2.1,Hq4.out.2.1.cell 3⟩ ?_
      iterate 8(refine' AK.run ?_ ?_ ?_ ?_;rotate_left 2;(simp only[Aa,Ab,Ac];rfl);rfl;(rintro w' ⟨k0,k1⟩;go_simp;with_reducible rfl);simp only[Al,Ad,Ae,Af])
      have sm:=(Sm.refl q4).drew
      have HV16:=Ag (show OwnX w0 m0 (a1.heap.size::w.heap.size::xs) q4.drew bp 97 [(.slice af fn cf),(.slice (some ⟨gc,0,none⟩) cn cc),(.slice aw wn cw)] (.slice af fn cf) (.slice (some ⟨gc,0,none⟩) cn cc) (.slice aw wn cw) fs cv ws ex∧Blk q4.drew (w.heap.size) 31 (opC p tco)∧Blk q4.drew (a1.heap.size) 37 (AC 0 0 0 (tmC 0 0 0 ⟨#[]⟩ (.slice none 0 0)))∧q4.drew.cell? ⟨gc,ix* 3+2,none⟩=some (.slice ua un uc)∧q4.drew.cell? ⟨gc,ix* 3+1,none⟩=some (.int .i64 c.o)∧SlI (fun _=> True) q4.drew (.slice ua un uc) c.us from⟨(Hq4.out.1.below (sm.below _)),Hq4.out.2.1.below (sm.below _) Hq4.out.2.1.lt,Hq4.out.2.2.1.below (sm.below _) Hq4.out.2.2.1.lt,(((sm.below _)).cell (p:=⟨gc,ix* 3+2,none⟩) (Am Hq4.out.2.2.2.1)).trans Hq4.out.2.2.2.1,(((sm.below _)).cell (p:=⟨gc,ix* 3+1,none⟩) (Am Hq4.out.2.2.2.2.1)).trans Hq4.out.2.2.2.2.1,(Hq4.out.2.2.2.2.2.below (sm.below _))⟩)
      clear sm
      generalize q4.drew=v15 at HV16 ⊢
      refine' AE 8 (by kernel_rfl) ?_ ?_;rotate_left;(simp only[Aa,Ab,Ac];rfl)
      try simp only[Al,Ad,Ae,Af]
      refine CM v15 rfl (.tmp 82) rfl rfl ?_
      intro e1 hb hbel hsz
      have HE1:=Ag (show OwnX w0 m0 (a1.heap.size::w.heap.size::xs) e1 bp 97 [(.slice af fn cf),(.slice (some ⟨gc,0,none⟩) cn cc),(.slice aw wn cw)] (.slice af fn cf) (.slice (some ⟨gc,0,none⟩) cn cc) (.slice aw wn cw) fs cv ws ex∧Blk e1 (w.heap.size) 31 (opC p tco)∧Blk e1 (a1.heap.size) 37 (AC 0 0 0 (tmC 0 0 0 ⟨#[]⟩ (.slice none 0 0)))∧e1.cell? ⟨gc,ix* 3+2,none⟩=some (.slice ua un uc)∧e1.cell? ⟨gc,ix* 3+1,none⟩=some (.int .i64 c.o)∧SlI (fun _=> True) e1 (.slice ua un uc) c.us∧Blk e1 (v15.heap.size) 3 ([.int .i64 p.t])∧((∀ k,(Value.slice ua un uc).ownBlock=some k→k≠v15.heap.size)) from⟨(HV16.out.1.below hbel),HV16.out.2.1.below hbel HV16.out.2.1.lt,HV16.out.2.2.1.below hbel HV16.out.2.2.1.lt,((hbel).cell (p:=⟨gc,ix* 3+2,none⟩) (Am HV16.out.2.2.2.1)).trans HV16.out.2.2.2.1,((hbel).cell (p:=⟨gc,ix* 3+1,none⟩) (Am HV16.out.2.2.2.2.1)).trans HV16.out.2.2.2.2.1,(HV16.out.2.2.2.2.2.below hbel),hb,fun k hk e=> by have:=HV16.out.1.lt k (Gt k (HUB.out k hk));omega⟩)
      clear hb hbel hsz
      try simp only[Al,Ad,Ae,Af]
      refine QK.normal ⟨fun _=> ⟨HE1.out.2.2.2.1,HE1.out.2.1.cell 3⟩,?_⟩
      refine' AE 9 (by kernel_rfl) ?_ ?_;rotate_left;(simp only[Aa,Ab,Ac];rfl)
      try simp only[Al,Ad,Ae,Af]
      go_wp2_with fail
      refine(KS (_) lk p.t (.slice ua un uc) c.us e1 (HROW.out e1 HE1.out.1) HE1.out.2.2.2.2.2.2.1 HE1.out.2.2.2.2.2.2.2 (by have:=HUN.out;omega) (by have:=HUN.out;omega)).mono ?_
      rintro e' e2 ⟨ay,cy,rfl,hown,hc,hob⟩
      have HINR:=Ag (Ai hown (Ai hc hob))
      have HE2:=hJ2 ((hc.cell (p:=⟨gc,ix* 3+2,none⟩) (Am HE1.out.2.2.2.1) (fun e=> (HE1.out.1.bu _ (HUB.out _ e)).2.2.1 (AF.2 rfl))).trans HE1.out.2.2.2.1) (HE1.out.2.1.keep hc (fun e=> (HE1.out.1.ne (show w.heap.size∈(a1.heap.size::w.heap.size::xs) by simp)).2.2.2.2 (HUB.out _ e)))
      have HRSK:=Ag (show Blk e2 a1.heap.size 37 (AC 0 0 0 (tmC 0 0 0 ⟨#[]⟩ (.slice none 0 0))) from HE1.out.2.2.1.keep hc (fun e=> (HE1.out.1.ne (show a1.heap.size∈(a1.heap.size::w.heap.size::xs) by simp)).2.2.2.2 (HUB.out _ e)))
      clear hown hc hob
      go_wp2_with fail
      refine QK.normal ⟨fun _=> ⟨HE2.out.1,HE2.out.2.cell 3⟩,?_⟩
      refine AL (by kernel_rfl) AG (fuel:=2) (fun _=> ⟨HE2.out.1,HE2.out.2.cell 3⟩) 10 (by kernel_rfl) ?_
      refine' AK.run ?_ ?_ ?_ ?_;rotate_left 2;(simp only[Aa,Ab,Ac];rfl);rfl;(rintro w' -;go_simp;with_reducible rfl);simp only[Al,Ad,Ae,Af]
      refine AL (by kernel_rfl) AG (fuel:=1) (fun _=> ⟨HE2.out.1,HE2.out.2.cell 3⟩) 11 (by kernel_rfl) ?_
      refine' AK.run ?_ ?_ ?_ ?_;rotate_left 2;(simp only[Aa,Ab,Ac];rfl);rfl;(rintro w' -;go_simp;with_reducible rfl);simp only[Al,Ad,Ae,Af]
      refine' AE 12 (by kernel_rfl) ?_ ?_;rotate_left;(simp only[Aa,Ab,Ac];rfl)
      have q2:=HE2.out.1
      have q1:e2.frozen? ⟨gc,ix* 3+2,none⟩=false:=by
       obtain⟨-,-,_,-,-,-,hth,-⟩:=HE1.out.1.rc.focus HIXL.out
       exact(HINR.out.2.1.frozen (p:=⟨gc,ix* 3+2,none⟩) (Am HE1.out.2.2.2.1) (fun e=> (HE1.out.1.bu _ (HUB.out _ e)).2.2.1 (AF.2 rfl))).trans (hth 2 (by omega)).2
      try simp only[Al,Ad,Ae,Af]
      go_wp2_with fail
      clear q1 q2
      have HE4:=Ag (show OwnX w0 m0 (a1.heap.size::w.heap.size::xs) (e2.setCells gc (ix* 3+2) [(.slice ay (c.us.length+1) cy)]) bp 97 [(.slice af fn cf),(.slice (some ⟨gc,0,none⟩) cn cc),(.slice aw wn cw)] (.slice af fn cf) (.slice (some ⟨gc,0,none⟩) cn cc) (.slice aw wn cw) fs (cv.set ix (⟨c.n,c.o,(Cl c.us lk p.t),(.slice ay (c.us.length+1) cy),true⟩:CirV)) ws ex∧Blk (e2.setCells gc (ix* 3+2) [(.slice ay (c.us.length+1) cy)]) (w.heap.size) 31 (opC p tco)∧Blk (e2.setCells gc (ix* 3+2) [(.slice ay (c.us.length+1) cy)]) (a1.heap.size) 37 (AC 0 0 0 (tmC 0 0 0 ⟨#[]⟩ (.slice none 0 0))) from⟨by
       have h:=HE1.out.1.putU (us':=(Cl c.us lk p.t)) (vu':=(.slice ay (c.us.length+1) cy)) HIXL.out (by rw[HCC.out.1,HCC.out.2.1,HCC.out.2.2];exact HINR.out.2.1.mono (fun k hk=> ⟨rfl,hk⟩)) (by rw[DX (by have:=HUN.out;omega)];exact HINR.out.1) (by rw[HCC.out.1,HCC.out.2.1,HCC.out.2.2];exact HINR.out.2.2.imp (fun h=> ⟨rfl,h⟩) id)
       rw[HCC.out.1] at h
       exact h,HE2.out.2.keep (AH gc _ _ _) (fun e=> (HE1.out.1.ne (show w.heap.size∈(a1.heap.size::w.heap.size::xs) by simp)).2.2.1 (by rw[show w.heap.size=gc from e];exact AF.2 rfl)),HRSK.out.keep (AH gc _ _ _) (fun e=> (HE1.out.1.ne (show a1.heap.size∈(a1.heap.size::w.heap.size::xs) by simp)).2.2.1 (by rw[show a1.heap.size=gc from e];exact AF.2 rfl))⟩)
      rw[show e2.setCell ⟨gc,ix* 3+2,none⟩ (.slice ay (c.us.length+1) cy)=(e2.setCells gc (ix* 3+2) [(.slice ay (c.us.length+1) cy)]) from rfl]
      generalize (e2.setCells gc (ix* 3+2) [(.slice ay (c.us.length+1) cy)])=e4 at HE4 ⊢
      refine QK.normal ⟨fun h=> absurd h (by decide),?_⟩
      refine Bd (by kernel_rfl) ?_ _
      refine NoPanic.normal ?_
      have HX:=Ag (show SR=(⟨fs,(cv.map CirV.m).set ix ⟨c.n,c.o,(Cl c.us lk p.t)⟩,ws⟩,A1 0) from by
       rw[←HSR.out]
       unfold BZ
       rw[HSK.out,if_neg (by simp),show(⟨fs,cv.map CirV.m,ws⟩:IdM).cs[ix]?=some c.m from HCI.out];simp only
       rw[if_neg (by show ¬ (c.o≠p.u);rw[HCU.out];simp),if_neg (fun h=> by rw[HUO.out] at h;exact absurd h.2 (by simp)),if_neg (fun h=> by have h2:=h.2;rw[show c.m.us=c.us from rfl,HINS.out] at h2;cases h2),if_pos HK2.out]
       rw[show c.m.us=c.us from rfl,HLK.out];rfl)
      go_wp2_with (first
  | (with_reducible refine Ba rfl rfl ?_)
  | ((with_reducible refine Ao e4 rfl 37 (.tmp 4) (.tmp 87) rfl (a1.heap.size) 37 (AC 0 0 0 (tmC 0 0 0 ⟨#[]⟩ (.slice none 0 0))) (AC 0 0 0 (tmC 0 0 0 ⟨#[]⟩ (.slice none 0 0))) HE4.out.2.2 rfl rfl rfl (Ax rfl) (AM (AR _ _ _ _ _ _ _)) ?_);intro z9 hb hc hs;have HZ:=Ag (Ai (HE4.out.1.setX (show a1.heap.size∈_ by simp) HSZ.out hc) hb);clear hb hc hs))
      refine⟨_,AA Tryz.results79 _ _ (a1.heap.size) _ _ rfl HZ.out.2 _ Tryz.underlying37 rfl (Ax rfl),?_⟩
      rw[HX.out]
      exact⟨_,_,_,_,(cv.set ix (⟨c.n,c.o,(Cl c.us lk p.t),(.slice ay (c.us.length+1) cy),true⟩:CirV)),rfl,(by rw[List.map_set];rfl),(fun x hx=> (List.mem_or_eq_of_mem_set hx).elim (HALL.out x) (fun e=> by rw[e])),((HZ.out.1).keepoff (fun k hk=> by simp[hk])).exadd (Bm _ _)⟩
     ·skip
      have HX:=Ag (show SR=((⟨fs,cv.map CirV.m,ws⟩:IdM),A1 5) from by rw[←HSR.out];unfold BZ;rw[HSK.out,if_neg (by simp),show(⟨fs,cv.map CirV.m,ws⟩:IdM).cs[ix]?=some c.m from HCI.out];simp only;rw[if_neg (by show ¬ (c.o≠p.u);rw[HCU.out];simp),if_neg (fun h=> by rw[HUO.out] at h;exact absurd h.2 (by simp)),if_pos ⟨HK2.out,HINS.out⟩])
      go_wp2_with fail
      refine(Bc (5) q4).mono ?_
      rintro e' u13 ⟨rfl,hb⟩
      have K14:=hJ6 (Hq4.out.1.below hb) (Hq4.out.2.1.below hb Hq4.out.2.1.lt) (Hq4.out.2.2.1.below hb Hq4.out.2.2.1.lt) (((hb).cell (p:=⟨gc,ix* 3+2,none⟩) (Am Hq4.out.2.2.2.1)).trans Hq4.out.2.2.2.1) (((hb).cell (p:=⟨gc,ix* 3+1,none⟩) (Am Hq4.out.2.2.2.2.1)).trans Hq4.out.2.2.2.2.1) (Hq4.out.2.2.2.2.2.below hb)
      clear hb
      go_wp2_with (first
  | ((with_reducible refine Ao u13 rfl 37 (.tmp 4) (.tmp 72) rfl (a1.heap.size) 37 (AC 0 0 0 (tmC 0 0 0 ⟨#[]⟩ (.slice none 0 0))) (AC (5) 0 0 (tmC 0 0 0 ⟨#[]⟩ (.slice none 0 0))) K14.out.2.2.1 rfl rfl rfl (Ax rfl) (AM (AR _ _ _ _ _ _ _)) ?_);intro z9 hb hc hs;have HZ:=Ag (Ai (K14.out.1.setX (show a1.heap.size∈_ by simp) HSZ.out hc) hb);clear hb hc hs))
      refine⟨_,AA Tryz.results79 _ _ (a1.heap.size) _ _ rfl HZ.out.2 _ Tryz.underlying37 rfl (Ax rfl),?_⟩
      rw[HX.out]
      exact⟨_,_,_,_,cv,rfl,rfl,HALL.out,((HZ.out.1).keepoff (fun k hk=> by simp[hk])).exadd (Bm _ _)⟩
   ·have hce:(c.o==p.u)=false:=by simpa using hcu
    have hce2:(c.o !=p.u)=true:=by simpa using hcu
    have HX:=Ag (show SR=((⟨fs,cv.map CirV.m,ws⟩:IdM),A1 211) from by rw[←HSR.out];unfold BZ;rw[HSK.out,if_neg (by simp),show(⟨fs,cv.map CirV.m,ws⟩:IdM).cs[ix]?=some c.m from HCI.out];simp only;rw[if_pos (by exact hcu)])
    clear hcu
    go_wp2_with fail
    go_quiet (fail)
    clear c0 c1 co
    have sm:=((Sm.refl u9).drewN nq)
    have Hq4:=Ag (show OwnX w0 m0 (a1.heap.size::w.heap.size::xs) (u9.drewN nq) bp 97 [(.slice af fn cf),(.slice (some ⟨gc,0,none⟩) cn cc),(.slice aw wn cw)] (.slice af fn cf) (.slice (some ⟨gc,0,none⟩) cn cc) (.slice aw wn cw) fs cv ws ex∧Blk (u9.drewN nq) (w.heap.size) 31 (opC p tco)∧Blk (u9.drewN nq) (a1.heap.size) 37 (AC 0 0 0 (tmC 0 0 0 ⟨#[]⟩ (.slice none 0 0)))∧(u9.drewN nq).cell? ⟨gc,ix* 3+2,none⟩=some (.slice ua un uc)∧(u9.drewN nq).cell? ⟨gc,ix* 3+1,none⟩=some (.int .i64 c.o)∧SlI (fun _=> True) (u9.drewN nq) (.slice ua un uc) c.us from⟨(K10.out.1.below (sm.below _)),K10.out.2.1.below (sm.below _) K10.out.2.1.lt,K10.out.2.2.1.below (sm.below _) K10.out.2.2.1.lt,(((sm.below _)).cell (p:=⟨gc,ix* 3+2,none⟩) (Am K10.out.2.2.2.1)).trans K10.out.2.2.2.1,(((sm.below _)).cell (p:=⟨gc,ix* 3+1,none⟩) (Am K10.out.2.2.2.2.1)).trans K10.out.2.2.2.2.1,(K10.out.2.2.2.2.2.below (sm.below _))⟩)
    generalize u9.drewN nq=q4 at Hq4 ⊢
    clear sm
    go_wp2_with fail
    refine(Bc (211) q4).mono ?_
    rintro e' u17 ⟨rfl,hb⟩
    have K18:=hJ6 (Hq4.out.1.below hb) (Hq4.out.2.1.below hb Hq4.out.2.1.lt) (Hq4.out.2.2.1.below hb Hq4.out.2.2.1.lt) (((hb).cell (p:=⟨gc,ix* 3+2,none⟩) (Am Hq4.out.2.2.2.1)).trans Hq4.out.2.2.2.1) (((hb).cell (p:=⟨gc,ix* 3+1,none⟩) (Am Hq4.out.2.2.2.2.1)).trans Hq4.out.2.2.2.2.1) (Hq4.out.2.2.2.2.2.below hb)
    clear hb
    go_wp2_with (first
  | ((with_reducible refine Ao u17 rfl 37 (.tmp 4) (.tmp 57) rfl (a1.heap.size) 37 (AC 0 0 0 (tmC 0 0 0 ⟨#[]⟩ (.slice none 0 0))) (AC (211) 0 0 (tmC 0 0 0 ⟨#[]⟩ (.slice none 0 0))) K18.out.2.2.1 rfl rfl rfl (Ax rfl) (AM (AR _ _ _ _ _ _ _)) ?_);intro z9 hb hc hs;have HZ:=Ag (Ai (K18.out.1.setX (show a1.heap.size∈_ by simp) HSZ.out hc) hb);clear hb hc hs))
    refine⟨_,AA Tryz.results79 _ _ (a1.heap.size) _ _ rfl HZ.out.2 _ Tryz.underlying37 rfl (Ax rfl),?_⟩
    rw[HX.out]
    exact⟨_,_,_,_,cv,rfl,rfl,HALL.out,((HZ.out.1).keepoff (fun k hk=> by simp[hk])).exadd (Bm _ _)⟩
  ·skip
   have HK2:=Ag hk
   have HC0:=Ag (show(opC p tco)[0]?=some (.int .i64 10) from by show some (Value.int .i64 p.k)=_;rw[hk])
   clear hk
   have c0:u9.cell? ⟨w.heap.size,0,none⟩=some (.int .i64 10):=(K10.out.2.1.cell 0).trans HC0.out
   have c1:u9.cell? ⟨w.heap.size,1,none⟩=some (.int .i64 p.u):=K10.out.2.1.cell 1
   have co:u9.cell? ⟨gc,ix* 3+1,none⟩=some (.int .i64 c.o):=K10.out.2.2.2.2.1
   by_cases hcu:c.o=p.u
   ·have hce:(c.o==p.u)=true:=by simpa using hcu
    have hce2:(c.o !=p.u)=false:=by simpa using hcu
    have HCU:=Ag hcu
    clear hcu
    go_wp2_with fail
    go_quiet (fail)
    clear c0 c1 co
    have sm:=((Sm.refl u9).drewN nq)
    have Hq4:=Ag (show OwnX w0 m0 (a1.heap.size::w.heap.size::xs) (u9.drewN nq) bp 97 [(.slice af fn cf),(.slice (some ⟨gc,0,none⟩) cn cc),(.slice aw wn cw)] (.slice af fn cf) (.slice (some ⟨gc,0,none⟩) cn cc) (.slice aw wn cw) fs cv ws ex∧Blk (u9.drewN nq) (w.heap.size) 31 (opC p tco)∧Blk (u9.drewN nq) (a1.heap.size) 37 (AC 0 0 0 (tmC 0 0 0 ⟨#[]⟩ (.slice none 0 0)))∧(u9.drewN nq).cell? ⟨gc,ix* 3+2,none⟩=some (.slice ua un uc)∧(u9.drewN nq).cell? ⟨gc,ix* 3+1,none⟩=some (.int .i64 c.o)∧SlI (fun _=> True) (u9.drewN nq) (.slice ua un uc) c.us from⟨(K10.out.1.below (sm.below _)),K10.out.2.1.below (sm.below _) K10.out.2.1.lt,K10.out.2.2.1.below (sm.below _) K10.out.2.2.1.lt,(((sm.below _)).cell (p:=⟨gc,ix* 3+2,none⟩) (Am K10.out.2.2.2.1)).trans K10.out.2.2.2.1,(((sm.below _)).cell (p:=⟨gc,ix* 3+1,none⟩) (Am K10.out.2.2.2.2.1)).trans K10.out.2.2.2.2.1,(K10.out.2.2.2.2.2.below (sm.below _))⟩)
    generalize u9.drewN nq=q4 at Hq4 ⊢
    clear sm
    cases ins
    ·skip
     have HX:=Ag (show SR=((⟨fs,cv.map CirV.m,ws⟩:IdM),A1 4) from by rw[←HSR.out];unfold BZ;rw[HSK.out,if_neg (by simp),show(⟨fs,cv.map CirV.m,ws⟩:IdM).cs[ix]?=some c.m from HCI.out];simp only;rw[if_neg (by show ¬ (c.o≠p.u);rw[HCU.out];simp),if_neg (fun h=> absurd h.1 (by rw[HK2.out];omega)),if_neg (fun h=> absurd h.1 (by rw[HK2.out];omega)),if_neg (by rw[HK2.out];omega),if_pos (show(c.m.us.any (p.t==·))=false from HINS.out)])
     go_wp2_with fail
     refine(Bc (4) q4).mono ?_
     rintro e' u19 ⟨rfl,hb⟩
     have K20:=hJ6 (Hq4.out.1.below hb) (Hq4.out.2.1.below hb Hq4.out.2.1.lt) (Hq4.out.2.2.1.below hb Hq4.out.2.2.1.lt) (((hb).cell (p:=⟨gc,ix* 3+2,none⟩) (Am Hq4.out.2.2.2.1)).trans Hq4.out.2.2.2.1) (((hb).cell (p:=⟨gc,ix* 3+1,none⟩) (Am Hq4.out.2.2.2.2.1)).trans Hq4.out.2.2.2.2.1) (Hq4.out.2.2.2.2.2.below hb)
     clear hb
     go_wp2_with (first
  | ((with_reducible refine Ao u19 rfl 37 (.tmp 4) (.tmp 91) rfl (a1.heap.size) 37 (AC 0 0 0 (tmC 0 0 0 ⟨#[]⟩ (.slice none 0 0))) (AC (4) 0 0 (tmC 0 0 0 ⟨#[]⟩ (.slice none 0 0))) K20.out.2.2.1 rfl rfl rfl (Ax rfl) (AM (AR _ _ _ _ _ _ _)) ?_);intro z9 hb hc hs;have HZ:=Ag (Ai (K20.out.1.setX (show a1.heap.size∈_ by simp) HSZ.out hc) hb);clear hb hc hs))
     refine⟨_,AA Tryz.results79 _ _ (a1.heap.size) _ _ rfl HZ.out.2 _ Tryz.underlying37 rfl (Ax rfl),?_⟩
     rw[HX.out]
     exact⟨_,_,_,_,cv,rfl,rfl,HALL.out,((HZ.out.1).keepoff (fun k hk=> by simp[hk])).exadd (Bm _ _)⟩
    ·skip
     go_upto_region 19 with(first
  | ((with_reducible refine Cz q4 rfl 137 rfl (.slice none 0 0) rfl Tryz.zeroSp ?_);intro g1 hb hbel hsz;have HG1:=hJ4 (Hq4.out.1.rsv hbel (Ah _) hb.lt) (Hq4.out.2.1.below hbel Hq4.out.2.1.lt) (Hq4.out.2.2.1.below hbel Hq4.out.2.2.1.lt) hb;clear hb hbel hsz))
     try simp only[Al,Ad,Ae,Af]
     have HGN:=hJ2 Hq4.out.2.2.1.lt Hq4.out.1.ch.size
     obtain⟨gn,hgn⟩:∃ g,q4.heap.size=g:=⟨_,rfl⟩
     rw[hgn] at HG1 HGN ⊢
     clear hgn
     have c4:g1.cell? ⟨w.heap.size,4,none⟩=some (.int .i64 p.g):=HG1.out.2.1.cell 4
     go_wp2_with fail
     clear c4
     refine(GA bp p.g g1).mono ?_
     rintro e' x5 ⟨bl,bn,rfl,hbl,hbn,hge,hlt,hb⟩
     have HX5:=hJ6 (HG1.out.1.below hb) (HG1.out.2.1.below hb HG1.out.2.1.lt) (HG1.out.2.2.1.below hb HG1.out.2.2.1.lt) (HG1.out.2.2.2.below hb HG1.out.2.2.2.lt) hbl hbn
     have HBL:=Ag (show gn<bl∧bl<bn from⟨Ak HG1.out.2.2.2.lt hge,hlt⟩)
     clear hbl hbn hge hlt hb
     obtain⟨g,haf⟩:∃ g,0<fn→af=some ⟨g,0,none⟩:=by
      by_cases h0:0<fn
      ·obtain⟨g,c',e,-⟩:=HX5.out.1.rf.ptr (j:=0) (by rw[HN.out.1];exact h0)
       exact⟨g,fun _=> by simpa using (Value.slice.inj e).1⟩
      ·exact⟨0,fun h=> absurd h h0⟩
     have HAF:=Ag haf
     have HFC:=Ag (show fn≤cf from by obtain⟨ao',c',e,h1,-⟩:=HX5.out.1.rf.shape;have:=(Value.slice.inj e).2.2;have:=HN.out.1;omega)
     clear haf
     go_wp2_with fail
     refine(wpIn_wide (n:=9)).1 ?_
     have HOW:=Ag (fun (W:World) (hc:Ch (·=gn) x5 W)=> show OwnX w0 m0 (gn::a1.heap.size::w.heap.size::xs) W bp 97 [(.slice af fn cf),(.slice (some ⟨gc,0,none⟩) cn cc),(.slice aw wn cw)] (.slice af fn cf) (.slice (some ⟨gc,0,none⟩) cn cc) (.slice aw wn cw) fs cv ws ex from HX5.out.1.setX (g:=gn) List.mem_cons_self HGN.out.2 hc)
     have HKN:=Ag (show ∀ pre W,NI1 x5 gn fs pre W→ShrK bl bn bp p.g (.slice af fn cf) g fn (shB fs p.g) W from fun pre W h=> (HOW.out W h.ch).shr (HX5.out.2.2.2.2.1.keep h.ch (fun e=> by have e:bl=gn:=e;have:=HBL.out;omega)) (HX5.out.2.2.2.2.2.keep h.ch (fun e=> by have e:bn=gn:=e;have:=HBL.out;omega)) HN.out.1 HAF.out (fun _ _=> rfl))
     have H10:=Ag (show NI1 x5 gn fs [] x5 from⟨Ch.refl _ _,(fun i hi=> nomatch hi),none,0,HX5.out.2.2.2.1,OwR.nil⟩)
     refine' ER (F:=Fence.wide) rfl (by omega) (gf:=121) (lb:=#[.pointer (some ⟨bl,0,none⟩),.pointer (some ⟨bn,0,none⟩)]) rfl trivial (enters_of Tryz.func121 (by kernel_rfl) rfl) (GC bl bn bp g fn cf p.g af (shB fs p.g) x5 HAF.out (by omega) HFC.out) (Below.refl _ _) (fun _=> rfl)
      (NI1 x5 gn fs) (NX1 x5 gn a1.heap.size fs) NI1.own (fun c=> NX1.own c) HKN.out H10.out _ ?assign ?body ?done ?stop
     case assign=>
      rintro l x W K hK
      rw[zip1,I7]
      simp only[Ad,Ae,Af]
      gi_wp2
      exact hK
     case body=>
      rintro l pre x W0' W hl - hI0 hI hgr hpr
      obtain⟨hx1,hx2,hx3,hx4,hx5,-⟩:=Jl hpr
      have hxl:x<fs.length:=by rw[HN.out.1];exact hx1
      obtain⟨f,hf⟩:∃ f,fs[x]=f:=⟨_,rfl⟩
      obtain rfl:=HAF.out (by omega)
      obtain⟨-,vr,vq,vg,tc,hra,hpf,-⟩:=OwnX.elF (f:=f) (by rw[←hf,List.set_getElem_self];exact HOW.out W hI.ch) hxl
      have HFP:=Ag (Br (HK.out.f f (by show f∈fs;rw[←hf];exact List.getElem_mem hxl)))
      obtain⟨⟨q,er⟩,hq⟩:∃ r,Bj f.p (BN f.p)=r:=⟨_,rfl⟩
      have HNX:=Ag (show nxR fs x=(q,er) from by unfold nxR;rw[List.getElem?_eq_getElem hxl,hf,←hq];rfl)
      have HNC:=Ag ((WideF.round l).calls (n:=6) (show Calls Tryz.prog 99 #[.agg (pmC f.p.o f.p.e vr vq vg).toArray] W (EF W (q,er)) from by have h:=J3 f.p vr vq vg W hpf.s HFP.out.1.pml;rw[hq] at h;exact h))
      have HRA:=Ag (show W.rangeAt g (x* 14+1) (pmC f.p.o f.p.e vr vq vg) from fun j y hy=> by have h:=hra (1+j) y (by match j,hy with|0,hy=> exact hy|1,hy=> exact hy|2,hy=> exact hy|3,hy=> exact hy|4,hy=> exact hy);rw[←Nat.add_assoc] at h;exact h)
      have HI:=Ag hI
      have HRS:=Ag (show Blk W a1.heap.size 37 (AC 0 0 0 (tmC 0 0 0 ⟨#[]⟩ (.slice none 0 0))) from HX5.out.2.2.1.keep hI.ch (fun e=> by have e:a1.heap.size=gn:=e;have:=HGN.out;omega))
      clear hI hI0 hgr hra hpf hq hf hx1 hx2 hx3 hx4 hx5
      gi_wp2_with (with_reducible refine EI (WideF.round l) W rfl 43 (.tmp 100) rfl g (x* 14+1) rfl (pmC f.p.o f.p.e vr vq vg) _ HRA.out Tryz.underlying43 rfl (Ay _ _ _ _ _) ?_)
      refine⟨trivial,?_⟩
      refine HNC.out.mono ?_
      rintro e w1 ⟨ur,uq,ug,rfl,hps,hb,hab⟩
      have HPS:=Ag (Ai hps (Ai hab hb))
      obtain⟨ra,rc,e1,-,-,-⟩:=hps.1.nums
      obtain⟨qa,qc,e2,-,-,-⟩:=hps.2.1.nums
      obtain⟨ga,gc',e3,-,-,-⟩:=hps.2.2.nums
      have HON:=Ag (show ur.oneCell'=true∧uq.oneCell'=true∧ug.oneCell'=true from⟨by rw[e1];rfl,by rw[e2];rfl,by rw[e3];rfl⟩)
      clear hps hb hab e1 e2 e3
      have hgnW:gn<W.heap.size:=by obtain⟨ao,c',h1,-⟩:=HI.out.nx;exact h1.lt
      by_cases hz:er≠0
      ·have hze:(er==0)=false:=by simpa using hz
       have hze2:(er !=0)=true:=by simpa using hz
       have HZ:=Ag hz
       clear hz
       gi_wp2_with (first
  | ((with_reducible refine D9 (WideF.round l) w1 rfl 43 rfl (pmC 0 0 (.slice none 0 0) (.slice none 0 0) (.slice none 0 0)) Tryz.zeroPm ?_);intro w2 hb hbel hsz;have H2:=Ag (Ai hb hbel);clear hb hbel hsz)
  | ((with_reducible refine Dw (WideF.round l) w2 rfl 43 (.tmp 13) (.tmp 103) rfl (w1.heap.size) 43 (pmC 0 0 (.slice none 0 0) (.slice none 0 0) (.slice none 0 0)) (pmC q.o q.e ur uq ug) H2.out.1 rfl rfl rfl (Ay _ _ _ _ _) (Bt HON.out.1 HON.out.2.1 HON.out.2.2) ?_);intro w3 hb hc hs;have H3:=hJ3 hb (Aw (An HPS.out.2.2 H2.out.2 (Ah _)) hc (Ah _) (fun k hk=> by have e:k=w1.heap.size:=hk;have:=HPS.out.2.2.size;omega)) (Aw H2.out.2 hc (Ah _) (fun k hk=> by have e:k=w1.heap.size:=hk;omega));clear hb hc hs))
       refine⟨trivial,?_⟩
       refine((WideF.round l).calls (n:=6) (Bc er w3)).mono ?_
       rintro e w4 ⟨rfl,hb⟩
       have HRS4:=Ag (show Blk w4 a1.heap.size 37 (AC 0 0 0 (tmC 0 0 0 ⟨#[]⟩ (.slice none 0 0)))∧Below W.heap.size W w4 from⟨(HRS.out.below H3.out.2.1 HRS.out.lt).below hb (by have:=HRS.out.lt;have:=H3.out.2.1.size;omega),An H3.out.2.1 hb (Ah _)⟩)
       clear hb
       gi_wp2_with ((with_reducible refine Dw (WideF.round l) w4 rfl 37 (.tmp 4) (.tmp 108) rfl (a1.heap.size) 37 (AC 0 0 0 (tmC 0 0 0 ⟨#[]⟩ (.slice none 0 0))) (AC er 0 0 (tmC 0 0 0 ⟨#[]⟩ (.slice none 0 0))) HRS4.out.1 rfl rfl rfl (Ax rfl) (AM (AR _ _ _ _ _ _ _)) ?_);intro w5 hb hc hs;have H5:=Ag (Ai hb hc);clear hb hc hs)
       have hc5:Ch (·=a1.heap.size) W w5:=(Ch.of_below HRS4.out.2 (Ah _)).trans H5.out.2
       refine⟨CE hc5 (fun k hk o ho=> by have e:k=a1.heap.size:=hk;subst e;exact CW HRS.out o ho),rfl,(HI.out.ch.mono (fun k hk=> .inl hk)).trans (hc5.mono (fun k hk=> .inr hk)),pre,x,rfl,HI.out.er,by rw[HNX.out];exact HZ.out,by rw[HNX.out];exact H5.out.1⟩
      ·have hz0:er=0:=by omega
       subst hz0
       clear hz
       obtain⟨ao,c',hnb,hnr⟩:=HI.out.nx
       have HNR:=Ag (Ai hnb hnr)
       obtain⟨i0,hi0,hz0,hz1,hz2⟩:=info_parts Tryz.infoPq
       have HI0:=Ag (Ai hi0 (Ai hz0 (Ai hz1 hz2)))
       have HPL:=Ag (show pre.length≤1000000 from by
        have h1:=hpr.length_le
        have h2:(shL (shB fs p.g) fn).length≤fn:=by unfold shL;exact Aj (List.length_filter_le _ _) (by simp)
        rw[List.length_append] at h1
        omega)
       clear hnb hnr hi0 hz0 hz1 hz2
       have HBX:=Ag (show gn<x5.heap.size from HX5.out.2.2.2.1.lt)
       have HMK:=Ag (show ∀ w4:World,Below W.heap.size W w4→Below w1.heap.size w1 w4→OwR (PqC (fun k=> x5.heap.size≤k∧(Value.slice ao pre.length c').ownBlock≠some k)) 5 43 x5.heap.size w4 (.slice ao pre.length c') (pre.map fun i=> (nxR fs i).1)∧PqC (fun k=> x5.heap.size≤k∧(Value.slice ao pre.length c').ownBlock≠some k) w4 (pmC q.o q.e ur uq ug) q from fun w4 hb hb1=> by
        refine⟨HNR.out.2.keep' (Ch.of_below (S:=fun _=> False) hb (Ah _)) (fun _ _ e=> e) (fun cs a _ h=> h.keep' (Ch.of_below (S:=fun _=> False) hb (Ah _)) (fun _ _ e=> e) (fun _ h=> h)),ur,uq,ug,rfl,?_⟩
        have key:∀ (v:Value) (l:List Int),Sl w1 v (ofK .i64 l)→Abv W.heap.size v→SlI (fun k=> x5.heap.size≤k∧(Value.slice ao pre.length c').ownBlock≠some k) w4 v l:=fun v l hs hv=> ⟨hs.below hb1 (Ah _),fun k _ hk=> ⟨Aj HI.out.ch.size (hv k hk),fun e=> by have h1:=(HNR.out.2.lt k e).2;have h2:=hv k hk;omega⟩⟩
        exact⟨key _ _ HPS.out.1.1 HPS.out.2.1.1,key _ _ HPS.out.1.2.1 HPS.out.2.1.2.1,key _ _ HPS.out.1.2.2 HPS.out.2.1.2.2⟩)
       have HMC:=Ag (show ∀ w4 w5:World,Ch (fun k=> (Value.slice ao pre.length c').ownBlock=some k) w4 w5→∀ (cs:List Value) (a:PmD),a∈(pre.map fun i=> (nxR fs i).1) ++ [q]→PqC (fun k=> x5.heap.size≤k∧(Value.slice ao pre.length c').ownBlock≠some k) w4 cs a→PqC (fun k=> (x5.heap.size≤k∧(Value.slice ao pre.length c').ownBlock≠some k)∧k<w4.heap.size) w5 cs a from fun w4 w5 hc cs a _ h=> by
        obtain⟨vr',vq',vg',e,hp⟩:=h
        have hp2:PmF (fun k=> (x5.heap.size≤k∧(Value.slice ao pre.length c').ownBlock≠some k)∧k<w4.heap.size) w4 a vr' vq' vg':=⟨hp.1.old',hp.2.1.old',hp.2.2.old'⟩
        exact⟨vr',vq',vg',e,hp2.keep' hc (fun k hk e=> hk.1.2 e) (fun _ h=> h)⟩)
       gi_wp2_with (first
        | ((with_reducible refine D9 (WideF.round l) w1 rfl 43 rfl (pmC 0 0 (.slice none 0 0) (.slice none 0 0) (.slice none 0 0)) Tryz.zeroPm ?_);intro w2 hb hbel hsz;have H2:=Ag (Ai hb hbel);clear hb hbel hsz)
        | ((with_reducible refine Dw (WideF.round l) w2 rfl 43 (.tmp 13) (.tmp 103) rfl (w1.heap.size) 43 (pmC 0 0 (.slice none 0 0) (.slice none 0 0) (.slice none 0 0)) (pmC q.o q.e ur uq ug) H2.out.1 rfl rfl rfl (Ay _ _ _ _ _) (Bt HON.out.1 HON.out.2.1 HON.out.2.2) ?_);intro w3 hb hc hs;have H3:=hJ3 hb (Aw (An HPS.out.2.2 H2.out.2 (Ah _)) hc (Ah _) (fun k hk=> by have e:k=w1.heap.size:=hk;have:=HPS.out.2.2.size;omega)) (Aw H2.out.2 hc (Ah _) (fun k hk=> by have e:k=w1.heap.size:=hk;omega));have n0:=(HNR.out.1.below H3.out.2.1 hgnW).cell 0;simp only[Ab] at n0;clear hb hc hs)
        | ((with_reducible refine EI (WideF.round l) w3 rfl 43 (.tmp 13) rfl (w1.heap.size) 0 rfl (pmC q.o q.e ur uq ug) _ (As H3.out.1) Tryz.underlying43 rfl (Ay _ _ _ _ _) ?_))
        | ((with_reducible refine I4 (WideF.round l) w3 rfl 137 (.tmp 110) rfl (k:=5) (zs:=(pmC 0 0 (.slice none 0 0) (.slice none 0 0) (.slice none 0 0)).toArray) Tryz.underlying137 (fun w=> by kernel_rfl) (fun w=> by kernel_rfl) (by decide) (by decide) (pmC q.o q.e ur uq ug) rfl rfl ?_);intro w4 hb hbel hsz;have H4:=hJ3 hb (An H3.out.2.1 hbel (Ah _)) (An H3.out.2.2 hbel (Ah _));have HNB:=Ag (HNR.out.1.below H4.out.2.1 hgnW);have HSX:=Ag (show x5.heap.size≤w4.heap.size from Aj HI.out.ch.size H4.out.2.1.size);have HRW:=Ag (show OwR (PqC (fun k=> x5.heap.size≤k∧(Value.slice ao pre.length c').ownBlock≠some k)) 5 43 x5.heap.size w4 (.slice ao pre.length c') (pre.map fun i=> (nxR fs i).1)∧PqC (fun k=> x5.heap.size≤k∧(Value.slice ao pre.length c').ownBlock≠some k) w4 (pmC q.o q.e ur uq ug) q from HMK.out w4 H4.out.2.1 H4.out.2.2);have HCC:=Ag (HMC.out w4);clear hb hbel hsz)
        | ((refine CG (WideF.round l) (fun c h=> by cases h) (Bv rfl (.tmp 109) (.tmp 111) 137 rfl Tryz.underlying137 i0 _ 88 HI0.out.1 HI0.out.2.1 HI0.out.2.2.1 HI0.out.2.2.2 rfl (by omega) (C:=PqC (fun k=> x5.heap.size≤k∧(Value.slice ao pre.length c').ownBlock≠some k)) (C':=PqC (fun k=> (x5.heap.size≤k∧(Value.slice ao pre.length c').ownBlock≠some k)∧k<w4.heap.size)) (r:=[q]) (F:=fun _=> True) HRW.out.1 rfl rfl (RwC.of_one H4.out.1 trivial rfl HRW.out.2) (fun cs a _ h=> h.one) (pre.length+1) (by simp) (by have:=HPL.out;omega) (by omega) HSX.out HCC.out ?_));intro ao2 c2 w5 hown hc hob;have H5:=Ag (Ai hown (Ai hc hob));have HN5:=Ag (HNB.out.keep hc (fun e=> by have:=(HRW.out.1.lt _ e).1;have:=HBX.out;omega));have n5:=HN5.out.cell 0;have f5:=HN5.out.free 0;simp only[Ab] at n5;clear hown hc hob;refine Dv ?_))
       clear n0 n5 f5
       have hc6:=Ch.set w5 ⟨gn,0,none⟩ (.slice ao2 (pre.length+1) c2)
       have hcW:Ch (fun k=> k=gn∨(Value.slice ao pre.length c').ownBlock=some k) W (w5.setCell ⟨gn,0,none⟩ (.slice ao2 (pre.length+1) c2)):=
        ((Ch.of_below H4.out.2.1 (Ah _)).trans (H5.out.2.1.mono (fun k hk=> .inr hk))).trans (hc6.mono (fun k hk=> .inl hk))
       have hel:(pre ++ [x]).length=pre.length+1:=by simp
       have hem:(pre ++ [x]).map (fun i=> (nxR fs i).1)=(pre.map fun i=> (nxR fs i).1) ++ [q]:=by rw[List.map_append];simp[HNX.out]
       refine⟨CE hcW (fun k hk o ho=> hk.elim (fun e=> by subst e;exact CW HNR.out.1 o ho) (fun e=> by obtain⟨css,h1,-⟩:=HNR.out.2;exact DB h1 k e o ho)),trivial,HI.out.ch.trans' hcW (fun k hk e=> e.elim id (fun e=> by have h1:=(HNR.out.2.lt k e).1;omega)),fun i hi=> ?_,ao2,c2,?_,?_⟩
       ·rcases List.mem_append.1 hi with hi|hi
        ·exact HI.out.er i hi
        ·obtain rfl:i=x:=by simpa using hi
         rw[HNX.out]
       ·rw[hel];exact HN5.out.set 0 _
       ·rw[hel,hem]
        refine H5.out.1.keep' hc6 (fun k hk e=> by have e:k=gn:=e;have h1:=(H5.out.1.lt k hk).1;have:=HBX.out;omega) (fun cs a _ h=> h.keep' hc6 (fun k hk e=> by have e:k=gn:=e;have h1:=hk.1.1;have:=HBX.out;omega) (fun k hk=> ⟨hk.1.1,fun e=> ?_⟩))
        rcases H5.out.2.2 with hob|hob
        ·rw[hob] at e;exact hk.1.2 e
        ·rw[hob] at e;injection e with e;have:=hk.2;omega
     case stop=>
      rintro D c1 pre W hD hSp ⟨rfl,hch,pre',x,hpe,her,hne,hbr⟩ hK
      have HD:=Ag hK
      rw[hpe] at hSp
      have hat:=Jl hSp
      have hnx:Dd p.g fs=(nxR fs x).2:=Iv hat.2.1 hne (fun i hi hs=> her i (hat.2.2.1 i hi hs))
      have HX:=Ag (show SR=((⟨fs,cv.map CirV.m,ws⟩:IdM),A1 (nxR fs x).2) from by
       rw[←HSR.out];unfold BZ;rw[HSK.out,if_neg (by simp),show(⟨fs,cv.map CirV.m,ws⟩:IdM).cs[ix]?=some c.m from HCI.out];simp only
       rw[if_neg (by show ¬ (c.o≠p.u);rw[HCU.out];simp),if_neg (fun h=> absurd h.1 (by rw[HK2.out];omega)),if_neg (fun h=> absurd h.1 (by rw[HK2.out];omega)),if_neg (by rw[HK2.out];omega),if_neg (show ¬ (c.m.us.any (p.t==·))=false from by rw[show c.m.us=c.us from rfl,HINS.out];simp),if_pos (by rw[hnx];exact hne),hnx])
      have HO9:=Ag (HX5.out.1.setS (S:=fun k=> k=gn∨k=a1.heap.size) (fun k hk=> by
       rcases hk with rfl|rfl
       ·exact⟨by simp,HGN.out.2⟩
       ·exact⟨by simp,HSZ.out⟩) hch)
      have HB9:=Ag hbr
      clear hch hpe her hne hbr hK hSp hat hnx
      refine wpIn_wide.2 ?_
      go_wp2_with fail
      refine⟨by simp,.inl ⟨_,_,rfl,run_takeDeferred HD.out,?_⟩⟩
      have hnc:NoC W (some D):=fun r e=> by cases e;exact⟨_,HD.out,rfl⟩
      have hb5:=BH HB9.out (grownBy_putObj' W D (.deferred none)) hnc
      have ho5:=HO9.out.grown (grownBy_putObj' W D (.deferred none)) hnc (fun r e=> by cases e;have:=HX5.out.1.ch.size;omega)
      refine⟨_,AA Tryz.results79 _ _ (a1.heap.size) _ _ rfl hb5 _ Tryz.underlying37 rfl (Ax rfl),?_⟩
      rw[HX.out]
      exact⟨_,_,_,_,cv,rfl,rfl,HALL.out,(ho5.keepoff (fun k hk=> by simp[hk])).exadd (Bm _ _)⟩
     case done=>
      rintro D xs' W hD rfl hI hK
      have HD:=Ag hK
      have HI:=Ag hI
      have HBX:=Ag (show gn<x5.heap.size from HX5.out.2.2.2.1.lt)
      obtain⟨ao,c',hnb,hnr⟩:=hI.nx
      have HNR:=Ag (Ai hnb hnr)
      have HOP:=Ag (show Blk W w.heap.size 31 (opC p tco)∧Blk W a1.heap.size 37 (AC 0 0 0 (tmC 0 0 0 ⟨#[]⟩ (.slice none 0 0))) from⟨HX5.out.2.1.keep hI.ch (fun e=> by have e:w.heap.size=gn:=e;have:=HGN.out;have:=HG.out;omega),HX5.out.2.2.1.keep hI.ch (fun e=> by have e:a1.heap.size=gn:=e;have:=HGN.out;omega)⟩)
      have c4:W.cell? ⟨w.heap.size,4,none⟩=some (.int .i64 p.g):=HOP.out.1.cell 4
      clear hI hK hnb hnr
      go_wp2_with fail
      clear c4
      refine(GA bp p.g W).mono ?_
      rintro e' x6 ⟨bl2,bn2,rfl,hbl,hbn,hge,hlt,hb⟩
      have H20:=Ag (show NI2 w0 m0 (gn::a1.heap.size::w.heap.size::xs) bp (.slice af fn cf) (.slice (some ⟨gc,0,none⟩) cn cc) (.slice aw wn cw) cv ws ex x5.heap.size gn w.heap.size a1.heap.size bl2 bn2 D p tco fn fs [] x6 from⟨⟨fs,fun i=> by rw[if_neg (by simp)],(HOW.out W HI.out.ch).below hb⟩,(fun i hi=> nomatch hi),HOP.out.1.below hb HOP.out.1.lt,HOP.out.2.below hb HOP.out.2.lt,⟨_,HNR.out.1.below hb HNR.out.1.lt,by
       have h:=HNR.out.2.rwc.mono (C':=PqC (x5.heap.size≤·)) (G:=(x5.heap.size≤·)) (fun k hk=> (HNR.out.2.lt k hk).1) (fun cs a _ h=> h.keep' (Ch.refl (fun _=> False) W) (fun _ _ e=> e) (fun k hk=> hk.1))
       exact h.keep' (Ch.of_below (S:=fun _=> False) hb (Ah _)) (fun _ _ e=> e) (fun _ h=> h) (fun cs a _ h=> h.keep' (Ch.of_below (S:=fun _=> False) hb (Ah _)) (fun _ _ e=> e) (fun _ h=> h))⟩,(hb.block D (Array.getElem?_eq_some_iff.1 HD.out).1).trans HD.out,hbl,hbn⟩)
      have HX6:=Ag (show D<x6.heap.size∧w0.heap.size≤x6.heap.size∧x5.heap.size≤x6.heap.size from⟨Ak (Array.getElem?_eq_some_iff.1 HD.out).1 hb.size,by have:=HI.out.ch.size;have:=hb.size;have:=HX5.out.1.ch.size;omega,Aj HI.out.ch.size hb.size⟩)
      have HER:=Ag HI.out.er
      have HDL0:=Ag (show w0.heap.size≤D from by have:=HX5.out.1.ch.size;omega)
      have HBL2:=Ag (show x5.heap.size≤bl2∧bl2<bn2 from⟨Aj HI.out.ch.size hge,hlt⟩)
      clear hbl hbn hge hlt hb
      go_wp2_with fail
      refine(wpIn_wide (n:=9)).1 ?_
      have HK22:=Ag (show ∀ pre W,NI2 w0 m0 (gn::a1.heap.size::w.heap.size::xs) bp (.slice af fn cf) (.slice (some ⟨gc,0,none⟩) cn cc) (.slice aw wn cw) cv ws ex x5.heap.size gn w.heap.size a1.heap.size bl2 bn2 D p tco fn fs pre W→ShrK bl2 bn2 bp p.g (.slice af fn cf) g fn (shB fs p.g) W from fun pre W h=> by
       obtain⟨fs',h1,h2⟩:=h.own
       exact h2.shr h.kl h.kn ((up_len h1).trans HN.out.1) HAF.out (fun i _=> shB_up (fn:=fn) h1 (fun i hi=> HER.out i (h.sb i hi)) i))
      refine' ER (F:=Fence.wide) rfl (by omega) (gf:=121) (lb:=#[.pointer (some ⟨bl2,0,none⟩),.pointer (some ⟨bn2,0,none⟩)]) rfl trivial (enters_of Tryz.func121 (by kernel_rfl) rfl) (GC bl2 bn2 bp g fn cf p.g af (shB fs p.g) x6 HAF.out (by omega) HFC.out) (Below.refl _ _) (fun _=> rfl)
       (NI2 w0 m0 (gn::a1.heap.size::w.heap.size::xs) bp (.slice af fn cf) (.slice (some ⟨gc,0,none⟩) cn cc) (.slice aw wn cw) cv ws ex x5.heap.size gn w.heap.size a1.heap.size bl2 bn2 D p tco fn fs) (fun _ _ _=> False) (NI2.from HX6.out.2.1 HX6.out.1) (fun c s W W' row hs hg hr=> hs.elim) HK22.out H20.out _ ?assign ?body ?done ?stop
      case assign=>
       rintro l x W K hK
       rw[zip1,I7]
       simp only[Ad,Ae,Af]
       gi_wp2
       exact hK
      case stop=>
       rintro D2 c1 pre W hD2 hSp hx
       exact hx.elim
      case body=>
       rintro l pre x W0' W hl - hI0 hI hgr hpr
       have hat:=Jl hpr
       have hxl:x<fs.length:=by rw[HN.out.1];exact hat.1
       obtain⟨fs',hf1,hof⟩:=hI.own
       obtain⟨v,hnb,hnr⟩:=hI.nx
       have hup:=up_at hf1 hat.2.2.2.1 hxl
       have hdr:(shL (shB fs p.g) fn).drop pre.length=x::(shL (shB fs p.g) fn).drop (pre.length+1):=by
        have h:=congrArg (List.drop pre.length) hat.2.2.2.2.2
        rw[List.drop_left] at h
        exact h
       rw[hdr,List.map_cons] at hnr
       obtain⟨rest,hrest⟩:∃ r,((shL (shB fs p.g) fn).drop (pre.length+1)).map (fun i=> (nxR fs i).1)=r:=⟨_,rfl⟩
       rw[hrest] at hnr
       have HRE:=Ag hrest
       obtain⟨na,nc,rfl,hn1,hn2⟩:=hnr.shape
       obtain⟨b,o,cs,rfl,hbF,-,hlen,hra,q1,q2,q3,hcs,hpq⟩:=hnr.get (j:=0) (by simp)
       subst hcs
       rw[Nat.zero_mul,Nat.add_zero] at hra
       have hmem:x∈shL (shB fs p.g) fn:=Dm.2 ⟨hat.1,hat.2.1⟩
       obtain⟨f,hf⟩:∃ f,fs[x]=f:=⟨_,rfl⟩
       have hnx:nxR fs x=Bj f.p (BN f.p):=by unfold nxR;rw[List.getElem?_eq_getElem hxl,hf];rfl
       have HUF:=Ag (show upF fs[x]=⟨f.nm,(nxR fs x).1,f.v,f.e,f.u,f.b⟩ from by rw[hf,hnx];rfl)
       obtain rfl:=HAF.out (by have:=hat.1;omega)
       have hfx:fs'[x]?=some f:=by rw[hup.2.1,List.getElem?_eq_getElem hxl,hf]
       have hset:fs'.set x f=fs':=by
        obtain⟨h,e⟩:=List.getElem?_eq_some_iff.1 hfx
        rw[←e,List.set_getElem_self]
       have HPFZ:=Ag (pq_fz (x5:=x5) HX5.out.1 hpq)
       have HNZ:=Ag (show ∀ i∈pre ++ [x],i∈shL (shB fs p.g) fn from fun i hi=> by
        rcases List.mem_append.1 hi with hi|hi
        ·exact hI.sb i hi
        ·obtain rfl:i=x:=by simpa using hi
         exact hmem)
       have HI:=Ag hI
       have HUP:=Ag (Ai hup.1 hup.2.2)
       have HOF:=Ag (show OwnX w0 m0 (gn::a1.heap.size::w.heap.size::xs) W bp 97 [(.slice (some ⟨g,0,none⟩) fn cf),(.slice (some ⟨gc,0,none⟩) cn cc),(.slice aw wn cw)] (.slice (some ⟨g,0,none⟩) fn cf) (.slice (some ⟨gc,0,none⟩) cn cc) (.slice aw wn cw) (fs'.set x f) cv ws ex from by rw[hset];exact hof)
       have HPQ:=Ag (Ai hpq (Ai hra hbF))
       have HNB:=Ag (Ai hnb hnr)
       obtain⟨m,hm⟩:∃ m,((nxR fs x).1::rest).length=m:=⟨_,rfl⟩
       rw[hm] at HNB hn1
       have HM:=Ag hm
       have hm1:1≤m:=by rw[←hm];simp
       have hnc:nc≤9223372036854775807:=by unfold maxLen at hn2;omega
       have HLT:=Ag (show x∉pre from hat.2.2.2.1)
       clear hat hf1 hof hup hdr hnr hnb hlen hra hpq hbF hmem hf hnx hfx hset hI hI0 hgr hm hn2 hrest
       by_cases hc1:nc=1
       ·have HR0:=Ag (show rest=[]∧m=1 from by have h:=HM.out;rw[List.length_cons] at h;exact⟨List.eq_nil_of_length_eq_zero (by omega),by omega⟩)
        obtain rfl:m=1:=HR0.out.2
        subst hc1
        have HV2:=Ag (show ∀ W:World,RwC (PqC (x5.heap.size≤·)) 5 (x5.heap.size≤·) W (.slice (some ⟨b,o,none⟩) 0 0) rest from fun W=> by rw[HR0.out.1];exact RwC.zero (by unfold maxLen;omega))
        have HKV:=Ag (show ∀ (S:Nat→Prop) (Z:World),Ch S W Z→(∀ k,x5.heap.size≤k→¬ S k)→RwC (PqC (x5.heap.size≤·)) 5 (x5.heap.size≤·) Z (.slice (some ⟨b,o,none⟩) 0 0) rest from fun S Z hc hS=> HV2.out Z)
        have hz1:(1:Int)≤(1:Int):=by omega
        have hz4:0<1:=by omega
        have hz2:(0:Int)<(1:Int):=by omega
        have hz3:((1:Nat):Int)≤((1:Nat):Int):=by omega
        gi_wp2_with fail
        refine Df (WideF.round l) (GE rfl) (fun Z=> Z.cell? ⟨gn,0,none⟩=some (.slice (some ⟨b,o,none⟩) 1 1)∧Z.rangeAt b o (pmC (nxR fs x).1.o (nxR fs x).1.e q1 q2 q3)) 9 [0,1,2,3,4,5,6,7] 2 (by kernel_rfl) rfl (by kernel_rfl) (by kernel_rfl) ⟨HNB.out.1.cell 0,HPQ.out.2.1⟩ ?_
        iterate 8(refine' AK.run ?_ ?_ ?_ ?_;rotate_left 2;(simp only[Aa,Ab,Ac];rfl);rfl;(rintro w1 ⟨k0,k1⟩;first|exact AB rfl rfl k1 Tryz.underlying43 rfl (Ay _ _ _ _ _)|(go_simp;with_reducible rfl));simp only[Al,Ad,Ae,Af])
        have sm:=(Sm.refl W).drew
        have HV:=Ag (show OwnX w0 m0 (gn::a1.heap.size::w.heap.size::xs) W.drew bp 97 [(.slice (some ⟨g,0,none⟩) fn cf),(.slice (some ⟨gc,0,none⟩) cn cc),(.slice aw wn cw)] (.slice (some ⟨g,0,none⟩) fn cf) (.slice (some ⟨gc,0,none⟩) cn cc) (.slice aw wn cw) (fs'.set x f) cv ws ex∧Blk W.drew gn 137 [(.slice (some ⟨b,o,none⟩) 1 1)]∧W.drew.rangeAt b o (pmC (nxR fs x).1.o (nxR fs x).1.e q1 q2 q3)∧PmF (Fz (gn::a1.heap.size::w.heap.size::xs) (msL bp (.slice (some ⟨g,0,none⟩) fn cf) (.slice (some ⟨gc,0,none⟩) cn cc) (.slice aw wn cw) cv) W.drew) W.drew (nxR fs x).1 q1 q2 q3 from⟨HOF.out.below (sm.below _),HNB.out.1.below (sm.below _) HNB.out.1.lt,HPQ.out.2.1,HPFZ.out.keep' (Ch.of_below (S:=fun _=> False) (sm.below _) (Ah _)) (fun _ _ e=> e) (fun k hk=> hk)⟩)
        have HVC:=Ag (show Ch (fun _=> False) W W.drew from Ch.of_below (sm.below _) (Ah _))
        clear sm
        generalize W.drew=v0 at HV HVC ⊢
        refine' AE 8 (by kernel_rfl) ?_ ?_;rotate_left;(simp only[Aa,Ab,Ac];rfl)
        obtain⟨hgl,_,_,_,_,-,-,-,hth,-,-,-,-,hkp⟩:=HV.out.1.elF HUP.out.1
        have HONQ:=Ag HV.out.2.2.2.ones
        have HPUT:=Ag (hkp (nxR fs x).1 q1 q2 q3 HV.out.2.2.2)
        have HBN:=Ag (show g≠gn∧(∀ k,x5.heap.size≤k→k≠g) from⟨fun e=> (HV.out.1.ne (show gn∈(gn::a1.heap.size::w.heap.size::xs) by simp)).2.1 (by rw[←e];exact AF.2 rfl),fun k hk e=> by have:=HX5.out.1.lt g (FR g (AF.2 rfl));omega⟩)
        try simp only[Al,Ad,Ae,Af]
        refine wpList_store_mid rfl 43 (.tmp 125) (.tmp 121) rfl g (x* 14+1) ((pmC (nxR fs x).1.o (nxR fs x).1.e q1 q2 q3):List Value).toArray rfl rfl (fun j hj=> by rw[Nat.add_assoc];exact hth (1+j) (by simp[pmC] at hj;omega)) (Ay _ _ _ _ _) (all_oneCell_toArray (Bt HONQ.out.1 HONQ.out.2.1 HONQ.out.2.2)) ?_
        have HY:=Ag (show OwnX w0 m0 (gn::a1.heap.size::w.heap.size::xs) (v0.setCells g (x* 14+1) (pmC (nxR fs x).1.o (nxR fs x).1.e q1 q2 q3)) bp 97 [(.slice (some ⟨g,0,none⟩) fn cf),(.slice (some ⟨gc,0,none⟩) cn cc),(.slice aw wn cw)] (.slice (some ⟨g,0,none⟩) fn cf) (.slice (some ⟨gc,0,none⟩) cn cc) (.slice aw wn cw) (fs'.set x ⟨f.nm,(nxR fs x).1,f.v,f.e,f.u,f.b⟩) cv ws ex∧Blk (v0.setCells g (x* 14+1) (pmC (nxR fs x).1.o (nxR fs x).1.e q1 q2 q3)) gn 137 [(.slice (some ⟨b,o,none⟩) 1 1)]∧(v0.setCells g (x* 14+1) (pmC (nxR fs x).1.o (nxR fs x).1.e q1 q2 q3)).rangeAt b o (pmC (nxR fs x).1.o (nxR fs x).1.e q1 q2 q3)∧Ch (·=g) v0 (v0.setCells g (x* 14+1) (pmC (nxR fs x).1.o (nxR fs x).1.e q1 q2 q3)) from⟨HPUT.out,HV.out.2.1.keep (AH g _ _ _) (fun e=> HBN.out.1 (show gn=g from e).symm),BF HV.out.2.2.1 (AH g _ _ _) (fun e=> HBN.out.2 b HPQ.out.2.2 e),AH g _ _ _⟩)
        clear hgl hth hkp HPUT
        try simp only[List.toList_toArray]
        generalize (v0.setCells g (x* 14+1) (pmC (nxR fs x).1.o (nxR fs x).1.e q1 q2 q3))=y1 at HY ⊢
        refine QK.normal ⟨fun _=> ⟨HY.out.2.1.cell 0,HY.out.2.2.1⟩,?_⟩
        refine' AE 9 (by kernel_rfl) ?_ ?_;rotate_left;(simp only[Aa,Ab,Ac];rfl)
        try simp only[Al,Ad,Ae,Af]
        refine AI y1 rfl 137 (.tmp 11) (.tmp 123) rfl gn 0 137 _ HY.out.2.1 rfl (.slice (some ⟨b,o,none⟩) 0 0) rfl (by simp) Tryz.sizeSp1 rfl rfl ?_
        intro y2 hb hc hs
        have hcW:Ch (fun k=> k=g∨k=gn) W y2:=((HVC.out.mono (fun _ h=> h.elim)).trans (HY.out.2.2.2.mono (fun k hk=> .inl hk))).trans (hc.mono (fun k hk=> .inr hk))
        have HF2:=Ag (Ai hb (Ai hc hcW))
        clear hb hc hs hcW
        refine QK.normal ⟨fun h=> absurd h (by decide),?_⟩
        refine Bd (by kernel_rfl) ?_ _
        refine QN.normal ?_
        have hcel:∀ k,(k=g∨k=gn)→∀ o,W.heap[k]?=some o→o.isCells=true:=fun k hk o ho=> hk.elim (fun e=> by subst e;obtain⟨css,h1,-⟩:=HOF.out.rf;exact DB h1 k rfl o ho) (fun e=> by subst e;exact CW HNB.out.1 o ho)
        have hpl:(pre ++ [x]).length=pre.length+1:=by simp
        refine⟨CE HF2.out.2.2 hcel,trivial,⟨fs'.set x (upF fs[x]),HUP.out.2,by rw[HUF.out];exact HY.out.1.setX (g:=gn) List.mem_cons_self HGN.out.2 HF2.out.2.1⟩,HNZ.out,HI.out.op.keep HF2.out.2.2 (fun e=> e.elim (fun e=> (HOF.out.ne (show w.heap.size∈(gn::a1.heap.size::w.heap.size::xs) by simp)).2.1 (by rw[e];exact AF.2 rfl)) (fun e=> by have:=HGN.out;have:=HG.out;omega)),HI.out.res.keep HF2.out.2.2 (fun e=> e.elim (fun e=> (HOF.out.ne (show a1.heap.size∈(gn::a1.heap.size::w.heap.size::xs) by simp)).2.1 (by rw[e];exact AF.2 rfl)) (fun e=> by have:=HGN.out;omega)),⟨_,HF2.out.1,by rw[hpl,HRE.out];exact HKV.out _ y2 HF2.out.2.2 (fun k hk e=> e.elim (HBN.out.2 k hk) (fun e=> by have hk:x5.heap.size≤k:=hk;have:=HBX.out;omega))⟩,Eg HI.out.df HF2.out.2.2 hcel,?_,?_⟩
        ·exact HI.out.kl.keep HF2.out.2.2 (fun e=> e.elim (HBN.out.2 _ HBL2.out.1) (fun e=> by have:=HBX.out;have:=HBL2.out;omega))
        ·exact HI.out.kn.keep HF2.out.2.2 (fun e=> e.elim (HBN.out.2 _ (by have:=HBL2.out;omega)) (fun e=> by have:=HBX.out;have:=HBL2.out;omega))
       ·have hc1b:¬ nc=1:=hc1
        have HV2:=Ag (show RwC (PqC (x5.heap.size≤·)) 5 (x5.heap.size≤·) W (.slice (some ⟨b,o+5,none⟩) (m - 1) (nc - 1)) rest from HNB.out.2.tail)
        have HKV:=Ag (show ∀ (S:Nat→Prop) (Z:World),Ch S W Z→(∀ k,x5.heap.size≤k→¬ S k)→RwC (PqC (x5.heap.size≤·)) 5 (x5.heap.size≤·) Z (.slice (some ⟨b,o+5,none⟩) (m - 1) (nc - 1)) rest from fun S Z hc hS=> HV2.out.keep' hc hS (fun _ h=> h) (fun cs a _ h=> h.keep' hc hS (fun _ h=> h)))
        have hz1:(1:Int)≤(m:Int):=by omega
        have hz4:0<m:=by omega
        have hz2:(0:Int)<(m:Int):=by omega
        have hz3:((m:Nat):Int)≤((nc:Nat):Int):=by omega
        gi_wp2_with fail
        refine Df (WideF.round l) (GE rfl) (fun Z=> Z.cell? ⟨gn,0,none⟩=some (.slice (some ⟨b,o,none⟩) m nc)∧Z.rangeAt b o (pmC (nxR fs x).1.o (nxR fs x).1.e q1 q2 q3)) 9 [0,1,2,3,4,5,6,7] 2 (by kernel_rfl) rfl (by kernel_rfl) (by kernel_rfl) ⟨HNB.out.1.cell 0,HPQ.out.2.1⟩ ?_
        iterate 8(refine' AK.run ?_ ?_ ?_ ?_;rotate_left 2;(simp only[Aa,Ab,Ac];rfl);rfl;(rintro w1 ⟨k0,k1⟩;first|exact AB rfl rfl k1 Tryz.underlying43 rfl (Ay _ _ _ _ _)|(go_simp;with_reducible rfl));simp only[Al,Ad,Ae,Af])
        have sm:=(Sm.refl W).drew
        have HV:=Ag (show OwnX w0 m0 (gn::a1.heap.size::w.heap.size::xs) W.drew bp 97 [(.slice (some ⟨g,0,none⟩) fn cf),(.slice (some ⟨gc,0,none⟩) cn cc),(.slice aw wn cw)] (.slice (some ⟨g,0,none⟩) fn cf) (.slice (some ⟨gc,0,none⟩) cn cc) (.slice aw wn cw) (fs'.set x f) cv ws ex∧Blk W.drew gn 137 [(.slice (some ⟨b,o,none⟩) m nc)]∧W.drew.rangeAt b o (pmC (nxR fs x).1.o (nxR fs x).1.e q1 q2 q3)∧PmF (Fz (gn::a1.heap.size::w.heap.size::xs) (msL bp (.slice (some ⟨g,0,none⟩) fn cf) (.slice (some ⟨gc,0,none⟩) cn cc) (.slice aw wn cw) cv) W.drew) W.drew (nxR fs x).1 q1 q2 q3 from⟨HOF.out.below (sm.below _),HNB.out.1.below (sm.below _) HNB.out.1.lt,HPQ.out.2.1,HPFZ.out.keep' (Ch.of_below (S:=fun _=> False) (sm.below _) (Ah _)) (fun _ _ e=> e) (fun k hk=> hk)⟩)
        have HVC:=Ag (show Ch (fun _=> False) W W.drew from Ch.of_below (sm.below _) (Ah _))
        clear sm
        generalize W.drew=v0 at HV HVC ⊢
        refine' AE 8 (by kernel_rfl) ?_ ?_;rotate_left;(simp only[Aa,Ab,Ac];rfl)
        obtain⟨hgl,_,_,_,_,-,-,-,hth,-,-,-,-,hkp⟩:=HV.out.1.elF HUP.out.1
        have HONQ:=Ag HV.out.2.2.2.ones
        have HPUT:=Ag (hkp (nxR fs x).1 q1 q2 q3 HV.out.2.2.2)
        have HBN:=Ag (show g≠gn∧(∀ k,x5.heap.size≤k→k≠g) from⟨fun e=> (HV.out.1.ne (show gn∈(gn::a1.heap.size::w.heap.size::xs) by simp)).2.1 (by rw[←e];exact AF.2 rfl),fun k hk e=> by have:=HX5.out.1.lt g (FR g (AF.2 rfl));omega⟩)
        try simp only[Al,Ad,Ae,Af]
        refine wpList_store_mid rfl 43 (.tmp 125) (.tmp 121) rfl g (x* 14+1) ((pmC (nxR fs x).1.o (nxR fs x).1.e q1 q2 q3):List Value).toArray rfl rfl (fun j hj=> by rw[Nat.add_assoc];exact hth (1+j) (by simp[pmC] at hj;omega)) (Ay _ _ _ _ _) (all_oneCell_toArray (Bt HONQ.out.1 HONQ.out.2.1 HONQ.out.2.2)) ?_
        have HY:=Ag (show OwnX w0 m0 (gn::a1.heap.size::w.heap.size::xs) (v0.setCells g (x* 14+1) (pmC (nxR fs x).1.o (nxR fs x).1.e q1 q2 q3)) bp 97 [(.slice (some ⟨g,0,none⟩) fn cf),(.slice (some ⟨gc,0,none⟩) cn cc),(.slice aw wn cw)] (.slice (some ⟨g,0,none⟩) fn cf) (.slice (some ⟨gc,0,none⟩) cn cc) (.slice aw wn cw) (fs'.set x ⟨f.nm,(nxR fs x).1,f.v,f.e,f.u,f.b⟩) cv ws ex∧Blk (v0.setCells g (x* 14+1) (pmC (nxR fs x).1.o (nxR fs x).1.e q1 q2 q3)) gn 137 [(.slice (some ⟨b,o,none⟩) m nc)]∧(v0.setCells g (x* 14+1) (pmC (nxR fs x).1.o (nxR fs x).1.e q1 q2 q3)).rangeAt b o (pmC (nxR fs x).1.o (nxR fs x).1.e q1 q2 q3)∧Ch (·=g) v0 (v0.setCells g (x* 14+1) (pmC (nxR fs x).1.o (nxR fs x).1.e q1 q2 q3)) from⟨HPUT.out,HV.out.2.1.keep (AH g _ _ _) (fun e=> HBN.out.1 (show gn=g from e).symm),BF HV.out.2.2.1 (AH g _ _ _) (fun e=> HBN.out.2 b HPQ.out.2.2 e),AH g _ _ _⟩)
        clear hgl hth hkp HPUT
        try simp only[List.toList_toArray]
        generalize (v0.setCells g (x* 14+1) (pmC (nxR fs x).1.o (nxR fs x).1.e q1 q2 q3))=y1 at HY ⊢
        refine QK.normal ⟨fun _=> ⟨HY.out.2.1.cell 0,HY.out.2.2.1⟩,?_⟩
        refine' AE 9 (by kernel_rfl) ?_ ?_;rotate_left;(simp only[Aa,Ab,Ac];rfl)
        try simp only[Al,Ad,Ae,Af]
        refine AI y1 rfl 137 (.tmp 11) (.tmp 123) rfl gn 0 137 _ HY.out.2.1 rfl (.slice (some ⟨b,o+5,none⟩) (m - 1) (nc - 1)) rfl (by simp) Tryz.sizeSp1 rfl rfl ?_
        intro y2 hb hc hs
        have hcW:Ch (fun k=> k=g∨k=gn) W y2:=((HVC.out.mono (fun _ h=> h.elim)).trans (HY.out.2.2.2.mono (fun k hk=> .inl hk))).trans (hc.mono (fun k hk=> .inr hk))
        have HF2:=Ag (Ai hb (Ai hc hcW))
        clear hb hc hs hcW
        refine QK.normal ⟨fun h=> absurd h (by decide),?_⟩
        refine Bd (by kernel_rfl) ?_ _
        refine QN.normal ?_
        have hcel:∀ k,(k=g∨k=gn)→∀ o,W.heap[k]?=some o→o.isCells=true:=fun k hk o ho=> hk.elim (fun e=> by subst e;obtain⟨css,h1,-⟩:=HOF.out.rf;exact DB h1 k rfl o ho) (fun e=> by subst e;exact CW HNB.out.1 o ho)
        have hpl:(pre ++ [x]).length=pre.length+1:=by simp
        refine⟨CE HF2.out.2.2 hcel,trivial,⟨fs'.set x (upF fs[x]),HUP.out.2,by rw[HUF.out];exact HY.out.1.setX (g:=gn) List.mem_cons_self HGN.out.2 HF2.out.2.1⟩,HNZ.out,HI.out.op.keep HF2.out.2.2 (fun e=> e.elim (fun e=> (HOF.out.ne (show w.heap.size∈(gn::a1.heap.size::w.heap.size::xs) by simp)).2.1 (by rw[e];exact AF.2 rfl)) (fun e=> by have:=HGN.out;have:=HG.out;omega)),HI.out.res.keep HF2.out.2.2 (fun e=> e.elim (fun e=> (HOF.out.ne (show a1.heap.size∈(gn::a1.heap.size::w.heap.size::xs) by simp)).2.1 (by rw[e];exact AF.2 rfl)) (fun e=> by have:=HGN.out;omega)),⟨_,HF2.out.1,by rw[hpl,HRE.out];exact HKV.out _ y2 HF2.out.2.2 (fun k hk e=> e.elim (HBN.out.2 k hk) (fun e=> by have hk:x5.heap.size≤k:=hk;have:=HBX.out;omega))⟩,Eg HI.out.df HF2.out.2.2 hcel,?_,?_⟩
        ·exact HI.out.kl.keep HF2.out.2.2 (fun e=> e.elim (HBN.out.2 _ HBL2.out.1) (fun e=> by have:=HBX.out;have:=HBL2.out;omega))
        ·exact HI.out.kn.keep HF2.out.2.2 (fun e=> e.elim (HBN.out.2 _ (by have:=HBL2.out;omega)) (fun e=> by have:=HBX.out;have:=HBL2.out;omega))
      case done=>
       rintro D2 xs2 W hD2 rfl hI2 hK2
       obtain⟨fs',hf1,hof⟩:=hI2.own
       obtain rfl:fs'=(fs.map (Dk p.g)):=up_all (g:=p.g) (fun i=> by have h:=hf1 i;rw[←HN.out.1] at h;exact h)
       obtain⟨-,-,ccs,-,hra,hcv,hth,-⟩:=hof.rc.focus HIXL.out
       rw[HCC.out.1] at hcv
       obtain⟨hcs,hcw,-⟩:=hcv
       have hrow:=hcw HCC.out.2.1
       rw[HCC.out.2.2] at hcs hrow
       have HROW:=Ag hrow
       have HCW:=Ag (show W.cell? ⟨gc,ix* 3+2,none⟩=some (.slice ua un uc)∧W.frozen? ⟨gc,ix* 3+2,none⟩=false from⟨hra 2 _ (by rw[hcs];rfl),(hth 2 (by omega)).2⟩)
       have HUB:=Ag (show ∀ k,(Value.slice ua un uc).ownBlock=some k→k∈ubs cv from fun k hk=> BR.2 ⟨c,by rw[←HCC.out.1];exact List.getElem_mem HIXL.out,by unfold CirV.ub;rw[if_pos HCC.out.2.1,HCC.out.2.2];exact AF.2 hk⟩)
       have HOF:=Ag hof
       have HDD:=Ag (Ai hI2.df hK2)
       have HRS:=Ag hI2.res
       have hlt:lk<un:=by have h:=KR HINS.out;rw[HLK.out,HUN.out] at h;exact h
       have HLT:=Ag hlt
       have HD2L:=Ag (show D<D2 from by have:=HX6.out.1;omega)
       clear hof hf1 hra hcs hcw hrow hth hI2 hK2
       have c2:=HCW.out.1
       have hlz0:(0:Int)≤(lk:Int):=by omega
       have hlz1:(lk:Int)+1≤9223372036854775807:=by omega
       go_wp2_with fail
       refine(KQ 0 lk c.us (.slice ua un uc) W HROW.out (by have:=HUN.out;omega) (by have:=HUN.out;have:=HLT.out;omega)).mono ?_
       rintro e' w2 ⟨ay,cy,rfl,hown,hc,hob⟩
       have HDL:=Ag (Ai hown (Ai hc hob))
       have hngc:¬ ((Value.slice ua un uc).ownBlock=some gc):=fun e=> (HOF.out.bu _ (HUB.out _ e)).2.2.1 (AF.2 rfl)
       have d2:=(hc.cell (p:=⟨gc,ix* 3+2,none⟩) (Am HCW.out.1) hngc).trans HCW.out.1
       have d3:=(hc.frozen (p:=⟨gc,ix* 3+2,none⟩) (Am HCW.out.1) hngc).trans HCW.out.2
       clear hown hc hob hngc c2
       go_upto_region 29 with fail
       clear d2 d3
       have hcy:Ch (fun k=> (Value.slice ua un uc).ownBlock=some k∨k=gc) W (w2.setCells gc (ix* 3+2) [(.slice ay (c.us.length - 1) cy)]):=(HDL.out.2.1.mono (fun k hk=> .inl hk)).trans ((AH gc [(.slice ay (c.us.length - 1) cy)] (ix* 3+2) w2).mono (fun k hk=> .inr hk))
       have hcel:∀ k,((Value.slice ua un uc).ownBlock=some k∨k=gc)→∀ o,W.heap[k]?=some o→o.isCells=true:=fun k hk o ho=> hk.elim (fun e=> DB HROW.out k e o ho) (fun e=> by subst e;obtain⟨css,h1,-⟩:=HOF.out.rc;exact DB h1 k rfl o ho)
       have HY9:=Ag (show OwnX w0 m0 (gn::a1.heap.size::w.heap.size::xs) (w2.setCells gc (ix* 3+2) [(.slice ay (c.us.length - 1) cy)]) bp 97 [(.slice af fn cf),(.slice (some ⟨gc,0,none⟩) cn cc),(.slice aw wn cw)] (.slice af fn cf) (.slice (some ⟨gc,0,none⟩) cn cc) (.slice aw wn cw) (fs.map (Dk p.g)) (cv.set ix (⟨c.n,c.o,(c.us.eraseIdx lk),(.slice ay (c.us.length - 1) cy),true⟩:CirV)) ws ex∧Blk (w2.setCells gc (ix* 3+2) [(.slice ay (c.us.length - 1) cy)]) (a1.heap.size) 37 (AC 0 0 0 (tmC 0 0 0 ⟨#[]⟩ (.slice none 0 0))) from⟨by
        have h:=HOF.out.putU (us':=(c.us.eraseIdx lk)) (vu':=(.slice ay (c.us.length - 1) cy)) HIXL.out (by rw[HCC.out.1,HCC.out.2.1,HCC.out.2.2];exact HDL.out.2.1.mono (fun k hk=> ⟨rfl,hk⟩)) (by rw[List.length_eraseIdx,if_pos (by have:=HUN.out;have:=HLT.out;omega)];exact HDL.out.1) (by rw[HCC.out.1,HCC.out.2.1,HCC.out.2.2];exact HDL.out.2.2.imp (fun h=> ⟨rfl,h⟩) id)
        rw[HCC.out.1] at h
        exact h,HRS.out.keep hcy (fun e=> e.elim (fun e=> (HOF.out.ne (show a1.heap.size∈(gn::a1.heap.size::w.heap.size::xs) by simp)).2.2.2.2 (HUB.out _ e)) (fun e=> (HOF.out.ne (show a1.heap.size∈(gn::a1.heap.size::w.heap.size::xs) by simp)).2.2.1 (by rw[show a1.heap.size=gc from e];exact AF.2 rfl)))⟩)
       have HDY:=Ag (Ai (Eg HDD.out.1 hcy hcel) (Eg HDD.out.2 hcy hcel))
       clear hcy hcel
       rw[show w2.setCell ⟨gc,ix* 3+2,none⟩ (.slice ay (c.us.length - 1) cy)=(w2.setCells gc (ix* 3+2) [(.slice ay (c.us.length - 1) cy)]) from rfl]
       generalize (w2.setCells gc (ix* 3+2) [(.slice ay (c.us.length - 1) cy)])=y9 at HY9 HDY ⊢
       have HX:=Ag (show SR=(⟨(fs.map (Dk p.g)),(cv.map CirV.m).set ix ⟨c.n,c.o,(c.us.eraseIdx lk)⟩,ws⟩,A1 0) from by
        rw[←HSR.out];unfold BZ;rw[HSK.out,if_neg (by simp),show(⟨fs,cv.map CirV.m,ws⟩:IdM).cs[ix]?=some c.m from HCI.out];simp only
        rw[if_neg (by show ¬ (c.o≠p.u);rw[HCU.out];simp),if_neg (fun h=> absurd h.1 (by rw[HK2.out];omega)),if_neg (fun h=> absurd h.1 (by rw[HK2.out];omega)),if_neg (by rw[HK2.out];omega),if_neg (show ¬ (c.m.us.any (p.t==·))=false from by rw[show c.m.us=c.us from rfl,HINS.out];simp)]
        have hz:Dd p.g fs=0:=GD (fun i hs=> HER.out i (Dm.2 ⟨(by
         rcases Nat.lt_or_ge i fs.length with h|h
         ·rw[←HN.out.1];exact h
         ·unfold shB at hs;rw[List.getElem?_eq_none h] at hs;cases hs),hs⟩))
        rw[if_neg (by rw[hz];simp),show c.m.us=c.us from rfl,HLK.out];rfl)
       go_wp2_with (first
  | (with_reducible refine Ba rfl rfl ?_)
  | ((with_reducible refine Ao y9 rfl 37 (.tmp 4) (.tmp 137) rfl (a1.heap.size) 37 (AC 0 0 0 (tmC 0 0 0 ⟨#[]⟩ (.slice none 0 0))) (AC 0 0 0 (tmC 0 0 0 ⟨#[]⟩ (.slice none 0 0))) HY9.out.2 rfl rfl rfl (Ax rfl) (AM (AR _ _ _ _ _ _ _)) ?_);intro z9 hb hc hs;have HZ:=Ag (Ai (HY9.out.1.setX (show a1.heap.size∈(gn::a1.heap.size::w.heap.size::xs) by simp) HSZ.out hc) (Ai hb hc));clear hb hc hs))
       have hcr:∀ k,(k=a1.heap.size)→∀ o,y9.heap[k]?=some o→o.isCells=true:=fun k hk o ho=> by subst hk;exact CW HY9.out.2 o ho
       have hd1:=Eg HDY.out.1 HZ.out.2.2 hcr
       have hd2:=Eg HDY.out.2 HZ.out.2.2 hcr
       refine⟨by simp,.inl ⟨_,_,rfl,run_takeDeferred hd2,?_⟩⟩
       have hd1':(z9.putObj D2 (.deferred none)).heap[D]?=some (.deferred (some [])):=(World.putObj_heap_other (by have:=HD2L.out;omega)).trans hd1
       refine⟨by simp,.inl ⟨_,_,rfl,run_takeDeferred hd1',?_⟩⟩
       have hn2:NoC z9 (some D2):=fun r e=> by cases e;exact⟨_,hd2,rfl⟩
       have hn1:NoC (z9.putObj D2 (.deferred none)) (some D):=fun r e=> by cases e;exact⟨_,hd1',rfl⟩
       have hb5:=BH (BH HZ.out.2.1 (grownBy_putObj' z9 D2 (.deferred none)) hn2) (grownBy_putObj' _ D (.deferred none)) hn1
       have ho5:=(HZ.out.1.grown (grownBy_putObj' z9 D2 (.deferred none)) hn2 (fun r e=> by cases e;have:=HX6.out.2.1;omega)).grown (grownBy_putObj' _ D (.deferred none)) hn1 (fun r e=> by cases e;have:=HDL0.out;omega)
       refine⟨_,AA Tryz.results79 _ _ (a1.heap.size) _ _ rfl hb5 _ Tryz.underlying37 rfl (Ax rfl),?_⟩
       rw[HX.out]
       exact⟨_,_,_,_,(cv.set ix (⟨c.n,c.o,(c.us.eraseIdx lk),(.slice ay (c.us.length - 1) cy),true⟩:CirV)),rfl,by rw[List.map_set];rfl,(fun x hx=> (List.mem_or_eq_of_mem_set hx).elim (HALL.out x) (fun e=> by rw[e])),(ho5.keepoff (fun k hk=> by simp[hk])).exadd (Bm _ _)⟩
   ·have hce:(c.o==p.u)=false:=by simpa using hcu
    have hce2:(c.o !=p.u)=true:=by simpa using hcu
    have HX:=Ag (show SR=((⟨fs,cv.map CirV.m,ws⟩:IdM),A1 211) from by rw[←HSR.out];unfold BZ;rw[HSK.out,if_neg (by simp),show(⟨fs,cv.map CirV.m,ws⟩:IdM).cs[ix]?=some c.m from HCI.out];simp only;rw[if_pos (by exact hcu)])
    clear hcu
    go_wp2_with fail
    go_quiet (fail)
    clear c0 c1 co
    have sm:=((Sm.refl u9).drewN nq)
    have Hq4:=Ag (show OwnX w0 m0 (a1.heap.size::w.heap.size::xs) (u9.drewN nq) bp 97 [(.slice af fn cf),(.slice (some ⟨gc,0,none⟩) cn cc),(.slice aw wn cw)] (.slice af fn cf) (.slice (some ⟨gc,0,none⟩) cn cc) (.slice aw wn cw) fs cv ws ex∧Blk (u9.drewN nq) (w.heap.size) 31 (opC p tco)∧Blk (u9.drewN nq) (a1.heap.size) 37 (AC 0 0 0 (tmC 0 0 0 ⟨#[]⟩ (.slice none 0 0)))∧(u9.drewN nq).cell? ⟨gc,ix* 3+2,none⟩=some (.slice ua un uc)∧(u9.drewN nq).cell? ⟨gc,ix* 3+1,none⟩=some (.int .i64 c.o)∧SlI (fun _=> True) (u9.drewN nq) (.slice ua un uc) c.us from⟨(K10.out.1.below (sm.below _)),K10.out.2.1.below (sm.below _) K10.out.2.1.lt,K10.out.2.2.1.below (sm.below _) K10.out.2.2.1.lt,(((sm.below _)).cell (p:=⟨gc,ix* 3+2,none⟩) (Am K10.out.2.2.2.1)).trans K10.out.2.2.2.1,(((sm.below _)).cell (p:=⟨gc,ix* 3+1,none⟩) (Am K10.out.2.2.2.2.1)).trans K10.out.2.2.2.2.1,(K10.out.2.2.2.2.2.below (sm.below _))⟩)
    generalize u9.drewN nq=q4 at Hq4 ⊢
    clear sm
    go_wp2_with fail
    refine(Bc (211) q4).mono ?_
    rintro e' u21 ⟨rfl,hb⟩
    have K22:=hJ6 (Hq4.out.1.below hb) (Hq4.out.2.1.below hb Hq4.out.2.1.lt) (Hq4.out.2.2.1.below hb Hq4.out.2.2.1.lt) (((hb).cell (p:=⟨gc,ix* 3+2,none⟩) (Am Hq4.out.2.2.2.1)).trans Hq4.out.2.2.2.1) (((hb).cell (p:=⟨gc,ix* 3+1,none⟩) (Am Hq4.out.2.2.2.2.1)).trans Hq4.out.2.2.2.2.1) (Hq4.out.2.2.2.2.2.below hb)
    clear hb
    go_wp2_with (first
  | ((with_reducible refine Ao u21 rfl 37 (.tmp 4) (.tmp 57) rfl (a1.heap.size) 37 (AC 0 0 0 (tmC 0 0 0 ⟨#[]⟩ (.slice none 0 0))) (AC (211) 0 0 (tmC 0 0 0 ⟨#[]⟩ (.slice none 0 0))) K22.out.2.2.1 rfl rfl rfl (Ax rfl) (AM (AR _ _ _ _ _ _ _)) ?_);intro z9 hb hc hs;have HZ:=Ag (Ai (K22.out.1.setX (show a1.heap.size∈_ by simp) HSZ.out hc) hb);clear hb hc hs))
    refine⟨_,AA Tryz.results79 _ _ (a1.heap.size) _ _ rfl HZ.out.2 _ Tryz.underlying37 rfl (Ax rfl),?_⟩
    rw[HX.out]
    exact⟨_,_,_,_,cv,rfl,rfl,HALL.out,((HZ.out.1).keepoff (fun k hk=> by simp[hk])).exadd (Bm _ _)⟩
end Go.Proofs.YtgdlfiphihaooaaGreat

import Derived.Test.YtgdlfiphihaooaaGreatYs8
set_option linter.unusedSimpArgs false
set_option linter.unusedVariables false
set_option maxRecDepth 100000
set_option maxHeartbeats 8000000
open _root_.List renaming getElem?_toArray→Aa,getElem?_cons_zero→Ab,getElem?_cons_succ→Ac,setIfInBounds_toArray→Ad,set_cons_zero→Ae,set_cons_succ→Af
open _root_.Go.Lib renaming hid→Ag
open _root_.Nat renaming le_refl→Ah,le_trans→Aj,lt_of_lt_of_le→Ak
open _root_.And renaming intro→Ai
open _root_.Go.Act renaming put→Al
namespace Go.Proofs.YtgdlfiphihaooaaGreat
open Go Go.RowKit
theorem Tryz.zeroId3:∀ w,(zeroValue 26).run Tryz.prog w=.ok (.agg (([(.slice none 0 0),(.slice none 0 0),(.slice none 0 0)]:List Value)).toArray) w:=fun w=> by kernel_rfl
theorem Tryz.sizeSf1:(Tryz.prog.info? 22).map (·.size)=some 1:=by kernel_rfl
theorem Tryz.sizeSc1:(Tryz.prog.info? 23).map (·.size)=some 1:=by kernel_rfl
theorem Tryz.sizeSw1:(Tryz.prog.info? 24).map (·.size)=some 1:=by kernel_rfl
theorem SlI.old' {F:Nat→Prop} {w:World} {v:Value} {l:List Int} (h:SlI F w v l):SlI (fun k=> F k∧k<w.heap.size) w v l:=by
 refine⟨h.1,fun k h0 hk=> ⟨h.2 k h0 hk,?_⟩⟩
 obtain⟨ao,c,rfl,h2,h3,h4⟩:=h.1.nums
 obtain⟨b,o,rfl,h5,h6⟩:=h4 h0
 have:=Am (h6 0 h0)
 injection hk with hk
 rw[←hk];exact this
theorem FlC.old' {F:Nat→Prop} {w:World} {cs:List Value} {f:FileM} (h:FlC F w cs f):FlC (fun k=> F k∧k<w.heap.size) w cs f:=by
 obtain⟨vr,vq,vg,tc,h1,h2,h3⟩:=h
 exact⟨vr,vq,vg,tc,h1,⟨h2.1.old',h2.2.1.old',h2.2.2.old'⟩,TmC.old' _ _ h3⟩
theorem WrC.old' {F:Nat→Prop} {w:World} {cs:List Value} {f:WrM} (h:WrC F w cs f):WrC (fun k=> F k∧k<w.heap.size) w cs f:=by
 obtain⟨tc,h1,h2⟩:=h
 exact⟨tc,h1,TmC.old' _ _ h2⟩
theorem CiC.old' {F:Nat→Prop} {w:World} {cs:List Value} {f:CirM} (h:CiC F w cs f):CiC (fun k=> F k∧k<w.heap.size) w cs f:=by
 obtain⟨vu,h1,h2⟩:=h
 exact⟨vu,h1,h2.old'⟩
def Lo (ys:List Nat) (w:World) (k:Nat):Prop:=k∉ys∧k<w.heap.size
theorem RwC.old {α:Type} {C:World→List Value→α→Prop} {sz:Nat} {F:Nat→Prop} {ys:List Nat} {w:World} {v:Value} {l:List α} (h:RwC C sz F w v l) (hF:∀ k,F k→k∉ys):RwC C sz (Lo ys w) w v l:=by
 obtain⟨ao,c,h1,h2,h3,h4⟩:=h
 refine⟨ao,c,h1,h2,h3,fun h0=> ?_⟩
 obtain⟨b,o,e,hb0,hb,ha⟩:=h4 h0
 exact⟨b,o,e,⟨hF b hb0,hb⟩,hb,ha⟩
theorem IdC.old' {F:Nat→Prop} {ys:List Nat} {w:World} {vf vc vw:Value} {s:IdM} (h:IdC F w [vf,vc,vw] s) (hF:∀ k,F k→k∉ys):RwC (FlC (Lo ys w)) 14 (Lo ys w) w vf s.fs∧RwC (CiC (Lo ys w)) 3 (Lo ys w) w vc s.cs∧RwC (WrC (Lo ys w)) 9 (Lo ys w) w vw s.ws:=by
 obtain⟨a,b,c,e,h1,h2,h3⟩:=h
 simp only[List.cons.injEq,and_true] at e
 obtain⟨rfl,rfl,rfl⟩:=e
 exact⟨(RwC.old h1 hF).mono (fun _ h=> h) (fun cs a _ h=> h.old'.mono fun k hk=> ⟨hF k hk.1,hk.2⟩),(RwC.old h2 hF).mono (fun _ h=> h) (fun cs a _ h=> h.old'.keep' (Ch.refl (fun _=> False) w) (fun _ _ e=> e) fun k hk=> ⟨hF k hk.1,hk.2⟩),(RwC.old h3 hF).mono (fun _ h=> h) (fun cs a _ h=> h.old'.mono fun k hk=> ⟨hF k hk.1,hk.2⟩)⟩
theorem OwR.cirs {F:Nat→Prop} {B:Nat} {w:World} {v:Value} {l:List CirM} (h:OwR (CiC F) 3 49 B w v l):∃ cv:List CirV,cv.map CirV.m=l∧(∀ c∈cv,c.own=false)∧OwR (CvC F) 3 49 B w v cv:=by
 obtain⟨css,h1,h2,h3⟩:=h
 refine⟨List.ofFn (fun j:Fin l.length=> ⟨l[j].n,l[j].o,l[j].us,Classical.choose (h3 j (by have:=j.2;omega) j.2).2,false⟩),?_,?_,css,by simpa using h1,by simpa using h2,fun j a b=> ?_⟩
 ·apply List.ext_getElem
  ·simp
  ·intro i a b;simp[CirV.m]
 ·intro c hc
  obtain⟨j,rfl⟩:=List.mem_ofFn.1 hc
  rfl
 ·have hj:j<l.length:=by simpa using b
  rw[List.getElem_ofFn]
  have h:=Classical.choose_spec (h3 j a hj).2
  refine⟨(h3 j a hj).1,h.1,?_,fun _=> h.2⟩
  intro e
  exact absurd e (by simp)
theorem JD {cv:List CirV} (h:∀ c∈cv,c.own=false):ubs cv=[]:=by
 unfold ubs
 rw[List.flatMap_eq_nil_iff]
 intro c hc
 unfold CirV.ub
 rw[if_neg (by rw[h c hc];simp)]
theorem Gu (v:Value):(ob v).Nodup:=by
 unfold ob
 cases v.ownBlock <;> simp
theorem OwnX.init {w w':World} {ys:List Nat} (hys:∀ k∈ys,k<w.heap.size) {g x N0 N1 N2:Nat} {bt:TypeId} {cells:List Value} {vf vc vw:Value} {s:IdM} {cv:List CirV} (hb:Below w.heap.size w w') (hg:w.heap.size≤g) (hgx:g<x) (hx:x<N0) (hN:N0≤w'.heap.size) (h01:N0≤N1) (h12:N1≤N2)
  (h1:∀ k,vf.ownBlock=some k→N0≤k∧k<N1) (h2:∀ k,vc.ownBlock=some k→N1≤k∧k<N2) (h3:∀ k,vw.ownBlock=some k→N2≤k) (ho:∀ c∈cv,c.own=false) (hB:Blk w' g bt cells)
  (rf:OwR (FlC (Lo ys w)) 14 45 N0 w' vf s.fs) (rc:OwR (CvC (Lo ys w)) 3 49 N0 w' vc cv) (rw:OwR (WrC (Lo ys w)) 9 56 N0 w' vw s.ws):OwnX w [] (x::ys) w' g bt cells vf vc vw s.fs cv s.ws []:=by
 have hm:∀ k∈msL g vf vc vw cv,k=g∨N0≤k:=fun k hk=> by
  unfold msL at hk
  rw[JD ho] at hk
  simp only[List.mem_cons,List.mem_append,AF,List.not_mem_nil,or_false] at hk
  rcases hk with hk|hk|hk|hk
  ·exact .inl hk
  ·exact .inr (h1 k hk).1
  ·have:=(h2 k hk).1;exact .inr (by omega)
  ·have:=h3 k hk;exact .inr (by omega)
 have hG:∀ k,Lo ys w k→Fz (x::ys) (msL g vf vc vw cv) w' k:=fun k hk'=> by
  have hk:=hk'.2
  exact⟨⟨fun e=> (List.mem_cons.1 e).elim (fun e=> by omega) hk'.1,fun e=> by rcases hm k e with h|h <;> omega⟩,Ak hk hb.size⟩
 refine⟨Ch.of_below hb (Ah _),?_,fun k hk=> .inr (by rcases hm k hk with h|h <;> omega),fun k hk=> ?_,hB,rf.mono (Nat.zero_le _) (fun _ _ _ h=> h.mono hG),rc.mono (Nat.zero_le _) (fun _ _ _ h=> h.mono hG),rw.mono (Nat.zero_le _) (fun _ _ _ h=> h.mono hG),fun p hp=> nomatch hp⟩
 ·unfold msL
  rw[JD ho,List.nodup_cons,List.nodup_append,List.nodup_append,List.nodup_append]
  simp only[List.mem_append,List.not_mem_nil,or_false]
  refine⟨fun e=> ?_,Gu _,⟨Gu _,⟨Gu _,List.nodup_nil,fun a _ b hb=> nomatch hb⟩,fun a ha b hb=> ?_⟩,fun a ha b hb=> ?_⟩
  ·rcases e with e|e|e
   ·have:=(h1 g (AF.1 e)).1;omega
   ·have:=(h2 g (AF.1 e)).1;omega
   ·have:=h3 g (AF.1 e);omega
  ·have:=(h2 a (AF.1 ha)).2;have:=h3 b (AF.1 hb);omega
  ·have k1:=(h1 a (AF.1 ha)).2
   rcases hb with hb|hb
   ·have:=(h2 b (AF.1 hb)).1;omega
   ·have:=h3 b (AF.1 hb);omega
 ·rcases List.mem_cons.1 hk with e|e
  ·subst e
   exact⟨fun e=> by rcases hm k e with h|h <;> omega,by omega⟩
  ·have hk2:=hys k e
   have:=hb.size
   exact⟨fun e=> by rcases hm k e with h|h <;> omega,by omega⟩
section
variable {w0 w w':World} {m0 xs:List Nat} {bp:Nat} {bt:TypeId} {cells:List Value} {vf vc vw:Value} {fs:List FileM} {cv:List CirV} {ws:List WrM} {ex:List (List Value × Tm)}
theorem OwnX.new (h:OwnX w0 m0 xs w bp bt cells vf vc vw fs cv ws ex) (hb:Below w.heap.size w w'):∀ k,(w.heap.size≤k∧k<w'.heap.size)→Fz xs (msL bp vf vc vw cv) w' k:=fun k hk=>
 ⟨⟨fun e=> by have:=(h.ax k e).2;omega,fun e=> by have:=h.lt k e;omega⟩,hk.2⟩
end
theorem D1 (nm:ByteArray) (v e u:Int) (tc tc':List Value) (h:tc'.length=tc.length):AU (wrC nm v e u tc) 4 tc'=wrC nm v e u tc':=by
 have:=Di (P:=[.string nm,.int .i64 v,.int .i64 e,.int .i64 u]) (R:=[]) h
 simp only[List.append_nil] at this
 exact this
def FewF (f:FileM):Prop:=PmN f.p∧Fd f.b=true
def FewI (s:IdM):Prop:=(∀ f∈s.fs,FewF f)∧(∀ c∈s.cs,c.us.length≤1000000000)∧(∀ x∈s.ws,Fd x.b=true)∧s.fs.length≤1000000∧s.cs.length≤1000000∧s.ws.length≤1000000
def OwnedP (ys:List Nat) (w:World) (s:IdM) (e:Ending) (w':World):Prop:=∃ bp vf vc vw cv,e=.returned (.agg [vf,vc,vw].toArray)∧cv.map CirV.m=s.cs∧(∀ c∈cv,c.own=true)∧w.heap.size≤bp∧OwnX w [] ys w' bp 26 [vf,vc,vw] vf vc vw s.fs cv s.ws []
theorem OwR.belF {F:Nat→Prop} {B:Nat} {w w':World} {v:Value} {l:List FileM} (h:OwR (FlC F) 14 45 B w v l) (hb:Below w.heap.size w w'):OwR (FlC F) 14 45 B w' v l:=h.keep' (Ch.of_below (S:=fun _=> False) hb (Ah _)) (fun _ _ e=> e) (fun _ _ _ hf=> hf.below hb)
theorem OwR.belC {F:Nat→Prop} {B:Nat} {w w':World} {v:Value} {l:List CirM} (h:OwR (CiC F) 3 49 B w v l) (hb:Below w.heap.size w w'):OwR (CiC F) 3 49 B w' v l:=h.keep' (Ch.of_below (S:=fun _=> False) hb (Ah _)) (fun _ _ e=> e) (fun _ _ _ hf=> hf.below hb)
theorem OwR.chF {F S:Nat→Prop} {B:Nat} {w w':World} {v:Value} {l:List FileM} (h:OwR (FlC F) 14 45 B w v l) (hc:Ch S w w') (h1:∀ k,B≤k→¬ S k) (h2:∀ k,F k→¬ S k):OwR (FlC F) 14 45 B w' v l:=h.keep' hc (fun k hk=> h1 k (h.lt k hk).1) (fun _ _ _ hf=> hf.keep' hc h2 (idf _))
theorem OwR.chC {F S:Nat→Prop} {B:Nat} {w w':World} {v:Value} {l:List CirM} (h:OwR (CiC F) 3 49 B w v l) (hc:Ch S w w') (h1:∀ k,B≤k→¬ S k) (h2:∀ k,F k→¬ S k):OwR (CiC F) 3 49 B w' v l:=h.keep' hc (fun k hk=> h1 k (h.lt k hk).1) (fun _ _ _ hf=> hf.keep' hc h2 (idf _))
theorem OwR.chW {F S:Nat→Prop} {B:Nat} {w w':World} {v:Value} {l:List WrM} (h:OwR (WrC F) 9 56 B w v l) (hc:Ch S w w') (h1:∀ k,B≤k→¬ S k) (h2:∀ k,F k→¬ S k):OwR (WrC F) 9 56 B w' v l:=h.keep' hc (fun k hk=> h1 k (h.lt k hk).1) (fun _ _ _ hf=> hf.keep' hc h2 (idf _))
theorem Kb (s:IdM) (cs:List Value) (F:Nat→Prop) (w:World) (hs:IdC F w cs s) (hl:FewI s) (ys:List Nat) (hF:∀ k,F k→k∉ys) (hys:∀ k∈ys,k<w.heap.size):Calls Tryz.prog 48 #[.agg cs.toArray] w (OwnedP ys w s):=by
 have h0:=hs
 obtain⟨vf,vc,vw,rfl,-⟩:=hs
 obtain⟨hf,hc,hw⟩:=h0.old' hF
 have HYS:=Ag hys
 have hv:vf.oneCell'=true∧vc.oneCell'=true∧vw.oneCell'=true:=by
  obtain⟨_,_,rfl,-⟩:=hf.shape
  obtain⟨_,_,rfl,-⟩:=hc.shape
  obtain⟨_,_,rfl,-⟩:=hw.shape
  exact⟨rfl,rfl,rfl⟩
 have HV:=Ag (show ∀ v∈[vf,vc,vw],v.oneCell'=true from fun v hv'=> by
  simp only[List.mem_cons,List.not_mem_nil,or_false] at hv'
  rcases hv' with rfl|rfl|rfl
  ·exact hv.1
  ·exact hv.2.1
  ·exact hv.2.2)
 have HR:=Ag (Ai hf (Ai hc hw))
 have HL:=Ag hl
 clear h0 hf hc hw hv hl hF hys
 go_enter Tryz.func48,Tryz.ntmps48
 go_upto_region 1 with(first
  | ((with_reducible refine Au w rfl 26 (.tmp 0) rfl ([vf,vc,vw]) rfl ?_);intro a1 hb hbel hsz;have H1:=hJ2 hb hbel;clear hb hbel hsz)
  | ((with_reducible refine Av a1 rfl 26 rfl ([(.slice none 0 0),(.slice none 0 0),(.slice none 0 0)]) Tryz.zeroId3 ?_);intro a2 hb hbel hsz;have H2:=hJ3 (H1.out.1.below hbel H1.out.1.lt) (An H1.out.2 hbel (Ah _)) hb;have HG:=hJ2 H1.out.1.lt hb.lt;clear hb hbel hsz))
 try simp only[Al,Ad,Ae,Af]
 have H2b:=Ag (show Blk a2 (w.heap.size) 26 ([vf,vc,vw])∧Below w.heap.size w a2∧Blk a2 (a1.heap.size) 26 ([(.slice none 0 0),(.slice none 0 0),(.slice none 0 0)])∧a2.heap.size≤a2.heap.size from⟨H2.out.1,H2.out.2.1,H2.out.2.2,Ah _⟩)
 clear H1 H2
 go_wp2_with fail
 refine A2 (fun W=> W.cell? ⟨w.heap.size,0,none⟩=some vf∧W.cell? ⟨w.heap.size,1,none⟩=some vc∧W.cell? ⟨w.heap.size,2,none⟩=some vw) 10 [0,1,3,4,6,7] 9 (by kernel_rfl) rfl (by kernel_rfl) (by kernel_rfl) ⟨H2b.out.1.cell 0,H2b.out.1.cell 1,H2b.out.1.cell 2⟩ ?_
 iterate 6(refine' AK.run ?_ ?_ ?_ ?_;rotate_left 2;(simp only[Aa,Ab,Ac];rfl);rfl;(rintro w' ⟨k0,k1,k2⟩;go_simp;with_reducible rfl);simp only[Al,Ad,Ae,Af])
 have sm:=(Sm.refl a2).drew
 have HV2:=hJ4 (H2b.out.1.below (sm.below _) H2b.out.1.lt) (An H2b.out.2.1 (sm.below _) (Ah _)) (H2b.out.2.2.1.below (sm.below _) H2b.out.2.2.1.lt) (Aj H2b.out.2.2.2 (sm.below 0).size)
 clear sm
 generalize a2.drew=v1 at HV2 ⊢
 refine' AE 2 (by kernel_rfl) ?_ ?_;rotate_left;(simp only[Aa,Ab,Ac];rfl)
 try simp only[Al,Ad,Ae,Af]
 go_wp2_with fail
 refine(Jf vf s.fs (Lo ys w) v1 ((HR.out.1.keep' (Ch.of_below (S:=fun _=> False) HV2.out.2.1 (Ah _)) (fun _ _ e=> e) (fun _ h=> h) (fun cs a _ h=> h.below HV2.out.2.1))) (by have:=HL.out.2.2.2.1;omega)).mono ?_
 rintro e' d1 ⟨u_f,rfl,hown,hb⟩
 have HK0:=Ag (show(a2.heap.size≤v1.heap.size)∧(v1.heap.size≤d1.heap.size)∧∀ k,u_f.ownBlock=some k→v1.heap.size≤k∧k<d1.heap.size from⟨HV2.out.2.2.2,hb.size,hown.lt⟩)
 obtain⟨u_0a,u_0c,e_0,-,-⟩:=hown.shape
 have HS0:=Ag (show u_f.oneCell'=true from by rw[e_0];rfl)
 have HE0:=Ag e_0
 clear e_0
 have K3:=Ag (show Blk d1 (w.heap.size) 26 ([vf,vc,vw])∧Below w.heap.size w d1∧Blk d1 (a1.heap.size) 26 ([(.slice none 0 0),(.slice none 0 0),(.slice none 0 0)])∧a2.heap.size≤d1.heap.size∧OwR (FlC (Lo ys w)) 14 45 a2.heap.size d1 u_f s.fs from⟨HV2.out.1.below hb HV2.out.1.lt,(An HV2.out.2.1 hb (Ah _)),HV2.out.2.2.1.below hb HV2.out.2.2.1.lt,(Aj HV2.out.2.2.2 hb.size),hown.mono HV2.out.2.2.2 (fun _ _ _ h=> h)⟩)
 clear hown hb
 go_wp2_with fail
 refine QK.normal ⟨fun _=> ⟨K3.out.1.cell 0,K3.out.1.cell 1,K3.out.1.cell 2⟩,?_⟩
 refine B7 (by kernel_rfl) AG (fuel:=7) ⟨K3.out.1.cell 0,K3.out.1.cell 1,K3.out.1.cell 2⟩ [9] _ _ (by kernel_rfl) ?_
 refine' AK.run ?_ ?_ ?_ ?_;rotate_left 2;(simp only[Aa,Ab,Ac];rfl);rfl;(rintro w' ⟨k0,k1,k2⟩;go_simp;with_reducible rfl);simp only[Al,Ad,Ae,Af]
 refine' AE 5 (by kernel_rfl) ?_ ?_;rotate_left;(simp only[Aa,Ab,Ac];rfl)
 try simp only[Al,Ad,Ae,Af]
 go_wp2_with fail
 refine(Jg vc s.cs (Lo ys w) d1 ((HR.out.2.1.keep' (Ch.of_below (S:=fun _=> False) K3.out.2.1 (Ah _)) (fun _ _ e=> e) (fun _ h=> h) (fun cs a _ h=> h.below K3.out.2.1))) (by have:=HL.out.2.2.2.2.1;omega)).mono ?_
 rintro e' d2 ⟨u_c,rfl,hown,hb⟩
 have HK1:=Ag (show(a2.heap.size≤d1.heap.size)∧(d1.heap.size≤d2.heap.size)∧∀ k,u_c.ownBlock=some k→d1.heap.size≤k∧k<d2.heap.size from⟨K3.out.2.2.2.1,hb.size,hown.lt⟩)
 obtain⟨u_1a,u_1c,e_1,-,-⟩:=hown.shape
 have HS1:=Ag (show u_c.oneCell'=true from by rw[e_1];rfl)
 have HE1:=Ag e_1
 clear e_1
 have K4:=Ag (show Blk d2 (w.heap.size) 26 ([vf,vc,vw])∧Below w.heap.size w d2∧Blk d2 (a1.heap.size) 26 ([(.slice none 0 0),(.slice none 0 0),(.slice none 0 0)])∧a2.heap.size≤d2.heap.size∧OwR (FlC (Lo ys w)) 14 45 a2.heap.size d2 u_f s.fs∧OwR (CiC (Lo ys w)) 3 49 a2.heap.size d2 u_c s.cs from⟨K3.out.1.below hb K3.out.1.lt,(An K3.out.2.1 hb (Ah _)),K3.out.2.2.1.below hb K3.out.2.2.1.lt,(Aj K3.out.2.2.2.1 hb.size),(K3.out.2.2.2.2.belF hb),hown.mono K3.out.2.2.2.1 (fun _ _ _ h=> h)⟩)
 clear hown hb
 go_wp2_with fail
 refine QK.normal ⟨fun _=> ⟨K4.out.1.cell 0,K4.out.1.cell 1,K4.out.1.cell 2⟩,?_⟩
 refine' AE 8 (by kernel_rfl) ?_ ?_;rotate_left;(simp only[Aa,Ab,Ac];rfl)
 try simp only[Al,Ad,Ae,Af]
 go_wp2_with fail
 refine(Jh vw s.ws (Lo ys w) d2 ((HR.out.2.2.keep' (Ch.of_below (S:=fun _=> False) K4.out.2.1 (Ah _)) (fun _ _ e=> e) (fun _ h=> h) (fun cs a _ h=> h.below K4.out.2.1))) (by have:=HL.out.2.2.2.2.2;omega)).mono ?_
 rintro e' d3 ⟨u_w,rfl,hown,hb⟩
 have HK2:=Ag (show(a2.heap.size≤d2.heap.size)∧(d2.heap.size≤d3.heap.size)∧∀ k,u_w.ownBlock=some k→d2.heap.size≤k∧k<d3.heap.size from⟨K4.out.2.2.2.1,hb.size,hown.lt⟩)
 obtain⟨u_2a,u_2c,e_2,-,-⟩:=hown.shape
 have HS2:=Ag (show u_w.oneCell'=true from by rw[e_2];rfl)
 have HE2:=Ag e_2
 clear e_2
 have K5:=Ag (show Blk d3 (w.heap.size) 26 ([vf,vc,vw])∧Below w.heap.size w d3∧Blk d3 (a1.heap.size) 26 ([(.slice none 0 0),(.slice none 0 0),(.slice none 0 0)])∧a2.heap.size≤d3.heap.size∧OwR (FlC (Lo ys w)) 14 45 a2.heap.size d3 u_f s.fs∧OwR (CiC (Lo ys w)) 3 49 a2.heap.size d3 u_c s.cs∧OwR (WrC (Lo ys w)) 9 56 a2.heap.size d3 u_w s.ws from⟨K4.out.1.below hb K4.out.1.lt,(An K4.out.2.1 hb (Ah _)),K4.out.2.2.1.below hb K4.out.2.2.1.lt,(Aj K4.out.2.2.2.1 hb.size),(K4.out.2.2.2.2.1.belF hb),(K4.out.2.2.2.2.2.belC hb),hown.mono K4.out.2.2.2.1 (fun _ _ _ h=> h)⟩)
 clear hown hb
 go_wp2_with fail
 refine QK.normal ⟨fun _=> ⟨K5.out.1.cell 0,K5.out.1.cell 1,K5.out.1.cell 2⟩,?_⟩
 refine' AE 10 (by kernel_rfl) ?_ ?_;rotate_left;(simp only[Aa,Ab,Ac];rfl)
 try simp only[Al,Ad,Ae,Af]
 refine AI d3 rfl 22 (.tmp 15) (.tmp 8) rfl (w.heap.size) 0 26 _ K5.out.1 rfl (u_f) rfl (by simp) Tryz.sizeSf1 HS0.out (B9 HS0.out) ?_
 intro u6 hb hc hs
 have K7:=Ag (show Blk u6 (w.heap.size) 26 ([u_f,vc,vw])∧Below w.heap.size w u6∧Blk u6 (a1.heap.size) 26 ([(.slice none 0 0),(.slice none 0 0),(.slice none 0 0)])∧a2.heap.size≤u6.heap.size∧OwR (FlC (Lo ys w)) 14 45 a2.heap.size u6 u_f s.fs∧OwR (CiC (Lo ys w)) 3 49 a2.heap.size u6 u_c s.cs∧OwR (WrC (Lo ys w)) 9 56 a2.heap.size u6 u_w s.ws from⟨hb,(Aw K5.out.2.1 hc (Ah _) (fun k hk=> by have e:=(show _=_ from hk);have:=HG.out;omega)),K5.out.2.2.1.keep hc (fun e=> absurd (show _=_ from e) (by have:=HG.out;omega)),(Aj K5.out.2.2.2.1 hc.size),(K5.out.2.2.2.2.1.chF hc (fun k hk e=> absurd (show _=_ from e) (by have hk:a2.heap.size≤k:=hk;have:=HG.out;omega)) (fun k hk e=> absurd (show _=_ from e) (by have hk:k<w.heap.size:=hk.2;have:=HG.out;omega))),(K5.out.2.2.2.2.2.1.chC hc (fun k hk e=> absurd (show _=_ from e) (by have hk:a2.heap.size≤k:=hk;have:=HG.out;omega)) (fun k hk e=> absurd (show _=_ from e) (by have hk:k<w.heap.size:=hk.2;have:=HG.out;omega))),(K5.out.2.2.2.2.2.2.chW hc (fun k hk e=> absurd (show _=_ from e) (by have hk:a2.heap.size≤k:=hk;have:=HG.out;omega)) (fun k hk e=> absurd (show _=_ from e) (by have hk:k<w.heap.size:=hk.2;have:=HG.out;omega)))⟩)
 clear hb hc hs
 refine QK.normal ⟨fun h=> absurd h (by decide),?_⟩
 refine AL (by kernel_rfl) AG (fuel:=3) (fun h=> absurd h (by decide)) 11 (by kernel_rfl) ?_
 refine' AK.run ?_ ?_ ?_ ?_;rotate_left 2;(simp only[Aa,Ab,Ac];rfl);rfl;(rintro w' -;go_simp;with_reducible rfl);simp only[Al,Ad,Ae,Af]
 refine' AE 12 (by kernel_rfl) ?_ ?_;rotate_left;(simp only[Aa,Ab,Ac];rfl)
 try simp only[Al,Ad,Ae,Af]
 refine AI u6 rfl 23 (.tmp 16) (.tmp 11) rfl (w.heap.size) 1 26 _ K7.out.1 rfl (u_c) rfl (by simp) Tryz.sizeSc1 HS1.out (B9 HS1.out) ?_
 intro u8 hb hc hs
 have K9:=Ag (show Blk u8 (w.heap.size) 26 ([u_f,u_c,vw])∧Below w.heap.size w u8∧Blk u8 (a1.heap.size) 26 ([(.slice none 0 0),(.slice none 0 0),(.slice none 0 0)])∧a2.heap.size≤u8.heap.size∧OwR (FlC (Lo ys w)) 14 45 a2.heap.size u8 u_f s.fs∧OwR (CiC (Lo ys w)) 3 49 a2.heap.size u8 u_c s.cs∧OwR (WrC (Lo ys w)) 9 56 a2.heap.size u8 u_w s.ws from⟨hb,(Aw K7.out.2.1 hc (Ah _) (fun k hk=> by have e:=(show _=_ from hk);have:=HG.out;omega)),K7.out.2.2.1.keep hc (fun e=> absurd (show _=_ from e) (by have:=HG.out;omega)),(Aj K7.out.2.2.2.1 hc.size),(K7.out.2.2.2.2.1.chF hc (fun k hk e=> absurd (show _=_ from e) (by have hk:a2.heap.size≤k:=hk;have:=HG.out;omega)) (fun k hk e=> absurd (show _=_ from e) (by have hk:k<w.heap.size:=hk.2;have:=HG.out;omega))),(K7.out.2.2.2.2.2.1.chC hc (fun k hk e=> absurd (show _=_ from e) (by have hk:a2.heap.size≤k:=hk;have:=HG.out;omega)) (fun k hk e=> absurd (show _=_ from e) (by have hk:k<w.heap.size:=hk.2;have:=HG.out;omega))),(K7.out.2.2.2.2.2.2.chW hc (fun k hk e=> absurd (show _=_ from e) (by have hk:a2.heap.size≤k:=hk;have:=HG.out;omega)) (fun k hk e=> absurd (show _=_ from e) (by have hk:k<w.heap.size:=hk.2;have:=HG.out;omega)))⟩)
 clear hb hc hs
 refine QK.normal ⟨fun h=> absurd h (by decide),?_⟩
 refine AL (by kernel_rfl) AG (fuel:=1) (fun h=> absurd h (by decide)) 13 (by kernel_rfl) ?_
 refine' AK.run ?_ ?_ ?_ ?_;rotate_left 2;(simp only[Aa,Ab,Ac];rfl);rfl;(rintro w' -;go_simp;with_reducible rfl);simp only[Al,Ad,Ae,Af]
 refine' AE 14 (by kernel_rfl) ?_ ?_;rotate_left;(simp only[Aa,Ab,Ac];rfl)
 try simp only[Al,Ad,Ae,Af]
 refine AI u8 rfl 24 (.tmp 17) (.tmp 14) rfl (w.heap.size) 2 26 _ K9.out.1 rfl (u_w) rfl (by simp) Tryz.sizeSw1 HS2.out (B9 HS2.out) ?_
 intro u10 hb hc hs
 have K11:=Ag (show Blk u10 (w.heap.size) 26 ([u_f,u_c,u_w])∧Below w.heap.size w u10∧Blk u10 (a1.heap.size) 26 ([(.slice none 0 0),(.slice none 0 0),(.slice none 0 0)])∧a2.heap.size≤u10.heap.size∧OwR (FlC (Lo ys w)) 14 45 a2.heap.size u10 u_f s.fs∧OwR (CiC (Lo ys w)) 3 49 a2.heap.size u10 u_c s.cs∧OwR (WrC (Lo ys w)) 9 56 a2.heap.size u10 u_w s.ws from⟨hb,(Aw K9.out.2.1 hc (Ah _) (fun k hk=> by have e:=(show _=_ from hk);have:=HG.out;omega)),K9.out.2.2.1.keep hc (fun e=> absurd (show _=_ from e) (by have:=HG.out;omega)),(Aj K9.out.2.2.2.1 hc.size),(K9.out.2.2.2.2.1.chF hc (fun k hk e=> absurd (show _=_ from e) (by have hk:a2.heap.size≤k:=hk;have:=HG.out;omega)) (fun k hk e=> absurd (show _=_ from e) (by have hk:k<w.heap.size:=hk.2;have:=HG.out;omega))),(K9.out.2.2.2.2.2.1.chC hc (fun k hk e=> absurd (show _=_ from e) (by have hk:a2.heap.size≤k:=hk;have:=HG.out;omega)) (fun k hk e=> absurd (show _=_ from e) (by have hk:k<w.heap.size:=hk.2;have:=HG.out;omega))),(K9.out.2.2.2.2.2.2.chW hc (fun k hk e=> absurd (show _=_ from e) (by have hk:a2.heap.size≤k:=hk;have:=HG.out;omega)) (fun k hk e=> absurd (show _=_ from e) (by have hk:k<w.heap.size:=hk.2;have:=HG.out;omega)))⟩)
 clear hb hc hs
 refine QK.normal ⟨fun h=> absurd h (by decide),?_⟩
 refine Bd (by kernel_rfl) ?_ _
 refine NoPanic.normal ?_
 try simp only[Al,Ad,Ae,Af]
 obtain⟨cv,hcm,hco,hcr⟩:=K11.out.2.2.2.2.2.1.cirs
 have HOWN:=Ag (show OwnX w [] (a1.heap.size::ys) u10 (w.heap.size) 26 [u_f,u_c,u_w] u_f u_c u_w s.fs cv s.ws [] from OwnX.init HYS.out (N0:=a2.heap.size) (N1:=d1.heap.size) (N2:=d2.heap.size) K11.out.2.1 (Ah _) HG.out.1 HG.out.2 (by have:=K11.out.2.2.2.1;exact this) HK1.out.1 HK1.out.2.1 (fun k hk=> ⟨by have:=(HK0.out.2.2 k hk).1;have:=HK0.out.1;omega,(HK0.out.2.2 k hk).2⟩) HK1.out.2.2 (fun k hk=> (HK2.out.2.2 k hk).1) hco K11.out.1 K11.out.2.2.2.2.1 hcr K11.out.2.2.2.2.2.2)
 have HCM:=Ag hcm
 have HQ:=Ag K11.out.2.2.1
 clear hcm hco hcr HK0 HK1 HK2
 have e0:=HE0.out
 have e1:=HE1.out
 have e2:=HE2.out
 subst e0
 subst e1
 subst e2
 obtain⟨fn,hfn⟩:∃ n,s.fs.length=n:=⟨_,rfl⟩
 obtain⟨cn,hcn⟩:∃ n,s.cs.length=n:=⟨_,rfl⟩
 obtain⟨wn,hwn⟩:∃ n,s.ws.length=n:=⟨_,rfl⟩
 have HN:=Ag (Ai hfn (Ai hcn hwn))
 have hfl:fn≤1000000:=by have:=HL.out.2.2.2.1;omega
 have hcl:cn≤1000000:=by have:=HL.out.2.2.2.2.1;omega
 have hwl:wn≤1000000:=by have:=HL.out.2.2.2.2.2;omega
 rw[hfn,hcn,hwn] at HOWN ⊢
 clear hfn hcn hwn HE0 HE1 HE2 HS0 HS1 HS2 K11
 have H0:=Ag (show OwnX w [] (a1.heap.size::ys) u10 (w.heap.size) 26 [(.slice u_0a fn u_0c),(.slice u_1a cn u_1c),(.slice u_2a wn u_2c)] (.slice u_0a fn u_0c) (.slice u_1a cn u_1c) (.slice u_2a wn u_2c) s.fs cv s.ws []∧Blk u10 (a1.heap.size) 26 ([(.slice none 0 0),(.slice none 0 0),(.slice none 0 0)]) from⟨HOWN.out,HQ.out⟩)
 clear HOWN HQ
 have c0:=H0.out.1.bl.cell 0
 simp only[Ab,Ac] at c0
 go_wp2_with fail
 clear c0
 go_loopw [3,21] (fun s3 s21 wr=> ∃ j:Nat,s21=.int .i64 j∧j≤fn∧Hid (OwnX w [] (a1.heap.size::ys) wr (w.heap.size) 26 [(.slice u_0a fn u_0c),(.slice u_1a cn u_1c),(.slice u_2a wn u_2c)] (.slice u_0a fn u_0c) (.slice u_1a cn u_1c) (.slice u_2a wn u_2c) s.fs cv s.ws []∧Blk wr (a1.heap.size) 26 ([(.slice none 0 0),(.slice none 0 0),(.slice none 0 0)]))) (fun _ s21 _=> fn - (intOf s21).toNat)
 case atStart=> exact⟨0,rfl,Nat.zero_le _,H0⟩
 case round=>
  clear H0
  obtain⟨j,rfl,hj,HO⟩:=hrel
  by_cases hlt:j<fn
  ·have hjl:j<s.fs.length:=by rw[HN.out.1];exact hlt
   have hjz:(j:Int)<(fn:Int):=by omega
   have hj0:(0:Int)≤(j:Int):=by omega
   obtain⟨g,cg,e,-⟩:=HO.out.1.rf.ptr hjl
   rw[HN.out.1] at e
   obtain⟨rfl,rfl⟩:u_0a=some ⟨g,0,none⟩∧u_0c=cg:=by simpa using e
   clear e
   have c0:=HO.out.1.bl.cell 0
   simp only[Ab,Ac] at c0
   go_wp2_with fail
   go_wp2_with fail
   refine Az (fun W=> W.cell? ⟨w.heap.size,0,none⟩=some ((.slice (some ⟨g,0,none⟩) fn u_0c))) [0,1,2,3,4,5,6] 4 (by kernel_rfl) rfl (by kernel_rfl) (by kernel_rfl) (HO.out.1.bl.cell 0) ?_
   clear c0
   iterate 7(refine' AK.run ?_ ?_ ?_ ?_;rotate_left 2;(simp only[Aa,Ab,Ac];rfl);rfl;(rintro w' k0;go_simp;with_reducible rfl);simp only[Al,Ad,Ae,Af])
   have sm:=(Sm.refl wr).drew
   have HV13:=Ag (show OwnX w [] (a1.heap.size::ys) wr.drew (w.heap.size) 26 [(.slice (some ⟨g,0,none⟩) fn u_0c),(.slice u_1a cn u_1c),(.slice u_2a wn u_2c)] (.slice (some ⟨g,0,none⟩) fn u_0c) (.slice u_1a cn u_1c) (.slice u_2a wn u_2c) s.fs cv s.ws []∧Blk wr.drew (a1.heap.size) 26 ([(.slice none 0 0),(.slice none 0 0),(.slice none 0 0)]) from⟨(HO.out.1.below (sm.below _)),HO.out.2.below (sm.below _) HO.out.2.lt⟩)
   clear sm
   generalize wr.drew=v12 at HV13 ⊢
   refine' Ar 7 (by kernel_rfl) ?_ ?_;rotate_left;(simp only[Aa,Ab,Ac];rfl)
   obtain⟨hg1,cs,hcl,hra,hfl',-,-⟩:=HV13.out.1.putF hjl
   have HK:=Ag hfl'
   try simp only[Al,Ad,Ae,Af]
   refine Ap rfl 45 (.tmp 30) rfl g (j* 14) rfl cs _ hra Tryz.underlying45 rfl (At Tryz.infoFl hcl) ?_
   clear hg1 hcl hra hfl'
   refine QK.normal ⟨(HV13.out.1.bl.cell 0),?_⟩
   refine' Ar 8 (by kernel_rfl) ?_ ?_;rotate_left;(simp only[Aa,Ab,Ac];rfl)
   try simp only[Al,Ad,Ae,Af]
   go_wp2_with fail
   refine(G1 s.fs[j] cs _ _ HK.out (HL.out.1 _ (List.getElem_mem hjl)).1 (HL.out.1 _ (List.getElem_mem hjl)).2).mono ?_
   rintro e' y1 ⟨cs',rfl,hnew,hb⟩
   have HY1:=Ag (show OwnX w [] (a1.heap.size::ys) y1 (w.heap.size) 26 [(.slice (some ⟨g,0,none⟩) fn u_0c),(.slice u_1a cn u_1c),(.slice u_2a wn u_2c)] (.slice (some ⟨g,0,none⟩) fn u_0c) (.slice u_1a cn u_1c) (.slice u_2a wn u_2c) s.fs cv s.ws []∧Blk y1 (a1.heap.size) 26 ([(.slice none 0 0),(.slice none 0 0),(.slice none 0 0)])∧FlC (Fz (a1.heap.size::ys) (msL (w.heap.size) (.slice (some ⟨g,0,none⟩) fn u_0c) (.slice u_1a cn u_1c) (.slice u_2a wn u_2c) cv) y1) y1 cs' s.fs[j] from⟨(HV13.out.1.below hb),HV13.out.2.below hb HV13.out.2.lt,hnew.old'.mono (HV13.out.1.new hb)⟩)
   clear hnew hb
   go_wp2_with fail
   refine QK.normal ⟨(HY1.out.1.bl.cell 0),?_⟩
   refine' Ar 9 (by kernel_rfl) ?_ ?_;rotate_left;(simp only[Aa,Ab,Ac];rfl)
   try simp only[Al,Ad,Ae,Af]
   go_wp2_with fail
   refine QK.normal ⟨(HY1.out.1.bl.cell 0),?_⟩
   refine' Ar 10 (by kernel_rfl) ?_ ?_;rotate_left;(simp only[Aa,Ab,Ac];rfl)
   try simp only[Al,Ad,Ae,Af]
   obtain⟨hg1,cs2,hcl,-,-,hth,hput⟩:=HY1.out.1.putF hjl
   have HNL:=Ag HY1.out.2.2.len
   refine wpList_store_mid rfl 45 (.tmp 33) (.tmp 32) rfl g (j* 14) cs'.toArray rfl rfl (by simp only[List.size_toArray];rw[HNL.out];exact hth) (by simp only[List.size_toArray];rw[HNL.out];exact Tryz.infoFl) (all_oneCell_toArray HY1.out.2.2.one) ?_
   have hc:=AH g cs' (j* 14) y1
   have HY2:=Ag (show OwnX w [] (a1.heap.size::ys) (y1.setCells g (j* 14) cs') (w.heap.size) 26 [(.slice (some ⟨g,0,none⟩) fn u_0c),(.slice u_1a cn u_1c),(.slice u_2a wn u_2c)] (.slice (some ⟨g,0,none⟩) fn u_0c) (.slice u_1a cn u_1c) (.slice u_2a wn u_2c) s.fs cv s.ws []∧Blk (y1.setCells g (j* 14) cs') (a1.heap.size) 26 ([(.slice none 0 0),(.slice none 0 0),(.slice none 0 0)]) from⟨by have h:=hput 0 cs' s.fs[j] (by rw[HNL.out];omega) (by rw[Fs _ _ (by rw[hcl,HNL.out])];exact HY1.out.2.2);rw[List.set_getElem_self] at h;exact h,HY1.out.2.1.keep hc (fun e=> by have e:a1.heap.size=g:=e;exact(HY1.out.1.ax (a1.heap.size) (by simp)).1 (by rw[e];exact FR _ (AF.2 rfl)))⟩)
   clear hc hg1 hcl hth hput
   try simp only[List.toList_toArray]
   generalize y1.setCells g (j* 14) cs'=y2 at HY2 ⊢
   refine QK.normal ⟨(HY2.out.1.bl.cell 0),?_⟩
   refine wpAnyH_done (by kernel_rfl) ?_ _
   refine NoPanic.normal ?_
   go_wp2_with fail
   go_roundw
   case measure=> simp[intOf];omega
   case rel=> exact⟨j+1,by go_num,by omega,HY2⟩
  ·have hge:¬ (j:Int)<(fn:Int):=by omega
   have c1:=HO.out.1.bl.cell 1
   simp only[Ab,Ac] at c1
   go_wp2_with fail
   clear c1
   go_loopw [4,38] (fun s4 s38 wr=> ∃ j:Nat,s38=.int .i64 j∧j≤cn∧∃ cv:List CirV,cv.map CirV.m=s.cs∧Hid (∀ i (h:i<cv.length),i<j→cv[i].own=true)∧Hid (OwnX w [] (a1.heap.size::ys) wr (w.heap.size) 26 [(.slice u_0a fn u_0c),(.slice u_1a cn u_1c),(.slice u_2a wn u_2c)] (.slice u_0a fn u_0c) (.slice u_1a cn u_1c) (.slice u_2a wn u_2c) s.fs cv s.ws []∧Blk wr (a1.heap.size) 26 ([(.slice none 0 0),(.slice none 0 0),(.slice none 0 0)]))) (fun _ s38 _=> cn - (intOf s38).toNat)
   case atStart=> exact⟨0,rfl,Nat.zero_le _,cv,HCM.out,Ag (fun _ _ h=> absurd h (Nat.not_lt_zero _)),HO⟩
   case round=>
    clear HO HCM hge
    obtain⟨j,rfl,hj,cv,hcm,HOJ,HO⟩:=hrel
    have HCM:=Ag hcm
    have HCL:=Ag (show cv.length=cn from by rw[←HN.out.2.1,←hcm,List.length_map])
    have HLU:=Ag (show ∀ i (h:i<cv.length),cv[i].us.length≤1000000000 from fun i h=> HL.out.2.1 cv[i].m (by rw[←hcm];exact List.mem_map_of_mem (List.getElem_mem h)))
    clear hcm
    by_cases hlt:j<cn
    ·have hjl:j<cv.length:=by rw[HCL.out];exact hlt
     have hjz:(j:Int)<(cn:Int):=by omega
     have hj0:(0:Int)≤(j:Int):=by omega
     obtain⟨g,cg,e,-⟩:=HO.out.1.rc.ptr hjl
     rw[HCL.out] at e
     obtain⟨rfl,rfl⟩:u_1a=some ⟨g,0,none⟩∧u_1c=cg:=by simpa using e
     clear e
     have c1:=HO.out.1.bl.cell 1
     simp only[Ab,Ac] at c1
     go_wp2_with fail
     go_wp2_with fail
     refine Az (fun W=> W.cell? ⟨w.heap.size,1,none⟩=some ((.slice (some ⟨g,0,none⟩) cn u_1c))) [0,1,2,3,4,5,6,7] 5 (by kernel_rfl) rfl (by kernel_rfl) (by kernel_rfl) (HO.out.1.bl.cell 1) ?_
     clear c1
     iterate 8(refine' AK.run ?_ ?_ ?_ ?_;rotate_left 2;(simp only[Aa,Ab,Ac];rfl);rfl;(rintro w' k0;go_simp;with_reducible rfl);simp only[Al,Ad,Ae,Af])
     have sm:=(Sm.refl wr).drew
     have HV15:=Ag (show OwnX w [] (a1.heap.size::ys) wr.drew (w.heap.size) 26 [(.slice u_0a fn u_0c),(.slice (some ⟨g,0,none⟩) cn u_1c),(.slice u_2a wn u_2c)] (.slice u_0a fn u_0c) (.slice (some ⟨g,0,none⟩) cn u_1c) (.slice u_2a wn u_2c) s.fs cv s.ws []∧Blk wr.drew (a1.heap.size) 26 ([(.slice none 0 0),(.slice none 0 0),(.slice none 0 0)]) from⟨(HO.out.1.below (sm.below _)),HO.out.2.below (sm.below _) HO.out.2.lt⟩)
     clear sm
     generalize wr.drew=v14 at HV15 ⊢
     refine' Ar 8 (by kernel_rfl) ?_ ?_;rotate_left;(simp only[Aa,Ab,Ac];rfl)
     obtain⟨hg1,-,cs,hcl,hra,hci,hth,-⟩:=HV15.out.1.rc.focus hjl
     obtain⟨hcs,hcx⟩:=hci
     have HK:=Ag (show SlI (fun _=> True) v14 cv[j].vu cv[j].us from by
      obtain⟨vx,e,hx⟩:=CvC.cic (F:=Fz (a1.heap.size::ys) (msL (w.heap.size) (.slice u_0a fn u_0c) (.slice (some ⟨g,0,none⟩) cn u_1c) (.slice u_2a wn u_2c) cv) v14) (w:=v14) (cs:=cs) (c:=cv[j]) ⟨hcs,hcx⟩
      rw[hcs] at e
      have e2:cv[j].vu=vx:=by simpa [ciC,CirV.m] using e
      rw[e2];exact hx)
     have c8:=hra 2 cv[j].vu (by rw[hcs];rfl)
     clear hg1 hcl hra hcs hcx hth
     try simp only[Al,Ad,Ae,Af]
     obtain⟨vuj,hvuj⟩:∃ v,cv[j].vu=v:=⟨_,rfl⟩
     have HVU:=Ag hvuj
     rw[hvuj] at c8 HK
     clear hvuj
     go_wp2_with fail
     clear c8
     refine QK.normal ⟨(HV15.out.1.bl.cell 1),?_⟩
     refine' Ar 9 (by kernel_rfl) ?_ ?_;rotate_left;(simp only[Aa,Ab,Ac];rfl)
     try simp only[Al,Ad,Ae,Af]
     go_wp2_with fail
     refine(Bq vuj cv[j].us v14 HK.out.1 (HLU.out j hjl)).mono ?_
     rintro e' y1 ⟨vu',rfl,hown,hb⟩
     have HB:=Ag hb
     have HW:=Ag hown
     obtain⟨ua,uc,rfl⟩:=AY hown
     have HO1:=HV15
     have HY1:=Ag (show OwnX w [] (a1.heap.size::ys) y1 (w.heap.size) 26 [(.slice u_0a fn u_0c),(.slice (some ⟨g,0,none⟩) cn u_1c),(.slice u_2a wn u_2c)] (.slice u_0a fn u_0c) (.slice (some ⟨g,0,none⟩) cn u_1c) (.slice u_2a wn u_2c) s.fs cv s.ws []∧Blk y1 (a1.heap.size) 26 ([(.slice none 0 0),(.slice none 0 0),(.slice none 0 0)]) from⟨(HV15.out.1.below hb),HV15.out.2.below hb HV15.out.2.lt⟩)
     clear hown hb
     go_wp2_with fail
     refine QK.normal ⟨(HY1.out.1.bl.cell 1),?_⟩
     refine' Ar 10 (by kernel_rfl) ?_ ?_;rotate_left;(simp only[Aa,Ab,Ac];rfl)
     try simp only[Al,Ad,Ae,Af]
     go_wp2_with fail
     refine QK.normal ⟨(HY1.out.1.bl.cell 1),?_⟩
     refine' Ar 11 (by kernel_rfl) ?_ ?_;rotate_left;(simp only[Aa,Ab,Ac];rfl)
     try simp only[Al,Ad,Ae,Af]
     go_wp2_with fail
     refine QK.normal ⟨(HY1.out.1.bl.cell 1),?_⟩
     refine' Ar 12 (by kernel_rfl) ?_ ?_;rotate_left;(simp only[Aa,Ab,Ac];rfl)
     try simp only[Al,Ad,Ae,Af]
     obtain⟨hg1,-,cs2,hcl,hra2,-,hth,-⟩:=HY1.out.1.rc.focus hjl
     have q1:=(hth 2 (by omega)).2
     obtain⟨qv,q2⟩:=Option.isSome_iff_exists.1 (hth 2 (by omega)).1
     clear hg1 hcl hra2 hth
     go_wp2_with fail
     clear q1 q2
     have hc:=AH g [(.slice ua cv[j].us.length uc)] (j* 3+2) y1
     have HY2:=Ag (show OwnX w [] (a1.heap.size::ys) (y1.setCells g (j* 3+2) [(.slice ua cv[j].us.length uc)]) (w.heap.size) 26 [(.slice u_0a fn u_0c),(.slice (some ⟨g,0,none⟩) cn u_1c),(.slice u_2a wn u_2c)] (.slice u_0a fn u_0c) (.slice (some ⟨g,0,none⟩) cn u_1c) (.slice u_2a wn u_2c) s.fs (cv.set j ⟨cv[j].n,cv[j].o,cv[j].us,(.slice ua cv[j].us.length uc),true⟩) s.ws []∧Blk (y1.setCells g (j* 3+2) [(.slice ua cv[j].us.length uc)]) (a1.heap.size) 26 ([(.slice none 0 0),(.slice none 0 0),(.slice none 0 0)]) from⟨HO1.out.1.putU hjl (Ch.of_below HB.out (Ah _)) (Il HW.out (Nat.zero_le _)) (.inr (fun k hk=> (HW.out.lt k hk).1)),HY1.out.2.keep hc (fun e=> by have e:a1.heap.size=g:=e;exact(HY1.out.1.ax (a1.heap.size) (by simp)).1 (by rw[e];exact FS _ (AF.2 rfl)))⟩)
     clear hc
     rw[show y1.setCell ⟨g,j* 3+2,none⟩ (.slice ua cv[j].us.length uc)=y1.setCells g (j* 3+2) [(.slice ua cv[j].us.length uc)] from rfl]
     generalize y1.setCells g (j* 3+2) [(.slice ua cv[j].us.length uc)]=y2 at HY2 ⊢
     refine QK.normal ⟨(HY2.out.1.bl.cell 1),?_⟩
     refine wpAnyH_done (by kernel_rfl) ?_ _
     refine NoPanic.normal ?_
     go_wp2_with fail
     go_roundw
     case measure=> simp[intOf];omega
     case rel=>
      refine⟨j+1,by go_num,by omega,cv.set j ⟨cv[j].n,cv[j].o,cv[j].us,(.slice ua cv[j].us.length uc),true⟩,?_,?_,HY2⟩
      ·rw[List.map_set]
       have hjm:j<(cv.map CirV.m).length:=by rw[List.length_map];exact hjl
       have e:(cv.map CirV.m).set j (cv.map CirV.m)[j]=cv.map CirV.m:=List.set_getElem_self hjm
       rw[List.getElem_map] at e
       exact e.trans HCM.out
      ·refine Ag fun i hi hij=> ?_
       by_cases e:i=j
       ·subst e;rw[List.getElem_set_self]
       ·rw[List.getElem_set_ne (fun h=> e h.symm)]
        exact HOJ.out i (by rw[List.length_set] at hi;exact hi) (by omega)
    ·have hge:¬ (j:Int)<(cn:Int):=by omega
     have HALL:=Ag (show ∀ c∈cv,c.own=true from fun c hc=> by
      obtain⟨i,hi,rfl⟩:=List.mem_iff_getElem.1 hc
      exact HOJ.out i hi (by rw[HCL.out] at hi;omega))
     have c2:=HO.out.1.bl.cell 2
     simp only[Ab,Ac] at c2
     go_wp2_with fail
     clear c2
     go_loopw [5,57] (fun s5 s57 wr=> ∃ j:Nat,s57=.int .i64 j∧j≤wn∧Hid (OwnX w [] (a1.heap.size::ys) wr (w.heap.size) 26 [(.slice u_0a fn u_0c),(.slice u_1a cn u_1c),(.slice u_2a wn u_2c)] (.slice u_0a fn u_0c) (.slice u_1a cn u_1c) (.slice u_2a wn u_2c) s.fs cv s.ws []∧Blk wr (a1.heap.size) 26 ([(.slice none 0 0),(.slice none 0 0),(.slice none 0 0)]))) (fun _ s57 _=> wn - (intOf s57).toNat)
     case atStart=> exact⟨0,rfl,Nat.zero_le _,HO⟩
     case round=>
      clear HO HOJ hge
      obtain⟨j,rfl,hj,HO⟩:=hrel
      by_cases hlt:j<wn
      ·have hjl:j<s.ws.length:=by rw[HN.out.2.2];exact hlt
       have hjz:(j:Int)<(wn:Int):=by omega
       have hj0:(0:Int)≤(j:Int):=by omega
       obtain⟨g,cg,e,-⟩:=HO.out.1.rw.ptr hjl
       rw[HN.out.2.2] at e
       obtain⟨rfl,rfl⟩:u_2a=some ⟨g,0,none⟩∧u_2c=cg:=by simpa using e
       clear e
       have c2:=HO.out.1.bl.cell 2
       simp only[Ab,Ac] at c2
       go_wp2_with fail
       go_wp2_with fail
       refine Az (fun W=> W.cell? ⟨w.heap.size,2,none⟩=some ((.slice (some ⟨g,0,none⟩) wn u_2c))) [0,1,2,3,4,5,6,7] 5 (by kernel_rfl) rfl (by kernel_rfl) (by kernel_rfl) (HO.out.1.bl.cell 2) ?_
       clear c2
       iterate 8(refine' AK.run ?_ ?_ ?_ ?_;rotate_left 2;(simp only[Aa,Ab,Ac];rfl);rfl;(rintro w' k0;go_simp;with_reducible rfl);simp only[Al,Ad,Ae,Af])
       have sm:=(Sm.refl wr).drew
       have HV17:=Ag (show OwnX w [] (a1.heap.size::ys) wr.drew (w.heap.size) 26 [(.slice u_0a fn u_0c),(.slice u_1a cn u_1c),(.slice (some ⟨g,0,none⟩) wn u_2c)] (.slice u_0a fn u_0c) (.slice u_1a cn u_1c) (.slice (some ⟨g,0,none⟩) wn u_2c) s.fs cv s.ws []∧Blk wr.drew (a1.heap.size) 26 ([(.slice none 0 0),(.slice none 0 0),(.slice none 0 0)]) from⟨(HO.out.1.below (sm.below _)),HO.out.2.below (sm.below _) HO.out.2.lt⟩)
       clear sm
       generalize wr.drew=v16 at HV17 ⊢
       refine' Ar 8 (by kernel_rfl) ?_ ?_;rotate_left;(simp only[Aa,Ab,Ac];rfl)
       obtain⟨hg1,cs,hcl,hra,hwr,-,-⟩:=HV17.out.1.putW hjl
       obtain⟨tc,hcs,htm⟩:=hwr
       have HK:=Ag htm
       try simp only[Al,Ad,Ae,Af]
       refine Ap rfl 29 (.tmp 67) rfl g (j* 9+4) rfl tc _ (fun i x hx=> by rw[Nat.add_assoc];exact hra (4+i) x (by rw[hcs,Nat.add_comm];exact hx)) Tryz.underlying29 rfl (At Tryz.infoTm htm.len) ?_
       clear hg1 hcl hra htm hcs
       refine QK.normal ⟨(HV17.out.1.bl.cell 2),?_⟩
       refine' Ar 9 (by kernel_rfl) ?_ ?_;rotate_left;(simp only[Aa,Ab,Ac];rfl)
       try simp only[Al,Ad,Ae,Af]
       go_wp2_with fail
       refine(B4 s.ws[j].b tc _ _ (HL.out.2.2.1 _ (List.getElem_mem hjl)) HK.out).mono ?_
       rintro e' y1 ⟨tc',rfl,hnew,hb⟩
       have HY1:=Ag (show OwnX w [] (a1.heap.size::ys) y1 (w.heap.size) 26 [(.slice u_0a fn u_0c),(.slice u_1a cn u_1c),(.slice (some ⟨g,0,none⟩) wn u_2c)] (.slice u_0a fn u_0c) (.slice u_1a cn u_1c) (.slice (some ⟨g,0,none⟩) wn u_2c) s.fs cv s.ws []∧Blk y1 (a1.heap.size) 26 ([(.slice none 0 0),(.slice none 0 0),(.slice none 0 0)])∧TmC (Fz (a1.heap.size::ys) (msL (w.heap.size) (.slice u_0a fn u_0c) (.slice u_1a cn u_1c) (.slice (some ⟨g,0,none⟩) wn u_2c) cv) y1) y1 tc' s.ws[j].b from⟨(HV17.out.1.below hb),HV17.out.2.below hb HV17.out.2.lt,(TmC.old' _ _ hnew).mono (HV17.out.1.new hb)⟩)
       clear hnew hb
       go_wp2_with fail
       refine QK.normal ⟨(HY1.out.1.bl.cell 2),?_⟩
       refine' Ar 10 (by kernel_rfl) ?_ ?_;rotate_left;(simp only[Aa,Ab,Ac];rfl)
       try simp only[Al,Ad,Ae,Af]
       go_wp2_with fail
       refine QK.normal ⟨(HY1.out.1.bl.cell 2),?_⟩
       refine' Ar 11 (by kernel_rfl) ?_ ?_;rotate_left;(simp only[Aa,Ab,Ac];rfl)
       try simp only[Al,Ad,Ae,Af]
       go_wp2_with fail
       refine QK.normal ⟨(HY1.out.1.bl.cell 2),?_⟩
       refine' Ar 12 (by kernel_rfl) ?_ ?_;rotate_left;(simp only[Aa,Ab,Ac];rfl)
       try simp only[Al,Ad,Ae,Af]
       obtain⟨hg1,cs2,hcl,-,hwr,hth,hput⟩:=HY1.out.1.putW hjl
       obtain⟨tc2,hcs,htm2⟩:=hwr
       have HNL:=Ag HY1.out.2.2.len
       refine wpList_store_mid rfl 29 (.tmp 71) (.tmp 69) rfl g (j* 9+4) tc'.toArray rfl rfl (by simp only[List.size_toArray];rw[HNL.out];exact fun i hi=> by rw[Nat.add_assoc];exact hth (4+i) (by omega)) (by simp only[List.size_toArray];rw[HNL.out];exact Tryz.infoTm) (all_oneCell_toArray HY1.out.2.2.one) ?_
       have hc:=AH g tc' (j* 9+4) y1
       have HY2:=Ag (show OwnX w [] (a1.heap.size::ys) (y1.setCells g (j* 9+4) tc') (w.heap.size) 26 [(.slice u_0a fn u_0c),(.slice u_1a cn u_1c),(.slice (some ⟨g,0,none⟩) wn u_2c)] (.slice u_0a fn u_0c) (.slice u_1a cn u_1c) (.slice (some ⟨g,0,none⟩) wn u_2c) s.fs cv s.ws []∧Blk (y1.setCells g (j* 9+4) tc') (a1.heap.size) 26 ([(.slice none 0 0),(.slice none 0 0),(.slice none 0 0)]) from⟨by have h:=hput 4 tc' s.ws[j] (by rw[HNL.out];omega) ⟨tc',by rw[hcs];exact D1 _ _ _ _ _ _ (by rw[htm2.len,HNL.out]),HY1.out.2.2⟩;rw[List.set_getElem_self] at h;exact h,HY1.out.2.1.keep hc (fun e=> by have e:a1.heap.size=g:=e;exact(HY1.out.1.ax (a1.heap.size) (by simp)).1 (by rw[e];exact GR _ (AF.2 rfl)))⟩)
       clear hc hg1 hcl hth hput hcs htm2
       try simp only[List.toList_toArray]
       generalize y1.setCells g (j* 9+4) tc'=y2 at HY2 ⊢
       refine QK.normal ⟨(HY2.out.1.bl.cell 2),?_⟩
       refine wpAnyH_done (by kernel_rfl) ?_ _
       refine NoPanic.normal ?_
       go_wp2_with fail
       go_roundw
       case measure=> simp[intOf];omega
       case rel=> exact⟨j+1,by go_num,by omega,HY2⟩
      ·have hge:¬ (j:Int)<(wn:Int):=by omega
       have HONE:=Ag (show ∀ v∈([(.slice u_0a fn u_0c),(.slice u_1a cn u_1c),(.slice u_2a wn u_2c)]:List Value),v.oneCell'=true from fun v hv=> by
        simp only[List.mem_cons,List.not_mem_nil,or_false] at hv
        rcases hv with rfl|rfl|rfl <;> rfl)
       go_wp2_with (first
  | (with_reducible refine Ap rfl 26 (.tmp 1) rfl (w.heap.size) 0 rfl ([(.slice u_0a fn u_0c),(.slice u_1a cn u_1c),(.slice u_2a wn u_2c)]) _ (As HO.out.1.bl) Tryz.underlying26 rfl (At Tryz.infoId rfl) ?_)
  | ((with_reducible refine Ao wr rfl 26 (.tmp 2) (.tmp 73) rfl (a1.heap.size) 26 ([(.slice none 0 0),(.slice none 0 0),(.slice none 0 0)]) ([(.slice u_0a fn u_0c),(.slice u_1a cn u_1c),(.slice u_2a wn u_2c)]) HO.out.2 rfl rfl rfl (At Tryz.infoId rfl) HONE.out ?_);intro z2 hb hc hs;have HX:=Ag (Ai hb hc);clear hb hc hs))
       refine bodyPost_ret (AA Tryz.results48 _ _ (a1.heap.size) _ _ rfl HX.out.1 _ Tryz.underlying26 rfl (At Tryz.infoId rfl)) rfl ?_
       exact⟨_,_,_,_,cv,rfl,HCM.out,HALL.out,Ah _,(HO.out.1.setX (by simp) (by have:=HG.out;omega) HX.out.2).keepoff (fun _ h=> List.mem_cons_of_mem _ h)⟩
end Go.Proofs.YtgdlfiphihaooaaGreat

import Derived.Test.YtgdlfiphihaooaaGreatYs15
set_option linter.unusedSimpArgs false
set_option linter.unusedVariables false
set_option maxRecDepth 100000
set_option maxHeartbeats 8000000
open _root_.List renaming getElem?_toArray→Aa,getElem?_cons_zero→Ab,getElem?_cons_succ→Ac,setIfInBounds_toArray→Ad,set_cons_zero→Ae,set_cons_succ→Af
open _root_.Go.Lib renaming hid→Ag
open _root_.Nat renaming le_refl→Ah,le_trans→Aj,lt_of_lt_of_le→Ak
open _root_.And renaming intro→Ai
open _root_.Go.Act renaming put→Al
namespace Go.Proofs.YtgdlfiphihaooaaGreat
open Go Go.RowKit
def doM (s:IdM) (p:OpM):IdM × ResM × Int:=if D0 s=true then (if opB p=true then ((BJ s p).1,(BJ s p).2,0) else (ES,A1 0,281)) else (ES,A1 0,282)
def DoP (ys:List Nat) (w:World) (r:IdM × ResM × Int) (e:Ending) (w':World):Prop:=
 ∃ cs tc,e=.returned (.tuple #[.agg cs.toArray,.agg (AC r.2.1.e r.2.1.v r.2.1.u tc).toArray,.int .i64 r.2.2])∧IdC (·∉ys) w' cs r.1∧TmC (·∉ys) w' tc r.2.1.b∧Below w.heap.size w w'
theorem KW (s:IdM) (p:OpM):(∃ r,Hq s [p]=((doM s p).1,[r],0)∧(doM s p).2.1=r∧(doM s p).2.2=0)∨(∃ e,Hq s [p]=(ES,[],e)∧doM s p=(ES,A1 0,e)∧e≠0):=by
 unfold Hq doM
 by_cases h1:D0 s=true
 ·rw[if_pos h1,if_pos h1]
  unfold goM
  by_cases h2:opB p=true
  ·rw[if_pos h2,if_pos h2]
   exact .inl ⟨_,rfl,rfl,rfl⟩
  ·rw[if_neg h2,if_neg h2]
   exact .inr ⟨_,rfl,rfl,by omega⟩
 ·rw[if_neg h1,if_neg h1]
  exact .inr ⟨_,rfl,rfl,by omega⟩
theorem IdC.len {F:Nat→Prop} {w:World} {cs:List Value} {s:IdM} (h:IdC F w cs s):cs.length=3:=by
 obtain⟨_,_,_,rfl,-⟩:=h;rfl
theorem IdC.lo {F:Nat→Prop} {w:World} {cs:List Value} {s:IdM} (h:IdC F w cs s) (ys:List Nat) (hF:∀ k,F k→k∉ys):IdC (Lo ys w) w cs s:=by
 obtain⟨vf,vc,vw,rfl,h1⟩:=id h
 exact⟨vf,vc,vw,rfl,h.old' hF⟩
theorem DC {P:Program} {fn:Func} {p p2 x:Tmp} {ty ty2:TypeId} (h:fn.results=#[.cell p ty,.cell p2 ty2,.tmp x]) (tmps:Array Value) (w:World) (g:Nat) (e:TypeId) (xs:List Value) (hp:tmps.getD p undef=.pointer (some ⟨g,0,none⟩)) (hb:Blk w g e xs) (d:TypeDesc)
  (hu:P.underlying ty=some d) (hd:d.isRow=true) (hi:(P.info? ty).map (·.size)=some xs.length) (g2:Nat) (e2:TypeId) (xs2:List Value) (hp2:tmps.getD p2 undef=.pointer (some ⟨g2,0,none⟩)) (hb2:Blk w g2 e2 xs2) (d2:TypeDesc)
  (hu2:P.underlying ty2=some d2) (hd2:d2.isRow=true) (hi2:(P.info? ty2).map (·.size)=some xs2.length) (v':Value) (hv':tmps.getD x undef=v'):(results fn tmps).run P w=.ok (.tuple #[.agg xs.toArray,.agg xs2.toArray,v']) w:=by
 have hl:=run_loadVar_mid (P:=P) w g 0 ty xs d (fun j v hv=> by rw[Nat.zero_add,hb.cell];exact hv) hu hd hi
 have hl2:=run_loadVar_mid (P:=P) w g2 0 ty2 xs2 d2 (fun j v hv=> by rw[Nat.zero_add,hb2.cell];exact hv) hu2 hd2 hi2
 have e:(results fn tmps).run P w=((asAddr (tmps.getD p undef)).run P w).andThen fun a w₁=> ((loadVar ty a).run P w₁).andThen fun v w₂=> ((asAddr (tmps.getD p2 undef)).run P w₂).andThen fun a w₁=> ((loadVar ty2 a).run P w₁).andThen fun v2 w₂=> .ok (.tuple #[v,v2,tmps.getD x undef]) w₂:=by
  simp only[results,h]
  simp[Sem.run_bind,Result.andThen]
 rw[e,hp,hv',hp2]
 simp only[asAddr,Sem.run_pure,Result.andThen_ok,hl,hl2]
theorem FW (w:World) {ops:Array Oper} {rest:List Oper} {o:Oper} {a:Act} {Q:Exit→Act→World→Prop} (hgd:o.guard=none) (x:Operand) (ho:o.op=.buildSlice 53 1 #[(0,x)]) (cs:List Value) (hcs:cs.length=11)
  (hx:a.eval x=.agg cs.toArray) (h:∀ w',Blk w' w.heap.size 31 cs→Below w.heap.size w w'→w'.heap.size=w.heap.size+1→wpList Tryz.prog ops Q rest (a.put o.dst (.slice (some ⟨w.heap.size,0,none⟩) 1 1)) w'):wpList Tryz.prog ops Q (o::rest) a w:=
 Bk w hgd 53 x ho Tryz.underlying53 (fun w=> by kernel_rfl) Tryz.zeroOp (by decide) (by decide) cs hcs hx h
theorem By {w w1 w2:World} (h:Below w.heap.size w w1) (hc:Ch (·=w.heap.size) w1 w2):Below w.heap.size w w2:=Aw h hc (Ah _) (fun k hk=> by have e:=(show _=_ from hk);omega)
theorem do_any (Cv:∀ {s:IdM} {o:OpM},ChkP s→opB o=true→ChkP (BJ s o).1) (s:IdM) (cs:List Value) (p:OpM) (tco:List Value) (F:Nat→Prop) (ys:List Nat) (w:World) (hs:IdC F w cs s) (hF:∀ k,F k→k∉ys) (hys:∀ k∈ys,k<w.heap.size) (hl:s.cs.length≤1000000000)
  (ho:TmC F w tco p.b):Calls Tryz.prog 9 #[.agg cs.toArray,.agg (opC p tco).toArray] w (DoP ys w (doM s p)):=by
 have HY:=Ag (show ∀ k∈ys,k<w.heap.size from hys)
 have HID:=Ag (show IdC (Lo ys w) w cs s∧cs.length=3∧(∀ v∈cs,v.oneCell'=true) from⟨hs.lo ys hF,hs.len,hs.one⟩)
 have HT:=Ag (show TmC (Lo ys w) w tco p.b from(TmC.old' _ _ ho).mono fun k hk=> ⟨hF k hk.1,hk.2⟩)
 have HTL:=Ag ho.len
 have HOL:=Ag (show(opC p tco).length=11 from by simp[opC,HTL.out])
 have HL:=Ag hl
 have HRM:=Ag (KW s p)
 obtain⟨R,hR⟩:∃ R,doM s p=R:=⟨_,rfl⟩
 have HR:=Ag hR
 rw[hR]
 clear hs hF hys hl ho hR
 go_enter Tryz.func9,Tryz.ntmps9
 go_upto_region 1 with(first
  | ((with_reducible refine Au w rfl 26 (.tmp 0) rfl (cs) rfl ?_);intro a1 hb hbel hsz;have H1:=hJ2 hb hbel;clear hb hbel hsz)
  | ((with_reducible refine Au a1 rfl 31 (.tmp 1) rfl (opC p tco) rfl ?_);intro a2 hb hbel hsz;have H2:=hJ3 (H1.out.1.below hbel H1.out.1.lt) (An H1.out.2 hbel (Ah _)) hb;clear hb hbel hsz)
  | ((with_reducible refine Av a2 rfl 26 rfl ([(.slice none 0 0),(.slice none 0 0),(.slice none 0 0)]) Tryz.zeroId3b ?_);intro a3 hb hbel hsz;have H3:=hJ4 (H2.out.1.below hbel H2.out.1.lt) (An H2.out.2.1 hbel (Ah _)) (H2.out.2.2.below hbel H2.out.2.2.lt) hb;clear hb hbel hsz)
  | ((with_reducible refine Av a3 rfl 37 rfl (AC 0 0 0 (tmC 0 0 0 ⟨#[]⟩ (.slice none 0 0))) Tryz.zeroRs ?_);intro a4 hb hbel hsz;have H4:=hJ5 (H3.out.1.below hbel H3.out.1.lt) (An H3.out.2.1 hbel (Ah _)) (H3.out.2.2.1.below hbel H3.out.2.2.1.lt) (H3.out.2.2.2.below hbel H3.out.2.2.2.lt) hb;have HG:=hJ4 H1.out.1.lt H2.out.2.2.lt H3.out.2.2.2.lt hb.lt;clear hb hbel hsz))
 try simp only[Al,Ad,Ae,Af]
 clear H1 H2 H3
 go_wp2_with (first
  | (with_reducible refine Ap rfl 26 (.tmp 2) rfl (w.heap.size) 0 rfl (cs) _ (As H4.out.1) Tryz.underlying26 rfl (At Tryz.infoId HID.out.2.1) ?_)
  | (with_reducible refine Ap rfl 31 (.tmp 3) rfl (a1.heap.size) 0 rfl (opC p tco) _ (As H4.out.2.2.1) Tryz.underlying31 rfl (Bp HTL.out) ?_)
  | ((with_reducible refine FW a4 rfl (.tmp 12) rfl (opC p tco) HOL.out rfl ?_);intro a5 hb hbel hsz;have H5:=hJ6 (H4.out.1.below hbel H4.out.1.lt) (An H4.out.2.1 hbel (Ah _)) (H4.out.2.2.1.below hbel H4.out.2.2.1.lt) (H4.out.2.2.2.1.below hbel H4.out.2.2.2.1.lt) (H4.out.2.2.2.2.below hbel H4.out.2.2.2.2.lt) hb;clear hb hbel hsz))
 have HRUN:=Ag (JG Cv s cs [p] (.slice (some ⟨a4.heap.size,0,none⟩) 1 1) (Lo ys w) (a3.heap.size::a2.heap.size::ys) a5 (HID.out.1.below H5.out.2.1) (fun k hk e=> by
  have h1:=HG.out
  have h2:=hk.2
  rcases List.mem_cons.1 e with e|e
  ·omega
  rcases List.mem_cons.1 e with e|e
  ·omega
  ·exact hk.1 e) (fun k e=> by
  have h1:=HG.out
  have h3:=H5.out.2.2.2.2.1.lt
  have h4:=H5.out.2.1.size
  rcases List.mem_cons.1 e with e|e
  ·omega
  rcases List.mem_cons.1 e with e|e
  ·omega
  ·have:=HY.out k e;omega) HL.out (fun _=> True) (RwC.of_one H5.out.2.2.2.2.2 trivial HOL.out ⟨tco,rfl,HT.out.below H5.out.2.1⟩) (by show 1≤1000;omega))
 refine HRUN.out.mono ?_
 rintro e' b1 ⟨cs',vr,rfl,hid',hrw,hb⟩
 have H6:=hJ5 (H5.out.1.below hb H5.out.1.lt) (An H5.out.2.1 hb (Ah _)) (H5.out.2.2.1.below hb H5.out.2.2.1.lt) (H5.out.2.2.2.1.below hb H5.out.2.2.2.1.lt) (H5.out.2.2.2.2.1.below hb H5.out.2.2.2.2.1.lt)
 have HB5:=Ag (show a4.heap.size≤b1.heap.size from Aj (Nat.le_of_lt H5.out.2.2.2.2.2.lt) hb.size)
 have HL1:=Ag hid'.len
 have HL1z:=Ag (show cs'.length=([(.slice none 0 0),(.slice none 0 0),(.slice none 0 0)]:List Value).length from HL1.out)
 have HO1:=Ag hid'.one
 have HID1:=Ag hid'
 have HRW:=Ag hrw
 clear hb hid' hrw HRUN H4 H5
 have HGS:=Ag (show a4.heap.size≤b1.heap.size from HB5.out)
 rcases HRM.out with⟨r,h1,h2,h3⟩|⟨er,h1,h2,h3⟩
 ·have HQ:=Ag (show(doM s p).1=R.1∧r=R.2.1∧0=R.2.2 from by rw[←HR.out];exact⟨rfl,h2.symm,h3.symm⟩)
  rw[h1] at HID1 HRW ⊢
  clear h1 h2 h3 HRM
  go_wp2_with (first
  | ((with_reducible refine Av b1 rfl 26 rfl ([(.slice none 0 0),(.slice none 0 0),(.slice none 0 0)]) Tryz.zeroId3b ?_);intro b2 hb hbel hsz;have H7:=hJ6 (H6.out.1.below hbel H6.out.1.lt) (An H6.out.2.1 hbel (Ah _)) (H6.out.2.2.1.below hbel H6.out.2.2.1.lt) (H6.out.2.2.2.1.below hbel H6.out.2.2.2.1.lt) (H6.out.2.2.2.2.below hbel H6.out.2.2.2.2.lt) hb;have HGB:=Ag (show b1.heap.size<b2.heap.size from hb.lt);have HBL:=Ag hbel;clear hb hbel hsz)
  | ((with_reducible refine Ao b2 rfl 26 (.tmp 7) (.tmp 15) rfl (b1.heap.size) 26 ([(.slice none 0 0),(.slice none 0 0),(.slice none 0 0)]) (cs') H7.out.2.2.2.2.2 rfl rfl HL1z.out (At Tryz.infoId HL1.out) HO1.out ?_);intro b3 hb hc hs;have H8:=hJ4 (H7.out.2.2.2.1.keep hc (fun e=> absurd (show _=_ from e) (by have:=HG.out;have:=HGS.out;omega))) (H7.out.2.2.2.2.1.keep hc (fun e=> absurd (show _=_ from e) (by have:=HG.out;have:=HGS.out;omega))) hb (Aw H7.out.2.1 hc (Ah _) (fun k hk=> by have e:=(show _=_ from hk);have:=HG.out;have:=HGS.out;omega));have HB3:=Ag (By HBL.out hc);clear hb hc hs))
  obtain⟨va,vcap,rfl,-⟩:=HRW.out.shape
  obtain⟨vb,vo,rc,rfl,hvb,-,hrl,hra,hrs⟩:=HRW.out.get (j:=0) (by show 0<1;omega)
  obtain⟨rtc,rfl,hrt⟩:=hrs
  have HVB:=Ag hvb
  have HRT:=Ag (Ai hrt.len hrt.one)
  have HR8:=Ag (show(AC r.e r.v r.u rtc).length=(AC 0 0 0 (tmC 0 0 0 ⟨#[]⟩ (.slice none 0 0))).length from by simp[AC,HRT.out.1,tmC])
  have HK:=Ag (show IdC (·∉(a3.heap.size::a2.heap.size::ys)) b3 cs' (doM s p).1∧TmC (·∉(a3.heap.size::a2.heap.size::ys)) b3 rtc r.b∧Blk b3 (a2.heap.size) 26 ([(.slice none 0 0),(.slice none 0 0),(.slice none 0 0)])∧Blk b3 (a3.heap.size) 37 (AC 0 0 0 (tmC 0 0 0 ⟨#[]⟩ (.slice none 0 0)))∧Below w.heap.size w b3∧b3.rangeAt (b1.heap.size) 0 cs'∧b3.rangeAt vb vo (AC r.e r.v r.u rtc) from⟨HID1.out.below HB3.out,TmC.below hrt HB3.out,H8.out.1,H8.out.2.1,H8.out.2.2.2,As H8.out.2.2.1,AD (by rw[Nat.zero_mul,Nat.add_zero] at hra;exact hra) HB3.out⟩)
  clear hvb hrl hra hrt H8 HID1 HRW H6 H7
  go_wp2_with fail
  refine Az (fun W=> W.rangeAt (b1.heap.size) 0 cs'∧W.rangeAt vb vo (AC r.e r.v r.u rtc)) [0,1,2,3] 3 (by kernel_rfl) rfl (by kernel_rfl) (by kernel_rfl) ⟨HK.out.2.2.2.2.2.1,HK.out.2.2.2.2.2.2⟩ ?_
  iterate 4(refine' AK.run ?_ ?_ ?_ ?_;rotate_left 2;(simp only[Aa,Ab,Ac];rfl);rfl;(rintro w' ⟨k0,k1⟩;first|exact AB rfl rfl k0 Tryz.underlying26 rfl (At Tryz.infoId HL1.out)|exact AB rfl rfl k1 Tryz.underlying37 rfl (Ax HRT.out.1)|(go_simp;with_reducible rfl));simp only[Al,Ad,Ae,Af])
  have sm:=(Sm.refl b3).drew
  have HV2:=hJ7 (HK.out.1.below (sm.below _)) (HK.out.2.1.below (sm.below _)) (HK.out.2.2.1.below (sm.below _) HK.out.2.2.1.lt) (HK.out.2.2.2.1.below (sm.below _) HK.out.2.2.2.1.lt) (An HK.out.2.2.2.2.1 (sm.below _) (Ah _)) (AD HK.out.2.2.2.2.2.1 (sm.below _)) (AD HK.out.2.2.2.2.2.2 (sm.below _))
  clear sm
  generalize b3.drew=v1 at HV2 ⊢
  refine' Ar 4 (by kernel_rfl) ?_ ?_;rotate_left;(simp only[Aa,Ab,Ac];rfl)
  try simp only[Al,Ad,Ae,Af]
  refine Ao v1 rfl 26 (.tmp 4) (.tmp 23) rfl (a2.heap.size) 26 ([(.slice none 0 0),(.slice none 0 0),(.slice none 0 0)]) (cs') HV2.out.2.2.1 rfl rfl HL1.out (At Tryz.infoId HL1.out) HO1.out ?_
  intro u3 hb hc hs
  have K4:=Ag (show IdC (·∉(a3.heap.size::a2.heap.size::ys)) u3 cs' (doM s p).1∧TmC (·∉(a3.heap.size::a2.heap.size::ys)) u3 rtc r.b∧Blk u3 (a2.heap.size) 26 (cs')∧Blk u3 (a3.heap.size) 37 (AC 0 0 0 (tmC 0 0 0 ⟨#[]⟩ (.slice none 0 0)))∧Below w.heap.size w u3∧u3.rangeAt (b1.heap.size) 0 cs'∧u3.rangeAt vb vo (AC r.e r.v r.u rtc) from⟨(HV2.out.1.keep' hc (fun k hk e=> hk (by have e:=(show _=_ from e);rw[e];simp)) (fun _ h=> h)),(HV2.out.2.1.keep hc (fun k hk e=> hk (by have e:=(show _=_ from e);rw[e];simp))),hb,HV2.out.2.2.2.1.keep hc (fun e=> absurd (show _=_ from e) (by have:=HG.out;omega)),(Aw HV2.out.2.2.2.2.1 hc (Ah _) (fun k hk=> by have e:=(show _=_ from hk);have:=HG.out;omega)),(BF HV2.out.2.2.2.2.2.1 hc (fun e=> absurd (show _=_ from e) (by have:=HG.out;have:=HGS.out;omega))),(BF HV2.out.2.2.2.2.2.2 hc (fun e=> HVB.out (by have e:=(show _=_ from e);rw[e];simp)))⟩)
  clear hb hc hs
  refine QK.normal ⟨⟨K4.out.2.2.2.2.2.1,K4.out.2.2.2.2.2.2⟩,?_⟩
  refine' Ar 5 (by kernel_rfl) ?_ ?_;rotate_left;(simp only[Aa,Ab,Ac];rfl)
  try simp only[Al,Ad,Ae,Af]
  refine Ao u3 rfl 37 (.tmp 5) (.tmp 26) rfl (a3.heap.size) 37 (AC 0 0 0 (tmC 0 0 0 ⟨#[]⟩ (.slice none 0 0))) (AC r.e r.v r.u rtc) K4.out.2.2.2.1 rfl rfl HR8.out (Ax HRT.out.1) (AM HRT.out.2) ?_
  intro u5 hb hc hs
  have K6:=Ag (show IdC (·∉(a3.heap.size::a2.heap.size::ys)) u5 cs' (doM s p).1∧TmC (·∉(a3.heap.size::a2.heap.size::ys)) u5 rtc r.b∧Blk u5 (a2.heap.size) 26 (cs')∧Blk u5 (a3.heap.size) 37 (AC r.e r.v r.u rtc)∧Below w.heap.size w u5∧u5.rangeAt (b1.heap.size) 0 cs'∧u5.rangeAt vb vo (AC r.e r.v r.u rtc) from⟨(K4.out.1.keep' hc (fun k hk e=> hk (by have e:=(show _=_ from e);rw[e];simp)) (fun _ h=> h)),(K4.out.2.1.keep hc (fun k hk e=> hk (by have e:=(show _=_ from e);rw[e];simp))),K4.out.2.2.1.keep hc (fun e=> absurd (show _=_ from e) (by have:=HG.out;omega)),hb,(Aw K4.out.2.2.2.2.1 hc (Ah _) (fun k hk=> by have e:=(show _=_ from hk);have:=HG.out;omega)),(BF K4.out.2.2.2.2.2.1 hc (fun e=> absurd (show _=_ from e) (by have:=HG.out;have:=HGS.out;omega))),(BF K4.out.2.2.2.2.2.2 hc (fun e=> HVB.out (by have e:=(show _=_ from e);rw[e];simp)))⟩)
  clear hb hc hs
  refine QK.normal ⟨⟨K6.out.2.2.2.2.2.1,K6.out.2.2.2.2.2.2⟩,?_⟩
  refine' Ar 6 (by kernel_rfl) ?_ ?_;rotate_left;(simp only[Aa,Ab,Ac];rfl)
  try simp only[Al,Ad,Ae,Af]
  go_wp2_with fail
  refine QK.normal ⟨⟨K6.out.2.2.2.2.2.1,K6.out.2.2.2.2.2.2⟩,?_⟩
  refine wpAnyH_done (by kernel_rfl) ?_ _
  refine NoPanic.normal ?_
  go_wp2_with fail
  refine bodyPost_ret (DC Tryz.results9 _ _ (a2.heap.size) _ _ rfl K6.out.2.2.1 _ Tryz.underlying26 rfl (At Tryz.infoId HL1.out) (a3.heap.size) _ _ rfl K6.out.2.2.2.1 _ Tryz.underlying37 rfl (Ax HRT.out.1) _ rfl) rfl ?_
  obtain⟨q1,q2,q3⟩:=HQ.out
  refine⟨cs',rtc,by rw[←q2,←q3];rfl,?_,?_,K6.out.2.2.2.2.1⟩
  ·rw[←q1]
   exact K6.out.1.keep' (Ch.refl (fun _=> False) _) (fun _ _ e=> e) (fun k hk e=> hk (List.mem_cons_of_mem _ (List.mem_cons_of_mem _ e)))
  ·rw[←q2]
   exact TmC.mono K6.out.2.1 (fun k hk e=> hk (List.mem_cons_of_mem _ (List.mem_cons_of_mem _ e)))
 ·have HQ:=Ag (show R=(ES,A1 0,er) from by rw[←HR.out];exact h2)
  rw[h1]
  have h3b:decide (er=0)=false:=decide_eq_false h3
  clear h1 h2 HRM HID1 HRW
  go_wp2_with (first
  | ((with_reducible refine Av b1 rfl 26 rfl ([(.slice none 0 0),(.slice none 0 0),(.slice none 0 0)]) Tryz.zeroId3b ?_);intro b2 hb hbel hsz;have H7:=hJ6 (H6.out.1.below hbel H6.out.1.lt) (An H6.out.2.1 hbel (Ah _)) (H6.out.2.2.1.below hbel H6.out.2.2.1.lt) (H6.out.2.2.2.1.below hbel H6.out.2.2.2.1.lt) (H6.out.2.2.2.2.below hbel H6.out.2.2.2.2.lt) hb;have HGB:=Ag (show b1.heap.size<b2.heap.size from hb.lt);have HBL:=Ag hbel;clear hb hbel hsz)
  | ((with_reducible refine Ao b2 rfl 26 (.tmp 7) (.tmp 15) rfl (b1.heap.size) 26 ([(.slice none 0 0),(.slice none 0 0),(.slice none 0 0)]) (cs') H7.out.2.2.2.2.2 rfl rfl HL1z.out (At Tryz.infoId HL1.out) HO1.out ?_);intro b3 hb hc hs;have H8:=hJ4 (H7.out.2.2.2.1.keep hc (fun e=> absurd (show _=_ from e) (by have:=HG.out;have:=HGS.out;omega))) (H7.out.2.2.2.2.1.keep hc (fun e=> absurd (show _=_ from e) (by have:=HG.out;have:=HGS.out;omega))) hb (Aw H7.out.2.1 hc (Ah _) (fun k hk=> by have e:=(show _=_ from hk);have:=HG.out;have:=HGS.out;omega));have HB3:=Ag (By HBL.out hc);clear hb hc hs)
  | (with_reducible refine Cb rfl rfl ?_)
  | (with_reducible refine Ba rfl rfl ?_)
  | ((with_reducible refine Ao b3 rfl 26 (.tmp 4) (.tmp 20) rfl (a2.heap.size) 26 ([(.slice none 0 0),(.slice none 0 0),(.slice none 0 0)]) ([(.slice none 0 0),(.slice none 0 0),(.slice none 0 0)]) H8.out.1 rfl rfl rfl (At Tryz.infoId rfl) Jn ?_);intro b4 hb hc hs;have H9:=hJ3 hb (H8.out.2.1.keep hc (fun e=> absurd (show _=_ from e) (by have:=HG.out;have:=HGS.out;omega))) (Aw H8.out.2.2.2 hc (Ah _) (fun k hk=> by have e:=(show _=_ from hk);have:=HG.out;omega));clear hb hc hs)
  | ((with_reducible refine Ao b4 rfl 37 (.tmp 5) (.tmp 21) rfl (a3.heap.size) 37 (AC 0 0 0 (tmC 0 0 0 ⟨#[]⟩ (.slice none 0 0))) (AC 0 0 0 (tmC 0 0 0 ⟨#[]⟩ (.slice none 0 0))) H9.out.2.1 rfl rfl rfl (Ax rfl) (AM (AR _ _ _ _ _ _ _)) ?_);intro b5 hb hc hs;have HX:=hJ3 (H9.out.1.keep hc (fun e=> absurd (show _=_ from e) (by have:=HG.out;have:=HGS.out;omega))) hb (Aw H9.out.2.2 hc (Ah _) (fun k hk=> by have e:=(show _=_ from hk);have:=HG.out;omega));clear hb hc hs))
  refine bodyPost_ret (DC Tryz.results9 _ _ (a2.heap.size) _ _ rfl HX.out.1 _ Tryz.underlying26 rfl (At Tryz.infoId rfl) (a3.heap.size) _ _ rfl HX.out.2.1 _ Tryz.underlying37 rfl (Ax rfl) _ rfl) rfl ?_
  rw[HQ.out]
  exact⟨[(.slice none 0 0),(.slice none 0 0),(.slice none 0 0)],tmC 0 0 0 ⟨#[]⟩ (.slice none 0 0),rfl,⟨_,_,_,rfl,RwC.nil _ _ _ _,RwC.nil _ _ _ _,RwC.nil _ _ _ _⟩,Bm _ _,HX.out.2.2⟩
def G9:FileM:=⟨⟨#[]⟩,⟨0,0,[],[],[]⟩,0,0,0,tm0⟩
def Dn (s:IdM) (nm:ByteArray):FileM × Bool:=if D0 s=true then (if (Bu s nm).2=true then ((s.fs[(Bu s nm).1]?).getD G9,true) else (G9,false)) else (G9,false)
def FindP (w:World) (r:FileM × Bool) (e:Ending) (w':World):Prop:=∃ cs,e=.returned (.tuple #[.agg cs.toArray,.bool r.2])∧FlC (w.heap.size≤·) w' cs r.1∧Below w.heap.size w w'
theorem F3 (F:Nat→Prop) (w:World):FlC F w (flC ⟨#[]⟩ 0 0 (.slice none 0 0) (.slice none 0 0) (.slice none 0 0) 0 0 0 (tmC 0 0 0 ⟨#[]⟩ (.slice none 0 0))) G9:=⟨(.slice none 0 0),(.slice none 0 0),(.slice none 0 0),tmC 0 0 0 ⟨#[]⟩ (.slice none 0 0),rfl,⟨SlI.nil _ _,SlI.nil _ _,SlI.nil _ _⟩,Bm _ _⟩
theorem Tryz.buildfl0:∀ w,(Instr.build 45 #[]).run Tryz.prog w=.ok (.agg (flC ⟨#[]⟩ 0 0 (.slice none 0 0) (.slice none 0 0) (.slice none 0 0) 0 0 0 (tmC 0 0 0 ⟨#[]⟩ (.slice none 0 0))).toArray) w:=fun w=> by kernel_rfl
theorem DD {ops:Array Oper} {rest:List Oper} {op:Oper} {a:Act} {w:World} {Q:Exit→Act→World→Prop} (hgd:op.guard=none) (ho:op.op=.build 45 #[])
  (h:wpList Tryz.prog ops Q rest (a.put op.dst (.agg (flC ⟨#[]⟩ 0 0 (.slice none 0 0) (.slice none 0 0) (.slice none 0 0) 0 0 0 (tmC 0 0 0 ⟨#[]⟩ (.slice none 0 0))).toArray)) w):wpList Tryz.prog ops Q (op::rest) a w:=by
 refine wpList_plain hgd fun K hK=> ?_
 have hrun:(execOp a.eval op).run Tryz.prog w=.ok (.value (.agg (flC ⟨#[]⟩ 0 0 (.slice none 0 0) (.slice none 0 0) (.slice none 0 0) 0 0 0 (tmC 0 0 0 ⟨#[]⟩ (.slice none 0 0))).toArray)) w:=by
  unfold execOp
  simp only[ho]
  simp[Tryz.buildfl0,Result.andThen]
 unfold Oper.wp
 rw[hrun]
 exact hK _ _ h
theorem Ha (s:IdM) (nm:ByteArray) (cs:List Value) (F:Nat→Prop) (w:World) (hs:IdC F w cs s) (hl:s.cs.length≤1000000000) (hl2:s.fs.length≤1000000000):Calls Tryz.prog 11 #[.agg cs.toArray,.string nm] w (FindP w (Dn s nm)):=by
 have h0:=hs
 obtain⟨vf,vc,vw,rfl,hf,-⟩:=hs
 have HID:=Ag h0
 obtain⟨fn,hfn⟩:∃ n,s.fs.length=n:=⟨_,rfl⟩
 have HN:=Ag hfn
 have hfl:fn≤1000000000:=by omega
 obtain⟨af,cf,rfl,hf1,hf2⟩:=hf.shape
 rw[hfn] at h0 HID ⊢
 clear h0
 have HCK:=Ag (fun (W:World) (hb:Below w.heap.size w W)=> C7 s [(.slice af fn cf),vc,vw] F W (HID.out.below hb) hl)
 obtain⟨⟨ix,th⟩,hsk⟩:∃ r,Bu s nm=r:=⟨_,rfl⟩
 have HSK:=Ag hsk
 have HF:=Ag (fun (W:World) (hb:Below w.heap.size w W)=> show Calls Tryz.prog 25 #[.agg ([(.slice af fn cf),vc,vw]:List Value).toArray,.string nm] W (fun e w'=> e=.returned (.tuple #[.int .i64 (ix:Nat),.bool th])∧Below W.heap.size W w') from by
  have h:=EN s nm [(.slice af fn cf),vc,vw] F W (HID.out.below hb) hl2
  rw[show AW (fun x=> BW x.nm nm) s.fs=(ix,th) from hsk] at h
  exact h)
 obtain⟨R,hR⟩:∃ R,Dn s nm=R:=⟨_,rfl⟩
 have HR:=Ag hR
 rw[hR]
 clear hsk hR hf1 hf2 hl hl2 hfn hf
 go_enter Tryz.func11,Tryz.ntmps11
 go_upto_region 1 with(first
  | ((with_reducible refine Au w rfl 26 (.tmp 0) rfl ([.slice af fn cf,vc,vw]) rfl ?_);intro a1 hb hbel hsz;have H1:=hJ2 hb hbel;clear hb hbel hsz)
  | ((with_reducible refine Av a1 rfl 45 rfl (flC ⟨#[]⟩ 0 0 (.slice none 0 0) (.slice none 0 0) (.slice none 0 0) 0 0 0 (tmC 0 0 0 ⟨#[]⟩ (.slice none 0 0))) Tryz.zeroFl14 ?_);intro a2 hb hbel hsz;have H2:=hJ3 (H1.out.1.below hbel H1.out.1.lt) (An H1.out.2 hbel (Ah _)) hb;have HG:=hJ2 H1.out.1.lt hb.lt;clear hb hbel hsz))
 try simp only[Al,Ad,Ae,Af]
 clear H1
 go_wp2_with (first
  | (with_reducible refine Ap rfl 26 (.tmp 2) rfl (w.heap.size) 0 rfl ([.slice af fn cf,vc,vw]) _ (As H2.out.1) Tryz.underlying26 rfl (At Tryz.infoId rfl) ?_))
 refine(HF.out a2 H2.out.2.1).mono ?_
 rintro e' b1 ⟨rfl,hb⟩
 have H3:=hJ3 (H2.out.1.below hb H2.out.1.lt) (An H2.out.2.1 hb (Ah _)) (H2.out.2.2.below hb H2.out.2.2.lt)
 clear hb H2
 by_cases hk:D0 s=true
 ·have HKP:=Ag (Dj.1 hk)
  have HC0:=Ag (show Calls Tryz.prog 16 #[.agg ([(.slice af fn cf),vc,vw]:List Value).toArray] b1 (fun e w'=> e=.returned (.int .i64 0)∧Below b1.heap.size b1 w') from by have h:=HCK.out b1 H3.out.2.1;rw[if_pos hk] at h;exact h)
  cases th
  ·have HQ:=Ag (show R=(G9,false) from by rw[←HR.out];unfold Dn;rw[if_pos hk,HSK.out];rfl)
   clear hk HCK
   go_wp2_with (first
  | (with_reducible refine Ap rfl 26 (.tmp 2) rfl (w.heap.size) 0 rfl ([.slice af fn cf,vc,vw]) _ (As H3.out.1) Tryz.underlying26 rfl (At Tryz.infoId rfl) ?_))
   refine HC0.out.mono ?_
   rintro e' b2 ⟨rfl,hb⟩
   have H4:=hJ3 (H3.out.1.below hb H3.out.1.lt) (An H3.out.2.1 hb (Ah _)) (H3.out.2.2.below hb H3.out.2.2.lt)
   clear hb
   go_wp2_with (first
  | (with_reducible refine DD rfl rfl ?_)
  | ((with_reducible refine Ao b2 rfl 45 (.tmp 4) (.tmp 21) rfl (a1.heap.size) 45 (flC ⟨#[]⟩ 0 0 (.slice none 0 0) (.slice none 0 0) (.slice none 0 0) 0 0 0 (tmC 0 0 0 ⟨#[]⟩ (.slice none 0 0))) (flC ⟨#[]⟩ 0 0 (.slice none 0 0) (.slice none 0 0) (.slice none 0 0) 0 0 0 (tmC 0 0 0 ⟨#[]⟩ (.slice none 0 0))) H4.out.2.2 rfl rfl rfl (At Tryz.infoFl rfl) (F3 (fun _=> True) w).one ?_);intro z2 hb hc hs;have HX:=Ag (Ai hb (Aw H4.out.2.1 hc (Ah _) (fun k hk=> by have e:=(show _=_ from hk);have:=HG.out;omega)));clear hb hc hs))
   refine bodyPost_ret (CP Tryz.results11 _ _ (a1.heap.size) _ _ rfl HX.out.1 _ Tryz.underlying45 rfl (At Tryz.infoFl rfl) _ rfl) rfl ?_
   rw[HQ.out]
   exact⟨flC ⟨#[]⟩ 0 0 (.slice none 0 0) (.slice none 0 0) (.slice none 0 0) 0 0 0 (tmC 0 0 0 ⟨#[]⟩ (.slice none 0 0)),rfl,F3 _ _,HX.out.2⟩
  ·have hix:ix<s.fs.length:=by
    have h:=(DM (c:=fun x:FileM=> BW x.nm nm) (l:=s.fs) (by rw[show AW (fun x:FileM=> BW x.nm nm) s.fs=(ix,true) from HSK.out])).1
    rw[show AW (fun x:FileM=> BW x.nm nm) s.fs=(ix,true) from HSK.out] at h
    exact h
   obtain⟨_,_,_,e0,hf,-⟩:=id HID.out
   simp only[List.cons.injEq,and_true] at e0
   obtain⟨rfl,rfl,rfl⟩:=e0
   obtain⟨fb,fo,fcs,rfl,-,-,hlen,hra,hfc⟩:=hf.get hix
   have HQ:=Ag (show R=(s.fs[ix],true) from by rw[←HR.out];unfold Dn;rw[if_pos hk,HSK.out];simp[List.getElem?_eq_getElem hix])
   have HFW:=Ag (HKP.out.few.1 s.fs[ix] (List.getElem_mem hix))
   generalize s.fs[ix]=f at hfc HQ HFW
   have HFC:=Ag hfc
   have HFI:=Ag (At Tryz.infoFl hlen)
   have HRA:=Ag hra
   have hixz:(ix:Int)<(fn:Int):=by have:=HN.out;omega
   have hix0:(0:Int)≤(ix:Int):=by omega
   clear hk HCK hf hra hfc hlen hix HF
   go_wp2_with (first
  | (with_reducible refine Ap rfl 26 (.tmp 2) rfl (w.heap.size) 0 rfl ([.slice (some ⟨fb,fo,none⟩) fn cf,vc,vw]) _ (As H3.out.1) Tryz.underlying26 rfl (At Tryz.infoId rfl) ?_))
   refine HC0.out.mono ?_
   rintro e' b2 ⟨rfl,hb⟩
   have H4:=hJ3 (H3.out.1.below hb H3.out.1.lt) (An H3.out.2.1 hb (Ah _)) (H3.out.2.2.below hb H3.out.2.2.lt)
   have HRB:=Ag (show b2.rangeAt fb (fo+ix* 14) fcs from fun i u hu=> (H3.out.2.1 |> fun hb0=> (An hb0 hb (Ah _)).cell (Am (HRA.out i u hu))).trans (HRA.out i u hu))
   have c0:=H4.out.1.cell 0
   simp only[Ab,Ac] at c0
   clear hb
   go_wp2_with (first
  | (with_reducible refine Ap rfl 45 (.tmp 25) rfl fb (fo+ix* 14) rfl fcs _ HRB.out Tryz.underlying45 rfl HFI.out ?_))
   refine(G1 f fcs F b2 (HFC.out.below H4.out.2.1) HFW.out.1 HFW.out.2).mono ?_
   rintro e' b3 ⟨ncs,rfl,hnew,hb⟩
   have H5:=hJ2 (H4.out.2.2.below hb H4.out.2.2.lt) (An H4.out.2.1 hb (Ah _))
   have HNL:=Ag (show ncs.length=(flC ⟨#[]⟩ 0 0 (.slice none 0 0) (.slice none 0 0) (.slice none 0 0) 0 0 0 (tmC 0 0 0 ⟨#[]⟩ (.slice none 0 0))).length from hnew.len)
   have HNI:=Ag (At Tryz.infoFl hnew.len)
   have HN1:=Ag hnew.one
   have HNW:=Ag hnew
   have HGB:=Ag (show a1.heap.size<b2.heap.size from H4.out.2.2.lt)
   clear hnew hb c0
   go_wp2_with (first
  | ((with_reducible refine Ao b3 rfl 45 (.tmp 4) (.tmp 27) rfl (a1.heap.size) 45 (flC ⟨#[]⟩ 0 0 (.slice none 0 0) (.slice none 0 0) (.slice none 0 0) 0 0 0 (tmC 0 0 0 ⟨#[]⟩ (.slice none 0 0))) (ncs) H5.out.1 rfl rfl HNL.out HNI.out HN1.out ?_);intro z2 hb hc hs;have HX:=Ag (Ai hb (Ai hc (Aw H5.out.2 hc (Ah _) (fun k hk=> by have e:=(show _=_ from hk);have:=HG.out;omega))));clear hb hc hs))
   refine bodyPost_ret (CP Tryz.results11 _ _ (a1.heap.size) _ _ rfl HX.out.1 _ Tryz.underlying45 rfl HNI.out _ rfl) rfl ?_
   rw[HQ.out]
   exact⟨ncs,rfl,HNW.out.keep' HX.out.2.1 (fun k hk e=> by have e:=(show _=_ from e);have hk:b2.heap.size≤k:=hk;have:=HGB.out;omega) (fun k hk=> by have hk:b2.heap.size≤k:=hk;have:=H4.out.2.1.size;omega),HX.out.2.2⟩
 ·have HQ:=Ag (show R=(G9,false) from by rw[←HR.out];unfold Dn;rw[if_neg hk])
  have HC0:=Ag (show Calls Tryz.prog 16 #[.agg ([(.slice af fn cf),vc,vw]:List Value).toArray] b1 (fun e w'=> e=.returned (.int .i64 282)∧Below b1.heap.size b1 w') from by have h:=HCK.out b1 H3.out.2.1;rw[if_neg hk] at h;exact h)
  clear hk HCK
  go_wp2_with (first
  | (with_reducible refine Ap rfl 26 (.tmp 2) rfl (w.heap.size) 0 rfl ([.slice af fn cf,vc,vw]) _ (As H3.out.1) Tryz.underlying26 rfl (At Tryz.infoId rfl) ?_))
  refine HC0.out.mono ?_
  rintro e' b2 ⟨rfl,hb⟩
  have H4:=hJ3 (H3.out.1.below hb H3.out.1.lt) (An H3.out.2.1 hb (Ah _)) (H3.out.2.2.below hb H3.out.2.2.lt)
  clear hb
  go_wp2_with (first
  | (with_reducible refine DD rfl rfl ?_)
  | ((with_reducible refine Ao b2 rfl 45 (.tmp 4) (.tmp 21) rfl (a1.heap.size) 45 (flC ⟨#[]⟩ 0 0 (.slice none 0 0) (.slice none 0 0) (.slice none 0 0) 0 0 0 (tmC 0 0 0 ⟨#[]⟩ (.slice none 0 0))) (flC ⟨#[]⟩ 0 0 (.slice none 0 0) (.slice none 0 0) (.slice none 0 0) 0 0 0 (tmC 0 0 0 ⟨#[]⟩ (.slice none 0 0))) H4.out.2.2 rfl rfl rfl (At Tryz.infoFl rfl) (F3 (fun _=> True) w).one ?_);intro z2 hb hc hs;have HX:=Ag (Ai hb (Aw H4.out.2.1 hc (Ah _) (fun k hk=> by have e:=(show _=_ from hk);have:=HG.out;omega)));clear hb hc hs))
  refine bodyPost_ret (CP Tryz.results11 _ _ (a1.heap.size) _ _ rfl HX.out.1 _ Tryz.underlying45 rfl (At Tryz.infoFl rfl) _ rfl) rfl ?_
  rw[HQ.out]
  exact⟨flC ⟨#[]⟩ 0 0 (.slice none 0 0) (.slice none 0 0) (.slice none 0 0) 0 0 0 (tmC 0 0 0 ⟨#[]⟩ (.slice none 0 0)),rfl,F3 _ _,HX.out.2⟩
def rdL (p:PmD) (bs:List (Int × Int)):Nat→Int→List Int
 | 0,_=> []
 | n+1,u=> if Fv p u bs=true then u::rdL p bs n (u+1) else rdL p bs n (u+1)
def ET (s:IdM) (nm:ByteArray):List Int:=if (Dn s nm).2=true then rdL (Dn s nm).1.p (CQ s.cs) 6 1 else []
def EU (_:World) (cs:List Value) (u:Int):Prop:=cs=[.int .i64 u]
theorem OwR.ints {B:Nat} {w:World} {v:Value} {l:List Int} (h:OwR EU 1 3 B w v l):w.ownsRow B 3 1 v l.length (ofK .i64 l):=by
 obtain⟨css,h1,h2,h3⟩:=h
 have e:css.flatten=ofK .i64 l:=by
  have h5:=B1 h2 h3
  apply List.ext_getElem?
  intro i
  by_cases hi:i<l.length
  ·have hf:=CX h5 (show i<css.length by omega) (show 0<1 by omega)
   rw[Nat.mul_one,Nat.add_zero] at hf
   have h4:=(h3 i (by omega) hi).2
   unfold EU at h4
   rw[hf,h4]
   simp[ofK,List.getElem?_eq_getElem hi]
  ·rw[List.getElem?_eq_none (by rw[BA h5];omega),List.getElem?_eq_none (by rw[AJ];omega)]
 rw[←e];exact h1
theorem FX {w:World} {ops:Array Oper} {rest:List Oper} {o:Oper} {a:Act} {Q:Exit→Act→World→Prop} (hgd:o.guard=none) (s x':Operand)
  (ho:o.op=.call {callee:=.builtin .append,args:=#[s,x'],argTypes:=#[40,40]}) {B:Nat} {v:Value} {l:List Int} (hI:OwR EU 1 3 B w v l) (hs:a.eval s=v) {b:Nat} {u:Int} (hx:a.eval x'=.slice (some ⟨b,0,none⟩) 1 1) (hb:Blk w b 3 [.int .i64 u]) (hn:l.length≤1000000) (hB:B≤w.heap.size)
  (h:∀ ao c w',OwR EU 1 3 B w' (.slice ao (l.length+1) c) (l ++ [u])→Ch (fun k=> v.ownBlock=some k) w w'→wpList Tryz.prog ops Q rest (a.put o.dst (.slice ao (l.length+1) c)) w'):
  wpList Tryz.prog ops Q (o::rest) a w:=by
 obtain⟨i0,hi0,hz0,hz1,hz2⟩:=info_parts Tryz.infoI
 exact Bv hgd s x' 40 ho Tryz.underlying40 i0 _ 8 hi0 hz0 hz1 hz2 rfl (by omega) (C:=EU) (C':=EU) hI hs (r:=[u]) (F:=fun _=> True) hx (RwC.of_one hb trivial rfl rfl) (fun cs a _ h u hu=> by unfold EU at h;subst h;simp only[List.mem_cons,List.not_mem_nil,or_false] at hu;subst hu;rfl) (l.length+1) (by simp) (by omega) (by omega) hB (fun _ _ _ _ _ h=> h) (fun ao c w' h1 h2 _=> h ao c w' h1 h2)
theorem Blk.mid {w:World} {g:Nat} {ty:TypeId} {A B C:List Value} {n:Nat} (h:Blk w g ty (A ++ (B ++ C))) (hn:A.length=n):w.rangeAt g n B:=fun j x hx=> by
 have hj:=(List.getElem?_eq_some_iff.1 hx).1
 rw[h.cell,List.getElem?_append_right (by omega),show n+j - A.length=j by omega,List.getElem?_append_left hj]
 exact hx
theorem BQ {w:World} {g:Nat} {ty:TypeId} {nm:ByteArray} {o pe:Int} {vr vq vg:Value} {v e u:Int} {tc:List Value} (h:Blk w g ty (flC nm o pe vr vq vg v e u tc)):w.rangeAt g 1 (pmC o pe vr vq vg):=
 Blk.mid (A:=[.string nm]) (B:=pmC o pe vr vq vg) (C:=[.int .i64 v,.int .i64 e,.int .i64 u] ++ tc) (by simpa [flC,pmC] using h) rfl
theorem Iw (s:IdM) (nm:ByteArray) (cs:List Value) (F:Nat→Prop) (w:World) (hs:IdC F w cs s) (hl:s.cs.length≤1000000000) (hl2:s.fs.length≤1000000000):
  Calls Tryz.prog 10 #[.agg cs.toArray,.string nm] w (fun e w'=> ∃ v,e=.returned v∧SlI (w.heap.size≤·) w' v (ET s nm)∧Below w.heap.size w w'):=by
 have HID:=Ag (Ai hs (Ai hs.len hs.one))
 have HBM:=Ag (show(Dn s nm).2=true→(CQ s.cs).length≤1000000 from fun h=> by
  unfold Dn at h
  by_cases hk:D0 s=true
  ·exact(Dj.1 hk).bel
  ·rw[if_neg hk] at h;cases h)
 have HFN:=Ag (fun (W:World) (hb:Below w.heap.size w W)=> Ha s nm cs F W (HID.out.1.below hb) hl hl2)
 obtain⟨R,hR⟩:∃ R,ET s nm=R:=⟨_,rfl⟩
 have HR:=Ag hR
 rw[hR]
 obtain⟨bs,hbs⟩:∃ b,CQ s.cs=b:=⟨_,rfl⟩
 have HBS:=Ag hbs
 rw[hbs] at HBM
 clear hs hl hl2 hR hbs
 go_enter Tryz.func10,Tryz.ntmps10
 go_upto_region 1 with(first
  | ((with_reducible refine Au w rfl 26 (.tmp 0) rfl (cs) rfl ?_);intro a1 hb hbel hsz;have H1:=hJ2 hb hbel;have HG0:=Ag hb.lt;clear hb hbel hsz))
 try simp only[Al,Ad,Ae,Af]
 go_wp2_with (first
  | (with_reducible refine Ap rfl 26 (.tmp 2) rfl (w.heap.size) 0 rfl (cs) _ (As H1.out.1) Tryz.underlying26 rfl (At Tryz.infoId HID.out.2.1) ?_))
 refine(HFN.out a1 H1.out.2).mono ?_
 rintro e' b1 ⟨fcs,rfl,hfc,hb⟩
 unfold ET at HR
 generalize Dn s nm=fr at HR HBM hfc
 obtain⟨f,th⟩:=fr
 have HFL:=Ag (show fcs.length=(flC ⟨#[]⟩ 0 0 (.slice none 0 0) (.slice none 0 0) (.slice none 0 0) 0 0 0 (tmC 0 0 0 ⟨#[]⟩ (.slice none 0 0))).length from hfc.len)
 have HFI:=Ag (At Tryz.infoFl hfc.len)
 have HF1:=Ag hfc.one
 have H2:=hJ2 (H1.out.1.below hb H1.out.1.lt) (An H1.out.2 hb (Ah _))
 have HFC:=Ag hfc
 have HG:=Ag (show w.heap.size<b1.heap.size from Ak HG0.out hb.size)
 clear hb hfc H1
 go_upto_region 2 with(first
  | ((with_reducible refine Av b1 rfl 45 rfl (flC ⟨#[]⟩ 0 0 (.slice none 0 0) (.slice none 0 0) (.slice none 0 0) 0 0 0 (tmC 0 0 0 ⟨#[]⟩ (.slice none 0 0))) Tryz.zeroFl14 ?_);intro b2 hb hbel hsz;have HA:=hJ3 (H2.out.1.below hbel H2.out.1.lt) (An H2.out.2 hbel (Ah _)) hb;have HBL:=Ag (Ai hbel hb.lt);clear hb hbel hsz)
  | ((with_reducible refine Ao b2 rfl 45 (.tmp 5) (.tmp 13) rfl (b1.heap.size) 45 (flC ⟨#[]⟩ 0 0 (.slice none 0 0) (.slice none 0 0) (.slice none 0 0) 0 0 0 (tmC 0 0 0 ⟨#[]⟩ (.slice none 0 0))) (fcs) HA.out.2.2 rfl rfl HFL.out HFI.out HF1.out ?_);intro b3 hb hc hs;have H3:=hJ3 (HA.out.1.keep hc (fun e=> absurd (show _=_ from e) (by have:=HG.out;omega))) hb (Aw HA.out.2.1 hc (Ah _) (fun k hk=> by have e:=(show _=_ from hk);have:=HG.out;omega));have HB3:=Ag (Ai (By HBL.out.1 hc) (Ak HBL.out.2 hc.size));clear hb hc hs))
 try simp only[Al,Ad,Ae,Af]
 have hfc3:=(HFC.out.below HB3.out.1).old'
 obtain⟨vr,vq,vg,tc,hfe,hpf,-⟩:=hfc3
 subst hfe
 have HPF:=Ag (show PmF (·<b3.heap.size) b3 f.p vr vq vg from hpf.keep' (Ch.refl (fun _=> False) _) (fun _ _ e=> e) (fun k hk=> hk.2))
 have H0:=Ag (show Blk b3 (w.heap.size) 26 (cs)∧Blk b3 (b1.heap.size) 45 (flC f.nm f.p.o f.p.e vr vq vg f.v f.e f.u tc)∧PmF (·<b3.heap.size) b3 f.p vr vq vg∧OwR EU 1 3 b3.heap.size b3 (.slice none 0 0) ([])∧b3.heap.size≤b3.heap.size∧Below w.heap.size w b3 from⟨H3.out.1,H3.out.2.1,HPF.out,OwR.nil,Ah _,H3.out.2.2⟩)
 have HG3:=Ag HB3.out.2
 clear hpf HA H3 HBL HFC HFL HFI HF1 HPF H2
 obtain⟨rf,hrf⟩:∃ rf:Nat→Int→List Int,(fun n u=> if th=true then rdL f.p bs n u else [])=rf:=⟨_,rfl⟩
 have HRF:=Ag hrf
 have HR0:=Ag (show rf 6 1=R from by rw[←HR.out,←hrf,HBS.out])
 clear hrf HR
 go_wp2_with fail
 go_loopw [7,8] (fun s7 s8 wr=> ∃ (k:Nat) (l:List Int) (oz:Option Addr) (pz:Nat),s8=.int .i64 (k+1)∧k≤6∧s7=.slice oz l.length pz∧Hid (l ++ rf (6 - k) (k+1)=R∧l.length≤k)∧Hid (Blk wr (w.heap.size) 26 (cs)∧Blk wr (b1.heap.size) 45 (flC f.nm f.p.o f.p.e vr vq vg f.v f.e f.u tc)∧PmF (·<b3.heap.size) wr f.p vr vq vg∧OwR EU 1 3 b3.heap.size wr (.slice oz l.length pz) (l)∧b3.heap.size≤wr.heap.size∧Below w.heap.size w wr)) (fun _ s8 _=> 7 - (intOf s8).toNat)
 case atStart=> exact⟨0,[],none,0,rfl,Nat.zero_le _,rfl,Ag ⟨by rw[List.nil_append];exact HR0.out,Ah _⟩,H0⟩
 case round=>
  clear H0 HR0
  obtain⟨k,l,oz,pz,rfl,hk,rfl,HT,HO⟩:=hrel
  cases th
  ·have HE:=Ag (show l=R from by rw[←HT.out.1,←HRF.out];simp)
   go_wp2_with fail
   go_ret
   exact⟨_,rfl,⟨by rw[←HE.out];exact Sl.of_owns HO.out.2.2.2.1.ints,fun j _ hj=> by have h1:=(HO.out.2.2.2.1.lt j hj).1;have h2:=HG.out;have h3:=HG3.out;show w.heap.size≤j;omega⟩,HO.out.2.2.2.2.2⟩
  ·by_cases hlt:k<6
   ·have hkz:(k:Int)+1≤6:=by omega
    obtain⟨mr,hmr⟩:∃ b,Fv f.p (k+1) bs=b:=⟨_,rfl⟩
    have HMR:=Ag hmr
    have HRS:=Ag (show rf (6 - k) (k+1)=(if mr=true then ((k:Int)+1)::rf (6 - (k+1)) (k+1+1) else rf (6 - (k+1)) (k+1+1)) from by
     rw[←HRF.out,show 6 - k=(6 - (k+1))+1 by omega,←hmr]
     simp only[if_true]
     rw[rdL])
    have HBC:=Ag (fun (W:World) (hb:Below w.heap.size w W)=> show Calls Tryz.prog 24 #[.agg cs.toArray] W (fun e w'=> ∃ v,e=.returned v∧SlP w' v .i64 .i64 bs∧Below W.heap.size W w') from by
     have h:=FA s cs F W (HID.out.1.below hb) (by rw[HBS.out];exact HBM.out rfl)
     rw[HBS.out] at h
     exact h)
    clear hmr
    go_wp2_with fail
    refine Az (fun W=> W.rangeAt (b1.heap.size) 1 (pmC f.p.o f.p.e vr vq vg)∧W.rangeAt (w.heap.size) 0 cs) [0,1,2,3] 2 (by kernel_rfl) rfl (by kernel_rfl) (by kernel_rfl) ⟨BQ HO.out.2.1,As HO.out.1⟩ ?_
    iterate 4(refine' AK.run ?_ ?_ ?_ ?_;rotate_left 2;(simp only[Aa,Ab,Ac];rfl);rfl;(rintro w' ⟨k0,k1⟩;first|exact AB rfl rfl k0 Tryz.underlying43 rfl (At Tryz.infoPm rfl)|exact AB rfl rfl k1 Tryz.underlying26 rfl (At Tryz.infoId HID.out.2.1)|(go_simp;with_reducible rfl));simp only[Al,Ad,Ae,Af])
    have sm:=(Sm.refl wr).drew
    have HV2:=Ag (show Blk wr.drew (w.heap.size) 26 (cs)∧Blk wr.drew (b1.heap.size) 45 (flC f.nm f.p.o f.p.e vr vq vg f.v f.e f.u tc)∧PmF (·<b3.heap.size) wr.drew f.p vr vq vg∧OwR EU 1 3 b3.heap.size wr.drew (.slice oz l.length pz) (l)∧b3.heap.size≤wr.drew.heap.size∧Below w.heap.size w wr.drew from⟨HO.out.1.below (sm.below _) HO.out.1.lt,HO.out.2.1.below (sm.below _) HO.out.2.1.lt,(HO.out.2.2.1.below (sm.below _)),(HO.out.2.2.2.1.keep' (Ch.of_below (S:=fun _=> False) (sm.below _) (Ah _)) (fun _ _ e=> e) (fun _ _ _ h=> h)),(Aj HO.out.2.2.2.2.1 (sm.below 0).size),(An HO.out.2.2.2.2.2 (sm.below _) (Ah _))⟩)
    clear sm
    generalize wr.drew=v1 at HV2 ⊢
    refine' Ar 4 (by kernel_rfl) ?_ ?_;rotate_left;(simp only[Aa,Ab,Ac];rfl)
    try simp only[Al,Ad,Ae,Af]
    go_wp2_with fail
    refine(HBC.out v1 HV2.out.2.2.2.2.2).mono ?_
    rintro e' u3 ⟨vm,rfl,hvm,hb⟩
    have K4:=Ag (show Blk u3 (w.heap.size) 26 (cs)∧Blk u3 (b1.heap.size) 45 (flC f.nm f.p.o f.p.e vr vq vg f.v f.e f.u tc)∧PmF (·<b3.heap.size) u3 f.p vr vq vg∧OwR EU 1 3 b3.heap.size u3 (.slice oz l.length pz) (l)∧b3.heap.size≤u3.heap.size∧Below w.heap.size w u3∧SlP u3 vm .i64 .i64 bs from⟨HV2.out.1.below hb HV2.out.1.lt,HV2.out.2.1.below hb HV2.out.2.1.lt,(HV2.out.2.2.1.below hb),(HV2.out.2.2.2.1.keep' (Ch.of_below (S:=fun _=> False) hb (Ah _)) (fun _ _ e=> e) (fun _ _ _ h=> h)),(Aj HV2.out.2.2.2.2.1 hb.size),(An HV2.out.2.2.2.2.2 hb (Ah _)),hvm⟩)
    clear hvm hb
    go_wp2_with fail
    refine QK.normal ⟨⟨BQ K4.out.2.1,As K4.out.1⟩,?_⟩
    refine' Ar 5 (by kernel_rfl) ?_ ?_;rotate_left;(simp only[Aa,Ab,Ac];rfl)
    try simp only[Al,Ad,Ae,Af]
    go_wp2_with fail
    refine(Fw f.p (k+1) bs vr vq vg vm u3 K4.out.2.2.1.s K4.out.2.2.2.2.2.2).mono ?_
    rintro e' u5 ⟨rfl,hb⟩
    rw[HMR.out]
    have K6:=Ag (show Blk u5 (w.heap.size) 26 (cs)∧Blk u5 (b1.heap.size) 45 (flC f.nm f.p.o f.p.e vr vq vg f.v f.e f.u tc)∧PmF (·<b3.heap.size) u5 f.p vr vq vg∧OwR EU 1 3 b3.heap.size u5 (.slice oz l.length pz) (l)∧b3.heap.size≤u5.heap.size∧Below w.heap.size w u5∧SlP u5 vm .i64 .i64 bs from⟨K4.out.1.below hb K4.out.1.lt,K4.out.2.1.below hb K4.out.2.1.lt,(K4.out.2.2.1.below hb),(K4.out.2.2.2.1.keep' (Ch.of_below (S:=fun _=> False) hb (Ah _)) (fun _ _ e=> e) (fun _ _ _ h=> h)),(Aj K4.out.2.2.2.2.1 hb.size),(An K4.out.2.2.2.2.2.1 hb (Ah _)),(K4.out.2.2.2.2.2.2.below hb)⟩)
    clear hb
    go_wp2_with fail
    refine QK.normal ⟨⟨BQ K6.out.2.1,As K6.out.1⟩,?_⟩
    refine wpAnyH_done (by kernel_rfl) ?_ _
    refine NoPanic.normal ?_
    cases mr
    ·have HT2:=Ag (show l ++ rf (6 - (k+1)) (k+1+1)=R from by rw[←HT.out.1,HRS.out,if_neg (by simp)])
     go_wp2_with fail
     go_roundw
     case measure=> simp[intOf];omega
     case rel=> exact⟨k+1,l,oz,pz,by go_num,by omega,rfl,Ag ⟨by rw[←HT2.out];simp,by have:=HT.out.2;omega⟩,Ag ⟨K6.out.1,K6.out.2.1,K6.out.2.2.1,K6.out.2.2.2.1,K6.out.2.2.2.2.1,K6.out.2.2.2.2.2.1⟩⟩
    ·have HT2:=Ag (show(l ++ [((k:Int)+1)]) ++ rf (6 - (k+1)) (k+1+1)=R from by rw[←HT.out.1,HRS.out,if_pos rfl];simp)
     go_wp2_with (first
  | ((with_reducible refine CM u5 rfl (.tmp 29) rfl rfl ?_);intro z2 hb hbel hsz;have HZ2:=Ag (show Blk z2 (w.heap.size) 26 (cs)∧Blk z2 (b1.heap.size) 45 (flC f.nm f.p.o f.p.e vr vq vg f.v f.e f.u tc)∧PmF (·<b3.heap.size) z2 f.p vr vq vg∧OwR EU 1 3 b3.heap.size z2 (.slice oz l.length pz) (l)∧b3.heap.size≤z2.heap.size∧Below w.heap.size w z2∧SlP z2 vm .i64 .i64 bs∧Blk z2 (u5.heap.size) 3 ([.int .i64 (k+1)]) from⟨K6.out.1.below hbel K6.out.1.lt,K6.out.2.1.below hbel K6.out.2.1.lt,(K6.out.2.2.1.below hbel),(K6.out.2.2.2.1.keep' (Ch.of_below (S:=fun _=> False) hbel (Ah _)) (fun _ _ e=> e) (fun _ _ _ h=> h)),(Aj K6.out.2.2.2.2.1 hbel.size),(An K6.out.2.2.2.2.2.1 hbel (Ah _)),(K6.out.2.2.2.2.2.2.below hbel),hb⟩);clear hb hbel hsz)
  | (at_builtin;refine FX rfl (.tmp 28) (.tmp 30) rfl HZ2.out.2.2.2.1 rfl rfl HZ2.out.2.2.2.2.2.2.2 (by have:=HT.out.2;omega) HZ2.out.2.2.2.2.1 ?_))
     intro oy py z3 hrow hc
     have HX:=Ag (show Blk z3 (w.heap.size) 26 (cs)∧Blk z3 (b1.heap.size) 45 (flC f.nm f.p.o f.p.e vr vq vg f.v f.e f.u tc)∧PmF (·<b3.heap.size) z3 f.p vr vq vg∧OwR EU 1 3 b3.heap.size z3 (.slice oy (l.length+1) py) (l ++ [((k:Int)+1)])∧b3.heap.size≤z3.heap.size∧Below w.heap.size w z3 from⟨HZ2.out.1.keep hc (fun e=> by have h1:=(HZ2.out.2.2.2.1.lt _ e).1;have h2:=HG.out;have h3:=HG3.out;omega),HZ2.out.2.1.keep hc (fun e=> by have h1:=(HZ2.out.2.2.2.1.lt _ e).1;have h2:=HG.out;have h3:=HG3.out;omega),HZ2.out.2.2.1.keep' hc (fun j hj e=> by have h1:=(HZ2.out.2.2.2.1.lt _ e).1;have hj:j<b3.heap.size:=hj;omega) (fun _ h=> h),hrow,Aj HZ2.out.2.2.2.2.1 hc.size,Aw HZ2.out.2.2.2.2.2.1 hc (Ah _) (fun j e=> by have h1:=(HZ2.out.2.2.2.1.lt _ e).1;have h2:=HG.out;have h3:=HG3.out;omega)⟩)
     clear hrow hc
     go_wp2_with fail
     go_roundw
     case measure=> simp[intOf];omega
     case rel=>
      have e:(l ++ [((k:Int)+1)]).length=l.length+1:=by simp
      exact⟨k+1,l ++ [((k:Int)+1)],oy,py,by go_num,by omega,by rw[e],Ag ⟨by rw[←HT2.out];simp,by rw[e];have:=HT.out.2;omega⟩,by rw[e];exact HX⟩
   ·have hge:¬ (k:Int)+1≤6:=by omega
    have HE:=Ag (show l=R from by
     obtain rfl:k=6:=by omega
     have h:=HT.out.1
     rw[←HRF.out] at h
     simpa [rdL] using h)
    go_wp2_with fail
    go_ret
    exact⟨_,rfl,⟨by rw[←HE.out];exact Sl.of_owns HO.out.2.2.2.1.ints,fun j _ hj=> by have h1:=(HO.out.2.2.2.1.lt j hj).1;have h2:=HG.out;have h3:=HG3.out;show w.heap.size≤j;omega⟩,HO.out.2.2.2.2.2⟩
def nmB (a b:ByteArray):Bool:=a.toList==b.toList
def D4 (s:IdM) (nm:ByteArray):List WrM:=if D0 s=true then s.ws.filter (fun x=> nmB x.nm nm) else []
def FH (B:Nat) (v:Value) (w:World) (j:Nat):Prop:=¬ v.ownBlock=some j∧B≤j∧j<w.heap.size
theorem OwR.fhb {B N:Nat} {w w':World} {v:Value} {l:List WrM} (h:OwR (WrC (FH B v w)) 9 56 N w v l) (hb:Below w.heap.size w w'):OwR (WrC (FH B v w')) 9 56 N w' v l:=
 h.keep' (Ch.of_below (S:=fun _=> False) hb (Ah _)) (fun _ _ e=> e) (fun cs a _ h=> h.keep' (Ch.of_below (S:=fun _=> False) hb (Ah _)) (fun _ _ e=> e) (fun j hj=> ⟨hj.1,hj.2.1,Ak hj.2.2 hb.size⟩))
theorem FY {w:World} {ops:Array Oper} {rest:List Oper} {o:Oper} {a:Act} {Q:Exit→Act→World→Prop} (hgd:o.guard=none) (s x':Operand)
  (ho:o.op=.call {callee:=.builtin .append,args:=#[s,x'],argTypes:=#[24,24]}) {B N:Nat} {v:Value} {l:List WrM} (hI:OwR (WrC (FH B v w)) 9 56 N w v l) (hs:a.eval s=v) {b:Nat} {cs:List Value} {x:WrM} (hx:a.eval x'=.slice (some ⟨b,0,none⟩) 1 1) (hb:Blk w b 56 cs) (hw:WrC (FH B v w) w cs x) (hn:l.length≤1000000) (hB:N≤w.heap.size)
  (h:∀ ao c w',OwR (WrC (FH B (.slice ao (l.length+1) c) w')) 9 56 N w' (.slice ao (l.length+1) c) (l ++ [x])→Ch (fun k=> v.ownBlock=some k) w w'→wpList Tryz.prog ops Q rest (a.put o.dst (.slice ao (l.length+1) c)) w'):
  wpList Tryz.prog ops Q (o::rest) a w:=by
 obtain⟨i0,hi0,hz0,hz1,hz2⟩:=info_parts Tryz.infoRW
 refine Bv hgd s x' 24 ho Tryz.underlying24 i0 _ 104 hi0 hz0 hz1 hz2 rfl (by omega) (C:=WrC (FH B v w)) (C':=WrC (FH B v w)) hI hs (r:=[x]) (F:=fun _=> True) hx (RwC.of_one hb trivial hw.len hw) (fun cs a _ h=> h.one) (l.length+1) (by simp) (by omega) (by omega) hB (fun w' hc cs a _ hf=> hf.keep' hc (fun j hj e=> hj.1 e) (fun _ h=> h)) ?_
 intro ao c w' h1 h2 h3
 refine h ao c w' (h1.mono (Ah _) (fun cs a _ hf=> hf.mono fun j hj=> ⟨fun e=> ?_,hj.2.1,Ak hj.2.2 h2.size⟩)) h2
 rcases h3 with h3|h3
 ·rw[h3] at e;exact hj.1 e
 ·rw[h3] at e;injection e with e;have:=hj.2.2;omega
theorem Iy (s:IdM) (nm:ByteArray) (cs:List Value) (F:Nat→Prop) (w:World) (hs:IdC F w cs s) (hl:s.cs.length≤1000000000):
  Calls Tryz.prog 14 #[.agg cs.toArray,.string nm] w (fun e w'=> ∃ v,e=.returned v∧RwC (WrC (w.heap.size≤·)) 9 (w.heap.size≤·) w' v (D4 s nm)∧Below w.heap.size w w'):=by
 have h0:=hs
 obtain⟨vf,vc,vw,rfl,-,-,hw⟩:=hs
 obtain⟨wn,hwn⟩:∃ n,s.ws.length=n:=⟨_,rfl⟩
 have HN:=Ag hwn
 obtain⟨aw,cw,rfl,hw1,hw2⟩:=hw.shape
 rw[hwn] at h0 hw1 hw ⊢
 have HID:=Ag h0
 have HW:=Ag hw
 have HCK:=Ag (fun (W:World) (hb:Below w.heap.size w W)=> C7 s [vf,vc,.slice aw wn cw] F W (HID.out.below hb) hl)
 have hwn63:wn≤9223372036854775807:=by unfold maxLen at hw2;omega
 obtain⟨R,hR⟩:∃ R,D4 s nm=R:=⟨_,rfl⟩
 have HR:=Ag hR
 rw[hR]
 clear h0 hw hw1 hw2 hl hwn hR
 go_enter Tryz.func14,Tryz.ntmps14
 go_upto_region 1 with(first
  | ((with_reducible refine Au w rfl 26 (.tmp 0) rfl ([vf,vc,.slice aw wn cw]) rfl ?_);intro a1 hb hbel hsz;have H1:=hJ2 hb hbel;have HG0:=Ag hb.lt;clear hb hbel hsz))
 try simp only[Al,Ad,Ae,Af]
 by_cases hk:D0 s=true
 ·have HC0:=Ag (show Calls Tryz.prog 16 #[.agg ([vf,vc,.slice aw wn cw]:List Value).toArray] a1 (fun e w'=> e=.returned (.int .i64 0)∧Below a1.heap.size a1 w') from by have h:=HCK.out a1 H1.out.2;rw[if_pos hk] at h;exact h)
  have HFW:=Ag (Dj.1 hk).few
  have HRR:=Ag (show s.ws.filter (fun x=> nmB x.nm nm)=R from by rw[←HR.out];unfold D4;rw[if_pos hk])
  clear hk HCK HR
  go_wp2_with (first
  | (with_reducible refine Ap rfl 26 (.tmp 2) rfl (w.heap.size) 0 rfl ([vf,vc,.slice aw wn cw]) _ (As H1.out.1) Tryz.underlying26 rfl (At Tryz.infoId rfl) ?_))
  refine HC0.out.mono ?_
  rintro e' b1 ⟨rfl,hb⟩
  have H2:=hJ2 (H1.out.1.below hb H1.out.1.lt) (An H1.out.2 hb (Ah _))
  have HG:=Ag (show w.heap.size<b1.heap.size from Ak HG0.out hb.size)
  have c2:=H2.out.1.cell 2
  simp only[Ab,Ac] at c2
  have H0:=Ag (show Blk b1 (w.heap.size) 26 ([vf,vc,.slice aw wn cw])∧OwR (WrC (FH w.heap.size (.slice none 0 0) b1)) 9 56 b1.heap.size b1 (.slice none 0 0) ([])∧b1.heap.size≤b1.heap.size∧Below w.heap.size w b1 from⟨H2.out.1,OwR.nil,Ah _,H2.out.2⟩)
  clear hb H1 H2
  go_wp2_with fail
  clear c2
  go_loopw [5,14] (fun s5 s14 wr=> ∃ (k:Nat) (l:List WrM) (oz:Option Addr) (pz:Nat),s14=.int .i64 k∧k≤wn∧s5=.slice oz l.length pz∧Hid (l ++ (s.ws.drop k).filter (fun x=> nmB x.nm nm)=R∧l.length≤k)∧Hid (Blk wr (w.heap.size) 26 ([vf,vc,.slice aw wn cw])∧OwR (WrC (FH w.heap.size (.slice oz l.length pz) wr)) 9 56 b1.heap.size wr (.slice oz l.length pz) (l)∧b1.heap.size≤wr.heap.size∧Below w.heap.size w wr)) (fun _ s14 _=> wn - (intOf s14).toNat)
  case atStart=> exact⟨0,[],none,0,rfl,Nat.zero_le _,rfl,Ag ⟨by rw[List.drop_zero];exact HRR.out,Ah _⟩,H0⟩
  case round=>
   clear H0 HRR
   obtain⟨k,l,oz,pz,rfl,hk,rfl,HT,HO⟩:=hrel
   by_cases hlt:k<wn
   ·have hkl:k<s.ws.length:=by rw[HN.out];exact hlt
    have hkz:(k:Int)<(wn:Int):=by omega
    have hk0:(0:Int)≤(k:Int):=by omega
    obtain⟨b,o,wcs,rfl,-,-,hlen,hra,hwc⟩:=HW.out.get hkl
    have HT2:=Ag (show l ++ (if nmB s.ws[k].nm nm=true then s.ws[k]::(s.ws.drop (k+1)).filter (fun x=> nmB x.nm nm) else (s.ws.drop (k+1)).filter (fun x=> nmB x.nm nm))=R from by
     rw[←HT.out.1,List.drop_eq_getElem_cons hkl,List.filter_cons])
    have HLL:=Ag HT.out.2
    have HFX:=Ag (HFW.out.2.2.1 s.ws[k] (List.getElem_mem hkl))
    generalize s.ws[k]=x at hwc HT2 HFX
    have HIX0:=Ag (At Tryz.infoWr hlen)
    have HXO0:=Ag hwc.one
    obtain⟨tc,rfl,htc⟩:=hwc
    have HTC:=Ag htc
    have HIX:=Ag (show(Tryz.prog.info? 56).map (·.size)=some (wrC x.nm x.v x.e x.u tc).length from HIX0.out)
    have HXO:=Ag (show ∀ v∈(wrC x.nm x.v x.e x.u tc:List Value),v.oneCell'=true from HXO0.out)
    have HZL:=Ag (show(wrC x.nm x.v x.e x.u tc).length=(wrC ⟨#[]⟩ 0 0 0 (tmC 0 0 0 ⟨#[]⟩ (.slice none 0 0))).length from hlen)
    have HRA:=Ag (show wr.rangeAt b (o+k* 9) (wrC x.nm x.v x.e x.u tc) from fun i z hz=> (HO.out.2.2.2.cell (Am (hra i z hz))).trans (hra i z hz))
    have HTL:=Ag htc.len
    clear hra hlen htc HT hkl HIX0 HXO0
    go_upto_region 7 with(first
  | (with_reducible refine Ap rfl 56 (.tmp 16) rfl b (o+k* 9) rfl (wrC x.nm x.v x.e x.u tc) _ HRA.out Tryz.underlying56 rfl HIX.out ?_)
  | ((with_reducible refine Av wr rfl 56 rfl (wrC ⟨#[]⟩ 0 0 0 (tmC 0 0 0 ⟨#[]⟩ (.slice none 0 0))) Tryz.zeroWr9 ?_);intro x2 hb hbel hsz;have HX2:=hJ2 hbel hb;clear hb hbel hsz)
  | ((with_reducible refine Ao x2 rfl 56 (.tmp 7) (.tmp 17) rfl (wr.heap.size) 56 (wrC ⟨#[]⟩ 0 0 0 (tmC 0 0 0 ⟨#[]⟩ (.slice none 0 0))) (wrC x.nm x.v x.e x.u tc) HX2.out.2 rfl rfl HZL.out HIX.out HXO.out ?_);intro x3 hb hc hs;have HX3:=hJ2 (Aw HX2.out.1 hc (Ah _) (fun k hk=> by have e:=(show _=_ from hk);omega)) hb;clear hb hc hs))
    try simp only[Al,Ad,Ae,Af]
    have c0:=HX3.out.2.cell 0
    simp only[wrC,Ab,Ac] at c0
    obtain⟨xn,hxn⟩:∃ n,x.nm=n:=⟨_,rfl⟩
    obtain⟨bq,hq⟩:∃ q,(xn.toList==nm.toList)=q:=⟨_,rfl⟩
    have HQ:=Ag (show nmB x.nm nm=bq from by rw[hxn];exact hq)
    rw[hxn] at c0
    cases bq
    ·have HT3:=Ag (show l ++ (s.ws.drop (k+1)).filter (fun x=> nmB x.nm nm)=R from by have h:=HT2.out;rw[HQ.out,if_neg (by simp)] at h;exact h)
     go_wp2_with fail
     go_roundw
     case measure=> simp[intOf];omega
     case rel=> exact⟨k+1,l,oz,pz,by go_num,by omega,rfl,Ag ⟨HT3.out,by have:=HLL.out;omega⟩,Ag ⟨HO.out.1.below HX3.out.1 HO.out.1.lt,HO.out.2.1.fhb HX3.out.1,Aj HO.out.2.2.1 HX3.out.1.size,An HO.out.2.2.2 HX3.out.1 (Ah _)⟩⟩
    ·have HT3:=Ag (show(l ++ [x]) ++ (s.ws.drop (k+1)).filter (fun x=> nmB x.nm nm)=R from by have h:=HT2.out;rw[HQ.out,if_pos rfl] at h;rw[←h];simp)
     have HTX:=Ag (show TmC F x3 tc x.b from HTC.out.below (An HO.out.2.2.2 HX3.out.1 (Ah _)))
     have HG3:=Ag HX3.out.2.lt
     clear HTC
     go_wp2_with (first
  | (with_reducible refine Ap rfl 29 (.tmp 22) rfl (wr.heap.size) 4 rfl tc _ (CI HX3.out.2) Tryz.underlying29 rfl (At Tryz.infoTm HTL.out) ?_))
     refine(B4 x.b tc F x3 HFX.out HTX.out).mono ?_
     rintro e' x4 ⟨tcn,rfl,ht,hb⟩
     have HX4:=hJ3 (An HX3.out.1 hb (Ah _)) (HX3.out.2.below hb HX3.out.2.lt) ht
     have HTN:=Ag ht.len
     have HNI:=Ag (At Tryz.infoTm ht.len)
     have HNO:=Ag ht.one
     have HSL:=Ag (show 4+tcn.length≤(wrC x.nm x.v x.e x.u tc).length from by rw[HTN.out];simp[wrC,HTL.out])
     have HNB:=Ag (D1 x.nm x.v x.e x.u tc tcn (by rw[HTN.out,HTL.out]))
     have HN9:=Ag (show(wrC x.nm x.v x.e x.u tcn).length=9 from by simp[wrC,HTN.out])
     have HNX:=Ag (At Tryz.infoWr HN9.out)
     have HB34:=Ag hb
     clear ht hb HX2
     have HWN:=Ag (show s.ws.length≤1000000 from HFW.out.2.2.2.2.2)
     have HFT:=Ag (fun (W:World) (h:TmC (x3.heap.size≤·) W tcn x.b)=> show TmC (FH w.heap.size (.slice oz l.length pz) W) W tcn x.b from(TmC.old' _ _ h).mono fun j hj=> ⟨fun e=> by
      have h1:=(HO.out.2.1.lt j e).2
      have h2:=HX3.out.1.size
      have h3:x3.heap.size≤j:=hj.1
      omega,by
      have h1:=HX3.out.1.size
      have h2:=HO.out.2.2.2.size
      have h3:x3.heap.size≤j:=hj.1
      omega,hj.2⟩)
     clear c0
     go_wp2_with (first
  | ((with_reducible refine Be x4 rfl 29 (.tmp 25) (.tmp 24) rfl (wr.heap.size) 4 56 _ (tcn) (wrC x.nm x.v x.e x.u tcn) HX4.out.2.1 rfl rfl HSL.out HNI.out HNO.out HNB.out ?_);intro x5 hb hc hs;have HX5:=hJ3 (Aw HX4.out.1 hc (Ah _) (fun k hk=> by have e:=(show _=_ from hk);omega)) hb (HX4.out.2.2.keep hc (fun k hk e=> by have e:=(show _=_ from e);have hk:x3.heap.size≤k:=hk;have:=HG3.out;omega));clear hb hc hs)
  | (with_reducible refine Ap rfl 56 (.tmp 7) rfl (wr.heap.size) 0 rfl (wrC x.nm x.v x.e x.u tcn) _ (As HX5.out.2.1) Tryz.underlying56 rfl HNX.out ?_)
  | ((with_reducible refine Ci x5 rfl (.tmp 27) rfl (wrC x.nm x.v x.e x.u tcn) HN9.out rfl ?_);intro x6 hb hbel hsz;have HX6:=hJ4 (An HX5.out.1 hbel (Ah _)) (HX5.out.2.1.below hbel HX5.out.2.1.lt) (HX5.out.2.2.below hbel) hb;clear hb hbel hsz)
  | (at_builtin;refine FY rfl (.tmp 26) (.tmp 28) rfl (HO.out.2.1.fhb HX6.out.1) rfl rfl HX6.out.2.2.2 ⟨tcn,rfl,HFT.out _ HX6.out.2.2.1⟩ (by have:=HLL.out;have:=HWN.out;have:=HN.out;omega) (Aj HO.out.2.2.1 HX6.out.1.size) ?_))
     intro oy py x7 hrow hc
     have HB7:=Ag (show Below wr.heap.size wr x6 from HX6.out.1)
     have HX7:=hJ4 ((HO.out.1.below HB7.out HO.out.1.lt).keep hc (fun e=> by have h1:=(HO.out.2.1.lt _ e).1;have h2:=HG.out;omega)) hrow (Aj HO.out.2.2.1 (Aj HB7.out.size hc.size)) (Aw (An HO.out.2.2.2 HB7.out (Ah _)) hc (Ah _) (fun j e=> by have h1:=(HO.out.2.1.lt _ e).1;have h2:=HG.out;omega))
     clear hrow hc
     go_wp2_with fail
     go_roundw
     case measure=> simp[intOf];omega
     case rel=>
      have e:(l ++ [x]).length=l.length+1:=by simp
      exact⟨k+1,l ++ [x],oy,py,by go_num,by omega,by rw[e],Ag ⟨HT3.out,by rw[e];have:=HLL.out;omega⟩,by rw[e];exact HX7⟩
   ·have hge:¬ (k:Int)<(wn:Int):=by omega
    have HE:=Ag (show l=R from by have h:=HT.out.1;rw[List.drop_of_length_le (by rw[HN.out];omega)] at h;simpa using h)
    go_wp2_with fail
    go_ret
    exact⟨_,rfl,by rw[←HE.out];exact HO.out.2.1.rwc.mono (fun j hj=> by have h1:=(HO.out.2.1.lt j hj).1;have h2:=HG.out;show w.heap.size≤j;omega) (fun cs a _ h=> h.mono fun j hj=> hj.2.1),HO.out.2.2.2⟩
 ·have HC0:=Ag (show Calls Tryz.prog 16 #[.agg ([vf,vc,.slice aw wn cw]:List Value).toArray] a1 (fun e w'=> e=.returned (.int .i64 282)∧Below a1.heap.size a1 w') from by have h:=HCK.out a1 H1.out.2;rw[if_neg hk] at h;exact h)
  have HRR:=Ag (show[]=R from by rw[←HR.out];unfold D4;rw[if_neg hk])
  clear hk HCK HR
  go_wp2_with (first
  | (with_reducible refine Ap rfl 26 (.tmp 2) rfl (w.heap.size) 0 rfl ([vf,vc,.slice aw wn cw]) _ (As H1.out.1) Tryz.underlying26 rfl (At Tryz.infoId rfl) ?_))
  refine HC0.out.mono ?_
  rintro e' b1 ⟨rfl,hb⟩
  have HB:=Ag (An H1.out.2 hb (Ah _))
  clear hb
  go_wp2_with fail
  go_ret
  exact⟨_,rfl,by rw[←HRR.out];exact RwC.nil _ _ _ _,HB.out⟩
def Ep {α:Type} (C:(Nat→Prop)→World→List Value→α→Prop):Prop:=∀ {F G S:Nat→Prop} {w w':World} {cs:List Value} {a:α},C F w cs a→Ch S w w'→(∀ k,F k→¬ S k)→(∀ k,F k→G k)→C G w' cs a
theorem DS:Ep TmC:=fun h hc hS hG=> TmC.keep' hc hS hG _ _ h
theorem CJ:Ep FlC:=fun h hc hS hG=> h.keep' hc hS hG
theorem DT:Ep CiC:=fun h hc hS hG=> h.keep' hc hS hG
theorem EV:Ep WrC:=fun h hc hS hG=> h.keep' hc hS hG
section
variable {α:Type} {C:(Nat→Prop)→World→List Value→α→Prop}
theorem OwR.fhQ {sz:Nat} {ty:TypeId} (hK:Ep C) {B N:Nat} {w w':World} {v:Value} {l:List α} (h:OwR (C (FH B v w)) sz ty N w v l) (hb:Below w.heap.size w w'):OwR (C (FH B v w')) sz ty N w' v l:=
 h.keep' (Ch.of_below (S:=fun _=> False) hb (Ah _)) (fun _ _ e=> e) (fun cs a _ h=> hK h (Ch.of_below (S:=fun _=> False) hb (Ah _)) (fun _ _ e=> e) (fun j hj=> ⟨hj.1,hj.2.1,Ak hj.2.2 hb.size⟩))
theorem OwR.fhS {sz g:Nat} {ty:TypeId} (hK:Ep C) {B N:Nat} {w w':World} {v:Value} {l:List α} (h:OwR (C (FH B v w)) sz ty N w v l) (hc:Ch (·=g) w w') (h1:g<B) (h2:g<N):OwR (C (FH B v w')) sz ty N w' v l:=
 h.keep' hc (fun k hk e=> by have:=(h.lt k hk).1;omega) (fun cs a _ h=> hK h hc (fun j hj e=> by have:=hj.2.1;omega) (fun j hj=> ⟨hj.1,hj.2.1,Ak hj.2.2 hc.size⟩))
theorem BX (hK:Ep C) {ty st:TypeId} {sz by':Nat} {z:Value} (hu:Tryz.prog.underlying st=some (.slice ty)) (hinfo:(Tryz.prog.info? ty).map (fun i=> (i.zero,i.size,i.bytes))=some (some z,sz,by')) (hz:z.cells.size=sz) (hsz:0<sz) (hby:by'≤100000)
  (hlen:∀ {F:Nat→Prop} {w:World} {cs:List Value} {a:α},C F w cs a→cs.length=sz) (hone:∀ {F:Nat→Prop} {w:World} {cs:List Value} {a:α},C F w cs a→∀ v∈cs,v.oneCell'=true)
  {w:World} {ops:Array Oper} {rest:List Oper} {o:Oper} {a:Act} {Q:Exit→Act→World→Prop} (hgd:o.guard=none) (s x':Operand)
  (ho:o.op=.call {callee:=.builtin .append,args:=#[s,x'],argTypes:=#[st,st]}) {B N:Nat} {v:Value} {l:List α} (hI:OwR (C (FH B v w)) sz ty N w v l) (hs:a.eval s=v) {b:Nat} {cs:List Value} {x:α} (hx:a.eval x'=.slice (some ⟨b,0,none⟩) 1 1) (hb:Blk w b ty cs) (hw:C (FH B v w) w cs x) (hn:l.length≤1000000) (hB:N≤w.heap.size)
  (h:∀ ao c w',OwR (C (FH B (.slice ao (l.length+1) c) w')) sz ty N w' (.slice ao (l.length+1) c) (l ++ [x])→Ch (fun k=> v.ownBlock=some k) w w'→wpList Tryz.prog ops Q rest (a.put o.dst (.slice ao (l.length+1) c)) w'):
  wpList Tryz.prog ops Q (o::rest) a w:=by
 obtain⟨i0,hi0,hz0,hz1,hz2⟩:=info_parts hinfo
 refine Bv hgd s x' st ho hu i0 _ by' hi0 hz0 hz1 hz2 hz hsz (C:=C (FH B v w)) (C':=C (FH B v w)) hI hs (r:=[x]) (F:=fun _=> True) hx (RwC.of_one hb trivial (hlen hw) hw) (fun cs a _ h=> hone h) (l.length+1) (by simp) (by omega) hby hB (fun w' hc cs a _ hf=> hK hf hc (fun j hj e=> hj.1 e) (fun _ h=> h)) ?_
 intro ao c w' h1 h2 h3
 refine h ao c w' (h1.mono (Ah _) (fun cs a _ hf=> hK hf (Ch.refl (fun _=> False) w') (fun _ _ e=> e) fun j hj=> ⟨fun e=> ?_,hj.2.1,Ak hj.2.2 h2.size⟩)) h2
 rcases h3 with h3|h3
 ·rw[h3] at e;exact hj.1 e
 ·rw[h3] at e;injection e with e;have:=hj.2.2;omega
end
theorem DE (w:World) {ops:Array Oper} {rest:List Oper} {o:Oper} {a:Act} {Q:Exit→Act→World→Prop} (hgd:o.guard=none) (x:Operand) (ho:o.op=.buildSlice 27 1 #[(0,x)]) (cs:List Value) (hcs:cs.length=5)
  (hx:a.eval x=.agg cs.toArray) (h:∀ w',Blk w' w.heap.size 29 cs→Below w.heap.size w w'→w'.heap.size=w.heap.size+1→wpList Tryz.prog ops Q rest (a.put o.dst (.slice (some ⟨w.heap.size,0,none⟩) 1 1)) w'):wpList Tryz.prog ops Q (o::rest) a w:=
 Bk w hgd 27 x ho Tryz.underlying27 (fun w=> by kernel_rfl) Tryz.zeroTm (by decide) (by decide) cs hcs hx h
theorem Tryz.sizeStr18:(Tryz.prog.info? 9).map (·.size)=some 1:=by kernel_rfl
theorem Tryz.sizeTs18:(Tryz.prog.info? 27).map (·.size)=some 1:=by kernel_rfl
theorem EW (v:Value) (l:List Int) (w:World) (hv:Sl w v (ofK .i64 l)):Calls Tryz.prog 21 #[v] w (fun e w'=> ∃ v' l',e=.returned v'∧l'.length≤8∧SlI (w.heap.size≤·) w' v' l'∧Below w.heap.size w w'):=by
 obtain⟨i0,hi,hz0,hz1,hz2⟩:=info_parts Tryz.infoI
 obtain⟨ao,c,rfl,a2,a3,a4⟩:=hv.nums
 have HO0:=Ag ((Blk.new w [] 3).owns (base:=w.heap.size) (Ah _) (by simp))
 have hb1:=(Below.refl w.heap.size w).alloc (Ah _) (.cells #[] 3)
 by_cases h:8<l.length
 ·skip
  have ht:=hv.take 8 (by rw[AJ];omega)
  rw[Hv] at ht
  have HS0:=Ag (ht.below hb1 (Ah _))
  have HL:=Ag (show(l.take 8).length=8 by rw[List.length_take];omega)
  clear ht
  clear hv a4 hb1
  go_enter Tryz.func21,Tryz.ntmps21
  go_wp2_with (at_builtin;refine Cw _ rfl (.tmp 3) (.tmp 8) 40 rfl w.heap.size 3 i0 (.int .i64 0) 8 Tryz.underlying40 hi hz0 hz1 hz2 rfl (.slice (some ⟨w.heap.size,0,none⟩) 0 0) 0 [] rfl HO0.out _ _ rfl HS0.out (Cp _ _) (8) ?_ ?_ ?_ ?_ ?_)
  ·rw[AJ,HL.out]
  ·unfold maxLen;omega
  ·omega
  ·simp
  ·intro ao1 c1 w2 hown1 hgr1 _
   have hb2:Below w.heap.size w w2:=((Below.refl w.heap.size w).alloc (Ah _) (.cells #[] 3)).grown hgr1 (by simp) (fun k hk=> by cases hk;exact Ah _)
   go_wp2_with fail
   go_ret
   exact⟨_,_,rfl,(show(l.take 8).length≤8 by rw[HL.out];omega),⟨Sl.of_owns hown1,fun k _ hk=> (hown1.lt k hk).1⟩,hb2⟩
 ·skip
  have HS0:=Ag (hv.below hb1 (Ah _))
  clear hv a4 hb1
  go_enter Tryz.func21,Tryz.ntmps21
  go_wp2_with (at_builtin;refine Cw _ rfl (.tmp 3) (.tmp 8) 40 rfl w.heap.size 3 i0 (.int .i64 0) 8 Tryz.underlying40 hi hz0 hz1 hz2 rfl (.slice (some ⟨w.heap.size,0,none⟩) 0 0) 0 [] rfl HO0.out _ _ rfl HS0.out (Cp _ _) (l.length) ?_ ?_ ?_ ?_ ?_)
  ·rw[AJ,Nat.zero_add]
  ·unfold maxLen;omega
  ·omega
  ·simp
  ·intro ao1 c1 w2 hown1 hgr1 _
   have hb2:Below w.heap.size w w2:=((Below.refl w.heap.size w).alloc (Ah _) (.cells #[] 3)).grown hgr1 (by simp) (fun k hk=> by cases hk;exact Ah _)
   go_wp2_with fail
   go_ret
   exact⟨_,_,rfl,(show l.length≤8 by omega),⟨Sl.of_owns hown1,fun k _ hk=> (hown1.lt k hk).1⟩,hb2⟩
theorem Tryz.buildtxt (s:ByteArray):∀ w,(Instr.build 29 #[(0,.int .i64 1),(3,.string s)]).run Tryz.prog w=.ok (.agg (tmC 1 0 0 s (.slice none 0 0)).toArray) w:=fun w=> by kernel_rfl
theorem Fk {ops:Array Oper} {rest:List Oper} {op:Oper} {a:Act} {w:World} {Q:Exit→Act→World→Prop} (hgd:op.guard=none) (x0:Operand) (ho:op.op=.build 29 #[(0,.const (.int .i64 1)),(3,x0)]) (s:ByteArray) (h0:a.eval x0=.string s)
  (h:wpList Tryz.prog ops Q rest (a.put op.dst (.agg (tmC 1 0 0 s (.slice none 0 0)).toArray)) w):wpList Tryz.prog ops Q (op::rest) a w:=by
 refine wpList_plain hgd fun K hK=> ?_
 have hrun:(execOp a.eval op).run Tryz.prog w=.ok (.value (.agg (tmC 1 0 0 s (.slice none 0 0)).toArray)) w:=by
  unfold execOp
  simp only[ho]
  rw[show(#[((0:Nat),Operand.const (.int .i64 1)),(3,x0)].map fun (i,x)=> (i,a.eval x))=#[(0,.int .i64 1),(3,.string s)] by simp only[List.map_toArray,List.map_cons,List.map_nil,h0];rfl]
  simp[Tryz.buildtxt,Result.andThen]
 unfold Oper.wp
 rw[hrun]
 exact hK _ _ h
def txT (s:ByteArray):Tm:=.mk 1 0 0 s []
theorem txT_C (F:Nat→Prop) (w:World) (s:ByteArray):TmC F w (tmC 1 0 0 s (.slice none 0 0)) (txT s):=B0.2 ⟨_,rfl,SlT.nil _ _⟩
theorem GF (s:ByteArray) (w:World):Calls Tryz.prog 18 #[.string s] w (fun e w'=> e=.returned (.agg (tmC 1 0 0 s (.slice none 0 0)).toArray)∧Below w.heap.size w w'):=by
 go_enter Tryz.func18,Tryz.ntmps18
 go_wp2_with (first
  | ((with_reducible refine Av w rfl 29 rfl (tmC 0 0 0 ⟨#[]⟩ (.slice none 0 0)) Tryz.zeroTm ?_);intro b1 hb hbel hsz;have HB1:=Ag (Ai hb hbel);clear hb hbel hsz)
  | (with_reducible refine Fk rfl (.tmp 3) rfl s rfl ?_)
  | ((with_reducible refine Ao b1 rfl 29 (.tmp 2) (.tmp 4) rfl w.heap.size 29 (tmC 0 0 0 ⟨#[]⟩ (.slice none 0 0)) (tmC 1 0 0 s (.slice none 0 0)) HB1.out.1 rfl rfl rfl (A8 _ _ _ _ _) (AR _ _ _ _ _ _ _) ?_);intro b2 hb hc hs;have HB2:=Ag (Ai hb (Aw HB1.out.2 hc (Ah _) (fun k hk=> by have e:k=w.heap.size:=hk;omega)));clear hb hc hs))
 refine bodyPost_ret (AA Tryz.results18 _ _ w.heap.size _ _ rfl HB2.out.1 _ Tryz.underlying29 rfl (A8 _ _ _ _ _)) rfl ?_
 exact⟨rfl,HB2.out.2⟩
theorem Eh:∀ (n:Nat),n≤1000→∀ (t:Tm) (cs:List Value) (F:Nat→Prop) (w:World),TmC F w cs t→Calls Tryz.prog 22 #[.agg cs.toArray,.int .i64 (n:Nat)] w (fun e w'=> ∃ cs' t',e=.returned (.agg cs'.toArray)∧TmC (w.heap.size≤·) w' cs' t'∧Below w.heap.size w w'):=by
 intro n
 induction n using Nat.strongRecOn with
 | ind n ih=>
  intro hnb tt cs F w ht
  obtain⟨k0,u0,n0,s0,ks⟩:=tt
  obtain⟨ka,kc,rfl,hk1,hk2,hsl⟩:=ht.shape
  simp only[Tm.k,Tm.u,Tm.n,Tm.s,Tm.ks] at hk1 hsl ⊢
  have HKS:=Ag hsl.rwc
  obtain⟨kn,hkn⟩:∃ m,ks.length=m:=⟨_,rfl⟩
  have HN:=Ag hkn
  rw[hkn] at HKS hk1 ⊢
  have hkn63:kn≤9223372036854775807:=by unfold maxLen at hk2;have:=hk1;omega
  have HLT:=Ag (show 3<(tmC k0 u0 n0 s0 (.slice ka kn kc):List Value).length from by simp[tmC])
  have HIH:=Ag ih
  clear ht hk1 hk2 hsl hkn ih
  by_cases hsz65:65<s0.size
  ·skip
   have hz1:(65:Int)<(s0.size:Int):=by omega
   have hz2:¬ ((s0.size:Int)<65):=by omega
   have hz3:¬ ((s0.size:Int)≤65):=by omega
   have hz4:(65:Int)≤(s0.size:Int):=by omega
   go_enter Tryz.func22,Tryz.ntmps22
   go_upto_region 2 with(first
  | ((with_reducible refine Au w rfl 29 (.tmp 0) rfl (tmC k0 u0 n0 s0 (.slice ka kn kc)) rfl ?_);intro a1 hb hbel hsz;have H1:=hJ2 hb hbel;clear hb hbel hsz)
  | ((with_reducible refine Av a1 rfl 29 rfl (tmC 0 0 0 ⟨#[]⟩ (.slice none 0 0)) Tryz.zeroTm ?_);intro a2 hb hbel hsz;have H2:=hJ3 (H1.out.1.below hbel H1.out.1.lt) (An H1.out.2 hbel (Ah _)) hb;have HG:=hJ2 H1.out.1.lt hb.lt;have c3:=H2.out.1.cell 3;simp only[tmC,Ab,Ac] at c3;clear hb hbel hsz)
  | ((with_reducible refine AI a2 rfl 9 (.tmp 15) (.tmp 14) rfl (w.heap.size) 3 29 _ H2.out.1 rfl (.string _) rfl HLT.out Tryz.sizeStr18 rfl rfl ?_);intro a3 hb hc hs;clear c3))
   try simp only[Al,Ad,Ae,Af]
   generalize hxs:(tmC k0 u0 n0 s0 (.slice ka kn kc):List Value).set 3 _=xs3 at hb
   obtain⟨s1,hx1⟩:∃ s1,xs3=tmC k0 u0 n0 s1 (.slice ka kn kc):=⟨_,by rw[←hxs];rfl⟩
   subst hx1
   have H3:=Ag (show Blk a3 (w.heap.size) 29 (tmC k0 u0 n0 s1 (.slice ka kn kc))∧Blk a3 (a1.heap.size) 29 (tmC 0 0 0 ⟨#[]⟩ (.slice none 0 0))∧Below w.heap.size w a3 from⟨hb,H2.out.2.2.keep hc (fun e=> absurd (show _=_ from e) (by have:=HG.out;omega)),Aw H2.out.2.1 hc (Ah _) (fun k hk=> by have e:=(show _=_ from hk);omega)⟩)
   have HG3:=Ag (show w.heap.size<a1.heap.size∧a1.heap.size<a3.heap.size from⟨HG.out.1,Ak HG.out.2 hc.size⟩)
   have c4:=hb.cell 4
   simp only[tmC,Ab,Ac] at c4
   clear hb hc hs hxs H1 H2 hz1 hz2 hz3 hz4 hsz65 HG
   have H0:=Ag (show Blk a3 (w.heap.size) 29 (tmC k0 u0 n0 s1 (.slice ka kn kc))∧Blk a3 (a1.heap.size) 29 (tmC 0 0 0 ⟨#[]⟩ (.slice none 0 0))∧OwR (TmC (FH a3.heap.size (.slice none 0 0) a3)) 5 29 a3.heap.size a3 (.slice none 0 0) ([])∧a3.heap.size≤a3.heap.size∧Below w.heap.size w a3 from⟨H3.out.1,H3.out.2.1,OwR.nil,Ah _,H3.out.2.2⟩)
   clear H3
   go_wp2_with fail
   clear c4
   go_loopw [5,19] (fun s5 s19 wr=> ∃ (j:Nat) (l:List Tm) (oz:Option Addr) (pz:Nat),s19=.int .i64 j∧j≤kn∧s5=.slice oz l.length pz∧Hid (l.length≤j∧l.length≤3)∧Hid (Blk wr (w.heap.size) 29 (tmC k0 u0 n0 s1 (.slice ka kn kc))∧Blk wr (a1.heap.size) 29 (tmC 0 0 0 ⟨#[]⟩ (.slice none 0 0))∧OwR (TmC (FH a3.heap.size (.slice oz l.length pz) wr)) 5 29 a3.heap.size wr (.slice oz l.length pz) (l)∧a3.heap.size≤wr.heap.size∧Below w.heap.size w wr)) (fun _ s19 _=> kn - (intOf s19).toNat)
   case atStart=> exact⟨0,[],none,0,rfl,Nat.zero_le _,rfl,Ag ⟨Ah _,by simp⟩,H0⟩
   case round=>
    clear H0
    obtain⟨j,l,oz,pz,rfl,hj,rfl,HT,HO⟩:=hrel
    by_cases hlt:j<kn
    ·skip
     have hjl:j<ks.length:=by rw[HN.out];exact hlt
     have hjz:(j:Int)<(kn:Int):=by omega
     have hj0:(0:Int)≤(j:Int):=by omega
     obtain⟨b,o,xcs,rfl,-,-,hlen,hra,hxc⟩:=HKS.out.get hjl
     generalize ks[j]=x at hxc
     have HXC:=Ag hxc
     have HXO:=Ag hxc.one
     have HZL:=Ag (show xcs.length=(tmC 0 0 0 ⟨#[]⟩ (.slice none 0 0)).length from hlen)
     have HRA:=Ag (Ai (show wr.rangeAt b (o+j* 5) xcs from fun i z hz=> (HO.out.2.2.2.2.cell (Am (hra i z hz))).trans (hra i z hz)) hlen)
     clear hra hlen hxc hjl
     go_upto_region 6 with(first
  | (with_reducible refine Ap rfl 29 (.tmp 22) rfl b (o+j* 5) rfl xcs _ HRA.out.1 Tryz.underlying29 rfl (At Tryz.infoTm HRA.out.2) ?_)
  | ((with_reducible refine Av wr rfl 29 rfl (tmC 0 0 0 ⟨#[]⟩ (.slice none 0 0)) Tryz.zeroTm ?_);intro x2 hb hbel hsz;have HX2:=hJ2 hbel hb;clear hb hbel hsz)
  | ((with_reducible refine Ao x2 rfl 29 (.tmp 7) (.tmp 23) rfl (wr.heap.size) 29 (tmC 0 0 0 ⟨#[]⟩ (.slice none 0 0)) (xcs) HX2.out.2 rfl rfl HZL.out (At Tryz.infoTm HRA.out.2) HXO.out ?_);intro x3 hb hc hs;have HX3:=hJ2 (Aw HX2.out.1 hc (Ah _) (fun k hk=> by have e:=(show _=_ from hk);omega)) hb;clear hb hc hs))
     try simp only[Al,Ad,Ae,Af]
     have hdec:(j<3∧0<n)∨¬ (j<3∧0<n):=Classical.em _
     rcases hdec with h3|h3
     ·skip
      have h31:(j:Int)<3:=by omega
      have h32:(0:Int)<(n:Int):=by omega
      have hdm:((n:Int) - 1)=((n - 1:Nat):Int):=by omega
      have HSM:=Ag (show Calls Tryz.prog 22 #[.agg xcs.toArray,.int .i64 (n - 1:Nat)] x3 (fun e w'=> ∃ cs' t',e=.returned (.agg cs'.toArray)∧TmC (x3.heap.size≤·) w' cs' t'∧Below x3.heap.size x3 w') from HIH.out (n - 1) (by omega) (by omega) x xcs F x3 (HXC.out.below (An HO.out.2.2.2.2 HX3.out.1 (Ah _))))
      go_wp2_with (first
  | (with_reducible refine Ap rfl 29 (.tmp 7) rfl (wr.heap.size) 0 rfl (xcs) _ (As HX3.out.2) Tryz.underlying29 rfl (At Tryz.infoTm HRA.out.2) ?_))
      try rw[hdm]
      refine HSM.out.mono ?_
      rintro e' x4 ⟨tcn,tn,rfl,ht,hb⟩
      have HX4:=hJ2 (An HX3.out.1 hb (Ah _)) ht
      have HN5:=Ag ht.len
      have HFT:=Ag (fun (W:World) (h:TmC (x3.heap.size≤·) W tcn tn)=> show TmC (FH a3.heap.size (.slice oz l.length pz) W) W tcn tn from(TmC.old' _ _ h).mono fun i hi=> ⟨fun e=> by
       have h1:=(HO.out.2.2.1.lt i e).2
       have h2:=HX3.out.1.size
       have h3:x3.heap.size≤i:=hi.1
       omega,by
       have h1:=HX3.out.1.size
       have h2:=HO.out.2.2.2.1
       have h3:x3.heap.size≤i:=hi.1
       omega,hi.2⟩)
      clear ht hb HX2
      go_wp2_with (first
  | ((with_reducible refine DE x4 rfl (.tmp 34) rfl (tcn) HN5.out rfl ?_);intro x6 hb hbel hsz;have HX6:=hJ3 (An HX4.out.1 hbel (Ah _)) (HX4.out.2.below hbel) hb;clear hb hbel hsz)
  | (at_builtin;refine BX @DS Tryz.underlying27 Tryz.infoRT rfl (by omega) (by omega) (fun h=> h.len) (fun h=> h.one) rfl (.tmp 30) (.tmp 35) rfl (HO.out.2.2.1.fhQ @DS HX6.out.1) rfl rfl HX6.out.2.2 (HFT.out _ HX6.out.2.1) (by have:=HT.out;omega) (Aj HO.out.2.2.2.1 HX6.out.1.size) ?_))
      intro oy py x7 hrow hc
      have HB7:=Ag (show Below wr.heap.size wr x6 from HX6.out.1)
      have HX7:=hJ5 ((HO.out.1.below HB7.out HO.out.1.lt).keep hc (fun e=> by have h1:=(HO.out.2.2.1.lt _ e).1;have h2:=HG3.out;omega)) ((HO.out.2.1.below HB7.out HO.out.2.1.lt).keep hc (fun e=> by have h1:=(HO.out.2.2.1.lt _ e).1;have h2:=HG3.out;omega)) hrow (Aj HO.out.2.2.2.1 (Aj HB7.out.size hc.size)) (Aw (An HO.out.2.2.2.2 HB7.out (Ah _)) hc (Ah _) (fun i e=> by have h1:=(HO.out.2.2.1.lt _ e).1;have h2:=HG3.out;omega))
      clear hrow hc
      go_wp2_with fail
      go_roundw
      case measure=> simp[intOf];omega
      case rel=>
       have e:(l ++ [tn]).length=l.length+1:=by simp
       exact⟨j+1,l ++ [tn],oy,py,by go_num,by omega,by rw[e],Ag (by rw[e];have:=HT.out;omega),by rw[e];exact HX7⟩
     ·skip
      by_cases h33:(j:Int)<3
      ·skip
       have h34:¬ (0:Int)<(n:Int):=by omega
       go_wp2_with fail
       go_roundw
       case measure=> simp[intOf];omega
       case rel=> exact⟨j+1,l,oz,pz,by go_num,by omega,rfl,Ag (by have:=HT.out;omega),Ag ⟨HO.out.1.below HX3.out.1 HO.out.1.lt,HO.out.2.1.below HX3.out.1 HO.out.2.1.lt,HO.out.2.2.1.fhQ @DS HX3.out.1,Aj HO.out.2.2.2.1 HX3.out.1.size,An HO.out.2.2.2.2 HX3.out.1 (Ah _)⟩⟩
      ·skip
       go_wp2_with fail
       go_roundw
       case measure=> simp[intOf];omega
       case rel=> exact⟨j+1,l,oz,pz,by go_num,by omega,rfl,Ag (by have:=HT.out;omega),Ag ⟨HO.out.1.below HX3.out.1 HO.out.1.lt,HO.out.2.1.below HX3.out.1 HO.out.2.1.lt,HO.out.2.2.1.fhQ @DS HX3.out.1,Aj HO.out.2.2.2.1 HX3.out.1.size,An HO.out.2.2.2.2 HX3.out.1 (Ah _)⟩⟩
    ·have hge:¬ (j:Int)<(kn:Int):=by omega
     have HL4:=Ag (show 4<(tmC k0 u0 n0 s1 (.slice ka kn kc):List Value).length from by simp[tmC])
     go_wp2_with (first
  | ((with_reducible refine AI wr rfl 27 (.tmp 39) (.tmp 38) rfl (w.heap.size) 4 29 _ HO.out.1 rfl (.slice oz l.length pz) rfl HL4.out Tryz.sizeTs18 rfl rfl ?_);intro y2 hb hc hs;have HY2:=Ag (show Blk y2 (w.heap.size) 29 (tmC k0 u0 n0 s1 (.slice oz l.length pz))∧Blk y2 (a1.heap.size) 29 (tmC 0 0 0 ⟨#[]⟩ (.slice none 0 0))∧OwR (TmC (FH a3.heap.size (.slice oz l.length pz) y2)) 5 29 a3.heap.size y2 (.slice oz l.length pz) (l)∧Below w.heap.size w y2 from⟨hb,HO.out.2.1.keep hc (fun e=> absurd (show _=_ from e) (by have:=HG3.out;omega)),HO.out.2.2.1.fhS @DS hc (by have:=HG3.out;omega) (by have:=HG3.out;omega),Aw HO.out.2.2.2.2 hc (Ah _) (fun k hk=> by have e:=(show _=_ from hk);have:=HG3.out;omega)⟩);clear hb hc hs)
  | (with_reducible refine Ap rfl 29 (.tmp 2) rfl (w.heap.size) 0 rfl (tmC k0 u0 n0 s1 (.slice oz l.length pz)) _ (As HY2.out.1) Tryz.underlying29 rfl (A8 _ _ _ _ _) ?_)
  | ((with_reducible refine Ao y2 rfl 29 (.tmp 4) (.tmp 40) rfl (a1.heap.size) 29 (tmC 0 0 0 ⟨#[]⟩ (.slice none 0 0)) (tmC k0 u0 n0 s1 (.slice oz l.length pz)) HY2.out.2.1 rfl rfl rfl (A8 _ _ _ _ _) (AR _ _ _ _ _ _ _) ?_);intro y3 hb hc hs;have HY3:=hJ3 hb (HY2.out.2.2.1.fhS @DS hc (by have:=HG3.out;omega) (by have:=HG3.out;omega)) (Aw HY2.out.2.2.2 hc (Ah _) (fun k hk=> by have e:=(show _=_ from hk);have:=HG3.out;omega));clear hb hc hs))
     refine bodyPost_ret (AA Tryz.results22 _ _ (a1.heap.size) _ _ rfl HY3.out.1 _ Tryz.underlying29 rfl (A8 _ _ _ _ _)) rfl ?_
     exact⟨_,rfl,⟨.mk k0 u0 n0 s1 l,B0.2 ⟨_,rfl,(HY3.out.2.1.rwc.mono (fun i hi=> by have h1:=(HY3.out.2.1.lt i hi).1;have h2:=HG3.out;show w.heap.size≤i;omega) (fun cs a _ h=> h.mono fun i hi=> by have h1:=hi.2.1;have h2:=HG3.out;show w.heap.size≤i;omega)).slt⟩⟩,HY3.out.2.2⟩
  ·skip
   have hz1:(s0.size:Int)≤65:=by omega
   have hz2:¬ ((65:Int)<(s0.size:Int)):=by omega
   have hz3:(0:Int)≤(s0.size:Int):=by omega
   have hz4:(s0.size:Int)≤(s0.size:Int):=by omega
   go_enter Tryz.func22,Tryz.ntmps22
   go_upto_region 2 with(first
  | ((with_reducible refine Au w rfl 29 (.tmp 0) rfl (tmC k0 u0 n0 s0 (.slice ka kn kc)) rfl ?_);intro a1 hb hbel hsz;have H1:=hJ2 hb hbel;clear hb hbel hsz)
  | ((with_reducible refine Av a1 rfl 29 rfl (tmC 0 0 0 ⟨#[]⟩ (.slice none 0 0)) Tryz.zeroTm ?_);intro a2 hb hbel hsz;have H2:=hJ3 (H1.out.1.below hbel H1.out.1.lt) (An H1.out.2 hbel (Ah _)) hb;have HG:=hJ2 H1.out.1.lt hb.lt;have c3:=H2.out.1.cell 3;simp only[tmC,Ab,Ac] at c3;clear hb hbel hsz)
  | ((with_reducible refine AI a2 rfl 9 (.tmp 15) (.tmp 14) rfl (w.heap.size) 3 29 _ H2.out.1 rfl (.string _) rfl HLT.out Tryz.sizeStr18 rfl rfl ?_);intro a3 hb hc hs;clear c3))
   try simp only[Al,Ad,Ae,Af]
   generalize hxs:(tmC k0 u0 n0 s0 (.slice ka kn kc):List Value).set 3 _=xs3 at hb
   obtain⟨s1,hx1⟩:∃ s1,xs3=tmC k0 u0 n0 s1 (.slice ka kn kc):=⟨_,by rw[←hxs];rfl⟩
   subst hx1
   have H3:=Ag (show Blk a3 (w.heap.size) 29 (tmC k0 u0 n0 s1 (.slice ka kn kc))∧Blk a3 (a1.heap.size) 29 (tmC 0 0 0 ⟨#[]⟩ (.slice none 0 0))∧Below w.heap.size w a3 from⟨hb,H2.out.2.2.keep hc (fun e=> absurd (show _=_ from e) (by have:=HG.out;omega)),Aw H2.out.2.1 hc (Ah _) (fun k hk=> by have e:=(show _=_ from hk);omega)⟩)
   have HG3:=Ag (show w.heap.size<a1.heap.size∧a1.heap.size<a3.heap.size from⟨HG.out.1,Ak HG.out.2 hc.size⟩)
   have c4:=hb.cell 4
   simp only[tmC,Ab,Ac] at c4
   clear hb hc hs hxs H1 H2 hz1 hz2 hz3 hz4 hsz65 HG
   have H0:=Ag (show Blk a3 (w.heap.size) 29 (tmC k0 u0 n0 s1 (.slice ka kn kc))∧Blk a3 (a1.heap.size) 29 (tmC 0 0 0 ⟨#[]⟩ (.slice none 0 0))∧OwR (TmC (FH a3.heap.size (.slice none 0 0) a3)) 5 29 a3.heap.size a3 (.slice none 0 0) ([])∧a3.heap.size≤a3.heap.size∧Below w.heap.size w a3 from⟨H3.out.1,H3.out.2.1,OwR.nil,Ah _,H3.out.2.2⟩)
   clear H3
   go_wp2_with fail
   clear c4
   go_loopw [5,19] (fun s5 s19 wr=> ∃ (j:Nat) (l:List Tm) (oz:Option Addr) (pz:Nat),s19=.int .i64 j∧j≤kn∧s5=.slice oz l.length pz∧Hid (l.length≤j∧l.length≤3)∧Hid (Blk wr (w.heap.size) 29 (tmC k0 u0 n0 s1 (.slice ka kn kc))∧Blk wr (a1.heap.size) 29 (tmC 0 0 0 ⟨#[]⟩ (.slice none 0 0))∧OwR (TmC (FH a3.heap.size (.slice oz l.length pz) wr)) 5 29 a3.heap.size wr (.slice oz l.length pz) (l)∧a3.heap.size≤wr.heap.size∧Below w.heap.size w wr)) (fun _ s19 _=> kn - (intOf s19).toNat)
   case atStart=> exact⟨0,[],none,0,rfl,Nat.zero_le _,rfl,Ag ⟨Ah _,by simp⟩,H0⟩
   case round=>
    clear H0
    obtain⟨j,l,oz,pz,rfl,hj,rfl,HT,HO⟩:=hrel
    by_cases hlt:j<kn
    ·skip
     have hjl:j<ks.length:=by rw[HN.out];exact hlt
     have hjz:(j:Int)<(kn:Int):=by omega
     have hj0:(0:Int)≤(j:Int):=by omega
     obtain⟨b,o,xcs,rfl,-,-,hlen,hra,hxc⟩:=HKS.out.get hjl
     generalize ks[j]=x at hxc
     have HXC:=Ag hxc
     have HXO:=Ag hxc.one
     have HZL:=Ag (show xcs.length=(tmC 0 0 0 ⟨#[]⟩ (.slice none 0 0)).length from hlen)
     have HRA:=Ag (Ai (show wr.rangeAt b (o+j* 5) xcs from fun i z hz=> (HO.out.2.2.2.2.cell (Am (hra i z hz))).trans (hra i z hz)) hlen)
     clear hra hlen hxc hjl
     go_upto_region 6 with(first
  | (with_reducible refine Ap rfl 29 (.tmp 22) rfl b (o+j* 5) rfl xcs _ HRA.out.1 Tryz.underlying29 rfl (At Tryz.infoTm HRA.out.2) ?_)
  | ((with_reducible refine Av wr rfl 29 rfl (tmC 0 0 0 ⟨#[]⟩ (.slice none 0 0)) Tryz.zeroTm ?_);intro x2 hb hbel hsz;have HX2:=hJ2 hbel hb;clear hb hbel hsz)
  | ((with_reducible refine Ao x2 rfl 29 (.tmp 7) (.tmp 23) rfl (wr.heap.size) 29 (tmC 0 0 0 ⟨#[]⟩ (.slice none 0 0)) (xcs) HX2.out.2 rfl rfl HZL.out (At Tryz.infoTm HRA.out.2) HXO.out ?_);intro x3 hb hc hs;have HX3:=hJ2 (Aw HX2.out.1 hc (Ah _) (fun k hk=> by have e:=(show _=_ from hk);omega)) hb;clear hb hc hs))
     try simp only[Al,Ad,Ae,Af]
     have hdec:(j<3∧0<n)∨¬ (j<3∧0<n):=Classical.em _
     rcases hdec with h3|h3
     ·skip
      have h31:(j:Int)<3:=by omega
      have h32:(0:Int)<(n:Int):=by omega
      have hdm:((n:Int) - 1)=((n - 1:Nat):Int):=by omega
      have HSM:=Ag (show Calls Tryz.prog 22 #[.agg xcs.toArray,.int .i64 (n - 1:Nat)] x3 (fun e w'=> ∃ cs' t',e=.returned (.agg cs'.toArray)∧TmC (x3.heap.size≤·) w' cs' t'∧Below x3.heap.size x3 w') from HIH.out (n - 1) (by omega) (by omega) x xcs F x3 (HXC.out.below (An HO.out.2.2.2.2 HX3.out.1 (Ah _))))
      go_wp2_with (first
  | (with_reducible refine Ap rfl 29 (.tmp 7) rfl (wr.heap.size) 0 rfl (xcs) _ (As HX3.out.2) Tryz.underlying29 rfl (At Tryz.infoTm HRA.out.2) ?_))
      try rw[hdm]
      refine HSM.out.mono ?_
      rintro e' x4 ⟨tcn,tn,rfl,ht,hb⟩
      have HX4:=hJ2 (An HX3.out.1 hb (Ah _)) ht
      have HN5:=Ag ht.len
      have HFT:=Ag (fun (W:World) (h:TmC (x3.heap.size≤·) W tcn tn)=> show TmC (FH a3.heap.size (.slice oz l.length pz) W) W tcn tn from(TmC.old' _ _ h).mono fun i hi=> ⟨fun e=> by
       have h1:=(HO.out.2.2.1.lt i e).2
       have h2:=HX3.out.1.size
       have h3:x3.heap.size≤i:=hi.1
       omega,by
       have h1:=HX3.out.1.size
       have h2:=HO.out.2.2.2.1
       have h3:x3.heap.size≤i:=hi.1
       omega,hi.2⟩)
      clear ht hb HX2
      go_wp2_with (first
  | ((with_reducible refine DE x4 rfl (.tmp 34) rfl (tcn) HN5.out rfl ?_);intro x6 hb hbel hsz;have HX6:=hJ3 (An HX4.out.1 hbel (Ah _)) (HX4.out.2.below hbel) hb;clear hb hbel hsz)
  | (at_builtin;refine BX @DS Tryz.underlying27 Tryz.infoRT rfl (by omega) (by omega) (fun h=> h.len) (fun h=> h.one) rfl (.tmp 30) (.tmp 35) rfl (HO.out.2.2.1.fhQ @DS HX6.out.1) rfl rfl HX6.out.2.2 (HFT.out _ HX6.out.2.1) (by have:=HT.out;omega) (Aj HO.out.2.2.2.1 HX6.out.1.size) ?_))
      intro oy py x7 hrow hc
      have HB7:=Ag (show Below wr.heap.size wr x6 from HX6.out.1)
      have HX7:=hJ5 ((HO.out.1.below HB7.out HO.out.1.lt).keep hc (fun e=> by have h1:=(HO.out.2.2.1.lt _ e).1;have h2:=HG3.out;omega)) ((HO.out.2.1.below HB7.out HO.out.2.1.lt).keep hc (fun e=> by have h1:=(HO.out.2.2.1.lt _ e).1;have h2:=HG3.out;omega)) hrow (Aj HO.out.2.2.2.1 (Aj HB7.out.size hc.size)) (Aw (An HO.out.2.2.2.2 HB7.out (Ah _)) hc (Ah _) (fun i e=> by have h1:=(HO.out.2.2.1.lt _ e).1;have h2:=HG3.out;omega))
      clear hrow hc
      go_wp2_with fail
      go_roundw
      case measure=> simp[intOf];omega
      case rel=>
       have e:(l ++ [tn]).length=l.length+1:=by simp
       exact⟨j+1,l ++ [tn],oy,py,by go_num,by omega,by rw[e],Ag (by rw[e];have:=HT.out;omega),by rw[e];exact HX7⟩
     ·skip
      by_cases h33:(j:Int)<3
      ·skip
       have h34:¬ (0:Int)<(n:Int):=by omega
       go_wp2_with fail
       go_roundw
       case measure=> simp[intOf];omega
       case rel=> exact⟨j+1,l,oz,pz,by go_num,by omega,rfl,Ag (by have:=HT.out;omega),Ag ⟨HO.out.1.below HX3.out.1 HO.out.1.lt,HO.out.2.1.below HX3.out.1 HO.out.2.1.lt,HO.out.2.2.1.fhQ @DS HX3.out.1,Aj HO.out.2.2.2.1 HX3.out.1.size,An HO.out.2.2.2.2 HX3.out.1 (Ah _)⟩⟩
      ·skip
       go_wp2_with fail
       go_roundw
       case measure=> simp[intOf];omega
       case rel=> exact⟨j+1,l,oz,pz,by go_num,by omega,rfl,Ag (by have:=HT.out;omega),Ag ⟨HO.out.1.below HX3.out.1 HO.out.1.lt,HO.out.2.1.below HX3.out.1 HO.out.2.1.lt,HO.out.2.2.1.fhQ @DS HX3.out.1,Aj HO.out.2.2.2.1 HX3.out.1.size,An HO.out.2.2.2.2 HX3.out.1 (Ah _)⟩⟩
    ·have hge:¬ (j:Int)<(kn:Int):=by omega
     have HL4:=Ag (show 4<(tmC k0 u0 n0 s1 (.slice ka kn kc):List Value).length from by simp[tmC])
     go_wp2_with (first
  | ((with_reducible refine AI wr rfl 27 (.tmp 39) (.tmp 38) rfl (w.heap.size) 4 29 _ HO.out.1 rfl (.slice oz l.length pz) rfl HL4.out Tryz.sizeTs18 rfl rfl ?_);intro y2 hb hc hs;have HY2:=Ag (show Blk y2 (w.heap.size) 29 (tmC k0 u0 n0 s1 (.slice oz l.length pz))∧Blk y2 (a1.heap.size) 29 (tmC 0 0 0 ⟨#[]⟩ (.slice none 0 0))∧OwR (TmC (FH a3.heap.size (.slice oz l.length pz) y2)) 5 29 a3.heap.size y2 (.slice oz l.length pz) (l)∧Below w.heap.size w y2 from⟨hb,HO.out.2.1.keep hc (fun e=> absurd (show _=_ from e) (by have:=HG3.out;omega)),HO.out.2.2.1.fhS @DS hc (by have:=HG3.out;omega) (by have:=HG3.out;omega),Aw HO.out.2.2.2.2 hc (Ah _) (fun k hk=> by have e:=(show _=_ from hk);have:=HG3.out;omega)⟩);clear hb hc hs)
  | (with_reducible refine Ap rfl 29 (.tmp 2) rfl (w.heap.size) 0 rfl (tmC k0 u0 n0 s1 (.slice oz l.length pz)) _ (As HY2.out.1) Tryz.underlying29 rfl (A8 _ _ _ _ _) ?_)
  | ((with_reducible refine Ao y2 rfl 29 (.tmp 4) (.tmp 40) rfl (a1.heap.size) 29 (tmC 0 0 0 ⟨#[]⟩ (.slice none 0 0)) (tmC k0 u0 n0 s1 (.slice oz l.length pz)) HY2.out.2.1 rfl rfl rfl (A8 _ _ _ _ _) (AR _ _ _ _ _ _ _) ?_);intro y3 hb hc hs;have HY3:=hJ3 hb (HY2.out.2.2.1.fhS @DS hc (by have:=HG3.out;omega) (by have:=HG3.out;omega)) (Aw HY2.out.2.2.2 hc (Ah _) (fun k hk=> by have e:=(show _=_ from hk);have:=HG3.out;omega));clear hb hc hs))
     refine bodyPost_ret (AA Tryz.results22 _ _ (a1.heap.size) _ _ rfl HY3.out.1 _ Tryz.underlying29 rfl (A8 _ _ _ _ _)) rfl ?_
     exact⟨_,rfl,⟨.mk k0 u0 n0 s1 l,B0.2 ⟨_,rfl,(HY3.out.2.1.rwc.mono (fun i hi=> by have h1:=(HY3.out.2.1.lt i hi).1;have h2:=HG3.out;show w.heap.size≤i;omega) (fun cs a _ h=> h.mono fun i hi=> by have h1:=hi.2.1;have h2:=HG3.out;show w.heap.size≤i;omega)).slt⟩⟩,HY3.out.2.2⟩
end Go.Proofs.YtgdlfiphihaooaaGreat

import Derived.Test.YtgdlfiphihaooaaGreatYq28
set_option linter.unusedSimpArgs false
set_option linter.unusedVariables false
set_option maxRecDepth 100000
set_option maxHeartbeats 8000000
open _root_.List renaming getElem?_toArray→Aa,getElem?_cons_zero→Ab,getElem?_cons_succ→Ac,setIfInBounds_toArray→Ad,set_cons_zero→Ae,set_cons_succ→Af
open _root_.Go.Lib renaming hid→Ag
open _root_.Nat renaming le_refl→Ah,le_trans→Aj,lt_of_lt_of_le→Ak
open _root_.And renaming intro→Ai
open _root_.Go.Act renaming put→Al
namespace Go.Proofs.YtgdlfiphihaooaaGreat
open Go Go.RowKit
def doM (s:IdM) (p:OpM):IdM × ResM × Int:=if Es s=true then (if opB p=true then ((Bp s p).1,(Bp s p).2,0) else (C5,A3 0,281)) else (C5,A3 0,282)
def DoP (ys:List Nat) (w:World) (r:IdM × ResM × Int) (e:Ending) (w':World):Prop:=
 ∃ cs tc,e=.returned (.tuple #[.agg cs.toArray,.agg (AD r.2.1.e r.2.1.v r.2.1.u tc).toArray,.int .i64 r.2.2])∧IdC (·∉ys) w' cs r.1∧TmC (·∉ys) w' tc r.2.1.b∧Below w.heap.size w w'
theorem KY (s:IdM) (p:OpM):(∃ r,Hp s [p]=((doM s p).1,[r],0)∧(doM s p).2.1=r∧(doM s p).2.2=0)∨(∃ e,Hp s [p]=(C5,[],e)∧doM s p=(C5,A3 0,e)∧e≠0):=by
 unfold Hp doM
 by_cases h1:Es s=true
 ·rw[if_pos h1,if_pos h1]
  unfold goM
  by_cases h2:opB p=true
  ·rw[if_pos h2,if_pos h2]
   exact .inl ⟨_,rfl,rfl,rfl⟩
  ·rw[if_neg h2,if_neg h2]
   exact .inr ⟨_,rfl,rfl,by omega⟩
 ·rw[if_neg h1,if_neg h1]
  exact .inr ⟨_,rfl,rfl,by omega⟩
theorem IdC.len {F:Nat→Prop} {w:World} {cs:List Value} {s:IdM} (h:IdC F w cs s):cs.length=3:=by
 obtain⟨_,_,_,rfl,-⟩:=h;rfl
theorem IdC.lo {F:Nat→Prop} {w:World} {cs:List Value} {s:IdM} (h:IdC F w cs s) (ys:List Nat) (hF:∀ k,F k→k∉ys):IdC (Lo ys w) w cs s:=by
 obtain⟨vf,vc,vw,rfl,h1⟩:=id h
 exact⟨vf,vc,vw,rfl,h.old' hF⟩
theorem DK {P:Program} {fn:Func} {p p2 x:Tmp} {ty ty2:TypeId} (h:fn.results=#[.cell p ty,.cell p2 ty2,.tmp x]) (tmps:Array Value) (w:World) (g:Nat) (e:TypeId) (xs:List Value) (hp:tmps.getD p undef=.pointer (some ⟨g,0,none⟩)) (hb:Blk w g e xs) (d:TypeDesc)
  (hu:P.underlying ty=some d) (hd:d.isRow=true) (hi:(P.info? ty).map (·.size)=some xs.length) (g2:Nat) (e2:TypeId) (xs2:List Value) (hp2:tmps.getD p2 undef=.pointer (some ⟨g2,0,none⟩)) (hb2:Blk w g2 e2 xs2) (d2:TypeDesc)
  (hu2:P.underlying ty2=some d2) (hd2:d2.isRow=true) (hi2:(P.info? ty2).map (·.size)=some xs2.length) (v':Value) (hv':tmps.getD x undef=v'):(results fn tmps).run P w=.ok (.tuple #[.agg xs.toArray,.agg xs2.toArray,v']) w:=by
 have hl:=run_loadVar_mid (P:=P) w g 0 ty xs d (fun j v hv=> by rw[Nat.zero_add,hb.cell];exact hv) hu hd hi
 have hl2:=run_loadVar_mid (P:=P) w g2 0 ty2 xs2 d2 (fun j v hv=> by rw[Nat.zero_add,hb2.cell];exact hv) hu2 hd2 hi2
 have e:(results fn tmps).run P w=((asAddr (tmps.getD p undef)).run P w).andThen fun a w₁=> ((loadVar ty a).run P w₁).andThen fun v w₂=> ((asAddr (tmps.getD p2 undef)).run P w₂).andThen fun a w₁=> ((loadVar ty2 a).run P w₁).andThen fun v2 w₂=> .ok (.tuple #[v,v2,tmps.getD x undef]) w₂:=by
  simp only[results,h]
  simp[Sem.run_bind,Result.andThen]
 rw[e,hp,hv',hp2]
 simp only[asAddr,Sem.run_pure,Result.andThen_ok,hl,hl2]
theorem F0 (w:World) {ops:Array Oper} {rest:List Oper} {o:Oper} {a:Act} {Q:Exit→Act→World→Prop} (hgd:o.guard=none) (x:Operand) (ho:o.op=.buildSlice 53 1 #[(0,x)]) (cs:List Value) (hcs:cs.length=11)
  (hx:a.eval x=.agg cs.toArray) (h:∀ w',Blk w' w.heap.size 31 cs→Below w.heap.size w w'→w'.heap.size=w.heap.size+1→wpList Tryz.prog ops Q rest (a.put o.dst (.slice (some ⟨w.heap.size,0,none⟩) 1 1)) w'):wpList Tryz.prog ops Q (o::rest) a w:=
 Bk w hgd 53 x ho Tryz.underlying53 (fun w=> by kernel_rfl) Tryz.zeroOp (by decide) (by decide) cs hcs hx h
theorem B0 {w w1 w2:World} (h:Below w.heap.size w w1) (hc:Ch (·=w.heap.size) w1 w2):Below w.heap.size w w2:=Aw h hc (Ah _) (fun k hk=> by have e:=(show _=_ from hk);omega)
theorem KZ (BG:∀ {s:IdM} {o:OpM},ChkP s→opB o=true→ChkP (Bp s o).1) (s:IdM) (cs:List Value) (p:OpM) (tco:List Value) (F:Nat→Prop) (ys:List Nat) (w:World) (hs:IdC F w cs s) (hF:∀ k,F k→k∉ys) (hys:∀ k∈ys,k<w.heap.size) (hl:s.cs.length≤1000000000)
  (ho:TmC F w tco p.b):Calls Tryz.prog 9 #[.agg cs.toArray,.agg (opC p tco).toArray] w (DoP ys w (doM s p)):=by
 have HY:=Ag (show ∀ k∈ys,k<w.heap.size from hys)
 have HID:=Ag (show IdC (Lo ys w) w cs s∧cs.length=3∧(∀ v∈cs,v.oneCell'=true) from⟨hs.lo ys hF,hs.len,hs.one⟩)
 have HT:=Ag (show TmC (Lo ys w) w tco p.b from(TmC.old' _ _ ho).mono fun k hk=> ⟨hF k hk.1,hk.2⟩)
 have HTL:=Ag ho.len
 have HOL:=Ag (show(opC p tco).length=11 from by simp[opC,HTL.out])
 have HL:=Ag hl
 have HRM:=Ag (KY s p)
 obtain⟨R,hR⟩:∃ R,doM s p=R:=⟨_,rfl⟩
 have HR:=Ag hR
 rw[hR]
 clear hs hF hys hl ho hR
 go_enter Tryz.func9,Tryz.ntmps9
 go_upto_region 1 with(first
  | ((with_reducible refine Au w rfl 26 (.tmp 0) rfl (cs) rfl ?_);intro a1 hb hbel hsz;have H1:=hJ2 hb hbel;clear hb hbel hsz)
  | ((with_reducible refine Au a1 rfl 31 (.tmp 1) rfl (opC p tco) rfl ?_);intro a2 hb hbel hsz;have H2:=hJ3 (H1.out.1.below hbel H1.out.1.lt) (An H1.out.2 hbel (Ah _)) hb;clear hb hbel hsz)
  | ((with_reducible refine Av a2 rfl 26 rfl ([(.slice none 0 0),(.slice none 0 0),(.slice none 0 0)]) Tryz.zeroId3b ?_);intro a3 hb hbel hsz;have H3:=hJ4 (H2.out.1.below hbel H2.out.1.lt) (An H2.out.2.1 hbel (Ah _)) (H2.out.2.2.below hbel H2.out.2.2.lt) hb;clear hb hbel hsz)
  | ((with_reducible refine Av a3 rfl 37 rfl (AD 0 0 0 (tmC 0 0 0 ⟨#[]⟩ (.slice none 0 0))) Tryz.zeroRs ?_);intro a4 hb hbel hsz;have H4:=hJ5 (H3.out.1.below hbel H3.out.1.lt) (An H3.out.2.1 hbel (Ah _)) (H3.out.2.2.1.below hbel H3.out.2.2.1.lt) (H3.out.2.2.2.below hbel H3.out.2.2.2.lt) hb;have HG:=hJ4 H1.out.1.lt H2.out.2.2.lt H3.out.2.2.2.lt hb.lt;clear hb hbel hsz))
 try simp only[Al,Ad,Ae,Af]
 clear H1 H2 H3
 go_wp2_with (first
  | (with_reducible refine Ap rfl 26 (.tmp 2) rfl (w.heap.size) 0 rfl (cs) _ (As H4.out.1) Tryz.underlying26 rfl (At Tryz.infoId HID.out.2.1) ?_)
  | (with_reducible refine Ap rfl 31 (.tmp 3) rfl (a1.heap.size) 0 rfl (opC p tco) _ (As H4.out.2.2.1) Tryz.underlying31 rfl (Bs HTL.out) ?_)
  | ((with_reducible refine F0 a4 rfl (.tmp 12) rfl (opC p tco) HOL.out rfl ?_);intro a5 hb hbel hsz;have H5:=hJ6 (H4.out.1.below hbel H4.out.1.lt) (An H4.out.2.1 hbel (Ah _)) (H4.out.2.2.1.below hbel H4.out.2.2.1.lt) (H4.out.2.2.2.1.below hbel H4.out.2.2.2.1.lt) (H4.out.2.2.2.2.below hbel H4.out.2.2.2.2.lt) hb;clear hb hbel hsz))
 have HRUN:=Ag (JF BG s cs [p] (.slice (some ⟨a4.heap.size,0,none⟩) 1 1) (Lo ys w) (a3.heap.size::a2.heap.size::ys) a5 (HID.out.1.below H5.out.2.1) (fun k hk e=> by
  have h1:=HG.out
  have h2:=hk.2
  rcases List.mem_cons.1 e with e|e
  ·omega
  rcases List.mem_cons.1 e with e|e
  ·omega
  ·exact hk.1 e) (fun k e=> by
  have h1:=HG.out
  have h3:=H5.out.2.2.2.2.1.lt
  have h4:=H5.out.2.1.size
  rcases List.mem_cons.1 e with e|e
  ·omega
  rcases List.mem_cons.1 e with e|e
  ·omega
  ·have:=HY.out k e;omega) HL.out (fun _=> True) (RwC.of_one H5.out.2.2.2.2.2 trivial HOL.out ⟨tco,rfl,HT.out.below H5.out.2.1⟩) (by show 1≤1000;omega))
 refine HRUN.out.mono ?_
 rintro e' b1 ⟨cs',vr,rfl,hid',hrw,hb⟩
 have H6:=hJ5 (H5.out.1.below hb H5.out.1.lt) (An H5.out.2.1 hb (Ah _)) (H5.out.2.2.1.below hb H5.out.2.2.1.lt) (H5.out.2.2.2.1.below hb H5.out.2.2.2.1.lt) (H5.out.2.2.2.2.1.below hb H5.out.2.2.2.2.1.lt)
 have HB5:=Ag (show a4.heap.size≤b1.heap.size from Aj (Nat.le_of_lt H5.out.2.2.2.2.2.lt) hb.size)
 have HL1:=Ag hid'.len
 have HL1z:=Ag (show cs'.length=([(.slice none 0 0),(.slice none 0 0),(.slice none 0 0)]:List Value).length from HL1.out)
 have HO1:=Ag hid'.one
 have HID1:=Ag hid'
 have HRW:=Ag hrw
 clear hb hid' hrw HRUN H4 H5
 have HGS:=Ag (show a4.heap.size≤b1.heap.size from HB5.out)
 rcases HRM.out with⟨r,h1,h2,h3⟩|⟨er,h1,h2,h3⟩
 ·have HQ:=Ag (show(doM s p).1=R.1∧r=R.2.1∧0=R.2.2 from by rw[←HR.out];exact⟨rfl,h2.symm,h3.symm⟩)
  rw[h1] at HID1 HRW ⊢
  clear h1 h2 h3 HRM
  go_wp2_with (first
  | ((with_reducible refine Av b1 rfl 26 rfl ([(.slice none 0 0),(.slice none 0 0),(.slice none 0 0)]) Tryz.zeroId3b ?_);intro b2 hb hbel hsz;have H7:=hJ6 (H6.out.1.below hbel H6.out.1.lt) (An H6.out.2.1 hbel (Ah _)) (H6.out.2.2.1.below hbel H6.out.2.2.1.lt) (H6.out.2.2.2.1.below hbel H6.out.2.2.2.1.lt) (H6.out.2.2.2.2.below hbel H6.out.2.2.2.2.lt) hb;have HGB:=Ag (show b1.heap.size<b2.heap.size from hb.lt);have HBL:=Ag hbel;clear hb hbel hsz)
  | ((with_reducible refine Ao b2 rfl 26 (.tmp 7) (.tmp 15) rfl (b1.heap.size) 26 ([(.slice none 0 0),(.slice none 0 0),(.slice none 0 0)]) (cs') H7.out.2.2.2.2.2 rfl rfl HL1z.out (At Tryz.infoId HL1.out) HO1.out ?_);intro b3 hb hc hs;have H8:=hJ4 (H7.out.2.2.2.1.keep hc (fun e=> absurd (show _=_ from e) (by have:=HG.out;have:=HGS.out;omega))) (H7.out.2.2.2.2.1.keep hc (fun e=> absurd (show _=_ from e) (by have:=HG.out;have:=HGS.out;omega))) hb (Aw H7.out.2.1 hc (Ah _) (fun k hk=> by have e:=(show _=_ from hk);have:=HG.out;have:=HGS.out;omega));have HB3:=Ag (B0 HBL.out hc);clear hb hc hs))
  obtain⟨va,vcap,rfl,-⟩:=HRW.out.shape
  obtain⟨vb,vo,rc,rfl,hvb,-,hrl,hra,hrs⟩:=HRW.out.get (j:=0) (by show 0<1;omega)
  obtain⟨rtc,rfl,hrt⟩:=hrs
  have HVB:=Ag hvb
  have HRT:=Ag (Ai hrt.len hrt.one)
  have HR8:=Ag (show(AD r.e r.v r.u rtc).length=(AD 0 0 0 (tmC 0 0 0 ⟨#[]⟩ (.slice none 0 0))).length from by simp[AD,HRT.out.1,tmC])
  have HK:=Ag (show IdC (·∉(a3.heap.size::a2.heap.size::ys)) b3 cs' (doM s p).1∧TmC (·∉(a3.heap.size::a2.heap.size::ys)) b3 rtc r.b∧Blk b3 (a2.heap.size) 26 ([(.slice none 0 0),(.slice none 0 0),(.slice none 0 0)])∧Blk b3 (a3.heap.size) 37 (AD 0 0 0 (tmC 0 0 0 ⟨#[]⟩ (.slice none 0 0)))∧Below w.heap.size w b3∧b3.rangeAt (b1.heap.size) 0 cs'∧b3.rangeAt vb vo (AD r.e r.v r.u rtc) from⟨HID1.out.below HB3.out,TmC.below hrt HB3.out,H8.out.1,H8.out.2.1,H8.out.2.2.2,As H8.out.2.2.1,AF (by rw[Nat.zero_mul,Nat.add_zero] at hra;exact hra) HB3.out⟩)
  clear hvb hrl hra hrt H8 HID1 HRW H6 H7
  go_wp2_with fail
  refine Az (fun W=> W.rangeAt (b1.heap.size) 0 cs'∧W.rangeAt vb vo (AD r.e r.v r.u rtc)) [0,1,2,3] 3 (by kernel_rfl) rfl (by kernel_rfl) (by kernel_rfl) ⟨HK.out.2.2.2.2.2.1,HK.out.2.2.2.2.2.2⟩ ?_
  iterate 4(refine' AH.run ?_ ?_ ?_ ?_;rotate_left 2;(simp only[Aa,Ab,Ac];rfl);rfl;(rintro w' ⟨k0,k1⟩;first|exact AA rfl rfl k0 Tryz.underlying26 rfl (At Tryz.infoId HL1.out)|exact AA rfl rfl k1 Tryz.underlying37 rfl (Ax HRT.out.1)|(go_simp;with_reducible rfl));simp only[Al,Ad,Ae,Af])
  have sm:=(Sm.refl b3).drew
  have HV2:=hJ7 (HK.out.1.below (sm.below _)) (HK.out.2.1.below (sm.below _)) (HK.out.2.2.1.below (sm.below _) HK.out.2.2.1.lt) (HK.out.2.2.2.1.below (sm.below _) HK.out.2.2.2.1.lt) (An HK.out.2.2.2.2.1 (sm.below _) (Ah _)) (AF HK.out.2.2.2.2.2.1 (sm.below _)) (AF HK.out.2.2.2.2.2.2 (sm.below _))
  clear sm
  generalize b3.drew=v1 at HV2 ⊢
  refine' Ar 4 (by kernel_rfl) ?_ ?_;rotate_left;(simp only[Aa,Ab,Ac];rfl)
  try simp only[Al,Ad,Ae,Af]
  refine Ao v1 rfl 26 (.tmp 4) (.tmp 23) rfl (a2.heap.size) 26 ([(.slice none 0 0),(.slice none 0 0),(.slice none 0 0)]) (cs') HV2.out.2.2.1 rfl rfl HL1.out (At Tryz.infoId HL1.out) HO1.out ?_
  intro u3 hb hc hs
  have K4:=Ag (show IdC (·∉(a3.heap.size::a2.heap.size::ys)) u3 cs' (doM s p).1∧TmC (·∉(a3.heap.size::a2.heap.size::ys)) u3 rtc r.b∧Blk u3 (a2.heap.size) 26 (cs')∧Blk u3 (a3.heap.size) 37 (AD 0 0 0 (tmC 0 0 0 ⟨#[]⟩ (.slice none 0 0)))∧Below w.heap.size w u3∧u3.rangeAt (b1.heap.size) 0 cs'∧u3.rangeAt vb vo (AD r.e r.v r.u rtc) from⟨(HV2.out.1.keep' hc (fun k hk e=> hk (by have e:=(show _=_ from e);rw[e];simp)) (fun _ h=> h)),(HV2.out.2.1.keep hc (fun k hk e=> hk (by have e:=(show _=_ from e);rw[e];simp))),hb,HV2.out.2.2.2.1.keep hc (fun e=> absurd (show _=_ from e) (by have:=HG.out;omega)),(Aw HV2.out.2.2.2.2.1 hc (Ah _) (fun k hk=> by have e:=(show _=_ from hk);have:=HG.out;omega)),(BJ HV2.out.2.2.2.2.2.1 hc (fun e=> absurd (show _=_ from e) (by have:=HG.out;have:=HGS.out;omega))),(BJ HV2.out.2.2.2.2.2.2 hc (fun e=> HVB.out (by have e:=(show _=_ from e);rw[e];simp)))⟩)
  clear hb hc hs
  refine QK.normal ⟨⟨K4.out.2.2.2.2.2.1,K4.out.2.2.2.2.2.2⟩,?_⟩
  refine' Ar 5 (by kernel_rfl) ?_ ?_;rotate_left;(simp only[Aa,Ab,Ac];rfl)
  try simp only[Al,Ad,Ae,Af]
  refine Ao u3 rfl 37 (.tmp 5) (.tmp 26) rfl (a3.heap.size) 37 (AD 0 0 0 (tmC 0 0 0 ⟨#[]⟩ (.slice none 0 0))) (AD r.e r.v r.u rtc) K4.out.2.2.2.1 rfl rfl HR8.out (Ax HRT.out.1) (AN HRT.out.2) ?_
  intro u5 hb hc hs
  have K6:=Ag (show IdC (·∉(a3.heap.size::a2.heap.size::ys)) u5 cs' (doM s p).1∧TmC (·∉(a3.heap.size::a2.heap.size::ys)) u5 rtc r.b∧Blk u5 (a2.heap.size) 26 (cs')∧Blk u5 (a3.heap.size) 37 (AD r.e r.v r.u rtc)∧Below w.heap.size w u5∧u5.rangeAt (b1.heap.size) 0 cs'∧u5.rangeAt vb vo (AD r.e r.v r.u rtc) from⟨(K4.out.1.keep' hc (fun k hk e=> hk (by have e:=(show _=_ from e);rw[e];simp)) (fun _ h=> h)),(K4.out.2.1.keep hc (fun k hk e=> hk (by have e:=(show _=_ from e);rw[e];simp))),K4.out.2.2.1.keep hc (fun e=> absurd (show _=_ from e) (by have:=HG.out;omega)),hb,(Aw K4.out.2.2.2.2.1 hc (Ah _) (fun k hk=> by have e:=(show _=_ from hk);have:=HG.out;omega)),(BJ K4.out.2.2.2.2.2.1 hc (fun e=> absurd (show _=_ from e) (by have:=HG.out;have:=HGS.out;omega))),(BJ K4.out.2.2.2.2.2.2 hc (fun e=> HVB.out (by have e:=(show _=_ from e);rw[e];simp)))⟩)
  clear hb hc hs
  refine QK.normal ⟨⟨K6.out.2.2.2.2.2.1,K6.out.2.2.2.2.2.2⟩,?_⟩
  refine' Ar 6 (by kernel_rfl) ?_ ?_;rotate_left;(simp only[Aa,Ab,Ac];rfl)
  try simp only[Al,Ad,Ae,Af]
  go_wp2_with fail
  refine QK.normal ⟨⟨K6.out.2.2.2.2.2.1,K6.out.2.2.2.2.2.2⟩,?_⟩
  refine wpAnyH_done (by kernel_rfl) ?_ _
  refine NoPanic.normal ?_
  go_wp2_with fail
  refine bodyPost_ret (DK Tryz.results9 _ _ (a2.heap.size) _ _ rfl K6.out.2.2.1 _ Tryz.underlying26 rfl (At Tryz.infoId HL1.out) (a3.heap.size) _ _ rfl K6.out.2.2.2.1 _ Tryz.underlying37 rfl (Ax HRT.out.1) _ rfl) rfl ?_
  obtain⟨q1,q2,q3⟩:=HQ.out
  refine⟨cs',rtc,by rw[←q2,←q3];rfl,?_,?_,K6.out.2.2.2.2.1⟩
  ·rw[←q1]
   exact K6.out.1.keep' (Ch.refl (fun _=> False) _) (fun _ _ e=> e) (fun k hk e=> hk (List.mem_cons_of_mem _ (List.mem_cons_of_mem _ e)))
  ·rw[←q2]
   exact TmC.mono K6.out.2.1 (fun k hk e=> hk (List.mem_cons_of_mem _ (List.mem_cons_of_mem _ e)))
 ·have HQ:=Ag (show R=(C5,A3 0,er) from by rw[←HR.out];exact h2)
  rw[h1]
  have h3b:decide (er=0)=false:=decide_eq_false h3
  clear h1 h2 HRM HID1 HRW
  go_wp2_with (first
  | ((with_reducible refine Av b1 rfl 26 rfl ([(.slice none 0 0),(.slice none 0 0),(.slice none 0 0)]) Tryz.zeroId3b ?_);intro b2 hb hbel hsz;have H7:=hJ6 (H6.out.1.below hbel H6.out.1.lt) (An H6.out.2.1 hbel (Ah _)) (H6.out.2.2.1.below hbel H6.out.2.2.1.lt) (H6.out.2.2.2.1.below hbel H6.out.2.2.2.1.lt) (H6.out.2.2.2.2.below hbel H6.out.2.2.2.2.lt) hb;have HGB:=Ag (show b1.heap.size<b2.heap.size from hb.lt);have HBL:=Ag hbel;clear hb hbel hsz)
  | ((with_reducible refine Ao b2 rfl 26 (.tmp 7) (.tmp 15) rfl (b1.heap.size) 26 ([(.slice none 0 0),(.slice none 0 0),(.slice none 0 0)]) (cs') H7.out.2.2.2.2.2 rfl rfl HL1z.out (At Tryz.infoId HL1.out) HO1.out ?_);intro b3 hb hc hs;have H8:=hJ4 (H7.out.2.2.2.1.keep hc (fun e=> absurd (show _=_ from e) (by have:=HG.out;have:=HGS.out;omega))) (H7.out.2.2.2.2.1.keep hc (fun e=> absurd (show _=_ from e) (by have:=HG.out;have:=HGS.out;omega))) hb (Aw H7.out.2.1 hc (Ah _) (fun k hk=> by have e:=(show _=_ from hk);have:=HG.out;have:=HGS.out;omega));have HB3:=Ag (B0 HBL.out hc);clear hb hc hs)
  | (with_reducible refine Ci rfl rfl ?_)
  | (with_reducible refine Bb rfl rfl ?_)
  | ((with_reducible refine Ao b3 rfl 26 (.tmp 4) (.tmp 20) rfl (a2.heap.size) 26 ([(.slice none 0 0),(.slice none 0 0),(.slice none 0 0)]) ([(.slice none 0 0),(.slice none 0 0),(.slice none 0 0)]) H8.out.1 rfl rfl rfl (At Tryz.infoId rfl) Jo ?_);intro b4 hb hc hs;have H9:=hJ3 hb (H8.out.2.1.keep hc (fun e=> absurd (show _=_ from e) (by have:=HG.out;have:=HGS.out;omega))) (Aw H8.out.2.2.2 hc (Ah _) (fun k hk=> by have e:=(show _=_ from hk);have:=HG.out;omega));clear hb hc hs)
  | ((with_reducible refine Ao b4 rfl 37 (.tmp 5) (.tmp 21) rfl (a3.heap.size) 37 (AD 0 0 0 (tmC 0 0 0 ⟨#[]⟩ (.slice none 0 0))) (AD 0 0 0 (tmC 0 0 0 ⟨#[]⟩ (.slice none 0 0))) H9.out.2.1 rfl rfl rfl (Ax rfl) (AN (AS _ _ _ _ _ _ _)) ?_);intro b5 hb hc hs;have HX:=hJ3 (H9.out.1.keep hc (fun e=> absurd (show _=_ from e) (by have:=HG.out;have:=HGS.out;omega))) hb (Aw H9.out.2.2 hc (Ah _) (fun k hk=> by have e:=(show _=_ from hk);have:=HG.out;omega));clear hb hc hs))
  refine bodyPost_ret (DK Tryz.results9 _ _ (a2.heap.size) _ _ rfl HX.out.1 _ Tryz.underlying26 rfl (At Tryz.infoId rfl) (a3.heap.size) _ _ rfl HX.out.2.1 _ Tryz.underlying37 rfl (Ax rfl) _ rfl) rfl ?_
  rw[HQ.out]
  exact⟨[(.slice none 0 0),(.slice none 0 0),(.slice none 0 0)],tmC 0 0 0 ⟨#[]⟩ (.slice none 0 0),rfl,⟨_,_,_,rfl,RwC.nil _ _ _ _,RwC.nil _ _ _ _,RwC.nil _ _ _ _⟩,Bo _ _,HX.out.2.2⟩
def Ha:FileM:=⟨⟨#[]⟩,⟨0,0,[],[],[]⟩,0,0,0,tm0⟩
def Cl (s:IdM) (nm:ByteArray):FileM × Bool:=if Es s=true then (if (Bm s nm).2=true then ((s.fs[(Bm s nm).1]?).getD Ha,true) else (Ha,false)) else (Ha,false)
def FindP (w:World) (r:FileM × Bool) (e:Ending) (w':World):Prop:=∃ cs,e=.returned (.tuple #[.agg cs.toArray,.bool r.2])∧FlC (w.heap.size≤·) w' cs r.1∧Below w.heap.size w w'
theorem F6 (F:Nat→Prop) (w:World):FlC F w (flC ⟨#[]⟩ 0 0 (.slice none 0 0) (.slice none 0 0) (.slice none 0 0) 0 0 0 (tmC 0 0 0 ⟨#[]⟩ (.slice none 0 0))) Ha:=⟨(.slice none 0 0),(.slice none 0 0),(.slice none 0 0),tmC 0 0 0 ⟨#[]⟩ (.slice none 0 0),rfl,⟨SlI.nil _ _,SlI.nil _ _,SlI.nil _ _⟩,Bo _ _⟩
theorem Tryz.buildfl0:∀ w,(Instr.build 45 #[]).run Tryz.prog w=.ok (.agg (flC ⟨#[]⟩ 0 0 (.slice none 0 0) (.slice none 0 0) (.slice none 0 0) 0 0 0 (tmC 0 0 0 ⟨#[]⟩ (.slice none 0 0))).toArray) w:=fun w=> by kernel_rfl
theorem DL {ops:Array Oper} {rest:List Oper} {op:Oper} {a:Act} {w:World} {Q:Exit→Act→World→Prop} (hgd:op.guard=none) (ho:op.op=.build 45 #[])
  (h:wpList Tryz.prog ops Q rest (a.put op.dst (.agg (flC ⟨#[]⟩ 0 0 (.slice none 0 0) (.slice none 0 0) (.slice none 0 0) 0 0 0 (tmC 0 0 0 ⟨#[]⟩ (.slice none 0 0))).toArray)) w):wpList Tryz.prog ops Q (op::rest) a w:=by
 refine wpList_plain hgd fun K hK=> ?_
 have hrun:(execOp a.eval op).run Tryz.prog w=.ok (.value (.agg (flC ⟨#[]⟩ 0 0 (.slice none 0 0) (.slice none 0 0) (.slice none 0 0) 0 0 0 (tmC 0 0 0 ⟨#[]⟩ (.slice none 0 0))).toArray)) w:=by
  unfold execOp
  simp only[ho]
  simp[Tryz.buildfl0,Result.andThen]
 unfold Oper.wp
 rw[hrun]
 exact hK _ _ h
theorem Fm (s:IdM) (nm:ByteArray) (cs:List Value) (F:Nat→Prop) (w:World) (hs:IdC F w cs s) (hl:s.cs.length≤1000000000) (hl2:s.fs.length≤1000000000):Calls Tryz.prog 11 #[.agg cs.toArray,.string nm] w (FindP w (Cl s nm)):=by
 have h0:=hs
 obtain⟨vf,vc,vw,rfl,hf,-⟩:=hs
 have HID:=Ag h0
 obtain⟨fn,hfn⟩:∃ n,s.fs.length=n:=⟨_,rfl⟩
 have HN:=Ag hfn
 have hfl:fn≤1000000000:=by omega
 obtain⟨af,cf,rfl,hf1,hf2⟩:=hf.shape
 rw[hfn] at h0 HID ⊢
 clear h0
 have HCK:=Ag (fun (W:World) (hb:Below w.heap.size w W)=> Di s [(.slice af fn cf),vc,vw] F W (HID.out.below hb) hl)
 obtain⟨⟨ix,th⟩,hsk⟩:∃ r,Bm s nm=r:=⟨_,rfl⟩
 have HSK:=Ag hsk
 have HF:=Ag (fun (W:World) (hb:Below w.heap.size w W)=> show Calls Tryz.prog 25 #[.agg ([(.slice af fn cf),vc,vw]:List Value).toArray,.string nm] W (fun e w'=> e=.returned (.tuple #[.int .i64 (ix:Nat),.bool th])∧Below W.heap.size W w') from by
  have h:=ER s nm [(.slice af fn cf),vc,vw] F W (HID.out.below hb) hl2
  rw[show AU (fun x=> BS x.nm nm) s.fs=(ix,th) from hsk] at h
  exact h)
 obtain⟨R,hR⟩:∃ R,Cl s nm=R:=⟨_,rfl⟩
 have HR:=Ag hR
 rw[hR]
 clear hsk hR hf1 hf2 hl hl2 hfn hf
 go_enter Tryz.func11,Tryz.ntmps11
 go_upto_region 1 with(first
  | ((with_reducible refine Au w rfl 26 (.tmp 0) rfl ([.slice af fn cf,vc,vw]) rfl ?_);intro a1 hb hbel hsz;have H1:=hJ2 hb hbel;clear hb hbel hsz)
  | ((with_reducible refine Av a1 rfl 45 rfl (flC ⟨#[]⟩ 0 0 (.slice none 0 0) (.slice none 0 0) (.slice none 0 0) 0 0 0 (tmC 0 0 0 ⟨#[]⟩ (.slice none 0 0))) Tryz.zeroFl14 ?_);intro a2 hb hbel hsz;have H2:=hJ3 (H1.out.1.below hbel H1.out.1.lt) (An H1.out.2 hbel (Ah _)) hb;have HG:=hJ2 H1.out.1.lt hb.lt;clear hb hbel hsz))
 try simp only[Al,Ad,Ae,Af]
 clear H1
 go_wp2_with (first
  | (with_reducible refine Ap rfl 26 (.tmp 2) rfl (w.heap.size) 0 rfl ([.slice af fn cf,vc,vw]) _ (As H2.out.1) Tryz.underlying26 rfl (At Tryz.infoId rfl) ?_))
 refine(HF.out a2 H2.out.2.1).mono ?_
 rintro e' b1 ⟨rfl,hb⟩
 have H3:=hJ3 (H2.out.1.below hb H2.out.1.lt) (An H2.out.2.1 hb (Ah _)) (H2.out.2.2.below hb H2.out.2.2.lt)
 clear hb H2
 by_cases hk:Es s=true
 ·have HKP:=Ag (CO.1 hk)
  have HC0:=Ag (show Calls Tryz.prog 16 #[.agg ([(.slice af fn cf),vc,vw]:List Value).toArray] b1 (fun e w'=> e=.returned (.int .i64 0)∧Below b1.heap.size b1 w') from by have h:=HCK.out b1 H3.out.2.1;rw[if_pos hk] at h;exact h)
  cases th
  ·have HQ:=Ag (show R=(Ha,false) from by rw[←HR.out];unfold Cl;rw[if_pos hk,HSK.out];rfl)
   clear hk HCK
   go_wp2_with (first
  | (with_reducible refine Ap rfl 26 (.tmp 2) rfl (w.heap.size) 0 rfl ([.slice af fn cf,vc,vw]) _ (As H3.out.1) Tryz.underlying26 rfl (At Tryz.infoId rfl) ?_))
   refine HC0.out.mono ?_
   rintro e' b2 ⟨rfl,hb⟩
   have H4:=hJ3 (H3.out.1.below hb H3.out.1.lt) (An H3.out.2.1 hb (Ah _)) (H3.out.2.2.below hb H3.out.2.2.lt)
   clear hb
   go_wp2_with (first
  | (with_reducible refine DL rfl rfl ?_)
  | ((with_reducible refine Ao b2 rfl 45 (.tmp 4) (.tmp 21) rfl (a1.heap.size) 45 (flC ⟨#[]⟩ 0 0 (.slice none 0 0) (.slice none 0 0) (.slice none 0 0) 0 0 0 (tmC 0 0 0 ⟨#[]⟩ (.slice none 0 0))) (flC ⟨#[]⟩ 0 0 (.slice none 0 0) (.slice none 0 0) (.slice none 0 0) 0 0 0 (tmC 0 0 0 ⟨#[]⟩ (.slice none 0 0))) H4.out.2.2 rfl rfl rfl (At Tryz.infoFl rfl) (F6 (fun _=> True) w).one ?_);intro z2 hb hc hs;have HX:=Ag (Ai hb (Aw H4.out.2.1 hc (Ah _) (fun k hk=> by have e:=(show _=_ from hk);have:=HG.out;omega)));clear hb hc hs))
   refine bodyPost_ret (C0 Tryz.results11 _ _ (a1.heap.size) _ _ rfl HX.out.1 _ Tryz.underlying45 rfl (At Tryz.infoFl rfl) _ rfl) rfl ?_
   rw[HQ.out]
   exact⟨flC ⟨#[]⟩ 0 0 (.slice none 0 0) (.slice none 0 0) (.slice none 0 0) 0 0 0 (tmC 0 0 0 ⟨#[]⟩ (.slice none 0 0)),rfl,F6 _ _,HX.out.2⟩
  ·have hix:ix<s.fs.length:=by
    have h:=(DV (c:=fun x:FileM=> BS x.nm nm) (l:=s.fs) (by rw[show AU (fun x:FileM=> BS x.nm nm) s.fs=(ix,true) from HSK.out])).1
    rw[show AU (fun x:FileM=> BS x.nm nm) s.fs=(ix,true) from HSK.out] at h
    exact h
   obtain⟨_,_,_,e0,hf,-⟩:=id HID.out
   simp only[List.cons.injEq,and_true] at e0
   obtain⟨rfl,rfl,rfl⟩:=e0
   obtain⟨fb,fo,fcs,rfl,-,-,hlen,hra,hfc⟩:=hf.get hix
   have HQ:=Ag (show R=(s.fs[ix],true) from by rw[←HR.out];unfold Cl;rw[if_pos hk,HSK.out];simp[List.getElem?_eq_getElem hix])
   have HFW:=Ag (HKP.out.few.1 s.fs[ix] (List.getElem_mem hix))
   generalize s.fs[ix]=f at hfc HQ HFW
   have HFC:=Ag hfc
   have HFI:=Ag (At Tryz.infoFl hlen)
   have HRA:=Ag hra
   have hixz:(ix:Int)<(fn:Int):=by have:=HN.out;omega
   have hix0:(0:Int)≤(ix:Int):=by omega
   clear hk HCK hf hra hfc hlen hix HF
   go_wp2_with (first
  | (with_reducible refine Ap rfl 26 (.tmp 2) rfl (w.heap.size) 0 rfl ([.slice (some ⟨fb,fo,none⟩) fn cf,vc,vw]) _ (As H3.out.1) Tryz.underlying26 rfl (At Tryz.infoId rfl) ?_))
   refine HC0.out.mono ?_
   rintro e' b2 ⟨rfl,hb⟩
   have H4:=hJ3 (H3.out.1.below hb H3.out.1.lt) (An H3.out.2.1 hb (Ah _)) (H3.out.2.2.below hb H3.out.2.2.lt)
   have HRB:=Ag (show b2.rangeAt fb (fo+ix* 14) fcs from fun i u hu=> (H3.out.2.1 |> fun hb0=> (An hb0 hb (Ah _)).cell (Am (HRA.out i u hu))).trans (HRA.out i u hu))
   have c0:=H4.out.1.cell 0
   simp only[Ab,Ac] at c0
   clear hb
   go_wp2_with (first
  | (with_reducible refine Ap rfl 45 (.tmp 25) rfl fb (fo+ix* 14) rfl fcs _ HRB.out Tryz.underlying45 rfl HFI.out ?_))
   refine(G2 f fcs F b2 (HFC.out.below H4.out.2.1) HFW.out.1 HFW.out.2).mono ?_
   rintro e' b3 ⟨ncs,rfl,hnew,hb⟩
   have H5:=hJ2 (H4.out.2.2.below hb H4.out.2.2.lt) (An H4.out.2.1 hb (Ah _))
   have HNL:=Ag (show ncs.length=(flC ⟨#[]⟩ 0 0 (.slice none 0 0) (.slice none 0 0) (.slice none 0 0) 0 0 0 (tmC 0 0 0 ⟨#[]⟩ (.slice none 0 0))).length from hnew.len)
   have HNI:=Ag (At Tryz.infoFl hnew.len)
   have HN1:=Ag hnew.one
   have HNW:=Ag hnew
   have HGB:=Ag (show a1.heap.size<b2.heap.size from H4.out.2.2.lt)
   clear hnew hb c0
   go_wp2_with (first
  | ((with_reducible refine Ao b3 rfl 45 (.tmp 4) (.tmp 27) rfl (a1.heap.size) 45 (flC ⟨#[]⟩ 0 0 (.slice none 0 0) (.slice none 0 0) (.slice none 0 0) 0 0 0 (tmC 0 0 0 ⟨#[]⟩ (.slice none 0 0))) (ncs) H5.out.1 rfl rfl HNL.out HNI.out HN1.out ?_);intro z2 hb hc hs;have HX:=Ag (Ai hb (Ai hc (Aw H5.out.2 hc (Ah _) (fun k hk=> by have e:=(show _=_ from hk);have:=HG.out;omega))));clear hb hc hs))
   refine bodyPost_ret (C0 Tryz.results11 _ _ (a1.heap.size) _ _ rfl HX.out.1 _ Tryz.underlying45 rfl HNI.out _ rfl) rfl ?_
   rw[HQ.out]
   exact⟨ncs,rfl,HNW.out.keep' HX.out.2.1 (fun k hk e=> by have e:=(show _=_ from e);have hk:b2.heap.size≤k:=hk;have:=HGB.out;omega) (fun k hk=> by have hk:b2.heap.size≤k:=hk;have:=H4.out.2.1.size;omega),HX.out.2.2⟩
 ·have HQ:=Ag (show R=(Ha,false) from by rw[←HR.out];unfold Cl;rw[if_neg hk])
  have HC0:=Ag (show Calls Tryz.prog 16 #[.agg ([(.slice af fn cf),vc,vw]:List Value).toArray] b1 (fun e w'=> e=.returned (.int .i64 282)∧Below b1.heap.size b1 w') from by have h:=HCK.out b1 H3.out.2.1;rw[if_neg hk] at h;exact h)
  clear hk HCK
  go_wp2_with (first
  | (with_reducible refine Ap rfl 26 (.tmp 2) rfl (w.heap.size) 0 rfl ([.slice af fn cf,vc,vw]) _ (As H3.out.1) Tryz.underlying26 rfl (At Tryz.infoId rfl) ?_))
  refine HC0.out.mono ?_
  rintro e' b2 ⟨rfl,hb⟩
  have H4:=hJ3 (H3.out.1.below hb H3.out.1.lt) (An H3.out.2.1 hb (Ah _)) (H3.out.2.2.below hb H3.out.2.2.lt)
  clear hb
  go_wp2_with (first
  | (with_reducible refine DL rfl rfl ?_)
  | ((with_reducible refine Ao b2 rfl 45 (.tmp 4) (.tmp 21) rfl (a1.heap.size) 45 (flC ⟨#[]⟩ 0 0 (.slice none 0 0) (.slice none 0 0) (.slice none 0 0) 0 0 0 (tmC 0 0 0 ⟨#[]⟩ (.slice none 0 0))) (flC ⟨#[]⟩ 0 0 (.slice none 0 0) (.slice none 0 0) (.slice none 0 0) 0 0 0 (tmC 0 0 0 ⟨#[]⟩ (.slice none 0 0))) H4.out.2.2 rfl rfl rfl (At Tryz.infoFl rfl) (F6 (fun _=> True) w).one ?_);intro z2 hb hc hs;have HX:=Ag (Ai hb (Aw H4.out.2.1 hc (Ah _) (fun k hk=> by have e:=(show _=_ from hk);have:=HG.out;omega)));clear hb hc hs))
  refine bodyPost_ret (C0 Tryz.results11 _ _ (a1.heap.size) _ _ rfl HX.out.1 _ Tryz.underlying45 rfl (At Tryz.infoFl rfl) _ rfl) rfl ?_
  rw[HQ.out]
  exact⟨flC ⟨#[]⟩ 0 0 (.slice none 0 0) (.slice none 0 0) (.slice none 0 0) 0 0 0 (tmC 0 0 0 ⟨#[]⟩ (.slice none 0 0)),rfl,F6 _ _,HX.out.2⟩
def rdL (p:PmD) (bs:List (Int × Int)):Nat→Int→List Int
 | 0,_=> []
 | n+1,u=> if CC p u bs=true then u::rdL p bs n (u+1) else rdL p bs n (u+1)
def AQ (s:IdM) (nm:ByteArray):List Int:=if (Cl s nm).2=true then rdL (Cl s nm).1.p (BX s.cs) 6 1 else []
def EW (_:World) (cs:List Value) (u:Int):Prop:=cs=[.int .i64 u]
theorem OwR.ints {B:Nat} {w:World} {v:Value} {l:List Int} (h:OwR EW 1 3 B w v l):w.ownsRow B 3 1 v l.length (ofK .i64 l):=by
 obtain⟨css,h1,h2,h3⟩:=h
 have e:css.flatten=ofK .i64 l:=by
  have h5:=B7 h2 h3
  apply List.ext_getElem?
  intro i
  by_cases hi:i<l.length
  ·have hf:=Db h5 (show i<css.length by omega) (show 0<1 by omega)
   rw[Nat.mul_one,Nat.add_zero] at hf
   have h4:=(h3 i (by omega) hi).2
   unfold EW at h4
   rw[hf,h4]
   simp[ofK,List.getElem?_eq_getElem hi]
  ·rw[List.getElem?_eq_none (by rw[BC h5];omega),List.getElem?_eq_none (by rw[AJ];omega)]
 rw[←e];exact h1
theorem F1 {w:World} {ops:Array Oper} {rest:List Oper} {o:Oper} {a:Act} {Q:Exit→Act→World→Prop} (hgd:o.guard=none) (s x':Operand)
  (ho:o.op=.call {callee:=.builtin .append,args:=#[s,x'],argTypes:=#[40,40]}) {B:Nat} {v:Value} {l:List Int} (hI:OwR EW 1 3 B w v l) (hs:a.eval s=v) {b:Nat} {u:Int} (hx:a.eval x'=.slice (some ⟨b,0,none⟩) 1 1) (hb:Blk w b 3 [.int .i64 u]) (hn:l.length≤1000000) (hB:B≤w.heap.size)
  (h:∀ ao c w',OwR EW 1 3 B w' (.slice ao (l.length+1) c) (l ++ [u])→Ch (fun k=> v.ownBlock=some k) w w'→wpList Tryz.prog ops Q rest (a.put o.dst (.slice ao (l.length+1) c)) w'):
  wpList Tryz.prog ops Q (o::rest) a w:=by
 obtain⟨i0,hi0,hz0,hz1,hz2⟩:=info_parts Tryz.infoI
 exact Bz hgd s x' 40 ho Tryz.underlying40 i0 _ 8 hi0 hz0 hz1 hz2 rfl (by omega) (C:=EW) (C':=EW) hI hs (r:=[u]) (F:=fun _=> True) hx (RwC.of_one hb trivial rfl rfl) (fun cs a _ h u hu=> by unfold EW at h;subst h;simp only[List.mem_cons,List.not_mem_nil,or_false] at hu;subst hu;rfl) (l.length+1) (by simp) (by omega) (by omega) hB (fun _ _ _ _ _ h=> h) (fun ao c w' h1 h2 _=> h ao c w' h1 h2)
theorem Blk.mid {w:World} {g:Nat} {ty:TypeId} {A B C:List Value} {n:Nat} (h:Blk w g ty (A ++ (B ++ C))) (hn:A.length=n):w.rangeAt g n B:=fun j x hx=> by
 have hj:=(List.getElem?_eq_some_iff.1 hx).1
 rw[h.cell,List.getElem?_append_right (by omega),show n+j - A.length=j by omega,List.getElem?_append_left hj]
 exact hx
theorem Bx {w:World} {g:Nat} {ty:TypeId} {nm:ByteArray} {o pe:Int} {vr vq vg:Value} {v e u:Int} {tc:List Value} (h:Blk w g ty (flC nm o pe vr vq vg v e u tc)):w.rangeAt g 1 (pmC o pe vr vq vg):=
 Blk.mid (A:=[.string nm]) (B:=pmC o pe vr vq vg) (C:=[.int .i64 v,.int .i64 e,.int .i64 u] ++ tc) (by simpa [flC,pmC] using h) rfl
theorem Dx (s:IdM) (nm:ByteArray) (cs:List Value) (F:Nat→Prop) (w:World) (hs:IdC F w cs s) (hl:s.cs.length≤1000000000) (hl2:s.fs.length≤1000000000):
  Calls Tryz.prog 10 #[.agg cs.toArray,.string nm] w (fun e w'=> ∃ v,e=.returned v∧SlI (w.heap.size≤·) w' v (AQ s nm)∧Below w.heap.size w w'):=by
 have HID:=Ag (Ai hs (Ai hs.len hs.one))
 have HBM:=Ag (show(Cl s nm).2=true→(BX s.cs).length≤1000000 from fun h=> by
  unfold Cl at h
  by_cases hk:Es s=true
  ·exact(CO.1 hk).bel
  ·rw[if_neg hk] at h;cases h)
 have HFN:=Ag (fun (W:World) (hb:Below w.heap.size w W)=> Fm s nm cs F W (HID.out.1.below hb) hl hl2)
 obtain⟨R,hR⟩:∃ R,AQ s nm=R:=⟨_,rfl⟩
 have HR:=Ag hR
 rw[hR]
 obtain⟨bs,hbs⟩:∃ b,BX s.cs=b:=⟨_,rfl⟩
 have HBS:=Ag hbs
 rw[hbs] at HBM
 clear hs hl hl2 hR hbs
 go_enter Tryz.func10,Tryz.ntmps10
 go_upto_region 1 with(first
  | ((with_reducible refine Au w rfl 26 (.tmp 0) rfl (cs) rfl ?_);intro a1 hb hbel hsz;have H1:=hJ2 hb hbel;have HG0:=Ag hb.lt;clear hb hbel hsz))
 try simp only[Al,Ad,Ae,Af]
 go_wp2_with (first
  | (with_reducible refine Ap rfl 26 (.tmp 2) rfl (w.heap.size) 0 rfl (cs) _ (As H1.out.1) Tryz.underlying26 rfl (At Tryz.infoId HID.out.2.1) ?_))
 refine(HFN.out a1 H1.out.2).mono ?_
 rintro e' b1 ⟨fcs,rfl,hfc,hb⟩
 unfold AQ at HR
 generalize Cl s nm=fr at HR HBM hfc
 obtain⟨f,th⟩:=fr
 have HFL:=Ag (show fcs.length=(flC ⟨#[]⟩ 0 0 (.slice none 0 0) (.slice none 0 0) (.slice none 0 0) 0 0 0 (tmC 0 0 0 ⟨#[]⟩ (.slice none 0 0))).length from hfc.len)
 have HFI:=Ag (At Tryz.infoFl hfc.len)
 have HF1:=Ag hfc.one
 have H2:=hJ2 (H1.out.1.below hb H1.out.1.lt) (An H1.out.2 hb (Ah _))
 have HFC:=Ag hfc
 have HG:=Ag (show w.heap.size<b1.heap.size from Ak HG0.out hb.size)
 clear hb hfc H1
 go_upto_region 2 with(first
  | ((with_reducible refine Av b1 rfl 45 rfl (flC ⟨#[]⟩ 0 0 (.slice none 0 0) (.slice none 0 0) (.slice none 0 0) 0 0 0 (tmC 0 0 0 ⟨#[]⟩ (.slice none 0 0))) Tryz.zeroFl14 ?_);intro b2 hb hbel hsz;have HA:=hJ3 (H2.out.1.below hbel H2.out.1.lt) (An H2.out.2 hbel (Ah _)) hb;have HBL:=Ag (Ai hbel hb.lt);clear hb hbel hsz)
  | ((with_reducible refine Ao b2 rfl 45 (.tmp 5) (.tmp 13) rfl (b1.heap.size) 45 (flC ⟨#[]⟩ 0 0 (.slice none 0 0) (.slice none 0 0) (.slice none 0 0) 0 0 0 (tmC 0 0 0 ⟨#[]⟩ (.slice none 0 0))) (fcs) HA.out.2.2 rfl rfl HFL.out HFI.out HF1.out ?_);intro b3 hb hc hs;have H3:=hJ3 (HA.out.1.keep hc (fun e=> absurd (show _=_ from e) (by have:=HG.out;omega))) hb (Aw HA.out.2.1 hc (Ah _) (fun k hk=> by have e:=(show _=_ from hk);have:=HG.out;omega));have HB3:=Ag (Ai (B0 HBL.out.1 hc) (Ak HBL.out.2 hc.size));clear hb hc hs))
 try simp only[Al,Ad,Ae,Af]
 have hfc3:=(HFC.out.below HB3.out.1).old'
 obtain⟨vr,vq,vg,tc,hfe,hpf,-⟩:=hfc3
 subst hfe
 have HPF:=Ag (show PmF (·<b3.heap.size) b3 f.p vr vq vg from hpf.keep' (Ch.refl (fun _=> False) _) (fun _ _ e=> e) (fun k hk=> hk.2))
 have H0:=Ag (show Blk b3 (w.heap.size) 26 (cs)∧Blk b3 (b1.heap.size) 45 (flC f.nm f.p.o f.p.e vr vq vg f.v f.e f.u tc)∧PmF (·<b3.heap.size) b3 f.p vr vq vg∧OwR EW 1 3 b3.heap.size b3 (.slice none 0 0) ([])∧b3.heap.size≤b3.heap.size∧Below w.heap.size w b3 from⟨H3.out.1,H3.out.2.1,HPF.out,OwR.nil,Ah _,H3.out.2.2⟩)
 have HG3:=Ag HB3.out.2
 clear hpf HA H3 HBL HFC HFL HFI HF1 HPF H2
 obtain⟨rf,hrf⟩:∃ rf:Nat→Int→List Int,(fun n u=> if th=true then rdL f.p bs n u else [])=rf:=⟨_,rfl⟩
 have HRF:=Ag hrf
 have HR0:=Ag (show rf 6 1=R from by rw[←HR.out,←hrf,HBS.out])
 clear hrf HR
 go_wp2_with fail
 go_loopw [7,8] (fun s7 s8 wr=> ∃ (k:Nat) (l:List Int) (oz:Option Addr) (pz:Nat),s8=.int .i64 (k+1)∧k≤6∧s7=.slice oz l.length pz∧Hid (l ++ rf (6 - k) (k+1)=R∧l.length≤k)∧Hid (Blk wr (w.heap.size) 26 (cs)∧Blk wr (b1.heap.size) 45 (flC f.nm f.p.o f.p.e vr vq vg f.v f.e f.u tc)∧PmF (·<b3.heap.size) wr f.p vr vq vg∧OwR EW 1 3 b3.heap.size wr (.slice oz l.length pz) (l)∧b3.heap.size≤wr.heap.size∧Below w.heap.size w wr)) (fun _ s8 _=> 7 - (intOf s8).toNat)
 case atStart=> exact⟨0,[],none,0,rfl,Nat.zero_le _,rfl,Ag ⟨by rw[List.nil_append];exact HR0.out,Ah _⟩,H0⟩
 case round=>
  clear H0 HR0
  obtain⟨k,l,oz,pz,rfl,hk,rfl,HT,HO⟩:=hrel
  cases th
  ·have HE:=Ag (show l=R from by rw[←HT.out.1,←HRF.out];simp)
   go_wp2_with fail
   go_ret
   exact⟨_,rfl,⟨by rw[←HE.out];exact Sl.of_owns HO.out.2.2.2.1.ints,fun j _ hj=> by have h1:=(HO.out.2.2.2.1.lt j hj).1;have h2:=HG.out;have h3:=HG3.out;show w.heap.size≤j;omega⟩,HO.out.2.2.2.2.2⟩
  ·by_cases hlt:k<6
   ·have hkz:(k:Int)+1≤6:=by omega
    obtain⟨mr,hmr⟩:∃ b,CC f.p (k+1) bs=b:=⟨_,rfl⟩
    have HMR:=Ag hmr
    have HRS:=Ag (show rf (6 - k) (k+1)=(if mr=true then ((k:Int)+1)::rf (6 - (k+1)) (k+1+1) else rf (6 - (k+1)) (k+1+1)) from by
     rw[←HRF.out,show 6 - k=(6 - (k+1))+1 by omega,←hmr]
     simp only[if_true]
     rw[rdL])
    have HBC:=Ag (fun (W:World) (hb:Below w.heap.size w W)=> show Calls Tryz.prog 24 #[.agg cs.toArray] W (fun e w'=> ∃ v,e=.returned v∧SlP w' v .i64 .i64 bs∧Below W.heap.size W w') from by
     have h:=FB s cs F W (HID.out.1.below hb) (by rw[HBS.out];exact HBM.out rfl)
     rw[HBS.out] at h
     exact h)
    clear hmr
    go_wp2_with fail
    refine Az (fun W=> W.rangeAt (b1.heap.size) 1 (pmC f.p.o f.p.e vr vq vg)∧W.rangeAt (w.heap.size) 0 cs) [0,1,2,3] 2 (by kernel_rfl) rfl (by kernel_rfl) (by kernel_rfl) ⟨Bx HO.out.2.1,As HO.out.1⟩ ?_
    iterate 4(refine' AH.run ?_ ?_ ?_ ?_;rotate_left 2;(simp only[Aa,Ab,Ac];rfl);rfl;(rintro w' ⟨k0,k1⟩;first|exact AA rfl rfl k0 Tryz.underlying43 rfl (At Tryz.infoPm rfl)|exact AA rfl rfl k1 Tryz.underlying26 rfl (At Tryz.infoId HID.out.2.1)|(go_simp;with_reducible rfl));simp only[Al,Ad,Ae,Af])
    have sm:=(Sm.refl wr).drew
    have HV2:=Ag (show Blk wr.drew (w.heap.size) 26 (cs)∧Blk wr.drew (b1.heap.size) 45 (flC f.nm f.p.o f.p.e vr vq vg f.v f.e f.u tc)∧PmF (·<b3.heap.size) wr.drew f.p vr vq vg∧OwR EW 1 3 b3.heap.size wr.drew (.slice oz l.length pz) (l)∧b3.heap.size≤wr.drew.heap.size∧Below w.heap.size w wr.drew from⟨HO.out.1.below (sm.below _) HO.out.1.lt,HO.out.2.1.below (sm.below _) HO.out.2.1.lt,(HO.out.2.2.1.below (sm.below _)),(HO.out.2.2.2.1.keep' (Ch.of_below (S:=fun _=> False) (sm.below _) (Ah _)) (fun _ _ e=> e) (fun _ _ _ h=> h)),(Aj HO.out.2.2.2.2.1 (sm.below 0).size),(An HO.out.2.2.2.2.2 (sm.below _) (Ah _))⟩)
    clear sm
    generalize wr.drew=v1 at HV2 ⊢
    refine' Ar 4 (by kernel_rfl) ?_ ?_;rotate_left;(simp only[Aa,Ab,Ac];rfl)
    try simp only[Al,Ad,Ae,Af]
    go_wp2_with fail
    refine(HBC.out v1 HV2.out.2.2.2.2.2).mono ?_
    rintro e' u3 ⟨vm,rfl,hvm,hb⟩
    have K4:=Ag (show Blk u3 (w.heap.size) 26 (cs)∧Blk u3 (b1.heap.size) 45 (flC f.nm f.p.o f.p.e vr vq vg f.v f.e f.u tc)∧PmF (·<b3.heap.size) u3 f.p vr vq vg∧OwR EW 1 3 b3.heap.size u3 (.slice oz l.length pz) (l)∧b3.heap.size≤u3.heap.size∧Below w.heap.size w u3∧SlP u3 vm .i64 .i64 bs from⟨HV2.out.1.below hb HV2.out.1.lt,HV2.out.2.1.below hb HV2.out.2.1.lt,(HV2.out.2.2.1.below hb),(HV2.out.2.2.2.1.keep' (Ch.of_below (S:=fun _=> False) hb (Ah _)) (fun _ _ e=> e) (fun _ _ _ h=> h)),(Aj HV2.out.2.2.2.2.1 hb.size),(An HV2.out.2.2.2.2.2 hb (Ah _)),hvm⟩)
    clear hvm hb
    go_wp2_with fail
    refine QK.normal ⟨⟨Bx K4.out.2.1,As K4.out.1⟩,?_⟩
    refine' Ar 5 (by kernel_rfl) ?_ ?_;rotate_left;(simp only[Aa,Ab,Ac];rfl)
    try simp only[Al,Ad,Ae,Af]
    go_wp2_with fail
    refine(Fx f.p (k+1) bs vr vq vg vm u3 K4.out.2.2.1.s K4.out.2.2.2.2.2.2).mono ?_
    rintro e' u5 ⟨rfl,hb⟩
    rw[HMR.out]
    have K6:=Ag (show Blk u5 (w.heap.size) 26 (cs)∧Blk u5 (b1.heap.size) 45 (flC f.nm f.p.o f.p.e vr vq vg f.v f.e f.u tc)∧PmF (·<b3.heap.size) u5 f.p vr vq vg∧OwR EW 1 3 b3.heap.size u5 (.slice oz l.length pz) (l)∧b3.heap.size≤u5.heap.size∧Below w.heap.size w u5∧SlP u5 vm .i64 .i64 bs from⟨K4.out.1.below hb K4.out.1.lt,K4.out.2.1.below hb K4.out.2.1.lt,(K4.out.2.2.1.below hb),(K4.out.2.2.2.1.keep' (Ch.of_below (S:=fun _=> False) hb (Ah _)) (fun _ _ e=> e) (fun _ _ _ h=> h)),(Aj K4.out.2.2.2.2.1 hb.size),(An K4.out.2.2.2.2.2.1 hb (Ah _)),(K4.out.2.2.2.2.2.2.below hb)⟩)
    clear hb
    go_wp2_with fail
    refine QK.normal ⟨⟨Bx K6.out.2.1,As K6.out.1⟩,?_⟩
    refine wpAnyH_done (by kernel_rfl) ?_ _
    refine NoPanic.normal ?_
    cases mr
    ·have HT2:=Ag (show l ++ rf (6 - (k+1)) (k+1+1)=R from by rw[←HT.out.1,HRS.out,if_neg (by simp)])
     go_wp2_with fail
     go_roundw
     case measure=> simp[intOf];omega
     case rel=> exact⟨k+1,l,oz,pz,by go_num,by omega,rfl,Ag ⟨by rw[←HT2.out];simp,by have:=HT.out.2;omega⟩,Ag ⟨K6.out.1,K6.out.2.1,K6.out.2.2.1,K6.out.2.2.2.1,K6.out.2.2.2.2.1,K6.out.2.2.2.2.2.1⟩⟩
    ·have HT2:=Ag (show(l ++ [((k:Int)+1)]) ++ rf (6 - (k+1)) (k+1+1)=R from by rw[←HT.out.1,HRS.out,if_pos rfl];simp)
     go_wp2_with (first
  | ((with_reducible refine CX u5 rfl (.tmp 29) rfl rfl ?_);intro z2 hb hbel hsz;have HZ2:=Ag (show Blk z2 (w.heap.size) 26 (cs)∧Blk z2 (b1.heap.size) 45 (flC f.nm f.p.o f.p.e vr vq vg f.v f.e f.u tc)∧PmF (·<b3.heap.size) z2 f.p vr vq vg∧OwR EW 1 3 b3.heap.size z2 (.slice oz l.length pz) (l)∧b3.heap.size≤z2.heap.size∧Below w.heap.size w z2∧SlP z2 vm .i64 .i64 bs∧Blk z2 (u5.heap.size) 3 ([.int .i64 (k+1)]) from⟨K6.out.1.below hbel K6.out.1.lt,K6.out.2.1.below hbel K6.out.2.1.lt,(K6.out.2.2.1.below hbel),(K6.out.2.2.2.1.keep' (Ch.of_below (S:=fun _=> False) hbel (Ah _)) (fun _ _ e=> e) (fun _ _ _ h=> h)),(Aj K6.out.2.2.2.2.1 hbel.size),(An K6.out.2.2.2.2.2.1 hbel (Ah _)),(K6.out.2.2.2.2.2.2.below hbel),hb⟩);clear hb hbel hsz)
  | (at_builtin;refine F1 rfl (.tmp 28) (.tmp 30) rfl HZ2.out.2.2.2.1 rfl rfl HZ2.out.2.2.2.2.2.2.2 (by have:=HT.out.2;omega) HZ2.out.2.2.2.2.1 ?_))
     intro oy py z3 hrow hc
     have HX:=Ag (show Blk z3 (w.heap.size) 26 (cs)∧Blk z3 (b1.heap.size) 45 (flC f.nm f.p.o f.p.e vr vq vg f.v f.e f.u tc)∧PmF (·<b3.heap.size) z3 f.p vr vq vg∧OwR EW 1 3 b3.heap.size z3 (.slice oy (l.length+1) py) (l ++ [((k:Int)+1)])∧b3.heap.size≤z3.heap.size∧Below w.heap.size w z3 from⟨HZ2.out.1.keep hc (fun e=> by have h1:=(HZ2.out.2.2.2.1.lt _ e).1;have h2:=HG.out;have h3:=HG3.out;omega),HZ2.out.2.1.keep hc (fun e=> by have h1:=(HZ2.out.2.2.2.1.lt _ e).1;have h2:=HG.out;have h3:=HG3.out;omega),HZ2.out.2.2.1.keep' hc (fun j hj e=> by have h1:=(HZ2.out.2.2.2.1.lt _ e).1;have hj:j<b3.heap.size:=hj;omega) (fun _ h=> h),hrow,Aj HZ2.out.2.2.2.2.1 hc.size,Aw HZ2.out.2.2.2.2.2.1 hc (Ah _) (fun j e=> by have h1:=(HZ2.out.2.2.2.1.lt _ e).1;have h2:=HG.out;have h3:=HG3.out;omega)⟩)
     clear hrow hc
     go_wp2_with fail
     go_roundw
     case measure=> simp[intOf];omega
     case rel=>
      have e:(l ++ [((k:Int)+1)]).length=l.length+1:=by simp
      exact⟨k+1,l ++ [((k:Int)+1)],oy,py,by go_num,by omega,by rw[e],Ag ⟨by rw[←HT2.out];simp,by rw[e];have:=HT.out.2;omega⟩,by rw[e];exact HX⟩
   ·have hge:¬ (k:Int)+1≤6:=by omega
    have HE:=Ag (show l=R from by
     obtain rfl:k=6:=by omega
     have h:=HT.out.1
     rw[←HRF.out] at h
     simpa [rdL] using h)
    go_wp2_with fail
    go_ret
    exact⟨_,rfl,⟨by rw[←HE.out];exact Sl.of_owns HO.out.2.2.2.1.ints,fun j _ hj=> by have h1:=(HO.out.2.2.2.1.lt j hj).1;have h2:=HG.out;have h3:=HG3.out;show w.heap.size≤j;omega⟩,HO.out.2.2.2.2.2⟩
end Go.Proofs.YtgdlfiphihaooaaGreat

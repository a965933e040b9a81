import Derived.Test.YtgdlfiphihaooaaGreatYq29
set_option linter.unusedSimpArgs false
set_option linter.unusedVariables false
set_option maxRecDepth 100000
set_option maxHeartbeats 8000000
open _root_.List renaming getElem?_toArray→Aa,getElem?_cons_zero→Ab,getElem?_cons_succ→Ac,setIfInBounds_toArray→Ad,set_cons_zero→Ae,set_cons_succ→Af
open _root_.Go.Lib renaming hid→Ag
open _root_.Nat renaming le_refl→Ah,le_trans→Aj,lt_of_lt_of_le→Ak
open _root_.And renaming intro→Ai
open _root_.Go.Act renaming put→Al
namespace Go.Proofs.YtgdlfiphihaooaaGreat
open Go Go.RowKit
def nmB (a b:ByteArray):Bool:=a.toList==b.toList
def CU (s:IdM) (nm:ByteArray):List WrM:=if Es s=true then s.ws.filter (fun x=> nmB x.nm nm) else []
def FH (B:Nat) (v:Value) (w:World) (j:Nat):Prop:=¬ v.ownBlock=some j∧B≤j∧j<w.heap.size
theorem OwR.fhb {B N:Nat} {w w':World} {v:Value} {l:List WrM} (h:OwR (WrC (FH B v w)) 9 56 N w v l) (hb:Below w.heap.size w w'):OwR (WrC (FH B v w')) 9 56 N w' v l:=
 h.keep' (Ch.of_below (S:=fun _=> False) hb (Ah _)) (fun _ _ e=> e) (fun cs a _ h=> h.keep' (Ch.of_below (S:=fun _=> False) hb (Ah _)) (fun _ _ e=> e) (fun j hj=> ⟨hj.1,hj.2.1,Ak hj.2.2 hb.size⟩))
theorem F2 {w:World} {ops:Array Oper} {rest:List Oper} {o:Oper} {a:Act} {Q:Exit→Act→World→Prop} (hgd:o.guard=none) (s x':Operand)
  (ho:o.op=.call {callee:=.builtin .append,args:=#[s,x'],argTypes:=#[24,24]}) {B N:Nat} {v:Value} {l:List WrM} (hI:OwR (WrC (FH B v w)) 9 56 N w v l) (hs:a.eval s=v) {b:Nat} {cs:List Value} {x:WrM} (hx:a.eval x'=.slice (some ⟨b,0,none⟩) 1 1) (hb:Blk w b 56 cs) (hw:WrC (FH B v w) w cs x) (hn:l.length≤1000000) (hB:N≤w.heap.size)
  (h:∀ ao c w',OwR (WrC (FH B (.slice ao (l.length+1) c) w')) 9 56 N w' (.slice ao (l.length+1) c) (l ++ [x])→Ch (fun k=> v.ownBlock=some k) w w'→wpList Tryz.prog ops Q rest (a.put o.dst (.slice ao (l.length+1) c)) w'):
  wpList Tryz.prog ops Q (o::rest) a w:=by
 obtain⟨i0,hi0,hz0,hz1,hz2⟩:=info_parts Tryz.infoRW
 refine Bz hgd s x' 24 ho Tryz.underlying24 i0 _ 104 hi0 hz0 hz1 hz2 rfl (by omega) (C:=WrC (FH B v w)) (C':=WrC (FH B v w)) hI hs (r:=[x]) (F:=fun _=> True) hx (RwC.of_one hb trivial hw.len hw) (fun cs a _ h=> h.one) (l.length+1) (by simp) (by omega) (by omega) hB (fun w' hc cs a _ hf=> hf.keep' hc (fun j hj e=> hj.1 e) (fun _ h=> h)) ?_
 intro ao c w' h1 h2 h3
 refine h ao c w' (h1.mono (Ah _) (fun cs a _ hf=> hf.mono fun j hj=> ⟨fun e=> ?_,hj.2.1,Ak hj.2.2 h2.size⟩)) h2
 rcases h3 with h3|h3
 ·rw[h3] at e;exact hj.1 e
 ·rw[h3] at e;injection e with e;have:=hj.2.2;omega
theorem FE (s:IdM) (nm:ByteArray) (cs:List Value) (F:Nat→Prop) (w:World) (hs:IdC F w cs s) (hl:s.cs.length≤1000000000):
  Calls Tryz.prog 14 #[.agg cs.toArray,.string nm] w (fun e w'=> ∃ v,e=.returned v∧RwC (WrC (w.heap.size≤·)) 9 (w.heap.size≤·) w' v (CU s nm)∧Below w.heap.size w w'):=by
 have h0:=hs
 obtain⟨vf,vc,vw,rfl,-,-,hw⟩:=hs
 obtain⟨wn,hwn⟩:∃ n,s.ws.length=n:=⟨_,rfl⟩
 have HN:=Ag hwn
 obtain⟨aw,cw,rfl,hw1,hw2⟩:=hw.shape
 rw[hwn] at h0 hw1 hw ⊢
 have HID:=Ag h0
 have HW:=Ag hw
 have HCK:=Ag (fun (W:World) (hb:Below w.heap.size w W)=> Di s [vf,vc,.slice aw wn cw] F W (HID.out.below hb) hl)
 have hwn63:wn≤9223372036854775807:=by unfold maxLen at hw2;omega
 obtain⟨R,hR⟩:∃ R,CU s nm=R:=⟨_,rfl⟩
 have HR:=Ag hR
 rw[hR]
 clear h0 hw hw1 hw2 hl hwn hR
 go_enter Tryz.func14,Tryz.ntmps14
 go_upto_region 1 with(first
  | ((with_reducible refine Au w rfl 26 (.tmp 0) rfl ([vf,vc,.slice aw wn cw]) rfl ?_);intro a1 hb hbel hsz;have H1:=hJ2 hb hbel;have HG0:=Ag hb.lt;clear hb hbel hsz))
 try simp only[Al,Ad,Ae,Af]
 by_cases hk:Es s=true
 ·have HC0:=Ag (show Calls Tryz.prog 16 #[.agg ([vf,vc,.slice aw wn cw]:List Value).toArray] a1 (fun e w'=> e=.returned (.int .i64 0)∧Below a1.heap.size a1 w') from by have h:=HCK.out a1 H1.out.2;rw[if_pos hk] at h;exact h)
  have HFW:=Ag (CO.1 hk).few
  have HRR:=Ag (show s.ws.filter (fun x=> nmB x.nm nm)=R from by rw[←HR.out];unfold CU;rw[if_pos hk])
  clear hk HCK HR
  go_wp2_with (first
  | (with_reducible refine Ap rfl 26 (.tmp 2) rfl (w.heap.size) 0 rfl ([vf,vc,.slice aw wn cw]) _ (As H1.out.1) Tryz.underlying26 rfl (At Tryz.infoId rfl) ?_))
  refine HC0.out.mono ?_
  rintro e' b1 ⟨rfl,hb⟩
  have H2:=hJ2 (H1.out.1.below hb H1.out.1.lt) (An H1.out.2 hb (Ah _))
  have HG:=Ag (show w.heap.size<b1.heap.size from Ak HG0.out hb.size)
  have c2:=H2.out.1.cell 2
  simp only[Ab,Ac] at c2
  have H0:=Ag (show Blk b1 (w.heap.size) 26 ([vf,vc,.slice aw wn cw])∧OwR (WrC (FH w.heap.size (.slice none 0 0) b1)) 9 56 b1.heap.size b1 (.slice none 0 0) ([])∧b1.heap.size≤b1.heap.size∧Below w.heap.size w b1 from⟨H2.out.1,OwR.nil,Ah _,H2.out.2⟩)
  clear hb H1 H2
  go_wp2_with fail
  clear c2
  go_loopw [5,14] (fun s5 s14 wr=> ∃ (k:Nat) (l:List WrM) (oz:Option Addr) (pz:Nat),s14=.int .i64 k∧k≤wn∧s5=.slice oz l.length pz∧Hid (l ++ (s.ws.drop k).filter (fun x=> nmB x.nm nm)=R∧l.length≤k)∧Hid (Blk wr (w.heap.size) 26 ([vf,vc,.slice aw wn cw])∧OwR (WrC (FH w.heap.size (.slice oz l.length pz) wr)) 9 56 b1.heap.size wr (.slice oz l.length pz) (l)∧b1.heap.size≤wr.heap.size∧Below w.heap.size w wr)) (fun _ s14 _=> wn - (intOf s14).toNat)
  case atStart=> exact⟨0,[],none,0,rfl,Nat.zero_le _,rfl,Ag ⟨by rw[List.drop_zero];exact HRR.out,Ah _⟩,H0⟩
  case round=>
   clear H0 HRR
   obtain⟨k,l,oz,pz,rfl,hk,rfl,HT,HO⟩:=hrel
   by_cases hlt:k<wn
   ·have hkl:k<s.ws.length:=by rw[HN.out];exact hlt
    have hkz:(k:Int)<(wn:Int):=by omega
    have hk0:(0:Int)≤(k:Int):=by omega
    obtain⟨b,o,wcs,rfl,-,-,hlen,hra,hwc⟩:=HW.out.get hkl
    have HT2:=Ag (show l ++ (if nmB s.ws[k].nm nm=true then s.ws[k]::(s.ws.drop (k+1)).filter (fun x=> nmB x.nm nm) else (s.ws.drop (k+1)).filter (fun x=> nmB x.nm nm))=R from by
     rw[←HT.out.1,List.drop_eq_getElem_cons hkl,List.filter_cons])
    have HLL:=Ag HT.out.2
    have HFX:=Ag (HFW.out.2.2.1 s.ws[k] (List.getElem_mem hkl))
    generalize s.ws[k]=x at hwc HT2 HFX
    have HIX0:=Ag (At Tryz.infoWr hlen)
    have HXO0:=Ag hwc.one
    obtain⟨tc,rfl,htc⟩:=hwc
    have HTC:=Ag htc
    have HIX:=Ag (show(Tryz.prog.info? 56).map (·.size)=some (wrC x.nm x.v x.e x.u tc).length from HIX0.out)
    have HXO:=Ag (show ∀ v∈(wrC x.nm x.v x.e x.u tc:List Value),v.oneCell'=true from HXO0.out)
    have HZL:=Ag (show(wrC x.nm x.v x.e x.u tc).length=(wrC ⟨#[]⟩ 0 0 0 (tmC 0 0 0 ⟨#[]⟩ (.slice none 0 0))).length from hlen)
    have HRA:=Ag (show wr.rangeAt b (o+k* 9) (wrC x.nm x.v x.e x.u tc) from fun i z hz=> (HO.out.2.2.2.cell (Am (hra i z hz))).trans (hra i z hz))
    have HTL:=Ag htc.len
    clear hra hlen htc HT hkl HIX0 HXO0
    go_upto_region 7 with(first
  | (with_reducible refine Ap rfl 56 (.tmp 16) rfl b (o+k* 9) rfl (wrC x.nm x.v x.e x.u tc) _ HRA.out Tryz.underlying56 rfl HIX.out ?_)
  | ((with_reducible refine Av wr rfl 56 rfl (wrC ⟨#[]⟩ 0 0 0 (tmC 0 0 0 ⟨#[]⟩ (.slice none 0 0))) Tryz.zeroWr9 ?_);intro x2 hb hbel hsz;have HX2:=hJ2 hbel hb;clear hb hbel hsz)
  | ((with_reducible refine Ao x2 rfl 56 (.tmp 7) (.tmp 17) rfl (wr.heap.size) 56 (wrC ⟨#[]⟩ 0 0 0 (tmC 0 0 0 ⟨#[]⟩ (.slice none 0 0))) (wrC x.nm x.v x.e x.u tc) HX2.out.2 rfl rfl HZL.out HIX.out HXO.out ?_);intro x3 hb hc hs;have HX3:=hJ2 (Aw HX2.out.1 hc (Ah _) (fun k hk=> by have e:=(show _=_ from hk);omega)) hb;clear hb hc hs))
    try simp only[Al,Ad,Ae,Af]
    have c0:=HX3.out.2.cell 0
    simp only[wrC,Ab,Ac] at c0
    obtain⟨xn,hxn⟩:∃ n,x.nm=n:=⟨_,rfl⟩
    obtain⟨bq,hq⟩:∃ q,(xn.toList==nm.toList)=q:=⟨_,rfl⟩
    have HQ:=Ag (show nmB x.nm nm=bq from by rw[hxn];exact hq)
    rw[hxn] at c0
    cases bq
    ·have HT3:=Ag (show l ++ (s.ws.drop (k+1)).filter (fun x=> nmB x.nm nm)=R from by have h:=HT2.out;rw[HQ.out,if_neg (by simp)] at h;exact h)
     go_wp2_with fail
     go_roundw
     case measure=> simp[intOf];omega
     case rel=> exact⟨k+1,l,oz,pz,by go_num,by omega,rfl,Ag ⟨HT3.out,by have:=HLL.out;omega⟩,Ag ⟨HO.out.1.below HX3.out.1 HO.out.1.lt,HO.out.2.1.fhb HX3.out.1,Aj HO.out.2.2.1 HX3.out.1.size,An HO.out.2.2.2 HX3.out.1 (Ah _)⟩⟩
    ·have HT3:=Ag (show(l ++ [x]) ++ (s.ws.drop (k+1)).filter (fun x=> nmB x.nm nm)=R from by have h:=HT2.out;rw[HQ.out,if_pos rfl] at h;rw[←h];simp)
     have HTX:=Ag (show TmC F x3 tc x.b from HTC.out.below (An HO.out.2.2.2 HX3.out.1 (Ah _)))
     have HG3:=Ag HX3.out.2.lt
     clear HTC
     go_wp2_with (first
  | (with_reducible refine Ap rfl 29 (.tmp 22) rfl (wr.heap.size) 4 rfl tc _ (Dl HX3.out.2) Tryz.underlying29 rfl (At Tryz.infoTm HTL.out) ?_))
     refine(Ca x.b tc F x3 HFX.out HTX.out).mono ?_
     rintro e' x4 ⟨tcn,rfl,ht,hb⟩
     have HX4:=hJ3 (An HX3.out.1 hb (Ah _)) (HX3.out.2.below hb HX3.out.2.lt) ht
     have HTN:=Ag ht.len
     have HNI:=Ag (At Tryz.infoTm ht.len)
     have HNO:=Ag ht.one
     have HSL:=Ag (show 4+tcn.length≤(wrC x.nm x.v x.e x.u tc).length from by rw[HTN.out];simp[wrC,HTL.out])
     have HNB:=Ag (Ea x.nm x.v x.e x.u tc tcn (by rw[HTN.out,HTL.out]))
     have HN9:=Ag (show(wrC x.nm x.v x.e x.u tcn).length=9 from by simp[wrC,HTN.out])
     have HNX:=Ag (At Tryz.infoWr HN9.out)
     have HB34:=Ag hb
     clear ht hb HX2
     have HWN:=Ag (show s.ws.length≤1000000 from HFW.out.2.2.2.2.2)
     have HFT:=Ag (fun (W:World) (h:TmC (x3.heap.size≤·) W tcn x.b)=> show TmC (FH w.heap.size (.slice oz l.length pz) W) W tcn x.b from(TmC.old' _ _ h).mono fun j hj=> ⟨fun e=> by
      have h1:=(HO.out.2.1.lt j e).2
      have h2:=HX3.out.1.size
      have h3:x3.heap.size≤j:=hj.1
      omega,by
      have h1:=HX3.out.1.size
      have h2:=HO.out.2.2.2.size
      have h3:x3.heap.size≤j:=hj.1
      omega,hj.2⟩)
     clear c0
     go_wp2_with (first
  | ((with_reducible refine Bg x4 rfl 29 (.tmp 25) (.tmp 24) rfl (wr.heap.size) 4 56 _ (tcn) (wrC x.nm x.v x.e x.u tcn) HX4.out.2.1 rfl rfl HSL.out HNI.out HNO.out HNB.out ?_);intro x5 hb hc hs;have HX5:=hJ3 (Aw HX4.out.1 hc (Ah _) (fun k hk=> by have e:=(show _=_ from hk);omega)) hb (HX4.out.2.2.keep hc (fun k hk e=> by have e:=(show _=_ from e);have hk:x3.heap.size≤k:=hk;have:=HG3.out;omega));clear hb hc hs)
  | (with_reducible refine Ap rfl 56 (.tmp 7) rfl (wr.heap.size) 0 rfl (wrC x.nm x.v x.e x.u tcn) _ (As HX5.out.2.1) Tryz.underlying56 rfl HNX.out ?_)
  | ((with_reducible refine Co x5 rfl (.tmp 27) rfl (wrC x.nm x.v x.e x.u tcn) HN9.out rfl ?_);intro x6 hb hbel hsz;have HX6:=hJ4 (An HX5.out.1 hbel (Ah _)) (HX5.out.2.1.below hbel HX5.out.2.1.lt) (HX5.out.2.2.below hbel) hb;clear hb hbel hsz)
  | (at_builtin;refine F2 rfl (.tmp 26) (.tmp 28) rfl (HO.out.2.1.fhb HX6.out.1) rfl rfl HX6.out.2.2.2 ⟨tcn,rfl,HFT.out _ HX6.out.2.2.1⟩ (by have:=HLL.out;have:=HWN.out;have:=HN.out;omega) (Aj HO.out.2.2.1 HX6.out.1.size) ?_))
     intro oy py x7 hrow hc
     have HB7:=Ag (show Below wr.heap.size wr x6 from HX6.out.1)
     have HX7:=hJ4 ((HO.out.1.below HB7.out HO.out.1.lt).keep hc (fun e=> by have h1:=(HO.out.2.1.lt _ e).1;have h2:=HG.out;omega)) hrow (Aj HO.out.2.2.1 (Aj HB7.out.size hc.size)) (Aw (An HO.out.2.2.2 HB7.out (Ah _)) hc (Ah _) (fun j e=> by have h1:=(HO.out.2.1.lt _ e).1;have h2:=HG.out;omega))
     clear hrow hc
     go_wp2_with fail
     go_roundw
     case measure=> simp[intOf];omega
     case rel=>
      have e:(l ++ [x]).length=l.length+1:=by simp
      exact⟨k+1,l ++ [x],oy,py,by go_num,by omega,by rw[e],Ag ⟨HT3.out,by rw[e];have:=HLL.out;omega⟩,by rw[e];exact HX7⟩
   ·have hge:¬ (k:Int)<(wn:Int):=by omega
    have HE:=Ag (show l=R from by have h:=HT.out.1;rw[List.drop_of_length_le (by rw[HN.out];omega)] at h;simpa using h)
    go_wp2_with fail
    go_ret
    exact⟨_,rfl,by rw[←HE.out];exact HO.out.2.1.rwc.mono (fun j hj=> by have h1:=(HO.out.2.1.lt j hj).1;have h2:=HG.out;show w.heap.size≤j;omega) (fun cs a _ h=> h.mono fun j hj=> hj.2.1),HO.out.2.2.2⟩
 ·have HC0:=Ag (show Calls Tryz.prog 16 #[.agg ([vf,vc,.slice aw wn cw]:List Value).toArray] a1 (fun e w'=> e=.returned (.int .i64 282)∧Below a1.heap.size a1 w') from by have h:=HCK.out a1 H1.out.2;rw[if_neg hk] at h;exact h)
  have HRR:=Ag (show[]=R from by rw[←HR.out];unfold CU;rw[if_neg hk])
  clear hk HCK HR
  go_wp2_with (first
  | (with_reducible refine Ap rfl 26 (.tmp 2) rfl (w.heap.size) 0 rfl ([vf,vc,.slice aw wn cw]) _ (As H1.out.1) Tryz.underlying26 rfl (At Tryz.infoId rfl) ?_))
  refine HC0.out.mono ?_
  rintro e' b1 ⟨rfl,hb⟩
  have HB:=Ag (An H1.out.2 hb (Ah _))
  clear hb
  go_wp2_with fail
  go_ret
  exact⟨_,rfl,by rw[←HRR.out];exact RwC.nil _ _ _ _,HB.out⟩
def Ex {α:Type} (C:(Nat→Prop)→World→List Value→α→Prop):Prop:=∀ {F G S:Nat→Prop} {w w':World} {cs:List Value} {a:α},C F w cs a→Ch S w w'→(∀ k,F k→¬ S k)→(∀ k,F k→G k)→C G w' cs a
theorem D1:Ex TmC:=fun h hc hS hG=> TmC.keep' hc hS hG _ _ h
theorem CV:Ex FlC:=fun h hc hS hG=> h.keep' hc hS hG
theorem D3:Ex CiC:=fun h hc hS hG=> h.keep' hc hS hG
theorem EX:Ex WrC:=fun h hc hS hG=> h.keep' hc hS hG
section
variable {α:Type} {C:(Nat→Prop)→World→List Value→α→Prop}
theorem OwR.fhQ {sz:Nat} {ty:TypeId} (hK:Ex C) {B N:Nat} {w w':World} {v:Value} {l:List α} (h:OwR (C (FH B v w)) sz ty N w v l) (hb:Below w.heap.size w w'):OwR (C (FH B v w')) sz ty N w' v l:=
 h.keep' (Ch.of_below (S:=fun _=> False) hb (Ah _)) (fun _ _ e=> e) (fun cs a _ h=> hK h (Ch.of_below (S:=fun _=> False) hb (Ah _)) (fun _ _ e=> e) (fun j hj=> ⟨hj.1,hj.2.1,Ak hj.2.2 hb.size⟩))
theorem OwR.fhS {sz g:Nat} {ty:TypeId} (hK:Ex C) {B N:Nat} {w w':World} {v:Value} {l:List α} (h:OwR (C (FH B v w)) sz ty N w v l) (hc:Ch (·=g) w w') (h1:g<B) (h2:g<N):OwR (C (FH B v w')) sz ty N w' v l:=
 h.keep' hc (fun k hk e=> by have:=(h.lt k hk).1;omega) (fun cs a _ h=> hK h hc (fun j hj e=> by have:=hj.2.1;omega) (fun j hj=> ⟨hj.1,hj.2.1,Ak hj.2.2 hc.size⟩))
theorem B4 (hK:Ex C) {ty st:TypeId} {sz by':Nat} {z:Value} (hu:Tryz.prog.underlying st=some (.slice ty)) (hinfo:(Tryz.prog.info? ty).map (fun i=> (i.zero,i.size,i.bytes))=some (some z,sz,by')) (hz:z.cells.size=sz) (hsz:0<sz) (hby:by'≤100000)
  (hlen:∀ {F:Nat→Prop} {w:World} {cs:List Value} {a:α},C F w cs a→cs.length=sz) (hone:∀ {F:Nat→Prop} {w:World} {cs:List Value} {a:α},C F w cs a→∀ v∈cs,v.oneCell'=true)
  {w:World} {ops:Array Oper} {rest:List Oper} {o:Oper} {a:Act} {Q:Exit→Act→World→Prop} (hgd:o.guard=none) (s x':Operand)
  (ho:o.op=.call {callee:=.builtin .append,args:=#[s,x'],argTypes:=#[st,st]}) {B N:Nat} {v:Value} {l:List α} (hI:OwR (C (FH B v w)) sz ty N w v l) (hs:a.eval s=v) {b:Nat} {cs:List Value} {x:α} (hx:a.eval x'=.slice (some ⟨b,0,none⟩) 1 1) (hb:Blk w b ty cs) (hw:C (FH B v w) w cs x) (hn:l.length≤1000000) (hB:N≤w.heap.size)
  (h:∀ ao c w',OwR (C (FH B (.slice ao (l.length+1) c) w')) sz ty N w' (.slice ao (l.length+1) c) (l ++ [x])→Ch (fun k=> v.ownBlock=some k) w w'→wpList Tryz.prog ops Q rest (a.put o.dst (.slice ao (l.length+1) c)) w'):
  wpList Tryz.prog ops Q (o::rest) a w:=by
 obtain⟨i0,hi0,hz0,hz1,hz2⟩:=info_parts hinfo
 refine Bz hgd s x' st ho hu i0 _ by' hi0 hz0 hz1 hz2 hz hsz (C:=C (FH B v w)) (C':=C (FH B v w)) hI hs (r:=[x]) (F:=fun _=> True) hx (RwC.of_one hb trivial (hlen hw) hw) (fun cs a _ h=> hone h) (l.length+1) (by simp) (by omega) hby hB (fun w' hc cs a _ hf=> hK hf hc (fun j hj e=> hj.1 e) (fun _ h=> h)) ?_
 intro ao c w' h1 h2 h3
 refine h ao c w' (h1.mono (Ah _) (fun cs a _ hf=> hK hf (Ch.refl (fun _=> False) w') (fun _ _ e=> e) fun j hj=> ⟨fun e=> ?_,hj.2.1,Ak hj.2.2 h2.size⟩)) h2
 rcases h3 with h3|h3
 ·rw[h3] at e;exact hj.1 e
 ·rw[h3] at e;injection e with e;have:=hj.2.2;omega
end
theorem DM (w:World) {ops:Array Oper} {rest:List Oper} {o:Oper} {a:Act} {Q:Exit→Act→World→Prop} (hgd:o.guard=none) (x:Operand) (ho:o.op=.buildSlice 27 1 #[(0,x)]) (cs:List Value) (hcs:cs.length=5)
  (hx:a.eval x=.agg cs.toArray) (h:∀ w',Blk w' w.heap.size 29 cs→Below w.heap.size w w'→w'.heap.size=w.heap.size+1→wpList Tryz.prog ops Q rest (a.put o.dst (.slice (some ⟨w.heap.size,0,none⟩) 1 1)) w'):wpList Tryz.prog ops Q (o::rest) a w:=
 Bk w hgd 27 x ho Tryz.underlying27 (fun w=> by kernel_rfl) Tryz.zeroTm (by decide) (by decide) cs hcs hx h
theorem Tryz.sizeStr18:(Tryz.prog.info? 9).map (·.size)=some 1:=by kernel_rfl
theorem Tryz.sizeTs18:(Tryz.prog.info? 27).map (·.size)=some 1:=by kernel_rfl
theorem EY (v:Value) (l:List Int) (w:World) (hv:Sl w v (ofK .i64 l)):Calls Tryz.prog 21 #[v] w (fun e w'=> ∃ v' l',e=.returned v'∧l'.length≤8∧SlI (w.heap.size≤·) w' v' l'∧Below w.heap.size w w'):=by
 obtain⟨i0,hi,hz0,hz1,hz2⟩:=info_parts Tryz.infoI
 obtain⟨ao,c,rfl,a2,a3,a4⟩:=hv.nums
 have HO0:=Ag ((Blk.new w [] 3).owns (base:=w.heap.size) (Ah _) (by simp))
 have hb1:=(Below.refl w.heap.size w).alloc (Ah _) (.cells #[] 3)
 by_cases h:8<l.length
 ·skip
  have ht:=hv.take 8 (by rw[AJ];omega)
  rw[Hx] at ht
  have HS0:=Ag (ht.below hb1 (Ah _))
  have HL:=Ag (show(l.take 8).length=8 by rw[List.length_take];omega)
  clear ht
  clear hv a4 hb1
  go_enter Tryz.func21,Tryz.ntmps21
  go_wp2_with (at_builtin;refine CG _ rfl (.tmp 3) (.tmp 8) 40 rfl w.heap.size 3 i0 (.int .i64 0) 8 Tryz.underlying40 hi hz0 hz1 hz2 rfl (.slice (some ⟨w.heap.size,0,none⟩) 0 0) 0 [] rfl HO0.out _ _ rfl HS0.out (Cx _ _) (8) ?_ ?_ ?_ ?_ ?_)
  ·rw[AJ,HL.out]
  ·unfold maxLen;omega
  ·omega
  ·simp
  ·intro ao1 c1 w2 hown1 hgr1 _
   have hb2:Below w.heap.size w w2:=((Below.refl w.heap.size w).alloc (Ah _) (.cells #[] 3)).grown hgr1 (by simp) (fun k hk=> by cases hk;exact Ah _)
   go_wp2_with fail
   go_ret
   exact⟨_,_,rfl,(show(l.take 8).length≤8 by rw[HL.out];omega),⟨Sl.of_owns hown1,fun k _ hk=> (hown1.lt k hk).1⟩,hb2⟩
 ·skip
  have HS0:=Ag (hv.below hb1 (Ah _))
  clear hv a4 hb1
  go_enter Tryz.func21,Tryz.ntmps21
  go_wp2_with (at_builtin;refine CG _ rfl (.tmp 3) (.tmp 8) 40 rfl w.heap.size 3 i0 (.int .i64 0) 8 Tryz.underlying40 hi hz0 hz1 hz2 rfl (.slice (some ⟨w.heap.size,0,none⟩) 0 0) 0 [] rfl HO0.out _ _ rfl HS0.out (Cx _ _) (l.length) ?_ ?_ ?_ ?_ ?_)
  ·rw[AJ,Nat.zero_add]
  ·unfold maxLen;omega
  ·omega
  ·simp
  ·intro ao1 c1 w2 hown1 hgr1 _
   have hb2:Below w.heap.size w w2:=((Below.refl w.heap.size w).alloc (Ah _) (.cells #[] 3)).grown hgr1 (by simp) (fun k hk=> by cases hk;exact Ah _)
   go_wp2_with fail
   go_ret
   exact⟨_,_,rfl,(show l.length≤8 by omega),⟨Sl.of_owns hown1,fun k _ hk=> (hown1.lt k hk).1⟩,hb2⟩
theorem Tryz.buildtxt (s:ByteArray):∀ w,(Instr.build 29 #[(0,.int .i64 1),(3,.string s)]).run Tryz.prog w=.ok (.agg (tmC 1 0 0 s (.slice none 0 0)).toArray) w:=fun w=> by kernel_rfl
theorem Fn {ops:Array Oper} {rest:List Oper} {op:Oper} {a:Act} {w:World} {Q:Exit→Act→World→Prop} (hgd:op.guard=none) (x0:Operand) (ho:op.op=.build 29 #[(0,.const (.int .i64 1)),(3,x0)]) (s:ByteArray) (h0:a.eval x0=.string s)
  (h:wpList Tryz.prog ops Q rest (a.put op.dst (.agg (tmC 1 0 0 s (.slice none 0 0)).toArray)) w):wpList Tryz.prog ops Q (op::rest) a w:=by
 refine wpList_plain hgd fun K hK=> ?_
 have hrun:(execOp a.eval op).run Tryz.prog w=.ok (.value (.agg (tmC 1 0 0 s (.slice none 0 0)).toArray)) w:=by
  unfold execOp
  simp only[ho]
  rw[show(#[((0:Nat),Operand.const (.int .i64 1)),(3,x0)].map fun (i,x)=> (i,a.eval x))=#[(0,.int .i64 1),(3,.string s)] by simp only[List.map_toArray,List.map_cons,List.map_nil,h0];rfl]
  simp[Tryz.buildtxt,Result.andThen]
 unfold Oper.wp
 rw[hrun]
 exact hK _ _ h
def txT (s:ByteArray):Tm:=.mk 1 0 0 s []
theorem txT_C (F:Nat→Prop) (w:World) (s:ByteArray):TmC F w (tmC 1 0 0 s (.slice none 0 0)) (txT s):=B6.2 ⟨_,rfl,SlT.nil _ _⟩
theorem GH (s:ByteArray) (w:World):Calls Tryz.prog 18 #[.string s] w (fun e w'=> e=.returned (.agg (tmC 1 0 0 s (.slice none 0 0)).toArray)∧Below w.heap.size w w'):=by
 go_enter Tryz.func18,Tryz.ntmps18
 go_wp2_with (first
  | ((with_reducible refine Av w rfl 29 rfl (tmC 0 0 0 ⟨#[]⟩ (.slice none 0 0)) Tryz.zeroTm ?_);intro b1 hb hbel hsz;have HB1:=Ag (Ai hb hbel);clear hb hbel hsz)
  | (with_reducible refine Fn rfl (.tmp 3) rfl s rfl ?_)
  | ((with_reducible refine Ao b1 rfl 29 (.tmp 2) (.tmp 4) rfl w.heap.size 29 (tmC 0 0 0 ⟨#[]⟩ (.slice none 0 0)) (tmC 1 0 0 s (.slice none 0 0)) HB1.out.1 rfl rfl rfl (A9 _ _ _ _ _) (AS _ _ _ _ _ _ _) ?_);intro b2 hb hc hs;have HB2:=Ag (Ai hb (Aw HB1.out.2 hc (Ah _) (fun k hk=> by have e:k=w.heap.size:=hk;omega)));clear hb hc hs))
 refine bodyPost_ret (AC Tryz.results18 _ _ w.heap.size _ _ rfl HB2.out.1 _ Tryz.underlying29 rfl (A9 _ _ _ _ _)) rfl ?_
 exact⟨rfl,HB2.out.2⟩
theorem En:∀ (n:Nat),n≤1000→∀ (t:Tm) (cs:List Value) (F:Nat→Prop) (w:World),TmC F w cs t→Calls Tryz.prog 22 #[.agg cs.toArray,.int .i64 (n:Nat)] w (fun e w'=> ∃ cs' t',e=.returned (.agg cs'.toArray)∧TmC (w.heap.size≤·) w' cs' t'∧Below w.heap.size w w'):=by
 intro n
 induction n using Nat.strongRecOn with
 | ind n ih=>
  intro hnb tt cs F w ht
  obtain⟨k0,u0,n0,s0,ks⟩:=tt
  obtain⟨ka,kc,rfl,hk1,hk2,hsl⟩:=ht.shape
  simp only[Tm.k,Tm.u,Tm.n,Tm.s,Tm.ks] at hk1 hsl ⊢
  have HKS:=Ag hsl.rwc
  obtain⟨kn,hkn⟩:∃ m,ks.length=m:=⟨_,rfl⟩
  have HN:=Ag hkn
  rw[hkn] at HKS hk1 ⊢
  have hkn63:kn≤9223372036854775807:=by unfold maxLen at hk2;have:=hk1;omega
  have HLT:=Ag (show 3<(tmC k0 u0 n0 s0 (.slice ka kn kc):List Value).length from by simp[tmC])
  have HIH:=Ag ih
  clear ht hk1 hk2 hsl hkn ih
  by_cases hsz65:65<s0.size
  ·skip
   have hz1:(65:Int)<(s0.size:Int):=by omega
   have hz2:¬ ((s0.size:Int)<65):=by omega
   have hz3:¬ ((s0.size:Int)≤65):=by omega
   have hz4:(65:Int)≤(s0.size:Int):=by omega
   go_enter Tryz.func22,Tryz.ntmps22
   go_upto_region 2 with(first
  | ((with_reducible refine Au w rfl 29 (.tmp 0) rfl (tmC k0 u0 n0 s0 (.slice ka kn kc)) rfl ?_);intro a1 hb hbel hsz;have H1:=hJ2 hb hbel;clear hb hbel hsz)
  | ((with_reducible refine Av a1 rfl 29 rfl (tmC 0 0 0 ⟨#[]⟩ (.slice none 0 0)) Tryz.zeroTm ?_);intro a2 hb hbel hsz;have H2:=hJ3 (H1.out.1.below hbel H1.out.1.lt) (An H1.out.2 hbel (Ah _)) hb;have HG:=hJ2 H1.out.1.lt hb.lt;have c3:=H2.out.1.cell 3;simp only[tmC,Ab,Ac] at c3;clear hb hbel hsz)
  | ((with_reducible refine AK a2 rfl 9 (.tmp 15) (.tmp 14) rfl (w.heap.size) 3 29 _ H2.out.1 rfl (.string _) rfl HLT.out Tryz.sizeStr18 rfl rfl ?_);intro a3 hb hc hs;clear c3))
   try simp only[Al,Ad,Ae,Af]
   generalize hxs:(tmC k0 u0 n0 s0 (.slice ka kn kc):List Value).set 3 _=xs3 at hb
   obtain⟨s1,hx1⟩:∃ s1,xs3=tmC k0 u0 n0 s1 (.slice ka kn kc):=⟨_,by rw[←hxs];rfl⟩
   subst hx1
   have H3:=Ag (show Blk a3 (w.heap.size) 29 (tmC k0 u0 n0 s1 (.slice ka kn kc))∧Blk a3 (a1.heap.size) 29 (tmC 0 0 0 ⟨#[]⟩ (.slice none 0 0))∧Below w.heap.size w a3 from⟨hb,H2.out.2.2.keep hc (fun e=> absurd (show _=_ from e) (by have:=HG.out;omega)),Aw H2.out.2.1 hc (Ah _) (fun k hk=> by have e:=(show _=_ from hk);omega)⟩)
   have HG3:=Ag (show w.heap.size<a1.heap.size∧a1.heap.size<a3.heap.size from⟨HG.out.1,Ak HG.out.2 hc.size⟩)
   have c4:=hb.cell 4
   simp only[tmC,Ab,Ac] at c4
   clear hb hc hs hxs H1 H2 hz1 hz2 hz3 hz4 hsz65 HG
   have H0:=Ag (show Blk a3 (w.heap.size) 29 (tmC k0 u0 n0 s1 (.slice ka kn kc))∧Blk a3 (a1.heap.size) 29 (tmC 0 0 0 ⟨#[]⟩ (.slice none 0 0))∧OwR (TmC (FH a3.heap.size (.slice none 0 0) a3)) 5 29 a3.heap.size a3 (.slice none 0 0) ([])∧a3.heap.size≤a3.heap.size∧Below w.heap.size w a3 from⟨H3.out.1,H3.out.2.1,OwR.nil,Ah _,H3.out.2.2⟩)
   clear H3
   go_wp2_with fail
   clear c4
   go_loopw [5,19] (fun s5 s19 wr=> ∃ (j:Nat) (l:List Tm) (oz:Option Addr) (pz:Nat),s19=.int .i64 j∧j≤kn∧s5=.slice oz l.length pz∧Hid (l.length≤j∧l.length≤3)∧Hid (Blk wr (w.heap.size) 29 (tmC k0 u0 n0 s1 (.slice ka kn kc))∧Blk wr (a1.heap.size) 29 (tmC 0 0 0 ⟨#[]⟩ (.slice none 0 0))∧OwR (TmC (FH a3.heap.size (.slice oz l.length pz) wr)) 5 29 a3.heap.size wr (.slice oz l.length pz) (l)∧a3.heap.size≤wr.heap.size∧Below w.heap.size w wr)) (fun _ s19 _=> kn - (intOf s19).toNat)
   case atStart=> exact⟨0,[],none,0,rfl,Nat.zero_le _,rfl,Ag ⟨Ah _,by simp⟩,H0⟩
   case round=>
    clear H0
    obtain⟨j,l,oz,pz,rfl,hj,rfl,HT,HO⟩:=hrel
    by_cases hlt:j<kn
    ·skip
     have hjl:j<ks.length:=by rw[HN.out];exact hlt
     have hjz:(j:Int)<(kn:Int):=by omega
     have hj0:(0:Int)≤(j:Int):=by omega
     obtain⟨b,o,xcs,rfl,-,-,hlen,hra,hxc⟩:=HKS.out.get hjl
     generalize ks[j]=x at hxc
     have HXC:=Ag hxc
     have HXO:=Ag hxc.one
     have HZL:=Ag (show xcs.length=(tmC 0 0 0 ⟨#[]⟩ (.slice none 0 0)).length from hlen)
     have HRA:=Ag (Ai (show wr.rangeAt b (o+j* 5) xcs from fun i z hz=> (HO.out.2.2.2.2.cell (Am (hra i z hz))).trans (hra i z hz)) hlen)
     clear hra hlen hxc hjl
     go_upto_region 6 with(first
  | (with_reducible refine Ap rfl 29 (.tmp 22) rfl b (o+j* 5) rfl xcs _ HRA.out.1 Tryz.underlying29 rfl (At Tryz.infoTm HRA.out.2) ?_)
  | ((with_reducible refine Av wr rfl 29 rfl (tmC 0 0 0 ⟨#[]⟩ (.slice none 0 0)) Tryz.zeroTm ?_);intro x2 hb hbel hsz;have HX2:=hJ2 hbel hb;clear hb hbel hsz)
  | ((with_reducible refine Ao x2 rfl 29 (.tmp 7) (.tmp 23) rfl (wr.heap.size) 29 (tmC 0 0 0 ⟨#[]⟩ (.slice none 0 0)) (xcs) HX2.out.2 rfl rfl HZL.out (At Tryz.infoTm HRA.out.2) HXO.out ?_);intro x3 hb hc hs;have HX3:=hJ2 (Aw HX2.out.1 hc (Ah _) (fun k hk=> by have e:=(show _=_ from hk);omega)) hb;clear hb hc hs))
     try simp only[Al,Ad,Ae,Af]
     have hdec:(j<3∧0<n)∨¬ (j<3∧0<n):=Classical.em _
     rcases hdec with h3|h3
     ·skip
      have h31:(j:Int)<3:=by omega
      have h32:(0:Int)<(n:Int):=by omega
      have hdm:((n:Int) - 1)=((n - 1:Nat):Int):=by omega
      have HSM:=Ag (show Calls Tryz.prog 22 #[.agg xcs.toArray,.int .i64 (n - 1:Nat)] x3 (fun e w'=> ∃ cs' t',e=.returned (.agg cs'.toArray)∧TmC (x3.heap.size≤·) w' cs' t'∧Below x3.heap.size x3 w') from HIH.out (n - 1) (by omega) (by omega) x xcs F x3 (HXC.out.below (An HO.out.2.2.2.2 HX3.out.1 (Ah _))))
      go_wp2_with (first
  | (with_reducible refine Ap rfl 29 (.tmp 7) rfl (wr.heap.size) 0 rfl (xcs) _ (As HX3.out.2) Tryz.underlying29 rfl (At Tryz.infoTm HRA.out.2) ?_))
      try rw[hdm]
      refine HSM.out.mono ?_
      rintro e' x4 ⟨tcn,tn,rfl,ht,hb⟩
      have HX4:=hJ2 (An HX3.out.1 hb (Ah _)) ht
      have HN5:=Ag ht.len
      have HFT:=Ag (fun (W:World) (h:TmC (x3.heap.size≤·) W tcn tn)=> show TmC (FH a3.heap.size (.slice oz l.length pz) W) W tcn tn from(TmC.old' _ _ h).mono fun i hi=> ⟨fun e=> by
       have h1:=(HO.out.2.2.1.lt i e).2
       have h2:=HX3.out.1.size
       have h3:x3.heap.size≤i:=hi.1
       omega,by
       have h1:=HX3.out.1.size
       have h2:=HO.out.2.2.2.1
       have h3:x3.heap.size≤i:=hi.1
       omega,hi.2⟩)
      clear ht hb HX2
      go_wp2_with (first
  | ((with_reducible refine DM x4 rfl (.tmp 34) rfl (tcn) HN5.out rfl ?_);intro x6 hb hbel hsz;have HX6:=hJ3 (An HX4.out.1 hbel (Ah _)) (HX4.out.2.below hbel) hb;clear hb hbel hsz)
  | (at_builtin;refine B4 @D1 Tryz.underlying27 Tryz.infoRT rfl (by omega) (by omega) (fun h=> h.len) (fun h=> h.one) rfl (.tmp 30) (.tmp 35) rfl (HO.out.2.2.1.fhQ @D1 HX6.out.1) rfl rfl HX6.out.2.2 (HFT.out _ HX6.out.2.1) (by have:=HT.out;omega) (Aj HO.out.2.2.2.1 HX6.out.1.size) ?_))
      intro oy py x7 hrow hc
      have HB7:=Ag (show Below wr.heap.size wr x6 from HX6.out.1)
      have HX7:=hJ5 ((HO.out.1.below HB7.out HO.out.1.lt).keep hc (fun e=> by have h1:=(HO.out.2.2.1.lt _ e).1;have h2:=HG3.out;omega)) ((HO.out.2.1.below HB7.out HO.out.2.1.lt).keep hc (fun e=> by have h1:=(HO.out.2.2.1.lt _ e).1;have h2:=HG3.out;omega)) hrow (Aj HO.out.2.2.2.1 (Aj HB7.out.size hc.size)) (Aw (An HO.out.2.2.2.2 HB7.out (Ah _)) hc (Ah _) (fun i e=> by have h1:=(HO.out.2.2.1.lt _ e).1;have h2:=HG3.out;omega))
      clear hrow hc
      go_wp2_with fail
      go_roundw
      case measure=> simp[intOf];omega
      case rel=>
       have e:(l ++ [tn]).length=l.length+1:=by simp
       exact⟨j+1,l ++ [tn],oy,py,by go_num,by omega,by rw[e],Ag (by rw[e];have:=HT.out;omega),by rw[e];exact HX7⟩
     ·skip
      by_cases h33:(j:Int)<3
      ·skip
       have h34:¬ (0:Int)<(n:Int):=by omega
       go_wp2_with fail
       go_roundw
       case measure=> simp[intOf];omega
       case rel=> exact⟨j+1,l,oz,pz,by go_num,by omega,rfl,Ag (by have:=HT.out;omega),Ag ⟨HO.out.1.below HX3.out.1 HO.out.1.lt,HO.out.2.1.below HX3.out.1 HO.out.2.1.lt,HO.out.2.2.1.fhQ @D1 HX3.out.1,Aj HO.out.2.2.2.1 HX3.out.1.size,An HO.out.2.2.2.2 HX3.out.1 (Ah _)⟩⟩
      ·skip
       go_wp2_with fail
       go_roundw
       case measure=> simp[intOf];omega
       case rel=> exact⟨j+1,l,oz,pz,by go_num,by omega,rfl,Ag (by have:=HT.out;omega),Ag ⟨HO.out.1.below HX3.out.1 HO.out.1.lt,HO.out.2.1.below HX3.out.1 HO.out.2.1.lt,HO.out.2.2.1.fhQ @D1 HX3.out.1,Aj HO.out.2.2.2.1 HX3.out.1.size,An HO.out.2.2.2.2 HX3.out.1 (Ah _)⟩⟩
    ·have hge:¬ (j:Int)<(kn:Int):=by omega
     have HL4:=Ag (show 4<(tmC k0 u0 n0 s1 (.slice ka kn kc):List Value).length from by simp[tmC])
     go_wp2_with (first
  | ((with_reducible refine AK wr rfl 27 (.tmp 39) (.tmp 38) rfl (w.heap.size) 4 29 _ HO.out.1 rfl (.slice oz l.length pz) rfl HL4.out Tryz.sizeTs18 rfl rfl ?_);intro y2 hb hc hs;have HY2:=Ag (show Blk y2 (w.heap.size) 29 (tmC k0 u0 n0 s1 (.slice oz l.length pz))∧Blk y2 (a1.heap.size) 29 (tmC 0 0 0 ⟨#[]⟩ (.slice none 0 0))∧OwR (TmC (FH a3.heap.size (.slice oz l.length pz) y2)) 5 29 a3.heap.size y2 (.slice oz l.length pz) (l)∧Below w.heap.size w y2 from⟨hb,HO.out.2.1.keep hc (fun e=> absurd (show _=_ from e) (by have:=HG3.out;omega)),HO.out.2.2.1.fhS @D1 hc (by have:=HG3.out;omega) (by have:=HG3.out;omega),Aw HO.out.2.2.2.2 hc (Ah _) (fun k hk=> by have e:=(show _=_ from hk);have:=HG3.out;omega)⟩);clear hb hc hs)
  | (with_reducible refine Ap rfl 29 (.tmp 2) rfl (w.heap.size) 0 rfl (tmC k0 u0 n0 s1 (.slice oz l.length pz)) _ (As HY2.out.1) Tryz.underlying29 rfl (A9 _ _ _ _ _) ?_)
  | ((with_reducible refine Ao y2 rfl 29 (.tmp 4) (.tmp 40) rfl (a1.heap.size) 29 (tmC 0 0 0 ⟨#[]⟩ (.slice none 0 0)) (tmC k0 u0 n0 s1 (.slice oz l.length pz)) HY2.out.2.1 rfl rfl rfl (A9 _ _ _ _ _) (AS _ _ _ _ _ _ _) ?_);intro y3 hb hc hs;have HY3:=hJ3 hb (HY2.out.2.2.1.fhS @D1 hc (by have:=HG3.out;omega) (by have:=HG3.out;omega)) (Aw HY2.out.2.2.2 hc (Ah _) (fun k hk=> by have e:=(show _=_ from hk);have:=HG3.out;omega));clear hb hc hs))
     refine bodyPost_ret (AC Tryz.results22 _ _ (a1.heap.size) _ _ rfl HY3.out.1 _ Tryz.underlying29 rfl (A9 _ _ _ _ _)) rfl ?_
     exact⟨_,rfl,⟨.mk k0 u0 n0 s1 l,B6.2 ⟨_,rfl,(HY3.out.2.1.rwc.mono (fun i hi=> by have h1:=(HY3.out.2.1.lt i hi).1;have h2:=HG3.out;show w.heap.size≤i;omega) (fun cs a _ h=> h.mono fun i hi=> by have h1:=hi.2.1;have h2:=HG3.out;show w.heap.size≤i;omega)).slt⟩⟩,HY3.out.2.2⟩
  ·skip
   have hz1:(s0.size:Int)≤65:=by omega
   have hz2:¬ ((65:Int)<(s0.size:Int)):=by omega
   have hz3:(0:Int)≤(s0.size:Int):=by omega
   have hz4:(s0.size:Int)≤(s0.size:Int):=by omega
   go_enter Tryz.func22,Tryz.ntmps22
   go_upto_region 2 with(first
  | ((with_reducible refine Au w rfl 29 (.tmp 0) rfl (tmC k0 u0 n0 s0 (.slice ka kn kc)) rfl ?_);intro a1 hb hbel hsz;have H1:=hJ2 hb hbel;clear hb hbel hsz)
  | ((with_reducible refine Av a1 rfl 29 rfl (tmC 0 0 0 ⟨#[]⟩ (.slice none 0 0)) Tryz.zeroTm ?_);intro a2 hb hbel hsz;have H2:=hJ3 (H1.out.1.below hbel H1.out.1.lt) (An H1.out.2 hbel (Ah _)) hb;have HG:=hJ2 H1.out.1.lt hb.lt;have c3:=H2.out.1.cell 3;simp only[tmC,Ab,Ac] at c3;clear hb hbel hsz)
  | ((with_reducible refine AK a2 rfl 9 (.tmp 15) (.tmp 14) rfl (w.heap.size) 3 29 _ H2.out.1 rfl (.string _) rfl HLT.out Tryz.sizeStr18 rfl rfl ?_);intro a3 hb hc hs;clear c3))
   try simp only[Al,Ad,Ae,Af]
   generalize hxs:(tmC k0 u0 n0 s0 (.slice ka kn kc):List Value).set 3 _=xs3 at hb
   obtain⟨s1,hx1⟩:∃ s1,xs3=tmC k0 u0 n0 s1 (.slice ka kn kc):=⟨_,by rw[←hxs];rfl⟩
   subst hx1
   have H3:=Ag (show Blk a3 (w.heap.size) 29 (tmC k0 u0 n0 s1 (.slice ka kn kc))∧Blk a3 (a1.heap.size) 29 (tmC 0 0 0 ⟨#[]⟩ (.slice none 0 0))∧Below w.heap.size w a3 from⟨hb,H2.out.2.2.keep hc (fun e=> absurd (show _=_ from e) (by have:=HG.out;omega)),Aw H2.out.2.1 hc (Ah _) (fun k hk=> by have e:=(show _=_ from hk);omega)⟩)
   have HG3:=Ag (show w.heap.size<a1.heap.size∧a1.heap.size<a3.heap.size from⟨HG.out.1,Ak HG.out.2 hc.size⟩)
   have c4:=hb.cell 4
   simp only[tmC,Ab,Ac] at c4
   clear hb hc hs hxs H1 H2 hz1 hz2 hz3 hz4 hsz65 HG
   have H0:=Ag (show Blk a3 (w.heap.size) 29 (tmC k0 u0 n0 s1 (.slice ka kn kc))∧Blk a3 (a1.heap.size) 29 (tmC 0 0 0 ⟨#[]⟩ (.slice none 0 0))∧OwR (TmC (FH a3.heap.size (.slice none 0 0) a3)) 5 29 a3.heap.size a3 (.slice none 0 0) ([])∧a3.heap.size≤a3.heap.size∧Below w.heap.size w a3 from⟨H3.out.1,H3.out.2.1,OwR.nil,Ah _,H3.out.2.2⟩)
   clear H3
   go_wp2_with fail
   clear c4
   go_loopw [5,19] (fun s5 s19 wr=> ∃ (j:Nat) (l:List Tm) (oz:Option Addr) (pz:Nat),s19=.int .i64 j∧j≤kn∧s5=.slice oz l.length pz∧Hid (l.length≤j∧l.length≤3)∧Hid (Blk wr (w.heap.size) 29 (tmC k0 u0 n0 s1 (.slice ka kn kc))∧Blk wr (a1.heap.size) 29 (tmC 0 0 0 ⟨#[]⟩ (.slice none 0 0))∧OwR (TmC (FH a3.heap.size (.slice oz l.length pz) wr)) 5 29 a3.heap.size wr (.slice oz l.length pz) (l)∧a3.heap.size≤wr.heap.size∧Below w.heap.size w wr)) (fun _ s19 _=> kn - (intOf s19).toNat)
   case atStart=> exact⟨0,[],none,0,rfl,Nat.zero_le _,rfl,Ag ⟨Ah _,by simp⟩,H0⟩
   case round=>
    clear H0
    obtain⟨j,l,oz,pz,rfl,hj,rfl,HT,HO⟩:=hrel
    by_cases hlt:j<kn
    ·skip
     have hjl:j<ks.length:=by rw[HN.out];exact hlt
     have hjz:(j:Int)<(kn:Int):=by omega
     have hj0:(0:Int)≤(j:Int):=by omega
     obtain⟨b,o,xcs,rfl,-,-,hlen,hra,hxc⟩:=HKS.out.get hjl
     generalize ks[j]=x at hxc
     have HXC:=Ag hxc
     have HXO:=Ag hxc.one
     have HZL:=Ag (show xcs.length=(tmC 0 0 0 ⟨#[]⟩ (.slice none 0 0)).length from hlen)
     have HRA:=Ag (Ai (show wr.rangeAt b (o+j* 5) xcs from fun i z hz=> (HO.out.2.2.2.2.cell (Am (hra i z hz))).trans (hra i z hz)) hlen)
     clear hra hlen hxc hjl
     go_upto_region 6 with(first
  | (with_reducible refine Ap rfl 29 (.tmp 22) rfl b (o+j* 5) rfl xcs _ HRA.out.1 Tryz.underlying29 rfl (At Tryz.infoTm HRA.out.2) ?_)
  | ((with_reducible refine Av wr rfl 29 rfl (tmC 0 0 0 ⟨#[]⟩ (.slice none 0 0)) Tryz.zeroTm ?_);intro x2 hb hbel hsz;have HX2:=hJ2 hbel hb;clear hb hbel hsz)
  | ((with_reducible refine Ao x2 rfl 29 (.tmp 7) (.tmp 23) rfl (wr.heap.size) 29 (tmC 0 0 0 ⟨#[]⟩ (.slice none 0 0)) (xcs) HX2.out.2 rfl rfl HZL.out (At Tryz.infoTm HRA.out.2) HXO.out ?_);intro x3 hb hc hs;have HX3:=hJ2 (Aw HX2.out.1 hc (Ah _) (fun k hk=> by have e:=(show _=_ from hk);omega)) hb;clear hb hc hs))
     try simp only[Al,Ad,Ae,Af]
     have hdec:(j<3∧0<n)∨¬ (j<3∧0<n):=Classical.em _
     rcases hdec with h3|h3
     ·skip
      have h31:(j:Int)<3:=by omega
      have h32:(0:Int)<(n:Int):=by omega
      have hdm:((n:Int) - 1)=((n - 1:Nat):Int):=by omega
      have HSM:=Ag (show Calls Tryz.prog 22 #[.agg xcs.toArray,.int .i64 (n - 1:Nat)] x3 (fun e w'=> ∃ cs' t',e=.returned (.agg cs'.toArray)∧TmC (x3.heap.size≤·) w' cs' t'∧Below x3.heap.size x3 w') from HIH.out (n - 1) (by omega) (by omega) x xcs F x3 (HXC.out.below (An HO.out.2.2.2.2 HX3.out.1 (Ah _))))
      go_wp2_with (first
  | (with_reducible refine Ap rfl 29 (.tmp 7) rfl (wr.heap.size) 0 rfl (xcs) _ (As HX3.out.2) Tryz.underlying29 rfl (At Tryz.infoTm HRA.out.2) ?_))
      try rw[hdm]
      refine HSM.out.mono ?_
      rintro e' x4 ⟨tcn,tn,rfl,ht,hb⟩
      have HX4:=hJ2 (An HX3.out.1 hb (Ah _)) ht
      have HN5:=Ag ht.len
      have HFT:=Ag (fun (W:World) (h:TmC (x3.heap.size≤·) W tcn tn)=> show TmC (FH a3.heap.size (.slice oz l.length pz) W) W tcn tn from(TmC.old' _ _ h).mono fun i hi=> ⟨fun e=> by
       have h1:=(HO.out.2.2.1.lt i e).2
       have h2:=HX3.out.1.size
       have h3:x3.heap.size≤i:=hi.1
       omega,by
       have h1:=HX3.out.1.size
       have h2:=HO.out.2.2.2.1
       have h3:x3.heap.size≤i:=hi.1
       omega,hi.2⟩)
      clear ht hb HX2
      go_wp2_with (first
  | ((with_reducible refine DM x4 rfl (.tmp 34) rfl (tcn) HN5.out rfl ?_);intro x6 hb hbel hsz;have HX6:=hJ3 (An HX4.out.1 hbel (Ah _)) (HX4.out.2.below hbel) hb;clear hb hbel hsz)
  | (at_builtin;refine B4 @D1 Tryz.underlying27 Tryz.infoRT rfl (by omega) (by omega) (fun h=> h.len) (fun h=> h.one) rfl (.tmp 30) (.tmp 35) rfl (HO.out.2.2.1.fhQ @D1 HX6.out.1) rfl rfl HX6.out.2.2 (HFT.out _ HX6.out.2.1) (by have:=HT.out;omega) (Aj HO.out.2.2.2.1 HX6.out.1.size) ?_))
      intro oy py x7 hrow hc
      have HB7:=Ag (show Below wr.heap.size wr x6 from HX6.out.1)
      have HX7:=hJ5 ((HO.out.1.below HB7.out HO.out.1.lt).keep hc (fun e=> by have h1:=(HO.out.2.2.1.lt _ e).1;have h2:=HG3.out;omega)) ((HO.out.2.1.below HB7.out HO.out.2.1.lt).keep hc (fun e=> by have h1:=(HO.out.2.2.1.lt _ e).1;have h2:=HG3.out;omega)) hrow (Aj HO.out.2.2.2.1 (Aj HB7.out.size hc.size)) (Aw (An HO.out.2.2.2.2 HB7.out (Ah _)) hc (Ah _) (fun i e=> by have h1:=(HO.out.2.2.1.lt _ e).1;have h2:=HG3.out;omega))
      clear hrow hc
      go_wp2_with fail
      go_roundw
      case measure=> simp[intOf];omega
      case rel=>
       have e:(l ++ [tn]).length=l.length+1:=by simp
       exact⟨j+1,l ++ [tn],oy,py,by go_num,by omega,by rw[e],Ag (by rw[e];have:=HT.out;omega),by rw[e];exact HX7⟩
     ·skip
      by_cases h33:(j:Int)<3
      ·skip
       have h34:¬ (0:Int)<(n:Int):=by omega
       go_wp2_with fail
       go_roundw
       case measure=> simp[intOf];omega
       case rel=> exact⟨j+1,l,oz,pz,by go_num,by omega,rfl,Ag (by have:=HT.out;omega),Ag ⟨HO.out.1.below HX3.out.1 HO.out.1.lt,HO.out.2.1.below HX3.out.1 HO.out.2.1.lt,HO.out.2.2.1.fhQ @D1 HX3.out.1,Aj HO.out.2.2.2.1 HX3.out.1.size,An HO.out.2.2.2.2 HX3.out.1 (Ah _)⟩⟩
      ·skip
       go_wp2_with fail
       go_roundw
       case measure=> simp[intOf];omega
       case rel=> exact⟨j+1,l,oz,pz,by go_num,by omega,rfl,Ag (by have:=HT.out;omega),Ag ⟨HO.out.1.below HX3.out.1 HO.out.1.lt,HO.out.2.1.below HX3.out.1 HO.out.2.1.lt,HO.out.2.2.1.fhQ @D1 HX3.out.1,Aj HO.out.2.2.2.1 HX3.out.1.size,An HO.out.2.2.2.2 HX3.out.1 (Ah _)⟩⟩
    ·have hge:¬ (j:Int)<(kn:Int):=by omega
     have HL4:=Ag (show 4<(tmC k0 u0 n0 s1 (.slice ka kn kc):List Value).length from by simp[tmC])
     go_wp2_with (first
  | ((with_reducible refine AK wr rfl 27 (.tmp 39) (.tmp 38) rfl (w.heap.size) 4 29 _ HO.out.1 rfl (.slice oz l.length pz) rfl HL4.out Tryz.sizeTs18 rfl rfl ?_);intro y2 hb hc hs;have HY2:=Ag (show Blk y2 (w.heap.size) 29 (tmC k0 u0 n0 s1 (.slice oz l.length pz))∧Blk y2 (a1.heap.size) 29 (tmC 0 0 0 ⟨#[]⟩ (.slice none 0 0))∧OwR (TmC (FH a3.heap.size (.slice oz l.length pz) y2)) 5 29 a3.heap.size y2 (.slice oz l.length pz) (l)∧Below w.heap.size w y2 from⟨hb,HO.out.2.1.keep hc (fun e=> absurd (show _=_ from e) (by have:=HG3.out;omega)),HO.out.2.2.1.fhS @D1 hc (by have:=HG3.out;omega) (by have:=HG3.out;omega),Aw HO.out.2.2.2.2 hc (Ah _) (fun k hk=> by have e:=(show _=_ from hk);have:=HG3.out;omega)⟩);clear hb hc hs)
  | (with_reducible refine Ap rfl 29 (.tmp 2) rfl (w.heap.size) 0 rfl (tmC k0 u0 n0 s1 (.slice oz l.length pz)) _ (As HY2.out.1) Tryz.underlying29 rfl (A9 _ _ _ _ _) ?_)
  | ((with_reducible refine Ao y2 rfl 29 (.tmp 4) (.tmp 40) rfl (a1.heap.size) 29 (tmC 0 0 0 ⟨#[]⟩ (.slice none 0 0)) (tmC k0 u0 n0 s1 (.slice oz l.length pz)) HY2.out.2.1 rfl rfl rfl (A9 _ _ _ _ _) (AS _ _ _ _ _ _ _) ?_);intro y3 hb hc hs;have HY3:=hJ3 hb (HY2.out.2.2.1.fhS @D1 hc (by have:=HG3.out;omega) (by have:=HG3.out;omega)) (Aw HY2.out.2.2.2 hc (Ah _) (fun k hk=> by have e:=(show _=_ from hk);have:=HG3.out;omega));clear hb hc hs))
     refine bodyPost_ret (AC Tryz.results22 _ _ (a1.heap.size) _ _ rfl HY3.out.1 _ Tryz.underlying29 rfl (A9 _ _ _ _ _)) rfl ?_
     exact⟨_,rfl,⟨.mk k0 u0 n0 s1 l,B6.2 ⟨_,rfl,(HY3.out.2.1.rwc.mono (fun i hi=> by have h1:=(HY3.out.2.1.lt i hi).1;have h2:=HG3.out;show w.heap.size≤i;omega) (fun cs a _ h=> h.mono fun i hi=> by have h1:=hi.2.1;have h2:=HG3.out;show w.heap.size≤i;omega)).slt⟩⟩,HY3.out.2.2⟩
end Go.Proofs.YtgdlfiphihaooaaGreat

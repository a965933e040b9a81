import Derived.Test.YtgdlfiphihaooaaGreatYs5
import Derived.Lib.Bytealg
set_option linter.unusedSimpArgs false
set_option linter.unusedVariables false
set_option maxRecDepth 100000
set_option maxHeartbeats 8000000
open _root_.List renaming getElem?_toArray→Aa,getElem?_cons_zero→Ab,getElem?_cons_succ→Ac,setIfInBounds_toArray→Ad,set_cons_zero→Ae,set_cons_succ→Af
open _root_.Go.Lib renaming hid→Ag
open _root_.Nat renaming le_refl→Ah,le_trans→Aj,lt_of_lt_of_le→Ak
open _root_.And renaming intro→Ai
open _root_.Go.Act renaming put→Al
namespace Go.Proofs.YtgdlfiphihaooaaGreat
open Go Go.RowKit
structure FileM where
 nm:ByteArray
 p:PmD
 v:Int
 e:Int
 u:Int
 b:Tm
structure CirM where
 n:Int
 o:Int
 us:List Int
structure WrM where
 nm:ByteArray
 v:Int
 e:Int
 u:Int
 b:Tm
structure IdM where
 fs:List FileM
 cs:List CirM
 ws:List WrM
def RwC {α:Type} (C:World→List Value→α→Prop) (sz:Nat) (F:Nat→Prop) (w:World) (v:Value) (l:List α):Prop:=
 ∃ ao c,v=.slice ao l.length c∧l.length≤c∧c≤maxLen∧(0<l.length→∃ b o,ao=some ⟨b,o,none⟩∧F b∧b<w.heap.size∧∀ j (hj:j<l.length),∃ cs,cs.length=sz∧w.rangeAt b (o+j* sz) cs∧C w cs l[j])
theorem RwC.shape {α:Type} {C:World→List Value→α→Prop} {sz:Nat} {F:Nat→Prop} {w:World} {v:Value} {l:List α} (h:RwC C sz F w v l):∃ ao c,v=.slice ao l.length c∧l.length≤c∧c≤maxLen:=by
 obtain⟨ao,c,h1,h2,h3,-⟩:=h;exact⟨ao,c,h1,h2,h3⟩
theorem RwC.get {α:Type} {C:World→List Value→α→Prop} {sz:Nat} {F:Nat→Prop} {w:World} {ao:Option Addr} {n c:Nat} {l:List α} (h:RwC C sz F w (.slice ao n c) l) {j:Nat} (hj:j<l.length):∃ b o cs,ao=some ⟨b,o,none⟩∧F b∧b<w.heap.size∧cs.length=sz∧w.rangeAt b (o+j* sz) cs∧C w cs l[j]:=by
 obtain⟨ao',c',h1,h2,h3,h4⟩:=h
 obtain⟨rfl,-,-⟩:ao=ao'∧n=l.length∧c=c':=by simpa using h1
 obtain⟨b,o,rfl,hF,hb,ha⟩:=h4 (by omega)
 obtain⟨cs,h5,h6,h7⟩:=ha j hj
 exact⟨b,o,cs,rfl,hF,hb,h5,h6,h7⟩
theorem RwC.keep' {α:Type} {C C':World→List Value→α→Prop} {sz:Nat} {F G S:Nat→Prop} {w w':World} {v:Value} {l:List α} (h:RwC C sz F w v l) (hc:Ch S w w') (hS:∀ k,F k→¬ S k) (hG:∀ k,F k→G k) (hC:∀ cs,∀ a∈l,C w cs a→C' w' cs a):RwC C' sz G w' v l:=by
 obtain⟨ao,c,h1,h2,h3,h4⟩:=h
 refine⟨ao,c,h1,h2,h3,fun h0=> ?_⟩
 obtain⟨b,o,e,hF,hb,ha⟩:=h4 h0
 refine⟨b,o,e,hG b hF,Ak hb hc.size,fun j hj=> ?_⟩
 obtain⟨cs,h5,h6,h7⟩:=ha j hj
 exact⟨cs,h5,BF h6 hc (hS b hF),hC cs _ (List.getElem_mem hj) h7⟩
theorem RwC.nil {α:Type} (C:World→List Value→α→Prop) (sz:Nat) (F:Nat→Prop) (w:World):RwC C sz F w (.slice none 0 0) ([]:List α):=⟨none,0,rfl,Ah _,by unfold maxLen;omega,fun h=> absurd h (by simp)⟩
def SlI (F:Nat→Prop) (w:World) (v:Value) (l:List Int):Prop:=Sl w v (ofK .i64 l)∧∀ k,0<l.length→v.ownBlock=some k→F k
theorem Sl.keep0 {S:Nat→Prop} {w w':World} {v:Value} {xs:List Value} (h:Sl w v xs) (hc:Ch S w w') (hv:0<xs.length→∀ k,v.ownBlock=some k→¬ S k):Sl w' v xs:=by
 rcases h with h|⟨ad,c,k1,k2,k3,k4⟩
 ·exact .inl h
 ·refine .inr ⟨ad,c,k1,k2,k3,fun i u hu=> ?_⟩
  have hcc:=k4 i u hu
  have hlt:=Am hcc
  rw[CV] at hlt
  have h0:0<xs.length:=by
   cases xs with
   | nil=> simp at hu
   | cons=> simp
  rw[hc.cell (by rw[CV];exact hlt) (by rw[CV];exact hv h0 _ (by rw[k1];rfl))];exact hcc
theorem SlI.keep' {F G S:Nat→Prop} {w w':World} {v:Value} {l:List Int} (h:SlI F w v l) (hc:Ch S w w') (hS:∀ k,F k→¬ S k) (hG:∀ k,F k→G k):SlI G w' v l:=
 ⟨h.1.keep0 hc (fun h0 k hk=> hS k (h.2 k (by rwa [AJ] at h0) hk)),fun k h0 hk=> hG k (h.2 k h0 hk)⟩
theorem SlI.nil (F:Nat→Prop) (w:World):SlI F w (.slice none 0 0) []:=⟨Sl.nil w,fun k h=> absurd h (by simp)⟩
def PmF (F:Nat→Prop) (w:World) (p:PmD) (vr vq vg:Value):Prop:=SlI F w vr p.r∧SlI F w vq p.q∧SlI F w vg p.g
theorem PmF.s {F:Nat→Prop} {w:World} {p:PmD} {vr vq vg:Value} (h:PmF F w p vr vq vg):PmS w p vr vq vg:=⟨h.1.1,h.2.1.1,h.2.2.1⟩
theorem PmF.keep' {F G S:Nat→Prop} {w w':World} {p:PmD} {vr vq vg:Value} (h:PmF F w p vr vq vg) (hc:Ch S w w') (hS:∀ k,F k→¬ S k) (hG:∀ k,F k→G k):PmF G w' p vr vq vg:=
 ⟨h.1.keep' hc hS hG,h.2.1.keep' hc hS hG,h.2.2.keep' hc hS hG⟩
def flC (nm:ByteArray) (o pe:Int) (vr vq vg:Value) (v e u:Int) (tc:List Value):List Value:=.string nm::.int .i64 o::.int .i64 pe::vr::vq::vg::.int .i64 v::.int .i64 e::.int .i64 u::tc
def wrC (nm:ByteArray) (v e u:Int) (tc:List Value):List Value:=.string nm::.int .i64 v::.int .i64 e::.int .i64 u::tc
def ciC (n o:Int) (vu:Value):List Value:=[.int .i64 n,.int .i64 o,vu]
def FlC (F:Nat→Prop) (w:World) (cs:List Value) (f:FileM):Prop:=∃ vr vq vg tc,cs=flC f.nm f.p.o f.p.e vr vq vg f.v f.e f.u tc∧PmF F w f.p vr vq vg∧TmC F w tc f.b
def CiC (F:Nat→Prop) (w:World) (cs:List Value) (c:CirM):Prop:=∃ vu,cs=ciC c.n c.o vu∧SlI F w vu c.us
def WrC (F:Nat→Prop) (w:World) (cs:List Value) (x:WrM):Prop:=∃ tc,cs=wrC x.nm x.v x.e x.u tc∧TmC F w tc x.b
theorem FlC.keep' {F G S:Nat→Prop} {w w':World} {cs:List Value} {f:FileM} (h:FlC F w cs f) (hc:Ch S w w') (hS:∀ k,F k→¬ S k) (hG:∀ k,F k→G k):FlC G w' cs f:=by
 obtain⟨vr,vq,vg,tc,h1,h2,h3⟩:=h
 exact⟨vr,vq,vg,tc,h1,h2.keep' hc hS hG,TmC.keep' hc hS hG _ _ h3⟩
theorem CiC.keep' {F G S:Nat→Prop} {w w':World} {cs:List Value} {f:CirM} (h:CiC F w cs f) (hc:Ch S w w') (hS:∀ k,F k→¬ S k) (hG:∀ k,F k→G k):CiC G w' cs f:=by
 obtain⟨vu,h1,h2⟩:=h
 exact⟨vu,h1,h2.keep' hc hS hG⟩
theorem WrC.keep' {F G S:Nat→Prop} {w w':World} {cs:List Value} {f:WrM} (h:WrC F w cs f) (hc:Ch S w w') (hS:∀ k,F k→¬ S k) (hG:∀ k,F k→G k):WrC G w' cs f:=by
 obtain⟨tc,h1,h2⟩:=h
 exact⟨tc,h1,TmC.keep' hc hS hG _ _ h2⟩
theorem FlC.len {F:Nat→Prop} {w:World} {cs:List Value} {f:FileM} (h:FlC F w cs f):cs.length=14:=by
 obtain⟨vr,vq,vg,tc,rfl,-,h3⟩:=h
 simp[flC,h3.len]
theorem CiC.len {F:Nat→Prop} {w:World} {cs:List Value} {f:CirM} (h:CiC F w cs f):cs.length=3:=by
 obtain⟨vu,rfl,-⟩:=h
 rfl
theorem WrC.len {F:Nat→Prop} {w:World} {cs:List Value} {f:WrM} (h:WrC F w cs f):cs.length=9:=by
 obtain⟨tc,rfl,h3⟩:=h
 simp[wrC,h3.len]
theorem TmC.one {F:Nat→Prop} {w:World} {cs:List Value} {t:Tm} (h:TmC F w cs t):∀ v∈cs,v.oneCell'=true:=by
 obtain⟨ao,c,rfl,-⟩:=h.shape
 exact AR _ _ _ _ _ _ _
theorem SlI.one {F:Nat→Prop} {w:World} {v:Value} {l:List Int} (h:SlI F w v l):v.oneCell'=true:=by
 obtain⟨ao,c,rfl,-⟩:=h.1.nums
 rfl
theorem FlC.one {F:Nat→Prop} {w:World} {cs:List Value} {f:FileM} (h:FlC F w cs f):∀ v∈cs,v.oneCell'=true:=by
 obtain⟨vr,vq,vg,tc,rfl,h2,h3⟩:=h
 intro v hv
 simp only[flC,List.mem_cons] at hv
 rcases hv with rfl|rfl|rfl|rfl|rfl|rfl|rfl|rfl|rfl|hv
 ·rfl
 ·rfl
 ·rfl
 ·exact h2.1.one
 ·exact h2.2.1.one
 ·exact h2.2.2.one
 ·rfl
 ·rfl
 ·rfl
 ·exact h3.one v hv
theorem CiC.one {F:Nat→Prop} {w:World} {cs:List Value} {f:CirM} (h:CiC F w cs f):∀ v∈cs,v.oneCell'=true:=by
 obtain⟨vu,rfl,h2⟩:=h
 intro v hv
 simp only[ciC,List.mem_cons,List.not_mem_nil,or_false] at hv
 rcases hv with rfl|rfl|rfl
 ·rfl
 ·rfl
 ·exact h2.one
theorem WrC.one {F:Nat→Prop} {w:World} {cs:List Value} {f:WrM} (h:WrC F w cs f):∀ v∈cs,v.oneCell'=true:=by
 obtain⟨tc,rfl,h3⟩:=h
 intro v hv
 simp only[wrC,List.mem_cons] at hv
 rcases hv with rfl|rfl|rfl|rfl|hv
 ·rfl
 ·rfl
 ·rfl
 ·rfl
 ·exact h3.one v hv
def IdC (F:Nat→Prop) (w:World) (cs:List Value) (s:IdM):Prop:=∃ vf vc vw,cs=[vf,vc,vw]∧RwC (FlC F) 14 F w vf s.fs∧RwC (CiC F) 3 F w vc s.cs∧RwC (WrC F) 9 F w vw s.ws
def RwF (F:Nat→Prop):=RwC (FlC F) 14 F
def RwI (F:Nat→Prop):=RwC (CiC F) 3 F
def RwW (F:Nat→Prop):=RwC (WrC F) 9 F
theorem RwF.keep' {F G S:Nat→Prop} {w w':World} {v:Value} {l:List FileM} (h:RwF F w v l) (hc:Ch S w w') (hS:∀ k,F k→¬ S k) (hG:∀ k,F k→G k):RwF G w' v l:=RwC.keep' (C:=FlC F) (C':=FlC G) h hc hS hG fun cs a _ h=> h.keep' hc hS hG
theorem RwI.keep' {F G S:Nat→Prop} {w w':World} {v:Value} {l:List CirM} (h:RwI F w v l) (hc:Ch S w w') (hS:∀ k,F k→¬ S k) (hG:∀ k,F k→G k):RwI G w' v l:=RwC.keep' (C:=CiC F) (C':=CiC G) h hc hS hG fun cs a _ h=> h.keep' hc hS hG
theorem RwW.keep' {F G S:Nat→Prop} {w w':World} {v:Value} {l:List WrM} (h:RwW F w v l) (hc:Ch S w w') (hS:∀ k,F k→¬ S k) (hG:∀ k,F k→G k):RwW G w' v l:=RwC.keep' (C:=WrC F) (C':=WrC G) h hc hS hG fun cs a _ h=> h.keep' hc hS hG
theorem IdC.keep' {F G S:Nat→Prop} {w w':World} {cs:List Value} {s:IdM} (h:IdC F w cs s) (hc:Ch S w w') (hS:∀ k,F k→¬ S k) (hG:∀ k,F k→G k):IdC G w' cs s:=by
 obtain⟨vf,vc,vw,h1,h2,h3,h4⟩:=h
 exact⟨vf,vc,vw,h1,RwF.keep' h2 hc hS hG,RwI.keep' h3 hc hS hG,RwW.keep' h4 hc hS hG⟩
theorem Hk (F:Nat→Prop):∀ k,F k→¬ (fun _:Nat=> False) k:=fun _ _ h=> h
theorem idf (F:Nat→Prop):∀ k,F k→F k:=fun _ h=> h
theorem FlC.below {F:Nat→Prop} {w w':World} {cs:List Value} {f:FileM} (h:FlC F w cs f) (hb:Below w.heap.size w w'):FlC F w' cs f:=h.keep' (Ch.of_below (S:=fun _=> False) hb (Ah _)) (Hk F) (idf F)
theorem CiC.below {F:Nat→Prop} {w w':World} {cs:List Value} {f:CirM} (h:CiC F w cs f) (hb:Below w.heap.size w w'):CiC F w' cs f:=h.keep' (Ch.of_below (S:=fun _=> False) hb (Ah _)) (Hk F) (idf F)
theorem WrC.below {F:Nat→Prop} {w w':World} {cs:List Value} {f:WrM} (h:WrC F w cs f) (hb:Below w.heap.size w w'):WrC F w' cs f:=h.keep' (Ch.of_below (S:=fun _=> False) hb (Ah _)) (Hk F) (idf F)
theorem RwF.below {F:Nat→Prop} {w w':World} {v:Value} {l:List FileM} (h:RwF F w v l) (hb:Below w.heap.size w w'):RwF F w' v l:=h.keep' (Ch.of_below (S:=fun _=> False) hb (Ah _)) (Hk F) (idf F)
theorem RwI.below {F:Nat→Prop} {w w':World} {v:Value} {l:List CirM} (h:RwI F w v l) (hb:Below w.heap.size w w'):RwI F w' v l:=h.keep' (Ch.of_below (S:=fun _=> False) hb (Ah _)) (Hk F) (idf F)
theorem IdC.below {F:Nat→Prop} {w w':World} {cs:List Value} {s:IdM} (h:IdC F w cs s) (hb:Below w.heap.size w w'):IdC F w' cs s:=h.keep' (Ch.of_below (S:=fun _=> False) hb (Ah _)) (Hk F) (idf F)
theorem SlI.below {F:Nat→Prop} {w w':World} {v:Value} {l:List Int} (h:SlI F w v l) (hb:Below w.heap.size w w'):SlI F w' v l:=h.keep' (Ch.of_below (S:=fun _=> False) hb (Ah _)) (Hk F) (idf F)
theorem PmF.below {F:Nat→Prop} {w w':World} {p:PmD} {vr vq vg:Value} (h:PmF F w p vr vq vg) (hb:Below w.heap.size w w'):PmF F w' p vr vq vg:=h.keep' (Ch.of_below (S:=fun _=> False) hb (Ah _)) (Hk F) (idf F)
theorem IdC.one {F:Nat→Prop} {w:World} {cs:List Value} {s:IdM} (h:IdC F w cs s):∀ v∈cs,v.oneCell'=true:=by
 obtain⟨vf,vc,vw,rfl,h2,h3,h4⟩:=h
 obtain⟨_,_,rfl,-⟩:=h2.shape
 obtain⟨_,_,rfl,-⟩:=h3.shape
 obtain⟨_,_,rfl,-⟩:=h4.shape
 intro v hv
 simp only[List.mem_cons,List.not_mem_nil,or_false] at hv
 rcases hv with rfl|rfl|rfl <;> rfl
theorem Tryz.infoFl:(Tryz.prog.info? 45).map (·.size)=some 14:=by kernel_rfl
theorem Tryz.infoCi:(Tryz.prog.info? 49).map (·.size)=some 3:=by kernel_rfl
theorem Tryz.infoWr:(Tryz.prog.info? 56).map (·.size)=some 9:=by kernel_rfl
theorem Tryz.infoId:(Tryz.prog.info? 26).map (·.size)=some 3:=by kernel_rfl
theorem At {P:Program} {t:TypeId} {n:Nat} {cs:List Value} (h:(P.info? t).map (·.size)=some n) (hl:cs.length=n):(P.info? t).map (·.size)=some cs.length:=by rw[hl];exact h
def GQ {α:Type} (P:α→Bool):List α→Nat→Int
 | [],_=> -1
 | x::t,i=> if P x=true then (i:Int) else GQ P t (i+1)
theorem If {α:Type} (P:α→Bool):∀ (l:List α) (i:Nat),decide (0≤GQ P l i)=l.any P
 | [],i=> rfl
 | x::t,i=> by
  unfold GQ
  rw[List.any_cons]
  by_cases h:P x=true
  ·rw[if_pos h,h,decide_eq_true (by omega)];rfl
  ·rw[if_neg h,If P t,Bool.eq_false_iff.2 h];rfl
theorem J5 {α:Type} (P:α→Bool) (l:List α) (k:Nat) (h:k<l.length):GQ P (l.drop k) k=if P l[k]=true then (k:Int) else GQ P (l.drop (k+1)) (k+1):=by
 rw[List.drop_eq_getElem_cons h];rfl
theorem I9 (P:Tm→Bool) (gf:Nat) (v:Value) (l:List Tm) (F:Nat→Prop) (w:World) (hv:SlT F w v l)
  (hcf:∀ args w1,Sem.run Tryz.prog (callFunc gf args) w1=.ok (.enter gf args) w1) (hst:∀ t∈l,∀ cs w',TmC F w' cs t→Calls Tryz.prog gf #[.agg cs.toArray] w' (fun e w''=> e=.returned (.bool (P t))∧Below w'.heap.size w' w'')):
  Calls Tryz.prog 123 #[v,.func (.func gf) #[] #[]] w (fun e w'=> e=.returned (.int .i64 (GQ P l 0))∧Below w.heap.size w w'):=by
 obtain⟨ao,c,rfl,a2,a3,-⟩:=id hv
 have H:=Ag (Ai hv hst)
 have HD:=Ag (J5 P l)
 obtain⟨L,hL⟩:∃ L,l.length=L:=⟨_,rfl⟩
 obtain⟨R,hR⟩:∃ R,GQ P l 0=R:=⟨_,rfl⟩
 have HL:=Ag (Ai hL hR)
 have hl63:L≤9223372036854775807:=by unfold maxLen at a3;omega
 rw[hL] at H a2 ⊢
 rw[hR]
 have hcf':=hcf
 clear hv hL hR hst a2 a3
 go_enter Tryz.func123,Tryz.ntmps123
 go_wp2_with fail
 go_loopw [5,8] (fun u5 i wr=> ∃ k:Nat,k≤L∧i=.int .i64 k∧Hid (GQ P (l.drop k) k=R)∧Hid (Below w.heap.size w wr)) (fun _ i _=> L - (intOf i).toNat)
 case atStart=> exact⟨0,Nat.zero_le _,rfl,Ag HL.out.2,Ag (Below.refl _ _)⟩
 case round=>
  obtain⟨k,hk,rfl,HT,HW⟩:=hrel
  by_cases hlt:k<L
  ·have hkl:k<l.length:=by rw[HL.out.1];exact hlt
   have hklz:(k:Int)<(L:Int):=by omega
   have hk0:(0:Int)≤(k:Int):=by omega
   obtain⟨b,o,cs,rfl,-,-,hra,hta⟩:=H.out.1.get hkl
   have hlen:=hta.len
   have hd:=HD.out k hkl
   rw[HT.out] at hd
   have HMEM:=Ag (List.getElem_mem hkl)
   generalize l[k]=y at hta hd HMEM
   obtain⟨py,hpy⟩:∃ b,P y=b:=⟨_,rfl⟩
   rw[hpy] at hd
   have HC:=Ag (H.out.2 y HMEM.out cs wr (hta.below HW.out))
   rw[hpy] at HC
   have HRA:=Ag (Ai (AD hra HW.out) hlen)
   clear hpy hra hta hlen
   have HDD:=Ag hd
   clear hd hkl
   go_wp2_with (first
  | (with_reducible refine Ap rfl 29 (.tmp 14) rfl b (o+k* 5) rfl cs _ (HRA.out.1) Tryz.underlying29 rfl (At Tryz.infoTm HRA.out.2) ?_))
   refine HC.out.mono ?_
   rintro e w' ⟨rfl,hb⟩
   have HW2:=Ag (An HW.out hb (Ah _))
   clear hb
   cases py
   ·have HA:=Ag (show GQ P (l.drop (k+1)) (k+1)=R by rw[HDD.out,if_neg (by simp)])
    go_wp2_with fail
    go_roundw
    case rel=> exact⟨k+1,by omega,by go_num,HA,HW2⟩
    case measure=> simp[intOf];omega
   ·have HA:=Ag (show R=(k:Int) by rw[HDD.out,if_pos rfl])
    go_wp2_with fail
    go_ret
    exact⟨by rw[HA.out];rfl,HW2.out⟩
  ·have hge:¬ (k:Int)<(L:Int):=by omega
   have HRR:=Ag (show R= -1 from by rw[←HT.out,List.drop_of_length_le (by rw[HL.out.1];omega)];rfl)
   go_wp2_with fail
   go_ret
   exact⟨by rw[HRR.out];rfl,HW.out⟩
theorem Cc (P:Tm→Bool) (gf:Nat) (v:Value) (l:List Tm) (F:Nat→Prop) (w:World) (hv:SlT F w v l)
  (hcf:∀ args w1,Sem.run Tryz.prog (callFunc gf args) w1=.ok (.enter gf args) w1) (hst:∀ t∈l,∀ cs w',TmC F w' cs t→Calls Tryz.prog gf #[.agg cs.toArray] w' (fun e w''=> e=.returned (.bool (P t))∧Below w'.heap.size w' w'')):
  Calls Tryz.prog 103 #[v,.func (.func gf) #[] #[]] w (fun e w'=> e=.returned (.bool (l.any P))∧Below w.heap.size w w'):=by
 have H:=Ag (I9 P gf v l F w hv hcf hst)
 have hA:=If P l 0
 generalize l.any P=b at hA ⊢
 generalize GQ P l 0=r at hA H
 clear hv hst hcf
 cases b
 ·have hr:decide (0≤r)=false:=hA
  have hr2:¬ 0≤r:=by simpa using hr
  clear hA
  go_enter Tryz.func103,Tryz.ntmps103
  go_wp2_with fail
  refine H.out.mono ?_
  rintro e w' ⟨rfl,hb⟩
  have HB:=Ag hb
  clear hb
  go_wp2_with fail
  go_ret
  exact⟨rfl,HB.out⟩
 ·have hr:decide (0≤r)=true:=hA
  have hr2:0≤r:=by simpa using hr
  clear hA
  go_enter Tryz.func103,Tryz.ntmps103
  go_wp2_with fail
  refine H.out.mono ?_
  rintro e w' ⟨rfl,hb⟩
  have HB:=Ag hb
  clear hb
  go_wp2_with fail
  go_ret
  exact⟨rfl,HB.out⟩
def okK (k n:Int):Bool:=(k==1 ||(k==4 ||(k==5 ||k==6))) ||(k==2 && decide (40000≤n))
mutual
def DU:Tm→Bool
 | .mk k u n s ks=> okK k n && J6 ks
def J6:List Tm→Bool
 | []=> true
 | x::xs=> DU x && J6 xs
end
theorem Lx (k u n:Int) (s:ByteArray) (ks:List Tm):DU (.mk k u n s ks)=(okK k n && J6 ks):=by rw[DU]
theorem Ig:∀ l:List Tm,J6 l=!(l.any fun t=> !DU t)
 | []=> by rw[J6];rfl
 | x::xs=> by rw[J6,Ig xs,List.any_cons];cases DU x <;> simp
theorem BV (args:Array Value) (w:World):Sem.run Tryz.prog (callFunc 104 args) w=.ok (.enter 104 args) w:=
 AP Tryz.func104 (by kernel_rfl) (by kernel_rfl) args w
theorem Ly (t:Tm) (cs:List Value) (F:Nat→Prop) (w:World) (ht:TmC F w cs t)
  (ih:∀ w',TmC F w' cs t→Calls Tryz.prog 85 #[.agg cs.toArray] w' (fun e w''=> e=.returned (.bool (DU t))∧Below w'.heap.size w' w'')):
  Calls Tryz.prog 104 #[.agg cs.toArray] w (fun e w'=> e=.returned (.bool (!DU t))∧Below w.heap.size w w'):=by
 have hlen:=ht.len
 have HT:=Ag (Ai ht hlen)
 have IH:=Ag ih
 clear ht hlen ih
 generalize DU t=r at IH ⊢
 have H0:=Ag (Below.refl w.heap.size w)
 go_enter Tryz.func104,Tryz.ntmps104
 go_wp2_with (first
  | ((with_reducible refine Au w rfl 29 (.tmp 0) rfl (cs) rfl ?_);intro a1 hb hbel hsz;have H1:=hJ2 (An H0.out hbel (Ah _)) hb;clear hb hbel hsz)
  | (with_reducible refine Ap rfl 29 (.tmp 1) rfl w.heap.size 0 rfl cs _ (As H1.out.2) Tryz.underlying29 rfl (At Tryz.infoTm HT.out.2) ?_))
 refine(IH.out a1 (HT.out.1.below H1.out.1)).mono ?_
 rintro e w' ⟨rfl,hb⟩
 have HB:=Ag (An H1.out.1 hb (Ah _))
 clear hb
 go_wp2_with fail
 go_ret
 exact⟨rfl,HB.out⟩
theorem Lz:∀ (t:Tm) (cs:List Value) (F:Nat→Prop) (w:World),TmC F w cs t→Calls Tryz.prog 85 #[.agg cs.toArray] w (fun e w'=> e=.returned (.bool (DU t))∧Below w.heap.size w w'):=by
 refine Tm.ind fun k u n s ks ih cs F w ht=> ?_
 obtain⟨ao,c,rfl,-,-,hsl⟩:=ht.shape
 have HSL:=Ag (show SlT F w (.slice ao ks.length c) ks from hsl)
 show Calls Tryz.prog 85 #[.agg (tmC k u n s (.slice ao ks.length c)).toArray] w _
 rw[Lx,Ig]
 have HIH:=Ag (show ∀ t∈ks,∀ cs w',TmC F w' cs t→Calls Tryz.prog 104 #[.agg cs.toArray] w' (fun e w''=> e=.returned (.bool (!DU t))∧Below w'.heap.size w' w'') from fun t ht cs w' h=> Ly t cs F w' h (fun w'' h2=> ih t ht cs F w'' h2))
 obtain⟨nk,hnk⟩:∃ b,(ks.any fun t=> !DU t)=b:=⟨_,rfl⟩
 have HNK:=Ag hnk
 rw[hnk]
 clear ht hsl ih hnk
 generalize hl:ks.length=l at HSL ⊢
 clear hl
 have H0:=Ag (Below.refl w.heap.size w)
 have fin:∀ b,okK k n=b→Calls Tryz.prog 85 #[.agg (tmC k u n s (.slice ao l c)).toArray] w (fun e w'=> e=.returned (.bool (b && !nk))∧Below w.heap.size w w'):=by
  intro b hb
  have HOK:=Ag hb
  clear hb
  rcases (show k=1∨k=4∨k=5∨k=6∨k=2∨(k≠1∧k≠4∧k≠5∧k≠6∧k≠2) by omega) with hk|hk|hk|hk|hk|⟨h1,h4,h5,h6,h2⟩
  ·have hbt:b=true:=by rw[←HOK.out,hk];rfl
   subst hbt
   have e1:(k==1)=true:=by rw[hk];rfl
   have e4:(k==4)=false:=by rw[hk];rfl
   have e5:(k==5)=false:=by rw[hk];rfl
   have e6:(k==6)=false:=by rw[hk];rfl
   have e2:(k==2)=false:=by rw[hk];rfl
   clear hk
   go_enter Tryz.func85,Tryz.ntmps85
   go_wp2_with ((with_reducible refine Au w rfl 29 (.tmp 0) rfl (tmC k u n s (.slice ao l c)) rfl ?_);intro a1 hb hbel hsz;have H1:=hJ2 (An H0.out hbel (Ah _)) hb;have c0:=hb.cell 0;have c2:=hb.cell 2;have c4:=hb.cell 4;simp only[tmC,Ab,Ac] at c0 c2 c4;clear hb hbel hsz)
   have hx:=Cc (fun t=> !DU t) 104 _ ks F a1 (HSL.out.below H1.out.1) BV HIH.out
   rw[HNK.out] at hx
   refine Calls.mono hx ?_
   clear hx
   rintro e' a2 ⟨rfl,hb⟩
   have HB:=Ag (An H1.out.1 hb (Ah _))
   clear hb
   go_wp2_with fail
   go_ret
   exact⟨by cases nk <;> rfl,HB.out⟩
  ·have hbt:b=true:=by rw[←HOK.out,hk];rfl
   subst hbt
   have e1:(k==1)=false:=by rw[hk];rfl
   have e4:(k==4)=true:=by rw[hk];rfl
   have e5:(k==5)=false:=by rw[hk];rfl
   have e6:(k==6)=false:=by rw[hk];rfl
   have e2:(k==2)=false:=by rw[hk];rfl
   clear hk
   go_enter Tryz.func85,Tryz.ntmps85
   go_wp2_with ((with_reducible refine Au w rfl 29 (.tmp 0) rfl (tmC k u n s (.slice ao l c)) rfl ?_);intro a1 hb hbel hsz;have H1:=hJ2 (An H0.out hbel (Ah _)) hb;have c0:=hb.cell 0;have c2:=hb.cell 2;have c4:=hb.cell 4;simp only[tmC,Ab,Ac] at c0 c2 c4;clear hb hbel hsz)
   have hx:=Cc (fun t=> !DU t) 104 _ ks F a1 (HSL.out.below H1.out.1) BV HIH.out
   rw[HNK.out] at hx
   refine Calls.mono hx ?_
   clear hx
   rintro e' a2 ⟨rfl,hb⟩
   have HB:=Ag (An H1.out.1 hb (Ah _))
   clear hb
   go_wp2_with fail
   go_ret
   exact⟨by cases nk <;> rfl,HB.out⟩
  ·have hbt:b=true:=by rw[←HOK.out,hk];rfl
   subst hbt
   have e1:(k==1)=false:=by rw[hk];rfl
   have e4:(k==4)=false:=by rw[hk];rfl
   have e5:(k==5)=true:=by rw[hk];rfl
   have e6:(k==6)=false:=by rw[hk];rfl
   have e2:(k==2)=false:=by rw[hk];rfl
   clear hk
   go_enter Tryz.func85,Tryz.ntmps85
   go_wp2_with ((with_reducible refine Au w rfl 29 (.tmp 0) rfl (tmC k u n s (.slice ao l c)) rfl ?_);intro a1 hb hbel hsz;have H1:=hJ2 (An H0.out hbel (Ah _)) hb;have c0:=hb.cell 0;have c2:=hb.cell 2;have c4:=hb.cell 4;simp only[tmC,Ab,Ac] at c0 c2 c4;clear hb hbel hsz)
   have hx:=Cc (fun t=> !DU t) 104 _ ks F a1 (HSL.out.below H1.out.1) BV HIH.out
   rw[HNK.out] at hx
   refine Calls.mono hx ?_
   clear hx
   rintro e' a2 ⟨rfl,hb⟩
   have HB:=Ag (An H1.out.1 hb (Ah _))
   clear hb
   go_wp2_with fail
   go_ret
   exact⟨by cases nk <;> rfl,HB.out⟩
  ·have hbt:b=true:=by rw[←HOK.out,hk];rfl
   subst hbt
   have e1:(k==1)=false:=by rw[hk];rfl
   have e4:(k==4)=false:=by rw[hk];rfl
   have e5:(k==5)=false:=by rw[hk];rfl
   have e6:(k==6)=true:=by rw[hk];rfl
   have e2:(k==2)=false:=by rw[hk];rfl
   clear hk
   go_enter Tryz.func85,Tryz.ntmps85
   go_wp2_with ((with_reducible refine Au w rfl 29 (.tmp 0) rfl (tmC k u n s (.slice ao l c)) rfl ?_);intro a1 hb hbel hsz;have H1:=hJ2 (An H0.out hbel (Ah _)) hb;have c0:=hb.cell 0;have c2:=hb.cell 2;have c4:=hb.cell 4;simp only[tmC,Ab,Ac] at c0 c2 c4;clear hb hbel hsz)
   have hx:=Cc (fun t=> !DU t) 104 _ ks F a1 (HSL.out.below H1.out.1) BV HIH.out
   rw[HNK.out] at hx
   refine Calls.mono hx ?_
   clear hx
   rintro e' a2 ⟨rfl,hb⟩
   have HB:=Ag (An H1.out.1 hb (Ah _))
   clear hb
   go_wp2_with fail
   go_ret
   exact⟨by cases nk <;> rfl,HB.out⟩
  ·by_cases h4:40000≤n
   ·have hbt:b=true:=by rw[←HOK.out,hk];unfold okK;simp[h4]
    subst hbt
    have e1:(k==1)=false:=by rw[hk];rfl
    have e4:(k==4)=false:=by rw[hk];rfl
    have e5:(k==5)=false:=by rw[hk];rfl
    have e6:(k==6)=false:=by rw[hk];rfl
    have e2:(k==2)=true:=by rw[hk];rfl
    clear hk
    go_enter Tryz.func85,Tryz.ntmps85
    go_wp2_with ((with_reducible refine Au w rfl 29 (.tmp 0) rfl (tmC k u n s (.slice ao l c)) rfl ?_);intro a1 hb hbel hsz;have H1:=hJ2 (An H0.out hbel (Ah _)) hb;have c0:=hb.cell 0;have c2:=hb.cell 2;have c4:=hb.cell 4;simp only[tmC,Ab,Ac] at c0 c2 c4;clear hb hbel hsz)
    have hx:=Cc (fun t=> !DU t) 104 _ ks F a1 (HSL.out.below H1.out.1) BV HIH.out
    rw[HNK.out] at hx
    refine Calls.mono hx ?_
    clear hx
    rintro e' a2 ⟨rfl,hb⟩
    have HB:=Ag (An H1.out.1 hb (Ah _))
    clear hb
    go_wp2_with fail
    go_ret
    exact⟨by cases nk <;> rfl,HB.out⟩
   ·have hbt:b=false:=by rw[←HOK.out,hk];unfold okK;simp[h4]
    subst hbt
    have e1:(k==1)=false:=by rw[hk];rfl
    have e4:(k==4)=false:=by rw[hk];rfl
    have e5:(k==5)=false:=by rw[hk];rfl
    have e6:(k==6)=false:=by rw[hk];rfl
    have e2:(k==2)=true:=by rw[hk];rfl
    clear hk
    go_enter Tryz.func85,Tryz.ntmps85
    go_wp2_with ((with_reducible refine Au w rfl 29 (.tmp 0) rfl (tmC k u n s (.slice ao l c)) rfl ?_);intro a1 hb hbel hsz;have H1:=hJ2 (An H0.out hbel (Ah _)) hb;have c0:=hb.cell 0;have c2:=hb.cell 2;have c4:=hb.cell 4;simp only[tmC,Ab,Ac] at c0 c2 c4;clear hb hbel hsz)
    go_ret
    exact⟨rfl,H1.out.1⟩
  ·have e1:(k==1)=false:=by simpa using h1
   have e4:(k==4)=false:=by simpa using h4
   have e5:(k==5)=false:=by simpa using h5
   have e6:(k==6)=false:=by simpa using h6
   have e2:(k==2)=false:=by simpa using h2
   have hbt:b=false:=by rw[←HOK.out];unfold okK;simp[e1,e2,e4,e5,e6]
   subst hbt
   clear h1 h2 h4 h5 h6
   go_enter Tryz.func85,Tryz.ntmps85
   go_wp2_with ((with_reducible refine Au w rfl 29 (.tmp 0) rfl (tmC k u n s (.slice ao l c)) rfl ?_);intro a1 hb hbel hsz;have H1:=hJ2 (An H0.out hbel (Ah _)) hb;have c0:=hb.cell 0;have c2:=hb.cell 2;have c4:=hb.cell 4;simp only[tmC,Ab,Ac] at c0 c2 c4;clear hb hbel hsz)
   go_ret
   exact⟨rfl,H1.out.1⟩
 exact fin _ rfl
def C5 (t:Tm):Bool:=decide (DV t=0) && (decide (DN t≤40) && DU t)
theorem Ih (t:Tm) (cs:List Value) (F:Nat→Prop) (w:World) (ht:TmC F w cs t):
  Calls Tryz.prog 68 #[.agg cs.toArray] w (fun e w'=> e=.returned (.bool (C5 t))∧Below w.heap.size w w'):=by
 have hlen:=ht.len
 have HT:=Ag (Ai ht hlen)
 obtain⟨R,hR⟩:∃ R,C5 t=R:=⟨_,rfl⟩
 rw[hR]
 obtain⟨x,hx⟩:∃ x,DV t=x:=⟨_,rfl⟩
 obtain⟨y,hy⟩:∃ y,DN t=y:=⟨_,rfl⟩
 obtain⟨z,hz⟩:∃ z,DU t=z:=⟨_,rfl⟩
 have HXYZ:=Ag (Ai hx (Ai hy hz))
 have HR:=Ag (show R=(decide (x=0) && (decide (y≤40) && z)) from by rw[←hR,←hx,←hy,←hz];rfl)
 clear ht hlen hR hx hy hz
 have H0:=Ag (Below.refl w.heap.size w)
 go_enter Tryz.func68,Tryz.ntmps68
 go_wp2_with (first
  | ((with_reducible refine Au w rfl 29 (.tmp 0) rfl (cs) rfl ?_);intro a1 hb hbel hsz;have H1:=hJ2 (An H0.out hbel (Ah _)) hb;clear hb hbel hsz)
  | (with_reducible refine Ap rfl 29 (.tmp 1) rfl w.heap.size 0 rfl cs _ (As H1.out.2) Tryz.underlying29 rfl (At Tryz.infoTm HT.out.2) ?_))
 refine Calls.mono (IR t _ F a1 (HT.out.1.below H1.out.1)) ?_
 rintro e' a2 ⟨rfl,hb⟩
 have H2:=hJ2 (An H1.out.1 hb (Ah _)) (H1.out.2.below hb H1.out.2.lt)
 clear hb
 rw[HXYZ.out.1]
 by_cases h0:x=0
 ·have HE:=Ag (show R=(decide (y≤40) && z) from by rw[HR.out,decide_eq_true h0,Bool.true_and])
  subst h0
  go_wp2_with (first
  | (with_reducible refine Ap rfl 29 (.tmp 1) rfl w.heap.size 0 rfl cs _ (As H2.out.2) Tryz.underlying29 rfl (At Tryz.infoTm HT.out.2) ?_))
  refine Calls.mono (Kx t _ F a2 (HT.out.1.below H2.out.1)) ?_
  rintro e' a3 ⟨rfl,hb⟩
  have H3:=hJ2 (An H2.out.1 hb (Ah _)) (H2.out.2.below hb H2.out.2.lt)
  clear hb
  rw[HXYZ.out.2.1]
  by_cases h1:y≤40
  ·have HF:=Ag (show R=z from by rw[HE.out,decide_eq_true h1,Bool.true_and])
   go_wp2_with (first
  | (with_reducible refine Ap rfl 29 (.tmp 1) rfl w.heap.size 0 rfl cs _ (As H3.out.2) Tryz.underlying29 rfl (At Tryz.infoTm HT.out.2) ?_))
   refine Calls.mono (Lz t _ F a3 (HT.out.1.below H3.out.1)) ?_
   rintro e' a4 ⟨rfl,hb⟩
   have H4:=hJ2 (An H3.out.1 hb (Ah _)) (H3.out.2.below hb H3.out.2.lt)
   clear hb
   rw[HXYZ.out.2.2]
   go_wp2_with fail
   go_ret
   exact⟨by rw[HF.out];rfl,H4.out.1⟩
  ·have HF:=Ag (show R=false from by rw[HE.out,decide_eq_false h1,Bool.false_and])
   go_wp2_with fail
   go_ret
   exact⟨by rw[HF.out];rfl,H3.out.1⟩
 ·have HE:=Ag (show R=false from by rw[HR.out,decide_eq_false h0,Bool.false_and])
  have h0e:(x==0)=false:=by simpa using h0
  go_wp2_with fail
  go_ret
  exact⟨by rw[HE.out];rfl,H2.out.1⟩
def wrB (x:WrM):Bool:=decide (0<BE x.nm) && (decide (1≤x.v) && (decide (x.v≤9999) && (decide (1≤x.e) && (decide (x.e≤8) && (AX x.u && C5 x.b)))))
theorem wrC_at (nm:ByteArray) (v e u:Int) (tc:List Value) (w:World) (g:Nat) (h:Blk w g 56 (wrC nm v e u tc)):w.rangeAt g 4 tc:=fun j x hx=> by
 rw[h.cell]
 show(wrC nm v e u tc)[4+j]?=some x
 rw[show 4+j=j+1+1+1+1 by omega]
 simpa [wrC] using hx
theorem Fx (x:WrM) (cs:List Value) (F:Nat→Prop) (w:World) (hx:WrC F w cs x):
  Calls Tryz.prog 37 #[.agg cs.toArray] w (fun e w'=> e=.returned (.bool (wrB x))∧Below w.heap.size w w'):=by
 obtain⟨R,hR⟩:∃ R,wrB x=R:=⟨_,rfl⟩
 rw[hR]
 obtain⟨nm,v,ep,u,bd⟩:=x
 have hlen:=hx.len
 obtain⟨tc,rfl,ht⟩:=hx
 have HS:=Ag (show(Tryz.prog.info? 56).map (·.size)=some (wrC nm v ep u tc).length from At Tryz.infoWr hlen)
 have HT:=Ag (Ai ht ht.len)
 obtain⟨nu,hnu⟩:∃ n,BE nm=n:=⟨_,rfl⟩
 obtain⟨ub,hub⟩:∃ b,AX u=b:=⟨_,rfl⟩
 obtain⟨bb,hbb⟩:∃ b,C5 bd=b:=⟨_,rfl⟩
 have HN:=Ag (Ai hnu (Ai hub hbb))
 have HR:=Ag (show R=(decide (0<nu) && (decide (1≤v) && (decide (v≤9999) && (decide (1≤ep) && (decide (ep≤8) && (ub && bb)))))) from by rw[←hR,←hnu,←hub,←hbb];rfl)
 clear hR hnu hub hbb ht hlen
 have H0:=Ag (Below.refl w.heap.size w)
 show Calls Tryz.prog 37 #[.agg (wrC nm v ep u tc).toArray] w _
 go_enter Tryz.func37,Tryz.ntmps37
 go_wp2_with (first
  | ((with_reducible refine Au w rfl 56 (.tmp 0) rfl (wrC nm v ep u tc) rfl ?_);intro a1 hb hbel hsz;have H1:=hJ2 (An H0.out hbel (Ah _)) hb;have c0:=hb.cell 0;have c1:=hb.cell 1;have c2:=hb.cell 2;have c3:=hb.cell 3;simp only[wrC,Ab,Ac] at c0 c1 c2 c3;clear hb hbel hsz))
 have HNN:=Ag (Eb nm a1)
 refine HNN.out.mono ?_
 rintro e' a2 ⟨rfl,hb⟩
 have H2:=hJ2 (An H1.out.1 hb (Ah _)) (H1.out.2.below hb H1.out.2.lt)
 replace c0:=(hb.cell (p:=⟨w.heap.size,0,none⟩) (Am c0)).trans c0;replace c1:=(hb.cell (p:=⟨w.heap.size,1,none⟩) (Am c1)).trans c1;replace c2:=(hb.cell (p:=⟨w.heap.size,2,none⟩) (Am c2)).trans c2;replace c3:=(hb.cell (p:=⟨w.heap.size,3,none⟩) (Am c3)).trans c3
 clear hb
 rw[HN.out.1]
 by_cases q0:0<nu
 ·have E0:=Ag (show R=(decide (1≤v) && (decide (v≤9999) && (decide (1≤ep) && (decide (ep≤8) && (ub && bb))))) from by rw[HR.out,decide_eq_true q0,Bool.true_and])
  by_cases q1:1≤v
  ·have E1:=Ag (show R=(decide (v≤9999) && (decide (1≤ep) && (decide (ep≤8) && (ub && bb)))) from by rw[E0.out,decide_eq_true q1,Bool.true_and])
   by_cases q2:v≤9999
   ·have E2:=Ag (show R=(decide (1≤ep) && (decide (ep≤8) && (ub && bb))) from by rw[E1.out,decide_eq_true q2,Bool.true_and])
    by_cases q3:1≤ep
    ·have E3:=Ag (show R=(decide (ep≤8) && (ub && bb)) from by rw[E2.out,decide_eq_true q3,Bool.true_and])
     by_cases q4:ep≤8
     ·have E4:=Ag (show R=(ub && bb) from by rw[E3.out,decide_eq_true q4,Bool.true_and])
      go_wp2_with fail
      refine(CA u a2).mono ?_
      rintro e' w2 ⟨rfl,rfl⟩
      rw[HN.out.2.1]
      cases ub
      ·have EE:=Ag (show R=false from by rw[E4.out,Bool.false_and])
       go_wp2_with fail
       go_ret
       exact⟨by rw[EE.out];rfl,H2.out.1⟩
      ·have EE:=Ag (show R=bb from by rw[E4.out,Bool.true_and])
       go_wp2_with (first
  | (with_reducible refine Ap rfl 29 (.tmp 33) rfl w.heap.size 4 rfl tc _ (wrC_at _ _ _ _ _ _ _ H2.out.2) Tryz.underlying29 rfl (At Tryz.infoTm HT.out.2) ?_))
       refine(Ih bd _ F a2 (HT.out.1.below H2.out.1)).mono ?_
       rintro e' a3 ⟨rfl,hb⟩
       have H3:=hJ2 (An H2.out.1 hb (Ah _)) (H2.out.2.below hb H2.out.2.lt)
       clear hb
       rw[HN.out.2.2]
       go_wp2_with fail
       go_ret
       exact⟨by rw[EE.out];rfl,H3.out.1⟩
     ·have E4:=Ag (show R=false from by rw[E3.out,decide_eq_false q4,Bool.false_and])
      go_wp2_with fail
      go_ret
      exact⟨by rw[E4.out];rfl,H2.out.1⟩
    ·have E3:=Ag (show R=false from by rw[E2.out,decide_eq_false q3,Bool.false_and])
     go_wp2_with fail
     go_ret
     exact⟨by rw[E3.out];rfl,H2.out.1⟩
   ·have E2:=Ag (show R=false from by rw[E1.out,decide_eq_false q2,Bool.false_and])
    go_wp2_with fail
    go_ret
    exact⟨by rw[E2.out];rfl,H2.out.1⟩
  ·have E1:=Ag (show R=false from by rw[E0.out,decide_eq_false q1,Bool.false_and])
   go_wp2_with fail
   go_ret
   exact⟨by rw[E1.out];rfl,H2.out.1⟩
 ·have E0:=Ag (show R=false from by rw[HR.out,decide_eq_false q0,Bool.false_and])
  go_wp2_with fail
  go_ret
  exact⟨by rw[E0.out];rfl,H2.out.1⟩
theorem Tryz.buildwr (nm:ByteArray) (v e u:Int) (tk tu tn:Int) (ts:ByteArray) (ta:Option Addr) (tl tcp:Nat):∀ w,(Instr.build 56 #[(0,.string nm),(1,.int .i64 v),(2,.int .i64 e),(3,.int .i64 u),(4,.agg (tmC tk tu tn ts (.slice ta tl tcp)).toArray)]).run Tryz.prog w=.ok (.agg (wrC nm v e u (tmC tk tu tn ts (.slice ta tl tcp))).toArray) w:=fun w=> by kernel_rfl
theorem FM {ops:Array Oper} {rest:List Oper} {op:Oper} {a:Act} {w:World} {Q:Exit→Act→World→Prop} (hgd:op.guard=none) (x0 x1 x2 x3 x4:Operand) (ho:op.op=.build 56 #[(0,x0),(1,x1),(2,x2),(3,x3),(4,x4)])
  (nm:ByteArray) (v e u:Int) (tk tu tn:Int) (ts:ByteArray) (ta:Option Addr) (tl tcp:Nat) (h0:a.eval x0=.string nm) (h1:a.eval x1=.int .i64 v) (h2:a.eval x2=.int .i64 e) (h3:a.eval x3=.int .i64 u) (h4:a.eval x4=.agg (tmC tk tu tn ts (.slice ta tl tcp)).toArray)
  (h:wpList Tryz.prog ops Q rest (a.put op.dst (.agg (wrC nm v e u (tmC tk tu tn ts (.slice ta tl tcp))).toArray)) w):wpList Tryz.prog ops Q (op::rest) a w:=by
 refine wpList_plain hgd fun K hK=> ?_
 have hrun:(execOp a.eval op).run Tryz.prog w=.ok (.value (.agg (wrC nm v e u (tmC tk tu tn ts (.slice ta tl tcp))).toArray)) w:=by
  unfold execOp
  simp only[ho]
  rw[show((#[((0:Nat),x0),(1,x1),(2,x2),(3,x3),(4,x4)]:Array (Nat × Operand)).map fun (i,x)=> (i,a.eval x))=#[(0,.string nm),(1,.int .i64 v),(2,.int .i64 e),(3,.int .i64 u),(4,.agg (tmC tk tu tn ts (.slice ta tl tcp)).toArray)] by simp[h0,h1,h2,h3,h4]]
  simp[Tryz.buildwr,Result.andThen]
 unfold Oper.wp
 rw[hrun]
 exact hK _ _ h
theorem Tryz.zeroWr:∀ w,(zeroValue 56).run Tryz.prog w=.ok (.agg (wrC ⟨#[]⟩ 0 0 0 (tmC 0 0 0 ⟨#[]⟩ (.slice none 0 0))).toArray) w:=fun w=> by kernel_rfl
theorem Ii (nm:ByteArray) (v e u:Int) (tc:List Value) (h:tc.length=5):(Tryz.prog.info? 56).map (·.size)=some (wrC nm v e u tc).length:=At Tryz.infoWr (by simp[wrC,h])
theorem LA (nm:ByteArray) (v e u:Int) (tc:List Value) (h:∀ x∈tc,x.oneCell'=true):∀ x∈wrC nm v e u tc,x.oneCell'=true:=by
 intro x hv
 simp only[wrC,List.mem_cons] at hv
 rcases hv with rfl|rfl|rfl|rfl|hv
 ·rfl
 ·rfl
 ·rfl
 ·rfl
 ·exact h x hv
theorem flC_at (nm:ByteArray) (o pe:Int) (vr vq vg:Value) (v e u:Int) (tc:List Value) (w:World) (g:Nat) (h:Blk w g 45 (flC nm o pe vr vq vg v e u tc)):w.rangeAt g 9 tc:=fun j x hx=> by
 rw[h.cell]
 show(flC nm o pe vr vq vg v e u tc)[9+j]?=some x
 rw[show 9+j=j+1+1+1+1+1+1+1+1+1 by omega]
 simpa [flC] using hx
def BO (f:FileM):WrM:=⟨f.nm,f.v,f.e,f.u,f.b⟩
theorem EL (f:FileM) (vr vq vg:Value) (tc:List Value) (F:Nat→Prop) (w:World) (ht:TmC F w tc f.b):
  Calls Tryz.prog 38 #[.agg (flC f.nm f.p.o f.p.e vr vq vg f.v f.e f.u tc).toArray] w (fun e w'=> e=.returned (.agg (wrC f.nm f.v f.e f.u tc).toArray)∧Below w.heap.size w w'):=by
 have hlen:(flC f.nm f.p.o f.p.e vr vq vg f.v f.e f.u tc).length=14:=by simp[flC,ht.len]
 obtain⟨ta,tcp,rfl,-,-,-⟩:=ht.shape
 have HT:=Ag ht
 have HI:=Ag (show(Tryz.prog.info? 45).map (·.size)=some (flC f.nm f.p.o f.p.e vr vq vg f.v f.e f.u (tmC f.b.k f.b.u f.b.n f.b.s (.slice ta f.b.ks.length tcp))).length from At Tryz.infoFl hlen)
 generalize f.nm=nm at HI ⊢
 generalize f.v=v at HI ⊢
 generalize f.e=ep at HI ⊢
 generalize f.u=u at HI ⊢
 generalize f.p.o=o at HI ⊢
 generalize f.p.e=pe at HI ⊢
 generalize f.b=t at HI HT ⊢
 clear ht hlen
 have HTT:=Ag (show TmC F w (tmC t.k t.u t.n t.s (.slice ta t.ks.length tcp)) t from HT.out)
 clear HT
 generalize t.k=tk at HI HTT ⊢
 generalize t.u=tu at HI HTT ⊢
 generalize t.n=tn at HI HTT ⊢
 generalize t.s=ts at HI HTT ⊢
 generalize t.ks.length=tl at HI HTT ⊢
 have H0:=Ag (Below.refl w.heap.size w)
 go_enter Tryz.func38,Tryz.ntmps38
 go_wp2_with (first
  | ((with_reducible refine Au w rfl 45 (.tmp 0) rfl (flC nm o pe vr vq vg v ep u (tmC tk tu tn ts (.slice ta tl tcp))) rfl ?_);intro a1 hb hbel hsz;have H1:=hJ2 (An H0.out hbel (Ah _)) hb;have c0:=hb.cell 0;have c6:=hb.cell 6;have c7:=hb.cell 7;have c8:=hb.cell 8;simp only[flC,Ab,Ac] at c0 c6 c7 c8;clear hb hbel hsz)
  | ((with_reducible refine Av a1 rfl 56 rfl (wrC ⟨#[]⟩ 0 0 0 (tmC 0 0 0 ⟨#[]⟩ (.slice none 0 0))) Tryz.zeroWr ?_);intro a2 hb hbel hsz;have H2:=hJ3 (An H1.out.1 hbel (Ah _)) (H1.out.2.below hbel H1.out.2.lt) hb;replace c0:=(hbel.cell (p:=⟨w.heap.size,0,none⟩) (Am c0)).trans c0;replace c6:=(hbel.cell (p:=⟨w.heap.size,6,none⟩) (Am c6)).trans c6;replace c7:=(hbel.cell (p:=⟨w.heap.size,7,none⟩) (Am c7)).trans c7;replace c8:=(hbel.cell (p:=⟨w.heap.size,8,none⟩) (Am c8)).trans c8;clear hb hbel hsz)
  | (with_reducible refine Ap rfl 29 (.tmp 11) rfl w.heap.size 9 rfl (tmC tk tu tn ts (.slice ta tl tcp)) _ (flC_at _ _ _ _ _ _ _ _ _ _ _ _ H2.out.2.1) Tryz.underlying29 rfl (A8 _ _ _ _ _) ?_)
  | (with_reducible refine FM rfl (.tmp 4) (.tmp 6) (.tmp 8) (.tmp 10) (.tmp 12) rfl nm v ep u tk tu tn ts ta tl tcp rfl rfl rfl rfl rfl ?_)
  | ((with_reducible refine Ao a2 rfl 56 (.tmp 2) (.tmp 13) rfl a1.heap.size 56 (wrC ⟨#[]⟩ 0 0 0 (tmC 0 0 0 ⟨#[]⟩ (.slice none 0 0))) (wrC nm v ep u (tmC tk tu tn ts (.slice ta tl tcp))) H2.out.2.2 rfl rfl rfl (Ii _ _ _ _ _ rfl) (LA _ _ _ _ _ (AR _ _ _ _ _ _ _)) ?_);intro a3 hb hc hs;have H3:=hJ2 hb (Aw H2.out.1 hc (Ah _) (fun k hk=> by have e:k=a1.heap.size:=hk;have h1:=H1.out.2.lt;omega));clear hb hc hs))
 refine bodyPost_ret (AA Tryz.results38 _ _ a1.heap.size _ _ rfl H3.out.1 _ Tryz.underlying56 rfl (Ii _ _ _ _ _ rfl)) rfl ?_
 exact⟨rfl,H3.out.2⟩
def BW (a b:ByteArray):Int:=Lib.compareBytes a.data.toList b.data.toList
def Bx (a b:Int):Int:=if a<b then -1 else if b<a then 1 else 0
theorem Ja (a b:ByteArray) (w:World):Calls Tryz.prog 81 #[.string a,.string b] w (fun e w'=> e=.returned (.int .i64 (BW a b))∧w=w'):=by
 go_enter Tryz.func81,Tryz.ntmps81
 go_wp2
 rw[run_callFunc_extern Tryz.func101 (by kernel_rfl) (by kernel_rfl) (by kernel_rfl) (e:=Extern.BytealgCompare.compare) (by kernel_rfl),Lib.run_compareString]
 simp only[Result.andThen]
 rw[Oper.upon_value]
 go_wp2
 go_ret
 exact⟨rfl,rfl⟩
theorem KG (a b:ByteArray) (w:World):Calls Tryz.prog 55 #[.string a,.string b] w (fun e w'=> e=.returned (.int .i64 (BW a b))∧w=w'):=by
 have H:=Ag (Ja a b)
 go_enter Tryz.func55,Tryz.ntmps55
 go_wp2_with fail
 refine(H.out w).mono ?_
 rintro e w' ⟨rfl,rfl⟩
 go_wp2_with fail
 go_ret
 exact⟨rfl,rfl⟩
theorem KH (a b:Int) (w:World):Calls Tryz.prog 71 #[.int .i64 a,.int .i64 b] w (fun e w'=> e=.returned (.int .i64 (Bx a b))∧w=w'):=by
 by_cases h1:a<b
 ·have HE:=Ag (show Bx a b= -1 from if_pos h1)
  rw[HE.out]
  go_enter Tryz.func71,Tryz.ntmps71
  go_wp2_with (go_at_call 86;refine(ED _ _).mono ?_;rintro e w' ⟨rfl,rfl⟩)
  go_ret
  exact⟨rfl,rfl⟩
 ·by_cases h2:b<a
  ·have HE:=Ag (show Bx a b=1 from by unfold Bx;rw[if_neg h1,if_pos h2])
   rw[HE.out]
   go_enter Tryz.func71,Tryz.ntmps71
   go_wp2_with (go_at_call 86;refine(ED _ _).mono ?_;rintro e w' ⟨rfl,rfl⟩)
   go_ret
   exact⟨rfl,rfl⟩
  ·have HE:=Ag (show Bx a b=0 from by unfold Bx;rw[if_neg h1,if_neg h2])
   rw[HE.out]
   go_enter Tryz.func71,Tryz.ntmps71
   go_wp2_with (go_at_call 86;refine(ED _ _).mono ?_;rintro e w' ⟨rfl,rfl⟩)
   go_ret
   exact⟨rfl,rfl⟩
theorem Gk (args:Array Value) (w:World):Sem.run Tryz.prog (callFunc 54 args) w=.ok (.enter 54 args) w:=
 AP Tryz.func54 (by kernel_rfl) (by kernel_rfl) args w
theorem Gl (args:Array Value) (w:World):Sem.run Tryz.prog (callFunc 70 args) w=.ok (.enter 70 args) w:=
 AP Tryz.func70 (by kernel_rfl) (by kernel_rfl) args w
def bsI (c:Nat→Int) (lo hi:Nat):Nat:=if h:lo<hi then (if c ((lo+hi) / 2)<0 then bsI c ((lo+hi) / 2+1) hi else bsI c lo ((lo+hi) / 2)) else lo
termination_by hi - lo
decreasing_by all_goals omega
theorem Ec {c:Nat→Int} {lo hi:Nat} (h:¬ lo<hi):bsI c lo hi=lo:=by rw[bsI,dif_neg h]
theorem Hl {c:Nat→Int} {lo hi:Nat} (h:lo<hi) (hc:c ((lo+hi) / 2)<0):bsI c lo hi=bsI c ((lo+hi) / 2+1) hi:=by rw[bsI,dif_pos h,if_pos hc]
theorem EM {c:Nat→Int} {lo hi:Nat} (h:lo<hi) (hc:¬ c ((lo+hi) / 2)<0):bsI c lo hi=bsI c lo ((lo+hi) / 2):=by rw[bsI,dif_pos h,if_neg hc]
def C6 {α:Type} (c:α→Int) (l:List α) (j:Nat):Int:=(l[j]?.map c).getD 0
theorem CD {α:Type} (c:α→Int) (l:List α) (j:Nat) (h:j<l.length):C6 c l j=c l[j]:=by unfold C6;rw[List.getElem?_eq_getElem h];rfl
def AW {α:Type} (c:α→Int) (l:List α):Nat × Bool:=(bsI (C6 c l) 0 l.length,decide (bsI (C6 c l) 0 l.length<l.length) && (C6 c l (bsI (C6 c l) 0 l.length)==0))
theorem KI (x:FileM) (s:ByteArray) (cs:List Value) (F:Nat→Prop) (w:World) (hx:FlC F w cs x):
  Calls Tryz.prog 54 #[.agg cs.toArray,.string s] w (fun e w'=> e=.returned (.int .i64 (BW x.nm s))∧Below w.heap.size w w'):=by
 have HC:=Ag (show cs[0]?=some (.string x.nm) from by obtain⟨_,_,_,_,rfl,-,-⟩:=hx;rfl)
 generalize x.nm=k at HC ⊢
 clear hx
 have H0:=Ag (Below.refl w.heap.size w)
 go_enter Tryz.func54,Tryz.ntmps54
 go_wp2_with (first
  | ((with_reducible refine Au w rfl 45 (.tmp 0) rfl (cs) rfl ?_);intro a1 hb hbel hsz;have H1:=hJ2 (An H0.out hbel (Ah _)) hb;have c0:=hb.cell 0;rw[HC.out] at c0;clear hb hbel hsz))
 refine(KG _ _ _).mono ?_
 rintro e w' ⟨rfl,rfl⟩
 go_wp2_with fail
 go_ret
 exact⟨rfl,H1.out.1⟩
theorem KJ (x:CirM) (s:Int) (cs:List Value) (F:Nat→Prop) (w:World) (hx:CiC F w cs x):
  Calls Tryz.prog 70 #[.agg cs.toArray,.int .i64 s] w (fun e w'=> e=.returned (.int .i64 (Bx x.n s))∧Below w.heap.size w w'):=by
 have HC:=Ag (show cs[0]?=some (.int .i64 x.n) from by obtain⟨_,rfl,-⟩:=hx;rfl)
 generalize x.n=k at HC ⊢
 clear hx
 have H0:=Ag (Below.refl w.heap.size w)
 go_enter Tryz.func70,Tryz.ntmps70
 go_wp2_with (first
  | ((with_reducible refine Au w rfl 49 (.tmp 0) rfl (cs) rfl ?_);intro a1 hb hbel hsz;have H1:=hJ2 (An H0.out hbel (Ah _)) hb;have c0:=hb.cell 0;rw[HC.out] at c0;clear hb hbel hsz))
 refine(KH _ _ _).mono ?_
 rintro e w' ⟨rfl,rfl⟩
 go_wp2_with fail
 go_ret
 exact⟨rfl,H1.out.1⟩
theorem J7 (c:FileM→Int) (key:Value) (gf:Nat) (v:Value) (l:List FileM) (F:Nat→Prop) (w:World) (hv:RwF F w v l) (hl:l.length≤1000000000)
  (hcf:∀ args w1,Sem.run Tryz.prog (callFunc gf args) w1=.ok (.enter gf args) w1) (hst:∀ x∈l,∀ cs w',FlC F w' cs x→Calls Tryz.prog gf #[.agg cs.toArray,key] w' (fun e w''=> e=.returned (.int .i64 (c x))∧Below w'.heap.size w' w'')):
  Calls Tryz.prog 53 #[v,key,.func (.func gf) #[] #[]] w (fun e w'=> e=.returned (.tuple #[.int .i64 ((AW c l).1:Nat),.bool (AW c l).2])∧Below w.heap.size w w'):=by
 obtain⟨ao,cc,rfl,a2,a3⟩:=hv.shape
 obtain⟨n,hL⟩:∃ n,l.length=n:=⟨_,rfl⟩
 have HL:=Ag hL
 obtain⟨I,hI⟩:∃ I,bsI (C6 c l) 0 l.length=I:=⟨_,rfl⟩
 obtain⟨B,hB⟩:∃ B,(AW c l).2=B:=⟨_,rfl⟩
 have HB:=Ag (show B=(decide (I<n) && (C6 c l I==0)) from by rw[←hB,←hL,←hI];rfl)
 have h1:(AW c l).1=I:=hI
 rw[h1,hB]
 have H:=Ag (Ai (show RwC (FlC F) 14 F w (.slice ao l.length cc) l from hv) (Ai hst hI))
 rw[hL] at H a2 hl ⊢
 have hcf':=hcf
 clear hv a3 hL hst hI hB h1
 go_enter Tryz.func53,Tryz.ntmps53
 go_wp2_with fail
 go_loopw [9,10,11] (fun s9 s10 s11 wr=> ∃ lo hi:Nat,s9=.int .i64 lo∧s10=.int .i64 hi∧lo≤hi∧hi≤n∧Hid (bsI (C6 c l) lo hi=I)∧Hid (Below w.heap.size w wr)) (fun s9 s10 _ _=> ((intOf s10) - (intOf s9)).toNat)
 case atStart=> exact⟨0,n,rfl,rfl,Nat.zero_le _,Ah _,Ag H.out.2.2,Ag (Below.refl _ _)⟩
 case round=>
  obtain⟨lo,hi,rfl,rfl,hlh,hin,HT,HW⟩:=hrel
  by_cases hlt:lo<hi
  ·have hm:(lo+hi) / 2<n:=by omega
   obtain⟨b,o,cs,rfl,-,-,hlen,hra,hta⟩:=RwC.get H.out.1 (show(lo+hi) / 2<l.length from by rw[HL.out];omega)
   have HK:=Ag (CD c l ((lo+hi) / 2) (by rw[HL.out];omega))
   have HMEM:=Ag (List.getElem_mem (show(lo+hi) / 2<l.length from by rw[HL.out];omega))
   generalize l[(lo+hi) / 2]'(by rw[HL.out];omega)=y at hta HK HMEM
   have HC:=Ag (H.out.2.1 y HMEM.out cs wr (hta.below HW.out))
   have HRA:=Ag (Ai (AD hra HW.out) hlen)
   generalize hcy:c y=q at HK HC
   clear hra hta hlen hcy
   by_cases hyx:q<0
   ·have HT2:=Ag (show bsI (C6 c l) ((lo+hi) / 2+1) hi=I from by rw[←HT.out,Hl hlt (by rw[HK.out];exact hyx)])
    go_wp2_with (first
  | (with_reducible refine Ap rfl 45 (.tmp 27) rfl b (o+(lo+hi) / 2* 14) rfl cs _ (HRA.out.1) Tryz.underlying45 rfl (At Tryz.infoFl HRA.out.2) ?_))
    refine HC.out.mono ?_
    rintro e w' ⟨rfl,hb⟩
    have HW2:=Ag (An HW.out hb (Ah _))
    clear hb
    go_wp2_with fail
    go_roundw
    case measure=> simp[intOf];omega
    case rel=> exact⟨(lo+hi) / 2+1,hi,by rw[show((lo:Int)+(hi:Int)) / 2+1=(((lo+hi) / 2+1:Nat):Int) by omega],rfl,by omega,hin,HT2,HW2⟩
   ·have HT2:=Ag (show bsI (C6 c l) lo ((lo+hi) / 2)=I from by rw[←HT.out,EM hlt (by rw[HK.out];exact hyx)])
    go_wp2_with (first
  | (with_reducible refine Ap rfl 45 (.tmp 27) rfl b (o+(lo+hi) / 2* 14) rfl cs _ (HRA.out.1) Tryz.underlying45 rfl (At Tryz.infoFl HRA.out.2) ?_))
    refine HC.out.mono ?_
    rintro e w' ⟨rfl,hb⟩
    have HW2:=Ag (An HW.out hb (Ah _))
    clear hb
    go_wp2_with fail
    go_roundw
    case measure=> simp[intOf];omega
    case rel=> exact⟨lo,(lo+hi) / 2,rfl,by rw[show((lo:Int)+(hi:Int)) / 2=(((lo+hi) / 2:Nat):Int) by omega],by omega,by omega,HT2,HW2⟩
  ·obtain rfl:hi=lo:=by omega
   have E:=Ag (show I=hi from by rw[←HT.out,Ec (Nat.lt_irrefl _)])
   have HB2:=Ag (show B=(decide (hi<n) && (C6 c l hi==0)) from by rw[HB.out,E.out])
   by_cases hn:hi<n
   ·have HB3:=Ag (show B=(C6 c l hi==0) from by rw[HB2.out,decide_eq_true hn,Bool.true_and])
    obtain⟨b,o,cs,rfl,-,-,hlen,hra,hta⟩:=RwC.get H.out.1 (show hi<l.length from by rw[HL.out];omega)
    have HK:=Ag (CD c l (hi) (by rw[HL.out];omega))
    have HMEM:=Ag (List.getElem_mem (show hi<l.length from by rw[HL.out];omega))
    generalize l[hi]'(by rw[HL.out];omega)=y at hta HK HMEM
    have HC:=Ag (H.out.2.1 y HMEM.out cs wr (hta.below HW.out))
    have HRA:=Ag (Ai (AD hra HW.out) hlen)
    generalize hcy:c y=q at HK HC
    clear hra hta hlen hcy
    have HB4:=Ag (show B=(q==0) from by rw[HB3.out,HK.out])
    go_wp2_with (first
  | (with_reducible refine Ap rfl 45 (.tmp 43) rfl b (o+hi* 14) rfl cs _ (HRA.out.1) Tryz.underlying45 rfl (At Tryz.infoFl HRA.out.2) ?_))
    refine HC.out.mono ?_
    rintro e w' ⟨rfl,hb⟩
    have HW2:=Ag (An HW.out hb (Ah _))
    clear hb
    go_wp2_with fail
    go_ret2
    exact⟨by rw[HB4.out,E.out];rfl,HW2.out⟩
   ·have HB3:=Ag (show B=false from by rw[HB2.out,decide_eq_false hn,Bool.false_and])
    go_wp2_with fail
    go_ret2
    exact⟨by rw[HB3.out,E.out];rfl,HW.out⟩
theorem J8 (c:CirM→Int) (key:Value) (gf:Nat) (v:Value) (l:List CirM) (F:Nat→Prop) (w:World) (hv:RwI F w v l) (hl:l.length≤1000000000)
  (hcf:∀ args w1,Sem.run Tryz.prog (callFunc gf args) w1=.ok (.enter gf args) w1) (hst:∀ x∈l,∀ cs w',CiC F w' cs x→Calls Tryz.prog gf #[.agg cs.toArray,key] w' (fun e w''=> e=.returned (.int .i64 (c x))∧Below w'.heap.size w' w'')):
  Calls Tryz.prog 69 #[v,key,.func (.func gf) #[] #[]] w (fun e w'=> e=.returned (.tuple #[.int .i64 ((AW c l).1:Nat),.bool (AW c l).2])∧Below w.heap.size w w'):=by
 obtain⟨ao,cc,rfl,a2,a3⟩:=hv.shape
 obtain⟨n,hL⟩:∃ n,l.length=n:=⟨_,rfl⟩
 have HL:=Ag hL
 obtain⟨I,hI⟩:∃ I,bsI (C6 c l) 0 l.length=I:=⟨_,rfl⟩
 obtain⟨B,hB⟩:∃ B,(AW c l).2=B:=⟨_,rfl⟩
 have HB:=Ag (show B=(decide (I<n) && (C6 c l I==0)) from by rw[←hB,←hL,←hI];rfl)
 have h1:(AW c l).1=I:=hI
 rw[h1,hB]
 have H:=Ag (Ai (show RwC (CiC F) 3 F w (.slice ao l.length cc) l from hv) (Ai hst hI))
 rw[hL] at H a2 hl ⊢
 have hcf':=hcf
 clear hv a3 hL hst hI hB h1
 go_enter Tryz.func69,Tryz.ntmps69
 go_wp2_with fail
 go_loopw [9,10,11] (fun s9 s10 s11 wr=> ∃ lo hi:Nat,s9=.int .i64 lo∧s10=.int .i64 hi∧lo≤hi∧hi≤n∧Hid (bsI (C6 c l) lo hi=I)∧Hid (Below w.heap.size w wr)) (fun s9 s10 _ _=> ((intOf s10) - (intOf s9)).toNat)
 case atStart=> exact⟨0,n,rfl,rfl,Nat.zero_le _,Ah _,Ag H.out.2.2,Ag (Below.refl _ _)⟩
 case round=>
  obtain⟨lo,hi,rfl,rfl,hlh,hin,HT,HW⟩:=hrel
  by_cases hlt:lo<hi
  ·have hm:(lo+hi) / 2<n:=by omega
   obtain⟨b,o,cs,rfl,-,-,hlen,hra,hta⟩:=RwC.get H.out.1 (show(lo+hi) / 2<l.length from by rw[HL.out];omega)
   have HK:=Ag (CD c l ((lo+hi) / 2) (by rw[HL.out];omega))
   have HMEM:=Ag (List.getElem_mem (show(lo+hi) / 2<l.length from by rw[HL.out];omega))
   generalize l[(lo+hi) / 2]'(by rw[HL.out];omega)=y at hta HK HMEM
   have HC:=Ag (H.out.2.1 y HMEM.out cs wr (hta.below HW.out))
   have HRA:=Ag (Ai (AD hra HW.out) hlen)
   generalize hcy:c y=q at HK HC
   clear hra hta hlen hcy
   by_cases hyx:q<0
   ·have HT2:=Ag (show bsI (C6 c l) ((lo+hi) / 2+1) hi=I from by rw[←HT.out,Hl hlt (by rw[HK.out];exact hyx)])
    go_wp2_with (first
  | (with_reducible refine Ap rfl 49 (.tmp 27) rfl b (o+(lo+hi) / 2* 3) rfl cs _ (HRA.out.1) Tryz.underlying49 rfl (At Tryz.infoCi HRA.out.2) ?_))
    refine HC.out.mono ?_
    rintro e w' ⟨rfl,hb⟩
    have HW2:=Ag (An HW.out hb (Ah _))
    clear hb
    go_wp2_with fail
    go_roundw
    case measure=> simp[intOf];omega
    case rel=> exact⟨(lo+hi) / 2+1,hi,by rw[show((lo:Int)+(hi:Int)) / 2+1=(((lo+hi) / 2+1:Nat):Int) by omega],rfl,by omega,hin,HT2,HW2⟩
   ·have HT2:=Ag (show bsI (C6 c l) lo ((lo+hi) / 2)=I from by rw[←HT.out,EM hlt (by rw[HK.out];exact hyx)])
    go_wp2_with (first
  | (with_reducible refine Ap rfl 49 (.tmp 27) rfl b (o+(lo+hi) / 2* 3) rfl cs _ (HRA.out.1) Tryz.underlying49 rfl (At Tryz.infoCi HRA.out.2) ?_))
    refine HC.out.mono ?_
    rintro e w' ⟨rfl,hb⟩
    have HW2:=Ag (An HW.out hb (Ah _))
    clear hb
    go_wp2_with fail
    go_roundw
    case measure=> simp[intOf];omega
    case rel=> exact⟨lo,(lo+hi) / 2,rfl,by rw[show((lo:Int)+(hi:Int)) / 2=(((lo+hi) / 2:Nat):Int) by omega],by omega,by omega,HT2,HW2⟩
  ·obtain rfl:hi=lo:=by omega
   have E:=Ag (show I=hi from by rw[←HT.out,Ec (Nat.lt_irrefl _)])
   have HB2:=Ag (show B=(decide (hi<n) && (C6 c l hi==0)) from by rw[HB.out,E.out])
   by_cases hn:hi<n
   ·have HB3:=Ag (show B=(C6 c l hi==0) from by rw[HB2.out,decide_eq_true hn,Bool.true_and])
    obtain⟨b,o,cs,rfl,-,-,hlen,hra,hta⟩:=RwC.get H.out.1 (show hi<l.length from by rw[HL.out];omega)
    have HK:=Ag (CD c l (hi) (by rw[HL.out];omega))
    have HMEM:=Ag (List.getElem_mem (show hi<l.length from by rw[HL.out];omega))
    generalize l[hi]'(by rw[HL.out];omega)=y at hta HK HMEM
    have HC:=Ag (H.out.2.1 y HMEM.out cs wr (hta.below HW.out))
    have HRA:=Ag (Ai (AD hra HW.out) hlen)
    generalize hcy:c y=q at HK HC
    clear hra hta hlen hcy
    have HB4:=Ag (show B=(q==0) from by rw[HB3.out,HK.out])
    go_wp2_with (first
  | (with_reducible refine Ap rfl 49 (.tmp 43) rfl b (o+hi* 3) rfl cs _ (HRA.out.1) Tryz.underlying49 rfl (At Tryz.infoCi HRA.out.2) ?_))
    refine HC.out.mono ?_
    rintro e w' ⟨rfl,hb⟩
    have HW2:=Ag (An HW.out hb (Ah _))
    clear hb
    go_wp2_with fail
    go_ret2
    exact⟨by rw[HB4.out,E.out];rfl,HW2.out⟩
   ·have HB3:=Ag (show B=false from by rw[HB2.out,decide_eq_false hn,Bool.false_and])
    go_wp2_with fail
    go_ret2
    exact⟨by rw[HB3.out,E.out];rfl,HW.out⟩
theorem EN (s:IdM) (k:ByteArray) (cs:List Value) (F:Nat→Prop) (w:World) (hs:IdC F w cs s) (hl:s.fs.length≤1000000000):
  Calls Tryz.prog 25 #[.agg cs.toArray,.string k] w (fun e w'=> e=.returned (.tuple #[.int .i64 ((AW (fun x=> BW x.nm k) s.fs).1:Nat),.bool (AW (fun x=> BW x.nm k) s.fs).2])∧Below w.heap.size w w'):=by
 obtain⟨vf,vc,vw,rfl,hf,hc,hw⟩:=hs
 have HS:=Ag (Ai (show RwF F w vf s.fs from hf) hl)
 have HH:=Ag (fun x (_:x∈s.fs) cs w' (h:FlC F w' cs x)=> KI x k cs F w' h)
 generalize s.fs=l at HS HH ⊢
 clear hf hc hw hl
 have H0:=Ag (Below.refl w.heap.size w)
 have HB:=Ag (fun w' (h:Below w.heap.size w w')=> J7 (fun x=> BW x.nm k) (.string k) 54 vf l F w' (HS.out.1.below h) HS.out.2 Gk HH.out)
 generalize hr:AW (fun x:FileM=> BW x.nm k) l=r at HB ⊢
 obtain⟨i,b⟩:=r
 clear hr
 simp only at HB ⊢
 go_enter Tryz.func25,Tryz.ntmps25
 go_wp2_with (first
  | ((with_reducible refine Au w rfl 26 (.tmp 0) rfl ([vf,vc,vw]) rfl ?_);intro a1 hb hbel hsz;have H1:=hJ2 (An H0.out hbel (Ah _)) hb;have c0:=hb.cell 0;simp only[Ab,Ac] at c0;clear hb hbel hsz))
 refine(HB.out a1 H1.out.1).mono ?_
 rintro e w' ⟨rfl,hb⟩
 have HW:=Ag (An H1.out.1 hb (Ah _))
 clear hb
 go_wp2_with fail
 go_ret2
 exact⟨rfl,HW.out⟩
theorem DL (s:IdM) (k:Int) (cs:List Value) (F:Nat→Prop) (w:World) (hs:IdC F w cs s) (hl:s.cs.length≤1000000000):
  Calls Tryz.prog 39 #[.agg cs.toArray,.int .i64 k] w (fun e w'=> e=.returned (.tuple #[.int .i64 ((AW (fun x=> Bx x.n k) s.cs).1:Nat),.bool (AW (fun x=> Bx x.n k) s.cs).2])∧Below w.heap.size w w'):=by
 obtain⟨vf,vc,vw,rfl,hf,hc,hw⟩:=hs
 have HS:=Ag (Ai (show RwI F w vc s.cs from hc) hl)
 have HH:=Ag (fun x (_:x∈s.cs) cs w' (h:CiC F w' cs x)=> KJ x k cs F w' h)
 generalize s.cs=l at HS HH ⊢
 clear hf hc hw hl
 have H0:=Ag (Below.refl w.heap.size w)
 have HB:=Ag (fun w' (h:Below w.heap.size w w')=> J8 (fun x=> Bx x.n k) (.int .i64 k) 70 vc l F w' (HS.out.1.below h) HS.out.2 Gl HH.out)
 generalize hr:AW (fun x:CirM=> Bx x.n k) l=r at HB ⊢
 obtain⟨i,b⟩:=r
 clear hr
 simp only at HB ⊢
 go_enter Tryz.func39,Tryz.ntmps39
 go_wp2_with (first
  | ((with_reducible refine Au w rfl 26 (.tmp 0) rfl ([vf,vc,vw]) rfl ?_);intro a1 hb hbel hsz;have H1:=hJ2 (An H0.out hbel (Ah _)) hb;have c0:=hb.cell 1;simp only[Ab,Ac] at c0;clear hb hbel hsz))
 refine(HB.out a1 H1.out.1).mono ?_
 rintro e w' ⟨rfl,hb⟩
 have HW:=Ag (An H1.out.1 hb (Ah _))
 clear hb
 go_wp2_with fail
 go_ret2
 exact⟨rfl,HW.out⟩
def BC {α:Type} (ge:α→α→Bool):List α→Bool
 | []=> true
 | [_]=> true
 | a::b::t=> !ge a b && BC ge (b::t)
theorem Fc {α:Type} (ge:α→α→Bool) (l:List α) (h:l.length≤1):BC ge l=true:=by
 match l,h with
 | [],_=> rfl
 | [_],_=> rfl
theorem Gm {α:Type} (ge:α→α→Bool) (l:List α) (m:Nat) (h:m+1<l.length):BC ge (l.drop m)=(!ge l[m] l[m+1] && BC ge (l.drop (m+1))):=by
 rw[List.drop_eq_getElem_cons (show m<l.length by omega),List.drop_eq_getElem_cons h]
 rfl
def geS (a b:ByteArray):Bool:=!Op.bytesLess a.toList b.toList
def geN (a b:Int):Bool:=decide (b≤a)
theorem Gn (args:Array Value) (w:World):Sem.run Tryz.prog (callFunc 32 args) w=.ok (.enter 32 args) w:=
 AP Tryz.func32 (by kernel_rfl) (by kernel_rfl) args w
theorem Gp (args:Array Value) (w:World):Sem.run Tryz.prog (callFunc 34 args) w=.ok (.enter 34 args) w:=
 AP Tryz.func34 (by kernel_rfl) (by kernel_rfl) args w
theorem Gq (args:Array Value) (w:World):Sem.run Tryz.prog (callFunc 63 args) w=.ok (.enter 63 args) w:=
 AP Tryz.func63 (by kernel_rfl) (by kernel_rfl) args w
theorem Gr (args:Array Value) (w:World):Sem.run Tryz.prog (callFunc 66 args) w=.ok (.enter 66 args) w:=
 AP Tryz.func66 (by kernel_rfl) (by kernel_rfl) args w
theorem J9 (x:FileM) (cs:List Value) (F:Nat→Prop) (w:World) (hx:FlC F w cs x):
  Calls Tryz.prog 32 #[.agg cs.toArray] w (fun e w'=> e=.returned (.string x.nm)∧Below w.heap.size w w'):=by
 have HC:=Ag (show cs[0]?=some (.string x.nm) from by obtain⟨_,_,_,_,rfl,-,-⟩:=hx;rfl)
 generalize x.nm=k at HC ⊢
 clear hx
 have H0:=Ag (Below.refl w.heap.size w)
 go_enter Tryz.func32,Tryz.ntmps32
 go_wp2_with (first
  | ((with_reducible refine Au w rfl 45 (.tmp 0) rfl (cs) rfl ?_);intro a1 hb hbel hsz;have H1:=hJ2 (An H0.out hbel (Ah _)) hb;have c0:=hb.cell 0;rw[HC.out] at c0;clear hb hbel hsz))
 go_ret
 exact⟨rfl,H1.out.1⟩
theorem KK (x:CirM) (cs:List Value) (F:Nat→Prop) (w:World) (hx:CiC F w cs x):
  Calls Tryz.prog 34 #[.agg cs.toArray] w (fun e w'=> e=.returned (.int .i64 x.n)∧Below w.heap.size w w'):=by
 have HC:=Ag (show cs[0]?=some (.int .i64 x.n) from by obtain⟨_,rfl,-⟩:=hx;rfl)
 generalize x.n=k at HC ⊢
 clear hx
 have H0:=Ag (Below.refl w.heap.size w)
 go_enter Tryz.func34,Tryz.ntmps34
 go_wp2_with (first
  | ((with_reducible refine Au w rfl 49 (.tmp 0) rfl (cs) rfl ?_);intro a1 hb hbel hsz;have H1:=hJ2 (An H0.out hbel (Ah _)) hb;have c0:=hb.cell 0;rw[HC.out] at c0;clear hb hbel hsz))
 go_ret
 exact⟨rfl,H1.out.1⟩
theorem JB (n:Int) (w:World):Calls Tryz.prog 63 #[.int .i64 n] w (fun e w'=> e=.returned (.int .i64 n)∧w=w'):=by
 go_enter Tryz.func63,Tryz.ntmps63
 go_wp2_with fail
 go_ret
 exact⟨rfl,rfl⟩
theorem Ka (n:Int) (w:World):Calls Tryz.prog 66 #[.int .i64 n] w (fun e w'=> e=.returned (.bool (!AX n))∧w=w'):=by
 have H:=Ag (CA n)
 go_enter Tryz.func66,Tryz.ntmps66
 go_wp2_with fail
 refine(H.out w).mono ?_
 rintro e w' ⟨rfl,rfl⟩
 go_wp2_with fail
 go_ret
 exact⟨rfl,rfl⟩
theorem Jb (v:Value) (l:List FileM) (F:Nat→Prop) (w:World) (hv:RwF F w v l):
  Calls Tryz.prog 31 #[v,.func (.func 32) #[] #[]] w (fun e w'=> e=.returned (.bool (BC (fun x y:FileM=> geS (x.nm) (y.nm)) l))∧Below w.heap.size w w'):=by
 obtain⟨ao,cc,rfl,a2,a3⟩:=hv.shape
 obtain⟨n,hL⟩:∃ n,l.length=n:=⟨_,rfl⟩
 have HL:=Ag hL
 obtain⟨R,hR⟩:∃ R,BC (fun x y:FileM=> geS (x.nm) (y.nm)) l=R:=⟨_,rfl⟩
 have HA:=Ag (Gm (fun x y:FileM=> geS (x.nm) (y.nm)) l)
 have HE:=Ag (Fc (fun x y:FileM=> geS (x.nm) (y.nm)))
 have H:=Ag (Ai (show RwC (FlC F) 14 F w (.slice ao l.length cc) l from hv) (Ai (fun (x:FileM) cs w' (h:FlC F w' cs x)=> J9 x cs F w' h) hR))
 rw[hR]
 rw[hL] at H a2 ⊢
 have hcf':=Gn
 have hn63:n≤9223372036854775807:=by unfold maxLen at a3;omega
 clear hv a3 hL hR
 generalize BC (fun x y:FileM=> geS (x.nm) (y.nm))=RA at HA HE H
 go_enter Tryz.func31,Tryz.ntmps31
 go_wp2_with fail
 go_loopw [5,8] (fun s5 s8 wr=> ∃ k:Nat,k≤n∧s8=.int .i64 k∧Hid (RA (l.drop (k - 1))=R)∧Hid (Below w.heap.size w wr)) (fun _ s8 _=> n - (intOf s8).toNat)
 case atStart=> exact⟨0,Nat.zero_le _,rfl,Ag H.out.2.2,Ag (Below.refl _ _)⟩
 case round=>
  obtain⟨k,hk,rfl,HT,HW⟩:=hrel
  by_cases hlt:k<n
  ·rcases k with _|m
   ·have hn0:(0:Int)<(n:Int):=by omega
    have hz:decide ((0:Int)<((0:Nat):Int))=false:=by decide
    go_wp2_with fail
    go_quiet (fail)
    go_wp2_with fail
    go_roundw
    case measure=> simp[intOf];omega
    case rel=> exact⟨1,by omega,by go_num,HT,Ag (An HW.out (((Sm.refl _).drewN _).below _) (Ah _))⟩
   ·have hz:decide ((0:Int)<((m+1:Nat):Int))=true:=by simp
    have hp:((m+1:Nat):Int) - 1=(m:Int):=by omega
    have hm0:(0:Int)≤(m:Int):=by omega
    have hmn:(m:Int)<(n:Int):=by omega
    have hm1n:((m+1:Nat):Int)<(n:Int):=by omega
    have hml:m<l.length:=by rw[HL.out];omega
    have hml1:m+1<l.length:=by rw[HL.out];omega
    obtain⟨b,o,cs,e1,-,-,hlen,hra,hta⟩:=RwC.get H.out.1 hml
    obtain⟨b',o',cs',e2,-,-,hlen',hra',hta'⟩:=RwC.get H.out.1 hml1
    subst e1
    simp only[Option.some.injEq,Addr.mk.injEq,and_true] at e2
    obtain⟨rfl,rfl⟩:=e2
    have HT2:=Ag (show(!(geS (l[m].nm) (l[m+1].nm)) && RA (l.drop (m+1)))=R from by rw[←HT.out,show m+1 - 1=m from rfl,HA.out m hml1])
    generalize l[m]=x at hta HT2
    generalize l[m+1]=y at hta' HT2
    clear hml hml1
    have C1:=Ag (fun p=> H.out.2.1 x cs (Bf wr p) ((hta.below HW.out).below (AN wr p)))
    have C2:=Ag (fun p=> H.out.2.1 y cs' (Bf wr p) ((hta'.below HW.out).below (AN wr p)))
    have HRA:=Ag (Ai (AD hra HW.out) (AD hra' HW.out))
    have HLE:=Ag (Ai hlen hlen')
    generalize x.nm=kx at C1 HT2
    generalize y.nm=ky at C2 HT2
    obtain⟨g,hg⟩:∃ g,geS kx ky=g:=⟨_,rfl⟩
    rw[hg] at HT2
    have hgg:(!Op.bytesLess kx.toList ky.toList)=g:=hg
    clear hta hta' hra hra' hlen hlen' hg
    go_wp2_with fail
    refine A3 (by kernel_rfl) (by kernel_rfl) ?_
    repeat (first|go_big_quiet_skip|(go_big_quiet_want;(first|(refine A0 45 (.tmp 18) rfl b (o+m* 14) rfl cs _ (fun w' hw'=> A6 HRA.out.1 w' hw') Tryz.underlying45 rfl (At Tryz.infoFl HLE.out.1) ?_;go_simp;go_big_quiet_on)|(refine A0 45 (.tmp 24) rfl b (o+(m+1)* 14) rfl cs' _ (fun w' hw'=> A6 HRA.out.2 w' hw') Tryz.underlying45 rfl (At Tryz.infoFl HLE.out.2) ?_;go_simp;go_big_quiet_on)|(go_big_quiet_op;(first|go_big_quiet_on|(apply Exists.intro;refine⟨fun _=> ?_,?_⟩;(focus (first|(go_at_call_of 32 (Value.agg cs.toArray);with_reducible exact AT (C1.out _))|(go_at_call_of 32 (Value.agg cs'.toArray);with_reducible exact AT (C2.out _))));go_big_quiet_on))))))
    refine wpQuiet_nil ?_
    intro w9 hw9
    obtain⟨x9,rfl⟩:=hw9
    clear C1 C2
    have HW2:=Ag (An HW.out (AN wr x9) (Ah _))
    generalize Bf wr x9=wz at HW2 ⊢
    cases g
    ·have HT3:=Ag (show RA (l.drop (m+1+1 - 1))=R from by have h:=HT2.out;rw[Bool.not_false,Bool.true_and] at h;exact h)
     go_wp2_with fail
     go_roundw
     case measure=> simp[intOf];omega
     case rel=> exact⟨m+1+1,by omega,by go_num,HT3,HW2⟩
    ·have HF:=Ag (show R=false from by rw[←HT2.out,Bool.not_true,Bool.false_and])
     go_wp2_with fail
     go_ret
     exact⟨by rw[HF.out];rfl,HW2.out⟩
  ·have hge:¬ (k:Int)<(n:Int):=by omega
   have HF:=Ag (show R=true from by rw[←HT.out];exact HE.out _ (by rw[List.length_drop,HL.out];omega))
   go_wp2_with fail
   go_ret
   exact⟨by rw[HF.out];rfl,HW.out⟩
theorem Jc (v:Value) (l:List CirM) (F:Nat→Prop) (w:World) (hv:RwI F w v l):
  Calls Tryz.prog 33 #[v,.func (.func 34) #[] #[]] w (fun e w'=> e=.returned (.bool (BC (fun x y:CirM=> geN (x.n) (y.n)) l))∧Below w.heap.size w w'):=by
 obtain⟨ao,cc,rfl,a2,a3⟩:=hv.shape
 obtain⟨n,hL⟩:∃ n,l.length=n:=⟨_,rfl⟩
 have HL:=Ag hL
 obtain⟨R,hR⟩:∃ R,BC (fun x y:CirM=> geN (x.n) (y.n)) l=R:=⟨_,rfl⟩
 have HA:=Ag (Gm (fun x y:CirM=> geN (x.n) (y.n)) l)
 have HE:=Ag (Fc (fun x y:CirM=> geN (x.n) (y.n)))
 have H:=Ag (Ai (show RwC (CiC F) 3 F w (.slice ao l.length cc) l from hv) (Ai (fun (x:CirM) cs w' (h:CiC F w' cs x)=> KK x cs F w' h) hR))
 rw[hR]
 rw[hL] at H a2 ⊢
 have hcf':=Gp
 have hn63:n≤9223372036854775807:=by unfold maxLen at a3;omega
 clear hv a3 hL hR
 generalize BC (fun x y:CirM=> geN (x.n) (y.n))=RA at HA HE H
 go_enter Tryz.func33,Tryz.ntmps33
 go_wp2_with fail
 go_loopw [5,8] (fun s5 s8 wr=> ∃ k:Nat,k≤n∧s8=.int .i64 k∧Hid (RA (l.drop (k - 1))=R)∧Hid (Below w.heap.size w wr)) (fun _ s8 _=> n - (intOf s8).toNat)
 case atStart=> exact⟨0,Nat.zero_le _,rfl,Ag H.out.2.2,Ag (Below.refl _ _)⟩
 case round=>
  obtain⟨k,hk,rfl,HT,HW⟩:=hrel
  by_cases hlt:k<n
  ·rcases k with _|m
   ·have hn0:(0:Int)<(n:Int):=by omega
    have hz:decide ((0:Int)<((0:Nat):Int))=false:=by decide
    go_wp2_with fail
    go_quiet (fail)
    go_wp2_with fail
    go_roundw
    case measure=> simp[intOf];omega
    case rel=> exact⟨1,by omega,by go_num,HT,Ag (An HW.out (((Sm.refl _).drewN _).below _) (Ah _))⟩
   ·have hz:decide ((0:Int)<((m+1:Nat):Int))=true:=by simp
    have hp:((m+1:Nat):Int) - 1=(m:Int):=by omega
    have hm0:(0:Int)≤(m:Int):=by omega
    have hmn:(m:Int)<(n:Int):=by omega
    have hm1n:((m+1:Nat):Int)<(n:Int):=by omega
    have hml:m<l.length:=by rw[HL.out];omega
    have hml1:m+1<l.length:=by rw[HL.out];omega
    obtain⟨b,o,cs,e1,-,-,hlen,hra,hta⟩:=RwC.get H.out.1 hml
    obtain⟨b',o',cs',e2,-,-,hlen',hra',hta'⟩:=RwC.get H.out.1 hml1
    subst e1
    simp only[Option.some.injEq,Addr.mk.injEq,and_true] at e2
    obtain⟨rfl,rfl⟩:=e2
    have HT2:=Ag (show(!(geN (l[m].n) (l[m+1].n)) && RA (l.drop (m+1)))=R from by rw[←HT.out,show m+1 - 1=m from rfl,HA.out m hml1])
    generalize l[m]=x at hta HT2
    generalize l[m+1]=y at hta' HT2
    clear hml hml1
    have C1:=Ag (fun p=> H.out.2.1 x cs (Bf wr p) ((hta.below HW.out).below (AN wr p)))
    have C2:=Ag (fun p=> H.out.2.1 y cs' (Bf wr p) ((hta'.below HW.out).below (AN wr p)))
    have HRA:=Ag (Ai (AD hra HW.out) (AD hra' HW.out))
    have HLE:=Ag (Ai hlen hlen')
    generalize x.n=kx at C1 HT2
    generalize y.n=ky at C2 HT2
    obtain⟨g,hg⟩:∃ g,geN kx ky=g:=⟨_,rfl⟩
    rw[hg] at HT2
    have hgg:decide (ky≤kx)=g:=hg
    clear hta hta' hra hra' hlen hlen' hg
    go_wp2_with fail
    refine A3 (by kernel_rfl) (by kernel_rfl) ?_
    repeat (first|go_big_quiet_skip|(go_big_quiet_want;(first|(refine A0 49 (.tmp 18) rfl b (o+m* 3) rfl cs _ (fun w' hw'=> A6 HRA.out.1 w' hw') Tryz.underlying49 rfl (At Tryz.infoCi HLE.out.1) ?_;go_simp;go_big_quiet_on)|(refine A0 49 (.tmp 24) rfl b (o+(m+1)* 3) rfl cs' _ (fun w' hw'=> A6 HRA.out.2 w' hw') Tryz.underlying49 rfl (At Tryz.infoCi HLE.out.2) ?_;go_simp;go_big_quiet_on)|(go_big_quiet_op;(first|go_big_quiet_on|(apply Exists.intro;refine⟨fun _=> ?_,?_⟩;(focus (first|(go_at_call_of 34 (Value.agg cs.toArray);with_reducible exact AT (C1.out _))|(go_at_call_of 34 (Value.agg cs'.toArray);with_reducible exact AT (C2.out _))));go_big_quiet_on))))))
    refine wpQuiet_nil ?_
    intro w9 hw9
    obtain⟨x9,rfl⟩:=hw9
    clear C1 C2
    have HW2:=Ag (An HW.out (AN wr x9) (Ah _))
    generalize Bf wr x9=wz at HW2 ⊢
    cases g
    ·have HT3:=Ag (show RA (l.drop (m+1+1 - 1))=R from by have h:=HT2.out;rw[Bool.not_false,Bool.true_and] at h;exact h)
     go_wp2_with fail
     go_roundw
     case measure=> simp[intOf];omega
     case rel=> exact⟨m+1+1,by omega,by go_num,HT3,HW2⟩
    ·have HF:=Ag (show R=false from by rw[←HT2.out,Bool.not_true,Bool.false_and])
     go_wp2_with fail
     go_ret
     exact⟨by rw[HF.out];rfl,HW2.out⟩
  ·have hge:¬ (k:Int)<(n:Int):=by omega
   have HF:=Ag (show R=true from by rw[←HT.out];exact HE.out _ (by rw[List.length_drop,HL.out];omega))
   go_wp2_with fail
   go_ret
   exact⟨by rw[HF.out];rfl,HW.out⟩
theorem Jd (v:Value) (l:List Int) (w:World) (hv:Sl w v (ofK .i64 l)):
  Calls Tryz.prog 65 #[v,.func (.func 63) #[] #[]] w (fun e w'=> e=.returned (.bool (BC geN l))∧Below w.heap.size w w'):=by
 obtain⟨ao,cc,rfl,a2,a3,a4⟩:=hv.nums
 obtain⟨n,hL⟩:∃ n,l.length=n:=⟨_,rfl⟩
 have HL:=Ag hL
 obtain⟨R,hR⟩:∃ R,BC geN l=R:=⟨_,rfl⟩
 have HA:=Ag (Gm geN l)
 have HE:=Ag (Fc geN)
 have H:=Ag (Ai hv (Ai a4 hR))
 rw[hR]
 rw[hL] at a2 ⊢
 have hcf':=Gq
 have hn63:n≤9223372036854775807:=by omega
 clear hv a3 a4 hL hR
 generalize BC geN=RA at HA HE H
 go_enter Tryz.func65,Tryz.ntmps65
 go_wp2_with fail
 go_loopw [5,8] (fun s5 s8 wr=> ∃ k:Nat,k≤n∧s8=.int .i64 k∧Hid (RA (l.drop (k - 1))=R)∧Hid (Below w.heap.size w wr)) (fun _ s8 _=> n - (intOf s8).toNat)
 case atStart=> exact⟨0,Nat.zero_le _,rfl,Ag H.out.2.2,Ag (Below.refl _ _)⟩
 case round=>
  obtain⟨k,hk,rfl,HT,HW⟩:=hrel
  by_cases hlt:k<n
  ·rcases k with _|m
   ·have hn0:(0:Int)<(n:Int):=by omega
    have hz:decide ((0:Int)<((0:Nat):Int))=false:=by decide
    go_wp2_with fail
    go_quiet (fail)
    go_wp2_with fail
    go_roundw
    case measure=> simp[intOf];omega
    case rel=> exact⟨1,by omega,by go_num,HT,Ag (An HW.out (((Sm.refl _).drewN _).below _) (Ah _))⟩
   ·have hz:decide ((0:Int)<((m+1:Nat):Int))=true:=by simp
    have hp:((m+1:Nat):Int) - 1=(m:Int):=by omega
    have hm0:(0:Int)≤(m:Int):=by omega
    have hmn:(m:Int)<(n:Int):=by omega
    have hm1n:((m+1:Nat):Int)<(n:Int):=by omega
    have hml:m<l.length:=by rw[HL.out];omega
    have hml1:m+1<l.length:=by rw[HL.out];omega
    obtain⟨b,o,rfl,hbl,hcell⟩:=H.out.2.1 (by rw[HL.out];omega)
    have c1:=hcell m hml
    have c2:=hcell (m+1) hml1
    have HT2:=Ag (show(!(geN l[m] l[m+1]) && RA (l.drop (m+1)))=R from by rw[←HT.out,show m+1 - 1=m from rfl,HA.out m hml1])
    generalize l[m]=x at c1 HT2
    generalize l[m+1]=y at c2 HT2
    clear hml hml1 hcell
    have c1:=fun p=> AS ((HW.out.cell (p:=⟨b,o+m,none⟩) (Am c1)).trans c1) p
    have c2:=fun p=> AS ((HW.out.cell (p:=⟨b,o+(m+1),none⟩) (Am c2)).trans c2) p
    have C1:=Ag (fun p=> show Calls Tryz.prog 63 #[.int .i64 x] (Bf wr p) (fun e w'=> e=.returned (.int .i64 x)∧Below (Bf wr p).heap.size (Bf wr p) w') from(JB x (Bf wr p)).mono fun _ _ h=> ⟨h.1,by rw[←h.2];exact Below.refl _ _⟩)
    have C2:=Ag (fun p=> show Calls Tryz.prog 63 #[.int .i64 y] (Bf wr p) (fun e w'=> e=.returned (.int .i64 y)∧Below (Bf wr p).heap.size (Bf wr p) w') from(JB y (Bf wr p)).mono fun _ _ h=> ⟨h.1,by rw[←h.2];exact Below.refl _ _⟩)
    obtain⟨g,hg⟩:∃ g,geN x y=g:=⟨_,rfl⟩
    rw[hg] at HT2
    have hgg:decide (y≤x)=g:=hg
    clear hg hbl
    go_wp2_with fail
    refine A3 (by kernel_rfl) (by kernel_rfl) ?_
    repeat (first|go_big_quiet_skip|(go_big_quiet_want;(go_big_quiet_op;(first|go_big_quiet_on|(apply Exists.intro;refine⟨fun _=> ?_,?_⟩;(focus (first|(go_at_call_of 63 (Value.int .i64 x);with_reducible exact AT (C1.out _))|(go_at_call_of 63 (Value.int .i64 y);with_reducible exact AT (C2.out _))));go_big_quiet_on)))))
    refine wpQuiet_nil ?_
    intro w9 hw9
    obtain⟨x9,rfl⟩:=hw9
    clear C1 C2 c1 c2
    have HW2:=Ag (An HW.out (AN wr x9) (Ah _))
    generalize Bf wr x9=wz at HW2 ⊢
    cases g
    ·have HT3:=Ag (show RA (l.drop (m+1+1 - 1))=R from by have h:=HT2.out;rw[Bool.not_false,Bool.true_and] at h;exact h)
     go_wp2_with fail
     go_roundw
     case measure=> simp[intOf];omega
     case rel=> exact⟨m+1+1,by omega,by go_num,HT3,HW2⟩
    ·have HF:=Ag (show R=false from by rw[←HT2.out,Bool.not_true,Bool.false_and])
     go_wp2_with fail
     go_ret
     exact⟨by rw[HF.out];rfl,HW2.out⟩
  ·have hge:¬ (k:Int)<(n:Int):=by omega
   have HF:=Ag (show R=true from by rw[←HT.out];exact HE.out _ (by rw[List.length_drop,HL.out];omega))
   go_wp2_with fail
   go_ret
   exact⟨by rw[HF.out];rfl,HW.out⟩
def Ek (c:CirM):Bool:=decide (1≤c.n) && (decide (c.n≤3) && (AX c.o && (BC geN c.us && !(c.us.any fun u=> !AX u))))
theorem Ij (c:CirM) (cs:List Value) (F:Nat→Prop) (w:World) (hc:CiC F w cs c):
  Calls Tryz.prog 35 #[.agg cs.toArray] w (fun e w'=> e=.returned (.bool (Ek c))∧Below w.heap.size w w'):=by
 obtain⟨R,hR⟩:∃ R,Ek c=R:=⟨_,rfl⟩
 rw[hR]
 obtain⟨n,o,us⟩:=c
 obtain⟨vu,rfl,hu⟩:=hc
 have HU:=Ag hu.1
 obtain⟨ub,hub⟩:∃ b,AX o=b:=⟨_,rfl⟩
 obtain⟨rb,hrb⟩:∃ b,BC geN us=b:=⟨_,rfl⟩
 obtain⟨ab,hab⟩:∃ b,(us.any fun u=> !AX u)=b:=⟨_,rfl⟩
 have HN:=Ag (Ai hub (Ai hrb hab))
 have HR:=Ag (show R=(decide (1≤n) && (decide (n≤3) && (ub && (rb && !ab)))) from by rw[←hR,←hub,←hrb,←hab];rfl)
 clear hR hub hrb hab hu
 have H0:=Ag (Below.refl w.heap.size w)
 show Calls Tryz.prog 35 #[.agg (ciC n o vu).toArray] w _
 go_enter Tryz.func35,Tryz.ntmps35
 by_cases q0:1≤n
 ·have E0:=Ag (show R=(decide (n≤3) && (ub && (rb && !ab))) from by rw[HR.out,decide_eq_true q0,Bool.true_and])
  by_cases q1:n≤3
  ·have E1:=Ag (show R=(ub && (rb && !ab)) from by rw[E0.out,decide_eq_true q1,Bool.true_and])
   go_wp2_with (first
  | ((with_reducible refine Au w rfl 49 (.tmp 0) rfl (ciC n o vu) rfl ?_);intro a1 hb hbel hsz;have H1:=hJ2 (An H0.out hbel (Ah _)) hb;have c0:=hb.cell 0;have c1:=hb.cell 1;have c2:=hb.cell 2;simp only[ciC,Ab,Ac] at c0 c1 c2;clear hb hbel hsz))
   refine(CA o a1).mono ?_
   rintro e' w2 ⟨rfl,rfl⟩
   rw[HN.out.1]
   cases ub
   ·have EE:=Ag (show R=false from by rw[E1.out,Bool.false_and])
    go_wp2_with fail
    go_ret
    exact⟨by rw[EE.out];rfl,H1.out.1⟩
   ·have E2:=Ag (show R=(rb && !ab) from by rw[E1.out,Bool.true_and])
    go_wp2_with fail
    refine(Jd vu us a1 (HU.out.below H1.out.1 (Ah _))).mono ?_
    rintro e' a2 ⟨rfl,hb⟩
    have H2:=hJ2 (An H1.out.1 hb (Ah _)) (H1.out.2.below hb H1.out.2.lt)
    replace c0:=(hb.cell (p:=⟨w.heap.size,0,none⟩) (Am c0)).trans c0;replace c1:=(hb.cell (p:=⟨w.heap.size,1,none⟩) (Am c1)).trans c1;replace c2:=(hb.cell (p:=⟨w.heap.size,2,none⟩) (Am c2)).trans c2;clear hb
    rw[HN.out.2.1]
    cases rb
    ·have EE:=Ag (show R=false from by rw[E2.out,Bool.false_and])
     go_wp2_with fail
     go_ret
     exact⟨by rw[EE.out];rfl,H2.out.1⟩
    ·have E3:=Ag (show R=!ab from by rw[E2.out,Bool.true_and])
     go_wp2_with fail
     refine(Em (fun u=> !AX u) 66 [] vu us a2 (HU.out.below H2.out.1 (Ah _)) Gr (fun x=> Ka x a2)).mono ?_
     rintro e' w3 ⟨rfl,rfl⟩
     rw[HN.out.2.2]
     go_wp2_with fail
     go_ret
     exact⟨by rw[E3.out];rfl,H2.out.1⟩
  ·have EE:=Ag (show R=false from by rw[E0.out,decide_eq_false q1,Bool.false_and])
   go_wp2_with (first
  | ((with_reducible refine Au w rfl 49 (.tmp 0) rfl (ciC n o vu) rfl ?_);intro a1 hb hbel hsz;have H1:=hJ2 (An H0.out hbel (Ah _)) hb;have c0:=hb.cell 0;have c1:=hb.cell 1;have c2:=hb.cell 2;simp only[ciC,Ab,Ac] at c0 c1 c2;clear hb hbel hsz))
   go_ret
   exact⟨by rw[EE.out];rfl,H1.out.1⟩
 ·have EE:=Ag (show R=false from by rw[HR.out,decide_eq_false q0,Bool.false_and])
  go_wp2_with (first
  | ((with_reducible refine Au w rfl 49 (.tmp 0) rfl (ciC n o vu) rfl ?_);intro a1 hb hbel hsz;have H1:=hJ2 (An H0.out hbel (Ah _)) hb;have c0:=hb.cell 0;have c1:=hb.cell 1;have c2:=hb.cell 2;simp only[ciC,Ab,Ac] at c0 c1 c2;clear hb hbel hsz))
  go_ret
  exact⟨by rw[EE.out];rfl,H1.out.1⟩
end Go.Proofs.YtgdlfiphihaooaaGreat

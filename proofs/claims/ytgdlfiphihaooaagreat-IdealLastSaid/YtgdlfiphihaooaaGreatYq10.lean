import Derived.Test.YtgdlfiphihaooaaGreatYq9
set_option linter.unusedSimpArgs false
set_option linter.unusedVariables false
set_option maxRecDepth 100000
set_option maxHeartbeats 8000000
open _root_.List renaming getElem?_toArray→Aa,getElem?_cons_zero→Ab,getElem?_cons_succ→Ac,setIfInBounds_toArray→Ad,set_cons_zero→Ae,set_cons_succ→Af
open _root_.Go.Lib renaming hid→Ag
open _root_.Nat renaming le_refl→Ah,le_trans→Aj,lt_of_lt_of_le→Ak
open _root_.And renaming intro→Ai
open _root_.Go.Act renaming put→Al
namespace Go.Proofs.YtgdlfiphihaooaaGreat
open Go Go.RowKit
structure FileM where
 nm:ByteArray
 p:PmD
 v:Int
 e:Int
 u:Int
 b:Tm
structure CirM where
 n:Int
 o:Int
 us:List Int
structure WrM where
 nm:ByteArray
 v:Int
 e:Int
 u:Int
 b:Tm
structure IdM where
 fs:List FileM
 cs:List CirM
 ws:List WrM
def RwC {α:Type} (C:World→List Value→α→Prop) (sz:Nat) (F:Nat→Prop) (w:World) (v:Value) (l:List α):Prop:=
 ∃ ao c,v=.slice ao l.length c∧l.length≤c∧c≤maxLen∧(0<l.length→∃ b o,ao=some ⟨b,o,none⟩∧F b∧b<w.heap.size∧∀ j (hj:j<l.length),∃ cs,cs.length=sz∧w.rangeAt b (o+j* sz) cs∧C w cs l[j])
theorem RwC.shape {α:Type} {C:World→List Value→α→Prop} {sz:Nat} {F:Nat→Prop} {w:World} {v:Value} {l:List α} (h:RwC C sz F w v l):∃ ao c,v=.slice ao l.length c∧l.length≤c∧c≤maxLen:=by
 obtain⟨ao,c,h1,h2,h3,-⟩:=h;exact⟨ao,c,h1,h2,h3⟩
theorem RwC.get {α:Type} {C:World→List Value→α→Prop} {sz:Nat} {F:Nat→Prop} {w:World} {ao:Option Addr} {n c:Nat} {l:List α} (h:RwC C sz F w (.slice ao n c) l) {j:Nat} (hj:j<l.length):∃ b o cs,ao=some ⟨b,o,none⟩∧F b∧b<w.heap.size∧cs.length=sz∧w.rangeAt b (o+j* sz) cs∧C w cs l[j]:=by
 obtain⟨ao',c',h1,h2,h3,h4⟩:=h
 obtain⟨rfl,-,-⟩:ao=ao'∧n=l.length∧c=c':=by simpa using h1
 obtain⟨b,o,rfl,hF,hb,ha⟩:=h4 (by omega)
 obtain⟨cs,h5,h6,h7⟩:=ha j hj
 exact⟨b,o,cs,rfl,hF,hb,h5,h6,h7⟩
theorem RwC.keep' {α:Type} {C C':World→List Value→α→Prop} {sz:Nat} {F G S:Nat→Prop} {w w':World} {v:Value} {l:List α} (h:RwC C sz F w v l) (hc:Ch S w w') (hS:∀ k,F k→¬ S k) (hG:∀ k,F k→G k) (hC:∀ cs,∀ a∈l,C w cs a→C' w' cs a):RwC C' sz G w' v l:=by
 obtain⟨ao,c,h1,h2,h3,h4⟩:=h
 refine⟨ao,c,h1,h2,h3,fun h0=> ?_⟩
 obtain⟨b,o,e,hF,hb,ha⟩:=h4 h0
 refine⟨b,o,e,hG b hF,Ak hb hc.size,fun j hj=> ?_⟩
 obtain⟨cs,h5,h6,h7⟩:=ha j hj
 exact⟨cs,h5,BJ h6 hc (hS b hF),hC cs _ (List.getElem_mem hj) h7⟩
theorem RwC.nil {α:Type} (C:World→List Value→α→Prop) (sz:Nat) (F:Nat→Prop) (w:World):RwC C sz F w (.slice none 0 0) ([]:List α):=⟨none,0,rfl,Ah _,by unfold maxLen;omega,fun h=> absurd h (by simp)⟩
def SlI (F:Nat→Prop) (w:World) (v:Value) (l:List Int):Prop:=Sl w v (ofK .i64 l)∧∀ k,0<l.length→v.ownBlock=some k→F k
theorem Sl.keep0 {S:Nat→Prop} {w w':World} {v:Value} {xs:List Value} (h:Sl w v xs) (hc:Ch S w w') (hv:0<xs.length→∀ k,v.ownBlock=some k→¬ S k):Sl w' v xs:=by
 rcases h with h|⟨ad,c,k1,k2,k3,k4⟩
 ·exact .inl h
 ·refine .inr ⟨ad,c,k1,k2,k3,fun i u hu=> ?_⟩
  have hcc:=k4 i u hu
  have hlt:=Am hcc
  rw[C9] at hlt
  have h0:0<xs.length:=by
   cases xs with
   | nil=> simp at hu
   | cons=> simp
  rw[hc.cell (by rw[C9];exact hlt) (by rw[C9];exact hv h0 _ (by rw[k1];rfl))];exact hcc
theorem SlI.keep' {F G S:Nat→Prop} {w w':World} {v:Value} {l:List Int} (h:SlI F w v l) (hc:Ch S w w') (hS:∀ k,F k→¬ S k) (hG:∀ k,F k→G k):SlI G w' v l:=
 ⟨h.1.keep0 hc (fun h0 k hk=> hS k (h.2 k (by rwa [AJ] at h0) hk)),fun k h0 hk=> hG k (h.2 k h0 hk)⟩
theorem SlI.nil (F:Nat→Prop) (w:World):SlI F w (.slice none 0 0) []:=⟨Sl.nil w,fun k h=> absurd h (by simp)⟩
def PmF (F:Nat→Prop) (w:World) (p:PmD) (vr vq vg:Value):Prop:=SlI F w vr p.r∧SlI F w vq p.q∧SlI F w vg p.g
theorem PmF.s {F:Nat→Prop} {w:World} {p:PmD} {vr vq vg:Value} (h:PmF F w p vr vq vg):PmS w p vr vq vg:=⟨h.1.1,h.2.1.1,h.2.2.1⟩
theorem PmF.keep' {F G S:Nat→Prop} {w w':World} {p:PmD} {vr vq vg:Value} (h:PmF F w p vr vq vg) (hc:Ch S w w') (hS:∀ k,F k→¬ S k) (hG:∀ k,F k→G k):PmF G w' p vr vq vg:=
 ⟨h.1.keep' hc hS hG,h.2.1.keep' hc hS hG,h.2.2.keep' hc hS hG⟩
def flC (nm:ByteArray) (o pe:Int) (vr vq vg:Value) (v e u:Int) (tc:List Value):List Value:=.string nm::.int .i64 o::.int .i64 pe::vr::vq::vg::.int .i64 v::.int .i64 e::.int .i64 u::tc
def wrC (nm:ByteArray) (v e u:Int) (tc:List Value):List Value:=.string nm::.int .i64 v::.int .i64 e::.int .i64 u::tc
def ciC (n o:Int) (vu:Value):List Value:=[.int .i64 n,.int .i64 o,vu]
def FlC (F:Nat→Prop) (w:World) (cs:List Value) (f:FileM):Prop:=∃ vr vq vg tc,cs=flC f.nm f.p.o f.p.e vr vq vg f.v f.e f.u tc∧PmF F w f.p vr vq vg∧TmC F w tc f.b
def CiC (F:Nat→Prop) (w:World) (cs:List Value) (c:CirM):Prop:=∃ vu,cs=ciC c.n c.o vu∧SlI F w vu c.us
def WrC (F:Nat→Prop) (w:World) (cs:List Value) (x:WrM):Prop:=∃ tc,cs=wrC x.nm x.v x.e x.u tc∧TmC F w tc x.b
theorem FlC.keep' {F G S:Nat→Prop} {w w':World} {cs:List Value} {f:FileM} (h:FlC F w cs f) (hc:Ch S w w') (hS:∀ k,F k→¬ S k) (hG:∀ k,F k→G k):FlC G w' cs f:=by
 obtain⟨vr,vq,vg,tc,h1,h2,h3⟩:=h
 exact⟨vr,vq,vg,tc,h1,h2.keep' hc hS hG,TmC.keep' hc hS hG _ _ h3⟩
theorem CiC.keep' {F G S:Nat→Prop} {w w':World} {cs:List Value} {f:CirM} (h:CiC F w cs f) (hc:Ch S w w') (hS:∀ k,F k→¬ S k) (hG:∀ k,F k→G k):CiC G w' cs f:=by
 obtain⟨vu,h1,h2⟩:=h
 exact⟨vu,h1,h2.keep' hc hS hG⟩
theorem WrC.keep' {F G S:Nat→Prop} {w w':World} {cs:List Value} {f:WrM} (h:WrC F w cs f) (hc:Ch S w w') (hS:∀ k,F k→¬ S k) (hG:∀ k,F k→G k):WrC G w' cs f:=by
 obtain⟨tc,h1,h2⟩:=h
 exact⟨tc,h1,TmC.keep' hc hS hG _ _ h2⟩
theorem FlC.len {F:Nat→Prop} {w:World} {cs:List Value} {f:FileM} (h:FlC F w cs f):cs.length=14:=by
 obtain⟨vr,vq,vg,tc,rfl,-,h3⟩:=h
 simp[flC,h3.len]
theorem CiC.len {F:Nat→Prop} {w:World} {cs:List Value} {f:CirM} (h:CiC F w cs f):cs.length=3:=by
 obtain⟨vu,rfl,-⟩:=h
 rfl
theorem WrC.len {F:Nat→Prop} {w:World} {cs:List Value} {f:WrM} (h:WrC F w cs f):cs.length=9:=by
 obtain⟨tc,rfl,h3⟩:=h
 simp[wrC,h3.len]
theorem TmC.one {F:Nat→Prop} {w:World} {cs:List Value} {t:Tm} (h:TmC F w cs t):∀ v∈cs,v.oneCell'=true:=by
 obtain⟨ao,c,rfl,-⟩:=h.shape
 exact AS _ _ _ _ _ _ _
theorem SlI.one {F:Nat→Prop} {w:World} {v:Value} {l:List Int} (h:SlI F w v l):v.oneCell'=true:=by
 obtain⟨ao,c,rfl,-⟩:=h.1.nums
 rfl
theorem FlC.one {F:Nat→Prop} {w:World} {cs:List Value} {f:FileM} (h:FlC F w cs f):∀ v∈cs,v.oneCell'=true:=by
 obtain⟨vr,vq,vg,tc,rfl,h2,h3⟩:=h
 intro v hv
 simp only[flC,List.mem_cons] at hv
 rcases hv with rfl|rfl|rfl|rfl|rfl|rfl|rfl|rfl|rfl|hv
 ·rfl
 ·rfl
 ·rfl
 ·exact h2.1.one
 ·exact h2.2.1.one
 ·exact h2.2.2.one
 ·rfl
 ·rfl
 ·rfl
 ·exact h3.one v hv
theorem CiC.one {F:Nat→Prop} {w:World} {cs:List Value} {f:CirM} (h:CiC F w cs f):∀ v∈cs,v.oneCell'=true:=by
 obtain⟨vu,rfl,h2⟩:=h
 intro v hv
 simp only[ciC,List.mem_cons,List.not_mem_nil,or_false] at hv
 rcases hv with rfl|rfl|rfl
 ·rfl
 ·rfl
 ·exact h2.one
theorem WrC.one {F:Nat→Prop} {w:World} {cs:List Value} {f:WrM} (h:WrC F w cs f):∀ v∈cs,v.oneCell'=true:=by
 obtain⟨tc,rfl,h3⟩:=h
 intro v hv
 simp only[wrC,List.mem_cons] at hv
 rcases hv with rfl|rfl|rfl|rfl|hv
 ·rfl
 ·rfl
 ·rfl
 ·rfl
 ·exact h3.one v hv
def IdC (F:Nat→Prop) (w:World) (cs:List Value) (s:IdM):Prop:=∃ vf vc vw,cs=[vf,vc,vw]∧RwC (FlC F) 14 F w vf s.fs∧RwC (CiC F) 3 F w vc s.cs∧RwC (WrC F) 9 F w vw s.ws
def RwF (F:Nat→Prop):=RwC (FlC F) 14 F
def RwI (F:Nat→Prop):=RwC (CiC F) 3 F
def RwW (F:Nat→Prop):=RwC (WrC F) 9 F
theorem RwF.keep' {F G S:Nat→Prop} {w w':World} {v:Value} {l:List FileM} (h:RwF F w v l) (hc:Ch S w w') (hS:∀ k,F k→¬ S k) (hG:∀ k,F k→G k):RwF G w' v l:=RwC.keep' (C:=FlC F) (C':=FlC G) h hc hS hG fun cs a _ h=> h.keep' hc hS hG
theorem RwI.keep' {F G S:Nat→Prop} {w w':World} {v:Value} {l:List CirM} (h:RwI F w v l) (hc:Ch S w w') (hS:∀ k,F k→¬ S k) (hG:∀ k,F k→G k):RwI G w' v l:=RwC.keep' (C:=CiC F) (C':=CiC G) h hc hS hG fun cs a _ h=> h.keep' hc hS hG
theorem RwW.keep' {F G S:Nat→Prop} {w w':World} {v:Value} {l:List WrM} (h:RwW F w v l) (hc:Ch S w w') (hS:∀ k,F k→¬ S k) (hG:∀ k,F k→G k):RwW G w' v l:=RwC.keep' (C:=WrC F) (C':=WrC G) h hc hS hG fun cs a _ h=> h.keep' hc hS hG
theorem IdC.keep' {F G S:Nat→Prop} {w w':World} {cs:List Value} {s:IdM} (h:IdC F w cs s) (hc:Ch S w w') (hS:∀ k,F k→¬ S k) (hG:∀ k,F k→G k):IdC G w' cs s:=by
 obtain⟨vf,vc,vw,h1,h2,h3,h4⟩:=h
 exact⟨vf,vc,vw,h1,RwF.keep' h2 hc hS hG,RwI.keep' h3 hc hS hG,RwW.keep' h4 hc hS hG⟩
theorem Hj (F:Nat→Prop):∀ k,F k→¬ (fun _:Nat=> False) k:=fun _ _ h=> h
theorem idf (F:Nat→Prop):∀ k,F k→F k:=fun _ h=> h
theorem FlC.below {F:Nat→Prop} {w w':World} {cs:List Value} {f:FileM} (h:FlC F w cs f) (hb:Below w.heap.size w w'):FlC F w' cs f:=h.keep' (Ch.of_below (S:=fun _=> False) hb (Ah _)) (Hj F) (idf F)
theorem CiC.below {F:Nat→Prop} {w w':World} {cs:List Value} {f:CirM} (h:CiC F w cs f) (hb:Below w.heap.size w w'):CiC F w' cs f:=h.keep' (Ch.of_below (S:=fun _=> False) hb (Ah _)) (Hj F) (idf F)
theorem WrC.below {F:Nat→Prop} {w w':World} {cs:List Value} {f:WrM} (h:WrC F w cs f) (hb:Below w.heap.size w w'):WrC F w' cs f:=h.keep' (Ch.of_below (S:=fun _=> False) hb (Ah _)) (Hj F) (idf F)
theorem RwF.below {F:Nat→Prop} {w w':World} {v:Value} {l:List FileM} (h:RwF F w v l) (hb:Below w.heap.size w w'):RwF F w' v l:=h.keep' (Ch.of_below (S:=fun _=> False) hb (Ah _)) (Hj F) (idf F)
theorem RwI.below {F:Nat→Prop} {w w':World} {v:Value} {l:List CirM} (h:RwI F w v l) (hb:Below w.heap.size w w'):RwI F w' v l:=h.keep' (Ch.of_below (S:=fun _=> False) hb (Ah _)) (Hj F) (idf F)
theorem IdC.below {F:Nat→Prop} {w w':World} {cs:List Value} {s:IdM} (h:IdC F w cs s) (hb:Below w.heap.size w w'):IdC F w' cs s:=h.keep' (Ch.of_below (S:=fun _=> False) hb (Ah _)) (Hj F) (idf F)
theorem SlI.below {F:Nat→Prop} {w w':World} {v:Value} {l:List Int} (h:SlI F w v l) (hb:Below w.heap.size w w'):SlI F w' v l:=h.keep' (Ch.of_below (S:=fun _=> False) hb (Ah _)) (Hj F) (idf F)
theorem PmF.below {F:Nat→Prop} {w w':World} {p:PmD} {vr vq vg:Value} (h:PmF F w p vr vq vg) (hb:Below w.heap.size w w'):PmF F w' p vr vq vg:=h.keep' (Ch.of_below (S:=fun _=> False) hb (Ah _)) (Hj F) (idf F)
theorem IdC.one {F:Nat→Prop} {w:World} {cs:List Value} {s:IdM} (h:IdC F w cs s):∀ v∈cs,v.oneCell'=true:=by
 obtain⟨vf,vc,vw,rfl,h2,h3,h4⟩:=h
 obtain⟨_,_,rfl,-⟩:=h2.shape
 obtain⟨_,_,rfl,-⟩:=h3.shape
 obtain⟨_,_,rfl,-⟩:=h4.shape
 intro v hv
 simp only[List.mem_cons,List.not_mem_nil,or_false] at hv
 rcases hv with rfl|rfl|rfl <;> rfl
theorem Tryz.infoFl:(Tryz.prog.info? 45).map (·.size)=some 14:=by kernel_rfl
theorem Tryz.infoCi:(Tryz.prog.info? 49).map (·.size)=some 3:=by kernel_rfl
theorem Tryz.infoWr:(Tryz.prog.info? 56).map (·.size)=some 9:=by kernel_rfl
theorem Tryz.infoId:(Tryz.prog.info? 26).map (·.size)=some 3:=by kernel_rfl
theorem At {P:Program} {t:TypeId} {n:Nat} {cs:List Value} (h:(P.info? t).map (·.size)=some n) (hl:cs.length=n):(P.info? t).map (·.size)=some cs.length:=by rw[hl];exact h
def GR {α:Type} (P:α→Bool):List α→Nat→Int
 | [],_=> -1
 | x::t,i=> if P x=true then (i:Int) else GR P t (i+1)
theorem Ih {α:Type} (P:α→Bool):∀ (l:List α) (i:Nat),decide (0≤GR P l i)=l.any P
 | [],i=> rfl
 | x::t,i=> by
  unfold GR
  rw[List.any_cons]
  by_cases h:P x=true
  ·rw[if_pos h,h,decide_eq_true (by omega)];rfl
  ·rw[if_neg h,Ih P t,Bool.eq_false_iff.2 h];rfl
theorem J7 {α:Type} (P:α→Bool) (l:List α) (k:Nat) (h:k<l.length):GR P (l.drop k) k=if P l[k]=true then (k:Int) else GR P (l.drop (k+1)) (k+1):=by
 rw[List.drop_eq_getElem_cons h];rfl
theorem Ja (P:Tm→Bool) (gf:Nat) (v:Value) (l:List Tm) (F:Nat→Prop) (w:World) (hv:SlT F w v l)
  (hcf:∀ args w1,Sem.run Tryz.prog (callFunc gf args) w1=.ok (.enter gf args) w1) (hst:∀ t∈l,∀ cs w',TmC F w' cs t→Calls Tryz.prog gf #[.agg cs.toArray] w' (fun e w''=> e=.returned (.bool (P t))∧Below w'.heap.size w' w'')):
  Calls Tryz.prog 123 #[v,.func (.func gf) #[] #[]] w (fun e w'=> e=.returned (.int .i64 (GR P l 0))∧Below w.heap.size w w'):=by
 obtain⟨ao,c,rfl,a2,a3,-⟩:=id hv
 have H:=Ag (Ai hv hst)
 have HD:=Ag (J7 P l)
 obtain⟨L,hL⟩:∃ L,l.length=L:=⟨_,rfl⟩
 obtain⟨R,hR⟩:∃ R,GR P l 0=R:=⟨_,rfl⟩
 have HL:=Ag (Ai hL hR)
 have hl63:L≤9223372036854775807:=by unfold maxLen at a3;omega
 rw[hL] at H a2 ⊢
 rw[hR]
 have hcf':=hcf
 clear hv hL hR hst a2 a3
 go_enter Tryz.func123,Tryz.ntmps123
 go_wp2_with fail
 go_loopw [5,8] (fun u5 i wr=> ∃ k:Nat,k≤L∧i=.int .i64 k∧Hid (GR P (l.drop k) k=R)∧Hid (Below w.heap.size w wr)) (fun _ i _=> L - (intOf i).toNat)
 case atStart=> exact⟨0,Nat.zero_le _,rfl,Ag HL.out.2,Ag (Below.refl _ _)⟩
 case round=>
  obtain⟨k,hk,rfl,HT,HW⟩:=hrel
  by_cases hlt:k<L
  ·have hkl:k<l.length:=by rw[HL.out.1];exact hlt
   have hklz:(k:Int)<(L:Int):=by omega
   have hk0:(0:Int)≤(k:Int):=by omega
   obtain⟨b,o,cs,rfl,-,-,hra,hta⟩:=H.out.1.get hkl
   have hlen:=hta.len
   have hd:=HD.out k hkl
   rw[HT.out] at hd
   have HMEM:=Ag (List.getElem_mem hkl)
   generalize l[k]=y at hta hd HMEM
   obtain⟨py,hpy⟩:∃ b,P y=b:=⟨_,rfl⟩
   rw[hpy] at hd
   have HC:=Ag (H.out.2 y HMEM.out cs wr (hta.below HW.out))
   rw[hpy] at HC
   have HRA:=Ag (Ai (AF hra HW.out) hlen)
   clear hpy hra hta hlen
   have HDD:=Ag hd
   clear hd hkl
   go_wp2_with (first
  | (with_reducible refine Ap rfl 29 (.tmp 14) rfl b (o+k* 5) rfl cs _ (HRA.out.1) Tryz.underlying29 rfl (At Tryz.infoTm HRA.out.2) ?_))
   refine HC.out.mono ?_
   rintro e w' ⟨rfl,hb⟩
   have HW2:=Ag (An HW.out hb (Ah _))
   clear hb
   cases py
   ·have HA:=Ag (show GR P (l.drop (k+1)) (k+1)=R by rw[HDD.out,if_neg (by simp)])
    go_wp2_with fail
    go_roundw
    case rel=> exact⟨k+1,by omega,by go_num,HA,HW2⟩
    case measure=> simp[intOf];omega
   ·have HA:=Ag (show R=(k:Int) by rw[HDD.out,if_pos rfl])
    go_wp2_with fail
    go_ret
    exact⟨by rw[HA.out];rfl,HW2.out⟩
  ·have hge:¬ (k:Int)<(L:Int):=by omega
   have HRR:=Ag (show R= -1 from by rw[←HT.out,List.drop_of_length_le (by rw[HL.out.1];omega)];rfl)
   go_wp2_with fail
   go_ret
   exact⟨by rw[HRR.out];rfl,HW.out⟩
theorem Cj (P:Tm→Bool) (gf:Nat) (v:Value) (l:List Tm) (F:Nat→Prop) (w:World) (hv:SlT F w v l)
  (hcf:∀ args w1,Sem.run Tryz.prog (callFunc gf args) w1=.ok (.enter gf args) w1) (hst:∀ t∈l,∀ cs w',TmC F w' cs t→Calls Tryz.prog gf #[.agg cs.toArray] w' (fun e w''=> e=.returned (.bool (P t))∧Below w'.heap.size w' w'')):
  Calls Tryz.prog 103 #[v,.func (.func gf) #[] #[]] w (fun e w'=> e=.returned (.bool (l.any P))∧Below w.heap.size w w'):=by
 have H:=Ag (Ja P gf v l F w hv hcf hst)
 have hA:=Ih P l 0
 generalize l.any P=b at hA ⊢
 generalize GR P l 0=r at hA H
 clear hv hst hcf
 cases b
 ·have hr:decide (0≤r)=false:=hA
  have hr2:¬ 0≤r:=by simpa using hr
  clear hA
  go_enter Tryz.func103,Tryz.ntmps103
  go_wp2_with fail
  refine H.out.mono ?_
  rintro e w' ⟨rfl,hb⟩
  have HB:=Ag hb
  clear hb
  go_wp2_with fail
  go_ret
  exact⟨rfl,HB.out⟩
 ·have hr:decide (0≤r)=true:=hA
  have hr2:0≤r:=by simpa using hr
  clear hA
  go_enter Tryz.func103,Tryz.ntmps103
  go_wp2_with fail
  refine H.out.mono ?_
  rintro e w' ⟨rfl,hb⟩
  have HB:=Ag hb
  clear hb
  go_wp2_with fail
  go_ret
  exact⟨rfl,HB.out⟩
def okK (k n:Int):Bool:=(k==1 ||(k==4 ||(k==5 ||k==6))) ||(k==2 && decide (40000≤n))
mutual
def D4:Tm→Bool
 | .mk k u n s ks=> okK k n && J8 ks
def J8:List Tm→Bool
 | []=> true
 | x::xs=> D4 x && J8 xs
end
theorem LB (k u n:Int) (s:ByteArray) (ks:List Tm):D4 (.mk k u n s ks)=(okK k n && J8 ks):=by rw[D4]
theorem Ii:∀ l:List Tm,J8 l=!(l.any fun t=> !D4 t)
 | []=> by rw[J8];rfl
 | x::xs=> by rw[J8,Ii xs,List.any_cons];cases D4 x <;> simp
theorem B3 (args:Array Value) (w:World):Sem.run Tryz.prog (callFunc 104 args) w=.ok (.enter 104 args) w:=
 AP Tryz.func104 (by kernel_rfl) (by kernel_rfl) args w
theorem LC (t:Tm) (cs:List Value) (F:Nat→Prop) (w:World) (ht:TmC F w cs t)
  (ih:∀ w',TmC F w' cs t→Calls Tryz.prog 85 #[.agg cs.toArray] w' (fun e w''=> e=.returned (.bool (D4 t))∧Below w'.heap.size w' w'')):
  Calls Tryz.prog 104 #[.agg cs.toArray] w (fun e w'=> e=.returned (.bool (!D4 t))∧Below w.heap.size w w'):=by
 have hlen:=ht.len
 have HT:=Ag (Ai ht hlen)
 have IH:=Ag ih
 clear ht hlen ih
 generalize D4 t=r at IH ⊢
 have H0:=Ag (Below.refl w.heap.size w)
 go_enter Tryz.func104,Tryz.ntmps104
 go_wp2_with (first
  | ((with_reducible refine Au w rfl 29 (.tmp 0) rfl (cs) rfl ?_);intro a1 hb hbel hsz;have H1:=hJ2 (An H0.out hbel (Ah _)) hb;clear hb hbel hsz)
  | (with_reducible refine Ap rfl 29 (.tmp 1) rfl w.heap.size 0 rfl cs _ (As H1.out.2) Tryz.underlying29 rfl (At Tryz.infoTm HT.out.2) ?_))
 refine(IH.out a1 (HT.out.1.below H1.out.1)).mono ?_
 rintro e w' ⟨rfl,hb⟩
 have HB:=Ag (An H1.out.1 hb (Ah _))
 clear hb
 go_wp2_with fail
 go_ret
 exact⟨rfl,HB.out⟩
theorem LD:∀ (t:Tm) (cs:List Value) (F:Nat→Prop) (w:World),TmC F w cs t→Calls Tryz.prog 85 #[.agg cs.toArray] w (fun e w'=> e=.returned (.bool (D4 t))∧Below w.heap.size w w'):=by
 refine Tm.ind fun k u n s ks ih cs F w ht=> ?_
 obtain⟨ao,c,rfl,-,-,hsl⟩:=ht.shape
 have HSL:=Ag (show SlT F w (.slice ao ks.length c) ks from hsl)
 show Calls Tryz.prog 85 #[.agg (tmC k u n s (.slice ao ks.length c)).toArray] w _
 rw[LB,Ii]
 have HIH:=Ag (show ∀ t∈ks,∀ cs w',TmC F w' cs t→Calls Tryz.prog 104 #[.agg cs.toArray] w' (fun e w''=> e=.returned (.bool (!D4 t))∧Below w'.heap.size w' w'') from fun t ht cs w' h=> LC t cs F w' h (fun w'' h2=> ih t ht cs F w'' h2))
 obtain⟨nk,hnk⟩:∃ b,(ks.any fun t=> !D4 t)=b:=⟨_,rfl⟩
 have HNK:=Ag hnk
 rw[hnk]
 clear ht hsl ih hnk
 generalize hl:ks.length=l at HSL ⊢
 clear hl
 have H0:=Ag (Below.refl w.heap.size w)
 have fin:∀ b,okK k n=b→Calls Tryz.prog 85 #[.agg (tmC k u n s (.slice ao l c)).toArray] w (fun e w'=> e=.returned (.bool (b && !nk))∧Below w.heap.size w w'):=by
  intro b hb
  have HOK:=Ag hb
  clear hb
  rcases (show k=1∨k=4∨k=5∨k=6∨k=2∨(k≠1∧k≠4∧k≠5∧k≠6∧k≠2) by omega) with hk|hk|hk|hk|hk|⟨h1,h4,h5,h6,h2⟩
  ·have hbt:b=true:=by rw[←HOK.out,hk];rfl
   subst hbt
   have e1:(k==1)=true:=by rw[hk];rfl
   have e4:(k==4)=false:=by rw[hk];rfl
   have e5:(k==5)=false:=by rw[hk];rfl
   have e6:(k==6)=false:=by rw[hk];rfl
   have e2:(k==2)=false:=by rw[hk];rfl
   clear hk
   go_enter Tryz.func85,Tryz.ntmps85
   go_wp2_with ((with_reducible refine Au w rfl 29 (.tmp 0) rfl (tmC k u n s (.slice ao l c)) rfl ?_);intro a1 hb hbel hsz;have H1:=hJ2 (An H0.out hbel (Ah _)) hb;have c0:=hb.cell 0;have c2:=hb.cell 2;have c4:=hb.cell 4;simp only[tmC,Ab,Ac] at c0 c2 c4;clear hb hbel hsz)
   have hx:=Cj (fun t=> !D4 t) 104 _ ks F a1 (HSL.out.below H1.out.1) B3 HIH.out
   rw[HNK.out] at hx
   refine Calls.mono hx ?_
   clear hx
   rintro e' a2 ⟨rfl,hb⟩
   have HB:=Ag (An H1.out.1 hb (Ah _))
   clear hb
   go_wp2_with fail
   go_ret
   exact⟨by cases nk <;> rfl,HB.out⟩
  ·have hbt:b=true:=by rw[←HOK.out,hk];rfl
   subst hbt
   have e1:(k==1)=false:=by rw[hk];rfl
   have e4:(k==4)=true:=by rw[hk];rfl
   have e5:(k==5)=false:=by rw[hk];rfl
   have e6:(k==6)=false:=by rw[hk];rfl
   have e2:(k==2)=false:=by rw[hk];rfl
   clear hk
   go_enter Tryz.func85,Tryz.ntmps85
   go_wp2_with ((with_reducible refine Au w rfl 29 (.tmp 0) rfl (tmC k u n s (.slice ao l c)) rfl ?_);intro a1 hb hbel hsz;have H1:=hJ2 (An H0.out hbel (Ah _)) hb;have c0:=hb.cell 0;have c2:=hb.cell 2;have c4:=hb.cell 4;simp only[tmC,Ab,Ac] at c0 c2 c4;clear hb hbel hsz)
   have hx:=Cj (fun t=> !D4 t) 104 _ ks F a1 (HSL.out.below H1.out.1) B3 HIH.out
   rw[HNK.out] at hx
   refine Calls.mono hx ?_
   clear hx
   rintro e' a2 ⟨rfl,hb⟩
   have HB:=Ag (An H1.out.1 hb (Ah _))
   clear hb
   go_wp2_with fail
   go_ret
   exact⟨by cases nk <;> rfl,HB.out⟩
  ·have hbt:b=true:=by rw[←HOK.out,hk];rfl
   subst hbt
   have e1:(k==1)=false:=by rw[hk];rfl
   have e4:(k==4)=false:=by rw[hk];rfl
   have e5:(k==5)=true:=by rw[hk];rfl
   have e6:(k==6)=false:=by rw[hk];rfl
   have e2:(k==2)=false:=by rw[hk];rfl
   clear hk
   go_enter Tryz.func85,Tryz.ntmps85
   go_wp2_with ((with_reducible refine Au w rfl 29 (.tmp 0) rfl (tmC k u n s (.slice ao l c)) rfl ?_);intro a1 hb hbel hsz;have H1:=hJ2 (An H0.out hbel (Ah _)) hb;have c0:=hb.cell 0;have c2:=hb.cell 2;have c4:=hb.cell 4;simp only[tmC,Ab,Ac] at c0 c2 c4;clear hb hbel hsz)
   have hx:=Cj (fun t=> !D4 t) 104 _ ks F a1 (HSL.out.below H1.out.1) B3 HIH.out
   rw[HNK.out] at hx
   refine Calls.mono hx ?_
   clear hx
   rintro e' a2 ⟨rfl,hb⟩
   have HB:=Ag (An H1.out.1 hb (Ah _))
   clear hb
   go_wp2_with fail
   go_ret
   exact⟨by cases nk <;> rfl,HB.out⟩
  ·have hbt:b=true:=by rw[←HOK.out,hk];rfl
   subst hbt
   have e1:(k==1)=false:=by rw[hk];rfl
   have e4:(k==4)=false:=by rw[hk];rfl
   have e5:(k==5)=false:=by rw[hk];rfl
   have e6:(k==6)=true:=by rw[hk];rfl
   have e2:(k==2)=false:=by rw[hk];rfl
   clear hk
   go_enter Tryz.func85,Tryz.ntmps85
   go_wp2_with ((with_reducible refine Au w rfl 29 (.tmp 0) rfl (tmC k u n s (.slice ao l c)) rfl ?_);intro a1 hb hbel hsz;have H1:=hJ2 (An H0.out hbel (Ah _)) hb;have c0:=hb.cell 0;have c2:=hb.cell 2;have c4:=hb.cell 4;simp only[tmC,Ab,Ac] at c0 c2 c4;clear hb hbel hsz)
   have hx:=Cj (fun t=> !D4 t) 104 _ ks F a1 (HSL.out.below H1.out.1) B3 HIH.out
   rw[HNK.out] at hx
   refine Calls.mono hx ?_
   clear hx
   rintro e' a2 ⟨rfl,hb⟩
   have HB:=Ag (An H1.out.1 hb (Ah _))
   clear hb
   go_wp2_with fail
   go_ret
   exact⟨by cases nk <;> rfl,HB.out⟩
  ·by_cases h4:40000≤n
   ·have hbt:b=true:=by rw[←HOK.out,hk];unfold okK;simp[h4]
    subst hbt
    have e1:(k==1)=false:=by rw[hk];rfl
    have e4:(k==4)=false:=by rw[hk];rfl
    have e5:(k==5)=false:=by rw[hk];rfl
    have e6:(k==6)=false:=by rw[hk];rfl
    have e2:(k==2)=true:=by rw[hk];rfl
    clear hk
    go_enter Tryz.func85,Tryz.ntmps85
    go_wp2_with ((with_reducible refine Au w rfl 29 (.tmp 0) rfl (tmC k u n s (.slice ao l c)) rfl ?_);intro a1 hb hbel hsz;have H1:=hJ2 (An H0.out hbel (Ah _)) hb;have c0:=hb.cell 0;have c2:=hb.cell 2;have c4:=hb.cell 4;simp only[tmC,Ab,Ac] at c0 c2 c4;clear hb hbel hsz)
    have hx:=Cj (fun t=> !D4 t) 104 _ ks F a1 (HSL.out.below H1.out.1) B3 HIH.out
    rw[HNK.out] at hx
    refine Calls.mono hx ?_
    clear hx
    rintro e' a2 ⟨rfl,hb⟩
    have HB:=Ag (An H1.out.1 hb (Ah _))
    clear hb
    go_wp2_with fail
    go_ret
    exact⟨by cases nk <;> rfl,HB.out⟩
   ·have hbt:b=false:=by rw[←HOK.out,hk];unfold okK;simp[h4]
    subst hbt
    have e1:(k==1)=false:=by rw[hk];rfl
    have e4:(k==4)=false:=by rw[hk];rfl
    have e5:(k==5)=false:=by rw[hk];rfl
    have e6:(k==6)=false:=by rw[hk];rfl
    have e2:(k==2)=true:=by rw[hk];rfl
    clear hk
    go_enter Tryz.func85,Tryz.ntmps85
    go_wp2_with ((with_reducible refine Au w rfl 29 (.tmp 0) rfl (tmC k u n s (.slice ao l c)) rfl ?_);intro a1 hb hbel hsz;have H1:=hJ2 (An H0.out hbel (Ah _)) hb;have c0:=hb.cell 0;have c2:=hb.cell 2;have c4:=hb.cell 4;simp only[tmC,Ab,Ac] at c0 c2 c4;clear hb hbel hsz)
    go_ret
    exact⟨rfl,H1.out.1⟩
  ·have e1:(k==1)=false:=by simpa using h1
   have e4:(k==4)=false:=by simpa using h4
   have e5:(k==5)=false:=by simpa using h5
   have e6:(k==6)=false:=by simpa using h6
   have e2:(k==2)=false:=by simpa using h2
   have hbt:b=false:=by rw[←HOK.out];unfold okK;simp[e1,e2,e4,e5,e6]
   subst hbt
   clear h1 h2 h4 h5 h6
   go_enter Tryz.func85,Tryz.ntmps85
   go_wp2_with ((with_reducible refine Au w rfl 29 (.tmp 0) rfl (tmC k u n s (.slice ao l c)) rfl ?_);intro a1 hb hbel hsz;have H1:=hJ2 (An H0.out hbel (Ah _)) hb;have c0:=hb.cell 0;have c2:=hb.cell 2;have c4:=hb.cell 4;simp only[tmC,Ab,Ac] at c0 c2 c4;clear hb hbel hsz)
   go_ret
   exact⟨rfl,H1.out.1⟩
 exact fin _ rfl
def Dg (t:Tm):Bool:=decide (D5 t=0) && (decide (DX t≤40) && D4 t)
theorem Ij (t:Tm) (cs:List Value) (F:Nat→Prop) (w:World) (ht:TmC F w cs t):
  Calls Tryz.prog 68 #[.agg cs.toArray] w (fun e w'=> e=.returned (.bool (Dg t))∧Below w.heap.size w w'):=by
 have hlen:=ht.len
 have HT:=Ag (Ai ht hlen)
 obtain⟨R,hR⟩:∃ R,Dg t=R:=⟨_,rfl⟩
 rw[hR]
 obtain⟨x,hx⟩:∃ x,D5 t=x:=⟨_,rfl⟩
 obtain⟨y,hy⟩:∃ y,DX t=y:=⟨_,rfl⟩
 obtain⟨z,hz⟩:∃ z,D4 t=z:=⟨_,rfl⟩
 have HXYZ:=Ag (Ai hx (Ai hy hz))
 have HR:=Ag (show R=(decide (x=0) && (decide (y≤40) && z)) from by rw[←hR,←hx,←hy,←hz];rfl)
 clear ht hlen hR hx hy hz
 have H0:=Ag (Below.refl w.heap.size w)
 go_enter Tryz.func68,Tryz.ntmps68
 go_wp2_with (first
  | ((with_reducible refine Au w rfl 29 (.tmp 0) rfl (cs) rfl ?_);intro a1 hb hbel hsz;have H1:=hJ2 (An H0.out hbel (Ah _)) hb;clear hb hbel hsz)
  | (with_reducible refine Ap rfl 29 (.tmp 1) rfl w.heap.size 0 rfl cs _ (As H1.out.2) Tryz.underlying29 rfl (At Tryz.infoTm HT.out.2) ?_))
 refine Calls.mono (IT t _ F a1 (HT.out.1.below H1.out.1)) ?_
 rintro e' a2 ⟨rfl,hb⟩
 have H2:=hJ2 (An H1.out.1 hb (Ah _)) (H1.out.2.below hb H1.out.2.lt)
 clear hb
 rw[HXYZ.out.1]
 by_cases h0:x=0
 ·have HE:=Ag (show R=(decide (y≤40) && z) from by rw[HR.out,decide_eq_true h0,Bool.true_and])
  subst h0
  go_wp2_with (first
  | (with_reducible refine Ap rfl 29 (.tmp 1) rfl w.heap.size 0 rfl cs _ (As H2.out.2) Tryz.underlying29 rfl (At Tryz.infoTm HT.out.2) ?_))
  refine Calls.mono (Ky t _ F a2 (HT.out.1.below H2.out.1)) ?_
  rintro e' a3 ⟨rfl,hb⟩
  have H3:=hJ2 (An H2.out.1 hb (Ah _)) (H2.out.2.below hb H2.out.2.lt)
  clear hb
  rw[HXYZ.out.2.1]
  by_cases h1:y≤40
  ·have HF:=Ag (show R=z from by rw[HE.out,decide_eq_true h1,Bool.true_and])
   go_wp2_with (first
  | (with_reducible refine Ap rfl 29 (.tmp 1) rfl w.heap.size 0 rfl cs _ (As H3.out.2) Tryz.underlying29 rfl (At Tryz.infoTm HT.out.2) ?_))
   refine Calls.mono (LD t _ F a3 (HT.out.1.below H3.out.1)) ?_
   rintro e' a4 ⟨rfl,hb⟩
   have H4:=hJ2 (An H3.out.1 hb (Ah _)) (H3.out.2.below hb H3.out.2.lt)
   clear hb
   rw[HXYZ.out.2.2]
   go_wp2_with fail
   go_ret
   exact⟨by rw[HF.out];rfl,H4.out.1⟩
  ·have HF:=Ag (show R=false from by rw[HE.out,decide_eq_false h1,Bool.false_and])
   go_wp2_with fail
   go_ret
   exact⟨by rw[HF.out];rfl,H3.out.1⟩
 ·have HE:=Ag (show R=false from by rw[HR.out,decide_eq_false h0,Bool.false_and])
  have h0e:(x==0)=false:=by simpa using h0
  go_wp2_with fail
  go_ret
  exact⟨by rw[HE.out];rfl,H2.out.1⟩
def wrB (x:WrM):Bool:=decide (0<BI x.nm) && (decide (1≤x.v) && (decide (x.v≤9999) && (decide (1≤x.e) && (decide (x.e≤8) && (AX x.u && Dg x.b)))))
theorem wrC_at (nm:ByteArray) (v e u:Int) (tc:List Value) (w:World) (g:Nat) (h:Blk w g 56 (wrC nm v e u tc)):w.rangeAt g 4 tc:=fun j x hx=> by
 rw[h.cell]
 show(wrC nm v e u tc)[4+j]?=some x
 rw[show 4+j=j+1+1+1+1 by omega]
 simpa [wrC] using hx
theorem Fy (x:WrM) (cs:List Value) (F:Nat→Prop) (w:World) (hx:WrC F w cs x):
  Calls Tryz.prog 37 #[.agg cs.toArray] w (fun e w'=> e=.returned (.bool (wrB x))∧Below w.heap.size w w'):=by
 obtain⟨R,hR⟩:∃ R,wrB x=R:=⟨_,rfl⟩
 rw[hR]
 obtain⟨nm,v,ep,u,bd⟩:=x
 have hlen:=hx.len
 obtain⟨tc,rfl,ht⟩:=hx
 have HS:=Ag (show(Tryz.prog.info? 56).map (·.size)=some (wrC nm v ep u tc).length from At Tryz.infoWr hlen)
 have HT:=Ag (Ai ht ht.len)
 obtain⟨nu,hnu⟩:∃ n,BI nm=n:=⟨_,rfl⟩
 obtain⟨ub,hub⟩:∃ b,AX u=b:=⟨_,rfl⟩
 obtain⟨bb,hbb⟩:∃ b,Dg bd=b:=⟨_,rfl⟩
 have HN:=Ag (Ai hnu (Ai hub hbb))
 have HR:=Ag (show R=(decide (0<nu) && (decide (1≤v) && (decide (v≤9999) && (decide (1≤ep) && (decide (ep≤8) && (ub && bb)))))) from by rw[←hR,←hnu,←hub,←hbb];rfl)
 clear hR hnu hub hbb ht hlen
 have H0:=Ag (Below.refl w.heap.size w)
 show Calls Tryz.prog 37 #[.agg (wrC nm v ep u tc).toArray] w _
 go_enter Tryz.func37,Tryz.ntmps37
 go_wp2_with (first
  | ((with_reducible refine Au w rfl 56 (.tmp 0) rfl (wrC nm v ep u tc) rfl ?_);intro a1 hb hbel hsz;have H1:=hJ2 (An H0.out hbel (Ah _)) hb;have c0:=hb.cell 0;have c1:=hb.cell 1;have c2:=hb.cell 2;have c3:=hb.cell 3;simp only[wrC,Ab,Ac] at c0 c1 c2 c3;clear hb hbel hsz))
 have HNN:=Ag (Ei nm a1)
 refine HNN.out.mono ?_
 rintro e' a2 ⟨rfl,hb⟩
 have H2:=hJ2 (An H1.out.1 hb (Ah _)) (H1.out.2.below hb H1.out.2.lt)
 replace c0:=(hb.cell (p:=⟨w.heap.size,0,none⟩) (Am c0)).trans c0;replace c1:=(hb.cell (p:=⟨w.heap.size,1,none⟩) (Am c1)).trans c1;replace c2:=(hb.cell (p:=⟨w.heap.size,2,none⟩) (Am c2)).trans c2;replace c3:=(hb.cell (p:=⟨w.heap.size,3,none⟩) (Am c3)).trans c3
 clear hb
 rw[HN.out.1]
 by_cases q0:0<nu
 ·have E0:=Ag (show R=(decide (1≤v) && (decide (v≤9999) && (decide (1≤ep) && (decide (ep≤8) && (ub && bb))))) from by rw[HR.out,decide_eq_true q0,Bool.true_and])
  by_cases q1:1≤v
  ·have E1:=Ag (show R=(decide (v≤9999) && (decide (1≤ep) && (decide (ep≤8) && (ub && bb)))) from by rw[E0.out,decide_eq_true q1,Bool.true_and])
   by_cases q2:v≤9999
   ·have E2:=Ag (show R=(decide (1≤ep) && (decide (ep≤8) && (ub && bb))) from by rw[E1.out,decide_eq_true q2,Bool.true_and])
    by_cases q3:1≤ep
    ·have E3:=Ag (show R=(decide (ep≤8) && (ub && bb)) from by rw[E2.out,decide_eq_true q3,Bool.true_and])
     by_cases q4:ep≤8
     ·have E4:=Ag (show R=(ub && bb) from by rw[E3.out,decide_eq_true q4,Bool.true_and])
      go_wp2_with fail
      refine(CJ u a2).mono ?_
      rintro e' w2 ⟨rfl,rfl⟩
      rw[HN.out.2.1]
      cases ub
      ·have EE:=Ag (show R=false from by rw[E4.out,Bool.false_and])
       go_wp2_with fail
       go_ret
       exact⟨by rw[EE.out];rfl,H2.out.1⟩
      ·have EE:=Ag (show R=bb from by rw[E4.out,Bool.true_and])
       go_wp2_with (first
  | (with_reducible refine Ap rfl 29 (.tmp 33) rfl w.heap.size 4 rfl tc _ (wrC_at _ _ _ _ _ _ _ H2.out.2) Tryz.underlying29 rfl (At Tryz.infoTm HT.out.2) ?_))
       refine(Ij bd _ F a2 (HT.out.1.below H2.out.1)).mono ?_
       rintro e' a3 ⟨rfl,hb⟩
       have H3:=hJ2 (An H2.out.1 hb (Ah _)) (H2.out.2.below hb H2.out.2.lt)
       clear hb
       rw[HN.out.2.2]
       go_wp2_with fail
       go_ret
       exact⟨by rw[EE.out];rfl,H3.out.1⟩
     ·have E4:=Ag (show R=false from by rw[E3.out,decide_eq_false q4,Bool.false_and])
      go_wp2_with fail
      go_ret
      exact⟨by rw[E4.out];rfl,H2.out.1⟩
    ·have E3:=Ag (show R=false from by rw[E2.out,decide_eq_false q3,Bool.false_and])
     go_wp2_with fail
     go_ret
     exact⟨by rw[E3.out];rfl,H2.out.1⟩
   ·have E2:=Ag (show R=false from by rw[E1.out,decide_eq_false q2,Bool.false_and])
    go_wp2_with fail
    go_ret
    exact⟨by rw[E2.out];rfl,H2.out.1⟩
  ·have E1:=Ag (show R=false from by rw[E0.out,decide_eq_false q1,Bool.false_and])
   go_wp2_with fail
   go_ret
   exact⟨by rw[E1.out];rfl,H2.out.1⟩
 ·have E0:=Ag (show R=false from by rw[HR.out,decide_eq_false q0,Bool.false_and])
  go_wp2_with fail
  go_ret
  exact⟨by rw[E0.out];rfl,H2.out.1⟩
theorem Tryz.buildwr (nm:ByteArray) (v e u:Int) (tk tu tn:Int) (ts:ByteArray) (ta:Option Addr) (tl tcp:Nat):∀ w,(Instr.build 56 #[(0,.string nm),(1,.int .i64 v),(2,.int .i64 e),(3,.int .i64 u),(4,.agg (tmC tk tu tn ts (.slice ta tl tcp)).toArray)]).run Tryz.prog w=.ok (.agg (wrC nm v e u (tmC tk tu tn ts (.slice ta tl tcp))).toArray) w:=fun w=> by kernel_rfl
theorem FQ {ops:Array Oper} {rest:List Oper} {op:Oper} {a:Act} {w:World} {Q:Exit→Act→World→Prop} (hgd:op.guard=none) (x0 x1 x2 x3 x4:Operand) (ho:op.op=.build 56 #[(0,x0),(1,x1),(2,x2),(3,x3),(4,x4)])
  (nm:ByteArray) (v e u:Int) (tk tu tn:Int) (ts:ByteArray) (ta:Option Addr) (tl tcp:Nat) (h0:a.eval x0=.string nm) (h1:a.eval x1=.int .i64 v) (h2:a.eval x2=.int .i64 e) (h3:a.eval x3=.int .i64 u) (h4:a.eval x4=.agg (tmC tk tu tn ts (.slice ta tl tcp)).toArray)
  (h:wpList Tryz.prog ops Q rest (a.put op.dst (.agg (wrC nm v e u (tmC tk tu tn ts (.slice ta tl tcp))).toArray)) w):wpList Tryz.prog ops Q (op::rest) a w:=by
 refine wpList_plain hgd fun K hK=> ?_
 have hrun:(execOp a.eval op).run Tryz.prog w=.ok (.value (.agg (wrC nm v e u (tmC tk tu tn ts (.slice ta tl tcp))).toArray)) w:=by
  unfold execOp
  simp only[ho]
  rw[show((#[((0:Nat),x0),(1,x1),(2,x2),(3,x3),(4,x4)]:Array (Nat × Operand)).map fun (i,x)=> (i,a.eval x))=#[(0,.string nm),(1,.int .i64 v),(2,.int .i64 e),(3,.int .i64 u),(4,.agg (tmC tk tu tn ts (.slice ta tl tcp)).toArray)] by simp[h0,h1,h2,h3,h4]]
  simp[Tryz.buildwr,Result.andThen]
 unfold Oper.wp
 rw[hrun]
 exact hK _ _ h
theorem Tryz.zeroWr:∀ w,(zeroValue 56).run Tryz.prog w=.ok (.agg (wrC ⟨#[]⟩ 0 0 0 (tmC 0 0 0 ⟨#[]⟩ (.slice none 0 0))).toArray) w:=fun w=> by kernel_rfl
theorem Ik (nm:ByteArray) (v e u:Int) (tc:List Value) (h:tc.length=5):(Tryz.prog.info? 56).map (·.size)=some (wrC nm v e u tc).length:=At Tryz.infoWr (by simp[wrC,h])
theorem LE (nm:ByteArray) (v e u:Int) (tc:List Value) (h:∀ x∈tc,x.oneCell'=true):∀ x∈wrC nm v e u tc,x.oneCell'=true:=by
 intro x hv
 simp only[wrC,List.mem_cons] at hv
 rcases hv with rfl|rfl|rfl|rfl|hv
 ·rfl
 ·rfl
 ·rfl
 ·rfl
 ·exact h x hv
theorem flC_at (nm:ByteArray) (o pe:Int) (vr vq vg:Value) (v e u:Int) (tc:List Value) (w:World) (g:Nat) (h:Blk w g 45 (flC nm o pe vr vq vg v e u tc)):w.rangeAt g 9 tc:=fun j x hx=> by
 rw[h.cell]
 show(flC nm o pe vr vq vg v e u tc)[9+j]?=some x
 rw[show 9+j=j+1+1+1+1+1+1+1+1+1 by omega]
 simpa [flC] using hx
def Bl (f:FileM):WrM:=⟨f.nm,f.v,f.e,f.u,f.b⟩
theorem Hk (f:FileM) (vr vq vg:Value) (tc:List Value) (F:Nat→Prop) (w:World) (ht:TmC F w tc f.b):
  Calls Tryz.prog 38 #[.agg (flC f.nm f.p.o f.p.e vr vq vg f.v f.e f.u tc).toArray] w (fun e w'=> e=.returned (.agg (wrC f.nm f.v f.e f.u tc).toArray)∧Below w.heap.size w w'):=by
 have hlen:(flC f.nm f.p.o f.p.e vr vq vg f.v f.e f.u tc).length=14:=by simp[flC,ht.len]
 obtain⟨ta,tcp,rfl,-,-,-⟩:=ht.shape
 have HT:=Ag ht
 have HI:=Ag (show(Tryz.prog.info? 45).map (·.size)=some (flC f.nm f.p.o f.p.e vr vq vg f.v f.e f.u (tmC f.b.k f.b.u f.b.n f.b.s (.slice ta f.b.ks.length tcp))).length from At Tryz.infoFl hlen)
 generalize f.nm=nm at HI ⊢
 generalize f.v=v at HI ⊢
 generalize f.e=ep at HI ⊢
 generalize f.u=u at HI ⊢
 generalize f.p.o=o at HI ⊢
 generalize f.p.e=pe at HI ⊢
 generalize f.b=t at HI HT ⊢
 clear ht hlen
 have HTT:=Ag (show TmC F w (tmC t.k t.u t.n t.s (.slice ta t.ks.length tcp)) t from HT.out)
 clear HT
 generalize t.k=tk at HI HTT ⊢
 generalize t.u=tu at HI HTT ⊢
 generalize t.n=tn at HI HTT ⊢
 generalize t.s=ts at HI HTT ⊢
 generalize t.ks.length=tl at HI HTT ⊢
 have H0:=Ag (Below.refl w.heap.size w)
 go_enter Tryz.func38,Tryz.ntmps38
 go_wp2_with (first
  | ((with_reducible refine Au w rfl 45 (.tmp 0) rfl (flC nm o pe vr vq vg v ep u (tmC tk tu tn ts (.slice ta tl tcp))) rfl ?_);intro a1 hb hbel hsz;have H1:=hJ2 (An H0.out hbel (Ah _)) hb;have c0:=hb.cell 0;have c6:=hb.cell 6;have c7:=hb.cell 7;have c8:=hb.cell 8;simp only[flC,Ab,Ac] at c0 c6 c7 c8;clear hb hbel hsz)
  | ((with_reducible refine Av a1 rfl 56 rfl (wrC ⟨#[]⟩ 0 0 0 (tmC 0 0 0 ⟨#[]⟩ (.slice none 0 0))) Tryz.zeroWr ?_);intro a2 hb hbel hsz;have H2:=hJ3 (An H1.out.1 hbel (Ah _)) (H1.out.2.below hbel H1.out.2.lt) hb;replace c0:=(hbel.cell (p:=⟨w.heap.size,0,none⟩) (Am c0)).trans c0;replace c6:=(hbel.cell (p:=⟨w.heap.size,6,none⟩) (Am c6)).trans c6;replace c7:=(hbel.cell (p:=⟨w.heap.size,7,none⟩) (Am c7)).trans c7;replace c8:=(hbel.cell (p:=⟨w.heap.size,8,none⟩) (Am c8)).trans c8;clear hb hbel hsz)
  | (with_reducible refine Ap rfl 29 (.tmp 11) rfl w.heap.size 9 rfl (tmC tk tu tn ts (.slice ta tl tcp)) _ (flC_at _ _ _ _ _ _ _ _ _ _ _ _ H2.out.2.1) Tryz.underlying29 rfl (A9 _ _ _ _ _) ?_)
  | (with_reducible refine FQ rfl (.tmp 4) (.tmp 6) (.tmp 8) (.tmp 10) (.tmp 12) rfl nm v ep u tk tu tn ts ta tl tcp rfl rfl rfl rfl rfl ?_)
  | ((with_reducible refine Ao a2 rfl 56 (.tmp 2) (.tmp 13) rfl a1.heap.size 56 (wrC ⟨#[]⟩ 0 0 0 (tmC 0 0 0 ⟨#[]⟩ (.slice none 0 0))) (wrC nm v ep u (tmC tk tu tn ts (.slice ta tl tcp))) H2.out.2.2 rfl rfl rfl (Ik _ _ _ _ _ rfl) (LE _ _ _ _ _ (AS _ _ _ _ _ _ _)) ?_);intro a3 hb hc hs;have H3:=hJ2 hb (Aw H2.out.1 hc (Ah _) (fun k hk=> by have e:k=a1.heap.size:=hk;have h1:=H1.out.2.lt;omega));clear hb hc hs))
 refine bodyPost_ret (AC Tryz.results38 _ _ a1.heap.size _ _ rfl H3.out.1 _ Tryz.underlying56 rfl (Ik _ _ _ _ _ rfl)) rfl ?_
 exact⟨rfl,H3.out.2⟩
end Go.Proofs.YtgdlfiphihaooaaGreat

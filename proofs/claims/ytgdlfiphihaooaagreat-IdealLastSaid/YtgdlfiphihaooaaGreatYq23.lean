import Derived.Test.YtgdlfiphihaooaaGreatYq8
set_option linter.unusedSimpArgs false
set_option linter.unusedVariables false
set_option maxRecDepth 100000
set_option maxHeartbeats 8000000
open _root_.List renaming getElem?_toArray→Aa,getElem?_cons_zero→Ab,getElem?_cons_succ→Ac,setIfInBounds_toArray→Ad,set_cons_zero→Ae,set_cons_succ→Af
open _root_.Go.Lib renaming hid→Ag
open _root_.Nat renaming le_refl→Ah,le_trans→Aj,lt_of_lt_of_le→Ak
open _root_.And renaming intro→Ai
open _root_.Go.Act renaming put→Al
namespace Go.Proofs.YtgdlfiphihaooaaGreat
open Go Go.RowKit
def SeqK {α:Type} (F:Fence) (n:Nat) (P:Program) (g:Nat) (lb:Array Value) (encs:α→Array Value) (Kn:World→Prop) (Pr:List α→α→Prop) (S Sp:List α→Prop) (w:World):Prop:=
 ∀ (l:Nat) (J Jx:List α→World→Prop) (W:World),Below w.heap.size w W→
  (∀ s A B,J s A→Below A.heap.size A B→J s B)→(∀ s A B,Jx s A→Below A.heap.size A B→Jx s B)→
  (∀ pre W,J pre W→Kn W)→
  (∀ pre x W0 W1,J pre W0→Below W0.heap.size W0 W1→Pr pre x→YieldAt F (n - 1) P l (encs x) W1 fun e W'=>
   (e=.returned (.bool true)∧J (pre ++ [x]) W')∨(e=.returned (.bool false)∧Jx (pre ++ [x]) W'))→
  J [] W→
  CallsIn F n P g (#[.func (.yield l) #[] #[]] ++ lb) W fun e W'=> (∃ v,e=.returned v)∧((∃ xs,S xs∧J xs W')∨(∃ pre,Sp pre∧Jx pre W'))
theorem Cp {A B:World} (h:Below A.heap.size A B) (row:Option Nat):A.grownBy B row:=⟨h.os,h.tape,h.output,h.size,fun k hk _=> h.block k hk⟩
section
variable {F:Fence} {n:Nat} {P:Program} {ops:Array Oper} {Q:Exit→Act→World→Prop} {md:Region.Mode}
theorem Ki {o:Oper} {a:Act} {K:Act→World→Prop} (r:Result Next) (h:o.uponIn F n P a (wpListIn F n P ops (QK Q K) []) (QK Q K) r):o.uponIn F n P a K Q r:=by
 cases r with
 | ok m w=>
  cases m <;> first|exact h|(simp only[Oper.uponIn] at h ⊢;exact h)
 | halt x w=> first|exact h|(simp only[Oper.uponIn] at h ⊢;exact h)
theorem Dp {i:Nat} {o:Oper} {K:Act→World→Prop} {a:Act} {w:World} (hi:ops[i]?=some o) (h:wpListIn F n P ops (QK Q K) [o] a w):wpOpIn F n P ops Q i K a w:=by
 unfold wpOpIn
 simp only[hi]
 unfold wpListIn at h
 split at h
 ·rename_i hw
  rw[if_pos hw]
  exact⟨h.1,Ki _ h.2⟩
 ·rename_i hw
  rw[if_neg hw]
  exact h
theorem Aq (i:Nat) {o:Oper} {f:Nat} {l:Array Bool} {a:Act} {w:World} (hr:Region.ready md ops l=[i]) (ho:ops[i]?=some o)
  (h:wpListIn F n P ops (QK Q (wpAnyIn F n P md ops Q f (l.setIfInBounds i true))) [o] a w):wpAnyIn F n P md ops Q (f+1) l a w:=
 wpAnyIn_all hr (by simp) (fun j hj=> by
   obtain rfl:j=i:=by simpa using hj
   exact Dp ho h)
theorem A0 (i j:Nat) {o p:Oper} {f:Nat} {l:Array Bool} {a:Act} {w:World} (hr:Region.ready md ops l=[i,j]) (ho:ops[i]?=some o) (hp:ops[j]?=some p)
  (h:wpListIn F n P ops (QK Q (wpAnyIn F n P md ops Q f (l.setIfInBounds i true))) [o] a w) (k:wpListIn F n P ops (QK Q (wpAnyIn F n P md ops Q f (l.setIfInBounds j true))) [p] a w):wpAnyIn F n P md ops Q (f+1) l a w:=
 wpAnyIn_all hr (by simp) (fun m hm=> by
  rcases (show m=i∨m=j by simpa using hm) with rfl|rfl
  ·exact Dp ho h
  ·exact Dp hp k)
end
section
variable {F:Fence} {n:Nat} {P:Program}
theorem EV {α:Type} {g:Operand} {ps:Array Tmp} {assign body:Code} {Q:Exit→Act→World→Prop} {a:Act} {w:World}
  (hro:F.round=none) (h1:1≤n) {gf:Nat} {lb:Array Value} (hg:a.eval g=.func (.func gf) #[] lb) (hFg:F.fn gf) (eg:∀ args w,(callFunc gf args).run P w=.ok (.enter gf args) w)
  {encs:α→Array Value} {Kn:World→Prop} {Pr:List α→α→Prop} {S Sp:List α→Prop} {w0:World} (hseq:SeqK F (n - 1) P gf lb encs Kn Pr S Sp w0)
  (hb0:Below w0.heap.size w0 w) (hps:∀ x,(encs x).size=ps.size)
  (I:List α→World→Prop) (Ix:Code→List α→World→Prop) (hI:OwnFrom w.heap.size I) (hIx:∀ c,OwnFrom w.heap.size (Ix c)) (hKn:∀ pre W,I pre W→Kn W) (h0:I [] w) (a₁:α→Act)
  (hassign:∀ (l:Nat) (x:α) (W:World) (K:Act→World→Prop),K (a₁ x) W→
   assign.wpIn (F.inRound l) (n - 1 - 1) P (Exit.then K (fun _ _ _=> False)) {tmps:=(ps.zip (encs x)).foldl (fun t (p,v)=> t.setIfInBounds p v) a.tmps,defers:=[]} W)
  (hbody:∀ (l:Nat) (pre:List α) (x:α) (W0 W:World),w.heap.size<l→(∃ r,W0.heap[l]?=some (.loop r))→I pre W0→I pre W→W0.grownBy W (some l)→Pr pre x→
   body.wpIn (F.inRound l) (n - 1 - 1) P (ownPostG w.heap.size (fun _ _=> True) I Ix (pre ++ [x]) W) (a₁ x) W)
  (hdone:∀ (D:Nat) (xs:List α) (W:World),w.heap.size≤D→S xs→I xs W→W.heap[D]?=some (.deferred (some []))→Q .normal {a with defers:={target:=.collected D,args:=#[]}::a.defers} W)
  (hstop:∀ (D:Nat) (c:Code) (pre:List α) (W:World),w.heap.size≤D→Sp pre→Ix c pre W→W.heap[D]?=some (.deferred (some []))→c.wpIn F n P Q {a with defers:={target:=.collected D,args:=#[]}::a.defers} W):
  (Code.rangeFunc g ps assign body).wpIn F n P Q a w:=by
 refine wpIn_rangeFunc fun fn hfn=> ?_
 rw[hro]
 have hnew:=run_enterLoop_outer (P:=P) (w:=w) fn a.tmps ps assign body
 obtain⟨L,hL⟩:∃ L:Loop,L={state:=.ready,pending:=none,fn:=fn,tmps:=a.tmps,params:=ps,assign:=assign,body:=body,defers:=w.heap.size}:=⟨_,rfl⟩
 rw[←hL] at hnew
 have pL:L.pending=none:=by rw[hL]
 have sL:L.state=.ready:=by rw[hL]
 obtain⟨V,hV⟩:∃ V,(w.alloc (.deferred (some []))).alloc (.loop L)=V:=⟨_,rfl⟩
 rw[hV] at hnew
 have hgV:w.grownBy V none:=by rw[←hV];exact(World.grownBy_alloc w (.deferred (some [])) none).trans (World.grownBy_alloc _ (.loop L) none)
 have hloop:V.heap[w.heap.size+1]?=some (.loop L):=by
  rw[←hV]
  have h:=World.alloc_heap_new (w.alloc (.deferred (some []))) (.loop L)
  rwa [World.size_alloc] at h
 have hdef:V.heap[w.heap.size]?=some (.deferred (some [])):=by
  rw[←hV,(World.grownBy_alloc (w.alloc (.deferred (some []))) (.loop L) none).block _ (by simp) (by simp)]
  exact World.alloc_heap_new w _
 have hbV:Below w0.heap.size w0 V:=⟨hgV.os.trans hb0.os,hgV.tape.trans hb0.tape,hgV.output.trans hb0.output,Aj hb0.size hgV.size,fun k hk=> (hgV.block k (Ak hk hb0.size) (by simp)).trans (hb0.block k hk)⟩
 have none_:∀ {A:World} (r:Nat),(none:Option Nat)=some r→w.heap.size≤r∧∃ o:Obj,A.heap[r]?=some o∧o.isCells=false:=fun r e=> by cases e
 have later:∀ {A B:World} {k:Nat} {o:Obj},Below A.heap.size A B→A.heap[k]?=some o→B.heap[k]?=some o:=fun h hk=> (h.block _ (Array.getElem?_eq_some_iff.1 hk).1).trans hk
 refine⟨w.heap.size+1,_,V,{target:=.fn (.func gf) lb,args:=#[.func (.yield (w.heap.size+1)) #[] #[]]},V,gf,#[.func (.yield (w.heap.size+1)) #[] #[]] ++ lb,V,hnew,?_,?_,?_,fun _=> h1,?_⟩
 ·simp only[resolve,hg]
  simp[go_sem]
 ·intro f' hf'
  simp[Target.leads] at hf'
  subst hf'
  exact hFg
 ·simp[invoke,go_sem,eg]
 refine(hseq (w.heap.size+1)
  (fun pre W=> I pre W∧W.heap[w.heap.size+1]?=some (.loop L)∧W.heap[w.heap.size]?=some (.deferred (some [])))
  (fun pre W=> ∃ c,Ix c pre W∧W.heap[w.heap.size+1]?=some (.loop {L with state:=.done,pending:=some c})∧W.heap[w.heap.size]?=some (.deferred (some [])))
  V hbV (fun s A B h hb=> ⟨hI s A B none h.1 (Cp hb none) none_,later hb h.2.1,later hb h.2.2⟩)
  (fun s A B h hb=> by
   obtain⟨c,x,y,z⟩:=h
   exact⟨c,hIx c s A B none x (Cp hb none) none_,later hb y,later hb z⟩)
  (fun pre W h=> hKn pre W h.1) ?_ ⟨hI [] w V none h0 hgV none_,hloop,hdef⟩).mono ?_
 ·rintro pre x W0 W1 ⟨hi0,hl0,hd0⟩ hb01 hpr
  have hlt0:=(Array.getElem?_eq_some_iff.1 hl0).1
  have hl1:=later hb01 hl0
  have hd1:=later hb01 hd0
  have hlt1:=(Array.getElem?_eq_some_iff.1 hl1).1
  have hi1:I pre W1:=hI pre W0 W1 none hi0 (Cp hb01 none) none_
  have hy:=run_yield (P:=P) (args:=encs x) hl1 (by rw[hL];exact hps x)
  rw[hL] at hy
  refine⟨fn,_,assign,body,hy,roundIn_of_wpIn hfn (hassign _ x W1 _ ?_)⟩
  clear hy
  refine⟨_,run_beginRound hl1 sL,?_⟩
  obtain⟨W,hW⟩:∃ W,W1.putObj (w.heap.size+1) (.loop {L with state:=.busy})=W:=⟨_,rfl⟩
  rw[hW]
  have hg1:W1.grownBy W (some (w.heap.size+1)):=by rw[←hW];exact grownBy_putObj' _ _ _
  have hl2:W.heap[w.heap.size+1]?=some (.loop {L with state:=.busy}):=by rw[←hW];exact World.putObj_heap_same hlt1
  have hd2:W.heap[w.heap.size]?=some (.deferred (some [])):=(hg1.block _ (by omega) (fun e=> by injection e with e;omega)).trans hd1
  have hrow:∀ r,some (w.heap.size+1)=some r→w.heap.size≤r∧∃ o:Obj,W1.heap[r]?=some o∧o.isCells=false:=fun r e=> by cases e;exact⟨by omega,_,hl1,rfl⟩
  have hi2:I pre W:=hI pre W1 W _ hi1 hg1 hrow
  have hg0:W0.grownBy W (some (w.heap.size+1)):=(Cp hb01 _).trans hg1
  refine wpIn_mono (hbody _ pre x W0 W (by omega) ⟨_,hl0⟩ hi0 hi2 hg0 hpr) ?_
  have shut:∀ (c:Option Code) (Z:World),KeepsFrom w.heap.size W Z→
    (Instr.endRound (w.heap.size+1) c).run P Z=.ok (.bool c.isNone) (Z.putObj (w.heap.size+1) (.loop {L with state:=if c.isNone then .ready else .done,pending:=c}))∧
    Z.heap[w.heap.size+1]?=some (.loop {L with state:=.busy})∧
    (Z.putObj (w.heap.size+1) (.loop {L with state:=if c.isNone then .ready else .done,pending:=c})).heap[w.heap.size]?=some (.deferred (some [])):=fun c Z hk=> by
   have hl3:=hk.same _ _ (by omega) hl2 rfl
   have hr3:=run_endRound (P:=P) (r:={L with state:=.busy}) c hl3
   exact⟨hr3,hl3,(World.putObj_heap_other (by omega)).trans (hk.same _ _ (Ah _) hd2 rfl)⟩
  have back:∀ (c:Code) (Z:World),KeepsFrom w.heap.size W Z→Ix c (pre ++ [x]) Z→∃ v Z',(Instr.endRound (w.heap.size+1) (some c)).run P Z=.ok v Z'∧v=.bool false∧∃ c,Ix c (pre ++ [x]) Z'∧Z'.heap[w.heap.size+1]?=some (.loop {L with state:=.done,pending:=some c})∧Z'.heap[w.heap.size]?=some (.deferred (some [])):=fun c Z hk hx=> by
   obtain⟨hr,hl3,hd3⟩:=shut (some c) Z hk
   exact⟨_,_,hr,rfl,c,(hIx c).putObj _ hx (by omega) hl3 rfl,World.putObj_heap_same (Array.getElem?_eq_some_iff.1 hl3).1,hd3⟩
  rintro e a3 Z hp
  cases e with
  | normal=>
   obtain⟨hk,hkp,hi3⟩:=hp
   obtain⟨hr,hl3,hd3⟩:=shut none Z hk
   have hes:({L with state:=.ready,pending:=none}:Loop)=L:=by rw[hL]
   refine⟨_,_,hr,.inl ⟨rfl,⟨hI.putObj _ hi3 (by omega) hl3 rfl,?_,hd3⟩⟩⟩
   refine(World.putObj_heap_same (Array.getElem?_eq_some_iff.1 hl3).1).trans ?_
   exact congrArg (fun y=> some (Obj.loop y)) hes
  | ret=>
   obtain⟨v,Z',hr,rfl,h⟩:=back .ret Z hp.1 hp.2
   exact⟨_,_,hr,.inr ⟨rfl,h⟩⟩
  | exit id=>
   obtain⟨v,Z',hr,rfl,h⟩:=back (.exit id) Z hp.1 hp.2
   exact⟨_,_,hr,.inr ⟨rfl,h⟩⟩
  | goto t=>
   obtain⟨v,Z',hr,rfl,h⟩:=back (.goto t) Z hp.1 hp.2
   exact⟨_,_,hr,.inr ⟨rfl,h⟩⟩
  | panic ch=> exact hp.elim
  | outgrown=> exact hp.elim
 ·rintro e Z ⟨⟨v,rfl⟩,(⟨xs,hS,hi,hl,hd⟩|⟨pre,hSp,c,hi,hl,hd⟩)⟩
  ·have hr:=run_endLoop (P:=P) hl (by rw[sL];simp)
   rw[pL] at hr
   exact⟨none,_,hr,hdone _ xs _ (Ah _) hS (hI.putObj _ hi (by omega) hl rfl) ((World.putObj_heap_other (by omega)).trans hd)⟩
  ·exact⟨some c,_,run_endLoop (P:=P) hl (by simp),hstop _ c pre _ (Ah _) hSp ((hIx c).putObj _ hi (by omega) hl rfl) ((World.putObj_heap_other (by omega)).trans hd)⟩
end
end Go.Proofs.YtgdlfiphihaooaaGreat

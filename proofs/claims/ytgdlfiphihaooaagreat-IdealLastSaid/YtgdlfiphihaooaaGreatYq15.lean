import Derived.Test.YtgdlfiphihaooaaGreatYq14
set_option linter.unusedSimpArgs false
set_option linter.unusedVariables false
set_option maxRecDepth 100000
set_option maxHeartbeats 8000000
open _root_.List renaming getElem?_toArray→Aa,getElem?_cons_zero→Ab,getElem?_cons_succ→Ac,setIfInBounds_toArray→Ad,set_cons_zero→Ae,set_cons_succ→Af
open _root_.Go.Lib renaming hid→Ag
open _root_.Nat renaming le_refl→Ah,le_trans→Aj,lt_of_lt_of_le→Ak
open _root_.And renaming intro→Ai
open _root_.Go.Act renaming put→Al
namespace Go.Proofs.YtgdlfiphihaooaaGreat
open Go Go.RowKit
theorem Jj {P c0 R new:List Value} {q:Nat} (h:q+new.length≤c0.length):AW (P ++ (c0 ++ R)) (P.length+q) new=P ++ (AW c0 q new ++ R):=by
 apply List.ext_getElem?
 intro i
 have hl:(AW c0 q new).length=c0.length:=by
  have:∀ (new c0:List Value) (q:Nat),(AW c0 q new).length=c0.length:=by
   intro new
   induction new with
   | nil=> intro c0 q;rfl
   | cons v r ih=> intro c0 q;unfold AW;rw[ih,List.length_set]
  exact this _ _ _
 rw[Ct _ _ _ (by simp;omega) i]
 by_cases h1:i<P.length
 ·rw[if_neg (by omega),List.getElem?_append_left h1,List.getElem?_append_left h1]
 ·have e1:(P ++ (AW c0 q new ++ R))[i]?=(AW c0 q new ++ R)[i - P.length]?:=List.getElem?_append_right (by omega)
  have e2:(P ++ (c0 ++ R))[i]?=(c0 ++ R)[i - P.length]?:=List.getElem?_append_right (by omega)
  rw[e1,e2]
  by_cases h2:i - P.length<c0.length
  ·have e3:(c0 ++ R)[i - P.length]?=c0[i - P.length]?:=List.getElem?_append_left h2
   have e4:(AW c0 q new ++ R)[i - P.length]?=(AW c0 q new)[i - P.length]?:=List.getElem?_append_left (by rw[hl];exact h2)
   rw[e3,e4,Ct _ _ _ h]
   by_cases h3:q≤i - P.length∧i - P.length<q+new.length
   ·rw[if_pos h3,if_pos (by omega)];congr 1;omega
   ·rw[if_neg h3,if_neg (by omega)]
  ·rw[if_neg (by omega),List.getElem?_append_right (by omega),List.getElem?_append_right (by rw[hl];omega),hl]
theorem BM:∀ (new c0:List Value) (q:Nat),(AW c0 q new).length=c0.length:=by
 intro new
 induction new with
 | nil=> intro c0 q;rfl
 | cons v r ih=> intro c0 q;unfold AW;rw[ih,List.length_set]
theorem G3 {sz q:Nat} {css:List (List Value)} {j:Nat} {new:List Value} (hl:∀ x∈css,x.length=sz) (hj:j<css.length) (hq:q+new.length≤sz):AW css.flatten (j* sz+q) new=(css.set j (AW css[j] q new)).flatten:=by
 have e:css=css.take j ++ css[j]::css.drop (j+1):=by rw[←List.drop_eq_getElem_cons hj,List.take_append_drop]
 have e2:css.set j (AW css[j] q new)=css.take j ++ AW css[j] q new::css.drop (j+1):=by rw[List.set_eq_take_append_cons_drop,if_pos hj]
 have hp:(css.take j).flatten.length=j* sz:=by
  rw[BC (fun x hx=> hl x (List.mem_of_mem_take hx)),List.length_take,Nat.min_eq_left (by omega)]
 have e3:css.flatten=(css.take j).flatten ++ (css[j] ++ (css.drop (j+1)).flatten):=by
  have:=congrArg List.flatten e
  rw[List.flatten_append,List.flatten_cons] at this
  exact this
 rw[e3,e2,List.flatten_append,List.flatten_cons,←hp,Jj (by rw[hl _ (List.getElem_mem hj)];exact hq)]
section
variable {α:Type} {C C':World→List Value→α→Prop} {sz B:Nat} {ty:TypeId} {w:World} {v:Value} {l:List α}
theorem OwR.ptr (h:OwR C sz ty B w v l) {j:Nat} (hj:j<l.length):∃ g c,v=.slice (some ⟨g,0,none⟩) l.length c∧g<w.heap.size:=by
 obtain⟨css,⟨_,⟨rfl,hn⟩|⟨g,cap,cur,rfl,_,hg,h1,h2,_⟩⟩,_⟩:=h
 ·omega
 ·exact⟨g,cap,rfl,lt_of_block hg⟩
theorem OwR.focus {g n c j:Nat} (h:OwR C sz ty B w (.slice (some ⟨g,0,none⟩) n c) l) (hj:j<l.length):g<w.heap.size∧n=l.length∧∃ cs,cs.length=sz∧w.rangeAt g (j* sz) cs∧C w cs l[j]∧w.there g (j* sz) sz∧
  ∀ q new a',q+new.length≤sz→(∀ C':World→List Value→α→Prop,C' (w.setCells g (j* sz+q) new) (AW cs q new) a'→(∀ cs a,a∈l→C w cs a→C' (w.setCells g (j* sz+q) new) cs a)→OwR C' sz ty B (w.setCells g (j* sz+q) new) (.slice (some ⟨g,0,none⟩) n c) (l.set j a')):=by
 obtain⟨css,k1,k2,k3⟩:=h
 have h5:=B7 k2 k3
 obtain⟨hl,⟨e,hn⟩|⟨g',cap,cur,e,hbg,hg,hnc,hcm,hcs,htake⟩⟩:=id k1
 ·cases e
 simp only[Value.slice.injEq,Option.some.injEq,Addr.mk.injEq,and_true] at e
 obtain⟨rfl,rfl,rfl⟩:=e
 have hj':j<css.length:=by omega
 have hcell:∀ i u,css[j][i]?=some u→w.cell? ⟨g,j* sz+i,none⟩=some u:=fun i u hu=> by
  have hi:i<sz:=by have:=(List.getElem?_eq_some_iff.1 hu).1;rw[h5 _ (List.getElem_mem hj')] at this;exact this
  have hc:=k1.cells (g:=g) rfl (j* sz+i) u (by rw[Db h5 hj' hi];exact hu)
  rw[Addr.add_lit,Nat.zero_add] at hc
  exact hc
 refine⟨lt_of_block hg,rfl,css[j],h5 _ (List.getElem_mem hj'),hcell,(k3 j hj' hj).2,fun i hi=> ?_,fun q new a' hq C' h1 h2=> ⟨css.set j (AW css[j] q new),?_,by rw[List.length_set,List.length_set];exact k2,fun i a b=> ?_⟩⟩
 ·have hi':i<css[j].length:=by rw[h5 _ (List.getElem_mem hj')];exact hi
  rw[hcell i css[j][i] (List.getElem?_eq_getElem hi'),k1.frozenAt];simp
 ·rw[←G3 h5 hj' hq,List.length_set]
  exact C8 _ _ _ _ k1
 ·by_cases hij:i=j
  ·subst hij
   rw[List.getElem_set_self,List.getElem_set_self]
   exact⟨by rw[BM];exact h5 _ (List.getElem_mem hj'),h1⟩
  ·rw[List.getElem_set_ne (fun e=> hij e.symm),List.getElem_set_ne (fun e=> hij e.symm)]
   have h0:=k3 i (by rw[List.length_set] at a;exact a) (by rw[List.length_set] at b;exact b)
   exact⟨h0.1,h2 _ _ (List.getElem_mem _) h0.2⟩
end
structure CirV where
 n:Int
 o:Int
 us:List Int
 vu:Value
 own:Bool
def CirV.m (c:CirV):CirM:=⟨c.n,c.o,c.us⟩
def ob (v:Value):List Nat:=v.ownBlock.toList
theorem AG {v:Value} {k:Nat}:k∈ob v↔v.ownBlock=some k:=by unfold ob;simp[Option.mem_toList]
def CirV.ub (c:CirV):List Nat:=if c.own=true then ob c.vu else []
def ubs (cv:List CirV):List Nat:=cv.flatMap CirV.ub
def msL (bp:Nat) (vf vc vw:Value) (cv:List CirV):List Nat:=bp::(ob vf ++ (ob vc ++ (ob vw ++ ubs cv)))
def Fz (xs ms:List Nat) (w:World) (k:Nat):Prop:=(k∉xs∧k∉ms)∧k<w.heap.size
def CvC (F:Nat→Prop) (w:World) (cs:List Value) (c:CirV):Prop:=cs=ciC c.n c.o c.vu∧(c.own=true→w.ownsRow 0 3 1 c.vu c.us.length (ofK .i64 c.us))∧(c.own=false→SlI F w c.vu c.us)
theorem frz {xs ms ms':List Nat} {w w':World} (hsz:w.heap.size≤w'.heap.size) (hm:∀ k∈ms',k∈ms∨w.heap.size≤k):∀ k,Fz xs ms w k→Fz xs ms' w' k:=fun k h=> ⟨⟨h.1.1,fun hk=> (hm k hk).elim h.1.2 (fun e=> by have:=h.2;omega)⟩,by have:=h.2;omega⟩
theorem CvC.keep' {F G S:Nat→Prop} {w w':World} {cs:List Value} {c:CirV} (h:CvC F w cs c) (hc:Ch S w w') (hU:∀ k∈c.ub,¬ S k) (hS:∀ k,F k→¬ S k) (hG:∀ k,F k→G k):CvC G w' cs c:=by
 obtain⟨h1,h2,h3⟩:=h
 exact⟨h1,fun e=> Ba (h2 e) hc (fun k hk=> hU k (by unfold CirV.ub;rw[if_pos e];exact AG.2 hk)),fun e=> (h3 e).keep' hc hS hG⟩
theorem CvC.cic {F:Nat→Prop} {w:World} {cs:List Value} {c:CirV} (h:CvC F w cs c):CiC (fun _=> True) w cs c.m:=by
 obtain⟨h1,h2,h3⟩:=h
 refine⟨c.vu,h1,?_⟩
 cases ho:c.own with
 | true=> exact⟨Sl.of_owns (h2 ho),fun _ _ _=> trivial⟩
 | false=> exact⟨(h3 ho).1,fun _ _ _=> trivial⟩
theorem CvC.one {F:Nat→Prop} {w:World} {cs:List Value} {c:CirV} (h:CvC F w cs c):∀ v∈cs,v.oneCell'=true:=h.cic.one
theorem BW {cv:List CirV} {k:Nat}:k∈ubs cv↔∃ c∈cv,k∈c.ub:=by unfold ubs;simp[List.mem_flatMap]
structure OwnX (w0:World) (m0 xs:List Nat) (w:World) (bp:Nat) (bt:TypeId) (cells:List Value) (vf vc vw:Value) (fs:List FileM) (cv:List CirV) (ws:List WrM) (ex:List (List Value × Tm)):Prop where
 ch:Ch (·∈m0) w0 w
 nd:(msL bp vf vc vw cv).Nodup
 sub:∀ k∈msL bp vf vc vw cv,k∈m0∨w0.heap.size≤k
 ax:∀ k∈xs,k∉msL bp vf vc vw cv∧k<w.heap.size
 bl:Blk w bp bt cells
 rf:OwR (FlC (Fz xs (msL bp vf vc vw cv) w)) 14 45 0 w vf fs
 rc:OwR (CvC (Fz xs (msL bp vf vc vw cv) w)) 3 49 0 w vc cv
 rw:OwR (WrC (Fz xs (msL bp vf vc vw cv) w)) 9 56 0 w vw ws
 ex:∀ p∈ex,TmC (Fz xs (msL bp vf vc vw cv) w) w p.1 p.2
section
variable {w0 w w':World} {m0 xs:List Nat} {bp:Nat} {bt:TypeId} {cells cells':List Value} {vf vc vw vf' vc' vw':Value} {fs fs':List FileM} {cv cv':List CirV} {ws ws':List WrM} {ex:List (List Value × Tm)}
theorem OwR.mem {α:Type} {C:World→List Value→α→Prop} {sz B:Nat} {ty:TypeId} {v:Value} {l:List α} (h:OwR C sz ty B w v l) {a:α} (ha:a∈l):∃ cs,C w cs a:=by
 obtain⟨css,h1,h2,h3⟩:=h
 obtain⟨j,hj,rfl⟩:=List.mem_iff_getElem.1 ha
 exact⟨_,(h3 j (by omega) hj).2⟩
theorem OwnX.lt (h:OwnX w0 m0 xs w bp bt cells vf vc vw fs cv ws ex):∀ k∈msL bp vf vc vw cv,k<w.heap.size:=fun k hk=> by
 unfold msL at hk
 simp only[List.mem_cons,List.mem_append,AG,BW] at hk
 rcases hk with rfl|hk|hk|hk|⟨c,hc,hk⟩
 ·exact h.bl.lt
 ·exact(h.rf.lt k hk).2
 ·exact(h.rc.lt k hk).2
 ·exact(h.rw.lt k hk).2
 ·obtain⟨cs,h1,h2,h3⟩:=h.rc.mem hc
  unfold CirV.ub at hk
  split at hk
  ·rename_i ho
   exact((h2 ho).lt k (AG.1 hk)).2
  ·cases hk
theorem OwnX.step (h:OwnX w0 m0 xs w bp bt cells vf vc vw fs cv ws ex) {S:Nat→Prop} (hc:Ch S w w') (hS:∀ k,S k→k∈msL bp vf vc vw cv)
  (hm:∀ k∈msL bp vf' vc' vw' cv',k∈msL bp vf vc vw cv∨w.heap.size≤k) (hnd:(msL bp vf' vc' vw' cv').Nodup) (bl:Blk w' bp bt cells')
  (rf:(∀ cs f,FlC (Fz xs (msL bp vf vc vw cv) w) w cs f→FlC (Fz xs (msL bp vf' vc' vw' cv') w') w' cs f)→OwR (FlC (Fz xs (msL bp vf' vc' vw' cv') w')) 14 45 0 w' vf' fs')
  (rc:(∀ cs c,(∀ k∈c.ub,¬ S k)→CvC (Fz xs (msL bp vf vc vw cv) w) w cs c→CvC (Fz xs (msL bp vf' vc' vw' cv') w') w' cs c)→OwR (CvC (Fz xs (msL bp vf' vc' vw' cv') w')) 3 49 0 w' vc' cv')
  (rw:(∀ cs f,WrC (Fz xs (msL bp vf vc vw cv) w) w cs f→WrC (Fz xs (msL bp vf' vc' vw' cv') w') w' cs f)→OwR (WrC (Fz xs (msL bp vf' vc' vw' cv') w')) 9 56 0 w' vw' ws'):
  OwnX w0 m0 xs w' bp bt cells' vf' vc' vw' fs' cv' ws' ex:=by
 have hG:=frz (xs:=xs) hc.size hm
 have hN:∀ k,Fz xs (msL bp vf vc vw cv) w k→¬ S k:=fun k hk hs=> hk.1.2 (hS k hs)
 refine⟨⟨hc.os.trans h.ch.os,hc.tape.trans h.ch.tape,hc.output.trans h.ch.output,Aj h.ch.size hc.size,fun k hk hn=> ?_⟩,hnd,fun k hk=> ?_,fun k hk=> ⟨fun hm'=> (hm k hm').elim (h.ax k hk).1 (fun e=> by have:=(h.ax k hk).2;omega),Ak (h.ax k hk).2 hc.size⟩,bl,rf (fun cs f hf=> hf.keep' hc hN hG),rc (fun cs c hu hf=> hf.keep' hc hu hN hG),rw (fun cs f hf=> hf.keep' hc hN hG),fun p hp=> TmC.keep' hc hN hG _ _ (h.ex p hp)⟩
 ·rw[hc.block k (Ak hk h.ch.size) (fun hs=> by
   rcases h.sub k (hS k hs) with h1|h1
   ·exact hn h1
   ·omega)]
  exact h.ch.block k hk hn
 ·rcases hm k hk with h1|h1
  ·exact h.sub k h1
  ·exact .inr (Aj h.ch.size h1)
theorem OwnX.below (h:OwnX w0 m0 xs w bp bt cells vf vc vw fs cv ws ex) (hb:Below w.heap.size w w'):OwnX w0 m0 xs w' bp bt cells vf vc vw fs cv ws ex:=by
 have hc:=Ch.of_below (S:=fun _=> False) hb (Ah _)
 exact h.step hc (fun k hk=> hk.elim) (fun k hk=> .inl hk) h.nd (h.bl.below hb h.bl.lt) (fun hf=> h.rf.keep' hc (fun _ _ e=> e) (fun cs a _=> hf cs a)) (fun hf=> h.rc.keep' hc (fun _ _ e=> e) (fun cs a _=> hf cs a (fun _ _ e=> e))) (fun hf=> h.rw.keep' hc (fun _ _ e=> e) (fun cs a _=> hf cs a))
theorem OwnX.more (h:OwnX w0 m0 xs w bp bt cells vf vc vw fs cv ws ex) {cs:List Value} {t:Tm} (ht:TmC (w.heap.size≤·) w' cs t) (hb:Below w.heap.size w w'):OwnX w0 m0 xs w' bp bt cells vf vc vw fs cv ws ((cs,t)::ex):=by
 have h':=h.below hb
 refine⟨h'.ch,h'.nd,h'.sub,h'.ax,h'.bl,h'.rf,h'.rc,h'.rw,fun p hp=> ?_⟩
 rcases List.mem_cons.1 hp with rfl|hp
 ·exact(TmC.old' _ _ ht).mono fun k hk=> ⟨⟨fun hm=> by have:=(h.ax k hm).2;have:=hk.1;omega,fun hm=> by have:=h.lt k hm;have:=hk.1;omega⟩,hk.2⟩
 ·exact h'.ex p hp
theorem OwnX.less (h:OwnX w0 m0 xs w bp bt cells vf vc vw fs cv ws ex) (ex':List (List Value × Tm)) (hs:∀ p∈ex',p∈ex):OwnX w0 m0 xs w bp bt cells vf vc vw fs cv ws ex':=
 ⟨h.ch,h.nd,h.sub,h.ax,h.bl,h.rf,h.rc,h.rw,fun p hp=> h.ex p (hs p hp)⟩
theorem OwnX.idc (h:OwnX w0 m0 xs w bp bt cells vf vc vw fs cv ws ex):IdC (fun _=> True) w [vf,vc,vw] ⟨fs,cv.map CirV.m,ws⟩:=by
 refine⟨vf,vc,vw,rfl,h.rf.rwc.mono (fun _ _=> trivial) (fun cs a _ hf=> hf.keep' (Ch.refl (fun _=> False) w) (fun _ _ e=> e) (fun _ _=> trivial)),?_,h.rw.rwc.mono (fun _ _=> trivial) (fun cs a _ hf=> hf.keep' (Ch.refl (fun _=> False) w) (fun _ _ e=> e) (fun _ _=> trivial))⟩
 obtain⟨ao,c,h1,h2,h3,h4⟩:=h.rc.rwc
 refine⟨ao,c,by rw[List.length_map];exact h1,by rw[List.length_map];exact h2,h3,fun h0=> ?_⟩
 obtain⟨b,o,e,hF,hb,ha⟩:=h4 (by rwa [List.length_map] at h0)
 refine⟨b,o,e,trivial,hb,fun j hj=> ?_⟩
 rw[List.length_map] at hj
 obtain⟨cs,h5,h6,h7⟩:=ha j hj
 exact⟨cs,h5,h6,by rw[List.getElem_map];exact h7.cic⟩
theorem ES {l1 l2:List Nat} {v v':Value} {N:Nat} (hn:(l1 ++ (ob v ++ l2)).Nodup) (hl:∀ k∈l1 ++ (ob v ++ l2),k<N) (h:v'.ownBlock=v.ownBlock∨∀ k,v'.ownBlock=some k→N≤k):(l1 ++ (ob v' ++ l2)).Nodup:=by
 rcases h with h|h
 ·have e:ob v'=ob v:=by unfold ob;rw[h]
  rw[e];exact hn
 ·have hs:(l1 ++ l2).Nodup:=hn.sublist (List.Sublist.append (List.Sublist.refl l1) (List.sublist_append_right _ _))
  cases e:v'.ownBlock with
  | none=>
   have:ob v'=[]:=by unfold ob;rw[e];rfl
   rw[this];exact hs
  | some k=>
   have:ob v'=[k]:=by unfold ob;rw[e];rfl
   rw[this]
   have hk:=h k e
   rw[List.nodup_append] at hs ⊢
   refine⟨hs.1,?_,fun a ha b hb=> ?_⟩
   ·rw[List.singleton_append,List.nodup_cons]
    exact⟨fun hm=> by have:=hl k (by simp[hm]);omega,hs.2.1⟩
   ·rw[List.singleton_append,List.mem_cons] at hb
    rcases hb with rfl|hb
    ·intro e;subst e;have:=hl a (by simp[ha]);omega
    ·exact hs.2.2 a ha b hb
theorem msL_f {P:Nat→Prop} (h:∀ k∈ob vf',P k) (h2:∀ k∈msL bp vf vc vw cv,P k):∀ k∈msL bp vf' vc vw cv,P k:=fun k hk=> by
 unfold msL at hk h2
 simp only[List.mem_cons,List.mem_append] at hk h2
 rcases hk with hk|hk|hk
 ·exact h2 k (.inl hk)
 ·exact h k hk
 ·exact h2 k (.inr (.inr hk))
theorem msL_c {P:Nat→Prop} (h:∀ k∈ob vc',P k) (h2:∀ k∈msL bp vf vc vw cv,P k):∀ k∈msL bp vf vc' vw cv,P k:=fun k hk=> by
 unfold msL at hk h2
 simp only[List.mem_cons,List.mem_append] at hk h2
 rcases hk with hk|hk|hk|hk
 ·exact h2 k (.inl hk)
 ·exact h2 k (.inr (.inl hk))
 ·exact h k hk
 ·exact h2 k (.inr (.inr (.inr hk)))
theorem msL_w {P:Nat→Prop} (h:∀ k∈ob vw',P k) (h2:∀ k∈msL bp vf vc vw cv,P k):∀ k∈msL bp vf vc vw' cv,P k:=fun k hk=> by
 unfold msL at hk h2
 simp only[List.mem_cons,List.mem_append] at hk h2
 rcases hk with hk|hk|hk|hk|hk
 ·exact h2 k (.inl hk)
 ·exact h2 k (.inr (.inl hk))
 ·exact h2 k (.inr (.inr (.inl hk)))
 ·exact h k hk
 ·exact h2 k (.inr (.inr (.inr (.inr hk))))
theorem msL_u {P:Nat→Prop} (h:∀ k∈ubs cv',P k) (h2:∀ k∈msL bp vf vc vw cv,P k):∀ k∈msL bp vf vc vw cv',P k:=fun k hk=> by
 unfold msL at hk h2
 simp only[List.mem_cons,List.mem_append] at hk h2
 rcases hk with hk|hk|hk|hk|hk
 ·exact h2 k (.inl hk)
 ·exact h2 k (.inr (.inl hk))
 ·exact h2 k (.inr (.inr (.inl hk)))
 ·exact h2 k (.inr (.inr (.inr (.inl hk))))
 ·exact h k hk
theorem Im {v v':Value} {N:Nat} {ms:List Nat} (h:v'.ownBlock=v.ownBlock∨∀ k,v'.ownBlock=some k→N≤k) (hm:∀ k∈ob v,k∈ms):∀ k∈ob v',k∈ms∨N≤k:=fun k hk=> by
 rw[AG] at hk
 rcases h with h|h
 ·exact .inl (hm k (AG.2 (by rw[←h];exact hk)))
 ·exact .inr (h k hk)
theorem FV:∀ k∈ob vf,k∈msL bp vf vc vw cv:=fun k hk=> by unfold msL;simp[hk]
theorem FW:∀ k∈ob vc,k∈msL bp vf vc vw cv:=fun k hk=> by unfold msL;simp[hk]
theorem GS:∀ k∈ob vw,k∈msL bp vf vc vw cv:=fun k hk=> by unfold msL;simp[hk]
theorem Gw:∀ k∈ubs cv,k∈msL bp vf vc vw cv:=fun k hk=> by unfold msL;simp[hk]
theorem of_b:bp∈msL bp vf vc vw cv:=List.mem_cons_self
theorem OwnX.bf (h:OwnX w0 m0 xs w bp bt cells vf vc vw fs cv ws ex):∀ k∈ob vf,k≠bp∧k∉ob vc∧k∉ob vw∧k∉ubs cv:=fun k hk=> by
 have hn:=h.nd
 unfold msL at hn
 rw[List.nodup_cons,List.nodup_append] at hn
 simp only[List.mem_append] at hn
 exact⟨fun e=> hn.1 (.inl (e ▸ hk)),fun e=> hn.2.2.2 k hk k (.inl e) rfl,fun e=> hn.2.2.2 k hk k (.inr (.inl e)) rfl,fun e=> hn.2.2.2 k hk k (.inr (.inr e)) rfl⟩
theorem OwnX.bc (h:OwnX w0 m0 xs w bp bt cells vf vc vw fs cv ws ex):∀ k∈ob vc,k≠bp∧k∉ob vf∧k∉ob vw∧k∉ubs cv:=fun k hk=> by
 have hn:=h.nd
 unfold msL at hn
 rw[List.nodup_cons,List.nodup_append,List.nodup_append] at hn
 simp only[List.mem_append] at hn
 exact⟨fun e=> hn.1 (.inr (.inl (e ▸ hk))),fun e=> hn.2.2.2 k e k (.inl hk) rfl,fun e=> hn.2.2.1.2.2 k hk k (.inl e) rfl,fun e=> hn.2.2.1.2.2 k hk k (.inr e) rfl⟩
theorem OwnX.bw (h:OwnX w0 m0 xs w bp bt cells vf vc vw fs cv ws ex):∀ k∈ob vw,k≠bp∧k∉ob vf∧k∉ob vc∧k∉ubs cv:=fun k hk=> by
 have hn:=h.nd
 unfold msL at hn
 rw[List.nodup_cons,List.nodup_append,List.nodup_append,List.nodup_append] at hn
 simp only[List.mem_append] at hn
 exact⟨fun e=> hn.1 (.inr (.inr (.inl (e ▸ hk)))),fun e=> hn.2.2.2 k e k (.inr (.inl hk)) rfl,fun e=> hn.2.2.1.2.2 k e k (.inl hk) rfl,fun e=> hn.2.2.1.2.1.2.2 k hk k e rfl⟩
theorem OwnX.bu (h:OwnX w0 m0 xs w bp bt cells vf vc vw fs cv ws ex):∀ k∈ubs cv,k≠bp∧k∉ob vf∧k∉ob vc∧k∉ob vw:=fun k hk=> by
 have hn:=h.nd
 unfold msL at hn
 rw[List.nodup_cons,List.nodup_append,List.nodup_append,List.nodup_append] at hn
 simp only[List.mem_append] at hn
 exact⟨fun e=> hn.1 (.inr (.inr (.inr (e ▸ hk)))),fun e=> hn.2.2.2 k e k (.inr (.inr hk)) rfl,fun e=> hn.2.2.1.2.2 k e k (.inr hk) rfl,fun e=> hn.2.2.1.2.1.2.2 k e k hk rfl⟩
theorem OwnX.bb (h:OwnX w0 m0 xs w bp bt cells vf vc vw fs cv ws ex):bp∉ob vf∧bp∉ob vc∧bp∉ob vw∧bp∉ubs cv:=by
 have hn:=h.nd
 unfold msL at hn
 rw[List.nodup_cons] at hn
 simp only[List.mem_append] at hn
 exact⟨fun e=> hn.1 (.inl e),fun e=> hn.1 (.inr (.inl e)),fun e=> hn.1 (.inr (.inr (.inl e))),fun e=> hn.1 (.inr (.inr (.inr e)))⟩
theorem OwnX.setB (h:OwnX w0 m0 xs w bp bt cells vf vc vw fs cv ws ex) (hc:Ch (·=bp) w w') (hb:Blk w' bp bt cells'):OwnX w0 m0 xs w' bp bt cells' vf vc vw fs cv ws ex:=by
 have hn:=h.bb
 refine h.step hc (fun k hk=> by have e:k=bp:=hk;subst e;exact of_b) (fun k hk=> .inl hk) h.nd hb
  (fun hf=> h.rf.keep' hc (fun k hk e=> by have e:k=bp:=e;subst e;exact hn.1 (AG.2 hk)) (fun cs a _=> hf cs a))
  (fun hf=> h.rc.keep' hc (fun k hk e=> by have e:k=bp:=e;subst e;exact hn.2.1 (AG.2 hk)) (fun cs a ha=> hf cs a (fun k hk e=> by have e:k=bp:=e;subst e;exact hn.2.2.2 (BW.2 ⟨a,ha,hk⟩))))
  (fun hf=> h.rw.keep' hc (fun k hk e=> by have e:k=bp:=e;subst e;exact hn.2.2.1 (AG.2 hk)) (fun cs a _=> hf cs a))
theorem OwnX.newF (h:OwnX w0 m0 xs w bp bt cells vf vc vw fs cv ws ex) (hc:Ch (fun k=> vf.ownBlock=some k) w w') (hob:vf'.ownBlock=vf.ownBlock∨∀ k,vf'.ownBlock=some k→w.heap.size≤k)
  (hr:(∀ cs f,FlC (Fz xs (msL bp vf vc vw cv) w) w cs f→FlC (Fz xs (msL bp vf' vc vw cv) w') w' cs f)→OwR (FlC (Fz xs (msL bp vf' vc vw cv) w')) 14 45 0 w' vf' fs'):OwnX w0 m0 xs w' bp bt cells vf' vc vw fs' cv ws ex:=by
 have hn:=h.bf
 refine h.step hc (fun k hk=> FV k (AG.2 hk)) (msL_f (Im hob FV) (fun k hk=> .inl hk)) (ES (l1:=[bp]) h.nd h.lt hob) (h.bl.keep hc (fun e=> (hn bp (AG.2 e)).1 rfl)) hr
  (fun hf=> h.rc.keep' hc (fun k hk e=> (hn k (AG.2 e)).2.1 (AG.2 hk)) (fun cs a ha=> hf cs a (fun k hk e=> (hn k (AG.2 e)).2.2.2 (BW.2 ⟨a,ha,hk⟩))))
  (fun hf=> h.rw.keep' hc (fun k hk e=> (hn k (AG.2 e)).2.2.1 (AG.2 hk)) (fun cs a _=> hf cs a))
theorem OwnX.newW (h:OwnX w0 m0 xs w bp bt cells vf vc vw fs cv ws ex) (hc:Ch (fun k=> vw.ownBlock=some k) w w') (hob:vw'.ownBlock=vw.ownBlock∨∀ k,vw'.ownBlock=some k→w.heap.size≤k)
  (hr:(∀ cs f,WrC (Fz xs (msL bp vf vc vw cv) w) w cs f→WrC (Fz xs (msL bp vf vc vw' cv) w') w' cs f)→OwR (WrC (Fz xs (msL bp vf vc vw' cv) w')) 9 56 0 w' vw' ws'):OwnX w0 m0 xs w' bp bt cells vf vc vw' fs cv ws' ex:=by
 have hn:=h.bw
 have e:∀ x,msL bp vf vc x cv=(bp::ob vf ++ ob vc) ++ (ob x ++ ubs cv):=fun x=> by unfold msL;simp
 refine h.step hc (fun k hk=> GS k (AG.2 hk)) (msL_w (Im hob GS) (fun k hk=> .inl hk)) (by rw[e];exact ES (by rw[←e];exact h.nd) (by rw[←e];exact h.lt) hob) (h.bl.keep hc (fun e=> (hn bp (AG.2 e)).1 rfl))
  (fun hf=> h.rf.keep' hc (fun k hk e=> (hn k (AG.2 e)).2.1 (AG.2 hk)) (fun cs a _=> hf cs a))
  (fun hf=> h.rc.keep' hc (fun k hk e=> (hn k (AG.2 e)).2.2.1 (AG.2 hk)) (fun cs a ha=> hf cs a (fun k hk e=> (hn k (AG.2 e)).2.2.2 (BW.2 ⟨a,ha,hk⟩)))) hr
theorem OwnX.newC (h:OwnX w0 m0 xs w bp bt cells vf vc vw fs cv ws ex) (hc:Ch (fun k=> vc.ownBlock=some k) w w') (hob:vc'.ownBlock=vc.ownBlock∨∀ k,vc'.ownBlock=some k→w.heap.size≤k) (hu:ubs cv'=ubs cv)
  (hr:(∀ cs c,c∈cv→CvC (Fz xs (msL bp vf vc vw cv) w) w cs c→CvC (Fz xs (msL bp vf vc' vw cv') w') w' cs c)→OwR (CvC (Fz xs (msL bp vf vc' vw cv') w')) 3 49 0 w' vc' cv'):OwnX w0 m0 xs w' bp bt cells vf vc' vw fs cv' ws ex:=by
 have hn:=h.bc
 have e:∀ x,msL bp vf x vw cv=(bp::ob vf) ++ (ob x ++ (ob vw ++ ubs cv)):=fun x=> by unfold msL;simp
 have e2:∀ x,msL bp vf x vw cv'=msL bp vf x vw cv:=fun x=> by unfold msL;rw[hu]
 refine h.step hc (fun k hk=> FW k (AG.2 hk)) (by rw[e2];exact msL_c (Im hob FW) (fun k hk=> .inl hk)) (by rw[e2,e];exact ES (by rw[←e];exact h.nd) (by rw[←e];exact h.lt) hob) (h.bl.keep hc (fun e=> (hn bp (AG.2 e)).1 rfl))
  (fun hf=> h.rf.keep' hc (fun k hk e=> (hn k (AG.2 e)).2.1 (AG.2 hk)) (fun cs a _=> hf cs a))
  (fun hf=> hr (fun cs c hm=> hf cs c (fun k hk e=> (hn k (AG.2 e)).2.2.2 (BW.2 ⟨c,hm,hk⟩))))
  (fun hf=> h.rw.keep' hc (fun k hk e=> (hn k (AG.2 e)).2.2.1 (AG.2 hk)) (fun cs a _=> hf cs a))
theorem FlC.mono {F G:Nat→Prop} {w:World} {cs:List Value} {f:FileM} (h:FlC F w cs f) (hG:∀ k,F k→G k):FlC G w cs f:=h.keep' (Ch.refl (fun _=> False) w) (fun _ _ e=> e) hG
theorem WrC.mono {F G:Nat→Prop} {w:World} {cs:List Value} {f:WrM} (h:WrC F w cs f) (hG:∀ k,F k→G k):WrC G w cs f:=h.keep' (Ch.refl (fun _=> False) w) (fun _ _ e=> e) hG
theorem CvC.mono {F G:Nat→Prop} {w:World} {cs:List Value} {c:CirV} (h:CvC F w cs c) (hG:∀ k,F k→G k):CvC G w cs c:=h.keep' (Ch.refl (fun _=> False) w) (fun _ _ e=> e) (fun _ _ e=> e) hG
theorem In {w:World} {b b':Nat} {e:TypeId} {size:Nat} {v:Value} {n:Nat} {xs:List Value} (h:w.ownsRow b e size v n xs) (hb:b'≤b):w.ownsRow b' e size v n xs:=by
 obtain⟨h1,h2|⟨g,cap,cur,h3,h4,h5⟩⟩:=h
 ·exact⟨h1,.inl h2⟩
 ·exact⟨h1,.inr ⟨g,cap,cur,h3,Aj hb h4,h5⟩⟩
theorem OwR.mono {α:Type} {C C':World→List Value→α→Prop} {sz B B':Nat} {ty:TypeId} {v:Value} {l:List α} (h:OwR C sz ty B w v l) (hB:B'≤B) (hC:∀ cs,∀ a∈l,C w cs a→C' w cs a):OwR C' sz ty B' w v l:=by
 obtain⟨css,h1,h2,h3⟩:=h
 exact⟨css,In h1 hB,h2,fun j a b=> ⟨(h3 j a b).1,hC _ _ (List.getElem_mem b) (h3 j a b).2⟩⟩
theorem OwnX.keepoff {xs':List Nat} (h:OwnX w0 m0 xs w bp bt cells vf vc vw fs cv ws ex) (hs:∀ k∈xs',k∈xs):OwnX w0 m0 xs' w bp bt cells vf vc vw fs cv ws ex:=by
 have hG:∀ k,Fz xs (msL bp vf vc vw cv) w k→Fz xs' (msL bp vf vc vw cv) w k:=fun k hk=> ⟨⟨fun e=> hk.1.1 (hs k e),hk.1.2⟩,hk.2⟩
 exact⟨h.ch,h.nd,h.sub,fun k hk=> h.ax k (hs k hk),h.bl,h.rf.mono (Ah _) (fun _ _ _ e=> e.mono hG),h.rc.mono (Ah _) (fun _ _ _ e=> e.mono hG),h.rw.mono (Ah _) (fun _ _ _ e=> e.mono hG),fun p hp=> (h.ex p hp).mono hG⟩
theorem OwnX.rsv {g:Nat} (h:OwnX w0 m0 xs w bp bt cells vf vc vw fs cv ws ex) (hb:Below w.heap.size w w') (hg:w.heap.size≤g) (hg':g<w'.heap.size):OwnX w0 m0 (g::xs) w' bp bt cells vf vc vw fs cv ws ex:=by
 have hc:=Ch.of_below (S:=fun _=> False) hb (Ah _)
 have hG:∀ k,Fz xs (msL bp vf vc vw cv) w k→Fz (g::xs) (msL bp vf vc vw cv) w' k:=fun k hk=> ⟨⟨fun e=> by
  rcases List.mem_cons.1 e with rfl|e
  ·have:=hk.2;omega
  ·exact hk.1.1 e,hk.1.2⟩,Ak hk.2 hb.size⟩
 have h':=h.below hb
 refine⟨h'.ch,h.nd,h.sub,fun k hk=> ?_,h'.bl,h.rf.keep' hc (fun _ _ e=> e) (fun cs a _ hf=> hf.keep' hc (fun _ _ e=> e) hG),h.rc.keep' hc (fun _ _ e=> e) (fun cs a _ hf=> hf.keep' hc (fun _ _ e=> e) (fun _ _ e=> e) hG),h.rw.keep' hc (fun _ _ e=> e) (fun cs a _ hf=> hf.keep' hc (fun _ _ e=> e) hG),fun p hp=> TmC.keep' hc (fun _ _ e=> e) hG _ _ (h.ex p hp)⟩
 rcases List.mem_cons.1 hk with rfl|hk
 ·exact⟨fun e=> by have:=h.lt k e;omega,hg'⟩
 ·exact h'.ax k hk
theorem OwnX.setX {g:Nat} (h:OwnX w0 m0 xs w bp bt cells vf vc vw fs cv ws ex) (hg:g∈xs) (h0:w0.heap.size≤g) (hc:Ch (·=g) w w'):OwnX w0 m0 xs w' bp bt cells vf vc vw fs cv ws ex:=by
 have hx:=h.ax g hg
 have hN:∀ k,Fz xs (msL bp vf vc vw cv) w k→¬ (k=g):=fun k hk e=> hk.1.1 (e ▸ hg)
 have hG:∀ k,Fz xs (msL bp vf vc vw cv) w k→Fz xs (msL bp vf vc vw cv) w' k:=fun k hk=> ⟨hk.1,Ak hk.2 hc.size⟩
 refine⟨⟨hc.os.trans h.ch.os,hc.tape.trans h.ch.tape,hc.output.trans h.ch.output,Aj h.ch.size hc.size,fun k hk hn=> ?_⟩,h.nd,h.sub,fun k hk=> ⟨(h.ax k hk).1,Ak (h.ax k hk).2 hc.size⟩,
  h.bl.keep hc (fun e=> hx.1 (e ▸ of_b)),h.rf.keep' hc (fun k hk e=> hx.1 (FV g (AG.2 (e ▸ hk)))) (fun cs a _ hf=> hf.keep' hc hN hG),h.rc.keep' hc (fun k hk e=> hx.1 (FW g (AG.2 (e ▸ hk)))) (fun cs a ha hf=> hf.keep' hc (fun k hk e=> hx.1 (Gw g (BW.2 ⟨a,ha,e ▸ hk⟩))) hN hG),h.rw.keep' hc (fun k hk e=> hx.1 (GS g (AG.2 (e ▸ hk)))) (fun cs a _ hf=> hf.keep' hc hN hG),fun p hp=> TmC.keep' hc hN hG _ _ (h.ex p hp)⟩
 rw[hc.block k (Ak hk h.ch.size) (fun e=> by have e:k=g:=e;omega)]
 exact h.ch.block k hk hn
theorem OwnX.enter (h:OwnX w0 m0 xs w bp bt cells vf vc vw fs cv ws ex):OwnX w (msL bp vf vc vw cv) xs w bp bt cells vf vc vw fs cv ws ex:=
 ⟨Ch.refl _ _,h.nd,fun k hk=> .inl hk,h.ax,h.bl,h.rf,h.rc,h.rw,h.ex⟩
theorem OwnX.leave (h:OwnX w0 m0 xs w bp bt cells vf vc vw fs cv ws ex) (h':OwnX w (msL bp vf vc vw cv) xs w' bp bt cells' vf' vc' vw' fs' cv' ws' ex):OwnX w0 m0 xs w' bp bt cells' vf' vc' vw' fs' cv' ws' ex:=by
 refine⟨⟨h'.ch.os.trans h.ch.os,h'.ch.tape.trans h.ch.tape,h'.ch.output.trans h.ch.output,Aj h.ch.size h'.ch.size,fun k hk hn=> ?_⟩,h'.nd,fun k hk=> ?_,h'.ax,h'.bl,h'.rf,h'.rc,h'.rw,h'.ex⟩
 ·rw[h'.ch.block k (Ak hk h.ch.size) (fun hm=> by
   rcases h.sub k hm with h1|h1
   ·exact hn h1
   ·omega)]
  exact h.ch.block k hk hn
 ·rcases h'.sub k hk with h1|h1
  ·exact h.sub k h1
  ·exact .inr (Aj h.ch.size h1)
theorem OwnX.rebase {bp':Nat} {bt':TypeId} (h:OwnX w0 m0 xs w bp bt cells vf vc vw fs cv ws ex) (hb:Below w.heap.size w w') (hg:w.heap.size≤bp') (hB:Blk w' bp' bt' cells'):OwnX w0 m0 xs w' bp' bt' cells' vf vc vw fs cv ws ex:=by
 have hc:=Ch.of_below (S:=fun _=> False) hb (Ah _)
 have hm:∀ k,k∈msL bp' vf vc vw cv→k=bp'∨k∈msL bp vf vc vw cv:=fun k hk=> by
  unfold msL at hk ⊢
  rcases List.mem_cons.1 hk with e|e
  ·exact .inl e
  ·exact .inr (List.mem_cons_of_mem _ e)
 have hG:∀ k,Fz xs (msL bp vf vc vw cv) w k→Fz xs (msL bp' vf vc vw cv) w' k:=fun k hk=> ⟨⟨hk.1.1,fun e=> (hm k e).elim (fun e=> by have:=hk.2;omega) hk.1.2⟩,Ak hk.2 hb.size⟩
 have h':=h.below hb
 have hn:=h.nd
 unfold msL at hn
 rw[List.nodup_cons] at hn
 refine⟨h'.ch,by unfold msL;rw[List.nodup_cons];exact⟨fun e=> by have:=h.lt bp' (by unfold msL;exact List.mem_cons_of_mem _ e);omega,hn.2⟩,fun k hk=> (hm k hk).elim (fun e=> .inr (by rw[e];exact Aj h.ch.size hg)) (h.sub k),fun k hk=> ⟨fun e=> (hm k e).elim (fun e=> by have:=(h.ax k hk).2;omega) (h.ax k hk).1,(h'.ax k hk).2⟩,hB,
  h.rf.keep' hc (fun _ _ e=> e) (fun cs a _ hf=> hf.keep' hc (fun _ _ e=> e) hG),h.rc.keep' hc (fun _ _ e=> e) (fun cs a _ hf=> hf.keep' hc (fun _ _ e=> e) (fun _ _ e=> e) hG),h.rw.keep' hc (fun _ _ e=> e) (fun cs a _ hf=> hf.keep' hc (fun _ _ e=> e) hG),fun p hp=> TmC.keep' hc (fun _ _ e=> e) hG _ _ (h.ex p hp)⟩
theorem OwnX.putF {g n c i:Nat} (h:OwnX w0 m0 xs w bp bt cells (.slice (some ⟨g,0,none⟩) n c) vc vw fs cv ws ex) (hi:i<fs.length):g<w.heap.size∧∃ cs,cs.length=14∧w.rangeAt g (i* 14) cs∧FlC (Fz xs (msL bp (.slice (some ⟨g,0,none⟩) n c) vc vw cv) w) w cs fs[i]∧w.there g (i* 14) 14∧
  ∀ q new f',q+new.length≤14→FlC (Fz xs (msL bp (.slice (some ⟨g,0,none⟩) n c) vc vw cv) w) w (AW cs q new) f'→OwnX w0 m0 xs (w.setCells g (i* 14+q) new) bp bt cells (.slice (some ⟨g,0,none⟩) n c) vc vw (fs.set i f') cv ws ex:=by
 obtain⟨h1,-,cs,h2,h3,h4,h5,h6⟩:=h.rf.focus hi
 refine⟨h1,cs,h2,h3,h4,h5,fun q new f' hq hf=> ?_⟩
 have hc:=AI g new (i* 14+q) w
 have hc':Ch (fun k=> (Value.slice (some ⟨g,0,none⟩) n c).ownBlock=some k) w (w.setCells g (i* 14+q) new):=hc.mono fun k hk=> by have e:k=g:=hk;subst e;rfl
 exact h.newF hc' (.inl rfl) (fun hk=> h6 q new f' hq _ (hk _ _ hf) (fun cs a _=> hk cs a))
theorem OwnX.putW {g n c i:Nat} (h:OwnX w0 m0 xs w bp bt cells vf vc (.slice (some ⟨g,0,none⟩) n c) fs cv ws ex) (hi:i<ws.length):g<w.heap.size∧∃ cs,cs.length=9∧w.rangeAt g (i* 9) cs∧WrC (Fz xs (msL bp vf vc (.slice (some ⟨g,0,none⟩) n c) cv) w) w cs ws[i]∧w.there g (i* 9) 9∧
  ∀ q new f',q+new.length≤9→WrC (Fz xs (msL bp vf vc (.slice (some ⟨g,0,none⟩) n c) cv) w) w (AW cs q new) f'→OwnX w0 m0 xs (w.setCells g (i* 9+q) new) bp bt cells vf vc (.slice (some ⟨g,0,none⟩) n c) fs cv (ws.set i f') ex:=by
 obtain⟨h1,-,cs,h2,h3,h4,h5,h6⟩:=h.rw.focus hi
 refine⟨h1,cs,h2,h3,h4,h5,fun q new f' hq hf=> ?_⟩
 have hc:=AI g new (i* 9+q) w
 have hc':Ch (fun k=> (Value.slice (some ⟨g,0,none⟩) n c).ownBlock=some k) w (w.setCells g (i* 9+q) new):=hc.mono fun k hk=> by have e:k=g:=hk;subst e;rfl
 exact h.newW hc' (.inl rfl) (fun hk=> h6 q new f' hq _ (hk _ _ hf) (fun cs a _=> hk cs a))
theorem Jk {i:Nat} (hi:i<cv.length):ubs cv=ubs (cv.take i) ++ (cv[i].ub ++ ubs (cv.drop (i+1))):=by
 have e:cv=cv.take i ++ cv[i]::cv.drop (i+1):=by rw[←List.drop_eq_getElem_cons hi,List.take_append_drop]
 have:=congrArg ubs e
 unfold ubs at this ⊢
 rw[List.flatMap_append,List.flatMap_cons] at this
 exact this
theorem JB {i:Nat} (hi:i<cv.length) (c:CirV):ubs (cv.set i c)=ubs (cv.take i) ++ (c.ub ++ ubs (cv.drop (i+1))):=by
 rw[List.set_eq_take_append_cons_drop,if_pos hi]
 unfold ubs
 rw[List.flatMap_append,List.flatMap_cons]
theorem OwnX.putU {g n c i:Nat} {w1:World} {us':List Int} {vu':Value} (h:OwnX w0 m0 xs w bp bt cells vf (.slice (some ⟨g,0,none⟩) n c) vw fs cv ws ex) (hi:i<cv.length)
  (hc:Ch (fun k=> cv[i].own=true∧cv[i].vu.ownBlock=some k) w w1) (hu:w1.ownsRow 0 3 1 vu' us'.length (ofK .i64 us')) (hob:(cv[i].own=true∧vu'.ownBlock=cv[i].vu.ownBlock)∨∀ k,vu'.ownBlock=some k→w.heap.size≤k):
  OwnX w0 m0 xs (w1.setCells g (i* 3+2) [vu']) bp bt cells vf (.slice (some ⟨g,0,none⟩) n c) vw fs (cv.set i ⟨cv[i].n,cv[i].o,us',vu',true⟩) ws ex:=by
 obtain⟨hg,-,cs,h2,h3,h4,h5,h6⟩:=h.rc.focus hi
 have hvc:g∈ob (Value.slice (some ⟨g,0,none⟩) n c):=AG.2 rfl
 have hui:∀ k,(cv[i].own=true∧cv[i].vu.ownBlock=some k)→k∈cv[i].ub:=fun k hk=> by unfold CirV.ub;rw[if_pos hk.1];exact AG.2 hk.2
 have hui2:∀ k∈cv[i].ub,k∈ubs cv:=fun k hk=> BW.2 ⟨_,List.getElem_mem hi,hk⟩
 have hs:=AI g [vu'] (i* 3+2) w1
 have hcc:Ch (fun k=> k=g∨k∈cv[i].ub) w (w1.setCells g (i* 3+2) [vu']):=(hc.mono (fun k hk=> .inr (hui k hk))).trans (hs.mono (fun k hk=> .inl hk))
 have hne:∀ k∈cv[i].ub,k≠g:=fun k hk e=> (h.bu k (hui2 k hk)).2.2.1 (by rw[e];exact hvc)
 have hlt:∀ k∈cv[i].ub,k<w.heap.size:=fun k hk=> h.lt k (Gw k (hui2 k hk))
 have hvg:∀ k,vu'.ownBlock=some k→k≠g:=fun k hk e=> by
  rcases hob with h1|h1
  ·exact hne k (hui k ⟨h1.1,h1.2 ▸ hk⟩) e
  ·have:=h1 k hk;omega
 have hub:∀ k∈ob vu',k∈cv[i].ub∨w.heap.size≤k:=fun k hk=> by
  rw[AG] at hk
  rcases hob with h1|h1
  ·exact .inl (hui k ⟨h1.1,h1.2 ▸ hk⟩)
  ·exact .inr (h1 k hk)
 have hnd2:(ubs cv).Nodup:=by
  have:=h.nd
  unfold msL at this
  rw[List.nodup_cons,List.nodup_append,List.nodup_append,List.nodup_append] at this
  exact this.2.2.1.2.1.2.1
 have hsep:∀ j (hj:j<cv.length),j≠i→∀ k∈cv[j].ub,k∉cv[i].ub:=fun j hj hji k hk hk2=> by
  have e:=Jk hi
  rw[e] at hnd2
  rw[List.nodup_append,List.nodup_append] at hnd2
  rcases Nat.lt_or_gt_of_ne hji with hl|hl
  ·have hm:cv[j]∈cv.take i:=by
    rw[List.mem_take_iff_getElem];exact⟨j,by omega,rfl⟩
   exact hnd2.2.2 k (BW.2 ⟨_,hm,hk⟩) k (List.mem_append_left _ hk2) rfl
  ·have hm:cv[j]∈cv.drop (i+1):=by
    rw[List.mem_drop_iff_getElem];exact⟨j - (i+1),by omega,by congr 1;omega⟩
   exact hnd2.2.1.2.2 k hk2 k (BW.2 ⟨_,hm,hk⟩) rfl
 have hnn:(msL bp vf (.slice (some ⟨g,0,none⟩) n c) vw (cv.set i ⟨cv[i].n,cv[i].o,us',vu',true⟩)).Nodup:=by
  have e1:∀ x,msL bp vf (.slice (some ⟨g,0,none⟩) n c) vw (cv.set i ⟨cv[i].n,cv[i].o,us',x,true⟩)=(bp::ob vf ++ ob (.slice (some ⟨g,0,none⟩) n c) ++ ob vw ++ ubs (cv.take i)) ++ (ob x ++ ubs (cv.drop (i+1))):=fun x=> by
   unfold msL;rw[JB hi];simp[CirV.ub]
  have e2:msL bp vf (.slice (some ⟨g,0,none⟩) n c) vw cv=(bp::ob vf ++ ob (.slice (some ⟨g,0,none⟩) n c) ++ ob vw ++ ubs (cv.take i)) ++ (cv[i].ub ++ ubs (cv.drop (i+1))):=by
   unfold msL;rw[Jk hi];simp
  rw[e1]
  cases ho:cv[i].own with
  | true=>
   have e3:cv[i].ub=ob cv[i].vu:=by unfold CirV.ub;rw[if_pos ho]
   rw[e3] at e2
   exact ES (by rw[←e2];exact h.nd) (by rw[←e2];exact h.lt) (hob.imp (fun h=> h.2) id)
  | false=>
   have e3:cv[i].ub=ob (.slice none 0 0):=by unfold CirV.ub;rw[if_neg (by rw[ho];simp)];rfl
   rw[e3] at e2
   exact ES (by rw[←e2];exact h.nd) (by rw[←e2];exact h.lt) (hob.imp (fun h=> by rw[ho] at h;cases h.1) id)
 have hms:∀ k∈msL bp vf (.slice (some ⟨g,0,none⟩) n c) vw (cv.set i ⟨cv[i].n,cv[i].o,us',vu',true⟩),k∈msL bp vf (.slice (some ⟨g,0,none⟩) n c) vw cv∨w.heap.size≤k:=by
  refine msL_u (fun k hk=> ?_) (fun k hk=> .inl hk)
  rw[JB hi,List.mem_append,List.mem_append] at hk
  have ea:=Jk hi
  rcases hk with hk|hk|hk
  ·exact .inl (Gw k (by rw[ea];exact List.mem_append_left _ hk))
  ·have hk:k∈ob vu':=by simpa [CirV.ub] using hk
   rcases hub k hk with h1|h1
   ·exact .inl (Gw k (hui2 k h1))
   ·exact .inr h1
  ·exact .inl (Gw k (by rw[ea];exact List.mem_append_right _ (List.mem_append_right _ hk)))
 have hSm:∀ k,(k=g∨k∈cv[i].ub)→k∈msL bp vf (.slice (some ⟨g,0,none⟩) n c) vw cv:=fun k hk=> hk.elim (fun e=> by rw[e];exact FW _ hvc) (fun hk=> Gw k (hui2 k hk))
 refine h.step hcc hSm hms hnn ?_ ?_ ?_ ?_
 ·exact h.bl.keep hcc (fun e=> e.elim (fun e=> h.bb.2.1 (by rw[e];exact hvc)) (fun e=> h.bb.2.2.2 (hui2 _ e)))
 ·exact fun hf=> h.rf.keep' hcc (fun k hk e=> e.elim (fun e=> (h.bc g hvc).2.1 (by rw[←e];exact AG.2 hk)) (fun e=> (h.bu k (hui2 k e)).2.1 (AG.2 hk))) (fun cs a _=> hf cs a)
 ·
  intro hf
  obtain⟨css,k1,k2,k3⟩:=h.rc
  have h5':=B7 k2 k3
  have hN:∀ k,Fz xs (msL bp vf (.slice (some ⟨g,0,none⟩) n c) vw cv) w k→¬ (k=g∨k∈cv[i].ub):=fun k hk e=> hk.1.2 (hSm k e)
  have hG:=frz (xs:=xs) hcc.size hms
  have k1':=Ba (e:=49) k1 hc (fun k hk e=> hne k (hui k e) (by have hk:some g=some k:=hk;injection hk with hk;exact hk.symm))
  refine⟨css.set i (AW css[i] 2 [vu']),?_,by rw[List.length_set,List.length_set];exact k2,fun j a b=> ?_⟩
  ·rw[←G3 h5' (by omega) (by simp),List.length_set]
   have:=C8 [vu'] (i* 3+2) w1 _ (n:=cv.length) (cap:=c) (by obtain⟨-,e|⟨_,_,_,e,-⟩⟩:=id k1' <;> (first|(cases e.1)|(cases e;exact k1')))
   obtain⟨-,e|⟨_,_,_,e,-⟩⟩:=id k1'
   ·cases e.1
   ·cases e;exact this
  ·by_cases hij:j=i
   ·subst hij
    rw[List.getElem_set_self,List.getElem_set_self]
    have h0:=k3 j (by omega) hi
    refine⟨by rw[BM];exact h0.1,?_,fun _=> Ba hu hs (fun k hk e=> hvg k hk e),fun e=> by cases e⟩
    rw[h0.2.1];rfl
   ·rw[List.getElem_set_ne (fun e=> hij e.symm),List.getElem_set_ne (fun e=> hij e.symm)]
    have h0:=k3 j (by rw[List.length_set] at a;exact a) (by rw[List.length_set] at b;exact b)
    have hj':j<cv.length:=by rw[List.length_set] at b;exact b
    exact⟨h0.1,hf _ _ (fun k hk e=> e.elim (fun e=> by have h9:=(h.bu k (BW.2 ⟨_,List.getElem_mem hj',hk⟩)).2.2.1;rw[e] at h9;exact h9 hvc) (fun e=> hsep j hj' hij k hk e)) h0.2⟩
 ·exact fun hf=> h.rw.keep' hcc (fun k hk e=> e.elim (fun e=> (h.bc g hvc).2.2.1 (by rw[←e];exact AG.2 hk)) (fun e=> (h.bu k (hui2 k e)).2.2.2 (AG.2 hk))) (fun cs a _=> hf cs a)
end
end Go.Proofs.YtgdlfiphihaooaaGreat

import Derived.Test.YtgdlfiphihaooaaGreatYq19
set_option linter.unusedSimpArgs false
set_option linter.unusedVariables false
set_option maxRecDepth 100000
set_option maxHeartbeats 8000000
open _root_.List renaming getElem?_toArray→Aa,getElem?_cons_zero→Ab,getElem?_cons_succ→Ac,setIfInBounds_toArray→Ad,set_cons_zero→Ae,set_cons_succ→Af
open _root_.Go.Lib renaming hid→Ag
open _root_.Nat renaming le_refl→Ah,le_trans→Aj,lt_of_lt_of_le→Ak
open _root_.And renaming intro→Ai
open _root_.Go.Act renaming put→Al
namespace Go.Proofs.YtgdlfiphihaooaaGreat
open Go Go.RowKit
theorem G4:∀ {l:List Int},BF geN l=true→l.Pairwise (·<·)
 | [],_=> .nil
 | [a],_=> by simp
 | a::b::t,h=> by
  unfold BF at h
  rw[Bool.and_eq_true] at h
  have hab:a<b:=by have:=h.1;unfold geN at this;simp at this;omega
  have ih:=G4 (l:=b::t) h.2
  refine List.Pairwise.cons (fun x hx=> ?_) ih
  rcases List.mem_cons.1 hx with rfl|hx
  ·exact hab
  ·have:=(List.pairwise_cons.1 ih).1 x hx;omega
theorem GB:∀ {l:List CirM},BF (fun x y:CirM=> geN x.n y.n) l=true→(l.map CirM.n).Pairwise (·<·)
 | [],_=> .nil
 | [a],_=> by simp
 | a::b::t,h=> by
  unfold BF at h
  rw[Bool.and_eq_true] at h
  have hab:a.n<b.n:=by have:=h.1;unfold geN at this;simp at this;omega
  have ih:=GB (l:=b::t) h.2
  rw[List.map_cons] at ih ⊢
  refine List.Pairwise.cons (fun x hx=> ?_) ih
  rcases List.mem_cons.1 hx with rfl|hx
  ·exact hab
  ·have:=(List.pairwise_cons.1 ih).1 x hx;omega
theorem DH:∀ {l:List Int} {lo hi:Int},l.Pairwise (·<·)→(∀ x∈l,lo≤x∧x≤hi)→(l.length:Int)≤max 0 (hi - lo+1)
 | [],lo,hi,_,_=> by simp;omega
 | x::t,lo,hi,hp,ha=> by
  rw[List.pairwise_cons] at hp
  have ih:=DH (lo:=x+1) (hi:=hi) hp.2 (fun y hy=> ⟨by have:=hp.1 y hy;omega,(ha y (List.mem_cons_of_mem _ hy)).2⟩)
  have h0:=ha x List.mem_cons_self
  rw[List.length_cons]
  omega
structure ChkP (s:IdM):Prop where
 fl:s.fs.length≤6
 wl:s.ws.length≤400
 fr:BF (fun x y:FileM=> geS x.nm y.nm) s.fs=true
 cr:BF (fun x y:CirM=> geN x.n y.n) s.cs=true
 c:∀ c∈s.cs,Er c=true
 f:∀ f∈s.fs,Dr s f=true
 w:∀ x∈s.ws,wrB x=true
theorem CO {s:IdM}:Es s=true↔ChkP s:=by
 unfold Es Hm upB
 simp only[Bool.and_eq_true,decide_eq_true_eq,List.all_eq_true]
 exact⟨fun ⟨⟨⟨⟨⟨a,b⟩,c,d⟩,e⟩,f⟩,g⟩=> ⟨a,b,c,d,e,f,g⟩,fun h=> ⟨⟨⟨⟨⟨h.fl,h.wl⟩,h.fr,h.cr⟩,h.c⟩,h.f⟩,h.w⟩⟩
theorem El {c:CirM} (h:Er c=true):1≤c.n∧c.n≤3∧AX c.o=true∧c.us.Pairwise (·<·)∧(∀ u∈c.us,AX u=true):=by
 unfold Er at h
 simp only[Bool.and_eq_true,decide_eq_true_eq,Bool.not_eq_true',List.any_eq_false,Bool.not_eq_true,Bool.not_eq_false'] at h
 obtain⟨h1,h2,h3,h4,h5⟩:=h
 exact⟨h1,h2,h3,G4 h4,fun u hu=> by have:=h5 u hu;simpa using this⟩
theorem DI {u:Int} (h:AX u=true):1≤u∧u≤6:=by unfold AX at h;simpa using h
theorem Kf {u:Int} (h:BD u=true):1≤u∧u≤3:=by unfold BD at h;simpa using h
theorem Hn {c:CirM} (h:Er c=true):c.us.length≤6:=by
 obtain⟨-,-,-,h4,h5⟩:=El h
 have:=DH h4 (fun x hx=> DI (h5 x hx))
 omega
theorem ChkP.cl {s:IdM} (h:ChkP s):s.cs.length≤3:=by
 have:=DH (GB h.cr) (lo:=1) (hi:=3) (fun x hx=> by
  obtain⟨c,hc,rfl⟩:=List.mem_map.1 hx
  have:=El (h.c c hc)
  exact⟨this.1,this.2.1⟩)
 rw[List.length_map] at this
 omega
theorem KQ (k:Int):EI k≤3:=by
 unfold EI
 repeat (first|omega|split)
theorem Kg {k u n:Int} {s:ByteArray} {l:Nat} (h:Cy k u n s l=true):l≤10:=by
 have hk:=KQ k
 unfold Cy Kw at h
 simp only[Bool.and_eq_true,beq_iff_eq] at h
 have:(l:Int)=(EI k:Int):=by simp_all
 omega
theorem G5:∀ (ts:List Tm),(∀ t∈ts,∀ d l,(BP t d l).1=true→Ff t=true)→∀ d l,(C6 ts d l).1=true→FA ts=true
 | [],_,_,_,_=> by rw[FA]
 | t::ts,ih,d,l,h=> by
  rw[DS] at h
  rw[FA,Bool.and_eq_true]
  by_cases hk:(BP t d l).1=true
  ·rw[if_pos hk] at h
   exact⟨ih t List.mem_cons_self d l hk,G5 ts (fun t ht=> ih t (List.mem_cons_of_mem _ ht)) d _ h⟩
  ·rw[if_neg hk] at h;cases h
theorem Kh:∀ (t:Tm) (d l:Int),(BP t d l).1=true→Ff t=true:=by
 refine Tm.ind fun k u n s ks ih d l h=> ?_
 rw[BP] at h
 by_cases hk:l - 1<0∨60<d∨Cy k u n s ks.length=false
 ·rw[if_pos hk] at h;cases h
 ·rw[if_neg hk] at h
  rw[Ff,Bool.and_eq_true]
  have hp:Cy k u n s ks.length=true:=by
   cases e:Cy k u n s ks.length with
   | true=> rfl
   | false=> exact absurd (.inr (.inr e)) hk
  exact⟨decide_eq_true (Kg hp),G5 ks ih _ _ h⟩
theorem EU {t:Tm} (h:Dg t=true):Ff t=true:=by
 unfold Dg D5 at h
 rw[Bool.and_eq_true] at h
 have h1:=h.1
 by_cases hs:DX t=0
 ·rw[if_pos hs] at h1;simp at h1
 ·unfold DX at hs
  by_cases hw:(BP t 1 1200).1=true
  ·exact Kh t 1 1200 hw
  ·rw[if_neg hw] at hs;exact absurd rfl hs
theorem Ec {x:WrM} (h:wrB x=true):0<BI x.nm∧1≤x.v∧x.v≤9999∧1≤x.e∧x.e≤8∧AX x.u=true∧Dg x.b=true:=by
 unfold wrB at h
 simp only[Bool.and_eq_true,decide_eq_true_eq] at h
 exact h
theorem Bq {s:IdM} {f:FileM} (h:Dr s f=true):OkP f.p∧BI f.nm=f.p.o∧f.e≤f.p.e∧wrB (Bl f)=true∧∀ n∈f.p.g,DG s f.p.o n=true:=by
 unfold Dr at h
 simp only[Bool.and_eq_true,decide_eq_true_eq,beq_iff_eq,List.all_eq_true] at h
 exact⟨DW.1 h.1.1,h.1.2.1,h.1.2.2.1,h.1.2.2.2,h.2⟩
theorem OkP.pml {p:PmD} (h:OkP p):PmL p:=by
 have h1:=Fi.1 h.r
 have h2:=Fi.1 h.q
 have h3:=Fi.1 h.g
 have hu:∀ x,BE p.o x=true→1≤x∧x≤6:=fun x hx=> by unfold BE at hx;rw[Bool.and_eq_true] at hx;exact DI hx.1
 have l1:=DH h1.1 (fun x hx=> hu x (h1.2 x hx))
 have l2:=DH h2.1 (fun x hx=> hu x (h2.2 x hx))
 have l3:=DH h3.1 (fun x hx=> Kf (h3.2 x hx))
 refine⟨?_,?_,?_⟩ <;> omega
theorem PmL.pmn {p:PmD} (h:PmL p):PmN p:=⟨by have:=h.1;omega,by have:=h.2.1;omega,by have:=h.2.2;omega⟩
theorem ChkP.few {s:IdM} (h:ChkP s):FewI s:=
 ⟨fun f hf=> by
  have hp:=Bq (h.f f hf)
  exact⟨hp.1.pml.pmn,EU (Ec hp.2.2.2.1).2.2.2.2.2.2⟩,fun c hc=> by have:=Hn (h.c c hc);omega,fun x hx=> EU (Ec (h.w x hx)).2.2.2.2.2.2,by have:=h.fl;omega,by have:=h.cl;omega,by have:=h.wl;omega⟩
theorem ChkP.bel {s:IdM} (h:ChkP s):(BX s.cs).length≤1000000:=by
 have:∀ l:List CirM,(∀ c∈l,Er c=true)→(BX l).length≤6* l.length:=by
  intro l
  induction l with
  | nil=> intro _;simp[BX]
  | cons c t ih=>
   intro hl
   have h1:=Hn (hl c List.mem_cons_self)
   have h2:=ih (fun c hc=> hl c (List.mem_cons_of_mem _ hc))
   unfold BX at h2 ⊢
   rw[List.flatMap_cons,List.length_append,List.length_map,List.length_cons]
   omega
 have h1:=this s.cs h.c
 have h2:=h.cl
 omega
def BY {α:Type} (l:List α) (i:Nat) (x:α):List α:=l.take i ++ x::l.drop i
def A3 (e:Int):ResM:=⟨e,0,0,tm0⟩
def Bm (s:IdM) (nm:ByteArray):Nat × Bool:=AU (fun x=> BS x.nm nm) s.fs
def BB (f:FileM) (o:OpM):FileM:=⟨f.nm,f.p,f.v+1,f.p.e,o.u,o.b⟩
def Cs (o:OpM):FileM:=⟨o.nm,(I3 o.u).1,0,0,0,tm0⟩
def Cg (s:IdM) (o:OpM):IdM × ResM:=
 if BI o.nm≠o.u then (s,A3 2) else if (Bm s o.nm).2=true then (s,A3 5) else if s.fs.length=6∨s.ws.length=400 then (s,A3 6)
 else (⟨BY s.fs (Bm s o.nm).1 (BB (Cs o) o),s.cs,s.ws ++ [Bl (BB (Cs o) o)]⟩,A3 0)
def Bt (s:IdM) (o:OpM):IdM × ResM:=
 if (Bm s o.nm).2=false then (s,A3 4) else match s.fs[(Bm s o.nm).1]? with
 | none=> (s,A3 4)
 | some f=>
  if o.k=3∧CC f.p o.u (BX s.cs)=true then (s,⟨0,f.v,f.u,f.b⟩)
  else if o.k=3∨Dt f.p o.u=false then (s,A3 280)
  else if f.v=9999∨s.ws.length=400 then (s,A3 6)
  else (⟨s.fs.set (Bm s o.nm).1 (BB f o),s.cs,s.ws ++ [Bl (BB f o)]⟩,A3 0)
def BV (s:IdM) (p:PmD) (o:OpM):PmD × Int:=
 if o.k=4 then Bj p (B9 p o.u o.t o.wr)
 else if o.k=5 then Bj p (Cv p o.u o.t)
 else if o.k=6 then (if (By s o.g).2=false then (p,4) else if ((s.cs[(By s o.g).1]?.map CirM.o).getD 0)≠o.u then (p,211) else Bj p (Cn p o.u o.g))
 else if o.k=7 then Bj p (CY p o.u o.g)
 else (p,0)
def Bf (s:IdM) (o:OpM):IdM × ResM:=
 if (Bm s o.nm).2=false then (s,A3 4) else match s.fs[(Bm s o.nm).1]? with
 | none=> (s,A3 4)
 | some f=> if (BV s f.p o).2≠0 then (s,A3 (BV s f.p o).2) else (⟨s.fs.set (Bm s o.nm).1 ⟨f.nm,(BV s f.p o).1,f.v,f.e,f.u,f.b⟩,s.cs,s.ws⟩,A3 0)
def Dn (s:IdM) (o:OpM):IdM × ResM:=
 if o.g<1∨3<o.g then (s,A3 2) else if (By s o.g).2=true then (s,A3 5) else (⟨s.fs,BY s.cs (By s o.g).1 ⟨o.g,o.u,[]⟩,s.ws⟩,A3 0)
def Do (g:Int) (f:FileM):FileM:=if f.p.g.any (g==·)=true then ⟨f.nm,(Bj f.p (BQ f.p)).1,f.v,f.e,f.u,f.b⟩ else f
def CT (g:Int):List FileM→Int
 | []=> 0
 | f::t=> if f.p.g.any (g==·)=true∧(Bj f.p (BQ f.p)).2≠0 then (Bj f.p (BQ f.p)).2 else CT g t
def BZ (s:IdM) (o:OpM):IdM × ResM:=
 if (By s o.g).2=false then (s,A3 4) else match s.cs[(By s o.g).1]? with
 | none=> (s,A3 4)
 | some c=>
  if c.o≠o.u then (s,A3 211)
  else if o.k=9∧AX o.t=false then (s,A3 2)
  else if o.k=9∧c.us.any (o.t==·)=true then (s,A3 5)
  else if o.k=9 then (⟨s.fs,s.cs.set (By s o.g).1 ⟨c.n,c.o,Cr c.us (B1 c.us o.t) o.t⟩,s.ws⟩,A3 0)
  else if c.us.any (o.t==·)=false then (s,A3 4)
  else if CT o.g s.fs≠0 then (s,A3 (CT o.g s.fs))
  else (⟨s.fs.map (Do o.g),s.cs.set (By s o.g).1 ⟨c.n,c.o,c.us.eraseIdx (B1 c.us o.t)⟩,s.ws⟩,A3 0)
def Bp (s:IdM) (o:OpM):IdM × ResM:=
 if o.k=1 then Cg s o else if o.k=2∨o.k=3 then Bt s o else if o.k=8 then Dn s o else if o.k=9∨o.k=10 then BZ s o else Bf s o
def opB (o:OpM):Bool:=(decide (1≤o.k) && (decide (o.k≤10) && AX o.u)) && ((decide (7<o.k) ||decide (0<BI o.nm)) && (decide (2<o.k) ||Dg o.b))
theorem Ck {α:Type} {l:List α} {i:Nat} {x:α} (h:i≤l.length):(BY l i x).length=l.length+1:=by
 unfold BY;rw[List.length_append,List.length_take,List.length_cons,List.length_drop];omega
theorem Iw {α:Type} {l:List α} {i:Nat} {x:α} (h:i≤l.length) (j:Nat) (hj:j<(BY l i x).length):(BY l i x)[j]=if h1:j<i then l[j]'(by omega) else if h2:j=i then x else l[j - 1]'(by rw[Ck h] at hj;omega):=by
 have hl:(l.take i).length=i:=by rw[List.length_take];omega
 have hlen:=Ck (x:=x) h
 have key:(BY l i x)[j]?=some (if h1:j<i then l[j]'(by omega) else if h2:j=i then x else l[j - 1]'(by rw[Ck h] at hj;omega)):=by
  show(l.take i ++ x::l.drop i)[j]?=_
  by_cases h1:j<i
  ·rw[dif_pos h1,List.getElem?_append_left (by omega),List.getElem?_take,if_pos h1,List.getElem?_eq_getElem]
  ·rw[dif_neg h1,List.getElem?_append_right (by omega),hl]
   by_cases h2:j=i
   ·rw[dif_pos h2,h2,Nat.sub_self];rfl
   ·rw[dif_neg h2,show j - i=(j - 1 - i)+1 by omega,Ac,List.getElem?_drop,show i+(j - 1 - i)=j - 1 by omega,List.getElem?_eq_getElem]
 rw[List.getElem?_eq_getElem hj] at key
 exact Option.some.inj key
theorem KR {sz:Nat} {css:List (List Value)} {i:Nat} {X:List Value} (hl:∀ c∈css,c.length=sz) (hi:i≤css.length):css.flatten.take (i* sz) ++ X ++ css.flatten.drop (i* sz)=(BY css i X).flatten:=by
 have hp:(css.take i).flatten.length=i* sz:=by
  rw[BC (fun x hx=> hl x (List.mem_of_mem_take hx)),List.length_take,Nat.min_eq_left hi]
 have e:css.flatten=(css.take i).flatten ++ (css.drop i).flatten:=by rw[←List.flatten_append,List.take_append_drop]
 rw[e,←hp,List.take_left,List.drop_left]
 unfold BY
 rw[List.flatten_append,List.flatten_cons,List.append_assoc]
theorem OwR.insd {α:Type} {C C':World→List Value→α→Prop} {sz B:Nat} {ty:TypeId} {w':World} {v':Value} {l:List α} {css:List (List Value)} {i:Nat} {X:List Value} {x:α} {P:List Value→α→Prop}
  (h2:css.length=l.length) (h3:∀ j (h1:j<css.length) (h2:j<l.length),css[j].length=sz∧P css[j] l[j]) (hi:i≤l.length) (hX:X.length=sz) (hx:P X x) (hC:∀ cs a,P cs a→C' w' cs a)
  (hown:w'.ownsRow B ty sz v' (l.length+1) (css.flatten.take (i* sz) ++ X ++ css.flatten.drop (i* sz))):OwR C' sz ty B w' v' (BY l i x):=by
 have h5:=B7 h2 h3
 refine⟨BY css i X,by rw[Ck hi,←KR h5 (by omega)];exact hown,by rw[Ck hi,Ck (by omega),h2],fun j a b=> ?_⟩
 rw[Iw (by omega) j a,Iw hi j b]
 by_cases h1:j<i
 ·rw[dif_pos h1,dif_pos h1]
  have:=h3 j (by omega) (by omega)
  exact⟨this.1,hC _ _ this.2⟩
 ·rw[dif_neg h1,dif_neg h1]
  by_cases h6:j=i
  ·rw[dif_pos h6,dif_pos h6]
   exact⟨hX,hC _ _ hx⟩
  ·rw[dif_neg h6,dif_neg h6]
   rw[Ck hi] at b
   have:=h3 (j - 1) (by omega) (by omega)
   exact⟨this.1,hC _ _ this.2⟩
section
variable {w0 w w':World} {m0 xs:List Nat} {bp:Nat} {bt:TypeId} {cells cells':List Value} {vf vc vw vf' vc' vw':Value} {fs fs':List FileM} {cv cv':List CirV} {ws ws':List WrM} {ex:List (List Value × Tm)}
theorem JD {α:Type} {C:World→List Value→α→Prop} {sz:Nat} {css:List (List Value)} {l:List α} (h2:css.length=l.length) (h3:∀ j (h1:j<css.length) (h2:j<l.length),css[j].length=sz∧C w css[j] l[j]) (hone:∀ cs a,C w cs a→∀ u∈cs,u.oneCell'=true):∀ u∈css.flatten,u.oneCell'=true:=fun u hu=> by
 obtain⟨cs,hcs,hu⟩:=List.mem_flatten.1 hu
 obtain⟨j,hj,rfl⟩:=List.mem_iff_getElem.1 hcs
 exact hone _ _ (h3 j hj (by omega)).2 u hu
theorem OwnX.insF {vb i:Nat} {X:List Value} {f:FileM} (h:OwnX w0 m0 xs w bp bt cells vf vc vw fs cv ws ex) (hb:Blk w vb 45 X) (hf:FlC (Fz xs (msL bp vf vc vw cv) w) w X f) (hv:∀ k,vf.ownBlock=some k→k≠vb) (hn:fs.length≤1000000) (hi:i≤fs.length):
  Calls Tryz.prog 93 #[vf,.int .i64 i,.slice (some ⟨vb,0,none⟩) 1 1] w (fun e w'=> ∃ ao c,e=.returned (.slice ao (fs.length+1) c)∧OwnX w0 m0 xs w' bp bt cells (.slice ao (fs.length+1) c) vc vw (BY fs i f) cv ws ex∧Ch (fun k=> vf.ownBlock=some k) w w'):=by
 obtain⟨css,h1,h2,h3⟩:=h.rf
 have h5:=B7 h2 h3
 have h6:∀ u∈css.flatten,u.oneCell'=true:=JD h2 h3 (fun _ _ h=> h.one)
 have hcl:css.flatten.length=fs.length* 14:=by rw[BC h5,h2]
 have key:Calls Tryz.prog 93 #[vf,.int .i64 i,.slice (some ⟨vb,0,none⟩) 1 1] w (GU 0 45 14 vf (fs.length+1) (css.flatten.take (i* 14) ++ X ++ css.flatten.drop (i* 14)) w):=by
  by_cases hin:i<fs.length
  ·exact Ip 0 vb i X css.flatten fs.length vf w h1 (Nat.zero_le _) hb hf.len hf.one h6 hv hn hin
  ·obtain rfl:i=fs.length:=by omega
   have e:css.flatten.take (fs.length* 14) ++ X ++ css.flatten.drop (fs.length* 14)=css.flatten ++ X:=by rw[←hcl,List.take_length,List.drop_length,List.append_nil]
   rw[e]
   exact Io 0 vb X css.flatten fs.length vf w h1 (Nat.zero_le _) hb hf.len hf.one hn
 refine key.mono ?_
 rintro e w' ⟨ao,c,rfl,hown,hc,hob⟩
 refine⟨ao,c,rfl,h.newF hc hob (fun hk=> ?_),hc⟩
 exact OwR.insd (C:=FlC (Fz xs (msL bp vf vc vw cv) w)) h2 h3 hi hf.len hf hk hown
theorem OwnX.insC {vb i:Nat} {X:List Value} {c:CirV} (h:OwnX w0 m0 xs w bp bt cells vf vc vw fs cv ws ex) (hb:Blk w vb 49 X) (hf:CvC (Fz xs (msL bp vf vc vw cv) w) w X c) (hu:c.ub=[]) (hv:∀ k,vc.ownBlock=some k→k≠vb) (hn:cv.length≤1000000) (hi:i≤cv.length):
  Calls Tryz.prog 95 #[vc,.int .i64 i,.slice (some ⟨vb,0,none⟩) 1 1] w (fun e w'=> ∃ ao q,e=.returned (.slice ao (cv.length+1) q)∧OwnX w0 m0 xs w' bp bt cells vf (.slice ao (cv.length+1) q) vw fs (BY cv i c) ws ex∧Ch (fun k=> vc.ownBlock=some k) w w'):=by
 obtain⟨css,h1,h2,h3⟩:=h.rc
 have h5:=B7 h2 h3
 have h6:∀ u∈css.flatten,u.oneCell'=true:=JD h2 h3 (fun _ _ h=> h.one)
 have hcl:css.flatten.length=cv.length* 3:=by rw[BC h5,h2]
 have hX:X.length=3:=hf.cic.len
 have key:Calls Tryz.prog 95 #[vc,.int .i64 i,.slice (some ⟨vb,0,none⟩) 1 1] w (GU 0 49 3 vc (cv.length+1) (css.flatten.take (i* 3) ++ X ++ css.flatten.drop (i* 3)) w):=by
  by_cases hin:i<cv.length
  ·exact Ir 0 vb i X css.flatten cv.length vc w h1 (Nat.zero_le _) hb hX hf.one h6 hv hn hin
  ·obtain rfl:i=cv.length:=by omega
   have e:css.flatten.take (cv.length* 3) ++ X ++ css.flatten.drop (cv.length* 3)=css.flatten ++ X:=by rw[←hcl,List.take_length,List.drop_length,List.append_nil]
   rw[e]
   exact Iq 0 vb X css.flatten cv.length vc w h1 (Nat.zero_le _) hb hX hf.one hn
 refine key.mono ?_
 rintro e w' ⟨ao,q,rfl,hown,hc,hob⟩
 have hub:ubs (BY cv i c)=ubs cv:=by
  unfold ubs BY
  rw[List.flatMap_append,List.flatMap_cons,hu,List.nil_append,←List.flatMap_append,List.take_append_drop]
 refine⟨ao,q,rfl,h.newC hc hob hub (fun hk=> ?_),hc⟩
 refine OwR.insd (C:=CvC (Fz xs (msL bp vf vc vw cv) w)) (P:=fun cs a=> (a∈cv∨a=c)∧CvC (Fz xs (msL bp vf vc vw cv) w) w cs a) h2 (fun j a b=> ⟨(h3 j a b).1,.inl (List.getElem_mem b),(h3 j a b).2⟩) hi hX ⟨.inr rfl,hf⟩ (fun cs a ha=> ?_) hown
 rcases ha.1 with hm|rfl
 ·exact hk cs a hm ha.2
 ·refine ha.2.keep' hc (fun k hk'=> by rw[hu] at hk';cases hk') (fun k hk' e=> hk'.1.2 (FW k (AG.2 e))) (frz hc.size ?_)
  intro k hk'
  have e2:msL bp vf (.slice ao (cv.length+1) q) vw (BY cv i a)=msL bp vf (.slice ao (cv.length+1) q) vw cv:=by unfold msL;rw[hub]
  rw[e2] at hk'
  exact msL_c (Im hob FW) (fun k hk=> .inl hk) k hk'
theorem OwnX.pm (h:OwnX w0 m0 xs w bp bt cells vf vc vw fs cv ws ex) (hb:Below w.heap.size w w') {p:PmD} {vr vq vg:Value} (hp:PmS w' p vr vq vg) (ha:BH w.heap.size vr vq vg):PmF (Fz xs (msL bp vf vc vw cv) w') w' p vr vq vg:=by
 have key:∀ (v:Value) (l:List Int),Sl w' v (ofK .i64 l)→Abv w.heap.size v→SlI (Fz xs (msL bp vf vc vw cv) w') w' v l:=fun v l hs hv=> by
  have h1:SlI (w.heap.size≤·) w' v l:=⟨hs,fun k _ hk=> hv k hk⟩
  have h2:=h1.old'
  exact⟨h2.1,fun k h0 hk=> h.new hb k (h2.2 k h0 hk)⟩
 exact⟨key _ _ hp.1 ha.1,key _ _ hp.2.1 ha.2.1,key _ _ hp.2.2 ha.2.2⟩
end
def G6 (w0:World) (m0 xs:List Nat) (bp:Nat) (bt:TypeId) (ex:List (List Value × Tm)) (sr:IdM × ResM) (e:Ending) (w':World):Prop:=
 ∃ rtc vf vc vw cv,e=.returned (.agg (AD sr.2.e sr.2.v sr.2.u rtc).toArray)∧cv.map CirV.m=sr.1.cs∧(∀ c∈cv,c.own=true)∧OwnX w0 m0 xs w' bp bt [vf,vc,vw] vf vc vw sr.1.fs cv sr.1.ws ((rtc,sr.2.b)::ex)
theorem SlI.empty {F:Nat→Prop} {w W:World} {v:Value} (h:Sl w v (ofK .i64 ([]:List Int))):SlI F W v []:=by
 refine⟨?_,fun k h0=> absurd h0 (by simp)⟩
 rcases h with h|⟨ad,c,k1,k2,k3,k4⟩
 ·exact .inl h
 ·exact .inr ⟨ad,c,k1,k2,k3,fun j u hu=> by simp[ofK] at hu⟩
theorem bsI_le {c:Nat→Int}:∀ (n lo hi:Nat),hi - lo≤n→lo≤hi→bsI c lo hi≤hi:=by
 intro n
 induction n with
 | zero=> intro lo hi h1 h2;rw[Ej (by omega)];exact h2
 | succ n ih=>
  intro lo hi h1 h2
  by_cases hl:lo<hi
  ·by_cases hc:c ((lo+hi) / 2)<0
   ·rw[Hl hl hc];exact ih _ _ (by omega) (by omega)
   ·rw[EQ hl hc];have:=ih lo ((lo+hi) / 2) (by omega) (by omega);omega
  ·rw[Ej hl];exact h2
theorem Ho {α:Type} (c:α→Int) (l:List α):(AU c l).1≤l.length:=bsI_le _ 0 l.length (Ah _) (Nat.zero_le _)
theorem Iy {α:Type} {l:List α} {i:Nat} {x y:α} (h:i≤l.length):(BY l i x).set i y=BY l i y:=by
 have hl:(l.take i).length=i:=by rw[List.length_take];omega
 unfold BY
 rw[List.set_append_right _ _ (by omega),hl,Nat.sub_self];rfl
theorem LF {p:OpM} (h:opB p=true):AX p.u=true:=by
 unfold opB at h
 simp only[Bool.and_eq_true] at h
 exact h.1.2.2
theorem JE {p:OpM} (h:opB p=true) (hk:p.k≤2):Ff p.b=true∧Dg p.b=true:=by
 unfold opB at h
 simp only[Bool.and_eq_true,Bool.or_eq_true,decide_eq_true_eq] at h
 have:Dg p.b=true:=by rcases h.2.2 with h1|h1 <;> (first|omega|exact h1)
 exact⟨EU this,this⟩
theorem DZ (w:World) {ops:Array Oper} {rest:List Oper} {o:Oper} {a:Act} {Q:Exit→Act→World→Prop} (hgd:o.guard=none) (x:Operand) (ho:o.op=.buildSlice 22 1 #[(0,x)]) (cs:List Value) (hcs:cs.length=14)
  (hx:a.eval x=.agg cs.toArray) (h:∀ w',Blk w' w.heap.size 45 cs→Below w.heap.size w w'→w'.heap.size=w.heap.size+1→wpList Tryz.prog ops Q rest (a.put o.dst (.slice (some ⟨w.heap.size,0,none⟩) 1 1)) w'):wpList Tryz.prog ops Q (o::rest) a w:=
 Bk w hgd 22 x ho Tryz.underlying22 (fun w=> by kernel_rfl) Tryz.zeroFl14 (by decide) (by decide) cs hcs hx h
theorem Tryz.buildfil (nm:ByteArray) (u e:Int) (ra:Option Addr) (rl rc:Nat) (qa:Option Addr) (ql qc:Nat) (ga:Option Addr) (gl gc:Nat):∀ w,(Instr.build 45 #[(0,.string nm),(1,.agg (pmC u e (.slice ra rl rc) (.slice qa ql qc) (.slice ga gl gc)).toArray)]).run Tryz.prog w=.ok (.agg (flC nm u e (.slice ra rl rc) (.slice qa ql qc) (.slice ga gl gc) 0 0 0 (tmC 0 0 0 ⟨#[]⟩ (.slice none 0 0))).toArray) w:=fun w=> by kernel_rfl
theorem Fk {ops:Array Oper} {rest:List Oper} {op:Oper} {a:Act} {w:World} {Q:Exit→Act→World→Prop} (hgd:op.guard=none) (x0 x1:Operand) (ho:op.op=.build 45 #[(0,x0),(1,x1)])
  (nm:ByteArray) (u e:Int) (ra:Option Addr) (rl rc:Nat) (qa:Option Addr) (ql qc:Nat) (ga:Option Addr) (gl gc:Nat) (h0:a.eval x0=.string nm) (h1:a.eval x1=.agg (pmC u e (.slice ra rl rc) (.slice qa ql qc) (.slice ga gl gc)).toArray)
  (h:wpList Tryz.prog ops Q rest (a.put op.dst (.agg (flC nm u e (.slice ra rl rc) (.slice qa ql qc) (.slice ga gl gc) 0 0 0 (tmC 0 0 0 ⟨#[]⟩ (.slice none 0 0))).toArray)) w):wpList Tryz.prog ops Q (op::rest) a w:=by
 refine wpList_plain hgd fun K hK=> ?_
 have hrun:(execOp a.eval op).run Tryz.prog w=.ok (.value (.agg (flC nm u e (.slice ra rl rc) (.slice qa ql qc) (.slice ga gl gc) 0 0 0 (tmC 0 0 0 ⟨#[]⟩ (.slice none 0 0))).toArray)) w:=by
  unfold execOp
  simp only[ho]
  rw[show((#[((0:Nat),x0),(1,x1)]:Array (Nat × Operand)).map fun (i,x)=> (i,a.eval x))=#[(0,.string nm),(1,.agg (pmC u e (.slice ra rl rc) (.slice qa ql qc) (.slice ga gl gc)).toArray)] by simp[h0,h1]]
  simp[Tryz.buildfil,Result.andThen]
 unfold Oper.wp
 rw[hrun]
 exact hK _ _ h
theorem Jl (p:OpM) (tco:List Value) {w0 w:World} {m0 xs:List Nat} {bp:Nat} {vf vc vw:Value} {fs:List FileM} {cv:List CirV} {ws:List WrM} {ex:List (List Value × Tm)}
  (h:OwnX w0 m0 xs w bp 97 [vf,vc,vw] vf vc vw fs cv ws ex) (hb:(tco,p.b)∈ex) (hk:ChkP (⟨fs,cv.map CirV.m,ws⟩:IdM)) (ho:opB p=true) (hall:∀ c∈cv,c.own=true) (hk1:p.k≤2):
  Calls Tryz.prog 76 #[.pointer (some ⟨bp,0,none⟩),.agg (opC p tco).toArray] w (G6 w0 m0 xs bp 97 ex (Cg (⟨fs,cv.map CirV.m,ws⟩:IdM) p)):=by
 obtain⟨af,cf,rfl,hf1,hf2⟩:=h.rf.shape
 obtain⟨ac,cc,rfl,hc1,hc2⟩:=h.rc.shape
 obtain⟨aw,cw,rfl,hw1,hw2⟩:=h.rw.shape
 obtain⟨fn,hfn⟩:∃ n,fs.length=n:=⟨_,rfl⟩
 obtain⟨cn,hcn⟩:∃ n,cv.length=n:=⟨_,rfl⟩
 obtain⟨wn,hwn⟩:∃ n,ws.length=n:=⟨_,rfl⟩
 have HN:=Ag (Ai hfn (Ai hcn hwn))
 have hfl:fn≤6:=by have:=hk.fl;simp only at this;omega
 have hcl:cn≤3:=by have:=hk.cl;simp only[List.length_map] at this;omega
 have hwl:wn≤400:=by have:=hk.wl;simp only at this;omega
 rw[hfn,hcn,hwn] at h
 have HOWN:=Ag h
 have HB:=Ag hb
 have HK:=Ag hk
 have HO:=Ag ho
 have HALL:=Ag hall
 have HTL:=Ag (h.ex _ hb).len
 obtain⟨SR,hSR⟩:∃ r,Cg (⟨fs,cv.map CirV.m,ws⟩:IdM) p=r:=⟨_,rfl⟩
 have HSR:=Ag hSR
 rw[hSR]
 have HK1:=Ag hk1
 clear hk1
 clear h hb hk ho hall hfn hcn hwn hSR hf1 hf2 hc1 hc2 hw1 hw2
 obtain⟨⟨ix,th⟩,hsk⟩:∃ r,Bm (⟨fs,cv.map CirV.m,ws⟩:IdM) p.nm=r:=⟨_,rfl⟩
 have HSK:=Ag hsk
 have HF:=Ag (fun (W:World) (hW:IdC (fun _=> True) W [(.slice af fn cf),(.slice ac cn cc),(.slice aw wn cw)] (⟨fs,cv.map CirV.m,ws⟩:IdM))=> show Calls Tryz.prog 25 #[.agg ([(.slice af fn cf),(.slice ac cn cc),(.slice aw wn cw)]:List Value).toArray,.string p.nm] W (fun e w'=> e=.returned (.tuple #[.int .i64 (ix:Nat),.bool th])∧Below W.heap.size W w') from by
  have h:=ER (⟨fs,cv.map CirV.m,ws⟩:IdM) p.nm [(.slice af fn cf),(.slice ac cn cc),(.slice aw wn cw)] _ W hW (by have:=HK.out.fl;simp only at this ⊢;omega)
  rw[show AU (fun x=> BS x.nm p.nm) (⟨fs,cv.map CirV.m,ws⟩:IdM).fs=(ix,th) from hsk] at h
  exact h)
 clear hsk
 obtain⟨nf,hnf⟩:∃ n,BI p.nm=n:=⟨_,rfl⟩
 have HNF:=Ag hnf
 have HND:=Ag (fun (W:World)=> show Calls Tryz.prog 36 #[.string p.nm] W (fun e w'=> e=.returned (.int .i64 nf)∧Below W.heap.size W w') from by have h:=Ei p.nm W;rw[hnf] at h;exact h)
 clear hnf
 go_enter Tryz.func76,Tryz.ntmps76
 go_upto_region 1 with(first
  | ((with_reducible refine Au w rfl 31 (.tmp 1) rfl (opC p tco) rfl ?_);intro a1 hb hbel hsz;have H1:=hJ2 (HOWN.out.rsv hbel (Ah _) hb.lt) hb;clear hb hbel hsz)
  | ((with_reducible refine Av a1 rfl 37 rfl (AD 0 0 0 (tmC 0 0 0 ⟨#[]⟩ (.slice none 0 0))) Tryz.zeroRs ?_);intro a2 hb hbel hsz;have H2:=hJ3 (H1.out.1.rsv hbel (Ah _) hb.lt) (H1.out.2.below hbel H1.out.2.lt) hb;have HSZ:=Ag (show w0.heap.size≤a1.heap.size from H1.out.1.ch.size);clear hb hbel hsz))
 try simp only[Al,Ad,Ae,Af]
 have HG:=hJ2 H1.out.2.lt H2.out.2.2.lt
 have HIX:=Ag (show ix≤fs.length from by have h:=Ho (fun x:FileM=> BS x.nm p.nm) fs;rw[show AU (fun x:FileM=> BS x.nm p.nm) fs=(ix,th) from HSK.out] at h;exact h)
 have hixf:ix≤fn:=by have:=HIX.out;have:=HN.out.1;omega
 have hixz:(ix:Int)<(fn:Int)+1:=by omega
 have hix0:(0:Int)≤(ix:Int):=by omega
 go_wp2_with fail
 refine Az (fun W=> W.rangeAt bp 0 [(.slice af fn cf),(.slice ac cn cc),(.slice aw wn cw)]∧W.cell? ⟨w.heap.size,2,none⟩=some (.string p.nm)) [0,1,2,3,4,5] 6 (by kernel_rfl) rfl (by kernel_rfl) (by kernel_rfl) ⟨As H2.out.1.bl,H2.out.2.1.cell 2⟩ ?_
 iterate 6(refine' AH.run ?_ ?_ ?_ ?_;rotate_left 2;(simp only[Aa,Ab,Ac];rfl);rfl;(rintro w' ⟨k0,k1⟩;first|exact AA rfl rfl k0 Tryz.underlying26 rfl (At Tryz.infoId rfl)|(go_simp;with_reducible rfl));simp only[Al,Ad,Ae,Af])
 have sm:=(Sm.refl a2).drew
 have HV2:=hJ3 (H2.out.1.below (sm.below _)) (H2.out.2.1.below (sm.below _) H2.out.2.1.lt) (H2.out.2.2.below (sm.below _) H2.out.2.2.lt)
 clear sm
 generalize a2.drew=v1 at HV2 ⊢
 refine' Ar 6 (by kernel_rfl) ?_ ?_;rotate_left;(simp only[Aa,Ab,Ac];rfl)
 try simp only[Al,Ad,Ae,Af]
 go_wp2_with fail
 refine Calls.mono (HF.out v1 HV2.out.1.idc) ?_
 rintro e' u3 ⟨rfl,hb⟩
 have K4:=hJ3 (HV2.out.1.below hb) (HV2.out.2.1.below hb HV2.out.2.1.lt) (HV2.out.2.2.below hb HV2.out.2.2.lt)
 clear hb
 go_wp2_with fail
 refine QK.normal ⟨⟨As K4.out.1.bl,K4.out.2.1.cell 2⟩,?_⟩
 refine A2 (fuel:=0) (by kernel_rfl) AE ⟨As K4.out.1.bl,K4.out.2.1.cell 2⟩ [7,8,9,10,11] _ _ (by kernel_rfl) ?_
 try simp only[Al]
 iterate 5(refine' AH.run ?_ ?_ ?_ ?_;rotate_left 2;(simp only[Aa,Ab,Ac];rfl);rfl;(rintro w' ⟨k0,k1⟩;first|exact AA rfl rfl k0 Tryz.underlying26 rfl (At Tryz.infoId rfl)|(go_simp;with_reducible rfl));simp only[Al,Ad,Ae,Af])
 refine wpAnyH_done (by kernel_rfl) ?_ _
 refine NoPanic.normal ?_
 by_cases hnu:nf≠p.u
 ·have hne:(nf==p.u)=false:=by simpa using hnu
  have hne2:(nf !=p.u)=true:=by simpa using hnu
  go_wp2_with fail
  refine Az (fun W=> W.cell? ⟨w.heap.size,2,none⟩=some (.string p.nm)∧W.cell? ⟨w.heap.size,1,none⟩=some (.int .i64 p.u)) [0,1,3,4] 3 (by kernel_rfl) rfl (by kernel_rfl) (by kernel_rfl) ⟨K4.out.2.1.cell 2,K4.out.2.1.cell 1⟩ ?_
  iterate 4(refine' AH.run ?_ ?_ ?_ ?_;rotate_left 2;(simp only[Aa,Ab,Ac];rfl);rfl;(rintro w' ⟨k0,k1⟩;go_simp;with_reducible rfl);simp only[Al,Ad,Ae,Af])
  have sm:=(Sm.refl u3).drew
  have HV6:=hJ3 (K4.out.1.below (sm.below _)) (K4.out.2.1.below (sm.below _) K4.out.2.1.lt) (K4.out.2.2.below (sm.below _) K4.out.2.2.lt)
  clear sm
  generalize u3.drew=v5 at HV6 ⊢
  refine' Ar 2 (by kernel_rfl) ?_ ?_;rotate_left;(simp only[Aa,Ab,Ac];rfl)
  try simp only[Al,Ad,Ae,Af]
  go_wp2_with fail
  refine Calls.mono (HND.out v5) ?_
  rintro e' u7 ⟨rfl,hb⟩
  have K8:=hJ3 (HV6.out.1.below hb) (HV6.out.2.1.below hb HV6.out.2.1.lt) (HV6.out.2.2.below hb HV6.out.2.2.lt)
  clear hb
  go_wp2_with fail
  refine QK.normal ⟨⟨K8.out.2.1.cell 2,K8.out.2.1.cell 1⟩,?_⟩
  refine' Ar 5 (by kernel_rfl) ?_ ?_;rotate_left;(simp only[Aa,Ab,Ac];rfl)
  try simp only[Al,Ad,Ae,Af]
  go_wp2_with fail
  refine QK.normal ⟨⟨K8.out.2.1.cell 2,K8.out.2.1.cell 1⟩,?_⟩
  refine' Ar 6 (by kernel_rfl) ?_ ?_;rotate_left;(simp only[Aa,Ab,Ac];rfl)
  try simp only[Al,Ad,Ae,Af]
  go_wp2_with fail
  refine QK.normal ⟨⟨K8.out.2.1.cell 2,K8.out.2.1.cell 1⟩,?_⟩
  refine wpAnyH_done (by kernel_rfl) ?_ _
  refine NoPanic.normal ?_
  have HX:=Ag (show SR=((⟨fs,cv.map CirV.m,ws⟩:IdM),A3 2) from by rw[←HSR.out];unfold Cg;rw[if_pos (by rw[HNF.out];exact hnu)])
  go_wp2_with fail
  refine(Be (2) u7).mono ?_
  rintro e' u9 ⟨rfl,hb⟩
  have K10:=hJ3 (K8.out.1.below hb) (K8.out.2.1.below hb K8.out.2.1.lt) (K8.out.2.2.below hb K8.out.2.2.lt)
  clear hb
  go_wp2_with (first
  | ((with_reducible refine Ao u9 rfl 37 (.tmp 4) (.tmp 26) rfl (a1.heap.size) 37 (AD 0 0 0 (tmC 0 0 0 ⟨#[]⟩ (.slice none 0 0))) (AD (2) 0 0 (tmC 0 0 0 ⟨#[]⟩ (.slice none 0 0))) K10.out.2.2 rfl rfl rfl (Ax rfl) (AN (AS _ _ _ _ _ _ _)) ?_);intro z9 hb hc hs;have HZ:=Ag (Ai (K10.out.1.setX (show a1.heap.size∈_ by simp) HSZ.out hc) hb);clear hb hc hs))
  refine bodyPost_ret (AC Tryz.results76 _ _ (a1.heap.size) _ _ rfl HZ.out.2 _ Tryz.underlying37 rfl (Ax rfl)) rfl ?_
  rw[HX.out]
  exact⟨_,_,_,_,cv,rfl,rfl,HALL.out,((HZ.out.1).keepoff (fun k hk=> by simp[hk])).exadd (Bo _ _)⟩
 ·have hne:(nf==p.u)=true:=by simpa using hnu
  have hne2:(nf !=p.u)=false:=by simpa using hnu
  go_wp2_with fail
  refine Az (fun W=> W.cell? ⟨w.heap.size,2,none⟩=some (.string p.nm)∧W.cell? ⟨w.heap.size,1,none⟩=some (.int .i64 p.u)) [0,1,3,4] 3 (by kernel_rfl) rfl (by kernel_rfl) (by kernel_rfl) ⟨K4.out.2.1.cell 2,K4.out.2.1.cell 1⟩ ?_
  iterate 4(refine' AH.run ?_ ?_ ?_ ?_;rotate_left 2;(simp only[Aa,Ab,Ac];rfl);rfl;(rintro w' ⟨k0,k1⟩;go_simp;with_reducible rfl);simp only[Al,Ad,Ae,Af])
  have sm:=(Sm.refl u3).drew
  have HV12:=hJ3 (K4.out.1.below (sm.below _)) (K4.out.2.1.below (sm.below _) K4.out.2.1.lt) (K4.out.2.2.below (sm.below _) K4.out.2.2.lt)
  clear sm
  generalize u3.drew=v11 at HV12 ⊢
  refine' Ar 2 (by kernel_rfl) ?_ ?_;rotate_left;(simp only[Aa,Ab,Ac];rfl)
  try simp only[Al,Ad,Ae,Af]
  go_wp2_with fail
  refine Calls.mono (HND.out v11) ?_
  rintro e' u13 ⟨rfl,hb⟩
  have K14:=hJ3 (HV12.out.1.below hb) (HV12.out.2.1.below hb HV12.out.2.1.lt) (HV12.out.2.2.below hb HV12.out.2.2.lt)
  clear hb
  go_wp2_with fail
  refine QK.normal ⟨⟨K14.out.2.1.cell 2,K14.out.2.1.cell 1⟩,?_⟩
  refine' Ar 5 (by kernel_rfl) ?_ ?_;rotate_left;(simp only[Aa,Ab,Ac];rfl)
  try simp only[Al,Ad,Ae,Af]
  go_wp2_with fail
  refine QK.normal ⟨⟨K14.out.2.1.cell 2,K14.out.2.1.cell 1⟩,?_⟩
  refine' Ar 6 (by kernel_rfl) ?_ ?_;rotate_left;(simp only[Aa,Ab,Ac];rfl)
  try simp only[Al,Ad,Ae,Af]
  go_wp2_with fail
  refine QK.normal ⟨⟨K14.out.2.1.cell 2,K14.out.2.1.cell 1⟩,?_⟩
  refine wpAnyH_done (by kernel_rfl) ?_ _
  refine NoPanic.normal ?_
  cases th
  ·skip
   have c0:=K14.out.1.bl.cell 0
   have c2:=K14.out.1.bl.cell 2
   simp only[Ab,Ac] at c0 c2
   by_cases h6:fn=6
   ·have h6e:((fn:Int)==6)=true:=by simp;omega
    have HX:=Ag (show SR=((⟨fs,cv.map CirV.m,ws⟩:IdM),A3 6) from by rw[←HSR.out];unfold Cg;rw[if_neg (by rw[HNF.out];simpa using hnu),HSK.out,if_neg (by simp),if_pos (by rw[HN.out.1,HN.out.2.2];omega)])
    go_wp2_with fail
    refine(Be (6) u13).mono ?_
    rintro e' u15 ⟨rfl,hb⟩
    have K16:=hJ3 (K14.out.1.below hb) (K14.out.2.1.below hb K14.out.2.1.lt) (K14.out.2.2.below hb K14.out.2.2.lt)
    clear hb
    go_wp2_with (first
  | ((with_reducible refine Ao u15 rfl 37 (.tmp 4) (.tmp 47) rfl (a1.heap.size) 37 (AD 0 0 0 (tmC 0 0 0 ⟨#[]⟩ (.slice none 0 0))) (AD (6) 0 0 (tmC 0 0 0 ⟨#[]⟩ (.slice none 0 0))) K16.out.2.2 rfl rfl rfl (Ax rfl) (AN (AS _ _ _ _ _ _ _)) ?_);intro z9 hb hc hs;have HZ:=Ag (Ai (K16.out.1.setX (show a1.heap.size∈_ by simp) HSZ.out hc) hb);clear hb hc hs))
    refine bodyPost_ret (AC Tryz.results76 _ _ (a1.heap.size) _ _ rfl HZ.out.2 _ Tryz.underlying37 rfl (Ax rfl)) rfl ?_
    rw[HX.out]
    exact⟨_,_,_,_,cv,rfl,rfl,HALL.out,((HZ.out.1).keepoff (fun k hk=> by simp[hk])).exadd (Bo _ _)⟩
   ·have h6e:((fn:Int)==6)=false:=by simp;omega
    by_cases h4:wn=400
    ·have h4e:((wn:Int)==400)=true:=by simp;omega
     have HX:=Ag (show SR=((⟨fs,cv.map CirV.m,ws⟩:IdM),A3 6) from by rw[←HSR.out];unfold Cg;rw[if_neg (by rw[HNF.out];simpa using hnu),HSK.out,if_neg (by simp),if_pos (by rw[HN.out.1,HN.out.2.2];omega)])
     go_wp2_with fail
     refine(Be (6) u13).mono ?_
     rintro e' u17 ⟨rfl,hb⟩
     have K18:=hJ3 (K14.out.1.below hb) (K14.out.2.1.below hb K14.out.2.1.lt) (K14.out.2.2.below hb K14.out.2.2.lt)
     clear hb
     go_wp2_with (first
  | ((with_reducible refine Ao u17 rfl 37 (.tmp 4) (.tmp 47) rfl (a1.heap.size) 37 (AD 0 0 0 (tmC 0 0 0 ⟨#[]⟩ (.slice none 0 0))) (AD (6) 0 0 (tmC 0 0 0 ⟨#[]⟩ (.slice none 0 0))) K18.out.2.2 rfl rfl rfl (Ax rfl) (AN (AS _ _ _ _ _ _ _)) ?_);intro z9 hb hc hs;have HZ:=Ag (Ai (K18.out.1.setX (show a1.heap.size∈_ by simp) HSZ.out hc) hb);clear hb hc hs))
     refine bodyPost_ret (AC Tryz.results76 _ _ (a1.heap.size) _ _ rfl HZ.out.2 _ Tryz.underlying37 rfl (Ax rfl)) rfl ?_
     rw[HX.out]
     exact⟨_,_,_,_,cv,rfl,rfl,HALL.out,((HZ.out.1).keepoff (fun k hk=> by simp[hk])).exadd (Bo _ _)⟩
    ·have h4e:((wn:Int)==400)=false:=by simp;omega
     have c1:=K14.out.2.1.cell 1
     simp only[opC,Ab,Ac] at c1
     go_wp2_with fail
     clear c0 c1 c2
     refine(Lx p.u u13).mono ?_
     rintro e' b1 ⟨vr,vq,vg,rfl,hps,hb,-⟩
     have hnr:I3 p.u=(⟨p.u,1,[],[],[]⟩,0):=by unfold I3;rw[if_pos (LF HO.out)]
     rw[hnr] at hps ⊢
     obtain⟨ra,rc,rfl,-,-,-⟩:=hps.1.nums
     obtain⟨qa,qc,rfl,-,-,-⟩:=hps.2.1.nums
     obtain⟨ga,gc,rfl,-,-,-⟩:=hps.2.2.nums
     have HNR:=Ag hnr
     have HPS:=Ag hps
     have HB1:=hJ3 (K14.out.1.below hb) (K14.out.2.1.below hb K14.out.2.1.lt) (K14.out.2.2.below hb K14.out.2.2.lt)
     clear hb hps hnr
     go_upto_region 11 with(first
  | ((with_reducible refine Av b1 rfl 43 rfl (pmC 0 0 (.slice none 0 0) (.slice none 0 0) (.slice none 0 0)) Tryz.zeroPm ?_);intro b2 hb hbel hsz;have HB2:=hJ4 (HB1.out.1.rsv hbel (Ah _) hb.lt) (HB1.out.2.1.below hbel HB1.out.2.1.lt) (HB1.out.2.2.below hbel HB1.out.2.2.lt) hb;clear hb hbel hsz)
  | ((with_reducible refine Ao b2 rfl 43 (.tmp 7) (.tmp 52) rfl (b1.heap.size) 43 (pmC 0 0 (.slice none 0 0) (.slice none 0 0) (.slice none 0 0)) (pmC p.u 1 (.slice ra 0 rc) (.slice qa 0 qc) (.slice ga 0 gc)) HB2.out.2.2.2 rfl rfl rfl (Ay _ _ _ _ _) (Bw rfl rfl rfl) ?_);intro b3 hb hc hs;have HB3:=hJ4 (HB2.out.1.setX List.mem_cons_self (Aj HB1.out.1.ch.size (Ah _)) hc) (HB2.out.2.1.keep hc (fun e=> absurd (show w.heap.size=b1.heap.size from e) (by have h1:=HB1.out.2.2.lt;have:=HG.out;omega))) (HB2.out.2.2.1.keep hc (fun e=> absurd (show a1.heap.size=b1.heap.size from e) (by have h1:=HB1.out.2.2.lt;have:=HG.out;omega))) hb;clear hb hc hs))
     try simp only[Al,Ad,Ae,Af]
     go_wp2_with fail
     refine AZ (fun W=> W.cell? ⟨bp,0,none⟩=some (.slice af fn cf)∧W.cell? ⟨w.heap.size,2,none⟩=some (.string p.nm)∧W.rangeAt b1.heap.size 0 (pmC p.u 1 (.slice ra 0 rc) (.slice qa 0 qc) (.slice ga 0 gc))) 16 [0,1,2,3,4,5,6,7,8,9] 7 (by kernel_rfl) rfl (by kernel_rfl) (by kernel_rfl) ⟨HB3.out.1.bl.cell 0,HB3.out.2.1.cell 2,As HB3.out.2.2.2⟩ ?_
     iterate 10(refine' AH.run ?_ ?_ ?_ ?_;rotate_left 2;(simp only[Aa,Ab,Ac];rfl);rfl;(rintro w' ⟨k0,k1,k2⟩;first|exact AA rfl rfl k2 Tryz.underlying43 rfl (Ay _ _ _ _ _)|(go_simp;with_reducible rfl));simp only[Al,Ad,Ae,Af])
     have sm:=(Sm.refl b3).drew
     have HV20:=hJ4 (HB3.out.1.below (sm.below _)) (HB3.out.2.1.below (sm.below _) HB3.out.2.1.lt) (HB3.out.2.2.1.below (sm.below _) HB3.out.2.2.1.lt) (HB3.out.2.2.2.below (sm.below _) HB3.out.2.2.2.lt)
     clear sm
     generalize b3.drew=v19 at HV20 ⊢
     refine' AB 10 (by kernel_rfl) ?_ ?_;rotate_left;(simp only[Aa,Ab,Ac];rfl)
     try simp only[Al,Ad,Ae,Af]
     with_reducible refine Fk rfl (.tmp 66) (.tmp 67) rfl p.nm p.u 1 ra 0 rc qa 0 qc ga 0 gc rfl rfl ?_
     try simp only[Al,Ad,Ae,Af]
     refine QK.normal ⟨fun _=> ⟨HV20.out.1.bl.cell 0,HV20.out.2.1.cell 2,As HV20.out.2.2.2⟩,?_⟩
     refine' AB 11 (by kernel_rfl) ?_ ?_;rotate_left;(simp only[Aa,Ab,Ac];rfl)
     try simp only[Al,Ad,Ae,Af]
     refine DZ v19 rfl (.tmp 68) rfl (flC p.nm p.u 1 (.slice ra 0 rc) (.slice qa 0 qc) (.slice ga 0 gc) 0 0 0 (tmC 0 0 0 ⟨#[]⟩ (.slice none 0 0))) rfl rfl ?_
     intro e1 hb hbel hsz
     have HE1:=Ag (show OwnX w0 m0 (b1.heap.size::a1.heap.size::w.heap.size::xs) e1 bp 97 [(.slice af fn cf),(.slice ac cn cc),(.slice aw wn cw)] (.slice af fn cf) (.slice ac cn cc) (.slice aw wn cw) fs cv ws ex∧Blk e1 (w.heap.size) 31 (opC p tco)∧Blk e1 (a1.heap.size) 37 (AD 0 0 0 (tmC 0 0 0 ⟨#[]⟩ (.slice none 0 0)))∧Blk e1 (b1.heap.size) 43 (pmC p.u 1 (.slice ra 0 rc) (.slice qa 0 qc) (.slice ga 0 gc))∧Blk e1 (v19.heap.size) 45 (flC p.nm p.u 1 (.slice ra 0 rc) (.slice qa 0 qc) (.slice ga 0 gc) 0 0 0 (tmC 0 0 0 ⟨#[]⟩ (.slice none 0 0)))∧((∀ k,(Value.ownBlock (.slice af fn cf))=some k→k≠v19.heap.size)) from⟨(HV20.out.1.below hbel),HV20.out.2.1.below hbel HV20.out.2.1.lt,HV20.out.2.2.1.below hbel HV20.out.2.2.1.lt,HV20.out.2.2.2.below hbel HV20.out.2.2.2.lt,hb,fun k hk e=> by have:=HV20.out.1.lt k (FV k (AG.2 hk));omega⟩)
     clear hb hbel hsz
     try simp only[Al,Ad,Ae,Af]
     refine QK.normal ⟨fun _=> ⟨HE1.out.1.bl.cell 0,HE1.out.2.1.cell 2,As HE1.out.2.2.2.1⟩,?_⟩
     refine' AB 12 (by kernel_rfl) ?_ ?_;rotate_left;(simp only[Aa,Ab,Ac];rfl)
     try simp only[Al,Ad,Ae,Af]
     go_wp2_with fail
     refine(HE1.out.1.insF (i:=ix) HE1.out.2.2.2.2.1 (f:=(⟨p.nm,⟨p.u,1,[],[],[]⟩,0,0,0,tm0⟩:FileM)) ⟨_,_,_,_,rfl,⟨SlI.empty HPS.out.1,SlI.empty HPS.out.2.1,SlI.empty HPS.out.2.2⟩,Bo _ _⟩ HE1.out.2.2.2.2.2 (by rw[HN.out.1];omega) HIX.out).mono ?_
     rintro e' e2 ⟨ay,cy,rfl,hown,hc⟩
     rw[HN.out.1] at hown ⊢
     obtain⟨g,cy',e,-⟩:=hown.rf.ptr (j:=ix) (by rw[Ck HIX.out];have:=HIX.out;omega)
     rw[Ck HIX.out,HN.out.1] at e
     obtain⟨rfl,rfl⟩:ay=some ⟨g,0,none⟩∧cy=cy':=by simpa using e
     have HE2:=hJ4 hown (HE1.out.2.1.keep hc (fun e=> (HE1.out.1.ne (show w.heap.size∈(b1.heap.size::a1.heap.size::w.heap.size::xs) by simp)).2.1 (AG.2 e))) (HE1.out.2.2.1.keep hc (fun e=> (HE1.out.1.ne (show a1.heap.size∈(b1.heap.size::a1.heap.size::w.heap.size::xs) by simp)).2.1 (AG.2 e))) (HE1.out.2.2.2.1.keep hc (fun e=> (HE1.out.1.ne (show b1.heap.size∈(b1.heap.size::a1.heap.size::w.heap.size::xs) by simp)).2.1 (AG.2 e)))
     clear hown hc e
     go_wp2_with fail
     refine QK.normal ⟨fun _=> ⟨HE2.out.1.bl.cell 0,HE2.out.2.1.cell 2,As HE2.out.2.2.2⟩,?_⟩
     refine AL (by kernel_rfl) AE (fuel:=3) (fun _=> ⟨HE2.out.1.bl.cell 0,HE2.out.2.1.cell 2,As HE2.out.2.2.2⟩) 13 (by kernel_rfl) ?_
     refine' AH.run ?_ ?_ ?_ ?_;rotate_left 2;(simp only[Aa,Ab,Ac];rfl);rfl;(rintro w' -;go_simp;with_reducible rfl);simp only[Al,Ad,Ae,Af]
     refine AL (by kernel_rfl) AE (fuel:=2) (fun _=> ⟨HE2.out.1.bl.cell 0,HE2.out.2.1.cell 2,As HE2.out.2.2.2⟩) 14 (by kernel_rfl) ?_
     refine' AH.run ?_ ?_ ?_ ?_;rotate_left 2;(simp only[Aa,Ab,Ac];rfl);rfl;(rintro w' -;go_simp;with_reducible rfl);simp only[Al,Ad,Ae,Af]
     refine AL (by kernel_rfl) AE (fuel:=1) (fun _=> ⟨HE2.out.1.bl.cell 0,HE2.out.2.1.cell 2,As HE2.out.2.2.2⟩) 15 (by kernel_rfl) ?_
     refine' AH.run ?_ ?_ ?_ ?_;rotate_left 2;(simp only[Aa,Ab,Ac];rfl);rfl;(rintro w' -;go_simp;with_reducible rfl);simp only[Al,Ad,Ae,Af]
     refine' AB 16 (by kernel_rfl) ?_ ?_;rotate_left;(simp only[Aa,Ab,Ac];rfl)
     try simp only[Al,Ad,Ae,Af]
     refine AK e2 rfl 22 (.tmp 73) (.tmp 70) rfl bp 0 97 _ HE2.out.1.bl rfl (.slice (some ⟨g,0,none⟩) (fn+1) cy) rfl (by simp) Tryz.sizeSf1 rfl rfl ?_
     intro e3 hb hc hs
     have HE3:=Ag (show OwnX w0 m0 (a1.heap.size::w.heap.size::xs) e3 bp 97 [(.slice (some ⟨g,0,none⟩) (fn+1) cy),(.slice ac cn cc),(.slice aw wn cw)] (.slice (some ⟨g,0,none⟩) (fn+1) cy) (.slice ac cn cc) (.slice aw wn cw) (BY fs ix (⟨p.nm,⟨p.u,1,[],[],[]⟩,0,0,0,tm0⟩:FileM)) cv ws ex∧Blk e3 (w.heap.size) 31 (opC p tco)∧Blk e3 (a1.heap.size) 37 (AD 0 0 0 (tmC 0 0 0 ⟨#[]⟩ (.slice none 0 0))) from⟨(HE2.out.1.setB hc hb).keepoff (fun k hk=> List.mem_cons_of_mem _ hk),HE2.out.2.1.keep hc (fun e=> (HE2.out.1.ne (show w.heap.size∈(b1.heap.size::a1.heap.size::w.heap.size::xs) by simp)).1 e),HE2.out.2.2.1.keep hc (fun e=> (HE2.out.1.ne (show a1.heap.size∈(b1.heap.size::a1.heap.size::w.heap.size::xs) by simp)).1 e)⟩)
     clear hb hc hs
     refine QK.normal ⟨fun h=> absurd h (by decide),?_⟩
     refine Bc (by kernel_rfl) ?_ _
     refine NoPanic.normal ?_
     try simp only[Al,Ad,Ae,Af]
     go_wp2_with fail
     refine Az (fun W=> W.cell? ⟨bp,0,none⟩=some (.slice (some ⟨g,0,none⟩) (fn+1) cy)∧W.rangeAt w.heap.size 0 (opC p tco)) [0,1,2,3,4,5,6,7,8] 1 (by kernel_rfl) rfl (by kernel_rfl) (by kernel_rfl) ⟨HE3.out.1.bl.cell 0,As HE3.out.2.1⟩ ?_
     iterate 9(refine' AH.run ?_ ?_ ?_ ?_;rotate_left 2;(simp only[Aa,Ab,Ac];rfl);rfl;(rintro w' ⟨k0,k1⟩;first|exact AA rfl rfl k1 Tryz.underlying31 rfl (Bs HTL.out)|(go_simp;with_reducible rfl));simp only[Al,Ad,Ae,Af])
     have sm:=(Sm.refl e3).drew
     have HV22:=Ag (show OwnX w0 m0 (a1.heap.size::w.heap.size::xs) e3.drew bp 97 [(.slice (some ⟨g,0,none⟩) (fn+1) cy),(.slice ac cn cc),(.slice aw wn cw)] (.slice (some ⟨g,0,none⟩) (fn+1) cy) (.slice ac cn cc) (.slice aw wn cw) (BY fs ix (⟨p.nm,⟨p.u,1,[],[],[]⟩,0,0,0,tm0⟩:FileM)) cv ws ex∧Blk e3.drew (w.heap.size) 31 (opC p tco)∧Blk e3.drew (a1.heap.size) 37 (AD 0 0 0 (tmC 0 0 0 ⟨#[]⟩ (.slice none 0 0))) from⟨(HE3.out.1.below (sm.below _)),HE3.out.2.1.below (sm.below _) HE3.out.2.1.lt,HE3.out.2.2.below (sm.below _) HE3.out.2.2.lt⟩)
     clear sm
     generalize e3.drew=v21 at HV22 ⊢
     refine' Ar 9 (by kernel_rfl) ?_ ?_;rotate_left;(simp only[Aa,Ab,Ac];rfl)
     try simp only[Al,Ad,Ae,Af]
     go_wp2_with fail
     have HEN:=Ag (show OwnX v21 _ (a1.heap.size::w.heap.size::xs) v21 bp 97 [(.slice (some ⟨g,0,none⟩) (fn+1) cy),(.slice ac cn cc),(.slice aw wn cw)] (.slice (some ⟨g,0,none⟩) (fn+1) cy) (.slice ac cn cc) (.slice aw wn cw) ((BY fs ix (⟨p.nm,⟨p.u,1,[],[],[]⟩,0,0,0,tm0⟩:FileM)).set ix (⟨p.nm,⟨p.u,1,[],[],[]⟩,0,0,0,tm0⟩:FileM)) cv ws ex from by rw[Iy HIX.out];exact HV22.out.1.enter)
     refine(Gy p tco HEN.out (by rw[Ck HIX.out];have:=HIX.out;omega) HB.out (JE HO.out HK1.out).1 (by show(0:Int)≤0;omega) (by show(0:Int)≤1000000;omega) (by rw[HN.out.2.2];omega)).mono ?_
     rintro e' e5 ⟨rfl,vw5,hw5⟩
     rw[Iy HIX.out] at hw5
     have HE5:=Ag (show OwnX w0 m0 (a1.heap.size::w.heap.size::xs) e5 bp 97 [(.slice (some ⟨g,0,none⟩) (fn+1) cy),(.slice ac cn cc),vw5] (.slice (some ⟨g,0,none⟩) (fn+1) cy) (.slice ac cn cc) vw5 (BY fs ix (BB (⟨p.nm,⟨p.u,1,[],[],[]⟩,0,0,0,tm0⟩:FileM) p)) cv (ws ++ [Bl (BB (⟨p.nm,⟨p.u,1,[],[],[]⟩,0,0,0,tm0⟩:FileM) p)]) ex∧Blk e5 (w.heap.size) 31 (opC p tco)∧Blk e5 (a1.heap.size) 37 (AD 0 0 0 (tmC 0 0 0 ⟨#[]⟩ (.slice none 0 0))) from⟨HV22.out.1.leave hw5,HV22.out.2.1.keep hw5.ch (fun e=> (HV22.out.1.ax w.heap.size (by simp)).1 e),HV22.out.2.2.keep hw5.ch (fun e=> (HV22.out.1.ax a1.heap.size (by simp)).1 e)⟩)
     clear hw5 HEN
     go_wp2_with fail
     refine QK.normal ⟨⟨HE5.out.1.bl.cell 0,As HE5.out.2.1⟩,?_⟩
     refine wpAnyH_done (by kernel_rfl) ?_ _
     refine NoPanic.normal ?_
     have HX:=Ag (show SR=(⟨BY fs ix (BB (⟨p.nm,⟨p.u,1,[],[],[]⟩,0,0,0,tm0⟩:FileM) p),cv.map CirV.m,ws ++ [Bl (BB (⟨p.nm,⟨p.u,1,[],[],[]⟩,0,0,0,tm0⟩:FileM) p)]⟩,A3 0) from by
      rw[←HSR.out]
      unfold Cg
      rw[if_neg (by rw[HNF.out];simpa using hnu),HSK.out,if_neg (by simp),if_neg (by rw[HN.out.1,HN.out.2.2];omega)]
      unfold Cs
      rw[HNR.out])
     go_wp2_with (first
  | (with_reducible refine Bb rfl rfl ?_)
  | ((with_reducible refine Ao e5 rfl 37 (.tmp 4) (.tmp 84) rfl (a1.heap.size) 37 (AD 0 0 0 (tmC 0 0 0 ⟨#[]⟩ (.slice none 0 0))) (AD 0 0 0 (tmC 0 0 0 ⟨#[]⟩ (.slice none 0 0))) HE5.out.2.2 rfl rfl rfl (Ax rfl) (AN (AS _ _ _ _ _ _ _)) ?_);intro z9 hb hc hs;have HZ:=Ag (Ai (HE5.out.1.setX (show a1.heap.size∈_ by simp) HSZ.out hc) hb);clear hb hc hs))
     refine bodyPost_ret (AC Tryz.results76 _ _ (a1.heap.size) _ _ rfl HZ.out.2 _ Tryz.underlying37 rfl (Ax rfl)) rfl ?_
     rw[HX.out]
     exact⟨_,_,_,_,cv,rfl,rfl,HALL.out,((HZ.out.1).keepoff (fun k hk=> by simp[hk])).exadd (Bo _ _)⟩
  ·skip
   have HX:=Ag (show SR=((⟨fs,cv.map CirV.m,ws⟩:IdM),A3 5) from by rw[←HSR.out];unfold Cg;rw[if_neg (by rw[HNF.out];simpa using hnu),HSK.out,if_pos rfl])
   go_wp2_with fail
   refine(Be (5) u13).mono ?_
   rintro e' u23 ⟨rfl,hb⟩
   have K24:=hJ3 (K14.out.1.below hb) (K14.out.2.1.below hb K14.out.2.1.lt) (K14.out.2.2.below hb K14.out.2.2.lt)
   clear hb
   go_wp2_with (first
  | ((with_reducible refine Ao u23 rfl 37 (.tmp 4) (.tmp 29) rfl (a1.heap.size) 37 (AD 0 0 0 (tmC 0 0 0 ⟨#[]⟩ (.slice none 0 0))) (AD (5) 0 0 (tmC 0 0 0 ⟨#[]⟩ (.slice none 0 0))) K24.out.2.2 rfl rfl rfl (Ax rfl) (AN (AS _ _ _ _ _ _ _)) ?_);intro z9 hb hc hs;have HZ:=Ag (Ai (K24.out.1.setX (show a1.heap.size∈_ by simp) HSZ.out hc) hb);clear hb hc hs))
   refine bodyPost_ret (AC Tryz.results76 _ _ (a1.heap.size) _ _ rfl HZ.out.2 _ Tryz.underlying37 rfl (Ax rfl)) rfl ?_
   rw[HX.out]
   exact⟨_,_,_,_,cv,rfl,rfl,HALL.out,((HZ.out.1).keepoff (fun k hk=> by simp[hk])).exadd (Bo _ _)⟩
end Go.Proofs.YtgdlfiphihaooaaGreat

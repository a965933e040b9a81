import Derived.WalkKit
import Derived.Laws.AppendOwnNone
import Derived.Laws.CopyOwn
import Derived.Maps.AppendAt
import Derived.WalkLawsBesides
import Derived.WalkSpells
import Derived.Lib.Hide
import Derived.OneCell
import Derived.Laws.IdiomStrings
import Derived.Deep.MidRow
import Derived.StillTail
import Derived.BigQuiet
import Derived.Lib.QuietBelow
import Derived.Deep.RegionHeld3
import Derived.Laws.ResultCell
import Derived.Test.YtgdlfiphihaooaaGreatProg
set_option linter.unusedSimpArgs false
set_option linter.unusedVariables false
set_option maxRecDepth 100000
set_option maxHeartbeats 8000000
open _root_.List renaming getElem?_toArray→Aa,getElem?_cons_zero→Ab,getElem?_cons_succ→Ac,setIfInBounds_toArray→Ad,set_cons_zero→Ae,set_cons_succ→Af
open _root_.Go.Lib renaming hid→Ag
open _root_.Nat renaming le_refl→Ah,le_trans→Aj,lt_of_lt_of_le→Ak
open _root_.And renaming intro→Ai
open _root_.Go.Act renaming put→Al
namespace Go.Proofs.YtgdlfiphihaooaaGreat
open Go Go.RowKit
theorem hJ2 {A B:Prop} (a:A) (b:B):Hid (A∧B):=Ag ⟨a,b⟩
theorem hJ3 {A B C:Prop} (a:A) (b:B) (c:C):Hid (A∧B∧C):=Ag ⟨a,b,c⟩
theorem hJ4 {A B C D:Prop} (a:A) (b:B) (c:C) (d:D):Hid (A∧B∧C∧D):=Ag ⟨a,b,c,d⟩
theorem hJ5 {A B C D E:Prop} (a:A) (b:B) (c:C) (d:D) (e:E):Hid (A∧B∧C∧D∧E):=Ag ⟨a,b,c,d,e⟩
theorem hJ6 {A B C D E F:Prop} (a:A) (b:B) (c:C) (d:D) (e:E) (f:F):Hid (A∧B∧C∧D∧E∧F):=Ag ⟨a,b,c,d,e,f⟩
theorem hJ7 {A B C D E F G:Prop} (a:A) (b:B) (c:C) (d:D) (e:E) (f:F) (g:G):Hid (A∧B∧C∧D∧E∧F∧G):=Ag ⟨a,b,c,d,e,f,g⟩
theorem hJ8 {A B C D E F G H:Prop} (a:A) (b:B) (c:C) (d:D) (e:E) (f:F) (g:G) (h:H):Hid (A∧B∧C∧D∧E∧F∧G∧H):=Ag ⟨a,b,c,d,e,f,g,h⟩
theorem hJ9 {A B C D E F G H I:Prop} (a:A) (b:B) (c:C) (d:D) (e:E) (f:F) (g:G) (h:H) (i:I):Hid (A∧B∧C∧D∧E∧F∧G∧H∧I):=Ag ⟨a,b,c,d,e,f,g,h,i⟩
theorem hJ10 {A B C D E F G H I J:Prop} (a:A) (b:B) (c:C) (d:D) (e:E) (f:F) (g:G) (h:H) (i:I) (j:J):Hid (A∧B∧C∧D∧E∧F∧G∧H∧I∧J):=Ag ⟨a,b,c,d,e,f,g,h,i,j⟩
theorem hJ11 {A B C D E F G H I J K:Prop} (a:A) (b:B) (c:C) (d:D) (e:E) (f:F) (g:G) (h:H) (i:I) (j:J) (k:K):Hid (A∧B∧C∧D∧E∧F∧G∧H∧I∧J∧K):=Ag ⟨a,b,c,d,e,f,g,h,i,j,k⟩
theorem hJ12 {A B C D E F G H I J K L:Prop} (a:A) (b:B) (c:C) (d:D) (e:E) (f:F) (g:G) (h:H) (i:I) (j:J) (k:K) (l:L):Hid (A∧B∧C∧D∧E∧F∧G∧H∧I∧J∧K∧L):=Ag ⟨a,b,c,d,e,f,g,h,i,j,k,l⟩
def Sl (w:World) (v:Value) (xs:List Value):Prop:=
 (v=.slice none 0 0∧xs=[])∨∃ ad c,v=.slice (some ad) xs.length c∧xs.length≤c∧c≤maxLen∧(∀ i u,xs[i]?=some u→w.cell? (ad.add i)=some u)
theorem Am {w:World} {a:Addr} {u:Value} (h:w.cell? a=some u):a.block<w.heap.size:=by
 by_cases hb:a.block<w.heap.size
 ·exact hb
 ·rw[World.cell?,show w.heap[a.block]?=none by simp;omega] at h
  cases h
theorem CV (a:Addr) (i:Nat):(a.add i).block=a.block:=by
 unfold Addr.add;split <;> rfl
theorem Sl.nil (w:World):Sl w (.slice none 0 0) []:=.inl ⟨rfl,rfl⟩
theorem Sl.below {B:Nat} {w w':World} {v:Value} {xs:List Value} (h:Sl w v xs) (hw:Below B w w') (hB:w.heap.size≤B):Sl w' v xs:=by
 rcases h with h|⟨ad,c,h1,h2,h3,h4⟩
 ·exact .inl h
 ·refine .inr ⟨ad,c,h1,h2,h3,fun i u hu=> ?_⟩
  have hc:=h4 i u hu
  rw[hw.cell (by have:=Am hc;omega)]
  exact hc
structure Ch (S:Nat→Prop) (w w':World):Prop where
 os:w'.os=w.os
 tape:w'.tape=w.tape
 output:w'.output=w.output
 size:w.heap.size≤w'.heap.size
 block:∀ k,k<w.heap.size→¬ S k→w'.heap[k]?=w.heap[k]?
theorem Ch.refl (S:Nat→Prop) (w:World):Ch S w w:=⟨rfl,rfl,rfl,Ah _,fun _ _ _=> rfl⟩
theorem Ch.trans {S:Nat→Prop} {a b c:World} (h:Ch S a b) (k:Ch S b c):Ch S a c:=
 ⟨k.os.trans h.os,k.tape.trans h.tape,k.output.trans h.output,Aj h.size k.size,fun i hi hs=> (k.block i (Ak hi h.size) hs).trans (h.block i hi hs)⟩
theorem Ch.trans' {S T:Nat→Prop} {a b c:World} (h:Ch S a b) (k:Ch T b c) (hT:∀ i,i<a.heap.size→T i→S i):Ch S a c:=
 ⟨k.os.trans h.os,k.tape.trans h.tape,k.output.trans h.output,Aj h.size k.size,fun i hi hs=> (k.block i (Ak hi h.size) (fun ht=> hs (hT i hi ht))).trans (h.block i hi hs)⟩
theorem Ch.mono {S T:Nat→Prop} {w w':World} (h:Ch S w w') (hT:∀ i,S i→T i):Ch T w w':=⟨h.os,h.tape,h.output,h.size,fun k hk hs=> h.block k hk (fun s=> hs (hT k s))⟩
theorem Ch.drew {S:Nat→Prop} {a w:World} (h:Ch S a w):Ch S a w.drew:=⟨h.os,h.tape,h.output,h.size,h.block⟩
theorem Ch.setCell {S:Nat→Prop} {a w:World} (h:Ch S a w) {p:Addr} (hp:S p.block∨a.heap.size≤p.block) (u:Value):Ch S a (w.setCell p u):=
 ⟨h.os,h.tape,h.output,by have:=h.size;simp[World.setCell];exact this,fun k hk hs=> by
  rw[Below.heap_setCell _ _ _ _ (by rintro rfl;rcases hp with hp|hp;exact hs hp;omega)];exact h.block k hk hs⟩
theorem Ch.grown {S:Nat→Prop} {a w w':World} {row:Option Nat} (h:Ch S a w) (hg:w.grownBy w' row) (hr:∀ k,row=some k→S k∨a.heap.size≤k):Ch S a w':=
 ⟨hg.os.trans h.os,hg.tape.trans h.tape,hg.output.trans h.output,Aj h.size hg.size,fun k hk hs=> by
  rw[hg.block k (Ak hk h.size) (fun e=> by rcases hr k e.symm with hp|hp;exact hs hp;omega)];exact h.block k hk hs⟩
theorem Ch.below {S:Nat→Prop} {w w':World} (h:Ch S w w') (hS:∀ k,k<w.heap.size→¬ S k):Below w.heap.size w w':=
 ⟨h.os,h.tape,h.output,h.size,fun k hk=> h.block k hk (hS k hk)⟩
theorem Ch.of_below {S:Nat→Prop} {B:Nat} {w w':World} (h:Below B w w') (hB:w.heap.size≤B):Ch S w w':=
 ⟨h.os,h.tape,h.output,h.size,fun k hk _=> h.block k (by omega)⟩
theorem Ch.cell {S:Nat→Prop} {w w':World} (h:Ch S w w') {p:Addr} (hp:p.block<w.heap.size) (hS:¬ S p.block):w'.cell? p=w.cell? p:=World.cell?_of_block (w:=w) (h.block p.block hp hS)
theorem Ch.frozen {S:Nat→Prop} {w w':World} (h:Ch S w w') {p:Addr} (hp:p.block<w.heap.size) (hS:¬ S p.block):w'.frozen? p=w.frozen? p:=World.frozen?_of_block (w:=w) (h.block p.block hp hS)
theorem AY {w:World} {base:Nat} {e:TypeId} {size:Nat} {v:Value} {n:Nat} {xs:List Value} (h:w.ownsRow base e size v n xs):∃ ao c,v=.slice ao n c:=by
 obtain⟨_,⟨rfl,rfl⟩|⟨g,cap,_,rfl,_⟩⟩:=h
 ·exact⟨_,_,rfl⟩
 ·exact⟨_,_,rfl⟩
theorem Cw {P:Program} (w:World) {ops:Array Oper} {rest:List Oper} {o:Oper} {a:Act} {Q:Exit→Act→World→Prop} (hgd:o.guard=none) (s x:Operand) (t:TypeId)
  (ho:o.op=.call {callee:=.builtin .append,args:=#[s,x],argTypes:=#[t,t]})
  (base:Nat) (e:TypeId) (i:TypeInfo) (z:Value) (bytes:Nat) (ht:P.underlying t=some (.slice e)) (hi:P.info? e=some i) (hz:i.zero=some z)
  (hsize:i.size=1) (hby:i.bytes=bytes) (hzs:z.cells.size=1)
  (v:Value) (n:Nat) (xs:List Value) (hs:a.eval s=v) (hown:w.ownsRow base e 1 v n xs)
  (vx:Value) (news:List Value) (hx:a.eval x=vx) (hsl:Sl w vx news) (h1:∀ u∈news,u.oneCell'=true) (N:Nat) (hN:n+news.length=N)
  (h63:N≤maxLen) (hbytes:N* bytes≤140737488355328) (hbase:base≤w.heap.size)
  (h:∀ ao c w',w'.ownsRow base e 1 (.slice ao N c) N (xs ++ news)→w.grownBy w' v.ownBlock→((Value.slice ao N c).ownBlock=v.ownBlock∨(Value.slice ao N c).ownBlock=some w.heap.size)→wpList P ops Q rest (a.put o.dst (.slice ao N c)) w'):
  wpList P ops Q (o::rest) a w:=by
 subst hN
 rcases hsl with⟨h2,h3⟩|⟨ad,c,h2,h3,h4,h5⟩
 ·subst h3
  refine wpList_append_own_none hgd s x t ho base e i 1 ht hi v n xs hs hown (hx.trans h2) ?_
  obtain⟨ao,c,rfl⟩:=AY hown
  exact h ao c w (by simpa using hown) ⟨rfl,rfl,rfl,Ah _,fun _ _ _=> rfl⟩ (.inl rfl)
 ·refine wpList_append_own_at w hgd s x t ho base e i z 1 bytes ht hi hz hsize hby hzs (by omega) v n xs hs hown ad news.length c news (hx.trans h2) (by simp) h5 h1 h63 hbytes hbase (fun v' w' a1 a2 _ a4=> ?_)
  obtain⟨ao,c,rfl⟩:=AY a1
  exact h ao c w' a1 a2 a4
def ofK (k:IntKind) (bs:List Int):List Value:=bs.map (Value.int k)
theorem AJ (k:IntKind) (bs:List Int):(ofK k bs).length=bs.length:=by simp[ofK]
theorem Cp (k:IntKind) (bs:List Int):∀ u∈ofK k bs,u.oneCell'=true:=by
 intro u hu;obtain⟨b,_,rfl⟩:=List.mem_map.1 hu;rfl
theorem Hb (k:IntKind) (bs:List Int) (i:Nat) (h:i<bs.length):(ofK k bs)[i]?=some (.int k bs[i]):=by simp[ofK,h]
theorem Sl.of_owns {w:World} {base:Nat} {e:TypeId} {v:Value} {n:Nat} {xs:List Value} (h:w.ownsRow base e 1 v n xs):Sl w v xs:=by
 obtain⟨h1,h2|⟨g,cap,cur,hv,hg,hh,hn,hc,hs,ht⟩⟩:=h
 ·obtain⟨rfl,rfl⟩:=h2
  exact .inl ⟨rfl,List.eq_nil_of_length_eq_zero (by simpa using h1)⟩
 ·refine .inr ⟨⟨g,0,none⟩,cap,by rw[hv,h1];simp,by omega,hc,fun i u hu=> ?_⟩
  exact World.ownsRow.cells (w:=w) (base:=base) (e:=e) (size:=1) (v:=v) (n:=n) (xs:=xs) ⟨h1,.inr ⟨g,cap,cur,hv,hg,hh,hn,hc,hs,ht⟩⟩ (by rw[hv];rfl) i u hu
theorem Sl.shape {w:World} {v:Value} {xs:List Value} (h:Sl w v xs):
  ∃ ao c,v=.slice ao xs.length c∧xs.length≤c∧c≤maxLen∧(0<xs.length→∃ b o,ao=some ⟨b,o,none⟩∧b<w.heap.size∧∀ j u,xs[j]?=some u→w.cell? ⟨b,o+j,none⟩=some u):=by
 rcases h with⟨rfl,rfl⟩|⟨ad,c,h1,h2,h3,h4⟩
 ·exact⟨none,0,rfl,Ah _,by unfold maxLen;omega,fun h=> by simp at h⟩
 ·refine⟨some ad,c,h1,h2,h3,fun h0=> ?_⟩
  obtain⟨b,o,sp⟩:=ad
  have hc:=h4 0 xs[0] (by simp)
  have hsp:sp=none:=by simpa [Addr.add] using World.cell?_spot hc
  subst hsp
  refine⟨b,o,rfl,by simpa [Addr.add] using Am hc,fun j u hj=> ?_⟩
  have:=h4 j u hj
  unfold Addr.add at this
  by_cases hj0:j=0
  ·subst hj0;simpa using this
  ·simpa [hj0] using this
theorem Sl.take {w:World} {ao:Option Addr} {len c:Nat} {xs:List Value} (h:Sl w (.slice ao len c) xs) (n:Nat) (hn:n≤xs.length):Sl w (.slice ao n c) (xs.take n):=by
 rcases h with⟨h1,rfl⟩|⟨ad,c',h1,h2,h3,h4⟩
 ·cases h1;obtain rfl:n=0:=by simpa using hn
  exact .inl ⟨rfl,rfl⟩
 ·cases h1
  refine .inr ⟨ad,c,by simp[hn],by simp;omega,h3,fun i u hu=> ?_⟩
  rw[List.getElem?_take] at hu
  split at hu
  ·exact h4 i u hu
  ·cases hu
theorem Sl.keep {S:Nat→Prop} {w w':World} {v:Value} {xs:List Value} (h:Sl w v xs) (hc:Ch S w w') (hv:∀ k,v.ownBlock=some k→¬ S k):Sl w' v xs:=by
 rcases h with h|⟨ad,c,k1,k2,k3,k4⟩
 ·exact .inl h
 ·refine .inr ⟨ad,c,k1,k2,k3,fun i u hu=> ?_⟩
  have hcc:=k4 i u hu
  have hlt:=Am hcc
  rw[CV] at hlt
  rw[hc.cell (by rw[CV];exact hlt) (by rw[CV];exact hv _ (by rw[k1];rfl))];exact hcc
theorem Hv (k:IntKind) (bs:List Int) (n:Nat):(ofK k bs).take n=ofK k (bs.take n):=by simp[ofK]
theorem AP {P:Program} {f:FuncId} {fn:Func} (hf:P.funcs[f]?=some fn) (hname:(fn.name=="runtime.NumGoroutine")=false) (hb:fn.body.isNone=false) (args:Array Value) (w:World):
  Sem.run P (callFunc f args) w=.ok (.enter f args) w:=by
 have h1:¬ fn.name="runtime.NumGoroutine":=by simpa using hname
 have h2:¬ fn.body=none:=by intro h;rw[h] at hb;cases hb
 simp[callFunc,hf,go_sem,h1,h2]
theorem Ch.set (w:World) (p:Addr) (u:Value):Ch (·=p.block) w (w.setCell p u):=(Ch.refl (·=p.block) w).setCell (.inl rfl) u
def Blk (w:World) (g:Nat) (e:TypeId) (xs:List Value):Prop:=w.heap[g]?=some (.cells xs.toArray e (0,0))
theorem Blk.lt {w:World} {g:Nat} {e:TypeId} {xs:List Value} (h:Blk w g e xs):g<w.heap.size:=lt_of_block h
theorem Blk.cell {w:World} {g:Nat} {e:TypeId} {xs:List Value} (h:Blk w g e xs) (i:Nat):w.cell? ⟨g,i,none⟩=xs[i]?:=by
 unfold Blk at h;simp[World.cell?,h]
theorem Blk.free {w:World} {g:Nat} {e:TypeId} {xs:List Value} (h:Blk w g e xs) (i:Nat):w.frozen? ⟨g,i,none⟩=false:=by
 unfold Blk at h;simp[World.frozen?,h]
theorem Blk.set {w:World} {g:Nat} {e:TypeId} {xs:List Value} (h:Blk w g e xs) (i:Nat) (u:Value):Blk (w.setCell ⟨g,i,none⟩ u) g e (xs.set i u):=by
 unfold Blk at *
 have hlt:=lt_of_block h
 have h':w.heap[g]=.cells xs.toArray e (0,0):=by simpa [Array.getElem?_eq_getElem hlt] using h
 show(w.heap.modify g _)[g]?=_
 rw[Array.getElem?_eq_getElem (by simpa using hlt),Array.getElem_modify_self,h']
 simp
theorem Blk.keep {S:Nat→Prop} {w w':World} {g:Nat} {e:TypeId} {xs:List Value} (h:Blk w g e xs) (hc:Ch S w w') (hb:¬ S g):Blk w' g e xs:=by
 unfold Blk at *;rw[hc.block g (lt_of_block h) hb];exact h
theorem Blk.below {B:Nat} {w w':World} {g:Nat} {e:TypeId} {xs:List Value} (h:Blk w g e xs) (hc:Below B w w') (hb:g<B):Blk w' g e xs:=by
 unfold Blk at *;rw[hc.block g hb];exact h
theorem Blk.new (w:World) (xs:List Value) (e:TypeId):Blk (w.alloc (.cells xs.toArray e)) w.heap.size e xs:=heap_alloc_new _ _
theorem Blk.owns {w:World} {g base:Nat} {e:TypeId} {xs:List Value} (h:Blk w g e xs) (hb:base≤g) (hm:xs.length≤maxLen):w.ownsRow base e 1 (.slice (some ⟨g,0,none⟩) xs.length xs.length) xs.length xs:=
 ⟨by simp,.inr ⟨g,xs.length,xs.toArray,rfl,hb,h,Ah _,hm,by simp,by simp⟩⟩
theorem Aw {B:Nat} {S:Nat→Prop} {w w1 w2:World} (h:Below B w w1) (hc:Ch S w1 w2) (hs:B≤w.heap.size) (hb:∀ k,S k→B≤k):Below B w w2:=
 ⟨hc.os.trans h.os,hc.tape.trans h.tape,hc.output.trans h.output,Aj h.size hc.size,fun k hk=> (hc.block k (by have:=h.size;omega) (fun s=> by have:=hb k s;omega)).trans (h.block k hk)⟩
theorem An {B:Nat} {w w1 w2:World} (h:Below B w w1) (hc:Below w1.heap.size w1 w2) (hs:B≤w.heap.size):Below B w w2:=
 h.trans (hc.mono (Aj hs h.size))
structure Sm (w w':World):Prop where
 os:w'.os=w.os
 tape:w'.tape=w.tape
 output:w'.output=w.output
 heap:w'.heap=w.heap
theorem Sm.refl (w:World):Sm w w:=⟨rfl,rfl,rfl,rfl⟩
theorem Sm.drew {w w':World} (h:Sm w w'):Sm w w'.drew:=⟨h.os,h.tape,h.output,h.heap⟩
theorem Sm.drewN {w w':World} (h:Sm w w') (n:Nat):Sm w (w'.drewN n):=⟨h.os,h.tape,h.output,h.heap⟩
theorem Sm.below {w w':World} (h:Sm w w') (B:Nat):Below B w w':=⟨h.os,h.tape,h.output,by rw[h.heap];exact Ah _,fun _ _=> by rw[h.heap]⟩
theorem Sm.ch {w w':World} (h:Sm w w') (S:Nat→Prop):Ch S w w':=⟨h.os,h.tape,h.output,by rw[h.heap];exact Ah _,fun _ _ _=> by rw[h.heap]⟩
theorem Sm.cell {w w':World} (h:Sm w w') (a:Addr):w'.cell? a=w.cell? a:=by simp[World.cell?,h.heap]
theorem Sm.sl {w w':World} (h:Sm w w') {v:Value} {xs:List Value} (k:Sl w v xs):Sl w' v xs:=k.keep (h.ch (fun _=> False)) (fun _ _=> id)
theorem Sm.blk {w w':World} (h:Sm w w') {g:Nat} {e:TypeId} {xs:List Value} (k:Blk w g e xs):Blk w' g e xs:=by
 unfold Blk at *;rw[h.heap];exact k
theorem Sl.nums {w:World} {v:Value} {k:IntKind} {bs:List Int} (h:Sl w v (ofK k bs)):
  ∃ ao c,v=.slice ao bs.length c∧bs.length≤c∧c≤9223372036854775807∧(0<bs.length→∃ b o,ao=some ⟨b,o,none⟩∧b<w.heap.size∧∀ j (hj:j<bs.length),w.cell? ⟨b,o+j,none⟩=some (.int k bs[j])):=by
 obtain⟨ao,c,h1,h2,h3,h4⟩:=h.shape
 rw[AJ] at h1 h2 h4
 refine⟨ao,c,h1,h2,by unfold maxLen at h3;omega,fun h0=> ?_⟩
 obtain⟨b,o,e,hb,hc⟩:=h4 h0
 exact⟨b,o,e,hb,fun j hj=> hc j _ (Hb _ _ _ hj)⟩
def AU (xs:List Value) (o:Nat):List Value→List Value
 | []=> xs
 | v::r=> AU (xs.set o v) (o+1) r
theorem Cm (vs:List Value):∀ (xs:List Value) (o:Nat),o+vs.length≤xs.length→∀ i,(AU xs o vs)[i]?=if o≤i∧i<o+vs.length then vs[i - o]? else xs[i]?:=by
 induction vs with
 | nil=> intro xs o _ i;simp only[AU,List.length_nil];rw[if_neg (by omega)]
 | cons v r ih=>
  intro xs o h i
  simp only[List.length_cons] at h
  simp only[AU,List.length_cons]
  rw[ih (xs.set o v) (o+1) (by rw[List.length_set];omega) i]
  by_cases h1:i=o
  ·subst h1
   rw[if_neg (by omega),if_pos (by omega),Nat.sub_self,List.getElem?_set_self (by omega)];rfl
  ·by_cases h2:o+1≤i∧i<o+1+r.length
   ·rw[if_pos h2,if_pos (by omega),show i - o=(i - (o+1))+1 from by omega,Ac]
   ·rw[if_neg h2,if_neg (by omega),List.getElem?_set_ne (by omega)]
theorem Fs (vs xs:List Value) (h:vs.length=xs.length):AU xs 0 vs=vs:=by
 apply List.ext_getElem?
 intro i
 rw[Cm vs xs 0 (by omega) i]
 by_cases hi:i<vs.length
 ·rw[if_pos (by omega)];rfl
 ·rw[if_neg (by omega),List.getElem?_eq_none (by omega),List.getElem?_eq_none (by omega)]
theorem Blk.setCells {g:Nat} {e:TypeId}:∀ (vs:List Value) (o:Nat) (w:World) (xs:List Value),Blk w g e xs→Blk (w.setCells g o vs) g e (AU xs o vs):=by
 intro vs
 induction vs with
 | nil=> intro o w xs h;exact h
 | cons v r ih=> intro o w xs h;exact ih (o+1) _ _ (h.set o v)
theorem AH (g:Nat):∀ (vs:List Value) (o:Nat) (w:World),Ch (·=g) w (w.setCells g o vs):=by
 intro vs
 induction vs with
 | nil=> intro o w;exact Ch.refl _ _
 | cons v r ih=> intro o w;exact(Ch.set w ⟨g,o,none⟩ v).trans (ih (o+1) _)
theorem El (g:Nat):∀ (vs:List Value) (o:Nat) (w:World),(w.setCells g o vs).heap.size=w.heap.size:=by
 intro vs
 induction vs with
 | nil=> intro o w;rfl
 | cons v r ih=> intro o w;exact(ih (o+1) _).trans (by simp[World.setCell])
theorem Ao {P:Program} (w:World) {ops:Array Oper} {rest:List Oper} {o:Oper} {a:Act} {Q:Exit→Act→World→Prop} (hgd:o.guard=none) (ty:TypeId) (x y:Operand) (ho:o.op=.store ty x y)
  (g:Nat) (e:TypeId) (xs cells:List Value) (hb:Blk w g e xs) (hx:a.eval x=.pointer (some ⟨g,0,none⟩)) (hy:a.eval y=.agg cells.toArray) (hl:cells.length=xs.length) (hi:(P.info? ty).map (·.size)=some cells.length) (h1:∀ v∈cells,v.oneCell'=true)
  (h:∀ w',Blk w' g e cells→Ch (·=g) w w'→w'.heap.size=w.heap.size→wpList P ops Q rest (a.put o.dst undef) w'):wpList P ops Q (o::rest) a w:=by
 refine wpList_store_mid hgd ty x y ho g 0 cells.toArray hx hy (fun j hj=> ?_) (by simpa using hi) (all_oneCell_toArray h1) ?_
 ·have hj':j<xs.length:=by simp at hj;omega
  rw[hb.cell,hb.free]
  simp[hj']
 ·have:=hb.setCells cells 0
  rw[Fs cells xs hl] at this
  exact h _ this (AH g cells 0 w) (El g cells 0 w)
theorem AA {P:Program} {fn:Func} {p:Tmp} {ty:TypeId} (h:fn.results=#[.cell p ty]) (tmps:Array Value) (w:World) (g:Nat) (e:TypeId) (xs:List Value) (hp:tmps.getD p undef=.pointer (some ⟨g,0,none⟩)) (hb:Blk w g e xs) (d:TypeDesc)
  (hu:P.underlying ty=some d) (hd:(match d with|.struct _|.array _ _=> true|_=> false)=true) (hi:(P.info? ty).map (·.size)=some xs.length):(results fn tmps).run P w=.ok (.agg xs.toArray) w:=
 results_cell_row h tmps w g e xs.toArray (0,0) d hp hb hu hd (by simpa using hi)
end Go.Proofs.YtgdlfiphihaooaaGreat
namespace Go.Proofs.YtgdlfiphihaooaaGreat
open Go Go.RowKit Go.Sort
section
variable {P:Program} {ops:Array Oper} {md:Region.Mode} {C:World→Prop}
end
def Bf (w:World) (p:Regrown):World:=grow (redrawn w p.d) p.os
theorem AN (w:World) (p:Regrown):Below w.heap.size w (Bf w p):=below_regrown w p.d p.os
theorem GL {w w':World} (h:Below w.heap.size w w'):∃ p:Regrown,w'=Bf w p:=regrown_of_below h
theorem JN (w:World):∃ p:Regrown,({w with drawn:=w.drawn+1}:World)=Bf w p:=GL ⟨rfl,rfl,rfl,Ah _,fun _ _=> rfl⟩
theorem AS {w:World} {a:Addr} {v:Value} (h:w.cell? a=some v):∀ p:Regrown,(Bf w p).cell? a=some v:=fun p=> cell_regrown h p.d p.os
theorem A3 {P:Program} {id:Nat} {Q:Exit→Act→World→Prop} {a:Act} {w:World} {l:List Oper} (hm:P.follows .mixedOrders=true) (hB:Region.lexB .any l.toArray=true)
  (h:wpQuiet P l.toArray (fun w'=> ∃ p:Regrown,w'=Bf w p) (fun a'=> ∀ w',(∃ p:Regrown,w'=Bf w p)→Q .normal a' w') l a):(Code.region id l.toArray true).wp P Q a w:=
 wp_region_quiet (C:=fun w'=> ∃ p:Regrown,w'=Bf w p) hm hB (JN w) (by simpa using h)
theorem AT {P:Program} {f:FuncId} {args:Array Value} {w:World} {p:Regrown} {v:Value}
  (h:Calls P f args (Bf w p) fun e w'=> e=.returned v∧Below (Bf w p).heap.size (Bf w p) w'):Calls P f args (Bf w p) fun e w''=> e=.returned v∧∃ p:Regrown,w''=Bf w p:=
 Calls.regrown_of h
theorem A7 {P:Program} {f:FuncId} {args:Array Value} {w:World} {p:Regrown} {v:Value}
  (h:Calls P f args (Bf w p) fun e w'=> e=.returned v∧w'=Bf w p):Calls P f args (Bf w p) fun e w''=> e=.returned v∧∃ p:Regrown,w''=Bf w p:=
 h.mono fun _ _ ⟨he,hb⟩=> ⟨he,p,hb⟩
section
variable {P:Program} {ops:Array Oper} {md:Region.Mode} {Q:Exit→Act→World→Prop}
end
end Go.Proofs.YtgdlfiphihaooaaGreat
namespace Go.Proofs.YtgdlfiphihaooaaGreat
open Go Go.RowKit
theorem JO (off:Nat):∀ (vs:List Value) (j0:Nat) (cells:Array Value),off+j0+vs.length≤cells.size→
  ((vs.toArray.zipIdx j0).foldl (fun cs (c,j)=> cs.setIfInBounds (off+j) c) cells).toList=cells.toList.take (off+j0) ++ vs ++ cells.toList.drop (off+j0+vs.length):=by
 intro vs
 induction vs with
 | nil=>
  intro j0 cells h
  rw[←Array.foldl_toList]
  simp
 | cons v vs ih=>
  intro j0 cells h
  have h':off+j0+1+vs.length≤cells.size:=by simp at h;omega
  have:=ih (j0+1) (cells.setIfInBounds (off+j0) v) (by simp;omega)
  have e:(((v::vs).toArray.zipIdx j0).foldl (fun cs (c,j)=> cs.setIfInBounds (off+j) c) cells)=((vs.toArray.zipIdx (j0+1)).foldl (fun cs (c,j)=> cs.setIfInBounds (off+j) c) (cells.setIfInBounds (off+j0) v)):=by
   rw[←Array.foldl_toList,←Array.foldl_toList]
   simp[List.zipIdx_cons]
  rw[e,this]
  have hlt:off+j0<cells.toList.length:=by simp;omega
  rw[Array.toList_setIfInBounds,List.length_cons,List.drop_set_of_lt (by omega),show off+(j0+1)=(off+j0)+1 by omega,List.take_succ_eq_append_getElem (by simpa using hlt),List.take_set_of_le (by omega)]
  simp[Nat.add_assoc,Nat.add_comm 1]
theorem Kt (place:Nat→Option (Nat × Nat)) (cells:Array Value) (i off:Nat) (v:Value) (rest:List (Nat × Value)) (hp:place i=some (off,v.cells.size)) (hs:off+v.cells.size≤cells.size):
  Instr.fill place cells ((i,v)::rest)=Instr.fill place (cells.toList.take off ++ v.cells.toList ++ cells.toList.drop (off+v.cells.size)).toArray rest:=by
 have h1:¬ (v.cells.size≠v.cells.size ||decide (off+v.cells.size>cells.size))=true:=by simp;omega
 rw[Instr.fill,hp]
 dsimp only
 rw[if_neg h1]
 congr 1
 rw[←Array.toList_inj,List.toList_toArray]
 have:=JO off v.cells.toList 0 cells (by simpa using hs)
 simpa using this
theorem Ft {P:Program} (w:World) (t:TypeId) (cs:Array Value):(newRow t cs).run P w=.ok ⟨w.heap.size,0,none⟩ (w.alloc (.cells cs t)):=by
 simp[newRow,Result.andThen]
theorem CF {P:Program} (w:World) (t:TypeId) (v:Value):(newVar t v).run P w=.ok ⟨w.heap.size,0,none⟩ (w.alloc (.cells v.cells t)):=Ft w t v.cells
theorem Er {P:Program} {t e:TypeId} {n:Nat} {zs:Array Value} (ht:P.underlying t=some (.slice e)) (hs:∀ w,(sizeOf e).run P w=.ok n w) (hz:∀ w,(zeroValue e).run P w=.ok (.agg zs) w) (hn0:0<n) (hn:n≤16777216)
  (cs:List Value) (hcs:cs.length=n) (w:World):(Instr.buildSlice t 1 #[(0,.agg cs.toArray)]).run P w=.ok (.slice (some ⟨w.heap.size,0,none⟩) 1 1) (w.alloc (.cells cs.toArray e)):=by
 have e1:∀ c:Array Value,c.size=n→(Instr.fill (fun i=> some (i* n,n)) c [(0,.agg cs.toArray)])=some cs.toArray:=by
  intro c hc
  have ca:(Value.agg cs.toArray).cells=cs.toArray:=rfl
  rw[Kt _ _ 0 0 (.agg cs.toArray) _ (by rw[ca];simp[hcs]) (by rw[ca];simp[hcs,hc]),ca]
  simp[Instr.fill,hcs,hc]
 have h1:¬ n>2 ^ 24:=by omega
 have h2:¬ n=0:=by omega
 simp[Instr.buildSlice,run_underlying ht,hs,hz,Value.cells,Result.andThen,h1,h2,e1,Ft]
theorem Av {P:Program} (w:World) {ops:Array Oper} {rest:List Oper} {o:Oper} {a:Act} {Q:Exit→Act→World→Prop} (hgd:o.guard=none) (t:TypeId) (ho:o.op=.alloc t) (zs:List Value) (hz:∀ w,(zeroValue t).run P w=.ok (.agg zs.toArray) w)
  (h:∀ w',Blk w' w.heap.size t zs→Below w.heap.size w w'→w'.heap.size=w.heap.size+1→wpList P ops Q rest (a.put o.dst (.pointer (some ⟨w.heap.size,0,none⟩))) w'):wpList P ops Q (o::rest) a w:=by
 refine wpList_plain hgd fun K' hK'=> ?_
 have hrun:(execOp a.eval o).run P w=.ok (.value (.pointer (some ⟨w.heap.size,0,none⟩))) (w.alloc (.cells zs.toArray t)):=by
  simp[execOp,ho,Instr.alloc,hz,Result.andThen,CF,Value.cells]
 unfold Oper.wp
 rw[hrun]
 exact hK' _ _ (h _ (Blk.new w zs t) ((Below.refl _ _).alloc (Ah _) _) (by simp))
theorem Au {P:Program} (w:World) {ops:Array Oper} {rest:List Oper} {o:Oper} {a:Act} {Q:Exit→Act→World→Prop} (hgd:o.guard=none) (t:TypeId) (x:Operand) (ho:o.op=.box t x) (cs:List Value) (hx:a.eval x=.agg cs.toArray)
  (h:∀ w',Blk w' w.heap.size t cs→Below w.heap.size w w'→w'.heap.size=w.heap.size+1→wpList P ops Q rest (a.put o.dst (.pointer (some ⟨w.heap.size,0,none⟩))) w'):wpList P ops Q (o::rest) a w:=by
 refine wpList_plain hgd fun K' hK'=> ?_
 have hrun:(execOp a.eval o).run P w=.ok (.value (.pointer (some ⟨w.heap.size,0,none⟩))) (w.alloc (.cells cs.toArray t)):=by
  simp[execOp,ho,Instr.box,hx,Result.andThen,CF,Value.cells]
 unfold Oper.wp
 rw[hrun]
 exact hK' _ _ (h _ (Blk.new w cs t) ((Below.refl _ _).alloc (Ah _) _) (by simp))
theorem Bk {P:Program} (w:World) {ops:Array Oper} {rest:List Oper} {o:Oper} {a:Act} {Q:Exit→Act→World→Prop} (hgd:o.guard=none) (t:TypeId) (x:Operand) (ho:o.op=.buildSlice t 1 #[(0,x)]) {e:TypeId} {n:Nat} {zs:Array Value} (ht:P.underlying t=some (.slice e)) (hs:∀ w,(sizeOf e).run P w=.ok n w) (hz:∀ w,(zeroValue e).run P w=.ok (.agg zs) w) (hn0:0<n) (hn:n≤16777216)
  (cs:List Value) (hcs:cs.length=n) (hx:a.eval x=.agg cs.toArray) (h:∀ w',Blk w' w.heap.size e cs→Below w.heap.size w w'→w'.heap.size=w.heap.size+1→wpList P ops Q rest (a.put o.dst (.slice (some ⟨w.heap.size,0,none⟩) 1 1)) w'):wpList P ops Q (o::rest) a w:=by
 refine wpList_plain hgd fun K' hK'=> ?_
 have hrun:(execOp a.eval o).run P w=.ok (.value (.slice (some ⟨w.heap.size,0,none⟩) 1 1)) (w.alloc (.cells cs.toArray e)):=by
  simp[execOp,ho,hx,Er ht hs hz hn0 hn cs hcs,Result.andThen]
 unfold Oper.wp
 rw[hrun]
 exact hK' _ _ (h _ (Blk.new w cs e) ((Below.refl _ _).alloc (Ah _) _) (by simp))
theorem As {w:World} {g:Nat} {e:TypeId} {xs:List Value} (h:Blk w g e xs):w.rangeAt g 0 xs:=fun j v hv=> by rw[Nat.zero_add,h.cell];exact hv
theorem BF {S:Nat→Prop} {w w':World} {b o:Nat} {cs:List Value} (h:w.rangeAt b o cs) (hc:Ch S w w') (hS:¬ S b):w'.rangeAt b o cs:=fun j v hv=> by
 have:=h j v hv
 exact(hc.cell (Am this) hS).trans this
theorem AD {w w':World} {b o:Nat} {cs:List Value} (h:w.rangeAt b o cs) (hb:Below w.heap.size w w'):w'.rangeAt b o cs:=fun j v hv=> by
 have:=h j v hv
 exact(hb.cell (Am this)).trans this
theorem Ap {P:Program} {ops:Array Oper} {rest:List Oper} {op:Oper} {a:Act} {w:World} {Q:Exit→Act→World→Prop} (hgd:Region.wanted op (yielded ops a.tmps)=true) (ty:TypeId) (x:Operand) (ho:op.op=.load ty x)
  (b o:Nat) (hx:a.eval x=.pointer (some ⟨b,o,none⟩)) (cs:List Value) (d:TypeDesc) (hc:w.rangeAt b o cs)
  (hu:P.underlying ty=some d) (hd:d.isRow=true) (hi:(P.info? ty).map (·.size)=some cs.length)
  (h:wpList P ops Q rest (a.put op.dst (.agg cs.toArray)) w):wpList P ops Q (op::rest) a w:=
 wpList_step fun _ hK=> by rw[if_pos hgd];exact wp_load_mid ty x ho b o hx cs d hc hu hd hi (hK _ _ h)
theorem AQ {P:Program} {fn:Func} {p u:Tmp} {ty:TypeId} (h:fn.results=#[.cell p ty,.tmp u]) (tmps:Array Value) (w:World) (g:Nat) (e:TypeId) (xs:List Value) (hp:tmps.getD p undef=.pointer (some ⟨g,0,none⟩)) (hb:Blk w g e xs) (d:TypeDesc)
  (hu:P.underlying ty=some d) (hd:d.isRow=true) (hi:(P.info? ty).map (·.size)=some xs.length) (v:Value) (hv:tmps.getD u undef=v):(results fn tmps).run P w=.ok (.tuple #[.agg xs.toArray,v]) w:=by
 rw[results_cell_tmp h,hp,hv]
 have hl:=run_loadVar_mid (P:=P) w g 0 ty xs d (fun j v hv=> by rw[Nat.zero_add,hb.cell];exact hv) hu hd hi
 simp only[asAddr,Sem.run_pure,Result.andThen_ok,hl]
end Go.Proofs.YtgdlfiphihaooaaGreat
namespace Go.Proofs.YtgdlfiphihaooaaGreat
open Go Go.RowKit Go.Sort
section
variable {P:Program} {ops:Array Oper} {md:Region.Mode} {Q:Exit→Act→World→Prop} {S:World→Prop}
def GU:List Nat→Array Bool→Array Bool
 | [],l=> l
 | i::is,l=> GU is (l.setIfInBounds i true)
def Hc (md:Region.Mode) (ops:Array Oper):List Nat→Array Bool→Bool
 | [],_=> true
 | i::is,l=> Region.free md ops l i && (Region.ready md ops l).contains i && Hc md ops is (l.setIfInBounds i true)
def AK (P:Program) (ops:Array Oper) (S:World→Prop):List Nat→(Act→Prop)→Act→Prop
 | [],K,a=> K a
 | i::is,K,a=> ∃ o v,ops[i]?=some o∧YieldsIf P ops S o v a∧AK P ops S is K (a.put o.dst v)
theorem AK.run {i:Nat} {is:List Nat} {o:Oper} {v:Value} {K:Act→Prop} {a:Act} (hi:ops[i]?=some o) (hw:Region.wanted o (yielded ops a.tmps)=true) (hy:∀ w,S w→(execOp a.eval o).run P w=.ok (.value v) w) (h:AK P ops S is K (a.put o.dst v)):AK P ops S (i::is) K a:=⟨o,v,hi,.inl ⟨hw,hy⟩,h⟩
theorem Bi (hsel:Region.noSelect ops=true) (hQ:∀ c a a' w,Q (.panic c) a' w→Q (.panic c) a w) {fuel:Nat} {w:World} (hS:S w):∀ (is:List Nat) (listed:Array Bool) (a:Act),Hc md ops is listed=true→
  AK P ops S is (fun a'=> wpAnyH P md ops Q S fuel (GU is listed) a' w) a→wpAnyH P md ops Q S (is.length+fuel) listed a w
 | [],listed,a,_,h=> by rw[List.length_nil,Nat.zero_add];exact h
 | i::is,listed,a,hB,h=> by
  simp only[Hc,Bool.and_eq_true] at hB
  obtain⟨o,v,hi,hy,h⟩:=h
  rw[List.length_cons,show is.length+1+fuel=is.length+fuel+1 by omega]
  exact wpAnyH_take hi hsel hB.1.1 hB.1.2 (fun c a' w' hh=> hQ c _ _ w' hh) hy hS (Bi hsel hQ hS is _ _ hB.2 h)
def QK (Q:Exit→Act→World→Prop) (K:Act→World→Prop):Exit→Act→World→Prop
 | .normal,a,w=> K a w
 | e,a,w=> Q e a w
theorem QK.normal {K:Act→World→Prop} {a:Act} {w:World} (h:K a w):QK Q K .normal a w:=h
theorem Lp {o:Oper} {a:Act} {K:Act→World→Prop} (r:Result Next) (h:o.upon P a (wpList P ops (QK Q K) []) (QK Q K) r):o.upon P a K Q r:=by
 cases r with
 | ok n w=>
  cases n <;> first|exact h|(simp only[Oper.upon] at h ⊢;exact h)
 | halt x w=> first|exact h|(simp only[Oper.upon] at h ⊢;exact h)
theorem CT {i:Nat} {o:Oper} {K:Act→World→Prop} {a:Act} {w:World} (hi:ops[i]?=some o) (h:wpList P ops (QK Q K) [o] a w):wpOp P ops Q i K a w:=by
 unfold wpOp
 simp only[hi]
 unfold wpList at h
 split at h
 ·rename_i hw
  rw[if_pos hw]
  refine h.imp (fun h=> Lp _ h) (fun h=> ⟨h.1,?_⟩)
  obtain⟨a',w',h2⟩:=h.2
  exact⟨a',w',h2⟩
 ·rename_i hw
  rw[if_neg hw]
  exact h
theorem Ar (i:Nat) {o:Oper} {fuel:Nat} {listed:Array Bool} {a:Act} {w:World} (hr:Region.ready md ops listed=[i]) (ho:ops[i]?=some o)
  (h:wpList P ops (QK Q (fun a' w'=> S w'∧wpAnyH P md ops Q S fuel (listed.setIfInBounds i true) a' w')) [o] a w):wpAnyH P md ops Q S (fuel+1) listed a w:=
 wpAnyH_all hr (by simp) (fun j hj=> by
   obtain rfl:j=i:=by simpa using hj
   exact CT ho h)
theorem Ck (i j:Nat) {o p:Oper} {fuel:Nat} {listed:Array Bool} {a:Act} {w:World} (hr:Region.ready md ops listed=[i,j]) (ho:ops[i]?=some o) (hp:ops[j]?=some p)
  (h:wpList P ops (QK Q (fun a' w'=> S w'∧wpAnyH P md ops Q S fuel (listed.setIfInBounds i true) a' w')) [o] a w)
  (k:wpList P ops (QK Q (fun a' w'=> S w'∧wpAnyH P md ops Q S fuel (listed.setIfInBounds j true) a' w')) [p] a w):wpAnyH P md ops Q S (fuel+1) listed a w:=
 wpAnyH_all hr (by simp) (fun n hn=> by
  rcases (show n=i∨n=j by simpa using hn) with rfl|rfl
  ·exact CT ho h
  ·exact CT hp k)
end
theorem AB {P:Program} {ev:Operand→Value} {o:Oper} {ty:TypeId} {x:Operand} (ho:o.op=.load ty x) {b off:Nat} (hx:ev x=.pointer (some ⟨b,off,none⟩)) {cs:List Value} {d:TypeDesc} {w:World} (hc:w.rangeAt b off cs)
  (hu:P.underlying ty=some d) (hd:d.isRow=true) (hi:(P.info? ty).map (·.size)=some cs.length):(execOp ev o).run P w=.ok (.value (.agg cs.toArray)) w:=by
 unfold execOp
 simp only[ho,hx,Instr.loadAt,Instr.sureAddr,Sem.run_bind,Sem.run_pure,Result.andThen_ok,run_loadVar_mid w b off ty cs d hc hu hd hi]
theorem AG {Q:Exit→Act→World→Prop}:∀ c a a' w,NoPanic Q (.panic c) a' w→NoPanic Q (.panic c) a w:=fun _ _ _ _ h=> (h:False).elim
theorem Az {P:Program} {id:Nat} {Q:Exit→Act→World→Prop} {a:Act} {w:World} {l:List Oper} (S:World→Prop) (is:List Nat) (fuel:Nat) (hm:P.follows .mixedOrders=true) (hn:l.length=is.length+fuel)
  (hsel:Region.noSelect l.toArray=true) (hB:Hc .any l.toArray is (Array.replicate l.toArray.size false)=true) (hS:S w.drew)
  (h:AK P l.toArray S is (fun a'=> wpAnyH P .any l.toArray (NoPanic Q) S fuel (GU is (Array.replicate l.toArray.size false)) a' w.drew) a):(Code.region id l.toArray true).wp P Q a w:=by
 refine wp_region_noPanic (wp_region_held (S:=S) hm ?_)
 have:=Bi (P:=P) (md:=.any) (Q:=NoPanic Q) hsel AG (fuel:=fuel) hS is _ a hB h
 rw[←show l.toArray.size=is.length+fuel by simpa using hn] at this
 exact this
section
variable {P:Program} {ops:Array Oper} {md:Region.Mode} {Q:Exit→Act→World→Prop} {S:World→Prop} {m:Nat}
def BY (P:Program) (md:Region.Mode) (ops:Array Oper) (Q:Exit→Act→World→Prop) (S:World→Prop) (m:Nat):Nat→Array Bool→Act→World→Prop
 | 0,l,a,w=> Region.ready md ops l=[]∧Q .normal a w
 | f+1,l,a,w=> (Region.ready md ops l=[]→Q .normal a w)∧
  ∀ i∈Region.ready md ops l,wpOp P ops Q i (fun a' w'=> ((l.setIfInBounds i true).getD m true=false→S w')∧BY P md ops Q S m f (l.setIfInBounds i true) a' w') a w
theorem CL:∀ (f:Nat) (l:Array Bool) (a:Act) (w:World),BY P md ops Q S m f l a w→wpAny P md ops Q f l a w
 | 0,_,_,_,h=> h
 | f+1,_,_,_,h=> ⟨h.1,fun i hi=> wpOp_mono (fun a' w' k=> CL f _ a' w' k.2) (h.2 i hi)⟩
def Hd (md:Region.Mode) (ops:Array Oper) (m i:Nat):Bool:=
 match ops[m]? with
 | some o=> o.after.any (fun e=> Region.binds md e && e.on==i)
 | none=> false
theorem GM {l:Array Bool} {i:Nat} (hi:i∈Region.ready md ops l) (hw:Hd md ops m i=true):m∉Region.ready md ops l:=fun hm=> by
 obtain⟨hmu,om,hom,hall⟩:=mem_ready.1 hm
 unfold Hd at hw
 rw[hom] at hw
 simp only[Array.any_eq_true] at hw
 obtain⟨k,hk,hb⟩:=hw
 rw[Bool.and_eq_true,beq_iff_eq] at hb
 have h1:=hall _ (Array.getElem_mem hk) hb.1
 have h0:=(mem_ready.1 hi).1
 rw[hb.2] at h1
 rcases Nat.lt_or_ge i l.size with h|h
 ·simp[h] at h0 h1
  rw[h0] at h1;cases h1
 ·simp[Array.getElem?_eq_none h] at h1
theorem Ex {i:Nat} {oi:Oper} {v:Value} (hi:ops[i]?=some oi) (hsel:∀ (j:Nat) (o:Oper) cs b,ops[j]?=some o→o.op≠.select cs b)
  (hQ:∀ c a w,Q (.panic c) (a.put oi.dst v) w→Q (.panic c) a w) (hwm:Hd md ops m i=true) (him:i≠m):
  ∀ (f:Nat) (l:Array Bool) (a:Act) (w:World),l.getD m true=false→
   (∀ j oj,ops[j]?=some oj→j≠i→l.getD j true=false→(∀ e∈oj.after,Region.binds md e=true→e.on≠i)→oi.apart ops oj=true)→
   i∈Region.ready md ops l→YieldsIf P ops S oi v a→S w→
   BY P md ops Q S m f (l.setIfInBounds i true) (a.put oi.dst v) w→BY P md ops Q S m (f+1) l a w
 | 0,l,a,w,hl,_,hr,hy,hS,H=> by
  refine⟨fun h=> (by rw[h] at hr;cases hr),fun j hj=> ?_⟩
  rcases Nat.decEq j i with hji|hji
  ·have:=ready_mono hj hji
   rw[H.1] at this;cases this
  ·subst hji
   exact hy.wpOp hi hS ⟨fun _=> hS,H⟩
 | f+1,l,a,w,hl,hfree,hr,hy,hS,H=> by
  refine⟨fun h=> (by rw[h] at hr;cases hr),fun j hj=> ?_⟩
  rcases Nat.decEq j i with hji|hji
  rotate_left
  ·subst hji
   exact hy.wpOp hi hS ⟨fun _=> hS,H⟩
  ·have hjm:j≠m:=fun e=> GM hr hwm (e ▸ hj)
   have hnext:=H.2 j (ready_mono hj hji)
   obtain⟨hju,oj,hoj,hall⟩:=mem_ready.1 hj
   have hno:∀ e∈oj.after,Region.binds md e=true→e.on≠i:=fun e he hb heq=> by
    have h1:=hall e he hb
    have h0:=(mem_ready.1 hr).1
    rw[heq] at h1
    rcases Nat.lt_or_ge i l.size with h|h
    ·simp[h] at h0 h1
     rw[h0] at h1;cases h1
    ·simp[Array.getElem?_eq_none h] at h1
   have hput:=wpOp_putIf hoj (hfree j oj hoj hji hju hno) (fun cs b=> hsel i oi cs b hi) (fun cs b=> hsel j oj cs b hoj) hQ hy hnext
   have hl':(l.setIfInBounds j true).getD m true=false:=by rw[getD_set_ne true hjm];exact hl
   have hl2:((l.setIfInBounds i true).setIfInBounds j true).getD m true=false:=by rw[getD_set_ne true hjm,getD_set_ne true him];exact hl
   refine wpOp_mono (fun a' w' k=> ?_) hput
   have hS':=k.2.1 hl2
   refine⟨fun _=> hS',Ex hi hsel hQ hwm him f (l.setIfInBounds j true) a' w' hl' (fun k' ok hk hki hun hn=> ?_) (ready_mono hr (Ne.symm hji)) k.1 hS' ?_⟩
   ·refine hfree k' ok hk hki ?_ hn
    by_cases hjk:j=k'
    ·subst hjk;exact hju
    ·rw[getD_set_ne true hjk] at hun;exact hun
   ·rw[Array.setIfInBounds_comm _ _ hji]
    exact k.2.2
def Ey (md:Region.Mode) (ops:Array Oper) (m:Nat):List Nat→Array Bool→Bool
 | [],_=> true
 | i::is,l=> Region.free md ops l i && ((Region.ready md ops l).contains i && (Hd md ops m i && ((i !=m) && (!(l.getD m true) && Ey md ops m is (l.setIfInBounds i true)))))
theorem B7 (hsel:Region.noSelect ops=true) (hQ:∀ c a a' w,Q (.panic c) a' w→Q (.panic c) a w) {fuel:Nat} {w:World} (hS:S w):∀ (is:List Nat) (l:Array Bool) (a:Act),Ey md ops m is l=true→
  AK P ops S is (fun a'=> BY P md ops Q S m fuel (GU is l) a' w) a→BY P md ops Q S m (is.length+fuel) l a w
 | [],l,a,_,h=> by rw[List.length_nil,Nat.zero_add];exact h
 | i::is,l,a,hB,h=> by
  simp only[Ey,Bool.and_eq_true,bne_iff_ne,Bool.not_eq_true'] at hB
  obtain⟨o,v,hi,hy,h⟩:=h
  rw[List.length_cons,show is.length+1+fuel=is.length+fuel+1 by omega]
  exact Ex hi (Region.noSelect_spec hsel) (fun c a' w' hh=> hQ c _ _ w' hh) hB.2.2.1 hB.2.2.2.1 _ _ _ _ hB.2.2.2.2.1 (Region.free_spec hi hB.1) (by simpa using hB.2.1) hy hS (B7 hsel hQ hS is _ _ hB.2.2.2.2.2 h)
theorem IP {rs:List Nat} {f:Nat} {l:Array Bool} {a:Act} {w:World} (hr:Region.ready md ops l=rs) (hne:rs≠[])
  (h:∀ i∈rs,wpOp P ops Q i (fun a' w'=> ((l.setIfInBounds i true).getD m true=false→S w')∧BY P md ops Q S m f (l.setIfInBounds i true) a' w') a w):BY P md ops Q S m (f+1) l a w:=
 ⟨fun h0=> (hne (hr ▸ h0)).elim,hr ▸ h⟩
theorem Bd {l:Array Bool} {a:Act} {w:World} (hr:Region.ready md ops l=[]) (h:Q .normal a w):∀ f,BY P md ops Q S m f l a w
 | 0=> ⟨hr,h⟩
 | _+1=> ⟨fun _=> h,by rw[hr];intro i hi;cases hi⟩
theorem AE (i:Nat) {o:Oper} {f:Nat} {l:Array Bool} {a:Act} {w:World} (hr:Region.ready md ops l=[i]) (ho:ops[i]?=some o)
  (h:wpList P ops (QK Q (fun a' w'=> ((l.setIfInBounds i true).getD m true=false→S w')∧BY P md ops Q S m f (l.setIfInBounds i true) a' w')) [o] a w):BY P md ops Q S m (f+1) l a w:=
 IP hr (by simp) (fun j hj=> by
   obtain rfl:j=i:=by simpa using hj
   exact CT ho h)
end
theorem A2 {P:Program} {id:Nat} {Q:Exit→Act→World→Prop} {a:Act} {w:World} {ls:List Oper} (S:World→Prop) (m:Nat) (is:List Nat) (fuel:Nat) (hm:P.follows .mixedOrders=true) (hn:ls.length=is.length+fuel)
  (hsel:Region.noSelect ls.toArray=true) (hB:Ey .any ls.toArray m is (Array.replicate ls.toArray.size false)=true) (hS:S w.drew)
  (h:AK P ls.toArray S is (fun a'=> BY P .any ls.toArray (NoPanic Q) S m fuel (GU is (Array.replicate ls.toArray.size false)) a' w.drew) a):(Code.region id ls.toArray true).wp P Q a w:=by
 refine wp_region_noPanic (wp_region_any hm (CL _ _ _ _ (?_:BY P .any ls.toArray (NoPanic Q) S m _ _ _ _)))
 have h2:=B7 (P:=P) (md:=.any) (m:=m) (Q:=NoPanic Q) hsel AG (fuel:=fuel) hS is _ a hB h
 rw[←show ls.toArray.size=is.length+fuel by simpa using hn] at h2
 exact h2
section
variable {P:Program} {ops:Array Oper} {md:Region.Mode} {Q:Exit→Act→World→Prop} {S:World→Prop} {m:Nat}
theorem Fu {i:Nat} {oi:Oper} {v:Value} (hi:ops[i]?=some oi) (hsel:∀ (j:Nat) (o:Oper) cs b,ops[j]?=some o→o.op≠.select cs b)
  (hQ:∀ c a w,Q (.panic c) (a.put oi.dst v) w→Q (.panic c) a w) (him:i≠m):
  ∀ (f:Nat) (l:Array Bool) (a:Act) (w:World),(l.getD m true=false→S w)→
   (∀ j oj,ops[j]?=some oj→j≠i→l.getD j true=false→(∀ e∈oj.after,Region.binds md e=true→e.on≠i)→oi.apart ops oj=true)→
   i∈Region.ready md ops l→YieldsIf P ops (fun _=> True) oi v a→
   BY P md ops Q S m f (l.setIfInBounds i true) (a.put oi.dst v) w→BY P md ops Q S m (f+1) l a w
 | 0,l,a,w,hl,_,hr,hy,H=> by
  refine⟨fun h=> (by rw[h] at hr;cases hr),fun j hj=> ?_⟩
  rcases Nat.decEq j i with hji|hji
  ·have:=ready_mono hj hji
   rw[H.1] at this;cases this
  ·subst hji
   exact hy.wpOp hi trivial ⟨fun h=> hl (by rw[getD_set_ne true him] at h;exact h),H⟩
 | f+1,l,a,w,hl,hfree,hr,hy,H=> by
  refine⟨fun h=> (by rw[h] at hr;cases hr),fun j hj=> ?_⟩
  rcases Nat.decEq j i with hji|hji
  rotate_left
  ·subst hji
   exact hy.wpOp hi trivial ⟨fun h=> hl (by rw[getD_set_ne true him] at h;exact h),H⟩
  ·have hnext:=H.2 j (ready_mono hj hji)
   obtain⟨hju,oj,hoj,hall⟩:=mem_ready.1 hj
   have hno:∀ e∈oj.after,Region.binds md e=true→e.on≠i:=fun e he hb heq=> by
    have h1:=hall e he hb
    have h0:=(mem_ready.1 hr).1
    rw[heq] at h1
    rcases Nat.lt_or_ge i l.size with h|h
    ·simp[h] at h0 h1
     rw[h0] at h1;cases h1
    ·simp[Array.getElem?_eq_none h] at h1
   have hput:=wpOp_putIf hoj (hfree j oj hoj hji hju hno) (fun cs b=> hsel i oi cs b hi) (fun cs b=> hsel j oj cs b hoj) hQ hy hnext
   refine wpOp_mono (fun a' w' k=> ?_) hput
   have hS':(l.setIfInBounds j true).getD m true=false→S w':=fun h=> k.2.1 (by rw[Array.setIfInBounds_comm _ _ (Ne.symm hji),getD_set_ne true him];exact h)
   refine⟨hS',Fu hi hsel hQ him f (l.setIfInBounds j true) a' w' hS' (fun k' ok hk hki hun hn=> ?_) (ready_mono hr (Ne.symm hji)) k.1 ?_⟩
   ·refine hfree k' ok hk hki ?_ hn
    by_cases hjk:j=k'
    ·subst hjk;exact hju
    ·rw[getD_set_ne true hjk] at hun;exact hun
   ·rw[Array.setIfInBounds_comm _ _ hji]
    exact k.2.2
theorem AL (hsel:Region.noSelect ops=true) (hQ:∀ c a a' w,Q (.panic c) a' w→Q (.panic c) a w) {fuel:Nat} {w:World} {l:Array Bool} {a:Act} (hS:l.getD m true=false→S w) (i:Nat)
  (hB:(Region.free md ops l i && ((Region.ready md ops l).contains i && (i !=m)))=true)
  (h:AK P ops (fun _=> True) [i] (fun a'=> BY P md ops Q S m fuel (l.setIfInBounds i true) a' w) a):BY P md ops Q S m (fuel+1) l a w:=by
 simp only[Bool.and_eq_true,bne_iff_ne] at hB
 obtain⟨o,v,hi,hy,h⟩:=h
 exact Fu hi (Region.noSelect_spec hsel) (fun c a' w' hh=> hQ c _ _ w' hh) hB.2.2 _ _ _ _ hS (Region.free_spec hi hB.1) (by simpa using hB.2.1) hy h
end
end Go.Proofs.YtgdlfiphihaooaaGreat
namespace Go.Proofs.YtgdlfiphihaooaaGreat
open Go Go.RowKit
inductive Tm where
 | mk (k u n:Int) (s:ByteArray) (ks:List Tm)
def Tm.k:Tm→Int|.mk k _ _ _ _=> k
def Tm.u:Tm→Int|.mk _ u _ _ _=> u
def Tm.n:Tm→Int|.mk _ _ n _ _=> n
def Tm.s:Tm→ByteArray|.mk _ _ _ s _=> s
def Tm.ks:Tm→List Tm|.mk _ _ _ _ ks=> ks
theorem Tm.ind {m:Tm→Prop} (h:∀ k u n s ks,(∀ t∈ks,m t)→m (.mk k u n s ks)):∀ t,m t
 | .mk k u n s ks=> h k u n s ks fun t ht=> Tm.ind h t
termination_by t=> SizeOf.sizeOf t
decreasing_by
 have:=List.sizeOf_lt_of_mem ht
 simp only[Tm.mk.sizeOf_spec]
 omega
def tmC (k u n:Int) (s:ByteArray) (v:Value):List Value:=[.int .i64 k,.int .i64 u,.int .i64 n,.string s,v]
theorem Tryz.infoTm:(Tryz.prog.info? 29).map (·.size)=some 5:=by kernel_rfl
theorem Tryz.zeroTm:∀ w,(zeroValue 29).run Tryz.prog w=.ok (.agg (tmC 0 0 0 ⟨#[]⟩ (.slice none 0 0)).toArray) w:=fun w=> by kernel_rfl
theorem A8 (k u n:Int) (s:ByteArray) (v:Value):(Tryz.prog.info? 29).map (·.size)=some (tmC k u n s v).length:=Tryz.infoTm
theorem AR (k u n:Int) (s:ByteArray) (ao:Option Addr) (l c:Nat):∀ v∈tmC k u n s (.slice ao l c),v.oneCell'=true:=fun v hv=> by
 simp only[tmC,List.mem_cons,List.not_mem_nil,or_false] at hv
 rcases hv with rfl|rfl|rfl|rfl|rfl <;> rfl
mutual
def TmC (F:Nat→Prop) (w:World) (cs:List Value):Tm→Prop
 | .mk k u n s ks=> ∃ ao c,cs=tmC k u n s (.slice ao ks.length c)∧ks.length≤c∧c≤maxLen∧(0<ks.length→∃ b o,ao=some ⟨b,o,none⟩∧F b∧b<w.heap.size∧AtC F w b o ks)
def AtC (F:Nat→Prop) (w:World) (b o:Nat):List Tm→Prop
 | []=> True
 | t::ts=> (∃ cs,cs.length=5∧w.rangeAt b o cs∧TmC F w cs t)∧AtC F w b (o+5) ts
end
def SlT (F:Nat→Prop) (w:World) (v:Value) (ts:List Tm):Prop:=
 ∃ ao c,v=.slice ao ts.length c∧ts.length≤c∧c≤maxLen∧(0<ts.length→∃ b o,ao=some ⟨b,o,none⟩∧F b∧b<w.heap.size∧AtC F w b o ts)
theorem B0 {F:Nat→Prop} {w:World} {cs:List Value} {k u n:Int} {s:ByteArray} {ks:List Tm}:TmC F w cs (.mk k u n s ks)↔∃ v,cs=tmC k u n s v∧SlT F w v ks:=by
 unfold TmC SlT
 constructor
 ·rintro⟨ao,c,h1,h2⟩;exact⟨_,h1,ao,c,rfl,h2⟩
 ·rintro⟨_,h1,ao,c,rfl,h2⟩;exact⟨ao,c,h1,h2⟩
theorem TmC.len {F:Nat→Prop} {w:World} {cs:List Value} {t:Tm} (h:TmC F w cs t):cs.length=5:=by
 obtain⟨k,u,n,s,ks⟩:=t
 obtain⟨v,rfl,-⟩:=B0.1 h
 rfl
theorem AtC.get {F:Nat→Prop} {w:World} {b:Nat}:∀ {ts:List Tm} {o:Nat},AtC F w b o ts→∀ j (hj:j<ts.length),∃ cs,w.rangeAt b (o+j* 5) cs∧TmC F w cs ts[j]
 | t::ts,o,h,0,_=> by
  unfold AtC at h
  obtain⟨⟨cs,-,h1,h2⟩,-⟩:=h
  exact⟨cs,by simpa using h1,h2⟩
 | t::ts,o,h,j+1,hj=> by
  unfold AtC at h
  obtain⟨cs,h1,h2⟩:=AtC.get h.2 j (by simpa using hj)
  exact⟨cs,by rw[show o+(j+1)* 5=o+5+j* 5 by omega];exact h1,h2⟩
theorem AtC.mk' {F:Nat→Prop} {w:World} {b:Nat}:∀ {ts:List Tm} {o:Nat},(∀ j (hj:j<ts.length),∃ cs,w.rangeAt b (o+j* 5) cs∧TmC F w cs ts[j])→AtC F w b o ts
 | [],o,_=> by unfold AtC;trivial
 | t::ts,o,h=> by
  unfold AtC
  refine⟨?_,AtC.mk' fun j hj=> ?_⟩
  ·obtain⟨cs,h1,h2⟩:=h 0 (by simp)
   exact⟨cs,h2.len,by simpa using h1,h2⟩
  ·obtain⟨cs,h1,h2⟩:=h (j+1) (by simpa using hj)
   exact⟨cs,by rw[show o+5+j* 5=o+(j+1)* 5 by omega];exact h1,h2⟩
theorem SlT.get {F:Nat→Prop} {w:World} {ao:Option Addr} {n c:Nat} {ts:List Tm} (h:SlT F w (.slice ao n c) ts) {j:Nat} (hj:j<ts.length):∃ b o cs,ao=some ⟨b,o,none⟩∧F b∧b<w.heap.size∧w.rangeAt b (o+j* 5) cs∧TmC F w cs ts[j]:=by
 obtain⟨ao',c',h1,h2,h3,h4⟩:=h
 obtain⟨rfl,-,-⟩:ao=ao'∧n=ts.length∧c=c':=by simpa using h1
 obtain⟨b,o,rfl,hF,hb,ha⟩:=h4 (by omega)
 obtain⟨cs,h5,h6⟩:=ha.get j hj
 exact⟨b,o,cs,rfl,hF,hb,h5,h6⟩
theorem AtC.keep' {F G:Nat→Prop} {S:Nat→Prop} {w w':World} (hc:Ch S w w') (hS:∀ k,F k→¬ S k) (hG:∀ k,F k→G k) {b:Nat} (hb:F b):∀ {ts:List Tm} {o:Nat},(∀ t∈ts,∀ cs,TmC F w cs t→TmC G w' cs t)→AtC F w b o ts→AtC G w' b o ts
 | [],_,_,_=> by unfold AtC;trivial
 | t::ts,o,ih,h=> by
  unfold AtC at h ⊢
  obtain⟨⟨cs,h1,h2,h3⟩,h4⟩:=h
  exact⟨⟨cs,h1,BF h2 hc (hS b hb),ih t List.mem_cons_self cs h3⟩,AtC.keep' hc hS hG hb (fun t ht=> ih t (List.mem_cons_of_mem _ ht)) h4⟩
theorem TmC.keep' {F G:Nat→Prop} {S:Nat→Prop} {w w':World} (hc:Ch S w w') (hS:∀ k,F k→¬ S k) (hG:∀ k,F k→G k):∀ (t:Tm) (cs:List Value),TmC F w cs t→TmC G w' cs t:=by
 refine Tm.ind fun k u n s ks ih cs h=> ?_
 unfold TmC at h ⊢
 obtain⟨ao,c,h1,h2,h3,h4⟩:=h
 refine⟨ao,c,h1,h2,h3,fun h0=> ?_⟩
 obtain⟨b,o,e,hF,hb,ha⟩:=h4 h0
 exact⟨b,o,e,hG b hF,Ak hb hc.size,AtC.keep' hc hS hG hF ih ha⟩
theorem TmC.keep {F:Nat→Prop} {S:Nat→Prop} {w w':World} {t:Tm} {cs:List Value} (h:TmC F w cs t) (hc:Ch S w w') (hS:∀ k,F k→¬ S k):TmC F w' cs t:=TmC.keep' hc hS (fun _ h=> h) t cs h
theorem TmC.mono {F G:Nat→Prop} {w:World} {t:Tm} {cs:List Value} (h:TmC F w cs t) (hG:∀ k,F k→G k):TmC G w cs t:=TmC.keep' (Ch.refl (fun _=> False) w) (fun _ _ h=> h) hG t cs h
theorem TmC.below {F:Nat→Prop} {w w':World} {t:Tm} {cs:List Value} (h:TmC F w cs t) (hb:Below w.heap.size w w'):TmC F w' cs t:=h.keep (Ch.of_below (S:=fun _=> False) hb (Ah _)) (fun _ _ h=> h)
theorem SlT.keep' {F G:Nat→Prop} {S:Nat→Prop} {w w':World} {ts:List Tm} {v:Value} (h:SlT F w v ts) (hc:Ch S w w') (hS:∀ k,F k→¬ S k) (hG:∀ k,F k→G k):SlT G w' v ts:=by
 have h1:TmC F w (tmC 0 0 0 ⟨#[]⟩ v) (.mk 0 0 0 ⟨#[]⟩ ts):=B0.2 ⟨v,rfl,h⟩
 obtain⟨v',e,h2⟩:=B0.1 (TmC.keep' hc hS hG _ _ h1)
 simp only[tmC,List.cons.injEq,and_true,true_and] at e
 subst e;exact h2
theorem SlT.keep {F:Nat→Prop} {S:Nat→Prop} {w w':World} {ts:List Tm} {v:Value} (h:SlT F w v ts) (hc:Ch S w w') (hS:∀ k,F k→¬ S k):SlT F w' v ts:=h.keep' hc hS (fun _ h=> h)
theorem SlT.mono {F G:Nat→Prop} {w:World} {ts:List Tm} {v:Value} (h:SlT F w v ts) (hG:∀ k,F k→G k):SlT G w v ts:=h.keep' (Ch.refl (fun _=> False) w) (fun _ _ h=> h) hG
theorem SlT.below {F:Nat→Prop} {w w':World} {ts:List Tm} {v:Value} (h:SlT F w v ts) (hb:Below w.heap.size w w'):SlT F w' v ts:=h.keep (Ch.of_below (S:=fun _=> False) hb (Ah _)) (fun _ _ h=> h)
theorem SlT.nil (F:Nat→Prop) (w:World):SlT F w (.slice none 0 0) []:=⟨none,0,rfl,Ah _,by unfold maxLen;omega,fun h=> absurd h (by simp)⟩
theorem TmC.shape {F:Nat→Prop} {w:World} {cs:List Value} {t:Tm} (h:TmC F w cs t):∃ ao c,cs=tmC t.k t.u t.n t.s (.slice ao t.ks.length c)∧t.ks.length≤c∧c≤maxLen∧SlT F w (.slice ao t.ks.length c) t.ks:=by
 obtain⟨k,u,n,s,ks⟩:=t
 obtain⟨v,e,h⟩:=B0.1 h
 obtain⟨ao,c,e2,h2,h3,h4⟩:=id h
 subst e2
 exact⟨ao,c,e,h2,h3,h⟩
def Bo (k:Int):Int:=if k=1 then 1 else if k=2 then 6 else if k=3 then 2 else if k=4 then 16 else if k=5 then 8 else if k=6 then 16 else if k=7 then 10 else if k=8 then 14 else 0
theorem GN (k:Int):Bo k=0∨Bo k=1∨Bo k=2∨Bo k=6∨Bo k=8∨Bo k=10∨Bo k=14∨Bo k=16:=by unfold Bo;omega
theorem IQ (k:Int) (w:World):Calls Tryz.prog 133 #[.int .i64 k] w (fun e w'=> e=.returned (.int .i64 (Bo k))∧w=w'):=by
 rcases (show k=1∨k=2∨k=3∨k=4∨k=5∨k=6∨k=7∨k=8∨(k≠1∧k≠2∧k≠3∧k≠4∧k≠5∧k≠6∧k≠7∧k≠8) by omega) with rfl|rfl|rfl|rfl|rfl|rfl|rfl|rfl|⟨h1,h2,h3,h4,h5,h6,h7,h8⟩
 iterate 8(focus (go_enter Tryz.func133,Tryz.ntmps133;go_wp2_with fail;go_ret;exact⟨rfl,rfl⟩))
 ·have e1:(k==1)=false:=by simpa using h1
  have e2:(k==2)=false:=by simpa using h2
  have e3:(k==3)=false:=by simpa using h3
  have e4:(k==4)=false:=by simpa using h4
  have e5:(k==5)=false:=by simpa using h5
  have e6:(k==6)=false:=by simpa using h6
  have e7:(k==7)=false:=by simpa using h7
  have e8:(k==8)=false:=by simpa using h8
  have HF:=Ag (show Bo k=0 from by unfold Bo;simp[h1,h2,h3,h4,h5,h6,h7,h8])
  clear h1 h2 h3 h4 h5 h6 h7 h8
  go_enter Tryz.func133,Tryz.ntmps133
  go_wp2_with fail
  go_ret
  exact⟨by rw[HF.out];rfl,rfl⟩
def FD (k g:Int):Bool:=if g=1 then k==1 else if g=2 then (k==2 ||k==3 ||k==7 ||k==8) else if g=4 then (k==2 ||k==8) else if g=8 then (k==5 ||k==7 ||k==8) else (k==4 ||k==6)
theorem F5 (k:Int):k=1∨k=2∨k=3∨k=4∨k=5∨k=6∨k=7∨k=8∨(k≠1∧k≠2∧k≠3∧k≠4∧k≠5∧k≠6∧k≠7∧k≠8):=by omega
theorem He {k:Int} (h:k≠1∧k≠2∧k≠3∧k≠4∧k≠5∧k≠6∧k≠7∧k≠8):Bo k=0:=by
 obtain⟨h1,h2,h3,h4,h5,h6,h7,h8⟩:=h
 unfold Bo;simp[h1,h2,h3,h4,h5,h6,h7,h8]
theorem EZ {k:Int} (h:k≠1∧k≠2∧k≠3∧k≠4∧k≠5∧k≠6∧k≠7∧k≠8) (g:Int):FD k g=false:=by
 obtain⟨h1,h2,h3,h4,h5,h6,h7,h8⟩:=h
 unfold FD;simp[h1,h2,h3,h4,h5,h6,h7,h8]
theorem Ez (k g:Int) (hg:g=1∨g=2∨g=4∨g=8∨g=16) (w:World):Calls Tryz.prog 135 #[.int .i64 (Bo k),.int .i64 g] w (fun e w'=> e=.returned (.bool (FD k g))∧w=w'):=by
 have go:∀ f:Int,∀ r:Bool,(f=0∨f=1∨f=2∨f=6∨f=8∨f=10∨f=14∨f=16)→(∀ w',Calls Tryz.prog 135 #[.int .i64 f,.int .i64 g] w' (fun e w''=> e=.returned (.bool (decide (f.toNat &&& g.toNat≠0)))∧w'=w'')):=by
  intro f r hf w'
  rcases hg with rfl|rfl|rfl|rfl|rfl <;> rcases hf with rfl|rfl|rfl|rfl|rfl|rfl|rfl|rfl <;>
   (go_enter Tryz.func135,Tryz.ntmps135
    go_wp2_with fail
    go_ret
    exact⟨rfl,rfl⟩)
 have h:=go (Bo k) true (GN k) w
 have e:decide ((Bo k).toNat &&& g.toNat≠0)=FD k g:=by
  rcases F5 k with rfl|rfl|rfl|rfl|rfl|rfl|rfl|rfl|hk
  iterate 8(· rcases hg with rfl|rfl|rfl|rfl|rfl <;> rfl)
  ·rw[He hk,EZ hk];simp
 rw[e] at h
 exact h
def EA (k:Int):Nat:=if k=4∨k=6 then 2 else if k=5∨k=7∨k=8 then 1 else 0
theorem Ku (k:Int) (w:World):Calls Tryz.prog 134 #[.int .i64 (Bo k)] w (fun e w'=> e=.returned (.int .i64 (EA k))∧w=w'):=by
 have h16:=Ag (Ez k 16 (by omega) w)
 have h8:=Ag (Ez k 8 (by omega) w)
 obtain⟨b16,e16⟩:∃ b,FD k 16=b:=⟨_,rfl⟩
 obtain⟨b8,e8⟩:∃ b,FD k 8=b:=⟨_,rfl⟩
 have HE:=Ag (show EA k=if b16=true then 2 else if b8=true then 1 else 0 from by
  rw[←e16,←e8]
  rcases F5 k with rfl|rfl|rfl|rfl|rfl|rfl|rfl|rfl|hk
  iterate 8(· rfl)
  ·rw[EZ hk,EZ hk]
   obtain⟨h1,h2,h3,h4,h5,h6,h7,h8⟩:=hk
   unfold EA;simp[h4,h5,h6,h7,h8])
 rw[e16] at h16
 rw[e8] at h8
 clear e16 e8
 generalize Bo k=f at h16 h8 ⊢
 go_enter Tryz.func134,Tryz.ntmps134
 go_wp2_with fail
 refine h16.out.mono ?_
 rintro e' w' ⟨rfl,rfl⟩
 cases b16
 ·go_wp2_with fail
  refine h8.out.mono ?_
  rintro e' w' ⟨rfl,rfl⟩
  cases b8
  ·go_wp2_with fail
   go_ret
   exact⟨by rw[HE.out];rfl,rfl⟩
  ·go_wp2_with fail
   go_ret
   exact⟨by rw[HE.out];rfl,rfl⟩
 ·go_wp2_with fail
  go_ret
  exact⟨by rw[HE.out];rfl,rfl⟩
def DH (n:Int):Bool:=decide (1≤n) && decide (n≤6)
theorem JP (n:Int) (w:World):Calls Tryz.prog 136 #[.int .i64 n] w (fun e w'=> e=.returned (.bool (DH n))∧w=w'):=by
 by_cases h1:1≤n
 ·by_cases h2:n≤6
  ·have HU:=Ag (show DH n=true by simp[DH,h1,h2])
   rw[HU.out]
   go_enter Tryz.func136,Tryz.ntmps136
   go_wp2
   go_ret
   exact⟨rfl,rfl⟩
  ·have HU:=Ag (show DH n=false by simp[DH,h2])
   rw[HU.out]
   go_enter Tryz.func136,Tryz.ntmps136
   go_wp2
   go_ret
   exact⟨rfl,rfl⟩
 ·have HU:=Ag (show DH n=false by simp[DH,h1])
  rw[HU.out]
  go_enter Tryz.func136,Tryz.ntmps136
  go_wp2
  go_ret
  exact⟨rfl,rfl⟩
def Kv (b0 c1 c2 bT c3 bU kn u0 bN ge le n0:Bool):Bool:=b0 && (c1 && (c2 && ((bT ||c3) && ((if bU=true then kn else u0) && (if bN=true then (ge && le) else n0)))))
def Cq (k u n:Int) (s:ByteArray) (l:Nat):Bool:=
 Kv (Bo k !=0) ((l:Int)==(EA k:Int)) (decide ((s.size:Int)≤64)) (FD k 1) (s.toList.isEmpty) (FD k 2) (DH u) (u==0) (FD k 4) (decide (0≤n)) (decide (n≤65535)) (n==0)
theorem JQ (k u n:Int) (s:ByteArray) (ao:Option Addr) (l c:Nat) (w:World):
  Calls Tryz.prog 129 #[.agg (tmC k u n s (.slice ao l c)).toArray] w (fun e w'=> e=.returned (.bool (Cq k u n s l))∧Below w.heap.size w w'):=by
 obtain⟨R,hR⟩:∃ R,Cq k u n s l=R:=⟨_,rfl⟩
 rw[hR]
 have HFD:=Ag (IQ k)
 have HK:=Ag (Ku k)
 have HT:=Ag (Ez k 1 (by omega))
 have HU:=Ag (Ez k 2 (by omega))
 have HN:=Ag (Ez k 4 (by omega))
 unfold Cq at hR
 have HKN:=Ag (JP u)
 obtain⟨b0,hb0⟩:∃ x,(Bo k !=0)=x:=⟨_,rfl⟩
 obtain⟨c1,hc1⟩:∃ x,((l:Int)==(EA k:Int))=x:=⟨_,rfl⟩
 obtain⟨c2,hc2⟩:∃ x,(decide ((s.size:Int)≤64))=x:=⟨_,rfl⟩
 obtain⟨bT,hbT⟩:∃ x,(FD k 1)=x:=⟨_,rfl⟩
 obtain⟨c3,hc3⟩:∃ x,(s.toList.isEmpty)=x:=⟨_,rfl⟩
 obtain⟨bU,hbU⟩:∃ x,(FD k 2)=x:=⟨_,rfl⟩
 obtain⟨kn,hkn⟩:∃ x,(DH u)=x:=⟨_,rfl⟩
 obtain⟨u0,hu0⟩:∃ x,(u==0)=x:=⟨_,rfl⟩
 obtain⟨bN,hbN⟩:∃ x,(FD k 4)=x:=⟨_,rfl⟩
 obtain⟨ge,hge⟩:∃ x,(decide (0≤n))=x:=⟨_,rfl⟩
 obtain⟨le,hle⟩:∃ x,(decide (n≤65535))=x:=⟨_,rfl⟩
 obtain⟨n0,hn0⟩:∃ x,(n==0)=x:=⟨_,rfl⟩
 rw[hb0,hc1,hc2,hbT,hc3,hbU,hkn,hu0,hbN,hge,hle,hn0] at hR
 have HR:=Ag hR
 clear hR
 rw[hbT] at HT
 rw[hbU] at HU
 rw[hbN] at HN
 rw[hkn] at HKN
 clear hbT hbU hbN hkn
 generalize Bo k=f at HFD HK HT HU HN hb0
 generalize EA k=kd at HK hc1
 have Eb0:=Ag hb0
 clear hb0
 have Ec1:=Ag hc1
 clear hc1
 have Ec2:=Ag hc2
 clear hc2
 have Ec3:=Ag hc3
 clear hc3
 have Eu0:=Ag hu0
 clear hu0
 have Ege:=Ag hge
 clear hge
 have Ele:=Ag hle
 clear hle
 have En0:=Ag hn0
 clear hn0
 have H0:=Ag (Below.refl w.heap.size w)
 go_enter Tryz.func129,Tryz.ntmps129
 go_wp2_with (first
  | ((with_reducible refine Au w rfl 29 (.tmp 0) rfl (tmC k u n s (.slice ao l c)) rfl ?_);intro a1 hb hbel hsz;have HA1:=hJ2 (An H0.out hbel (Ah _)) hb;have c0:=HA1.out.2.cell 0;have c1':=HA1.out.2.cell 1;have c2':=HA1.out.2.cell 2;have c3':=HA1.out.2.cell 3;have c4:=HA1.out.2.cell 4;simp only[tmC,Ab,Ac] at c0 c1' c2' c3' c4;clear hb hbel hsz))
 refine(HFD.out a1).mono ?_
 rintro e' w' ⟨rfl,rfl⟩
 have C1:=Ag (fun x=> show Calls Tryz.prog 134 #[.int .i64 f] (Bf a1 x) (fun e w'=> e=.returned (.int .i64 kd)∧w'=Bf a1 x) from(HK.out (Bf a1 x)).mono fun _ _ ⟨he,hm⟩=> ⟨he,hm.symm⟩)
 have C2:=Ag (fun x=> show Calls Tryz.prog 135 #[.int .i64 f,.int .i64 1] (Bf a1 x) (fun e w'=> e=.returned (.bool bT)∧w'=Bf a1 x) from(HT.out (Bf a1 x)).mono fun _ _ ⟨he,hm⟩=> ⟨he,hm.symm⟩)
 have eb0:=Eb0.out
 cases b0
 ·skip
  go_wp2_with fail
  replace c3':=fun q=> AS c3' q
  replace c4:=fun q=> AS c4 q
  refine A3 (by kernel_rfl) (by kernel_rfl) ?_
  repeat (first|go_big_quiet_skip|(go_big_quiet_want;go_big_quiet_op;(first|go_big_quiet_on|(apply Exists.intro;refine⟨fun _=> ?_,?_⟩;(focus (first|(go_at_call 134;with_reducible exact A7 (C1.out _))|(go_at_call 135;with_reducible exact A7 (C2.out _))));go_big_quiet_on))))
  refine wpQuiet_nil ?_
  intro w2 hw2
  obtain⟨x2,rfl⟩:=hw2
  have HB:=Ag (An HA1.out.1 (AN a1 x2) (Ah _))
  replace c1':=AS c1' x2
  replace c2':=AS c2' x2
  clear c0 c3' c4 C1 C2
  generalize Bf a1 x2=w2 at HB c1' c2' ⊢
  go_wp2_with fail
  go_ret
  exact⟨by rw[←HR.out];rfl,HB.out⟩
 ·skip
  have ec1:=Ec1.out
  cases c1
  ·skip
   go_wp2_with fail
   replace c3':=fun q=> AS c3' q
   replace c4:=fun q=> AS c4 q
   refine A3 (by kernel_rfl) (by kernel_rfl) ?_
   repeat (first|go_big_quiet_skip|(go_big_quiet_want;go_big_quiet_op;(first|go_big_quiet_on|(apply Exists.intro;refine⟨fun _=> ?_,?_⟩;(focus (first|(go_at_call 134;with_reducible exact A7 (C1.out _))|(go_at_call 135;with_reducible exact A7 (C2.out _))));go_big_quiet_on))))
   refine wpQuiet_nil ?_
   intro w2 hw2
   obtain⟨x2,rfl⟩:=hw2
   have HB:=Ag (An HA1.out.1 (AN a1 x2) (Ah _))
   replace c1':=AS c1' x2
   replace c2':=AS c2' x2
   clear c0 c3' c4 C1 C2
   generalize Bf a1 x2=w2 at HB c1' c2' ⊢
   go_wp2_with fail
   go_ret
   exact⟨by rw[←HR.out];rfl,HB.out⟩
  ·skip
   have ec2:=Ec2.out
   cases c2
   ·skip
    go_wp2_with fail
    replace c3':=fun q=> AS c3' q
    replace c4:=fun q=> AS c4 q
    refine A3 (by kernel_rfl) (by kernel_rfl) ?_
    repeat (first|go_big_quiet_skip|(go_big_quiet_want;go_big_quiet_op;(first|go_big_quiet_on|(apply Exists.intro;refine⟨fun _=> ?_,?_⟩;(focus (first|(go_at_call 134;with_reducible exact A7 (C1.out _))|(go_at_call 135;with_reducible exact A7 (C2.out _))));go_big_quiet_on))))
    refine wpQuiet_nil ?_
    intro w2 hw2
    obtain⟨x2,rfl⟩:=hw2
    have HB:=Ag (An HA1.out.1 (AN a1 x2) (Ah _))
    replace c1':=AS c1' x2
    replace c2':=AS c2' x2
    clear c0 c3' c4 C1 C2
    generalize Bf a1 x2=w2 at HB c1' c2' ⊢
    go_wp2_with fail
    go_ret
    exact⟨by rw[←HR.out];rfl,HB.out⟩
   ·skip
    cases bT
    ·skip
     have ec3:=Ec3.out
     cases c3
     ·skip
      go_wp2_with fail
      replace c3':=fun q=> AS c3' q
      replace c4:=fun q=> AS c4 q
      refine A3 (by kernel_rfl) (by kernel_rfl) ?_
      repeat (first|go_big_quiet_skip|(go_big_quiet_want;go_big_quiet_op;(first|go_big_quiet_on|(apply Exists.intro;refine⟨fun _=> ?_,?_⟩;(focus (first|(go_at_call 134;with_reducible exact A7 (C1.out _))|(go_at_call 135;with_reducible exact A7 (C2.out _))));go_big_quiet_on))))
      refine wpQuiet_nil ?_
      intro w2 hw2
      obtain⟨x2,rfl⟩:=hw2
      have HB:=Ag (An HA1.out.1 (AN a1 x2) (Ah _))
      replace c1':=AS c1' x2
      replace c2':=AS c2' x2
      clear c0 c3' c4 C1 C2
      generalize Bf a1 x2=w2 at HB c1' c2' ⊢
      go_wp2_with fail
      go_ret
      exact⟨by rw[←HR.out];rfl,HB.out⟩
     ·skip
      go_wp2_with fail
      replace c3':=fun q=> AS c3' q
      replace c4:=fun q=> AS c4 q
      refine A3 (by kernel_rfl) (by kernel_rfl) ?_
      repeat (first|go_big_quiet_skip|(go_big_quiet_want;go_big_quiet_op;(first|go_big_quiet_on|(apply Exists.intro;refine⟨fun _=> ?_,?_⟩;(focus (first|(go_at_call 134;with_reducible exact A7 (C1.out _))|(go_at_call 135;with_reducible exact A7 (C2.out _))));go_big_quiet_on))))
      refine wpQuiet_nil ?_
      intro w2 hw2
      obtain⟨x2,rfl⟩:=hw2
      have HB:=Ag (An HA1.out.1 (AN a1 x2) (Ah _))
      replace c1':=AS c1' x2
      replace c2':=AS c2' x2
      clear c0 c3' c4 C1 C2
      generalize Bf a1 x2=w2 at HB c1' c2' ⊢
      go_wp2_with fail
      refine(HU.out w2).mono ?_
      rintro e' w' ⟨rfl,rfl⟩
      cases bU
      ·skip
       go_wp2_with fail
       refine(HU.out w2).mono ?_
       rintro e' w' ⟨rfl,rfl⟩
       have eu0:=Eu0.out
       cases u0
       ·skip
        go_wp2_with fail
        go_ret
        exact⟨by rw[←HR.out];rfl,HB.out⟩
       ·skip
        go_wp2_with fail
        refine(HN.out w2).mono ?_
        rintro e' w' ⟨rfl,rfl⟩
        cases bN
        ·skip
         go_wp2_with fail
         refine(HN.out w2).mono ?_
         rintro e' w' ⟨rfl,rfl⟩
         have en0:=En0.out
         cases n0
         ·skip
          go_wp2_with fail
          go_ret
          exact⟨by rw[←HR.out];rfl,HB.out⟩
         ·skip
          go_wp2_with fail
          go_ret
          exact⟨by rw[←HR.out];rfl,HB.out⟩
        ·skip
         have ege:=Ege.out
         cases ge
         ·skip
          go_wp2_with fail
          refine(HN.out w2).mono ?_
          rintro e' w' ⟨rfl,rfl⟩
          go_wp2_with fail
          go_ret
          exact⟨by rw[←HR.out];rfl,HB.out⟩
         ·skip
          have ele:=Ele.out
          cases le
          ·skip
           go_wp2_with fail
           refine(HN.out w2).mono ?_
           rintro e' w' ⟨rfl,rfl⟩
           go_wp2_with fail
           go_ret
           exact⟨by rw[←HR.out];rfl,HB.out⟩
          ·skip
           go_wp2_with fail
           go_ret
           exact⟨by rw[←HR.out];rfl,HB.out⟩
      ·skip
       go_wp2_with fail
       refine(HKN.out w2).mono ?_
       rintro e' w' ⟨rfl,rfl⟩
       cases kn
       ·skip
        go_wp2_with fail
        refine(HU.out w2).mono ?_
        rintro e' w' ⟨rfl,rfl⟩
        go_wp2_with fail
        go_ret
        exact⟨by rw[←HR.out];rfl,HB.out⟩
       ·skip
        go_wp2_with fail
        refine(HN.out w2).mono ?_
        rintro e' w' ⟨rfl,rfl⟩
        cases bN
        ·skip
         go_wp2_with fail
         refine(HN.out w2).mono ?_
         rintro e' w' ⟨rfl,rfl⟩
         have en0:=En0.out
         cases n0
         ·skip
          go_wp2_with fail
          go_ret
          exact⟨by rw[←HR.out];rfl,HB.out⟩
         ·skip
          go_wp2_with fail
          go_ret
          exact⟨by rw[←HR.out];rfl,HB.out⟩
        ·skip
         have ege:=Ege.out
         cases ge
         ·skip
          go_wp2_with fail
          refine(HN.out w2).mono ?_
          rintro e' w' ⟨rfl,rfl⟩
          go_wp2_with fail
          go_ret
          exact⟨by rw[←HR.out];rfl,HB.out⟩
         ·skip
          have ele:=Ele.out
          cases le
          ·skip
           go_wp2_with fail
           refine(HN.out w2).mono ?_
           rintro e' w' ⟨rfl,rfl⟩
           go_wp2_with fail
           go_ret
           exact⟨by rw[←HR.out];rfl,HB.out⟩
          ·skip
           go_wp2_with fail
           go_ret
           exact⟨by rw[←HR.out];rfl,HB.out⟩
    ·skip
     go_wp2_with fail
     replace c3':=fun q=> AS c3' q
     replace c4:=fun q=> AS c4 q
     refine A3 (by kernel_rfl) (by kernel_rfl) ?_
     repeat (first|go_big_quiet_skip|(go_big_quiet_want;go_big_quiet_op;(first|go_big_quiet_on|(apply Exists.intro;refine⟨fun _=> ?_,?_⟩;(focus (first|(go_at_call 134;with_reducible exact A7 (C1.out _))|(go_at_call 135;with_reducible exact A7 (C2.out _))));go_big_quiet_on))))
     refine wpQuiet_nil ?_
     intro w2 hw2
     obtain⟨x2,rfl⟩:=hw2
     have HB:=Ag (An HA1.out.1 (AN a1 x2) (Ah _))
     replace c1':=AS c1' x2
     replace c2':=AS c2' x2
     clear c0 c3' c4 C1 C2
     generalize Bf a1 x2=w2 at HB c1' c2' ⊢
     go_wp2_with fail
     refine(HU.out w2).mono ?_
     rintro e' w' ⟨rfl,rfl⟩
     cases bU
     ·skip
      go_wp2_with fail
      refine(HU.out w2).mono ?_
      rintro e' w' ⟨rfl,rfl⟩
      have eu0:=Eu0.out
      cases u0
      ·skip
       go_wp2_with fail
       go_ret
       exact⟨by rw[←HR.out];rfl,HB.out⟩
      ·skip
       go_wp2_with fail
       refine(HN.out w2).mono ?_
       rintro e' w' ⟨rfl,rfl⟩
       cases bN
       ·skip
        go_wp2_with fail
        refine(HN.out w2).mono ?_
        rintro e' w' ⟨rfl,rfl⟩
        have en0:=En0.out
        cases n0
        ·skip
         go_wp2_with fail
         go_ret
         exact⟨by rw[←HR.out];rfl,HB.out⟩
        ·skip
         go_wp2_with fail
         go_ret
         exact⟨by rw[←HR.out];rfl,HB.out⟩
       ·skip
        have ege:=Ege.out
        cases ge
        ·skip
         go_wp2_with fail
         refine(HN.out w2).mono ?_
         rintro e' w' ⟨rfl,rfl⟩
         go_wp2_with fail
         go_ret
         exact⟨by rw[←HR.out];rfl,HB.out⟩
        ·skip
         have ele:=Ele.out
         cases le
         ·skip
          go_wp2_with fail
          refine(HN.out w2).mono ?_
          rintro e' w' ⟨rfl,rfl⟩
          go_wp2_with fail
          go_ret
          exact⟨by rw[←HR.out];rfl,HB.out⟩
         ·skip
          go_wp2_with fail
          go_ret
          exact⟨by rw[←HR.out];rfl,HB.out⟩
     ·skip
      go_wp2_with fail
      refine(HKN.out w2).mono ?_
      rintro e' w' ⟨rfl,rfl⟩
      cases kn
      ·skip
       go_wp2_with fail
       refine(HU.out w2).mono ?_
       rintro e' w' ⟨rfl,rfl⟩
       go_wp2_with fail
       go_ret
       exact⟨by rw[←HR.out];rfl,HB.out⟩
      ·skip
       go_wp2_with fail
       refine(HN.out w2).mono ?_
       rintro e' w' ⟨rfl,rfl⟩
       cases bN
       ·skip
        go_wp2_with fail
        refine(HN.out w2).mono ?_
        rintro e' w' ⟨rfl,rfl⟩
        have en0:=En0.out
        cases n0
        ·skip
         go_wp2_with fail
         go_ret
         exact⟨by rw[←HR.out];rfl,HB.out⟩
        ·skip
         go_wp2_with fail
         go_ret
         exact⟨by rw[←HR.out];rfl,HB.out⟩
       ·skip
        have ege:=Ege.out
        cases ge
        ·skip
         go_wp2_with fail
         refine(HN.out w2).mono ?_
         rintro e' w' ⟨rfl,rfl⟩
         go_wp2_with fail
         go_ret
         exact⟨by rw[←HR.out];rfl,HB.out⟩
        ·skip
         have ele:=Ele.out
         cases le
         ·skip
          go_wp2_with fail
          refine(HN.out w2).mono ?_
          rintro e' w' ⟨rfl,rfl⟩
          go_wp2_with fail
          go_ret
          exact⟨by rw[←HR.out];rfl,HB.out⟩
         ·skip
          go_wp2_with fail
          go_ret
          exact⟨by rw[←HR.out];rfl,HB.out⟩
theorem AI {P:Program} (w:World) {ops:Array Oper} {rest:List Oper} {o:Oper} {a:Act} {Q:Exit→Act→World→Prop} (hgd:o.guard=none) (ty:TypeId) (x y:Operand) (ho:o.op=.store ty x y)
  (g i:Nat) (e:TypeId) (xs:List Value) (hb:Blk w g e xs) (hx:a.eval x=.pointer (some ⟨g,i,none⟩)) (v:Value) (hy:a.eval y=v) (hl:i<xs.length) (hi:(P.info? ty).map (·.size)=some 1) (h1:v.oneCell'=true) (hc:v.cells=#[v])
  (h:∀ w',Blk w' g e (xs.set i v)→Ch (·=g) w w'→w'.heap.size=w.heap.size→wpList P ops Q rest (a.put o.dst undef) w'):wpList P ops Q (o::rest) a w:=by
 refine wpList_plain hgd fun K' hK'=> ?_
 have hrun:(execOp a.eval o).run P w=.ok .skip (w.setCell ⟨g,i,none⟩ v):=by
  have hce:=hb.cell i
  rw[List.getElem?_eq_getElem hl] at hce
  have hst:=run_store P w ⟨g,i,none⟩ v .plain h1
  rw[hce] at hst
  simp only[hb.free] at hst
  unfold execOp
  have hsv:(storeVar ty ⟨g,i,none⟩ v).run P w=.ok () (w.setCell ⟨g,i,none⟩ v):=by
   cases hq:P.info? ty with
   | none=> simp[hq] at hi
   | some ii=>
    have hs:1=ii.size:=by simp[hq] at hi;omega
    have e1:=run_storeCells_cells (P:=P) g i [v] 0 w (fun j hj=> by
     obtain rfl:j=0:=by simpa using hj
     simp[hce]) (fun j hj=> hb.free _) (fun u hu=> by
      obtain rfl:u=v:=by simpa using hu
      exact h1)
    simp only[Nat.add_zero] at e1
    simp[storeVar,sizeOf,typeInfo,hq,hc,hs.symm,e1,World.setCells]
  simp only[ho,hx,hy,Instr.storeAt,Instr.sureAddr,Sem.run_bind,Sem.run_pure,Result.andThen_ok,hsv]
 unfold Oper.wp
 rw[hrun]
 exact hK' _ _ (h _ (hb.set i v) (Ch.set w ⟨g,i,none⟩ v) (by simp))
theorem EB {P:Program} {ops:Array Oper} {rest:List Oper} {op:Oper} {a:Act} {w:World} {Q:Exit→Act→World→Prop} (hgd:Region.wanted op (yielded ops a.tmps)=true) (ty:TypeId) (x:Operand) (ho:op.op=.load ty x)
  (b o:Nat) (hx:a.eval x=.pointer (some ⟨b,o,none⟩)) (cs:List Value) (d:TypeDesc) (hc:w.rangeAt b o cs)
  (hu:P.underlying ty=some d) (hd:d.isRow=true) (hi:(P.info? ty).map (·.size)=some cs.length)
  (h:wpList P ops Q rest (a.put op.dst (.agg cs.toArray)) w):wpList P ops Q (op::rest) a w:=
 wpList_step fun _ hK=> by rw[if_pos hgd];exact wp_load_mid ty x ho b o hx cs d hc hu hd hi (hK _ _ h)
theorem Tryz.sizeInt1T:(Tryz.prog.info? 3).map (·.size)=some 1:=by kernel_rfl
mutual
def BM:Tm→Int→Int→Bool × Int
 | .mk k u n s ks,d,l=> if l - 1<0∨60<d∨Cq k u n s ks.length=false then (false,l - 1) else CS ks (d+1) (l - 1)
def CS:List Tm→Int→Int→Bool × Int
 | [],_,l=> (true,l)
 | t::ts,d,l=> if (BM t d l).1=true then CS ts d (BM t d l).2 else (false,(BM t d l).2)
end
theorem DI (t:Tm) (ts:List Tm) (d l:Int):CS (t::ts) d l=if (BM t d l).1=true then CS ts d (BM t d l).2 else (false,(BM t d l).2):=by rw[CS]
theorem Hw:∀ (ts:List Tm),(∀ t∈ts,∀ d l,(BM t d l).1=true→0≤(BM t d l).2∧(BM t d l).2<l)→∀ d l,0≤l→(CS ts d l).1=true→0≤(CS ts d l).2∧(CS ts d l).2≤l
 | [],_,d,l,hl,_=> by rw[CS];exact⟨hl,Int.le_refl _⟩
 | t::ts,ih,d,l,hl,h=> by
  rw[DI] at h ⊢
  by_cases hk:(BM t d l).1=true
  ·rw[if_pos hk] at h ⊢
   have h1:=ih t List.mem_cons_self d l hk
   have h2:=Hw ts (fun t ht=> ih t (List.mem_cons_of_mem _ ht)) d _ h1.1 h
   omega
  ·rw[if_neg hk] at h;cases h
theorem Hx:∀ (t:Tm) (d l:Int),(BM t d l).1=true→0≤(BM t d l).2∧(BM t d l).2<l:=by
 refine Tm.ind fun k u n s ks ih d l h=> ?_
 rw[BM] at h ⊢
 by_cases hk:l - 1<0∨60<d∨Cq k u n s ks.length=false
 ·rw[if_pos hk] at h;cases h
 ·rw[if_neg hk] at h ⊢
  have:=Hw ks ih (d+1) (l - 1) (by omega) h
  omega
theorem Kw:∀ (t:Tm) (cs:List Value) (F:Nat→Prop) (d l:Int) (g:Nat) (w:World),TmC F w cs t→(∀ j,F j→j≠g)→Blk w g 3 [.int .i64 l]→0≤l→l≤100000→1≤d→d≤61→
  Calls Tryz.prog 122 #[.agg cs.toArray,.int .i64 d,.pointer (some ⟨g,0,none⟩)] w (fun e w'=> e=.returned (.bool (BM t d l).1)∧Blk w' g 3 [.int .i64 (BM t d l).2]∧Ch (·=g) w w'):=by
 refine Tm.ind fun k u n s ks ih cs F d l g w ht hF hg hl0 hl1 hd1 hd2=> ?_
 obtain⟨ao,c,rfl,hmc,hcm,hsl⟩:=ht.shape
 simp only[Tm.k,Tm.u,Tm.n,Tm.s,Tm.ks] at hmc hsl ⊢
 have HIH:=Ag ih
 have HF:=Ag hF
 obtain⟨R,hR⟩:∃ R,BM (.mk k u n s ks) d l=R:=⟨_,rfl⟩
 rw[hR]
 have HR:=Ag (show(if l - 1<0∨60<d∨Cq k u n s ks.length=false then (false,l - 1) else CS ks (d+1) (l - 1))=R from by rw[←hR,BM])
 obtain⟨m,hm⟩:∃ m,ks.length=m:=⟨_,rfl⟩
 have HM:=Ag hm
 rw[hm] at hsl hmc ⊢
 have hm63:m≤9223372036854775807:=by unfold maxLen at hcm;omega
 have HGL:=Ag hg.lt
 have H0:=Ag (show Blk w g 3 [.int .i64 l]∧SlT F w (.slice ao m c) ks∧Ch (·=g) w w from⟨hg,hsl,Ch.refl _ _⟩)
 have lo: -9223372036854775808≤l - 1:=by omega
 have hi:l - 1≤9223372036854775807:=by omega
 clear ht hF hg hR hm ih hsl hmc hcm
 by_cases h1:l - 1<0
 ·have e1:decide (l - 1<0)=true:=by simpa using h1
  have HE:=Ag (show R=(false,l - 1) from by rw[←HR.out];exact if_pos (.inl h1))
  clear h1
  go_enter Tryz.func122,Tryz.ntmps122
  go_wp2_with (first
  | ((with_reducible refine Au w rfl 29 (.tmp 0) rfl (tmC k u n s (.slice ao m c)) rfl ?_);intro a1 hb hbel hsz;have HA1:=Ag (show Blk a1 g 3 ([.int .i64 l])∧SlT F a1 (.slice ao m c) ks∧Ch (·=g) w a1∧Blk a1 w.heap.size 29 (tmC k u n s (.slice ao m c)) from⟨H0.out.1.below hbel H0.out.1.lt,H0.out.2.1.below hbel,H0.out.2.2.trans (Ch.of_below hbel (Ah _)),hb⟩);have cg:=HA1.out.1.cell 0;simp only[Ab] at cg;clear hb hbel hsz)
  | ((with_reducible refine AI a1 rfl 3 (.tmp 13) (.tmp 12) rfl g 0 3 [.int .i64 l] HA1.out.1 rfl (.int .i64 (l - 1)) rfl (by simp) Tryz.sizeInt1T rfl rfl ?_);intro a2 hb hc hs;have HA2:=Ag (show Blk a2 g 3 ([.int .i64 (l - 1)])∧SlT F a2 (.slice ao m c) ks∧Ch (·=g) w a2∧Blk a2 w.heap.size 29 (tmC k u n s (.slice ao m c)) from⟨hb,HA1.out.2.1.keep hc HF.out,HA1.out.2.2.1.trans hc,HA1.out.2.2.2.keep hc (fun e=> by have e:w.heap.size=g:=e;have:=HGL.out;omega)⟩);have cg2:=HA2.out.1.cell 0;simp only[Ab] at cg2;clear hb hc hs cg))
  go_ret
  exact⟨by rw[HE.out];rfl,by rw[HE.out];exact HA2.out.1,HA2.out.2.2.1⟩
 have e1:decide (l - 1<0)=false:=by simpa using h1
 by_cases h2:60<d
 ·have e2:decide (60<d)=true:=by simpa using h2
  have HE:=Ag (show R=(false,l - 1) from by rw[←HR.out];exact if_pos (.inr (.inl h2)))
  clear h1 h2
  go_enter Tryz.func122,Tryz.ntmps122
  go_wp2_with (first
  | ((with_reducible refine Au w rfl 29 (.tmp 0) rfl (tmC k u n s (.slice ao m c)) rfl ?_);intro a1 hb hbel hsz;have HA1:=Ag (show Blk a1 g 3 ([.int .i64 l])∧SlT F a1 (.slice ao m c) ks∧Ch (·=g) w a1∧Blk a1 w.heap.size 29 (tmC k u n s (.slice ao m c)) from⟨H0.out.1.below hbel H0.out.1.lt,H0.out.2.1.below hbel,H0.out.2.2.trans (Ch.of_below hbel (Ah _)),hb⟩);have cg:=HA1.out.1.cell 0;simp only[Ab] at cg;clear hb hbel hsz)
  | ((with_reducible refine AI a1 rfl 3 (.tmp 13) (.tmp 12) rfl g 0 3 [.int .i64 l] HA1.out.1 rfl (.int .i64 (l - 1)) rfl (by simp) Tryz.sizeInt1T rfl rfl ?_);intro a2 hb hc hs;have HA2:=Ag (show Blk a2 g 3 ([.int .i64 (l - 1)])∧SlT F a2 (.slice ao m c) ks∧Ch (·=g) w a2∧Blk a2 w.heap.size 29 (tmC k u n s (.slice ao m c)) from⟨hb,HA1.out.2.1.keep hc HF.out,HA1.out.2.2.1.trans hc,HA1.out.2.2.2.keep hc (fun e=> by have e:w.heap.size=g:=e;have:=HGL.out;omega)⟩);have cg2:=HA2.out.1.cell 0;simp only[Ab] at cg2;clear hb hc hs cg))
  go_ret
  exact⟨by rw[HE.out];rfl,by rw[HE.out];exact HA2.out.1,HA2.out.2.2.1⟩
 have e2:decide (60<d)=false:=by simpa using h2
 have hd3:d+1≤9223372036854775807:=by omega
 have HN1:=Ag h1
 have HN2:=Ag h2
 clear h1 h2
 obtain⟨pb,hpb⟩:∃ b,Cq k u n s m=b:=⟨_,rfl⟩
 have HPB:=Ag (show Cq k u n s ks.length=pb from by rw[HM.out];exact hpb)
 have C1:=Ag (fun w=> JQ k u n s ao m c w)
 rw[hpb] at C1
 clear hpb
 go_enter Tryz.func122,Tryz.ntmps122
 go_wp2_with (first
  | ((with_reducible refine Au w rfl 29 (.tmp 0) rfl (tmC k u n s (.slice ao m c)) rfl ?_);intro a1 hb hbel hsz;have HA1:=Ag (show Blk a1 g 3 ([.int .i64 l])∧SlT F a1 (.slice ao m c) ks∧Ch (·=g) w a1∧Blk a1 w.heap.size 29 (tmC k u n s (.slice ao m c)) from⟨H0.out.1.below hbel H0.out.1.lt,H0.out.2.1.below hbel,H0.out.2.2.trans (Ch.of_below hbel (Ah _)),hb⟩);have cg:=HA1.out.1.cell 0;simp only[Ab] at cg;clear hb hbel hsz)
  | ((with_reducible refine AI a1 rfl 3 (.tmp 13) (.tmp 12) rfl g 0 3 [.int .i64 l] HA1.out.1 rfl (.int .i64 (l - 1)) rfl (by simp) Tryz.sizeInt1T rfl rfl ?_);intro a2 hb hc hs;have HA2:=Ag (show Blk a2 g 3 ([.int .i64 (l - 1)])∧SlT F a2 (.slice ao m c) ks∧Ch (·=g) w a2∧Blk a2 w.heap.size 29 (tmC k u n s (.slice ao m c)) from⟨hb,HA1.out.2.1.keep hc HF.out,HA1.out.2.2.1.trans hc,HA1.out.2.2.2.keep hc (fun e=> by have e:w.heap.size=g:=e;have:=HGL.out;omega)⟩);have cg2:=HA2.out.1.cell 0;simp only[Ab] at cg2;clear hb hc hs cg)
  | ((with_reducible refine EB ?_ 29 (.tmp 3) rfl w.heap.size 0 rfl (tmC k u n s (.slice ao m c)) _ (As HA2.out.2.2.2) Tryz.underlying29 rfl (A8 _ _ _ _ _) ?_);focus rfl))
 refine Calls.mono (C1.out a2) ?_
 rintro e' a3 ⟨rfl,hb⟩
 have HA3:=hJ4 (HA2.out.1.below hb HA2.out.1.lt) (HA2.out.2.1.below hb) (HA2.out.2.2.1.trans (Ch.of_below hb (Ah _))) (HA2.out.2.2.2.below hb HA2.out.2.2.2.lt)
 have c4:=HA3.out.2.2.2.cell 4
 simp only[tmC,Ab,Ac] at c4
 clear hb cg2 C1
 cases pb
 ·skip
  have HE:=Ag (show R=(false,l - 1) from by rw[←HR.out];exact if_pos (.inr (.inr HPB.out)))
  go_wp2_with fail
  go_ret
  exact⟨by rw[HE.out];rfl,by rw[HE.out];exact HA3.out.1,HA3.out.2.2.1⟩
 have HN3:=Ag (show ¬ Cq k u n s ks.length=false from by rw[HPB.out];simp)
 go_wp2_with fail
 clear c4
 have HRL:=Ag (show CS ks (d+1) (l - 1)=R from by rw[←HR.out];exact(if_neg (by intro hx;have a1:=HN1.out;have a2:=HN2.out;rcases hx with hx|hx|hx;omega;omega;exact HN3.out hx)).symm)
 have hl2:0≤l - 1:=by have a1:=HN1.out;omega
 have hd4:d≤60:=by have a1:=HN2.out;omega
 go_loopw [30] (fun i wr=> ∃ (j:Nat) (lj:Int),i=.int .i64 j∧j≤m∧0≤lj∧lj<l∧Hid (CS (ks.drop j) (d+1) lj=R)∧Hid (Blk wr g 3 [.int .i64 lj]∧SlT F wr (.slice ao m c) ks∧Ch (·=g) w wr)) (fun i _=> m - (intOf i).toNat)
 case atStart=> exact⟨0,l - 1,rfl,Nat.zero_le _,by omega,by omega,Ag (by rw[List.drop_zero];exact HRL.out),Ag ⟨HA3.out.1,HA3.out.2.1,HA3.out.2.2.1⟩⟩
 case round=>
  clear HA3 HRL
  obtain⟨j,lj,rfl,hj,hlj0,hlj1,HQ,HZ⟩:=hrel
  by_cases hlt:j<m
  ·have hjk:j<ks.length:=by rw[HM.out];exact hlt
   have hjz:(j:Int)<(m:Int):=by omega
   have hj0:(0:Int)≤(j:Int):=by omega
   have HJ:=Ag hjk
   obtain⟨b,o,csj,rfl,hFb,hbl,hra,htm⟩:=HZ.out.2.1.get hjk
   have HMEM:=Ag (List.getElem_mem hjk)
   have HDR:=Ag (List.drop_eq_getElem_cons hjk)
   generalize ks[j]=kj at htm HMEM HDR
   obtain⟨aj,cj,rfl,-,-,-⟩:=htm.shape
   have HRA:=Ag hra
   have HTM:=Ag htm
   have HQ2:=Ag (show CS (kj::ks.drop (j+1)) (d+1) lj=R from by rw[←HDR.out];exact HQ.out)
   clear hra htm hjk hFb hbl
   go_wp2_with (first
  | (with_reducible refine Ap rfl 29 (.tmp 32) rfl b (o+j* 5) rfl (tmC kj.k kj.u kj.n kj.s (.slice aj kj.ks.length cj)) _ HRA.out Tryz.underlying29 rfl (A8 _ _ _ _ _) ?_)
  | ((with_reducible refine Av wr rfl 29 rfl (tmC 0 0 0 ⟨#[]⟩ (.slice none 0 0)) Tryz.zeroTm ?_);intro b1 hb hbel hsz;have HB1:=Ag (show Blk b1 g 3 ([.int .i64 lj])∧SlT F b1 (.slice (some ⟨b,o,none⟩) m c) ks∧Ch (·=g) w b1∧Blk b1 wr.heap.size 29 (tmC 0 0 0 ⟨#[]⟩ (.slice none 0 0))∧TmC F b1 (tmC kj.k kj.u kj.n kj.s (.slice aj kj.ks.length cj)) kj from⟨HZ.out.1.below hbel HZ.out.1.lt,HZ.out.2.1.below hbel,HZ.out.2.2.trans (Ch.of_below hbel (Ah _)),hb,HTM.out.below hbel⟩);have HBL:=Ag hbel;clear hb hbel hsz)
  | ((with_reducible refine Ao b1 rfl 29 (.tmp 8) (.tmp 33) rfl wr.heap.size 29 (tmC 0 0 0 ⟨#[]⟩ (.slice none 0 0)) (tmC kj.k kj.u kj.n kj.s (.slice aj kj.ks.length cj)) HB1.out.2.2.2.1 rfl rfl rfl (A8 _ _ _ _ _) (AR _ _ _ _ _ _ _) ?_);intro b2 hb hc hs;have hbw:Below wr.heap.size wr b2:=Aw HBL.out hc (Ah _) (fun k hk=> by have e:k=wr.heap.size:=hk;omega);have HB2:=Ag (show Blk b2 g 3 ([.int .i64 lj])∧SlT F b2 (.slice (some ⟨b,o,none⟩) m c) ks∧Ch (·=g) w b2∧Blk b2 wr.heap.size 29 (tmC kj.k kj.u kj.n kj.s (.slice aj kj.ks.length cj))∧TmC F b2 (tmC kj.k kj.u kj.n kj.s (.slice aj kj.ks.length cj)) kj from⟨HZ.out.1.below hbw HZ.out.1.lt,HZ.out.2.1.below hbw,HZ.out.2.2.trans (Ch.of_below hbw (Ah _)),hb,HTM.out.below hbw⟩);clear hb hc hs hbw)
  | (with_reducible refine Ap rfl 29 (.tmp 8) rfl wr.heap.size 0 rfl (tmC kj.k kj.u kj.n kj.s (.slice aj kj.ks.length cj)) _ (As HB2.out.2.2.2.1) Tryz.underlying29 rfl (A8 _ _ _ _ _) ?_))
   have hx:=HIH.out kj HMEM.out _ F (d+1) lj g b2 HB2.out.2.2.2.2 HF.out HB2.out.1 (by omega) (by omega) (by omega) (by omega)
   obtain⟨⟨rb,l2⟩,hr⟩:∃ r,BM kj (d+1) lj=r:=⟨_,rfl⟩
   have HRK:=Ag hr
   rw[hr] at hx
   clear hr
   refine Calls.mono hx ?_
   clear hx
   rintro e' b3 ⟨rfl,hb,hc⟩
   have HB3:=hJ3 hb (HB2.out.2.1.keep hc HF.out) (HB2.out.2.2.1.trans hc)
   clear hb hc
   cases rb
   ·skip
    have HE:=Ag (show R=(false,l2) from by rw[←HQ2.out,DI,HRK.out];rfl)
    go_wp2_with fail
    go_ret
    exact⟨by rw[HE.out];rfl,by rw[HE.out];exact HB3.out.1,HB3.out.2.2⟩
   ·skip
    have hbd:=Hx kj (d+1) lj (by rw[HRK.out])
    rw[HRK.out] at hbd
    have hb1:0≤l2:=hbd.1
    have hb2:l2<lj:=hbd.2
    clear hbd
    have HQ3:=Ag (show CS (ks.drop (j+1)) (d+1) l2=R from by have h:=HQ2.out;rw[DI,HRK.out] at h;exact h)
    go_wp2_with fail
    go_roundw
    case rel=> exact⟨j+1,l2,by go_num,by omega,by omega,by omega,HQ3,HB3⟩
    case measure=> simp[intOf];omega
  ·have hge:¬ (j:Int)<(m:Int):=by omega
   have HE:=Ag (show R=(true,lj) from by rw[←HQ.out,List.drop_of_length_le (by rw[HM.out];omega),CS])
   go_wp2_with fail
   go_ret
   exact⟨by rw[HE.out];rfl,by rw[HE.out];exact HZ.out.1,HZ.out.2.2⟩
theorem AtC.old {F:Nat→Prop} {w:World} {b:Nat}:∀ {ts:List Tm} {o:Nat},(∀ t∈ts,∀ cs,TmC F w cs t→TmC (fun j=> F j∧j<w.heap.size) w cs t)→AtC F w b o ts→AtC (fun j=> F j∧j<w.heap.size) w b o ts
 | [],_,_,_=> by unfold AtC;trivial
 | t::ts,o,ih,h=> by
  unfold AtC at h ⊢
  obtain⟨⟨cs,h1,h2,h3⟩,h4⟩:=h
  exact⟨⟨cs,h1,h2,ih t List.mem_cons_self cs h3⟩,AtC.old (fun t ht=> ih t (List.mem_cons_of_mem _ ht)) h4⟩
theorem TmC.old' {F:Nat→Prop} {w:World}:∀ (t:Tm) (cs:List Value),TmC F w cs t→TmC (fun j=> F j∧j<w.heap.size) w cs t:=by
 refine Tm.ind fun k u n s ks ih cs h=> ?_
 unfold TmC at h ⊢
 obtain⟨ao,c,h1,h2,h3,h4⟩:=h
 refine⟨ao,c,h1,h2,h3,fun h0=> ?_⟩
 obtain⟨b,o,e,hF,hb,ha⟩:=h4 h0
 exact⟨b,o,e,⟨hF,hb⟩,hb,AtC.old ih ha⟩
theorem TmC.old {F:Nat→Prop} {w:World} {cs:List Value} {t:Tm} (h:TmC F w cs t):TmC (·<w.heap.size) w cs t:=(TmC.old' t cs h).mono fun _ h=> h.2
theorem SlT.old {F:Nat→Prop} {w:World} {v:Value} {ts:List Tm} (h:SlT F w v ts):SlT (·<w.heap.size) w v ts:=by
 have h1:TmC F w (tmC 0 0 0 ⟨#[]⟩ v) (.mk 0 0 0 ⟨#[]⟩ ts):=B0.2 ⟨v,rfl,h⟩
 obtain⟨v',e,h2⟩:=B0.1 h1.old
 simp only[tmC,List.cons.injEq,and_true,true_and] at e
 subst e;exact h2
def DN (t:Tm):Int:=if (BM t 1 1200).1=true then 1200 - (BM t 1 1200).2 else 0
theorem Tryz.zeroIT:∀ w,(zeroValue 3).run Tryz.prog w=.ok (.int .i64 0) w:=fun w=> by kernel_rfl
theorem E5 (w:World) {ops:Array Oper} {rest:List Oper} {o:Oper} {a:Act} {Q:Exit→Act→World→Prop} (hgd:o.guard=none) (ho:o.op=.alloc 3)
  (h:∀ w',Blk w' w.heap.size 3 [.int .i64 0]→Below w.heap.size w w'→w'.heap.size=w.heap.size+1→wpList Tryz.prog ops Q rest (a.put o.dst (.pointer (some ⟨w.heap.size,0,none⟩))) w'):wpList Tryz.prog ops Q (o::rest) a w:=by
 refine wpList_plain hgd fun K hK=> ?_
 have hrun:(execOp a.eval o).run Tryz.prog w=.ok (.value (.pointer (some ⟨w.heap.size,0,none⟩))) (w.alloc (.cells [Value.int .i64 0].toArray 3)):=by
  simp[execOp,ho,Instr.alloc,Tryz.zeroIT,Result.andThen,CF,Value.cells]
 unfold Oper.wp
 rw[hrun]
 exact hK _ _ (h _ (Blk.new w _ _) ((Below.refl _ _).alloc (Ah _) _) (World.size_alloc _ _))
theorem Hy (t:Tm) (cs:List Value) (F:Nat→Prop) (w:World) (ht:TmC F w cs t):
  Calls Tryz.prog 102 #[.agg cs.toArray] w (fun e w'=> e=.returned (.int .i64 (DN t))∧Below w.heap.size w w'):=by
 have h1:=ht.old
 obtain⟨ao,c,rfl,-,-,-⟩:=ht.shape
 clear ht
 have HT:=Ag h1
 obtain⟨⟨rb,l2⟩,hr⟩:∃ r,BM t 1 1200=r:=⟨_,rfl⟩
 have HR:=Ag hr
 obtain⟨P,hP⟩:∃ P:Value,(.int .i64 (DN t))=P:=⟨_,rfl⟩
 have HP:=Ag hP
 rw[hP]
 clear h1 hr hP
 generalize t.ks.length=m at HT ⊢
 generalize t.k=k at HT ⊢
 generalize t.u=u at HT ⊢
 generalize t.n=n at HT ⊢
 generalize t.s=s at HT ⊢
 have H0:=Ag (Below.refl w.heap.size w)
 go_enter Tryz.func102,Tryz.ntmps102
 go_wp2_with (first
  | ((with_reducible refine Au w rfl 29 (.tmp 0) rfl (tmC k u n s (.slice ao m c)) rfl ?_);intro a1 hb hbel hsz;have HA1:=hJ2 (An H0.out hbel (Ah _)) hb;clear hb hbel hsz)
  | ((with_reducible refine E5 a1 rfl rfl ?_);intro b1 hb hbel hsz;have HB:=Ag (Ai hb hbel);clear hb hbel hsz)
  | ((with_reducible refine AI b1 rfl 3 (.tmp 3) (.const (.int .i64 1200)) rfl a1.heap.size 0 3 [.int .i64 0] HB.out.1 rfl (.int .i64 1200) rfl (by simp) Tryz.sizeInt1T rfl rfl ?_);intro a2 hb hc hs;have hbw:=Aw HB.out.2 hc (Ah _) (fun k hk=> by have e:k=a1.heap.size:=hk;omega);have HA2:=Ag (show Below w.heap.size w a2∧Blk a2 w.heap.size 29 (tmC k u n s (.slice ao m c))∧Blk a2 a1.heap.size 3 ([.int .i64 1200]) from⟨An HA1.out.1 hbw (Ah _),HA1.out.2.below hbw HA1.out.2.lt,hb⟩);clear hb hc hs hbw)
  | (with_reducible refine Ap rfl 29 (.tmp 1) rfl w.heap.size 0 rfl (tmC k u n s (.slice ao m c)) _ (As HA2.out.2.1) Tryz.underlying29 rfl (A8 _ _ _ _ _) ?_))
 have hx:=Kw t _ (·<w.heap.size) 1 1200 a1.heap.size a2 ((HT.out.below HA2.out.1)) (fun j hj e=> by have h1:=HA1.out.2.lt;have h2:j<w.heap.size:=hj;omega) HA2.out.2.2 (by omega) (by omega) (by omega) (by omega)
 rw[HR.out] at hx
 refine Calls.mono hx ?_
 clear hx
 rintro e' a3 ⟨rfl,hb,hc⟩
 have HA3:=hJ2 (Aw HA2.out.1 hc (Ah _) (fun k hk=> by have e:k=a1.heap.size:=hk;have:=HA1.out.2.lt;omega)) hb
 clear hb hc
 have cl:=HA3.out.2.cell 0
 simp only[Ab] at cl
 cases rb
 ·have HE:=Ag (show P=.int .i64 0 from by rw[←HP.out];unfold DN;rw[HR.out];rfl)
  go_wp2_with fail
  go_ret
  exact⟨by rw[HE.out];rfl,HA3.out.1⟩
 ·have HE:=Ag (show P=.int .i64 (1200 - l2) from by rw[←HP.out];unfold DN;rw[HR.out];rfl)
  have hbd:=Hx t 1 1200 (by rw[HR.out])
  rw[HR.out] at hbd
  have h1:0≤l2:=hbd.1
  have h2:l2<1200:=hbd.2
  have h3: -9223372036854775808≤1200 - l2:=by omega
  have h4:1200 - l2≤9223372036854775807:=by omega
  clear hbd
  go_wp2_with fail
  go_ret
  exact⟨by rw[HE.out];rfl,HA3.out.1⟩
def DV (t:Tm):Int:=if DN t=0 then 150 else 0
theorem IR (t:Tm) (cs:List Value) (F:Nat→Prop) (w:World) (ht:TmC F w cs t):
  Calls Tryz.prog 83 #[.agg cs.toArray] w (fun e w'=> e=.returned (.int .i64 (DV t))∧Below w.heap.size w w'):=by
 obtain⟨ao,c,rfl,-,-,-⟩:=ht.shape
 have HT:=Ag ht
 obtain⟨x,hx⟩:∃ x,DN t=x:=⟨_,rfl⟩
 have HX:=Ag hx
 have HC:=Ag (show DV t=if x=0 then 150 else 0 from by unfold DV;rw[hx])
 clear ht hx
 generalize t.ks.length=m at HT ⊢
 generalize t.k=k at HT ⊢
 generalize t.u=u at HT ⊢
 generalize t.n=n at HT ⊢
 generalize t.s=s at HT ⊢
 have H0:=Ag (Below.refl w.heap.size w)
 go_enter Tryz.func83,Tryz.ntmps83
 go_wp2_with (first
  | ((with_reducible refine Au w rfl 29 (.tmp 0) rfl (tmC k u n s (.slice ao m c)) rfl ?_);intro a1 hb hbel hsz;have HA1:=hJ2 (An H0.out hbel (Ah _)) hb;clear hb hbel hsz)
  | (with_reducible refine Ap rfl 29 (.tmp 1) rfl w.heap.size 0 rfl (tmC k u n s (.slice ao m c)) _ (As HA1.out.2) Tryz.underlying29 rfl (A8 _ _ _ _ _) ?_))
 have hx:=Hy t _ F a1 (HT.out.below HA1.out.1)
 rw[HX.out] at hx
 refine Calls.mono hx ?_
 clear hx
 rintro e' a2 ⟨rfl,hb⟩
 have HB:=Ag (An HA1.out.1 hb (Ah _))
 clear hb
 by_cases h0:x=0
 ·have e1:(x==0)=true:=by simpa using h0
  have HE:=Ag (show DV t=150 from by rw[HC.out];exact if_pos h0)
  clear h0
  go_wp2_with fail
  go_ret
  exact⟨by rw[HE.out];rfl,HB.out⟩
 ·have e1:(x==0)=false:=by simpa using h0
  have HE:=Ag (show DV t=0 from by rw[HC.out];exact if_neg h0)
  clear h0
  go_wp2_with fail
  go_ret
  exact⟨by rw[HE.out];rfl,HB.out⟩
theorem Kx (t:Tm) (cs:List Value) (F:Nat→Prop) (w:World) (ht:TmC F w cs t):
  Calls Tryz.prog 84 #[.agg cs.toArray] w (fun e w'=> e=.returned (.int .i64 (DN t))∧Below w.heap.size w w'):=by
 obtain⟨ao,c,rfl,-,-,-⟩:=ht.shape
 have HT:=Ag ht
 obtain⟨x,hx⟩:∃ x,DN t=x:=⟨_,rfl⟩
 have HX:=Ag hx
 rw[hx]
 clear ht hx
 generalize t.ks.length=m at HT ⊢
 generalize t.k=k at HT ⊢
 generalize t.u=u at HT ⊢
 generalize t.n=n at HT ⊢
 generalize t.s=s at HT ⊢
 have H0:=Ag (Below.refl w.heap.size w)
 go_enter Tryz.func84,Tryz.ntmps84
 go_wp2_with (first
  | ((with_reducible refine Au w rfl 29 (.tmp 0) rfl (tmC k u n s (.slice ao m c)) rfl ?_);intro a1 hb hbel hsz;have HA1:=hJ2 (An H0.out hbel (Ah _)) hb;clear hb hbel hsz)
  | (with_reducible refine Ap rfl 29 (.tmp 1) rfl w.heap.size 0 rfl (tmC k u n s (.slice ao m c)) _ (As HA1.out.2) Tryz.underlying29 rfl (A8 _ _ _ _ _) ?_))
 have hx:=Hy t _ F a1 (HT.out.below HA1.out.1)
 rw[HX.out] at hx
 refine Calls.mono hx ?_
 clear hx
 rintro e' a2 ⟨rfl,hb⟩
 have HB:=Ag (An HA1.out.1 hb (Ah _))
 clear hb
 go_wp2_with fail
 go_ret
 exact⟨rfl,HB.out⟩
end Go.Proofs.YtgdlfiphihaooaaGreat

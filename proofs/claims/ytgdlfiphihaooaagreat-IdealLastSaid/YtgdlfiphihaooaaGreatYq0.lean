import Derived.WalkKit
import Derived.Laws.AppendOwnNone
import Derived.Laws.CopyOwn
import Derived.Maps.AppendAt
import Derived.WalkLawsBesides
import Derived.WalkSpells
import Derived.Lib.Hide
import Derived.OneCell
import Derived.Laws.IdiomStrings
import Derived.Deep.MidRow
import Derived.StillTail
import Derived.BigQuiet
import Derived.Lib.QuietBelow
import Derived.Deep.RegionHeld3
import Derived.Laws.ResultCell
set_option linter.unusedSimpArgs false
set_option linter.unusedVariables false
set_option maxRecDepth 100000
set_option maxHeartbeats 8000000
open _root_.List renaming getElem?_toArray→Aa,getElem?_cons_zero→Ab,getElem?_cons_succ→Ac,setIfInBounds_toArray→Ad,set_cons_zero→Ae,set_cons_succ→Af
open _root_.Go.Lib renaming hid→Ag
open _root_.Nat renaming le_refl→Ah,le_trans→Aj,lt_of_lt_of_le→Ak
open _root_.And renaming intro→Ai
open _root_.Go.Act renaming put→Al
namespace Go.Proofs.YtgdlfiphihaooaaGreat
open Go Go.RowKit
theorem hJ2 {A B:Prop} (a:A) (b:B):Hid (A∧B):=Ag ⟨a,b⟩
theorem hJ3 {A B C:Prop} (a:A) (b:B) (c:C):Hid (A∧B∧C):=Ag ⟨a,b,c⟩
theorem hJ4 {A B C D:Prop} (a:A) (b:B) (c:C) (d:D):Hid (A∧B∧C∧D):=Ag ⟨a,b,c,d⟩
theorem hJ5 {A B C D E:Prop} (a:A) (b:B) (c:C) (d:D) (e:E):Hid (A∧B∧C∧D∧E):=Ag ⟨a,b,c,d,e⟩
theorem hJ6 {A B C D E F:Prop} (a:A) (b:B) (c:C) (d:D) (e:E) (f:F):Hid (A∧B∧C∧D∧E∧F):=Ag ⟨a,b,c,d,e,f⟩
theorem hJ7 {A B C D E F G:Prop} (a:A) (b:B) (c:C) (d:D) (e:E) (f:F) (g:G):Hid (A∧B∧C∧D∧E∧F∧G):=Ag ⟨a,b,c,d,e,f,g⟩
theorem hJ8 {A B C D E F G H:Prop} (a:A) (b:B) (c:C) (d:D) (e:E) (f:F) (g:G) (h:H):Hid (A∧B∧C∧D∧E∧F∧G∧H):=Ag ⟨a,b,c,d,e,f,g,h⟩
theorem hJ9 {A B C D E F G H I:Prop} (a:A) (b:B) (c:C) (d:D) (e:E) (f:F) (g:G) (h:H) (i:I):Hid (A∧B∧C∧D∧E∧F∧G∧H∧I):=Ag ⟨a,b,c,d,e,f,g,h,i⟩
theorem hJ10 {A B C D E F G H I J:Prop} (a:A) (b:B) (c:C) (d:D) (e:E) (f:F) (g:G) (h:H) (i:I) (j:J):Hid (A∧B∧C∧D∧E∧F∧G∧H∧I∧J):=Ag ⟨a,b,c,d,e,f,g,h,i,j⟩
theorem hJ11 {A B C D E F G H I J K:Prop} (a:A) (b:B) (c:C) (d:D) (e:E) (f:F) (g:G) (h:H) (i:I) (j:J) (k:K):Hid (A∧B∧C∧D∧E∧F∧G∧H∧I∧J∧K):=Ag ⟨a,b,c,d,e,f,g,h,i,j,k⟩
theorem hJ12 {A B C D E F G H I J K L:Prop} (a:A) (b:B) (c:C) (d:D) (e:E) (f:F) (g:G) (h:H) (i:I) (j:J) (k:K) (l:L):Hid (A∧B∧C∧D∧E∧F∧G∧H∧I∧J∧K∧L):=Ag ⟨a,b,c,d,e,f,g,h,i,j,k,l⟩
def Sl (w:World) (v:Value) (xs:List Value):Prop:=
 (v=.slice none 0 0∧xs=[])∨∃ ad c,v=.slice (some ad) xs.length c∧xs.length≤c∧c≤maxLen∧(∀ i u,xs[i]?=some u→w.cell? (ad.add i)=some u)
theorem Am {w:World} {a:Addr} {u:Value} (h:w.cell? a=some u):a.block<w.heap.size:=by
 by_cases hb:a.block<w.heap.size
 ·exact hb
 ·rw[World.cell?,show w.heap[a.block]?=none by simp;omega] at h
  cases h
theorem C9 (a:Addr) (i:Nat):(a.add i).block=a.block:=by
 unfold Addr.add;split <;> rfl
theorem Sl.nil (w:World):Sl w (.slice none 0 0) []:=.inl ⟨rfl,rfl⟩
theorem Sl.below {B:Nat} {w w':World} {v:Value} {xs:List Value} (h:Sl w v xs) (hw:Below B w w') (hB:w.heap.size≤B):Sl w' v xs:=by
 rcases h with h|⟨ad,c,h1,h2,h3,h4⟩
 ·exact .inl h
 ·refine .inr ⟨ad,c,h1,h2,h3,fun i u hu=> ?_⟩
  have hc:=h4 i u hu
  rw[hw.cell (by have:=Am hc;omega)]
  exact hc
structure Ch (S:Nat→Prop) (w w':World):Prop where
 os:w'.os=w.os
 tape:w'.tape=w.tape
 output:w'.output=w.output
 size:w.heap.size≤w'.heap.size
 block:∀ k,k<w.heap.size→¬ S k→w'.heap[k]?=w.heap[k]?
theorem Ch.refl (S:Nat→Prop) (w:World):Ch S w w:=⟨rfl,rfl,rfl,Ah _,fun _ _ _=> rfl⟩
theorem Ch.trans {S:Nat→Prop} {a b c:World} (h:Ch S a b) (k:Ch S b c):Ch S a c:=
 ⟨k.os.trans h.os,k.tape.trans h.tape,k.output.trans h.output,Aj h.size k.size,fun i hi hs=> (k.block i (Ak hi h.size) hs).trans (h.block i hi hs)⟩
theorem Ch.trans' {S T:Nat→Prop} {a b c:World} (h:Ch S a b) (k:Ch T b c) (hT:∀ i,i<a.heap.size→T i→S i):Ch S a c:=
 ⟨k.os.trans h.os,k.tape.trans h.tape,k.output.trans h.output,Aj h.size k.size,fun i hi hs=> (k.block i (Ak hi h.size) (fun ht=> hs (hT i hi ht))).trans (h.block i hi hs)⟩
theorem Ch.mono {S T:Nat→Prop} {w w':World} (h:Ch S w w') (hT:∀ i,S i→T i):Ch T w w':=⟨h.os,h.tape,h.output,h.size,fun k hk hs=> h.block k hk (fun s=> hs (hT k s))⟩
theorem Ch.drew {S:Nat→Prop} {a w:World} (h:Ch S a w):Ch S a w.drew:=⟨h.os,h.tape,h.output,h.size,h.block⟩
theorem Ch.setCell {S:Nat→Prop} {a w:World} (h:Ch S a w) {p:Addr} (hp:S p.block∨a.heap.size≤p.block) (u:Value):Ch S a (w.setCell p u):=
 ⟨h.os,h.tape,h.output,by have:=h.size;simp[World.setCell];exact this,fun k hk hs=> by
  rw[Below.heap_setCell _ _ _ _ (by rintro rfl;rcases hp with hp|hp;exact hs hp;omega)];exact h.block k hk hs⟩
theorem Ch.grown {S:Nat→Prop} {a w w':World} {row:Option Nat} (h:Ch S a w) (hg:w.grownBy w' row) (hr:∀ k,row=some k→S k∨a.heap.size≤k):Ch S a w':=
 ⟨hg.os.trans h.os,hg.tape.trans h.tape,hg.output.trans h.output,Aj h.size hg.size,fun k hk hs=> by
  rw[hg.block k (Ak hk h.size) (fun e=> by rcases hr k e.symm with hp|hp;exact hs hp;omega)];exact h.block k hk hs⟩
theorem Ch.below {S:Nat→Prop} {w w':World} (h:Ch S w w') (hS:∀ k,k<w.heap.size→¬ S k):Below w.heap.size w w':=
 ⟨h.os,h.tape,h.output,h.size,fun k hk=> h.block k hk (hS k hk)⟩
theorem Ch.of_below {S:Nat→Prop} {B:Nat} {w w':World} (h:Below B w w') (hB:w.heap.size≤B):Ch S w w':=
 ⟨h.os,h.tape,h.output,h.size,fun k hk _=> h.block k (by omega)⟩
theorem Ch.cell {S:Nat→Prop} {w w':World} (h:Ch S w w') {p:Addr} (hp:p.block<w.heap.size) (hS:¬ S p.block):w'.cell? p=w.cell? p:=World.cell?_of_block (w:=w) (h.block p.block hp hS)
theorem Ch.frozen {S:Nat→Prop} {w w':World} (h:Ch S w w') {p:Addr} (hp:p.block<w.heap.size) (hS:¬ S p.block):w'.frozen? p=w.frozen? p:=World.frozen?_of_block (w:=w) (h.block p.block hp hS)
theorem AY {w:World} {base:Nat} {e:TypeId} {size:Nat} {v:Value} {n:Nat} {xs:List Value} (h:w.ownsRow base e size v n xs):∃ ao c,v=.slice ao n c:=by
 obtain⟨_,⟨rfl,rfl⟩|⟨g,cap,_,rfl,_⟩⟩:=h
 ·exact⟨_,_,rfl⟩
 ·exact⟨_,_,rfl⟩
theorem CG {P:Program} (w:World) {ops:Array Oper} {rest:List Oper} {o:Oper} {a:Act} {Q:Exit→Act→World→Prop} (hgd:o.guard=none) (s x:Operand) (t:TypeId)
  (ho:o.op=.call {callee:=.builtin .append,args:=#[s,x],argTypes:=#[t,t]})
  (base:Nat) (e:TypeId) (i:TypeInfo) (z:Value) (bytes:Nat) (ht:P.underlying t=some (.slice e)) (hi:P.info? e=some i) (hz:i.zero=some z)
  (hsize:i.size=1) (hby:i.bytes=bytes) (hzs:z.cells.size=1)
  (v:Value) (n:Nat) (xs:List Value) (hs:a.eval s=v) (hown:w.ownsRow base e 1 v n xs)
  (vx:Value) (news:List Value) (hx:a.eval x=vx) (hsl:Sl w vx news) (h1:∀ u∈news,u.oneCell'=true) (N:Nat) (hN:n+news.length=N)
  (h63:N≤maxLen) (hbytes:N* bytes≤140737488355328) (hbase:base≤w.heap.size)
  (h:∀ ao c w',w'.ownsRow base e 1 (.slice ao N c) N (xs ++ news)→w.grownBy w' v.ownBlock→((Value.slice ao N c).ownBlock=v.ownBlock∨(Value.slice ao N c).ownBlock=some w.heap.size)→wpList P ops Q rest (a.put o.dst (.slice ao N c)) w'):
  wpList P ops Q (o::rest) a w:=by
 subst hN
 rcases hsl with⟨h2,h3⟩|⟨ad,c,h2,h3,h4,h5⟩
 ·subst h3
  refine wpList_append_own_none hgd s x t ho base e i 1 ht hi v n xs hs hown (hx.trans h2) ?_
  obtain⟨ao,c,rfl⟩:=AY hown
  exact h ao c w (by simpa using hown) ⟨rfl,rfl,rfl,Ah _,fun _ _ _=> rfl⟩ (.inl rfl)
 ·refine wpList_append_own_at w hgd s x t ho base e i z 1 bytes ht hi hz hsize hby hzs (by omega) v n xs hs hown ad news.length c news (hx.trans h2) (by simp) h5 h1 h63 hbytes hbase (fun v' w' a1 a2 _ a4=> ?_)
  obtain⟨ao,c,rfl⟩:=AY a1
  exact h ao c w' a1 a2 a4
def ofK (k:IntKind) (bs:List Int):List Value:=bs.map (Value.int k)
theorem AJ (k:IntKind) (bs:List Int):(ofK k bs).length=bs.length:=by simp[ofK]
theorem Cx (k:IntKind) (bs:List Int):∀ u∈ofK k bs,u.oneCell'=true:=by
 intro u hu;obtain⟨b,_,rfl⟩:=List.mem_map.1 hu;rfl
theorem Hc (k:IntKind) (bs:List Int) (i:Nat) (h:i<bs.length):(ofK k bs)[i]?=some (.int k bs[i]):=by simp[ofK,h]
theorem Sl.of_owns {w:World} {base:Nat} {e:TypeId} {v:Value} {n:Nat} {xs:List Value} (h:w.ownsRow base e 1 v n xs):Sl w v xs:=by
 obtain⟨h1,h2|⟨g,cap,cur,hv,hg,hh,hn,hc,hs,ht⟩⟩:=h
 ·obtain⟨rfl,rfl⟩:=h2
  exact .inl ⟨rfl,List.eq_nil_of_length_eq_zero (by simpa using h1)⟩
 ·refine .inr ⟨⟨g,0,none⟩,cap,by rw[hv,h1];simp,by omega,hc,fun i u hu=> ?_⟩
  exact World.ownsRow.cells (w:=w) (base:=base) (e:=e) (size:=1) (v:=v) (n:=n) (xs:=xs) ⟨h1,.inr ⟨g,cap,cur,hv,hg,hh,hn,hc,hs,ht⟩⟩ (by rw[hv];rfl) i u hu
theorem Sl.shape {w:World} {v:Value} {xs:List Value} (h:Sl w v xs):
  ∃ ao c,v=.slice ao xs.length c∧xs.length≤c∧c≤maxLen∧(0<xs.length→∃ b o,ao=some ⟨b,o,none⟩∧b<w.heap.size∧∀ j u,xs[j]?=some u→w.cell? ⟨b,o+j,none⟩=some u):=by
 rcases h with⟨rfl,rfl⟩|⟨ad,c,h1,h2,h3,h4⟩
 ·exact⟨none,0,rfl,Ah _,by unfold maxLen;omega,fun h=> by simp at h⟩
 ·refine⟨some ad,c,h1,h2,h3,fun h0=> ?_⟩
  obtain⟨b,o,sp⟩:=ad
  have hc:=h4 0 xs[0] (by simp)
  have hsp:sp=none:=by simpa [Addr.add] using World.cell?_spot hc
  subst hsp
  refine⟨b,o,rfl,by simpa [Addr.add] using Am hc,fun j u hj=> ?_⟩
  have:=h4 j u hj
  unfold Addr.add at this
  by_cases hj0:j=0
  ·subst hj0;simpa using this
  ·simpa [hj0] using this
theorem Sl.take {w:World} {ao:Option Addr} {len c:Nat} {xs:List Value} (h:Sl w (.slice ao len c) xs) (n:Nat) (hn:n≤xs.length):Sl w (.slice ao n c) (xs.take n):=by
 rcases h with⟨h1,rfl⟩|⟨ad,c',h1,h2,h3,h4⟩
 ·cases h1;obtain rfl:n=0:=by simpa using hn
  exact .inl ⟨rfl,rfl⟩
 ·cases h1
  refine .inr ⟨ad,c,by simp[hn],by simp;omega,h3,fun i u hu=> ?_⟩
  rw[List.getElem?_take] at hu
  split at hu
  ·exact h4 i u hu
  ·cases hu
theorem Sl.keep {S:Nat→Prop} {w w':World} {v:Value} {xs:List Value} (h:Sl w v xs) (hc:Ch S w w') (hv:∀ k,v.ownBlock=some k→¬ S k):Sl w' v xs:=by
 rcases h with h|⟨ad,c,k1,k2,k3,k4⟩
 ·exact .inl h
 ·refine .inr ⟨ad,c,k1,k2,k3,fun i u hu=> ?_⟩
  have hcc:=k4 i u hu
  have hlt:=Am hcc
  rw[C9] at hlt
  rw[hc.cell (by rw[C9];exact hlt) (by rw[C9];exact hv _ (by rw[k1];rfl))];exact hcc
theorem Hx (k:IntKind) (bs:List Int) (n:Nat):(ofK k bs).take n=ofK k (bs.take n):=by simp[ofK]
theorem AP {P:Program} {f:FuncId} {fn:Func} (hf:P.funcs[f]?=some fn) (hname:(fn.name=="runtime.NumGoroutine")=false) (hb:fn.body.isNone=false) (args:Array Value) (w:World):
  Sem.run P (callFunc f args) w=.ok (.enter f args) w:=by
 have h1:¬ fn.name="runtime.NumGoroutine":=by simpa using hname
 have h2:¬ fn.body=none:=by intro h;rw[h] at hb;cases hb
 simp[callFunc,hf,go_sem,h1,h2]
theorem Ch.set (w:World) (p:Addr) (u:Value):Ch (·=p.block) w (w.setCell p u):=(Ch.refl (·=p.block) w).setCell (.inl rfl) u
def Blk (w:World) (g:Nat) (e:TypeId) (xs:List Value):Prop:=w.heap[g]?=some (.cells xs.toArray e (0,0))
theorem Blk.lt {w:World} {g:Nat} {e:TypeId} {xs:List Value} (h:Blk w g e xs):g<w.heap.size:=lt_of_block h
theorem Blk.cell {w:World} {g:Nat} {e:TypeId} {xs:List Value} (h:Blk w g e xs) (i:Nat):w.cell? ⟨g,i,none⟩=xs[i]?:=by
 unfold Blk at h;simp[World.cell?,h]
theorem Blk.free {w:World} {g:Nat} {e:TypeId} {xs:List Value} (h:Blk w g e xs) (i:Nat):w.frozen? ⟨g,i,none⟩=false:=by
 unfold Blk at h;simp[World.frozen?,h]
theorem Blk.set {w:World} {g:Nat} {e:TypeId} {xs:List Value} (h:Blk w g e xs) (i:Nat) (u:Value):Blk (w.setCell ⟨g,i,none⟩ u) g e (xs.set i u):=by
 unfold Blk at *
 have hlt:=lt_of_block h
 have h':w.heap[g]=.cells xs.toArray e (0,0):=by simpa [Array.getElem?_eq_getElem hlt] using h
 show(w.heap.modify g _)[g]?=_
 rw[Array.getElem?_eq_getElem (by simpa using hlt),Array.getElem_modify_self,h']
 simp
theorem Blk.keep {S:Nat→Prop} {w w':World} {g:Nat} {e:TypeId} {xs:List Value} (h:Blk w g e xs) (hc:Ch S w w') (hb:¬ S g):Blk w' g e xs:=by
 unfold Blk at *;rw[hc.block g (lt_of_block h) hb];exact h
theorem Blk.below {B:Nat} {w w':World} {g:Nat} {e:TypeId} {xs:List Value} (h:Blk w g e xs) (hc:Below B w w') (hb:g<B):Blk w' g e xs:=by
 unfold Blk at *;rw[hc.block g hb];exact h
theorem Blk.new (w:World) (xs:List Value) (e:TypeId):Blk (w.alloc (.cells xs.toArray e)) w.heap.size e xs:=heap_alloc_new _ _
theorem Blk.owns {w:World} {g base:Nat} {e:TypeId} {xs:List Value} (h:Blk w g e xs) (hb:base≤g) (hm:xs.length≤maxLen):w.ownsRow base e 1 (.slice (some ⟨g,0,none⟩) xs.length xs.length) xs.length xs:=
 ⟨by simp,.inr ⟨g,xs.length,xs.toArray,rfl,hb,h,Ah _,hm,by simp,by simp⟩⟩
theorem Aw {B:Nat} {S:Nat→Prop} {w w1 w2:World} (h:Below B w w1) (hc:Ch S w1 w2) (hs:B≤w.heap.size) (hb:∀ k,S k→B≤k):Below B w w2:=
 ⟨hc.os.trans h.os,hc.tape.trans h.tape,hc.output.trans h.output,Aj h.size hc.size,fun k hk=> (hc.block k (by have:=h.size;omega) (fun s=> by have:=hb k s;omega)).trans (h.block k hk)⟩
theorem An {B:Nat} {w w1 w2:World} (h:Below B w w1) (hc:Below w1.heap.size w1 w2) (hs:B≤w.heap.size):Below B w w2:=
 h.trans (hc.mono (Aj hs h.size))
structure Sm (w w':World):Prop where
 os:w'.os=w.os
 tape:w'.tape=w.tape
 output:w'.output=w.output
 heap:w'.heap=w.heap
theorem Sm.refl (w:World):Sm w w:=⟨rfl,rfl,rfl,rfl⟩
theorem Sm.drew {w w':World} (h:Sm w w'):Sm w w'.drew:=⟨h.os,h.tape,h.output,h.heap⟩
theorem Sm.drewN {w w':World} (h:Sm w w') (n:Nat):Sm w (w'.drewN n):=⟨h.os,h.tape,h.output,h.heap⟩
theorem Sm.below {w w':World} (h:Sm w w') (B:Nat):Below B w w':=⟨h.os,h.tape,h.output,by rw[h.heap];exact Ah _,fun _ _=> by rw[h.heap]⟩
theorem Sm.ch {w w':World} (h:Sm w w') (S:Nat→Prop):Ch S w w':=⟨h.os,h.tape,h.output,by rw[h.heap];exact Ah _,fun _ _ _=> by rw[h.heap]⟩
theorem Sm.cell {w w':World} (h:Sm w w') (a:Addr):w'.cell? a=w.cell? a:=by simp[World.cell?,h.heap]
theorem Sm.sl {w w':World} (h:Sm w w') {v:Value} {xs:List Value} (k:Sl w v xs):Sl w' v xs:=k.keep (h.ch (fun _=> False)) (fun _ _=> id)
theorem Sm.blk {w w':World} (h:Sm w w') {g:Nat} {e:TypeId} {xs:List Value} (k:Blk w g e xs):Blk w' g e xs:=by
 unfold Blk at *;rw[h.heap];exact k
theorem Sl.nums {w:World} {v:Value} {k:IntKind} {bs:List Int} (h:Sl w v (ofK k bs)):
  ∃ ao c,v=.slice ao bs.length c∧bs.length≤c∧c≤9223372036854775807∧(0<bs.length→∃ b o,ao=some ⟨b,o,none⟩∧b<w.heap.size∧∀ j (hj:j<bs.length),w.cell? ⟨b,o+j,none⟩=some (.int k bs[j])):=by
 obtain⟨ao,c,h1,h2,h3,h4⟩:=h.shape
 rw[AJ] at h1 h2 h4
 refine⟨ao,c,h1,h2,by unfold maxLen at h3;omega,fun h0=> ?_⟩
 obtain⟨b,o,e,hb,hc⟩:=h4 h0
 exact⟨b,o,e,hb,fun j hj=> hc j _ (Hc _ _ _ hj)⟩
def AW (xs:List Value) (o:Nat):List Value→List Value
 | []=> xs
 | v::r=> AW (xs.set o v) (o+1) r
theorem Ct (vs:List Value):∀ (xs:List Value) (o:Nat),o+vs.length≤xs.length→∀ i,(AW xs o vs)[i]?=if o≤i∧i<o+vs.length then vs[i - o]? else xs[i]?:=by
 induction vs with
 | nil=> intro xs o _ i;simp only[AW,List.length_nil];rw[if_neg (by omega)]
 | cons v r ih=>
  intro xs o h i
  simp only[List.length_cons] at h
  simp only[AW,List.length_cons]
  rw[ih (xs.set o v) (o+1) (by rw[List.length_set];omega) i]
  by_cases h1:i=o
  ·subst h1
   rw[if_neg (by omega),if_pos (by omega),Nat.sub_self,List.getElem?_set_self (by omega)];rfl
  ·by_cases h2:o+1≤i∧i<o+1+r.length
   ·rw[if_pos h2,if_pos (by omega),show i - o=(i - (o+1))+1 from by omega,Ac]
   ·rw[if_neg h2,if_neg (by omega),List.getElem?_set_ne (by omega)]
theorem Fu (vs xs:List Value) (h:vs.length=xs.length):AW xs 0 vs=vs:=by
 apply List.ext_getElem?
 intro i
 rw[Ct vs xs 0 (by omega) i]
 by_cases hi:i<vs.length
 ·rw[if_pos (by omega)];rfl
 ·rw[if_neg (by omega),List.getElem?_eq_none (by omega),List.getElem?_eq_none (by omega)]
theorem Blk.setCells {g:Nat} {e:TypeId}:∀ (vs:List Value) (o:Nat) (w:World) (xs:List Value),Blk w g e xs→Blk (w.setCells g o vs) g e (AW xs o vs):=by
 intro vs
 induction vs with
 | nil=> intro o w xs h;exact h
 | cons v r ih=> intro o w xs h;exact ih (o+1) _ _ (h.set o v)
theorem AI (g:Nat):∀ (vs:List Value) (o:Nat) (w:World),Ch (·=g) w (w.setCells g o vs):=by
 intro vs
 induction vs with
 | nil=> intro o w;exact Ch.refl _ _
 | cons v r ih=> intro o w;exact(Ch.set w ⟨g,o,none⟩ v).trans (ih (o+1) _)
theorem Et (g:Nat):∀ (vs:List Value) (o:Nat) (w:World),(w.setCells g o vs).heap.size=w.heap.size:=by
 intro vs
 induction vs with
 | nil=> intro o w;rfl
 | cons v r ih=> intro o w;exact(ih (o+1) _).trans (by simp[World.setCell])
theorem Ao {P:Program} (w:World) {ops:Array Oper} {rest:List Oper} {o:Oper} {a:Act} {Q:Exit→Act→World→Prop} (hgd:o.guard=none) (ty:TypeId) (x y:Operand) (ho:o.op=.store ty x y)
  (g:Nat) (e:TypeId) (xs cells:List Value) (hb:Blk w g e xs) (hx:a.eval x=.pointer (some ⟨g,0,none⟩)) (hy:a.eval y=.agg cells.toArray) (hl:cells.length=xs.length) (hi:(P.info? ty).map (·.size)=some cells.length) (h1:∀ v∈cells,v.oneCell'=true)
  (h:∀ w',Blk w' g e cells→Ch (·=g) w w'→w'.heap.size=w.heap.size→wpList P ops Q rest (a.put o.dst undef) w'):wpList P ops Q (o::rest) a w:=by
 refine wpList_store_mid hgd ty x y ho g 0 cells.toArray hx hy (fun j hj=> ?_) (by simpa using hi) (all_oneCell_toArray h1) ?_
 ·have hj':j<xs.length:=by simp at hj;omega
  rw[hb.cell,hb.free]
  simp[hj']
 ·have:=hb.setCells cells 0
  rw[Fu cells xs hl] at this
  exact h _ this (AI g cells 0 w) (Et g cells 0 w)
theorem AC {P:Program} {fn:Func} {p:Tmp} {ty:TypeId} (h:fn.results=#[.cell p ty]) (tmps:Array Value) (w:World) (g:Nat) (e:TypeId) (xs:List Value) (hp:tmps.getD p undef=.pointer (some ⟨g,0,none⟩)) (hb:Blk w g e xs) (d:TypeDesc)
  (hu:P.underlying ty=some d) (hd:(match d with|.struct _|.array _ _=> true|_=> false)=true) (hi:(P.info? ty).map (·.size)=some xs.length):(results fn tmps).run P w=.ok (.agg xs.toArray) w:=
 results_cell_row h tmps w g e xs.toArray (0,0) d hp hb hu hd (by simpa using hi)
end Go.Proofs.YtgdlfiphihaooaaGreat
namespace Go.Proofs.YtgdlfiphihaooaaGreat
open Go Go.RowKit Go.Sort
section
variable {P:Program} {ops:Array Oper} {md:Region.Mode} {C:World→Prop}
end
def Bh (w:World) (p:Regrown):World:=grow (redrawn w p.d) p.os
theorem AO (w:World) (p:Regrown):Below w.heap.size w (Bh w p):=below_regrown w p.d p.os
theorem GM {w w':World} (h:Below w.heap.size w w'):∃ p:Regrown,w'=Bh w p:=regrown_of_below h
theorem JO (w:World):∃ p:Regrown,({w with drawn:=w.drawn+1}:World)=Bh w p:=GM ⟨rfl,rfl,rfl,Ah _,fun _ _=> rfl⟩
theorem AT {w:World} {a:Addr} {v:Value} (h:w.cell? a=some v):∀ p:Regrown,(Bh w p).cell? a=some v:=fun p=> cell_regrown h p.d p.os
theorem A4 {P:Program} {id:Nat} {Q:Exit→Act→World→Prop} {a:Act} {w:World} {l:List Oper} (hm:P.follows .mixedOrders=true) (hB:Region.lexB .any l.toArray=true)
  (h:wpQuiet P l.toArray (fun w'=> ∃ p:Regrown,w'=Bh w p) (fun a'=> ∀ w',(∃ p:Regrown,w'=Bh w p)→Q .normal a' w') l a):(Code.region id l.toArray true).wp P Q a w:=
 wp_region_quiet (C:=fun w'=> ∃ p:Regrown,w'=Bh w p) hm hB (JO w) (by simpa using h)
theorem AV {P:Program} {f:FuncId} {args:Array Value} {w:World} {p:Regrown} {v:Value}
  (h:Calls P f args (Bh w p) fun e w'=> e=.returned v∧Below (Bh w p).heap.size (Bh w p) w'):Calls P f args (Bh w p) fun e w''=> e=.returned v∧∃ p:Regrown,w''=Bh w p:=
 Calls.regrown_of h
theorem A8 {P:Program} {f:FuncId} {args:Array Value} {w:World} {p:Regrown} {v:Value}
  (h:Calls P f args (Bh w p) fun e w'=> e=.returned v∧w'=Bh w p):Calls P f args (Bh w p) fun e w''=> e=.returned v∧∃ p:Regrown,w''=Bh w p:=
 h.mono fun _ _ ⟨he,hb⟩=> ⟨he,p,hb⟩
section
variable {P:Program} {ops:Array Oper} {md:Region.Mode} {Q:Exit→Act→World→Prop}
end
end Go.Proofs.YtgdlfiphihaooaaGreat
namespace Go.Proofs.YtgdlfiphihaooaaGreat
open Go Go.RowKit
theorem JP (off:Nat):∀ (vs:List Value) (j0:Nat) (cells:Array Value),off+j0+vs.length≤cells.size→
  ((vs.toArray.zipIdx j0).foldl (fun cs (c,j)=> cs.setIfInBounds (off+j) c) cells).toList=cells.toList.take (off+j0) ++ vs ++ cells.toList.drop (off+j0+vs.length):=by
 intro vs
 induction vs with
 | nil=>
  intro j0 cells h
  rw[←Array.foldl_toList]
  simp
 | cons v vs ih=>
  intro j0 cells h
  have h':off+j0+1+vs.length≤cells.size:=by simp at h;omega
  have:=ih (j0+1) (cells.setIfInBounds (off+j0) v) (by simp;omega)
  have e:(((v::vs).toArray.zipIdx j0).foldl (fun cs (c,j)=> cs.setIfInBounds (off+j) c) cells)=((vs.toArray.zipIdx (j0+1)).foldl (fun cs (c,j)=> cs.setIfInBounds (off+j) c) (cells.setIfInBounds (off+j0) v)):=by
   rw[←Array.foldl_toList,←Array.foldl_toList]
   simp[List.zipIdx_cons]
  rw[e,this]
  have hlt:off+j0<cells.toList.length:=by simp;omega
  rw[Array.toList_setIfInBounds,List.length_cons,List.drop_set_of_lt (by omega),show off+(j0+1)=(off+j0)+1 by omega,List.take_succ_eq_append_getElem (by simpa using hlt),List.take_set_of_le (by omega)]
  simp[Nat.add_assoc,Nat.add_comm 1]
theorem Ku (place:Nat→Option (Nat × Nat)) (cells:Array Value) (i off:Nat) (v:Value) (rest:List (Nat × Value)) (hp:place i=some (off,v.cells.size)) (hs:off+v.cells.size≤cells.size):
  Instr.fill place cells ((i,v)::rest)=Instr.fill place (cells.toList.take off ++ v.cells.toList ++ cells.toList.drop (off+v.cells.size)).toArray rest:=by
 have h1:¬ (v.cells.size≠v.cells.size ||decide (off+v.cells.size>cells.size))=true:=by simp;omega
 rw[Instr.fill,hp]
 dsimp only
 rw[if_neg h1]
 congr 1
 rw[←Array.toList_inj,List.toList_toArray]
 have:=JP off v.cells.toList 0 cells (by simpa using hs)
 simpa using this
theorem Fv {P:Program} (w:World) (t:TypeId) (cs:Array Value):(newRow t cs).run P w=.ok ⟨w.heap.size,0,none⟩ (w.alloc (.cells cs t)):=by
 simp[newRow,Result.andThen]
theorem CQ {P:Program} (w:World) (t:TypeId) (v:Value):(newVar t v).run P w=.ok ⟨w.heap.size,0,none⟩ (w.alloc (.cells v.cells t)):=Fv w t v.cells
theorem Ey {P:Program} {t e:TypeId} {n:Nat} {zs:Array Value} (ht:P.underlying t=some (.slice e)) (hs:∀ w,(sizeOf e).run P w=.ok n w) (hz:∀ w,(zeroValue e).run P w=.ok (.agg zs) w) (hn0:0<n) (hn:n≤16777216)
  (cs:List Value) (hcs:cs.length=n) (w:World):(Instr.buildSlice t 1 #[(0,.agg cs.toArray)]).run P w=.ok (.slice (some ⟨w.heap.size,0,none⟩) 1 1) (w.alloc (.cells cs.toArray e)):=by
 have e1:∀ c:Array Value,c.size=n→(Instr.fill (fun i=> some (i* n,n)) c [(0,.agg cs.toArray)])=some cs.toArray:=by
  intro c hc
  have ca:(Value.agg cs.toArray).cells=cs.toArray:=rfl
  rw[Ku _ _ 0 0 (.agg cs.toArray) _ (by rw[ca];simp[hcs]) (by rw[ca];simp[hcs,hc]),ca]
  simp[Instr.fill,hcs,hc]
 have h1:¬ n>2 ^ 24:=by omega
 have h2:¬ n=0:=by omega
 simp[Instr.buildSlice,run_underlying ht,hs,hz,Value.cells,Result.andThen,h1,h2,e1,Fv]
theorem Av {P:Program} (w:World) {ops:Array Oper} {rest:List Oper} {o:Oper} {a:Act} {Q:Exit→Act→World→Prop} (hgd:o.guard=none) (t:TypeId) (ho:o.op=.alloc t) (zs:List Value) (hz:∀ w,(zeroValue t).run P w=.ok (.agg zs.toArray) w)
  (h:∀ w',Blk w' w.heap.size t zs→Below w.heap.size w w'→w'.heap.size=w.heap.size+1→wpList P ops Q rest (a.put o.dst (.pointer (some ⟨w.heap.size,0,none⟩))) w'):wpList P ops Q (o::rest) a w:=by
 refine wpList_plain hgd fun K' hK'=> ?_
 have hrun:(execOp a.eval o).run P w=.ok (.value (.pointer (some ⟨w.heap.size,0,none⟩))) (w.alloc (.cells zs.toArray t)):=by
  simp[execOp,ho,Instr.alloc,hz,Result.andThen,CQ,Value.cells]
 unfold Oper.wp
 rw[hrun]
 exact hK' _ _ (h _ (Blk.new w zs t) ((Below.refl _ _).alloc (Ah _) _) (by simp))
theorem Au {P:Program} (w:World) {ops:Array Oper} {rest:List Oper} {o:Oper} {a:Act} {Q:Exit→Act→World→Prop} (hgd:o.guard=none) (t:TypeId) (x:Operand) (ho:o.op=.box t x) (cs:List Value) (hx:a.eval x=.agg cs.toArray)
  (h:∀ w',Blk w' w.heap.size t cs→Below w.heap.size w w'→w'.heap.size=w.heap.size+1→wpList P ops Q rest (a.put o.dst (.pointer (some ⟨w.heap.size,0,none⟩))) w'):wpList P ops Q (o::rest) a w:=by
 refine wpList_plain hgd fun K' hK'=> ?_
 have hrun:(execOp a.eval o).run P w=.ok (.value (.pointer (some ⟨w.heap.size,0,none⟩))) (w.alloc (.cells cs.toArray t)):=by
  simp[execOp,ho,Instr.box,hx,Result.andThen,CQ,Value.cells]
 unfold Oper.wp
 rw[hrun]
 exact hK' _ _ (h _ (Blk.new w cs t) ((Below.refl _ _).alloc (Ah _) _) (by simp))
theorem Bk {P:Program} (w:World) {ops:Array Oper} {rest:List Oper} {o:Oper} {a:Act} {Q:Exit→Act→World→Prop} (hgd:o.guard=none) (t:TypeId) (x:Operand) (ho:o.op=.buildSlice t 1 #[(0,x)]) {e:TypeId} {n:Nat} {zs:Array Value} (ht:P.underlying t=some (.slice e)) (hs:∀ w,(sizeOf e).run P w=.ok n w) (hz:∀ w,(zeroValue e).run P w=.ok (.agg zs) w) (hn0:0<n) (hn:n≤16777216)
  (cs:List Value) (hcs:cs.length=n) (hx:a.eval x=.agg cs.toArray) (h:∀ w',Blk w' w.heap.size e cs→Below w.heap.size w w'→w'.heap.size=w.heap.size+1→wpList P ops Q rest (a.put o.dst (.slice (some ⟨w.heap.size,0,none⟩) 1 1)) w'):wpList P ops Q (o::rest) a w:=by
 refine wpList_plain hgd fun K' hK'=> ?_
 have hrun:(execOp a.eval o).run P w=.ok (.value (.slice (some ⟨w.heap.size,0,none⟩) 1 1)) (w.alloc (.cells cs.toArray e)):=by
  simp[execOp,ho,hx,Ey ht hs hz hn0 hn cs hcs,Result.andThen]
 unfold Oper.wp
 rw[hrun]
 exact hK' _ _ (h _ (Blk.new w cs e) ((Below.refl _ _).alloc (Ah _) _) (by simp))
theorem As {w:World} {g:Nat} {e:TypeId} {xs:List Value} (h:Blk w g e xs):w.rangeAt g 0 xs:=fun j v hv=> by rw[Nat.zero_add,h.cell];exact hv
theorem BJ {S:Nat→Prop} {w w':World} {b o:Nat} {cs:List Value} (h:w.rangeAt b o cs) (hc:Ch S w w') (hS:¬ S b):w'.rangeAt b o cs:=fun j v hv=> by
 have:=h j v hv
 exact(hc.cell (Am this) hS).trans this
theorem AF {w w':World} {b o:Nat} {cs:List Value} (h:w.rangeAt b o cs) (hb:Below w.heap.size w w'):w'.rangeAt b o cs:=fun j v hv=> by
 have:=h j v hv
 exact(hb.cell (Am this)).trans this
theorem Ap {P:Program} {ops:Array Oper} {rest:List Oper} {op:Oper} {a:Act} {w:World} {Q:Exit→Act→World→Prop} (hgd:Region.wanted op (yielded ops a.tmps)=true) (ty:TypeId) (x:Operand) (ho:op.op=.load ty x)
  (b o:Nat) (hx:a.eval x=.pointer (some ⟨b,o,none⟩)) (cs:List Value) (d:TypeDesc) (hc:w.rangeAt b o cs)
  (hu:P.underlying ty=some d) (hd:d.isRow=true) (hi:(P.info? ty).map (·.size)=some cs.length)
  (h:wpList P ops Q rest (a.put op.dst (.agg cs.toArray)) w):wpList P ops Q (op::rest) a w:=
 wpList_step fun _ hK=> by rw[if_pos hgd];exact wp_load_mid ty x ho b o hx cs d hc hu hd hi (hK _ _ h)
theorem AR {P:Program} {fn:Func} {p u:Tmp} {ty:TypeId} (h:fn.results=#[.cell p ty,.tmp u]) (tmps:Array Value) (w:World) (g:Nat) (e:TypeId) (xs:List Value) (hp:tmps.getD p undef=.pointer (some ⟨g,0,none⟩)) (hb:Blk w g e xs) (d:TypeDesc)
  (hu:P.underlying ty=some d) (hd:d.isRow=true) (hi:(P.info? ty).map (·.size)=some xs.length) (v:Value) (hv:tmps.getD u undef=v):(results fn tmps).run P w=.ok (.tuple #[.agg xs.toArray,v]) w:=by
 rw[results_cell_tmp h,hp,hv]
 have hl:=run_loadVar_mid (P:=P) w g 0 ty xs d (fun j v hv=> by rw[Nat.zero_add,hb.cell];exact hv) hu hd hi
 simp only[asAddr,Sem.run_pure,Result.andThen_ok,hl]
end Go.Proofs.YtgdlfiphihaooaaGreat
namespace Go.Proofs.YtgdlfiphihaooaaGreat
open Go Go.RowKit Go.Sort
section
variable {P:Program} {ops:Array Oper} {md:Region.Mode} {Q:Exit→Act→World→Prop} {S:World→Prop}
def GV:List Nat→Array Bool→Array Bool
 | [],l=> l
 | i::is,l=> GV is (l.setIfInBounds i true)
def Hd (md:Region.Mode) (ops:Array Oper):List Nat→Array Bool→Bool
 | [],_=> true
 | i::is,l=> Region.free md ops l i && (Region.ready md ops l).contains i && Hd md ops is (l.setIfInBounds i true)
def AH (P:Program) (ops:Array Oper) (S:World→Prop):List Nat→(Act→Prop)→Act→Prop
 | [],K,a=> K a
 | i::is,K,a=> ∃ o v,ops[i]?=some o∧YieldsIf P ops S o v a∧AH P ops S is K (a.put o.dst v)
theorem AH.run {i:Nat} {is:List Nat} {o:Oper} {v:Value} {K:Act→Prop} {a:Act} (hi:ops[i]?=some o) (hw:Region.wanted o (yielded ops a.tmps)=true) (hy:∀ w,S w→(execOp a.eval o).run P w=.ok (.value v) w) (h:AH P ops S is K (a.put o.dst v)):AH P ops S (i::is) K a:=⟨o,v,hi,.inl ⟨hw,hy⟩,h⟩
theorem A2 (hsel:Region.noSelect ops=true) (hQ:∀ c a a' w,Q (.panic c) a' w→Q (.panic c) a w) {fuel:Nat} {w:World} (hS:S w):∀ (is:List Nat) (listed:Array Bool) (a:Act),Hd md ops is listed=true→
  AH P ops S is (fun a'=> wpAnyH P md ops Q S fuel (GV is listed) a' w) a→wpAnyH P md ops Q S (is.length+fuel) listed a w
 | [],listed,a,_,h=> by rw[List.length_nil,Nat.zero_add];exact h
 | i::is,listed,a,hB,h=> by
  simp only[Hd,Bool.and_eq_true] at hB
  obtain⟨o,v,hi,hy,h⟩:=h
  rw[List.length_cons,show is.length+1+fuel=is.length+fuel+1 by omega]
  exact wpAnyH_take hi hsel hB.1.1 hB.1.2 (fun c a' w' hh=> hQ c _ _ w' hh) hy hS (A2 hsel hQ hS is _ _ hB.2 h)
def QK (Q:Exit→Act→World→Prop) (K:Act→World→Prop):Exit→Act→World→Prop
 | .normal,a,w=> K a w
 | e,a,w=> Q e a w
theorem QK.normal {K:Act→World→Prop} {a:Act} {w:World} (h:K a w):QK Q K .normal a w:=h
theorem Lt {o:Oper} {a:Act} {K:Act→World→Prop} (r:Result Next) (h:o.upon P a (wpList P ops (QK Q K) []) (QK Q K) r):o.upon P a K Q r:=by
 cases r with
 | ok n w=>
  cases n <;> first|exact h|(simp only[Oper.upon] at h ⊢;exact h)
 | halt x w=> first|exact h|(simp only[Oper.upon] at h ⊢;exact h)
theorem Cc {i:Nat} {o:Oper} {K:Act→World→Prop} {a:Act} {w:World} (hi:ops[i]?=some o) (h:wpList P ops (QK Q K) [o] a w):wpOp P ops Q i K a w:=by
 unfold wpOp
 simp only[hi]
 unfold wpList at h
 split at h
 ·rename_i hw
  rw[if_pos hw]
  refine h.imp (fun h=> Lt _ h) (fun h=> ⟨h.1,?_⟩)
  obtain⟨a',w',h2⟩:=h.2
  exact⟨a',w',h2⟩
 ·rename_i hw
  rw[if_neg hw]
  exact h
theorem Ar (i:Nat) {o:Oper} {fuel:Nat} {listed:Array Bool} {a:Act} {w:World} (hr:Region.ready md ops listed=[i]) (ho:ops[i]?=some o)
  (h:wpList P ops (QK Q (fun a' w'=> S w'∧wpAnyH P md ops Q S fuel (listed.setIfInBounds i true) a' w')) [o] a w):wpAnyH P md ops Q S (fuel+1) listed a w:=
 wpAnyH_all hr (by simp) (fun j hj=> by
   obtain rfl:j=i:=by simpa using hj
   exact Cc ho h)
theorem Cq (i j:Nat) {o p:Oper} {fuel:Nat} {listed:Array Bool} {a:Act} {w:World} (hr:Region.ready md ops listed=[i,j]) (ho:ops[i]?=some o) (hp:ops[j]?=some p)
  (h:wpList P ops (QK Q (fun a' w'=> S w'∧wpAnyH P md ops Q S fuel (listed.setIfInBounds i true) a' w')) [o] a w)
  (k:wpList P ops (QK Q (fun a' w'=> S w'∧wpAnyH P md ops Q S fuel (listed.setIfInBounds j true) a' w')) [p] a w):wpAnyH P md ops Q S (fuel+1) listed a w:=
 wpAnyH_all hr (by simp) (fun n hn=> by
  rcases (show n=i∨n=j by simpa using hn) with rfl|rfl
  ·exact Cc ho h
  ·exact Cc hp k)
end
theorem AA {P:Program} {ev:Operand→Value} {o:Oper} {ty:TypeId} {x:Operand} (ho:o.op=.load ty x) {b off:Nat} (hx:ev x=.pointer (some ⟨b,off,none⟩)) {cs:List Value} {d:TypeDesc} {w:World} (hc:w.rangeAt b off cs)
  (hu:P.underlying ty=some d) (hd:d.isRow=true) (hi:(P.info? ty).map (·.size)=some cs.length):(execOp ev o).run P w=.ok (.value (.agg cs.toArray)) w:=by
 unfold execOp
 simp only[ho,hx,Instr.loadAt,Instr.sureAddr,Sem.run_bind,Sem.run_pure,Result.andThen_ok,run_loadVar_mid w b off ty cs d hc hu hd hi]
theorem AE {Q:Exit→Act→World→Prop}:∀ c a a' w,NoPanic Q (.panic c) a' w→NoPanic Q (.panic c) a w:=fun _ _ _ _ h=> (h:False).elim
theorem Az {P:Program} {id:Nat} {Q:Exit→Act→World→Prop} {a:Act} {w:World} {l:List Oper} (S:World→Prop) (is:List Nat) (fuel:Nat) (hm:P.follows .mixedOrders=true) (hn:l.length=is.length+fuel)
  (hsel:Region.noSelect l.toArray=true) (hB:Hd .any l.toArray is (Array.replicate l.toArray.size false)=true) (hS:S w.drew)
  (h:AH P l.toArray S is (fun a'=> wpAnyH P .any l.toArray (NoPanic Q) S fuel (GV is (Array.replicate l.toArray.size false)) a' w.drew) a):(Code.region id l.toArray true).wp P Q a w:=by
 refine wp_region_noPanic (wp_region_held (S:=S) hm ?_)
 have:=A2 (P:=P) (md:=.any) (Q:=NoPanic Q) hsel AE (fuel:=fuel) hS is _ a hB h
 rw[←show l.toArray.size=is.length+fuel by simpa using hn] at this
 exact this
section
variable {P:Program} {ops:Array Oper} {md:Region.Mode} {Q:Exit→Act→World→Prop} {S:World→Prop} {m:Nat}
def BN (P:Program) (md:Region.Mode) (ops:Array Oper) (Q:Exit→Act→World→Prop) (S:World→Prop) (m:Nat):Nat→Array Bool→Act→World→Prop
 | 0,l,a,w=> Region.ready md ops l=[]∧Q .normal a w
 | f+1,l,a,w=> (Region.ready md ops l=[]→Q .normal a w)∧
  ∀ i∈Region.ready md ops l,wpOp P ops Q i (fun a' w'=> ((l.setIfInBounds i true).getD m true=false→S w')∧BN P md ops Q S m f (l.setIfInBounds i true) a' w') a w
theorem CW:∀ (f:Nat) (l:Array Bool) (a:Act) (w:World),BN P md ops Q S m f l a w→wpAny P md ops Q f l a w
 | 0,_,_,_,h=> h
 | f+1,_,_,_,h=> ⟨h.1,fun i hi=> wpOp_mono (fun a' w' k=> CW f _ a' w' k.2) (h.2 i hi)⟩
def He (md:Region.Mode) (ops:Array Oper) (m i:Nat):Bool:=
 match ops[m]? with
 | some o=> o.after.any (fun e=> Region.binds md e && e.on==i)
 | none=> false
theorem GN {l:Array Bool} {i:Nat} (hi:i∈Region.ready md ops l) (hw:He md ops m i=true):m∉Region.ready md ops l:=fun hm=> by
 obtain⟨hmu,om,hom,hall⟩:=mem_ready.1 hm
 unfold He at hw
 rw[hom] at hw
 simp only[Array.any_eq_true] at hw
 obtain⟨k,hk,hb⟩:=hw
 rw[Bool.and_eq_true,beq_iff_eq] at hb
 have h1:=hall _ (Array.getElem_mem hk) hb.1
 have h0:=(mem_ready.1 hi).1
 rw[hb.2] at h1
 rcases Nat.lt_or_ge i l.size with h|h
 ·simp[h] at h0 h1
  rw[h0] at h1;cases h1
 ·simp[Array.getElem?_eq_none h] at h1
theorem EF {i:Nat} {oi:Oper} {v:Value} (hi:ops[i]?=some oi) (hsel:∀ (j:Nat) (o:Oper) cs b,ops[j]?=some o→o.op≠.select cs b)
  (hQ:∀ c a w,Q (.panic c) (a.put oi.dst v) w→Q (.panic c) a w) (hwm:He md ops m i=true) (him:i≠m):
  ∀ (f:Nat) (l:Array Bool) (a:Act) (w:World),l.getD m true=false→
   (∀ j oj,ops[j]?=some oj→j≠i→l.getD j true=false→(∀ e∈oj.after,Region.binds md e=true→e.on≠i)→oi.apart ops oj=true)→
   i∈Region.ready md ops l→YieldsIf P ops S oi v a→S w→
   BN P md ops Q S m f (l.setIfInBounds i true) (a.put oi.dst v) w→BN P md ops Q S m (f+1) l a w
 | 0,l,a,w,hl,_,hr,hy,hS,H=> by
  refine⟨fun h=> (by rw[h] at hr;cases hr),fun j hj=> ?_⟩
  rcases Nat.decEq j i with hji|hji
  ·have:=ready_mono hj hji
   rw[H.1] at this;cases this
  ·subst hji
   exact hy.wpOp hi hS ⟨fun _=> hS,H⟩
 | f+1,l,a,w,hl,hfree,hr,hy,hS,H=> by
  refine⟨fun h=> (by rw[h] at hr;cases hr),fun j hj=> ?_⟩
  rcases Nat.decEq j i with hji|hji
  rotate_left
  ·subst hji
   exact hy.wpOp hi hS ⟨fun _=> hS,H⟩
  ·have hjm:j≠m:=fun e=> GN hr hwm (e ▸ hj)
   have hnext:=H.2 j (ready_mono hj hji)
   obtain⟨hju,oj,hoj,hall⟩:=mem_ready.1 hj
   have hno:∀ e∈oj.after,Region.binds md e=true→e.on≠i:=fun e he hb heq=> by
    have h1:=hall e he hb
    have h0:=(mem_ready.1 hr).1
    rw[heq] at h1
    rcases Nat.lt_or_ge i l.size with h|h
    ·simp[h] at h0 h1
     rw[h0] at h1;cases h1
    ·simp[Array.getElem?_eq_none h] at h1
   have hput:=wpOp_putIf hoj (hfree j oj hoj hji hju hno) (fun cs b=> hsel i oi cs b hi) (fun cs b=> hsel j oj cs b hoj) hQ hy hnext
   have hl':(l.setIfInBounds j true).getD m true=false:=by rw[getD_set_ne true hjm];exact hl
   have hl2:((l.setIfInBounds i true).setIfInBounds j true).getD m true=false:=by rw[getD_set_ne true hjm,getD_set_ne true him];exact hl
   refine wpOp_mono (fun a' w' k=> ?_) hput
   have hS':=k.2.1 hl2
   refine⟨fun _=> hS',EF hi hsel hQ hwm him f (l.setIfInBounds j true) a' w' hl' (fun k' ok hk hki hun hn=> ?_) (ready_mono hr (Ne.symm hji)) k.1 hS' ?_⟩
   ·refine hfree k' ok hk hki ?_ hn
    by_cases hjk:j=k'
    ·subst hjk;exact hju
    ·rw[getD_set_ne true hjk] at hun;exact hun
   ·rw[Array.setIfInBounds_comm _ _ hji]
    exact k.2.2
def EG (md:Region.Mode) (ops:Array Oper) (m:Nat):List Nat→Array Bool→Bool
 | [],_=> true
 | i::is,l=> Region.free md ops l i && ((Region.ready md ops l).contains i && (He md ops m i && ((i !=m) && (!(l.getD m true) && EG md ops m is (l.setIfInBounds i true)))))
theorem Cd (hsel:Region.noSelect ops=true) (hQ:∀ c a a' w,Q (.panic c) a' w→Q (.panic c) a w) {fuel:Nat} {w:World} (hS:S w):∀ (is:List Nat) (l:Array Bool) (a:Act),EG md ops m is l=true→
  AH P ops S is (fun a'=> BN P md ops Q S m fuel (GV is l) a' w) a→BN P md ops Q S m (is.length+fuel) l a w
 | [],l,a,_,h=> by rw[List.length_nil,Nat.zero_add];exact h
 | i::is,l,a,hB,h=> by
  simp only[EG,Bool.and_eq_true,bne_iff_ne,Bool.not_eq_true'] at hB
  obtain⟨o,v,hi,hy,h⟩:=h
  rw[List.length_cons,show is.length+1+fuel=is.length+fuel+1 by omega]
  exact EF hi (Region.noSelect_spec hsel) (fun c a' w' hh=> hQ c _ _ w' hh) hB.2.2.1 hB.2.2.2.1 _ _ _ _ hB.2.2.2.2.1 (Region.free_spec hi hB.1) (by simpa using hB.2.1) hy hS (Cd hsel hQ hS is _ _ hB.2.2.2.2.2 h)
theorem F9 {rs:List Nat} {f:Nat} {l:Array Bool} {a:Act} {w:World} (hr:Region.ready md ops l=rs) (hne:rs≠[])
  (h:∀ i∈rs,wpOp P ops Q i (fun a' w'=> ((l.setIfInBounds i true).getD m true=false→S w')∧BN P md ops Q S m f (l.setIfInBounds i true) a' w') a w):BN P md ops Q S m (f+1) l a w:=
 ⟨fun h0=> (hne (hr ▸ h0)).elim,hr ▸ h⟩
theorem Bc {l:Array Bool} {a:Act} {w:World} (hr:Region.ready md ops l=[]) (h:Q .normal a w):∀ f,BN P md ops Q S m f l a w
 | 0=> ⟨hr,h⟩
 | _+1=> ⟨fun _=> h,by rw[hr];intro i hi;cases hi⟩
theorem AB (i:Nat) {o:Oper} {f:Nat} {l:Array Bool} {a:Act} {w:World} (hr:Region.ready md ops l=[i]) (ho:ops[i]?=some o)
  (h:wpList P ops (QK Q (fun a' w'=> ((l.setIfInBounds i true).getD m true=false→S w')∧BN P md ops Q S m f (l.setIfInBounds i true) a' w')) [o] a w):BN P md ops Q S m (f+1) l a w:=
 F9 hr (by simp) (fun j hj=> by
   obtain rfl:j=i:=by simpa using hj
   exact Cc ho h)
theorem IR (i j:Nat) {o p:Oper} {f:Nat} {l:Array Bool} {a:Act} {w:World} (hr:Region.ready md ops l=[i,j]) (ho:ops[i]?=some o) (hp:ops[j]?=some p)
  (h:wpList P ops (QK Q (fun a' w'=> ((l.setIfInBounds i true).getD m true=false→S w')∧BN P md ops Q S m f (l.setIfInBounds i true) a' w')) [o] a w)
  (k:wpList P ops (QK Q (fun a' w'=> ((l.setIfInBounds j true).getD m true=false→S w')∧BN P md ops Q S m f (l.setIfInBounds j true) a' w')) [p] a w):BN P md ops Q S m (f+1) l a w:=
 F9 hr (by simp) (fun n hn=> by
  rcases (show n=i∨n=j by simpa using hn) with rfl|rfl
  ·exact Cc ho h
  ·exact Cc hp k)
end
theorem AZ {P:Program} {id:Nat} {Q:Exit→Act→World→Prop} {a:Act} {w:World} {ls:List Oper} (S:World→Prop) (m:Nat) (is:List Nat) (fuel:Nat) (hm:P.follows .mixedOrders=true) (hn:ls.length=is.length+fuel)
  (hsel:Region.noSelect ls.toArray=true) (hB:EG .any ls.toArray m is (Array.replicate ls.toArray.size false)=true) (hS:S w.drew)
  (h:AH P ls.toArray S is (fun a'=> BN P .any ls.toArray (NoPanic Q) S m fuel (GV is (Array.replicate ls.toArray.size false)) a' w.drew) a):(Code.region id ls.toArray true).wp P Q a w:=by
 refine wp_region_noPanic (wp_region_any hm (CW _ _ _ _ (?_:BN P .any ls.toArray (NoPanic Q) S m _ _ _ _)))
 have h2:=Cd (P:=P) (md:=.any) (m:=m) (Q:=NoPanic Q) hsel AE (fuel:=fuel) hS is _ a hB h
 rw[←show ls.toArray.size=is.length+fuel by simpa using hn] at h2
 exact h2
section
variable {P:Program} {ops:Array Oper} {md:Region.Mode} {Q:Exit→Act→World→Prop} {S:World→Prop} {m:Nat}
theorem Fw {i:Nat} {oi:Oper} {v:Value} (hi:ops[i]?=some oi) (hsel:∀ (j:Nat) (o:Oper) cs b,ops[j]?=some o→o.op≠.select cs b)
  (hQ:∀ c a w,Q (.panic c) (a.put oi.dst v) w→Q (.panic c) a w) (him:i≠m):
  ∀ (f:Nat) (l:Array Bool) (a:Act) (w:World),(l.getD m true=false→S w)→
   (∀ j oj,ops[j]?=some oj→j≠i→l.getD j true=false→(∀ e∈oj.after,Region.binds md e=true→e.on≠i)→oi.apart ops oj=true)→
   i∈Region.ready md ops l→YieldsIf P ops (fun _=> True) oi v a→
   BN P md ops Q S m f (l.setIfInBounds i true) (a.put oi.dst v) w→BN P md ops Q S m (f+1) l a w
 | 0,l,a,w,hl,_,hr,hy,H=> by
  refine⟨fun h=> (by rw[h] at hr;cases hr),fun j hj=> ?_⟩
  rcases Nat.decEq j i with hji|hji
  ·have:=ready_mono hj hji
   rw[H.1] at this;cases this
  ·subst hji
   exact hy.wpOp hi trivial ⟨fun h=> hl (by rw[getD_set_ne true him] at h;exact h),H⟩
 | f+1,l,a,w,hl,hfree,hr,hy,H=> by
  refine⟨fun h=> (by rw[h] at hr;cases hr),fun j hj=> ?_⟩
  rcases Nat.decEq j i with hji|hji
  rotate_left
  ·subst hji
   exact hy.wpOp hi trivial ⟨fun h=> hl (by rw[getD_set_ne true him] at h;exact h),H⟩
  ·have hnext:=H.2 j (ready_mono hj hji)
   obtain⟨hju,oj,hoj,hall⟩:=mem_ready.1 hj
   have hno:∀ e∈oj.after,Region.binds md e=true→e.on≠i:=fun e he hb heq=> by
    have h1:=hall e he hb
    have h0:=(mem_ready.1 hr).1
    rw[heq] at h1
    rcases Nat.lt_or_ge i l.size with h|h
    ·simp[h] at h0 h1
     rw[h0] at h1;cases h1
    ·simp[Array.getElem?_eq_none h] at h1
   have hput:=wpOp_putIf hoj (hfree j oj hoj hji hju hno) (fun cs b=> hsel i oi cs b hi) (fun cs b=> hsel j oj cs b hoj) hQ hy hnext
   refine wpOp_mono (fun a' w' k=> ?_) hput
   have hS':(l.setIfInBounds j true).getD m true=false→S w':=fun h=> k.2.1 (by rw[Array.setIfInBounds_comm _ _ (Ne.symm hji),getD_set_ne true him];exact h)
   refine⟨hS',Fw hi hsel hQ him f (l.setIfInBounds j true) a' w' hS' (fun k' ok hk hki hun hn=> ?_) (ready_mono hr (Ne.symm hji)) k.1 ?_⟩
   ·refine hfree k' ok hk hki ?_ hn
    by_cases hjk:j=k'
    ·subst hjk;exact hju
    ·rw[getD_set_ne true hjk] at hun;exact hun
   ·rw[Array.setIfInBounds_comm _ _ hji]
    exact k.2.2
theorem AL (hsel:Region.noSelect ops=true) (hQ:∀ c a a' w,Q (.panic c) a' w→Q (.panic c) a w) {fuel:Nat} {w:World} {l:Array Bool} {a:Act} (hS:l.getD m true=false→S w) (i:Nat)
  (hB:(Region.free md ops l i && ((Region.ready md ops l).contains i && (i !=m)))=true)
  (h:AH P ops (fun _=> True) [i] (fun a'=> BN P md ops Q S m fuel (l.setIfInBounds i true) a' w) a):BN P md ops Q S m (fuel+1) l a w:=by
 simp only[Bool.and_eq_true,bne_iff_ne] at hB
 obtain⟨o,v,hi,hy,h⟩:=h
 exact Fw hi (Region.noSelect_spec hsel) (fun c a' w' hh=> hQ c _ _ w' hh) hB.2.2 _ _ _ _ hS (Region.free_spec hi hB.1) (by simpa using hB.2.1) hy h
end
end Go.Proofs.YtgdlfiphihaooaaGreat

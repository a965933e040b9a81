import Derived.Test.YtgdlfiphihaooaaGreatYq16
set_option linter.unusedSimpArgs false
set_option linter.unusedVariables false
set_option maxRecDepth 100000
set_option maxHeartbeats 8000000
open _root_.List renaming getElem?_toArray→Aa,getElem?_cons_zero→Ab,getElem?_cons_succ→Ac,setIfInBounds_toArray→Ad,set_cons_zero→Ae,set_cons_succ→Af
open _root_.Go.Lib renaming hid→Ag
open _root_.Nat renaming le_refl→Ah,le_trans→Aj,lt_of_lt_of_le→Ak
open _root_.And renaming intro→Ai
open _root_.Go.Act renaming put→Al
namespace Go.Proofs.YtgdlfiphihaooaaGreat
open Go Go.RowKit
theorem GT {P:Program} (w:World) (dT sT ty elem:TypeId) (g o dLen dCap:Nat) (a:Addr) (sLen sCap:Nat) (cur:Array Value) (t:TypeId) (cs:List Value) (sz:Nat)
  (hu:P.underlying dT=some (.slice elem)) (hs:(P.info? elem).map (·.size)=some sz)
  (hg:w.heap[g]?=some (.cells cur t (0,0))) (hn:cs.length=Nat.min sLen dLen* sz)
  (hsrc:∀ j v,cs[j]?=some v→w.cell? (a.add j)=some v) (hfit:o+cs.length≤cur.size) (h1:∀ v∈cs,v.oneCell'=true):
  (Builtin.copy_ #[dT,sT] ty #[.slice (some ⟨g,o,none⟩) dLen dCap,.slice (some a) sLen sCap]).run P w=
   .ok (goInt (Nat.min sLen dLen)) (w.setRow g (cur.toList.take o ++ cs ++ cur.toList.drop (o+cs.length)).toArray):=by
 have hl:=run_loadCells_list (P:=P) w a cs hsrc
 have hst:=run_storeCells_at P g o t cs 0 cur w hg (by simpa using hfit) h1
 cases hq:P.info? elem with
 | none=> simp[hq] at hs
 | some i=>
  have hi:i.size=sz:=by simpa [hq] using hs
  rw[hn] at hl
  simp only[Nat.add_zero] at hst
  simp[Builtin.copy_,run_underlying hu,Builtin.lenOf,Builtin.firstCells,sizeOf,typeInfo,hq,hi,hl,hst]
theorem A6 {P:Program} (w:World) {ops:Array Oper} {rest:List Oper} {o:Oper} {a:Act} {Q:Exit→Act→World→Prop} (hgd:o.guard=none) (d s:Operand) (dT sT:TypeId)
  (ho:o.op=.call {callee:=.builtin .copy,args:=#[d,s],argTypes:=#[dT,sT]}) (elem:TypeId) (hu:P.underlying dT=some (.slice elem)) (sz:Nat) (hsz:(P.info? elem).map (·.size)=some sz)
  (g off dLen dCap:Nat) (hd:a.eval d=.slice (some ⟨g,off,none⟩) dLen dCap) (ad:Addr) (sLen sCap:Nat) (hs:a.eval s=.slice (some ad) sLen sCap)
  (cur:List Value) (t:TypeId) (hg:Blk w g t cur) (cs:List Value) (hn:cs.length=Nat.min sLen dLen* sz) (hsrc:∀ j v,cs[j]?=some v→w.cell? (ad.add j)=some v) (hfit:off+cs.length≤cur.length) (h1:∀ v∈cs,v.oneCell'=true)
  (h:∀ w',Blk w' g t (splice cur off cs)→Ch (·=g) w w'→w'.heap.size=w.heap.size→wpList P ops Q rest (a.put o.dst (goInt (Nat.min sLen dLen))) w'):wpList P ops Q (o::rest) a w:=by
 refine wpList_plain hgd fun K hK=> ?_
 have hrun:=GT (P:=P) w dT sT o.type elem g off dLen dCap ad sLen sCap cur.toArray t cs sz hu hsz hg hn hsrc (by simpa using hfit) h1
 unfold Oper.wp
 simp only[execOp,ho,resolve,invoke,builtin,Sem.run_bind,Sem.run_pure,Result.andThen_ok,List.map_toArray,List.map_cons,List.map_nil,hd,hs,hrun]
 refine hK _ _ (h _ ?_ ⟨rfl,rfl,rfl,by simp[World.setRow],fun k hk hne=> setRow_other w g k _ hne⟩ (by simp[World.setRow]))
 unfold Blk
 have:=setRow_heap w g cur.toArray (cur.take off ++ cs ++ cur.drop (off+cs.length)).toArray t _ hg
 simpa [splice] using this
theorem Eb (L sp X:List Value) (o:Nat) (ho:o≤L.length) (hs:X.length≤sp.length):splice (splice (L ++ sp) (o+X.length) (L.drop o)) o X=(L.take o ++ X ++ L.drop o) ++ sp.drop X.length:=by
 have hd:(L.drop o).length=L.length - o:=List.length_drop
 have hsl:(splice (L ++ sp) (o+X.length) (L.drop o)).length=L.length+sp.length:=by rw[length_splice _ _ _ (by rw[List.length_append];omega),List.length_append]
 have ht:(L.take o).length=o:=by rw[List.length_take];omega
 apply List.ext_getElem?
 intro j
 rw[Cu _ _ _ _ (by rw[hsl];omega),Cu _ _ _ _ (by rw[List.length_append];omega)]
 by_cases h1:j<o
 ·rw[if_pos h1,if_pos (by omega),List.getElem?_append_left (by omega),List.append_assoc,List.append_assoc,List.getElem?_append_left (by omega),List.getElem?_take,if_pos h1]
 ·have eR:((L.take o ++ X ++ L.drop o) ++ sp.drop X.length)[j]?=(X ++ (L.drop o ++ sp.drop X.length))[j - o]?:=by rw[List.append_assoc,List.append_assoc,List.getElem?_append_right (by omega),ht]
  rw[if_neg h1,eR]
  by_cases h2:j<o+X.length
  ·rw[if_pos h2,List.getElem?_append_left (by omega)]
  ·have eQ:(X ++ (L.drop o ++ sp.drop X.length))[j - o]?=(L.drop o ++ sp.drop X.length)[j - o - X.length]?:=List.getElem?_append_right (by omega)
   rw[if_neg h2,if_neg h2,eQ,hd]
   by_cases h3:j<o+X.length+(L.length - o)
   ·rw[if_pos h3,List.getElem?_append_left (by omega)];congr 1;omega
   ·have eP:(L ++ sp)[j]?=sp[j - L.length]?:=List.getElem?_append_right (by omega)
    rw[if_neg h3,eP,List.getElem?_append_right (by omega),hd,List.getElem?_drop];congr 1;omega
theorem EA (L Z X:List Value) (o:Nat) (ho:o≤L.length) (hs:X.length+(L.length - o)≤Z.length):splice (splice (L.take o ++ Z) o X) (o+X.length) (L.drop o)=(L.take o ++ X ++ L.drop o) ++ Z.drop (X.length+(L.length - o)):=by
 have hd:(L.drop o).length=L.length - o:=List.length_drop
 have ht:(L.take o).length=o:=by rw[List.length_take];omega
 have hsl:(splice (L.take o ++ Z) o X).length=o+Z.length:=by rw[length_splice _ _ _ (by rw[List.length_append];omega),List.length_append,ht]
 apply List.ext_getElem?
 intro j
 rw[Cu _ _ _ _ (by rw[hsl];omega),Cu _ _ _ _ (by rw[List.length_append];omega)]
 by_cases h1:j<o
 ·rw[if_pos (by omega),if_pos h1,List.getElem?_append_left (by omega),List.append_assoc,List.append_assoc,List.getElem?_append_left (by omega)]
 ·rw[List.append_assoc (L.take o),List.append_assoc (L.take o)]
  have e1:(L.take o ++ (X ++ L.drop o ++ Z.drop (X.length+(L.length - o))))[j]?=(X ++ L.drop o ++ Z.drop (X.length+(L.length - o)))[j - o]?:=(List.getElem?_append_right (by omega)).trans (by rw[ht])
  rw[e1,List.append_assoc]
  by_cases h2:j<o+X.length
  ·have eS:(X ++ (L.drop o ++ Z.drop (X.length+(L.length - o))))[j - o]?=X[j - o]?:=List.getElem?_append_left (by omega)
   rw[if_pos h2,if_neg h1,if_pos h2,eS]
  ·have eQ:(X ++ (L.drop o ++ Z.drop (X.length+(L.length - o))))[j - o]?=(L.drop o ++ Z.drop (X.length+(L.length - o)))[j - o - X.length]?:=List.getElem?_append_right (by omega)
   rw[if_neg h2,eQ,hd]
   by_cases h3:j<o+X.length+(L.length - o)
   ·rw[if_pos h3,List.getElem?_append_left (by omega)];congr 1;omega
   ·have eP:(L.take o ++ Z)[j]?=Z[j - o]?:=by rw[List.getElem?_append_right (by omega),ht]
    rw[if_neg h3,if_neg h1,if_neg h2,eP,List.getElem?_append_right (by omega),hd,List.getElem?_drop];congr 1;omega
theorem Cb {w:World} {g B n c sz:Nat} {t:TypeId} {L R:List Value} (h:Blk w g t (L ++ R)) (hB:B≤g) (hL:L.length=n* sz) (hc:n≤c) (hm:c≤maxLen) (hl:(L ++ R).length=c* sz):w.ownsRow B t sz (.slice (some ⟨g,0,none⟩) n c) n L:=
 ⟨hL,.inr ⟨g,c,(L ++ R).toArray,rfl,hB,h,hc,hm,by simpa using hl,by simp[←hL]⟩⟩
theorem BT (z:Array Value) (n:Nat):(Builtin.zeroCells z n).toList.length=n* z.size:=by simp[Builtin.zeroCells]
def GU (base:Nat) (ty:TypeId) (sz:Nat) (v:Value) (n:Nat) (L:List Value) (w:World) (e:Ending) (w':World):Prop:=∃ ao c,e=.returned (.slice ao n c)∧w'.ownsRow base ty sz (.slice ao n c) n L∧Ch (fun k=> v.ownBlock=some k) w w'∧((Value.slice ao n c).ownBlock=v.ownBlock∨∀ k,(Value.slice ao n c).ownBlock=some k→w.heap.size≤k)
theorem Io (base vb:Nat) (X L:List Value) (n:Nat) (v:Value) (w:World) (hv:w.ownsRow base 45 14 v n L) (hb:base≤w.heap.size) (hx:Blk w vb 45 X) (hX:X.length=14) (h1:∀ u∈X,u.oneCell'=true) (hl:n≤1000000):
  Calls Tryz.prog 93 #[v,.int .i64 n,.slice (some ⟨vb,0,none⟩) 1 1] w (GU base 45 14 v (n+1) (L ++ X) w):=by
 obtain⟨i0,hi0,hz0,hz1,hz2⟩:=info_parts Tryz.infoRF
 have HI:=Ag (Ai hi0 (Ai hz0 (Ai hz1 hz2)))
 have hcc:∃ ao c,v=.slice ao n c∧n≤c∧c≤maxLen:=by
  obtain⟨_,⟨rfl,hn⟩|⟨g,cap,cur,rfl,_,_,h1,h2,_⟩⟩:=id hv
  ·exact⟨none,0,by rw[hn],by omega,by unfold maxLen;omega⟩
  ·exact⟨_,_,rfl,h1,h2⟩
 obtain⟨ao,c,rfl,hc,hc2⟩:=hcc
 have hc2:c≤9223372036854775807:=by unfold maxLen at hc2;omega
 have HV:=Ag (Ai hv (Ai hb hx))
 have HX:=Ag (Ai hX h1)
 clear hv hb hx hX h1 hi0 hz0 hz1 hz2
 by_cases hcn:c=n
 ·subst hcn
  go_enter Tryz.func93,Tryz.ntmps93
  go_wp2_with (at_builtin;refine wpList_append_own_at w rfl (.tmp 23) (.tmp 24) _ rfl base 45 i0 _ 14 192 Tryz.underlying22 HI.out.1 HI.out.2.1 HI.out.2.2.1 HI.out.2.2.2 rfl (by omega) _ c L rfl HV.out.1 ⟨vb,0,none⟩ 1 1 X rfl (by rw[HX.out.1]) (fun j u hu=> by have h:=As HV.out.2.2 j u hu;rw[Addr.add_lit];exact h) HX.out.2 (by unfold maxLen;omega) (by omega) HV.out.2.1 ?_)
  intro v1 w1 hown hgr _ hob
  obtain⟨ao2,c2,rfl⟩:=AY hown
  have H1:=Ag (Ai hown (Ai (show Ch _ w w1 from⟨hgr.os,hgr.tape,hgr.output,hgr.size,fun k hk hn=> hgr.block k hk (fun e=> hn e.symm)⟩) (show(Value.slice ao2 _ c2).ownBlock=_∨∀ k,(Value.slice ao2 _ c2).ownBlock=some k→w.heap.size≤k from hob.imp id (fun h k hk=> by rw[h] at hk;injection hk with hk;omega))))
  clear hown hgr hob
  go_wp2_with fail
  go_ret
  exact⟨_,_,rfl,H1.out.1,H1.out.2.1,H1.out.2.2⟩
 ·skip
  go_enter Tryz.func93,Tryz.ntmps93
  go_wp2_with (at_builtin;refine wpList_append_own_at w rfl (.tmp 23) (.tmp 24) _ rfl base 45 i0 _ 14 192 Tryz.underlying22 HI.out.1 HI.out.2.1 HI.out.2.2.1 HI.out.2.2.2 rfl (by omega) _ n L rfl HV.out.1 ⟨vb,0,none⟩ 1 1 X rfl (by rw[HX.out.1]) (fun j u hu=> by have h:=As HV.out.2.2 j u hu;rw[Addr.add_lit];exact h) HX.out.2 (by unfold maxLen;omega) (by omega) HV.out.2.1 ?_)
  intro v1 w1 hown hgr _ hob
  obtain⟨ao2,c2,rfl⟩:=AY hown
  have H1:=Ag (Ai hown (Ai (show Ch _ w w1 from⟨hgr.os,hgr.tape,hgr.output,hgr.size,fun k hk hn=> hgr.block k hk (fun e=> hn e.symm)⟩) (show(Value.slice ao2 _ c2).ownBlock=_∨∀ k,(Value.slice ao2 _ c2).ownBlock=some k→w.heap.size≤k from hob.imp id (fun h k hk=> by rw[h] at hk;injection hk with hk;omega))))
  clear hown hgr hob
  go_wp2_with fail
  go_ret
  exact⟨_,_,rfl,H1.out.1,H1.out.2.1,H1.out.2.2⟩
theorem Ip (base vb i:Nat) (X L:List Value) (n:Nat) (v:Value) (w:World) (hv:w.ownsRow base 45 14 v n L) (hb:base≤w.heap.size) (hx:Blk w vb 45 X) (hX:X.length=14) (hoX:∀ u∈X,u.oneCell'=true) (hoL:∀ u∈L,u.oneCell'=true) (hnv:∀ k,v.ownBlock=some k→k≠vb) (hl:n≤1000000) (hi:i<n):
  Calls Tryz.prog 93 #[v,.int .i64 i,.slice (some ⟨vb,0,none⟩) 1 1] w (GU base 45 14 v (n+1) (L.take (i* 14) ++ X ++ L.drop (i* 14)) w):=by
 obtain⟨hL,⟨rfl,h2⟩|⟨g,c,C,rfl,hg,hh,hnc,hcm,hcs,htk⟩⟩:=hv
 ·omega
 have hblk:Blk w g 45 C.toList:=hh
 have hgv:=hnv g rfl
 have hmx:c≤9223372036854775807:=by unfold maxLen at hcm;omega
 obtain⟨sp,hsp⟩:∃ sp,C.toList=L ++ sp:=⟨C.toList.drop (n* 14),by rw[←htk,List.take_append_drop]⟩
 have hspl:n* 14+sp.length=c* 14:=by have:=congrArg List.length hsp;rw[List.length_append,hL] at this;simp at this;omega
 rw[hsp] at hblk
 have hov:∀ la ca,(callFunc 113 #[.slice (some ⟨vb,0,none⟩) 1 1,.slice (some ⟨g,(i+1)* 14,none⟩) la ca]).run Tryz.prog w=.ok (.value (.bool false)) w:=fun la ca=> by
  rw[run_callFunc_extern Tryz.func113 (by kernel_rfl) (by kernel_rfl) (by kernel_rfl) (e:=Extern.SlicesOverlaps.overlaps #[22,22] #[4]) (by kernel_rfl),
   Lib.run_overlaps_apart w 22 4 45 Tryz.underlying22 14 (fun w=> by kernel_rfl) ⟨vb,0,none⟩ ⟨g,(i+1)* 14,none⟩ 1 1 la ca (fun e=> hgv e.symm) _ _ _ _ hx.shape hblk.shape (by rw[List.length_append,hL];omega) (hx.free 0) (hx.free _)]
  rfl
 have HB:=Ag (Ai hblk (Ai hx (Ai hg (Ai hb (Ai hgv hov)))))
 have HSP:=Ag hspl
 have HL:=Ag hL
 have HX:=Ag (Ai hX (Ai hoX hoL))
 have HDO:=Ag (show ∀ u∈L.drop (i* 14),u.oneCell'=true from fun u hu=> hoL u (List.mem_of_mem_drop hu))
 have hne:((i:Int)==(n:Int))=false:=by simp;omega
 have hin:(i:Int)≤(n:Int):=by omega
 have hic:(i:Int)≤(c:Int):=by omega
 have h0i:(0:Int)≤(i:Int):=by omega
 have HXS:=Ag (show ∀ W:World,Blk W vb 45 X→∀ j u,X[j]?=some u→W.cell? (Addr.add ⟨vb,0,none⟩ j)=some u from fun W hW j u hu=> by rw[Addr.add_lit,Nat.zero_add,hW.cell];exact hu)
 have HDR:=Ag (show ∀ (W:World) (Y:List Value),Blk W g 45 Y→(∀ j,j<n* 14→Y[j]?=L[j]?)→∀ j u,(L.drop (i* 14))[j]?=some u→W.cell? (Addr.add ⟨g,i* 14,none⟩ j)=some u from fun W Y hW hY j u hu=> by
  have hj:j<n* 14 - i* 14:=by have:=(List.getElem?_eq_some_iff.1 hu).1;rwa [List.length_drop,HL.out] at this
  rw[Addr.add_lit,hW.cell,hY _ (by omega),←List.getElem?_drop];exact hu)
 have HDL:=Ag (show(L.drop (i* 14)).length=(n - i)* 14 by rw[List.length_drop,HL.out] <;> omega)
 have hgk:n+1≤grownCap w (n+1) c 45:=grownCap_ge w _ _ _
 clear hblk hx hg hb hnv hcm hcs htk hh hsp hov hspl hL hX hoX hoL
 have hw1:IntKind.i64.wrap ((n:Int)+1)=(n:Int)+1:=by rw[IntKind.wrap_i64];omega
 have hwi:IntKind.i64.wrap ((i:Int)+1)=(i:Int)+1:=by rw[IntKind.wrap_i64];omega
 have hi1:(0:Int)≤(i:Int)+1:=by omega
 have hti:((i:Int)+1).toNat=i+1:=by omega
 have hin2:i* 14≤n* 14:=by omega
 by_cases hroom:c<n+1
 ·
  have hrz:(c:Int)<(n:Int)+1:=by omega
  have hkk:(n:Int)+1 - (i:Int)=((n+1 - i:Nat):Int):=by omega
  have hwk:IntKind.i64.wrap ((n:Int)+1 - (i:Int))=((n+1 - i:Nat):Int):=by rw[IntKind.wrap_i64];omega
  obtain⟨i0,hi0,hz0,hzs,hzb⟩:=info_parts Tryz.infoRF
  have hold:(Builtin.firstCells i0.size i (.slice (some ⟨g,0,none⟩) i c)).run Tryz.prog w.drew=.ok (L.take (i* 14)).toArray w.drew:=by
   rw[hzs]
   exact run_firstCells_some w.drew 14 i ⟨g,0,none⟩ i c (L.take (i* 14)) (by rw[List.length_take,HL.out];omega) (fun j u hj=> by
    rw[Addr.add_lit,Nat.zero_add]
    rw[List.getElem?_take] at hj
    split at hj
    ·show w.cell? _=_
     rw[HB.out.1.cell,List.getElem?_append_left (by rw[HL.out];omega)];exact hj
    ·cases hj)
  have hrun:∀ ty,(Builtin.append_ #[22,3] ty #[.slice (some ⟨g,0,none⟩) i c,.int .i64 ((n+1 - i:Nat):Int)]).run Tryz.prog w=
    .ok (.slice (some ⟨w.heap.size,0,none⟩) (n+1) (grownCap w (n+1) c 45)) (w.drew.alloc (.cells ((L.take (i* 14)).toArray ++ Builtin.zeroCells ((.agg (flC ⟨#[]⟩ 0 0 (.slice none 0 0) (.slice none 0 0) (.slice none 0 0) 0 0 0 (tmC 0 0 0 ⟨#[]⟩ (.slice none 0 0))).toArray):Value).cells (n+1 - i) ++ Builtin.zeroCells ((.agg (flC ⟨#[]⟩ 0 0 (.slice none 0 0) (.slice none 0 0) (.slice none 0 0) 0 0 0 (tmC 0 0 0 ⟨#[]⟩ (.slice none 0 0))).toArray):Value).cells (grownCap w (n+1) c 45 - (n+1))) 45)):=fun ty=> by
   have h:=Lib.run_append_grow_zeros w 22 3 ty 45 i0 _ .i64 .i64 Tryz.underlying22 Tryz.underlying3 hi0 hz0 (some ⟨g,0,none⟩) i c _ hold (n+1 - i) (by omega) (by omega) (by omega) (by omega) (by rw[hzb];omega) (by rw[hzb];exact growslice_fits (by omega) (by omega))
   rw[show i+(n+1 - i)=n+1 by omega] at h
   exact h
  obtain⟨G,hG⟩:∃ G,grownCap w (n+1) c 45=G:=⟨_,rfl⟩
  have hGm:G≤9223372036854775807:=by
   have:=grownCap_le_maxLen w (n+1) c 45 (by unfold maxLen;omega)
   rw[hG] at this
   unfold maxLen at this
   omega
  rw[hG] at hrun hgk
  have hcz:((.agg (flC ⟨#[]⟩ 0 0 (.slice none 0 0) (.slice none 0 0) (.slice none 0 0) 0 0 0 (tmC 0 0 0 ⟨#[]⟩ (.slice none 0 0))).toArray):Value).cells.size=14:=rfl
  obtain⟨Z,hZ⟩:∃ Z:List Value,((L.take (i* 14)).toArray ++ Builtin.zeroCells ((.agg (flC ⟨#[]⟩ 0 0 (.slice none 0 0) (.slice none 0 0) (.slice none 0 0) 0 0 0 (tmC 0 0 0 ⟨#[]⟩ (.slice none 0 0))).toArray):Value).cells (n+1 - i) ++ Builtin.zeroCells ((.agg (flC ⟨#[]⟩ 0 0 (.slice none 0 0) (.slice none 0 0) (.slice none 0 0) 0 0 0 (tmC 0 0 0 ⟨#[]⟩ (.slice none 0 0))).toArray):Value).cells (G - (n+1)))=(L.take (i* 14) ++ Z).toArray∧Z.length=(G - i)* 14:=by
   refine⟨(Builtin.zeroCells ((.agg (flC ⟨#[]⟩ 0 0 (.slice none 0 0) (.slice none 0 0) (.slice none 0 0) 0 0 0 (tmC 0 0 0 ⟨#[]⟩ (.slice none 0 0))).toArray):Value).cells (n+1 - i)).toList ++ (Builtin.zeroCells ((.agg (flC ⟨#[]⟩ 0 0 (.slice none 0 0) (.slice none 0 0) (.slice none 0 0) 0 0 0 (tmC 0 0 0 ⟨#[]⟩ (.slice none 0 0))).toArray):Value).cells (G - (n+1))).toList,?_,?_⟩
   ·rw[←Array.toList_inj];simp
   ·rw[List.length_append,BT,BT,hcz];omega
  obtain⟨W1,hW1⟩:∃ W1,w.drew.alloc (.cells (L.take (i* 14) ++ Z).toArray 45)=W1:=⟨_,rfl⟩
  have HZ:=Ag (show ∀ ty,(Builtin.append_ #[22,3] ty #[.slice (some ⟨g,0,none⟩) i c,.int .i64 ((n+1 - i:Nat):Int)]).run Tryz.prog w=.ok (.slice (some ⟨w.heap.size,0,none⟩) (n+1) G) W1 from fun ty=> by rw[hrun ty,hZ.1,hW1])
  have HZL:=Ag hZ.2
  have HA1:=Ag (show Blk W1 w.heap.size 45 (L.take (i* 14) ++ Z)∧Below w.heap.size w W1 from by rw[←hW1];exact⟨Blk.new w.drew _ _,((Below.refl w.heap.size w).drew).alloc (Ah _) _⟩)
  have HT:=Ag (show(L.take (i* 14)).length=i* 14 by rw[List.length_take,HL.out];omega)
  have hGi:(i:Int)≤(G:Int):=by omega
  have hGi1:(i:Int)+1≤(G:Int):=by omega
  have hi1n:(i:Int)+1≤(n:Int)+1:=by omega
  have hci:¬ (c=i):=by omega
  have hGi2:¬ (G=i):=by omega
  have hGi3:¬ (G=i+1):=by omega
  clear hold hrun hG hZ hW1 hi0 hz0 hzs hzb hcz
  go_enter Tryz.func93,Tryz.ntmps93
  go_wp2_with (first
   | (at_builtin;refine Lib.wpList_append_run _ rfl _ _ _ _ rfl _ _ rfl rfl _ _ (HZ.out _) ?_)
   | ((with_reducible refine A6 W1 rfl (.tmp 43) (.tmp 44) 22 22 rfl 45 Tryz.underlying22 14 Tryz.infoFl w.heap.size (i* 14) (n+1 - i) (G - i) rfl ⟨vb,0,none⟩ 1 1 rfl (L.take (i* 14) ++ Z) 45 HA1.out.1 X ?_ ?_ ?_ ?_ ?_)))
  ·rw[show Nat.min 1 (n+1 - i)=1 from Nat.min_eq_left (by omega),HX.out.1]
  ·exact fun j u hu=> HXS.out _ (HB.out.2.1.below HA1.out.2 HB.out.2.1.lt) j u hu
  ·rw[List.length_append,HT.out,HZL.out,HX.out.1];omega
  ·exact HX.out.2.1
  intro w2 hb2 hc2 hs2
  have H2:=Ag (show Blk w2 w.heap.size 45 (splice (L.take (i* 14) ++ Z) (i* 14) X)∧Blk w2 g 45 (L ++ sp)∧Below w.heap.size w w2 from
   ⟨hb2,(HB.out.1.below HA1.out.2 HB.out.1.lt).keep hc2 (fun e=> by have:=HB.out.1.lt;have e:g=w.heap.size:=e;omega),Aw HA1.out.2 hc2 (Ah _) (fun k hk=> by have e:k=w.heap.size:=hk;omega)⟩)
  clear hb2 hc2 hs2
  go_wp2_with fail
  refine Az (fun _=> True) [0,1,2,3,4,5,6,7] 1 (by kernel_rfl) rfl (by kernel_rfl) (by kernel_rfl) trivial ?_
  iterate 8(refine' AH.run ?_ ?_ ?_ ?_;rotate_left 2;(simp only[Aa,Ab,Ac];rfl);rfl;(rintro w' -;go_simp;with_reducible rfl);simp only[Al,Ad,Ae,Af])
  refine' Ar 8 (by kernel_rfl) ?_ ?_;rotate_left;(simp only[Aa,Ab,Ac];rfl)
  refine A6 w2.drew rfl (.tmp 50) (.tmp 53) 22 22 rfl 45 Tryz.underlying22 14 Tryz.infoFl w.heap.size ((i+1)* 14) (n - i) (G - (i+1)) rfl ⟨g,i* 14,none⟩ (n - i) (c - i) rfl _ 45 H2.out.1 (L.drop (i* 14)) ?_ ?_ ?_ HDO.out ?_
  ·rw[HDL.out,show Nat.min (n - i) (n - i)=n - i from Nat.min_self _] <;> omega
  ·exact fun j u hu=> HDR.out w2.drew _ H2.out.2.1 (fun k hk=> by rw[List.getElem?_append_left (by rw[HL.out];exact hk)]) j u hu
  ·rw[length_splice _ _ _ (by rw[List.length_append,HT.out,HZL.out,HX.out.1];omega),List.length_append,HT.out,HZL.out,HDL.out];omega
  intro w3 hb3 hc3 _
  have H3:=Ag (show w3.ownsRow base 45 14 (.slice (some ⟨w.heap.size,0,none⟩) (n+1) G) (n+1) (L.take (i* 14) ++ X ++ L.drop (i* 14))∧Below w.heap.size w w3 from by
   have e:=EA L Z X (i* 14) (by rw[HL.out];omega) (by rw[HX.out.1,HL.out,HZL.out];omega)
   rw[HX.out.1,show i* 14+14=(i+1)* 14 by omega] at e
   rw[e] at hb3
   exact⟨Cb hb3 HB.out.2.2.2.1 (by simp only[List.length_append,List.length_take,List.length_drop,HL.out,HX.out.1];omega) hgk (by unfold maxLen;omega) (by simp only[List.length_append,List.length_take,List.length_drop,HL.out,HX.out.1,HZL.out];omega),
    Aw (H2.out.2.2.drew) hc3 (Ah _) (fun k hk=> by have e:k=w.heap.size:=hk;omega)⟩)
  clear hb3 hc3
  refine QK.normal ⟨trivial,?_⟩
  refine wpAnyH_done (by kernel_rfl) ?_ _
  refine NoPanic.normal ?_
  go_wp2_with fail
  go_ret
  exact⟨_,_,rfl,H3.out.1,Ch.of_below H3.out.2 (Ah _),.inr (fun k hk=> by have e:some w.heap.size=some k:=hk;cases e;exact Ah _)⟩
 ·
  have hrn:n+1≤c:=by omega
  have hrz:¬ (c:Int)<(n:Int)+1:=by omega
  have hrz2:(n:Int)+1≤(c:Int):=by omega
  have hi1c:(i:Int)+1≤(c:Int):=by omega
  have hci:¬ (c=i):=by omega
  have hci1:¬ (c=i+1):=by omega
  have hi1n:(i:Int)+1≤(n:Int)+1:=by omega
  have htn:((n:Int)+1).toNat=n+1:=by omega
  have h0n:(0:Int)≤(n:Int)+1:=by omega
  have hin1:(i:Int)≤(n:Int)+1:=by omega
  have hov:=HB.out.2.2.2.2.2
  clear hroom hgk
  go_enter Tryz.func93,Tryz.ntmps93
  go_wp2_with (simp only[hov])
  refine Az (fun _=> True) [0,1,2,3,4,5,6,7] 1 (by kernel_rfl) rfl (by kernel_rfl) (by kernel_rfl) trivial ?_
  iterate 8(refine' AH.run ?_ ?_ ?_ ?_;rotate_left 2;(simp only[Aa,Ab,Ac];rfl);rfl;(rintro w' -;go_simp;with_reducible rfl);simp only[Al,Ad,Ae,Af])
  refine' Ar 8 (by kernel_rfl) ?_ ?_;rotate_left;(simp only[Aa,Ab,Ac];rfl)
  refine A6 w.drew rfl (.tmp 73) (.tmp 76) 22 22 rfl 45 Tryz.underlying22 14 Tryz.infoFl g ((i+1)* 14) (n - i) (c - (i+1)) rfl ⟨g,i* 14,none⟩ (n+1 - i) (c - i) rfl _ 45 HB.out.1 (L.drop (i* 14)) ?_ ?_ ?_ HDO.out ?_
  ·rw[HDL.out,show Nat.min (n+1 - i) (n - i)=n - i from Nat.min_eq_right (by omega)] <;> omega
  ·exact fun j u hu=> HDR.out w.drew _ HB.out.1 (fun k hk=> by rw[List.getElem?_append_left (by rw[HL.out];exact hk)]) j u hu
  ·rw[List.length_append,HDL.out,HL.out,HSP.out];omega
  intro w2 hb2 hc2 hs2
  have H2:=Ag (show Blk w2 g 45 (splice (L ++ sp) ((i+1)* 14) (L.drop (i* 14)))∧Blk w2 vb 45 X∧Ch (·=g) w w2 from
   ⟨hb2,(show Blk w.drew vb 45 X from HB.out.2.1).keep hc2 (fun e=> HB.out.2.2.2.2.1 e.symm),(Ch.refl (·=g) w).drew.trans hc2⟩)
  clear hb2 hc2 hs2 hov
  refine QK.normal ⟨trivial,?_⟩
  refine wpAnyH_done (by kernel_rfl) ?_ _
  refine NoPanic.normal ?_
  go_wp2_with ((with_reducible refine A6 w2 rfl (.tmp 80) (.tmp 81) 22 22 rfl 45 Tryz.underlying22 14 Tryz.infoFl g (i* 14) (n+1 - i) (c - i) rfl ⟨vb,0,none⟩ 1 1 rfl _ 45 H2.out.1 X ?_ ?_ ?_ ?_ ?_))
  ·rw[show Nat.min 1 (n+1 - i)=1 from Nat.min_eq_left (by omega),HX.out.1]
  ·exact fun j u hu=> HXS.out _ H2.out.2.1 j u hu
  ·rw[length_splice _ _ _ (by rw[List.length_append,HDL.out,HL.out,HSP.out];omega),List.length_append,HL.out,HSP.out,HX.out.1];omega
  ·exact HX.out.2.1
  intro w3 hb3 hc3 _
  have H3:=Ag (show w3.ownsRow base 45 14 (.slice (some ⟨g,0,none⟩) (n+1) c) (n+1) (L.take (i* 14) ++ X ++ L.drop (i* 14))∧Ch (·=g) w w3 from by
   have e:=Eb L sp X (i* 14) (by rw[HL.out];omega) (by rw[HX.out.1];have:=HSP.out;omega)
   rw[HX.out.1,show i* 14+14=(i+1)* 14 by omega] at e
   rw[e] at hb3
   exact⟨Cb hb3 HB.out.2.2.1 (by simp only[List.length_append,List.length_take,List.length_drop,HL.out,HX.out.1];omega) hrn (by unfold maxLen;omega) (by have:=HSP.out;simp only[List.length_append,List.length_take,List.length_drop,HL.out,HX.out.1];omega),H2.out.2.2.trans hc3⟩)
  clear hb3 hc3
  go_wp2_with fail
  go_ret
  exact⟨_,_,rfl,H3.out.1,H3.out.2.mono (fun k hk=> by have e:k=g:=hk;rw[e];rfl),.inl rfl⟩
theorem Iq (base vb:Nat) (X L:List Value) (n:Nat) (v:Value) (w:World) (hv:w.ownsRow base 49 3 v n L) (hb:base≤w.heap.size) (hx:Blk w vb 49 X) (hX:X.length=3) (h1:∀ u∈X,u.oneCell'=true) (hl:n≤1000000):
  Calls Tryz.prog 95 #[v,.int .i64 n,.slice (some ⟨vb,0,none⟩) 1 1] w (GU base 49 3 v (n+1) (L ++ X) w):=by
 obtain⟨i0,hi0,hz0,hz1,hz2⟩:=info_parts Tryz.infoRI
 have HI:=Ag (Ai hi0 (Ai hz0 (Ai hz1 hz2)))
 have hcc:∃ ao c,v=.slice ao n c∧n≤c∧c≤maxLen:=by
  obtain⟨_,⟨rfl,hn⟩|⟨g,cap,cur,rfl,_,_,h1,h2,_⟩⟩:=id hv
  ·exact⟨none,0,by rw[hn],by omega,by unfold maxLen;omega⟩
  ·exact⟨_,_,rfl,h1,h2⟩
 obtain⟨ao,c,rfl,hc,hc2⟩:=hcc
 have hc2:c≤9223372036854775807:=by unfold maxLen at hc2;omega
 have HV:=Ag (Ai hv (Ai hb hx))
 have HX:=Ag (Ai hX h1)
 clear hv hb hx hX h1 hi0 hz0 hz1 hz2
 by_cases hcn:c=n
 ·subst hcn
  go_enter Tryz.func95,Tryz.ntmps95
  go_wp2_with (at_builtin;refine wpList_append_own_at w rfl (.tmp 23) (.tmp 24) _ rfl base 49 i0 _ 3 40 Tryz.underlying23 HI.out.1 HI.out.2.1 HI.out.2.2.1 HI.out.2.2.2 rfl (by omega) _ c L rfl HV.out.1 ⟨vb,0,none⟩ 1 1 X rfl (by rw[HX.out.1]) (fun j u hu=> by have h:=As HV.out.2.2 j u hu;rw[Addr.add_lit];exact h) HX.out.2 (by unfold maxLen;omega) (by omega) HV.out.2.1 ?_)
  intro v1 w1 hown hgr _ hob
  obtain⟨ao2,c2,rfl⟩:=AY hown
  have H1:=Ag (Ai hown (Ai (show Ch _ w w1 from⟨hgr.os,hgr.tape,hgr.output,hgr.size,fun k hk hn=> hgr.block k hk (fun e=> hn e.symm)⟩) (show(Value.slice ao2 _ c2).ownBlock=_∨∀ k,(Value.slice ao2 _ c2).ownBlock=some k→w.heap.size≤k from hob.imp id (fun h k hk=> by rw[h] at hk;injection hk with hk;omega))))
  clear hown hgr hob
  go_wp2_with fail
  go_ret
  exact⟨_,_,rfl,H1.out.1,H1.out.2.1,H1.out.2.2⟩
 ·skip
  go_enter Tryz.func95,Tryz.ntmps95
  go_wp2_with (at_builtin;refine wpList_append_own_at w rfl (.tmp 23) (.tmp 24) _ rfl base 49 i0 _ 3 40 Tryz.underlying23 HI.out.1 HI.out.2.1 HI.out.2.2.1 HI.out.2.2.2 rfl (by omega) _ n L rfl HV.out.1 ⟨vb,0,none⟩ 1 1 X rfl (by rw[HX.out.1]) (fun j u hu=> by have h:=As HV.out.2.2 j u hu;rw[Addr.add_lit];exact h) HX.out.2 (by unfold maxLen;omega) (by omega) HV.out.2.1 ?_)
  intro v1 w1 hown hgr _ hob
  obtain⟨ao2,c2,rfl⟩:=AY hown
  have H1:=Ag (Ai hown (Ai (show Ch _ w w1 from⟨hgr.os,hgr.tape,hgr.output,hgr.size,fun k hk hn=> hgr.block k hk (fun e=> hn e.symm)⟩) (show(Value.slice ao2 _ c2).ownBlock=_∨∀ k,(Value.slice ao2 _ c2).ownBlock=some k→w.heap.size≤k from hob.imp id (fun h k hk=> by rw[h] at hk;injection hk with hk;omega))))
  clear hown hgr hob
  go_wp2_with fail
  go_ret
  exact⟨_,_,rfl,H1.out.1,H1.out.2.1,H1.out.2.2⟩
theorem Ir (base vb i:Nat) (X L:List Value) (n:Nat) (v:Value) (w:World) (hv:w.ownsRow base 49 3 v n L) (hb:base≤w.heap.size) (hx:Blk w vb 49 X) (hX:X.length=3) (hoX:∀ u∈X,u.oneCell'=true) (hoL:∀ u∈L,u.oneCell'=true) (hnv:∀ k,v.ownBlock=some k→k≠vb) (hl:n≤1000000) (hi:i<n):
  Calls Tryz.prog 95 #[v,.int .i64 i,.slice (some ⟨vb,0,none⟩) 1 1] w (GU base 49 3 v (n+1) (L.take (i* 3) ++ X ++ L.drop (i* 3)) w):=by
 obtain⟨hL,⟨rfl,h2⟩|⟨g,c,C,rfl,hg,hh,hnc,hcm,hcs,htk⟩⟩:=hv
 ·omega
 have hblk:Blk w g 49 C.toList:=hh
 have hgv:=hnv g rfl
 have hmx:c≤9223372036854775807:=by unfold maxLen at hcm;omega
 obtain⟨sp,hsp⟩:∃ sp,C.toList=L ++ sp:=⟨C.toList.drop (n* 3),by rw[←htk,List.take_append_drop]⟩
 have hspl:n* 3+sp.length=c* 3:=by have:=congrArg List.length hsp;rw[List.length_append,hL] at this;simp at this;omega
 rw[hsp] at hblk
 have hov:∀ la ca,(callFunc 115 #[.slice (some ⟨vb,0,none⟩) 1 1,.slice (some ⟨g,(i+1)* 3,none⟩) la ca]).run Tryz.prog w=.ok (.value (.bool false)) w:=fun la ca=> by
  rw[run_callFunc_extern Tryz.func115 (by kernel_rfl) (by kernel_rfl) (by kernel_rfl) (e:=Extern.SlicesOverlaps.overlaps #[23,23] #[4]) (by kernel_rfl),
   Lib.run_overlaps_apart w 23 4 49 Tryz.underlying23 3 (fun w=> by kernel_rfl) ⟨vb,0,none⟩ ⟨g,(i+1)* 3,none⟩ 1 1 la ca (fun e=> hgv e.symm) _ _ _ _ hx.shape hblk.shape (by rw[List.length_append,hL];omega) (hx.free 0) (hx.free _)]
  rfl
 have HB:=Ag (Ai hblk (Ai hx (Ai hg (Ai hb (Ai hgv hov)))))
 have HSP:=Ag hspl
 have HL:=Ag hL
 have HX:=Ag (Ai hX (Ai hoX hoL))
 have HDO:=Ag (show ∀ u∈L.drop (i* 3),u.oneCell'=true from fun u hu=> hoL u (List.mem_of_mem_drop hu))
 have hne:((i:Int)==(n:Int))=false:=by simp;omega
 have hin:(i:Int)≤(n:Int):=by omega
 have hic:(i:Int)≤(c:Int):=by omega
 have h0i:(0:Int)≤(i:Int):=by omega
 have HXS:=Ag (show ∀ W:World,Blk W vb 49 X→∀ j u,X[j]?=some u→W.cell? (Addr.add ⟨vb,0,none⟩ j)=some u from fun W hW j u hu=> by rw[Addr.add_lit,Nat.zero_add,hW.cell];exact hu)
 have HDR:=Ag (show ∀ (W:World) (Y:List Value),Blk W g 49 Y→(∀ j,j<n* 3→Y[j]?=L[j]?)→∀ j u,(L.drop (i* 3))[j]?=some u→W.cell? (Addr.add ⟨g,i* 3,none⟩ j)=some u from fun W Y hW hY j u hu=> by
  have hj:j<n* 3 - i* 3:=by have:=(List.getElem?_eq_some_iff.1 hu).1;rwa [List.length_drop,HL.out] at this
  rw[Addr.add_lit,hW.cell,hY _ (by omega),←List.getElem?_drop];exact hu)
 have HDL:=Ag (show(L.drop (i* 3)).length=(n - i)* 3 by rw[List.length_drop,HL.out] <;> omega)
 have hgk:n+1≤grownCap w (n+1) c 49:=grownCap_ge w _ _ _
 clear hblk hx hg hb hnv hcm hcs htk hh hsp hov hspl hL hX hoX hoL
 have hw1:IntKind.i64.wrap ((n:Int)+1)=(n:Int)+1:=by rw[IntKind.wrap_i64];omega
 have hwi:IntKind.i64.wrap ((i:Int)+1)=(i:Int)+1:=by rw[IntKind.wrap_i64];omega
 have hi1:(0:Int)≤(i:Int)+1:=by omega
 have hti:((i:Int)+1).toNat=i+1:=by omega
 have hin2:i* 3≤n* 3:=by omega
 by_cases hroom:c<n+1
 ·
  have hrz:(c:Int)<(n:Int)+1:=by omega
  have hkk:(n:Int)+1 - (i:Int)=((n+1 - i:Nat):Int):=by omega
  have hwk:IntKind.i64.wrap ((n:Int)+1 - (i:Int))=((n+1 - i:Nat):Int):=by rw[IntKind.wrap_i64];omega
  obtain⟨i0,hi0,hz0,hzs,hzb⟩:=info_parts Tryz.infoRI
  have hold:(Builtin.firstCells i0.size i (.slice (some ⟨g,0,none⟩) i c)).run Tryz.prog w.drew=.ok (L.take (i* 3)).toArray w.drew:=by
   rw[hzs]
   exact run_firstCells_some w.drew 3 i ⟨g,0,none⟩ i c (L.take (i* 3)) (by rw[List.length_take,HL.out];omega) (fun j u hj=> by
    rw[Addr.add_lit,Nat.zero_add]
    rw[List.getElem?_take] at hj
    split at hj
    ·show w.cell? _=_
     rw[HB.out.1.cell,List.getElem?_append_left (by rw[HL.out];omega)];exact hj
    ·cases hj)
  have hrun:∀ ty,(Builtin.append_ #[23,3] ty #[.slice (some ⟨g,0,none⟩) i c,.int .i64 ((n+1 - i:Nat):Int)]).run Tryz.prog w=
    .ok (.slice (some ⟨w.heap.size,0,none⟩) (n+1) (grownCap w (n+1) c 49)) (w.drew.alloc (.cells ((L.take (i* 3)).toArray ++ Builtin.zeroCells ((.agg (ciC 0 0 (.slice none 0 0)).toArray):Value).cells (n+1 - i) ++ Builtin.zeroCells ((.agg (ciC 0 0 (.slice none 0 0)).toArray):Value).cells (grownCap w (n+1) c 49 - (n+1))) 49)):=fun ty=> by
   have h:=Lib.run_append_grow_zeros w 23 3 ty 49 i0 _ .i64 .i64 Tryz.underlying23 Tryz.underlying3 hi0 hz0 (some ⟨g,0,none⟩) i c _ hold (n+1 - i) (by omega) (by omega) (by omega) (by omega) (by rw[hzb];omega) (by rw[hzb];exact growslice_fits (by omega) (by omega))
   rw[show i+(n+1 - i)=n+1 by omega] at h
   exact h
  obtain⟨G,hG⟩:∃ G,grownCap w (n+1) c 49=G:=⟨_,rfl⟩
  have hGm:G≤9223372036854775807:=by
   have:=grownCap_le_maxLen w (n+1) c 49 (by unfold maxLen;omega)
   rw[hG] at this
   unfold maxLen at this
   omega
  rw[hG] at hrun hgk
  have hcz:((.agg (ciC 0 0 (.slice none 0 0)).toArray):Value).cells.size=3:=rfl
  obtain⟨Z,hZ⟩:∃ Z:List Value,((L.take (i* 3)).toArray ++ Builtin.zeroCells ((.agg (ciC 0 0 (.slice none 0 0)).toArray):Value).cells (n+1 - i) ++ Builtin.zeroCells ((.agg (ciC 0 0 (.slice none 0 0)).toArray):Value).cells (G - (n+1)))=(L.take (i* 3) ++ Z).toArray∧Z.length=(G - i)* 3:=by
   refine⟨(Builtin.zeroCells ((.agg (ciC 0 0 (.slice none 0 0)).toArray):Value).cells (n+1 - i)).toList ++ (Builtin.zeroCells ((.agg (ciC 0 0 (.slice none 0 0)).toArray):Value).cells (G - (n+1))).toList,?_,?_⟩
   ·rw[←Array.toList_inj];simp
   ·rw[List.length_append,BT,BT,hcz];omega
  obtain⟨W1,hW1⟩:∃ W1,w.drew.alloc (.cells (L.take (i* 3) ++ Z).toArray 49)=W1:=⟨_,rfl⟩
  have HZ:=Ag (show ∀ ty,(Builtin.append_ #[23,3] ty #[.slice (some ⟨g,0,none⟩) i c,.int .i64 ((n+1 - i:Nat):Int)]).run Tryz.prog w=.ok (.slice (some ⟨w.heap.size,0,none⟩) (n+1) G) W1 from fun ty=> by rw[hrun ty,hZ.1,hW1])
  have HZL:=Ag hZ.2
  have HA1:=Ag (show Blk W1 w.heap.size 49 (L.take (i* 3) ++ Z)∧Below w.heap.size w W1 from by rw[←hW1];exact⟨Blk.new w.drew _ _,((Below.refl w.heap.size w).drew).alloc (Ah _) _⟩)
  have HT:=Ag (show(L.take (i* 3)).length=i* 3 by rw[List.length_take,HL.out];omega)
  have hGi:(i:Int)≤(G:Int):=by omega
  have hGi1:(i:Int)+1≤(G:Int):=by omega
  have hi1n:(i:Int)+1≤(n:Int)+1:=by omega
  have hci:¬ (c=i):=by omega
  have hGi2:¬ (G=i):=by omega
  have hGi3:¬ (G=i+1):=by omega
  clear hold hrun hG hZ hW1 hi0 hz0 hzs hzb hcz
  go_enter Tryz.func95,Tryz.ntmps95
  go_wp2_with (first
   | (at_builtin;refine Lib.wpList_append_run _ rfl _ _ _ _ rfl _ _ rfl rfl _ _ (HZ.out _) ?_)
   | ((with_reducible refine A6 W1 rfl (.tmp 43) (.tmp 44) 23 23 rfl 49 Tryz.underlying23 3 Tryz.infoCi w.heap.size (i* 3) (n+1 - i) (G - i) rfl ⟨vb,0,none⟩ 1 1 rfl (L.take (i* 3) ++ Z) 49 HA1.out.1 X ?_ ?_ ?_ ?_ ?_)))
  ·rw[show Nat.min 1 (n+1 - i)=1 from Nat.min_eq_left (by omega),HX.out.1]
  ·exact fun j u hu=> HXS.out _ (HB.out.2.1.below HA1.out.2 HB.out.2.1.lt) j u hu
  ·rw[List.length_append,HT.out,HZL.out,HX.out.1];omega
  ·exact HX.out.2.1
  intro w2 hb2 hc2 hs2
  have H2:=Ag (show Blk w2 w.heap.size 49 (splice (L.take (i* 3) ++ Z) (i* 3) X)∧Blk w2 g 49 (L ++ sp)∧Below w.heap.size w w2 from
   ⟨hb2,(HB.out.1.below HA1.out.2 HB.out.1.lt).keep hc2 (fun e=> by have:=HB.out.1.lt;have e:g=w.heap.size:=e;omega),Aw HA1.out.2 hc2 (Ah _) (fun k hk=> by have e:k=w.heap.size:=hk;omega)⟩)
  clear hb2 hc2 hs2
  go_wp2_with fail
  refine Az (fun _=> True) [0,1,2,3,4,5,6,7] 1 (by kernel_rfl) rfl (by kernel_rfl) (by kernel_rfl) trivial ?_
  iterate 8(refine' AH.run ?_ ?_ ?_ ?_;rotate_left 2;(simp only[Aa,Ab,Ac];rfl);rfl;(rintro w' -;go_simp;with_reducible rfl);simp only[Al,Ad,Ae,Af])
  refine' Ar 8 (by kernel_rfl) ?_ ?_;rotate_left;(simp only[Aa,Ab,Ac];rfl)
  refine A6 w2.drew rfl (.tmp 50) (.tmp 53) 23 23 rfl 49 Tryz.underlying23 3 Tryz.infoCi w.heap.size ((i+1)* 3) (n - i) (G - (i+1)) rfl ⟨g,i* 3,none⟩ (n - i) (c - i) rfl _ 49 H2.out.1 (L.drop (i* 3)) ?_ ?_ ?_ HDO.out ?_
  ·rw[HDL.out,show Nat.min (n - i) (n - i)=n - i from Nat.min_self _] <;> omega
  ·exact fun j u hu=> HDR.out w2.drew _ H2.out.2.1 (fun k hk=> by rw[List.getElem?_append_left (by rw[HL.out];exact hk)]) j u hu
  ·rw[length_splice _ _ _ (by rw[List.length_append,HT.out,HZL.out,HX.out.1];omega),List.length_append,HT.out,HZL.out,HDL.out];omega
  intro w3 hb3 hc3 _
  have H3:=Ag (show w3.ownsRow base 49 3 (.slice (some ⟨w.heap.size,0,none⟩) (n+1) G) (n+1) (L.take (i* 3) ++ X ++ L.drop (i* 3))∧Below w.heap.size w w3 from by
   have e:=EA L Z X (i* 3) (by rw[HL.out];omega) (by rw[HX.out.1,HL.out,HZL.out];omega)
   rw[HX.out.1,show i* 3+3=(i+1)* 3 by omega] at e
   rw[e] at hb3
   exact⟨Cb hb3 HB.out.2.2.2.1 (by simp only[List.length_append,List.length_take,List.length_drop,HL.out,HX.out.1];omega) hgk (by unfold maxLen;omega) (by simp only[List.length_append,List.length_take,List.length_drop,HL.out,HX.out.1,HZL.out];omega),
    Aw (H2.out.2.2.drew) hc3 (Ah _) (fun k hk=> by have e:k=w.heap.size:=hk;omega)⟩)
  clear hb3 hc3
  refine QK.normal ⟨trivial,?_⟩
  refine wpAnyH_done (by kernel_rfl) ?_ _
  refine NoPanic.normal ?_
  go_wp2_with fail
  go_ret
  exact⟨_,_,rfl,H3.out.1,Ch.of_below H3.out.2 (Ah _),.inr (fun k hk=> by have e:some w.heap.size=some k:=hk;cases e;exact Ah _)⟩
 ·
  have hrn:n+1≤c:=by omega
  have hrz:¬ (c:Int)<(n:Int)+1:=by omega
  have hrz2:(n:Int)+1≤(c:Int):=by omega
  have hi1c:(i:Int)+1≤(c:Int):=by omega
  have hci:¬ (c=i):=by omega
  have hci1:¬ (c=i+1):=by omega
  have hi1n:(i:Int)+1≤(n:Int)+1:=by omega
  have htn:((n:Int)+1).toNat=n+1:=by omega
  have h0n:(0:Int)≤(n:Int)+1:=by omega
  have hin1:(i:Int)≤(n:Int)+1:=by omega
  have hov:=HB.out.2.2.2.2.2
  clear hroom hgk
  go_enter Tryz.func95,Tryz.ntmps95
  go_wp2_with (simp only[hov])
  refine Az (fun _=> True) [0,1,2,3,4,5,6,7] 1 (by kernel_rfl) rfl (by kernel_rfl) (by kernel_rfl) trivial ?_
  iterate 8(refine' AH.run ?_ ?_ ?_ ?_;rotate_left 2;(simp only[Aa,Ab,Ac];rfl);rfl;(rintro w' -;go_simp;with_reducible rfl);simp only[Al,Ad,Ae,Af])
  refine' Ar 8 (by kernel_rfl) ?_ ?_;rotate_left;(simp only[Aa,Ab,Ac];rfl)
  refine A6 w.drew rfl (.tmp 73) (.tmp 76) 23 23 rfl 49 Tryz.underlying23 3 Tryz.infoCi g ((i+1)* 3) (n - i) (c - (i+1)) rfl ⟨g,i* 3,none⟩ (n+1 - i) (c - i) rfl _ 49 HB.out.1 (L.drop (i* 3)) ?_ ?_ ?_ HDO.out ?_
  ·rw[HDL.out,show Nat.min (n+1 - i) (n - i)=n - i from Nat.min_eq_right (by omega)] <;> omega
  ·exact fun j u hu=> HDR.out w.drew _ HB.out.1 (fun k hk=> by rw[List.getElem?_append_left (by rw[HL.out];exact hk)]) j u hu
  ·rw[List.length_append,HDL.out,HL.out,HSP.out];omega
  intro w2 hb2 hc2 hs2
  have H2:=Ag (show Blk w2 g 49 (splice (L ++ sp) ((i+1)* 3) (L.drop (i* 3)))∧Blk w2 vb 49 X∧Ch (·=g) w w2 from
   ⟨hb2,(show Blk w.drew vb 49 X from HB.out.2.1).keep hc2 (fun e=> HB.out.2.2.2.2.1 e.symm),(Ch.refl (·=g) w).drew.trans hc2⟩)
  clear hb2 hc2 hs2 hov
  refine QK.normal ⟨trivial,?_⟩
  refine wpAnyH_done (by kernel_rfl) ?_ _
  refine NoPanic.normal ?_
  go_wp2_with ((with_reducible refine A6 w2 rfl (.tmp 80) (.tmp 81) 23 23 rfl 49 Tryz.underlying23 3 Tryz.infoCi g (i* 3) (n+1 - i) (c - i) rfl ⟨vb,0,none⟩ 1 1 rfl _ 49 H2.out.1 X ?_ ?_ ?_ ?_ ?_))
  ·rw[show Nat.min 1 (n+1 - i)=1 from Nat.min_eq_left (by omega),HX.out.1]
  ·exact fun j u hu=> HXS.out _ H2.out.2.1 j u hu
  ·rw[length_splice _ _ _ (by rw[List.length_append,HDL.out,HL.out,HSP.out];omega),List.length_append,HL.out,HSP.out,HX.out.1];omega
  ·exact HX.out.2.1
  intro w3 hb3 hc3 _
  have H3:=Ag (show w3.ownsRow base 49 3 (.slice (some ⟨g,0,none⟩) (n+1) c) (n+1) (L.take (i* 3) ++ X ++ L.drop (i* 3))∧Ch (·=g) w w3 from by
   have e:=Eb L sp X (i* 3) (by rw[HL.out];omega) (by rw[HX.out.1];have:=HSP.out;omega)
   rw[HX.out.1,show i* 3+3=(i+1)* 3 by omega] at e
   rw[e] at hb3
   exact⟨Cb hb3 HB.out.2.2.1 (by simp only[List.length_append,List.length_take,List.length_drop,HL.out,HX.out.1];omega) hrn (by unfold maxLen;omega) (by have:=HSP.out;simp only[List.length_append,List.length_take,List.length_drop,HL.out,HX.out.1];omega),H2.out.2.2.trans hc3⟩)
  clear hb3 hc3
  go_wp2_with fail
  go_ret
  exact⟨_,_,rfl,H3.out.1,H3.out.2.mono (fun k hk=> by have e:k=g:=hk;rw[e];rfl),.inl rfl⟩
theorem Is (base vb:Nat) (X L:List Value) (n:Nat) (v:Value) (w:World) (hv:w.ownsRow base 3 1 v n L) (hb:base≤w.heap.size) (hx:Blk w vb 3 X) (hX:X.length=1) (h1:∀ u∈X,u.oneCell'=true) (hl:n≤1000000):
  Calls Tryz.prog 97 #[v,.int .i64 n,.slice (some ⟨vb,0,none⟩) 1 1] w (GU base 3 1 v (n+1) (L ++ X) w):=by
 obtain⟨i0,hi0,hz0,hz1,hz2⟩:=info_parts Tryz.infoI
 have HI:=Ag (Ai hi0 (Ai hz0 (Ai hz1 hz2)))
 have hcc:∃ ao c,v=.slice ao n c∧n≤c∧c≤maxLen:=by
  obtain⟨_,⟨rfl,hn⟩|⟨g,cap,cur,rfl,_,_,h1,h2,_⟩⟩:=id hv
  ·exact⟨none,0,by rw[hn],by omega,by unfold maxLen;omega⟩
  ·exact⟨_,_,rfl,h1,h2⟩
 obtain⟨ao,c,rfl,hc,hc2⟩:=hcc
 have hc2:c≤9223372036854775807:=by unfold maxLen at hc2;omega
 have HV:=Ag (Ai hv (Ai hb hx))
 have HX:=Ag (Ai hX h1)
 clear hv hb hx hX h1 hi0 hz0 hz1 hz2
 by_cases hcn:c=n
 ·subst hcn
  go_enter Tryz.func97,Tryz.ntmps97
  go_wp2_with (at_builtin;refine wpList_append_own_at w rfl (.tmp 23) (.tmp 24) _ rfl base 3 i0 _ 1 8 Tryz.underlying40 HI.out.1 HI.out.2.1 HI.out.2.2.1 HI.out.2.2.2 rfl (by omega) _ c L rfl HV.out.1 ⟨vb,0,none⟩ 1 1 X rfl (by rw[HX.out.1]) (fun j u hu=> by have h:=As HV.out.2.2 j u hu;rw[Addr.add_lit];exact h) HX.out.2 (by unfold maxLen;omega) (by omega) HV.out.2.1 ?_)
  intro v1 w1 hown hgr _ hob
  obtain⟨ao2,c2,rfl⟩:=AY hown
  have H1:=Ag (Ai hown (Ai (show Ch _ w w1 from⟨hgr.os,hgr.tape,hgr.output,hgr.size,fun k hk hn=> hgr.block k hk (fun e=> hn e.symm)⟩) (show(Value.slice ao2 _ c2).ownBlock=_∨∀ k,(Value.slice ao2 _ c2).ownBlock=some k→w.heap.size≤k from hob.imp id (fun h k hk=> by rw[h] at hk;injection hk with hk;omega))))
  clear hown hgr hob
  go_wp2_with fail
  go_ret
  exact⟨_,_,rfl,H1.out.1,H1.out.2.1,H1.out.2.2⟩
 ·skip
  go_enter Tryz.func97,Tryz.ntmps97
  go_wp2_with (at_builtin;refine wpList_append_own_at w rfl (.tmp 23) (.tmp 24) _ rfl base 3 i0 _ 1 8 Tryz.underlying40 HI.out.1 HI.out.2.1 HI.out.2.2.1 HI.out.2.2.2 rfl (by omega) _ n L rfl HV.out.1 ⟨vb,0,none⟩ 1 1 X rfl (by rw[HX.out.1]) (fun j u hu=> by have h:=As HV.out.2.2 j u hu;rw[Addr.add_lit];exact h) HX.out.2 (by unfold maxLen;omega) (by omega) HV.out.2.1 ?_)
  intro v1 w1 hown hgr _ hob
  obtain⟨ao2,c2,rfl⟩:=AY hown
  have H1:=Ag (Ai hown (Ai (show Ch _ w w1 from⟨hgr.os,hgr.tape,hgr.output,hgr.size,fun k hk hn=> hgr.block k hk (fun e=> hn e.symm)⟩) (show(Value.slice ao2 _ c2).ownBlock=_∨∀ k,(Value.slice ao2 _ c2).ownBlock=some k→w.heap.size≤k from hob.imp id (fun h k hk=> by rw[h] at hk;injection hk with hk;omega))))
  clear hown hgr hob
  go_wp2_with fail
  go_ret
  exact⟨_,_,rfl,H1.out.1,H1.out.2.1,H1.out.2.2⟩
theorem It (base vb i:Nat) (X L:List Value) (n:Nat) (v:Value) (w:World) (hv:w.ownsRow base 3 1 v n L) (hb:base≤w.heap.size) (hx:Blk w vb 3 X) (hX:X.length=1) (hoX:∀ u∈X,u.oneCell'=true) (hoL:∀ u∈L,u.oneCell'=true) (hnv:∀ k,v.ownBlock=some k→k≠vb) (hl:n≤1000000) (hi:i<n):
  Calls Tryz.prog 97 #[v,.int .i64 i,.slice (some ⟨vb,0,none⟩) 1 1] w (GU base 3 1 v (n+1) (L.take (i) ++ X ++ L.drop (i)) w):=by
 obtain⟨hL,⟨rfl,h2⟩|⟨g,c,C,rfl,hg,hh,hnc,hcm,hcs,htk⟩⟩:=hv
 ·omega
 rw[Nat.mul_one] at hcs htk hL
 have hblk:Blk w g 3 C.toList:=hh
 have hgv:=hnv g rfl
 have hmx:c≤9223372036854775807:=by unfold maxLen at hcm;omega
 obtain⟨sp,hsp⟩:∃ sp,C.toList=L ++ sp:=⟨C.toList.drop (n),by rw[←htk,List.take_append_drop]⟩
 have hspl:n+sp.length=c:=by have:=congrArg List.length hsp;rw[List.length_append,hL] at this;simp at this;omega
 rw[hsp] at hblk
 have hov:∀ la ca,(callFunc 119 #[.slice (some ⟨vb,0,none⟩) 1 1,.slice (some ⟨g,(i+1),none⟩) la ca]).run Tryz.prog w=.ok (.value (.bool false)) w:=fun la ca=> by
  rw[run_callFunc_extern Tryz.func119 (by kernel_rfl) (by kernel_rfl) (by kernel_rfl) (e:=Extern.SlicesOverlaps.overlaps #[40,40] #[4]) (by kernel_rfl),
   Lib.run_overlaps_apart w 40 4 3 Tryz.underlying40 1 (fun w=> by kernel_rfl) ⟨vb,0,none⟩ ⟨g,(i+1),none⟩ 1 1 la ca (fun e=> hgv e.symm) _ _ _ _ hx.shape hblk.shape (by rw[List.length_append,hL];omega) (hx.free 0) (hx.free _)]
  rfl
 have HB:=Ag (Ai hblk (Ai hx (Ai hg (Ai hb (Ai hgv hov)))))
 have HSP:=Ag hspl
 have HL:=Ag hL
 have HX:=Ag (Ai hX (Ai hoX hoL))
 have HDO:=Ag (show ∀ u∈L.drop (i),u.oneCell'=true from fun u hu=> hoL u (List.mem_of_mem_drop hu))
 have hne:((i:Int)==(n:Int))=false:=by simp;omega
 have hin:(i:Int)≤(n:Int):=by omega
 have hic:(i:Int)≤(c:Int):=by omega
 have h0i:(0:Int)≤(i:Int):=by omega
 have HXS:=Ag (show ∀ W:World,Blk W vb 3 X→∀ j u,X[j]?=some u→W.cell? (Addr.add ⟨vb,0,none⟩ j)=some u from fun W hW j u hu=> by rw[Addr.add_lit,Nat.zero_add,hW.cell];exact hu)
 have HDR:=Ag (show ∀ (W:World) (Y:List Value),Blk W g 3 Y→(∀ j,j<n→Y[j]?=L[j]?)→∀ j u,(L.drop (i))[j]?=some u→W.cell? (Addr.add ⟨g,i,none⟩ j)=some u from fun W Y hW hY j u hu=> by
  have hj:j<n - i:=by have:=(List.getElem?_eq_some_iff.1 hu).1;rwa [List.length_drop,HL.out] at this
  rw[Addr.add_lit,hW.cell,hY _ (by omega),←List.getElem?_drop];exact hu)
 have HDL:=Ag (show(L.drop (i)).length=(n - i) by rw[List.length_drop,HL.out] <;> omega)
 have hgk:n+1≤grownCap w (n+1) c 3:=grownCap_ge w _ _ _
 clear hblk hx hg hb hnv hcm hcs htk hh hsp hov hspl hL hX hoX hoL
 have hw1:IntKind.i64.wrap ((n:Int)+1)=(n:Int)+1:=by rw[IntKind.wrap_i64];omega
 have hwi:IntKind.i64.wrap ((i:Int)+1)=(i:Int)+1:=by rw[IntKind.wrap_i64];omega
 have hi1:(0:Int)≤(i:Int)+1:=by omega
 have hti:((i:Int)+1).toNat=i+1:=by omega
 have hin2:i≤n:=by omega
 by_cases hroom:c<n+1
 ·
  have hrz:(c:Int)<(n:Int)+1:=by omega
  have hkk:(n:Int)+1 - (i:Int)=((n+1 - i:Nat):Int):=by omega
  have hwk:IntKind.i64.wrap ((n:Int)+1 - (i:Int))=((n+1 - i:Nat):Int):=by rw[IntKind.wrap_i64];omega
  obtain⟨i0,hi0,hz0,hzs,hzb⟩:=info_parts Tryz.infoI
  have hold:(Builtin.firstCells i0.size i (.slice (some ⟨g,0,none⟩) i c)).run Tryz.prog w.drew=.ok (L.take (i)).toArray w.drew:=by
   rw[hzs]
   exact run_firstCells_some w.drew 1 i ⟨g,0,none⟩ i c (L.take (i)) (by rw[List.length_take,HL.out];omega) (fun j u hj=> by
    rw[Addr.add_lit,Nat.zero_add]
    rw[List.getElem?_take] at hj
    split at hj
    ·show w.cell? _=_
     rw[HB.out.1.cell,List.getElem?_append_left (by rw[HL.out];omega)];exact hj
    ·cases hj)
  have hrun:∀ ty,(Builtin.append_ #[40,3] ty #[.slice (some ⟨g,0,none⟩) i c,.int .i64 ((n+1 - i:Nat):Int)]).run Tryz.prog w=
    .ok (.slice (some ⟨w.heap.size,0,none⟩) (n+1) (grownCap w (n+1) c 3)) (w.drew.alloc (.cells ((L.take (i)).toArray ++ Builtin.zeroCells ((.int .i64 0):Value).cells (n+1 - i) ++ Builtin.zeroCells ((.int .i64 0):Value).cells (grownCap w (n+1) c 3 - (n+1))) 3)):=fun ty=> by
   have h:=Lib.run_append_grow_zeros w 40 3 ty 3 i0 _ .i64 .i64 Tryz.underlying40 Tryz.underlying3 hi0 hz0 (some ⟨g,0,none⟩) i c _ hold (n+1 - i) (by omega) (by omega) (by omega) (by omega) (by rw[hzb];omega) (by rw[hzb];exact growslice_fits (by omega) (by omega))
   rw[show i+(n+1 - i)=n+1 by omega] at h
   exact h
  obtain⟨G,hG⟩:∃ G,grownCap w (n+1) c 3=G:=⟨_,rfl⟩
  have hGm:G≤9223372036854775807:=by
   have:=grownCap_le_maxLen w (n+1) c 3 (by unfold maxLen;omega)
   rw[hG] at this
   unfold maxLen at this
   omega
  rw[hG] at hrun hgk
  have hcz:((.int .i64 0):Value).cells.size=1:=rfl
  obtain⟨Z,hZ⟩:∃ Z:List Value,((L.take (i)).toArray ++ Builtin.zeroCells ((.int .i64 0):Value).cells (n+1 - i) ++ Builtin.zeroCells ((.int .i64 0):Value).cells (G - (n+1)))=(L.take (i) ++ Z).toArray∧Z.length=(G - i):=by
   refine⟨(Builtin.zeroCells ((.int .i64 0):Value).cells (n+1 - i)).toList ++ (Builtin.zeroCells ((.int .i64 0):Value).cells (G - (n+1))).toList,?_,?_⟩
   ·rw[←Array.toList_inj];simp
   ·rw[List.length_append,BT,BT,hcz];omega
  obtain⟨W1,hW1⟩:∃ W1,w.drew.alloc (.cells (L.take (i) ++ Z).toArray 3)=W1:=⟨_,rfl⟩
  have HZ:=Ag (show ∀ ty,(Builtin.append_ #[40,3] ty #[.slice (some ⟨g,0,none⟩) i c,.int .i64 ((n+1 - i:Nat):Int)]).run Tryz.prog w=.ok (.slice (some ⟨w.heap.size,0,none⟩) (n+1) G) W1 from fun ty=> by rw[hrun ty,hZ.1,hW1])
  have HZL:=Ag hZ.2
  have HA1:=Ag (show Blk W1 w.heap.size 3 (L.take (i) ++ Z)∧Below w.heap.size w W1 from by rw[←hW1];exact⟨Blk.new w.drew _ _,((Below.refl w.heap.size w).drew).alloc (Ah _) _⟩)
  have HT:=Ag (show(L.take (i)).length=i by rw[List.length_take,HL.out];omega)
  have hGi:(i:Int)≤(G:Int):=by omega
  have hGi1:(i:Int)+1≤(G:Int):=by omega
  have hi1n:(i:Int)+1≤(n:Int)+1:=by omega
  have hci:¬ (c=i):=by omega
  have hGi2:¬ (G=i):=by omega
  have hGi3:¬ (G=i+1):=by omega
  clear hold hrun hG hZ hW1 hi0 hz0 hzs hzb hcz
  go_enter Tryz.func97,Tryz.ntmps97
  go_wp2_with (first
   | (at_builtin;refine Lib.wpList_append_run _ rfl _ _ _ _ rfl _ _ rfl rfl _ _ (HZ.out _) ?_)
   | ((with_reducible refine A6 W1 rfl (.tmp 43) (.tmp 44) 40 40 rfl 3 Tryz.underlying40 1 Tryz.sizeInt1 w.heap.size (i) (n+1 - i) (G - i) rfl ⟨vb,0,none⟩ 1 1 rfl (L.take (i) ++ Z) 3 HA1.out.1 X ?_ ?_ ?_ ?_ ?_)))
  ·rw[show Nat.min 1 (n+1 - i)=1 from Nat.min_eq_left (by omega),HX.out.1]
  ·exact fun j u hu=> HXS.out _ (HB.out.2.1.below HA1.out.2 HB.out.2.1.lt) j u hu
  ·rw[List.length_append,HT.out,HZL.out,HX.out.1];omega
  ·exact HX.out.2.1
  intro w2 hb2 hc2 hs2
  have H2:=Ag (show Blk w2 w.heap.size 3 (splice (L.take (i) ++ Z) (i) X)∧Blk w2 g 3 (L ++ sp)∧Below w.heap.size w w2 from
   ⟨hb2,(HB.out.1.below HA1.out.2 HB.out.1.lt).keep hc2 (fun e=> by have:=HB.out.1.lt;have e:g=w.heap.size:=e;omega),Aw HA1.out.2 hc2 (Ah _) (fun k hk=> by have e:k=w.heap.size:=hk;omega)⟩)
  clear hb2 hc2 hs2
  go_wp2_with fail
  refine Az (fun _=> True) [0,1,2,3,4,5,6,7] 1 (by kernel_rfl) rfl (by kernel_rfl) (by kernel_rfl) trivial ?_
  iterate 8(refine' AH.run ?_ ?_ ?_ ?_;rotate_left 2;(simp only[Aa,Ab,Ac];rfl);rfl;(rintro w' -;go_simp;with_reducible rfl);simp only[Al,Ad,Ae,Af])
  refine' Ar 8 (by kernel_rfl) ?_ ?_;rotate_left;(simp only[Aa,Ab,Ac];rfl)
  refine A6 w2.drew rfl (.tmp 50) (.tmp 53) 40 40 rfl 3 Tryz.underlying40 1 Tryz.sizeInt1 w.heap.size ((i+1)) (n - i) (G - (i+1)) rfl ⟨g,i,none⟩ (n - i) (c - i) rfl _ 3 H2.out.1 (L.drop (i)) ?_ ?_ ?_ HDO.out ?_
  ·rw[HDL.out,show Nat.min (n - i) (n - i)=n - i from Nat.min_self _] <;> omega
  ·exact fun j u hu=> HDR.out w2.drew _ H2.out.2.1 (fun k hk=> by rw[List.getElem?_append_left (by rw[HL.out];exact hk)]) j u hu
  ·rw[length_splice _ _ _ (by rw[List.length_append,HT.out,HZL.out,HX.out.1];omega),List.length_append,HT.out,HZL.out,HDL.out];omega
  intro w3 hb3 hc3 _
  have H3:=Ag (show w3.ownsRow base 3 1 (.slice (some ⟨w.heap.size,0,none⟩) (n+1) G) (n+1) (L.take (i) ++ X ++ L.drop (i))∧Below w.heap.size w w3 from by
   have e:=EA L Z X (i) (by rw[HL.out];omega) (by rw[HX.out.1,HL.out,HZL.out];omega)
   rw[HX.out.1,show i+1=(i+1) by omega] at e
   rw[e] at hb3
   exact⟨Cb hb3 HB.out.2.2.2.1 (by simp only[List.length_append,List.length_take,List.length_drop,HL.out,HX.out.1];omega) hgk (by unfold maxLen;omega) (by simp only[List.length_append,List.length_take,List.length_drop,HL.out,HX.out.1,HZL.out];omega),
    Aw (H2.out.2.2.drew) hc3 (Ah _) (fun k hk=> by have e:k=w.heap.size:=hk;omega)⟩)
  clear hb3 hc3
  refine QK.normal ⟨trivial,?_⟩
  refine wpAnyH_done (by kernel_rfl) ?_ _
  refine NoPanic.normal ?_
  go_wp2_with fail
  go_ret
  exact⟨_,_,rfl,H3.out.1,Ch.of_below H3.out.2 (Ah _),.inr (fun k hk=> by have e:some w.heap.size=some k:=hk;cases e;exact Ah _)⟩
 ·
  have hrn:n+1≤c:=by omega
  have hrz:¬ (c:Int)<(n:Int)+1:=by omega
  have hrz2:(n:Int)+1≤(c:Int):=by omega
  have hi1c:(i:Int)+1≤(c:Int):=by omega
  have hci:¬ (c=i):=by omega
  have hci1:¬ (c=i+1):=by omega
  have hi1n:(i:Int)+1≤(n:Int)+1:=by omega
  have htn:((n:Int)+1).toNat=n+1:=by omega
  have h0n:(0:Int)≤(n:Int)+1:=by omega
  have hin1:(i:Int)≤(n:Int)+1:=by omega
  have hov:=HB.out.2.2.2.2.2
  clear hroom hgk
  go_enter Tryz.func97,Tryz.ntmps97
  go_wp2_with (simp only[hov])
  refine Az (fun _=> True) [0,1,2,3,4,5,6,7] 1 (by kernel_rfl) rfl (by kernel_rfl) (by kernel_rfl) trivial ?_
  iterate 8(refine' AH.run ?_ ?_ ?_ ?_;rotate_left 2;(simp only[Aa,Ab,Ac];rfl);rfl;(rintro w' -;go_simp;with_reducible rfl);simp only[Al,Ad,Ae,Af])
  refine' Ar 8 (by kernel_rfl) ?_ ?_;rotate_left;(simp only[Aa,Ab,Ac];rfl)
  refine A6 w.drew rfl (.tmp 73) (.tmp 76) 40 40 rfl 3 Tryz.underlying40 1 Tryz.sizeInt1 g ((i+1)) (n - i) (c - (i+1)) rfl ⟨g,i,none⟩ (n+1 - i) (c - i) rfl _ 3 HB.out.1 (L.drop (i)) ?_ ?_ ?_ HDO.out ?_
  ·rw[HDL.out,show Nat.min (n+1 - i) (n - i)=n - i from Nat.min_eq_right (by omega)] <;> omega
  ·exact fun j u hu=> HDR.out w.drew _ HB.out.1 (fun k hk=> by rw[List.getElem?_append_left (by rw[HL.out];exact hk)]) j u hu
  ·rw[List.length_append,HDL.out,HL.out,HSP.out];omega
  intro w2 hb2 hc2 hs2
  have H2:=Ag (show Blk w2 g 3 (splice (L ++ sp) ((i+1)) (L.drop (i)))∧Blk w2 vb 3 X∧Ch (·=g) w w2 from
   ⟨hb2,(show Blk w.drew vb 3 X from HB.out.2.1).keep hc2 (fun e=> HB.out.2.2.2.2.1 e.symm),(Ch.refl (·=g) w).drew.trans hc2⟩)
  clear hb2 hc2 hs2 hov
  refine QK.normal ⟨trivial,?_⟩
  refine wpAnyH_done (by kernel_rfl) ?_ _
  refine NoPanic.normal ?_
  go_wp2_with ((with_reducible refine A6 w2 rfl (.tmp 80) (.tmp 81) 40 40 rfl 3 Tryz.underlying40 1 Tryz.sizeInt1 g (i) (n+1 - i) (c - i) rfl ⟨vb,0,none⟩ 1 1 rfl _ 3 H2.out.1 X ?_ ?_ ?_ ?_ ?_))
  ·rw[show Nat.min 1 (n+1 - i)=1 from Nat.min_eq_left (by omega),HX.out.1]
  ·exact fun j u hu=> HXS.out _ H2.out.2.1 j u hu
  ·rw[length_splice _ _ _ (by rw[List.length_append,HDL.out,HL.out,HSP.out];omega),List.length_append,HL.out,HSP.out,HX.out.1];omega
  ·exact HX.out.2.1
  intro w3 hb3 hc3 _
  have H3:=Ag (show w3.ownsRow base 3 1 (.slice (some ⟨g,0,none⟩) (n+1) c) (n+1) (L.take (i) ++ X ++ L.drop (i))∧Ch (·=g) w w3 from by
   have e:=Eb L sp X (i) (by rw[HL.out];omega) (by rw[HX.out.1];have:=HSP.out;omega)
   rw[HX.out.1,show i+1=(i+1) by omega] at e
   rw[e] at hb3
   exact⟨Cb hb3 HB.out.2.2.1 (by simp only[List.length_append,List.length_take,List.length_drop,HL.out,HX.out.1];omega) hrn (by unfold maxLen;omega) (by have:=HSP.out;simp only[List.length_append,List.length_take,List.length_drop,HL.out,HX.out.1];omega),H2.out.2.2.trans hc3⟩)
  clear hb3 hc3
  go_wp2_with fail
  go_ret
  exact⟨_,_,rfl,H3.out.1,H3.out.2.mono (fun k hk=> by have e:k=g:=hk;rw[e];rfl),.inl rfl⟩
end Go.Proofs.YtgdlfiphihaooaaGreat

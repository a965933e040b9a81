import Derived.Test.YtgdlfiphihaooaaGreatYs9
set_option linter.unusedSimpArgs false
set_option linter.unusedVariables false
set_option maxRecDepth 100000
set_option maxHeartbeats 8000000
open _root_.List renaming getElem?_toArray→Aa,getElem?_cons_zero→Ab,getElem?_cons_succ→Ac,setIfInBounds_toArray→Ad,set_cons_zero→Ae,set_cons_succ→Af
open _root_.Go.Lib renaming hid→Ag
open _root_.Nat renaming le_refl→Ah,le_trans→Aj,lt_of_lt_of_le→Ak
open _root_.And renaming intro→Ai
open _root_.Go.Act renaming put→Al
namespace Go.Proofs.YtgdlfiphihaooaaGreat
open Go Go.RowKit
theorem GS {P:Program} (w:World) (dT sT ty elem:TypeId) (g o dLen dCap:Nat) (a:Addr) (sLen sCap:Nat) (cur:Array Value) (t:TypeId) (cs:List Value) (sz:Nat)
  (hu:P.underlying dT=some (.slice elem)) (hs:(P.info? elem).map (·.size)=some sz)
  (hg:w.heap[g]?=some (.cells cur t (0,0))) (hn:cs.length=Nat.min sLen dLen* sz)
  (hsrc:∀ j v,cs[j]?=some v→w.cell? (a.add j)=some v) (hfit:o+cs.length≤cur.size) (h1:∀ v∈cs,v.oneCell'=true):
  (Builtin.copy_ #[dT,sT] ty #[.slice (some ⟨g,o,none⟩) dLen dCap,.slice (some a) sLen sCap]).run P w=
   .ok (goInt (Nat.min sLen dLen)) (w.setRow g (cur.toList.take o ++ cs ++ cur.toList.drop (o+cs.length)).toArray):=by
 have hl:=run_loadCells_list (P:=P) w a cs hsrc
 have hst:=run_storeCells_at P g o t cs 0 cur w hg (by simpa using hfit) h1
 cases hq:P.info? elem with
 | none=> simp[hq] at hs
 | some i=>
  have hi:i.size=sz:=by simpa [hq] using hs
  rw[hn] at hl
  simp only[Nat.add_zero] at hst
  simp[Builtin.copy_,run_underlying hu,Builtin.lenOf,Builtin.firstCells,sizeOf,typeInfo,hq,hi,hl,hst]
theorem A5 {P:Program} (w:World) {ops:Array Oper} {rest:List Oper} {o:Oper} {a:Act} {Q:Exit→Act→World→Prop} (hgd:o.guard=none) (d s:Operand) (dT sT:TypeId)
  (ho:o.op=.call {callee:=.builtin .copy,args:=#[d,s],argTypes:=#[dT,sT]}) (elem:TypeId) (hu:P.underlying dT=some (.slice elem)) (sz:Nat) (hsz:(P.info? elem).map (·.size)=some sz)
  (g off dLen dCap:Nat) (hd:a.eval d=.slice (some ⟨g,off,none⟩) dLen dCap) (ad:Addr) (sLen sCap:Nat) (hs:a.eval s=.slice (some ad) sLen sCap)
  (cur:List Value) (t:TypeId) (hg:Blk w g t cur) (cs:List Value) (hn:cs.length=Nat.min sLen dLen* sz) (hsrc:∀ j v,cs[j]?=some v→w.cell? (ad.add j)=some v) (hfit:off+cs.length≤cur.length) (h1:∀ v∈cs,v.oneCell'=true)
  (h:∀ w',Blk w' g t (splice cur off cs)→Ch (·=g) w w'→w'.heap.size=w.heap.size→wpList P ops Q rest (a.put o.dst (goInt (Nat.min sLen dLen))) w'):wpList P ops Q (o::rest) a w:=by
 refine wpList_plain hgd fun K hK=> ?_
 have hrun:=GS (P:=P) w dT sT o.type elem g off dLen dCap ad sLen sCap cur.toArray t cs sz hu hsz hg hn hsrc (by simpa using hfit) h1
 unfold Oper.wp
 simp only[execOp,ho,resolve,invoke,builtin,Sem.run_bind,Sem.run_pure,Result.andThen_ok,List.map_toArray,List.map_cons,List.map_nil,hd,hs,hrun]
 refine hK _ _ (h _ ?_ ⟨rfl,rfl,rfl,by simp[World.setRow],fun k hk hne=> setRow_other w g k _ hne⟩ (by simp[World.setRow]))
 unfold Blk
 have:=setRow_heap w g cur.toArray (cur.take off ++ cs ++ cur.drop (off+cs.length)).toArray t _ hg
 simpa [splice] using this
theorem D3 (L sp X:List Value) (o:Nat) (ho:o≤L.length) (hs:X.length≤sp.length):splice (splice (L ++ sp) (o+X.length) (L.drop o)) o X=(L.take o ++ X ++ L.drop o) ++ sp.drop X.length:=by
 have hd:(L.drop o).length=L.length - o:=List.length_drop
 have hsl:(splice (L ++ sp) (o+X.length) (L.drop o)).length=L.length+sp.length:=by rw[length_splice _ _ _ (by rw[List.length_append];omega),List.length_append]
 have ht:(L.take o).length=o:=by rw[List.length_take];omega
 apply List.ext_getElem?
 intro j
 rw[Cn _ _ _ _ (by rw[hsl];omega),Cn _ _ _ _ (by rw[List.length_append];omega)]
 by_cases h1:j<o
 ·rw[if_pos h1,if_pos (by omega),List.getElem?_append_left (by omega),List.append_assoc,List.append_assoc,List.getElem?_append_left (by omega),List.getElem?_take,if_pos h1]
 ·have eR:((L.take o ++ X ++ L.drop o) ++ sp.drop X.length)[j]?=(X ++ (L.drop o ++ sp.drop X.length))[j - o]?:=by rw[List.append_assoc,List.append_assoc,List.getElem?_append_right (by omega),ht]
  rw[if_neg h1,eR]
  by_cases h2:j<o+X.length
  ·rw[if_pos h2,List.getElem?_append_left (by omega)]
  ·have eQ:(X ++ (L.drop o ++ sp.drop X.length))[j - o]?=(L.drop o ++ sp.drop X.length)[j - o - X.length]?:=List.getElem?_append_right (by omega)
   rw[if_neg h2,if_neg h2,eQ,hd]
   by_cases h3:j<o+X.length+(L.length - o)
   ·rw[if_pos h3,List.getElem?_append_left (by omega)];congr 1;omega
   ·have eP:(L ++ sp)[j]?=sp[j - L.length]?:=List.getElem?_append_right (by omega)
    rw[if_neg h3,eP,List.getElem?_append_right (by omega),hd,List.getElem?_drop];congr 1;omega
theorem Et (L Z X:List Value) (o:Nat) (ho:o≤L.length) (hs:X.length+(L.length - o)≤Z.length):splice (splice (L.take o ++ Z) o X) (o+X.length) (L.drop o)=(L.take o ++ X ++ L.drop o) ++ Z.drop (X.length+(L.length - o)):=by
 have hd:(L.drop o).length=L.length - o:=List.length_drop
 have ht:(L.take o).length=o:=by rw[List.length_take];omega
 have hsl:(splice (L.take o ++ Z) o X).length=o+Z.length:=by rw[length_splice _ _ _ (by rw[List.length_append];omega),List.length_append,ht]
 apply List.ext_getElem?
 intro j
 rw[Cn _ _ _ _ (by rw[hsl];omega),Cn _ _ _ _ (by rw[List.length_append];omega)]
 by_cases h1:j<o
 ·rw[if_pos (by omega),if_pos h1,List.getElem?_append_left (by omega),List.append_assoc,List.append_assoc,List.getElem?_append_left (by omega)]
 ·rw[List.append_assoc (L.take o),List.append_assoc (L.take o)]
  have e1:(L.take o ++ (X ++ L.drop o ++ Z.drop (X.length+(L.length - o))))[j]?=(X ++ L.drop o ++ Z.drop (X.length+(L.length - o)))[j - o]?:=(List.getElem?_append_right (by omega)).trans (by rw[ht])
  rw[e1,List.append_assoc]
  by_cases h2:j<o+X.length
  ·have eS:(X ++ (L.drop o ++ Z.drop (X.length+(L.length - o))))[j - o]?=X[j - o]?:=List.getElem?_append_left (by omega)
   rw[if_pos h2,if_neg h1,if_pos h2,eS]
  ·have eQ:(X ++ (L.drop o ++ Z.drop (X.length+(L.length - o))))[j - o]?=(L.drop o ++ Z.drop (X.length+(L.length - o)))[j - o - X.length]?:=List.getElem?_append_right (by omega)
   rw[if_neg h2,eQ,hd]
   by_cases h3:j<o+X.length+(L.length - o)
   ·rw[if_pos h3,List.getElem?_append_left (by omega)];congr 1;omega
   ·have eP:(L.take o ++ Z)[j]?=Z[j - o]?:=by rw[List.getElem?_append_right (by omega),ht]
    rw[if_neg h3,if_neg h1,if_neg h2,eP,List.getElem?_append_right (by omega),hd,List.getElem?_drop];congr 1;omega
theorem B6 {w:World} {g B n c sz:Nat} {t:TypeId} {L R:List Value} (h:Blk w g t (L ++ R)) (hB:B≤g) (hL:L.length=n* sz) (hc:n≤c) (hm:c≤maxLen) (hl:(L ++ R).length=c* sz):w.ownsRow B t sz (.slice (some ⟨g,0,none⟩) n c) n L:=
 ⟨hL,.inr ⟨g,c,(L ++ R).toArray,rfl,hB,h,hc,hm,by simpa using hl,by simp[←hL]⟩⟩
theorem BP (z:Array Value) (n:Nat):(Builtin.zeroCells z n).toList.length=n* z.size:=by simp[Builtin.zeroCells]
def GT (base:Nat) (ty:TypeId) (sz:Nat) (v:Value) (n:Nat) (L:List Value) (w:World) (e:Ending) (w':World):Prop:=∃ ao c,e=.returned (.slice ao n c)∧w'.ownsRow base ty sz (.slice ao n c) n L∧Ch (fun k=> v.ownBlock=some k) w w'∧((Value.slice ao n c).ownBlock=v.ownBlock∨∀ k,(Value.slice ao n c).ownBlock=some k→w.heap.size≤k)
theorem Im (base vb:Nat) (X L:List Value) (n:Nat) (v:Value) (w:World) (hv:w.ownsRow base 45 14 v n L) (hb:base≤w.heap.size) (hx:Blk w vb 45 X) (hX:X.length=14) (h1:∀ u∈X,u.oneCell'=true) (hl:n≤1000000):
  Calls Tryz.prog 93 #[v,.int .i64 n,.slice (some ⟨vb,0,none⟩) 1 1] w (GT base 45 14 v (n+1) (L ++ X) w):=by
 obtain⟨i0,hi0,hz0,hz1,hz2⟩:=info_parts Tryz.infoRF
 have HI:=Ag (Ai hi0 (Ai hz0 (Ai hz1 hz2)))
 have hcc:∃ ao c,v=.slice ao n c∧n≤c∧c≤maxLen:=by
  obtain⟨_,⟨rfl,hn⟩|⟨g,cap,cur,rfl,_,_,h1,h2,_⟩⟩:=id hv
  ·exact⟨none,0,by rw[hn],by omega,by unfold maxLen;omega⟩
  ·exact⟨_,_,rfl,h1,h2⟩
 obtain⟨ao,c,rfl,hc,hc2⟩:=hcc
 have hc2:c≤9223372036854775807:=by unfold maxLen at hc2;omega
 have HV:=Ag (Ai hv (Ai hb hx))
 have HX:=Ag (Ai hX h1)
 clear hv hb hx hX h1 hi0 hz0 hz1 hz2
 by_cases hcn:c=n
 ·subst hcn
  go_enter Tryz.func93,Tryz.ntmps93
  go_wp2_with (at_builtin;refine wpList_append_own_at w rfl (.tmp 23) (.tmp 24) _ rfl base 45 i0 _ 14 192 Tryz.underlying22 HI.out.1 HI.out.2.1 HI.out.2.2.1 HI.out.2.2.2 rfl (by omega) _ c L rfl HV.out.1 ⟨vb,0,none⟩ 1 1 X rfl (by rw[HX.out.1]) (fun j u hu=> by have h:=As HV.out.2.2 j u hu;rw[Addr.add_lit];exact h) HX.out.2 (by unfold maxLen;omega) (by omega) HV.out.2.1 ?_)
  intro v1 w1 hown hgr _ hob
  obtain⟨ao2,c2,rfl⟩:=AY hown
  have H1:=Ag (Ai hown (Ai (show Ch _ w w1 from⟨hgr.os,hgr.tape,hgr.output,hgr.size,fun k hk hn=> hgr.block k hk (fun e=> hn e.symm)⟩) (show(Value.slice ao2 _ c2).ownBlock=_∨∀ k,(Value.slice ao2 _ c2).ownBlock=some k→w.heap.size≤k from hob.imp id (fun h k hk=> by rw[h] at hk;injection hk with hk;omega))))
  clear hown hgr hob
  go_wp2_with fail
  go_ret
  exact⟨_,_,rfl,H1.out.1,H1.out.2.1,H1.out.2.2⟩
 ·skip
  go_enter Tryz.func93,Tryz.ntmps93
  go_wp2_with (at_builtin;refine wpList_append_own_at w rfl (.tmp 23) (.tmp 24) _ rfl base 45 i0 _ 14 192 Tryz.underlying22 HI.out.1 HI.out.2.1 HI.out.2.2.1 HI.out.2.2.2 rfl (by omega) _ n L rfl HV.out.1 ⟨vb,0,none⟩ 1 1 X rfl (by rw[HX.out.1]) (fun j u hu=> by have h:=As HV.out.2.2 j u hu;rw[Addr.add_lit];exact h) HX.out.2 (by unfold maxLen;omega) (by omega) HV.out.2.1 ?_)
  intro v1 w1 hown hgr _ hob
  obtain⟨ao2,c2,rfl⟩:=AY hown
  have H1:=Ag (Ai hown (Ai (show Ch _ w w1 from⟨hgr.os,hgr.tape,hgr.output,hgr.size,fun k hk hn=> hgr.block k hk (fun e=> hn e.symm)⟩) (show(Value.slice ao2 _ c2).ownBlock=_∨∀ k,(Value.slice ao2 _ c2).ownBlock=some k→w.heap.size≤k from hob.imp id (fun h k hk=> by rw[h] at hk;injection hk with hk;omega))))
  clear hown hgr hob
  go_wp2_with fail
  go_ret
  exact⟨_,_,rfl,H1.out.1,H1.out.2.1,H1.out.2.2⟩
theorem In (base vb i:Nat) (X L:List Value) (n:Nat) (v:Value) (w:World) (hv:w.ownsRow base 45 14 v n L) (hb:base≤w.heap.size) (hx:Blk w vb 45 X) (hX:X.length=14) (hoX:∀ u∈X,u.oneCell'=true) (hoL:∀ u∈L,u.oneCell'=true) (hnv:∀ k,v.ownBlock=some k→k≠vb) (hl:n≤1000000) (hi:i<n):
  Calls Tryz.prog 93 #[v,.int .i64 i,.slice (some ⟨vb,0,none⟩) 1 1] w (GT base 45 14 v (n+1) (L.take (i* 14) ++ X ++ L.drop (i* 14)) w):=by
 obtain⟨hL,⟨rfl,h2⟩|⟨g,c,C,rfl,hg,hh,hnc,hcm,hcs,htk⟩⟩:=hv
 ·omega
 have hblk:Blk w g 45 C.toList:=hh
 have hgv:=hnv g rfl
 have hmx:c≤9223372036854775807:=by unfold maxLen at hcm;omega
 obtain⟨sp,hsp⟩:∃ sp,C.toList=L ++ sp:=⟨C.toList.drop (n* 14),by rw[←htk,List.take_append_drop]⟩
 have hspl:n* 14+sp.length=c* 14:=by have:=congrArg List.length hsp;rw[List.length_append,hL] at this;simp at this;omega
 rw[hsp] at hblk
 have hov:∀ la ca,(callFunc 113 #[.slice (some ⟨vb,0,none⟩) 1 1,.slice (some ⟨g,(i+1)* 14,none⟩) la ca]).run Tryz.prog w=.ok (.value (.bool false)) w:=fun la ca=> by
  rw[run_callFunc_extern Tryz.func113 (by kernel_rfl) (by kernel_rfl) (by kernel_rfl) (e:=Extern.SlicesOverlaps.overlaps #[22,22] #[4]) (by kernel_rfl),
   Lib.run_overlaps_apart w 22 4 45 Tryz.underlying22 14 (fun w=> by kernel_rfl) ⟨vb,0,none⟩ ⟨g,(i+1)* 14,none⟩ 1 1 la ca (fun e=> hgv e.symm) _ _ _ _ hx.shape hblk.shape (by rw[List.length_append,hL];omega) (hx.free 0) (hx.free _)]
  rfl
 have HB:=Ag (Ai hblk (Ai hx (Ai hg (Ai hb (Ai hgv hov)))))
 have HSP:=Ag hspl
 have HL:=Ag hL
 have HX:=Ag (Ai hX (Ai hoX hoL))
 have HDO:=Ag (show ∀ u∈L.drop (i* 14),u.oneCell'=true from fun u hu=> hoL u (List.mem_of_mem_drop hu))
 have hne:((i:Int)==(n:Int))=false:=by simp;omega
 have hin:(i:Int)≤(n:Int):=by omega
 have hic:(i:Int)≤(c:Int):=by omega
 have h0i:(0:Int)≤(i:Int):=by omega
 have HXS:=Ag (show ∀ W:World,Blk W vb 45 X→∀ j u,X[j]?=some u→W.cell? (Addr.add ⟨vb,0,none⟩ j)=some u from fun W hW j u hu=> by rw[Addr.add_lit,Nat.zero_add,hW.cell];exact hu)
 have HDR:=Ag (show ∀ (W:World) (Y:List Value),Blk W g 45 Y→(∀ j,j<n* 14→Y[j]?=L[j]?)→∀ j u,(L.drop (i* 14))[j]?=some u→W.cell? (Addr.add ⟨g,i* 14,none⟩ j)=some u from fun W Y hW hY j u hu=> by
  have hj:j<n* 14 - i* 14:=by have:=(List.getElem?_eq_some_iff.1 hu).1;rwa [List.length_drop,HL.out] at this
  rw[Addr.add_lit,hW.cell,hY _ (by omega),←List.getElem?_drop];exact hu)
 have HDL:=Ag (show(L.drop (i* 14)).length=(n - i)* 14 by rw[List.length_drop,HL.out] <;> omega)
 have hgk:n+1≤grownCap w (n+1) c 45:=grownCap_ge w _ _ _
 clear hblk hx hg hb hnv hcm hcs htk hh hsp hov hspl hL hX hoX hoL
 have hw1:IntKind.i64.wrap ((n:Int)+1)=(n:Int)+1:=by rw[IntKind.wrap_i64];omega
 have hwi:IntKind.i64.wrap ((i:Int)+1)=(i:Int)+1:=by rw[IntKind.wrap_i64];omega
 have hi1:(0:Int)≤(i:Int)+1:=by omega
 have hti:((i:Int)+1).toNat=i+1:=by omega
 have hin2:i* 14≤n* 14:=by omega
 by_cases hroom:c<n+1
 ·
  have hrz:(c:Int)<(n:Int)+1:=by omega
  have hkk:(n:Int)+1 - (i:Int)=((n+1 - i:Nat):Int):=by omega
  have hwk:IntKind.i64.wrap ((n:Int)+1 - (i:Int))=((n+1 - i:Nat):Int):=by rw[IntKind.wrap_i64];omega
  obtain⟨i0,hi0,hz0,hzs,hzb⟩:=info_parts Tryz.infoRF
  have hold:(Builtin.firstCells i0.size i (.slice (some ⟨g,0,none⟩) i c)).run Tryz.prog w.drew=.ok (L.take (i* 14)).toArray w.drew:=by
   rw[hzs]
   exact run_firstCells_some w.drew 14 i ⟨g,0,none⟩ i c (L.take (i* 14)) (by rw[List.length_take,HL.out];omega) (fun j u hj=> by
    rw[Addr.add_lit,Nat.zero_add]
    rw[List.getElem?_take] at hj
    split at hj
    ·show w.cell? _=_
     rw[HB.out.1.cell,List.getElem?_append_left (by rw[HL.out];omega)];exact hj
    ·cases hj)
  have hrun:∀ ty,(Builtin.append_ #[22,3] ty #[.slice (some ⟨g,0,none⟩) i c,.int .i64 ((n+1 - i:Nat):Int)]).run Tryz.prog w=
    .ok (.slice (some ⟨w.heap.size,0,none⟩) (n+1) (grownCap w (n+1) c 45)) (w.drew.alloc (.cells ((L.take (i* 14)).toArray ++ Builtin.zeroCells ((.agg (flC ⟨#[]⟩ 0 0 (.slice none 0 0) (.slice none 0 0) (.slice none 0 0) 0 0 0 (tmC 0 0 0 ⟨#[]⟩ (.slice none 0 0))).toArray):Value).cells (n+1 - i) ++ Builtin.zeroCells ((.agg (flC ⟨#[]⟩ 0 0 (.slice none 0 0) (.slice none 0 0) (.slice none 0 0) 0 0 0 (tmC 0 0 0 ⟨#[]⟩ (.slice none 0 0))).toArray):Value).cells (grownCap w (n+1) c 45 - (n+1))) 45)):=fun ty=> by
   have h:=Lib.run_append_grow_zeros w 22 3 ty 45 i0 _ .i64 .i64 Tryz.underlying22 Tryz.underlying3 hi0 hz0 (some ⟨g,0,none⟩) i c _ hold (n+1 - i) (by omega) (by omega) (by omega) (by omega) (by rw[hzb];omega) (by rw[hzb];exact growslice_fits (by omega) (by omega))
   rw[show i+(n+1 - i)=n+1 by omega] at h
   exact h
  obtain⟨G,hG⟩:∃ G,grownCap w (n+1) c 45=G:=⟨_,rfl⟩
  have hGm:G≤9223372036854775807:=by
   have:=grownCap_le_maxLen w (n+1) c 45 (by unfold maxLen;omega)
   rw[hG] at this
   unfold maxLen at this
   omega
  rw[hG] at hrun hgk
  have hcz:((.agg (flC ⟨#[]⟩ 0 0 (.slice none 0 0) (.slice none 0 0) (.slice none 0 0) 0 0 0 (tmC 0 0 0 ⟨#[]⟩ (.slice none 0 0))).toArray):Value).cells.size=14:=rfl
  obtain⟨Z,hZ⟩:∃ Z:List Value,((L.take (i* 14)).toArray ++ Builtin.zeroCells ((.agg (flC ⟨#[]⟩ 0 0 (.slice none 0 0) (.slice none 0 0) (.slice none 0 0) 0 0 0 (tmC 0 0 0 ⟨#[]⟩ (.slice none 0 0))).toArray):Value).cells (n+1 - i) ++ Builtin.zeroCells ((.agg (flC ⟨#[]⟩ 0 0 (.slice none 0 0) (.slice none 0 0) (.slice none 0 0) 0 0 0 (tmC 0 0 0 ⟨#[]⟩ (.slice none 0 0))).toArray):Value).cells (G - (n+1)))=(L.take (i* 14) ++ Z).toArray∧Z.length=(G - i)* 14:=by
   refine⟨(Builtin.zeroCells ((.agg (flC ⟨#[]⟩ 0 0 (.slice none 0 0) (.slice none 0 0) (.slice none 0 0) 0 0 0 (tmC 0 0 0 ⟨#[]⟩ (.slice none 0 0))).toArray):Value).cells (n+1 - i)).toList ++ (Builtin.zeroCells ((.agg (flC ⟨#[]⟩ 0 0 (.slice none 0 0) (.slice none 0 0) (.slice none 0 0) 0 0 0 (tmC 0 0 0 ⟨#[]⟩ (.slice none 0 0))).toArray):Value).cells (G - (n+1))).toList,?_,?_⟩
   ·rw[←Array.toList_inj];simp
   ·rw[List.length_append,BP,BP,hcz];omega
  obtain⟨W1,hW1⟩:∃ W1,w.drew.alloc (.cells (L.take (i* 14) ++ Z).toArray 45)=W1:=⟨_,rfl⟩
  have HZ:=Ag (show ∀ ty,(Builtin.append_ #[22,3] ty #[.slice (some ⟨g,0,none⟩) i c,.int .i64 ((n+1 - i:Nat):Int)]).run Tryz.prog w=.ok (.slice (some ⟨w.heap.size,0,none⟩) (n+1) G) W1 from fun ty=> by rw[hrun ty,hZ.1,hW1])
  have HZL:=Ag hZ.2
  have HA1:=Ag (show Blk W1 w.heap.size 45 (L.take (i* 14) ++ Z)∧Below w.heap.size w W1 from by rw[←hW1];exact⟨Blk.new w.drew _ _,((Below.refl w.heap.size w).drew).alloc (Ah _) _⟩)
  have HT:=Ag (show(L.take (i* 14)).length=i* 14 by rw[List.length_take,HL.out];omega)
  have hGi:(i:Int)≤(G:Int):=by omega
  have hGi1:(i:Int)+1≤(G:Int):=by omega
  have hi1n:(i:Int)+1≤(n:Int)+1:=by omega
  have hci:¬ (c=i):=by omega
  have hGi2:¬ (G=i):=by omega
  have hGi3:¬ (G=i+1):=by omega
  clear hold hrun hG hZ hW1 hi0 hz0 hzs hzb hcz
  go_enter Tryz.func93,Tryz.ntmps93
  go_wp2_with (first
   | (at_builtin;refine Lib.wpList_append_run _ rfl _ _ _ _ rfl _ _ rfl rfl _ _ (HZ.out _) ?_)
   | ((with_reducible refine A5 W1 rfl (.tmp 43) (.tmp 44) 22 22 rfl 45 Tryz.underlying22 14 Tryz.infoFl w.heap.size (i* 14) (n+1 - i) (G - i) rfl ⟨vb,0,none⟩ 1 1 rfl (L.take (i* 14) ++ Z) 45 HA1.out.1 X ?_ ?_ ?_ ?_ ?_)))
  ·rw[show Nat.min 1 (n+1 - i)=1 from Nat.min_eq_left (by omega),HX.out.1]
  ·exact fun j u hu=> HXS.out _ (HB.out.2.1.below HA1.out.2 HB.out.2.1.lt) j u hu
  ·rw[List.length_append,HT.out,HZL.out,HX.out.1];omega
  ·exact HX.out.2.1
  intro w2 hb2 hc2 hs2
  have H2:=Ag (show Blk w2 w.heap.size 45 (splice (L.take (i* 14) ++ Z) (i* 14) X)∧Blk w2 g 45 (L ++ sp)∧Below w.heap.size w w2 from
   ⟨hb2,(HB.out.1.below HA1.out.2 HB.out.1.lt).keep hc2 (fun e=> by have:=HB.out.1.lt;have e:g=w.heap.size:=e;omega),Aw HA1.out.2 hc2 (Ah _) (fun k hk=> by have e:k=w.heap.size:=hk;omega)⟩)
  clear hb2 hc2 hs2
  go_wp2_with fail
  refine Az (fun _=> True) [0,1,2,3,4,5,6,7] 1 (by kernel_rfl) rfl (by kernel_rfl) (by kernel_rfl) trivial ?_
  iterate 8(refine' AK.run ?_ ?_ ?_ ?_;rotate_left 2;(simp only[Aa,Ab,Ac];rfl);rfl;(rintro w' -;go_simp;with_reducible rfl);simp only[Al,Ad,Ae,Af])
  refine' Ar 8 (by kernel_rfl) ?_ ?_;rotate_left;(simp only[Aa,Ab,Ac];rfl)
  refine A5 w2.drew rfl (.tmp 50) (.tmp 53) 22 22 rfl 45 Tryz.underlying22 14 Tryz.infoFl w.heap.size ((i+1)* 14) (n - i) (G - (i+1)) rfl ⟨g,i* 14,none⟩ (n - i) (c - i) rfl _ 45 H2.out.1 (L.drop (i* 14)) ?_ ?_ ?_ HDO.out ?_
  ·rw[HDL.out,show Nat.min (n - i) (n - i)=n - i from Nat.min_self _] <;> omega
  ·exact fun j u hu=> HDR.out w2.drew _ H2.out.2.1 (fun k hk=> by rw[List.getElem?_append_left (by rw[HL.out];exact hk)]) j u hu
  ·rw[length_splice _ _ _ (by rw[List.length_append,HT.out,HZL.out,HX.out.1];omega),List.length_append,HT.out,HZL.out,HDL.out];omega
  intro w3 hb3 hc3 _
  have H3:=Ag (show w3.ownsRow base 45 14 (.slice (some ⟨w.heap.size,0,none⟩) (n+1) G) (n+1) (L.take (i* 14) ++ X ++ L.drop (i* 14))∧Below w.heap.size w w3 from by
   have e:=Et L Z X (i* 14) (by rw[HL.out];omega) (by rw[HX.out.1,HL.out,HZL.out];omega)
   rw[HX.out.1,show i* 14+14=(i+1)* 14 by omega] at e
   rw[e] at hb3
   exact⟨B6 hb3 HB.out.2.2.2.1 (by simp only[List.length_append,List.length_take,List.length_drop,HL.out,HX.out.1];omega) hgk (by unfold maxLen;omega) (by simp only[List.length_append,List.length_take,List.length_drop,HL.out,HX.out.1,HZL.out];omega),
    Aw (H2.out.2.2.drew) hc3 (Ah _) (fun k hk=> by have e:k=w.heap.size:=hk;omega)⟩)
  clear hb3 hc3
  refine QK.normal ⟨trivial,?_⟩
  refine wpAnyH_done (by kernel_rfl) ?_ _
  refine NoPanic.normal ?_
  go_wp2_with fail
  go_ret
  exact⟨_,_,rfl,H3.out.1,Ch.of_below H3.out.2 (Ah _),.inr (fun k hk=> by have e:some w.heap.size=some k:=hk;cases e;exact Ah _)⟩
 ·
  have hrn:n+1≤c:=by omega
  have hrz:¬ (c:Int)<(n:Int)+1:=by omega
  have hrz2:(n:Int)+1≤(c:Int):=by omega
  have hi1c:(i:Int)+1≤(c:Int):=by omega
  have hci:¬ (c=i):=by omega
  have hci1:¬ (c=i+1):=by omega
  have hi1n:(i:Int)+1≤(n:Int)+1:=by omega
  have htn:((n:Int)+1).toNat=n+1:=by omega
  have h0n:(0:Int)≤(n:Int)+1:=by omega
  have hin1:(i:Int)≤(n:Int)+1:=by omega
  have hov:=HB.out.2.2.2.2.2
  clear hroom hgk
  go_enter Tryz.func93,Tryz.ntmps93
  go_wp2_with (simp only[hov])
  refine Az (fun _=> True) [0,1,2,3,4,5,6,7] 1 (by kernel_rfl) rfl (by kernel_rfl) (by kernel_rfl) trivial ?_
  iterate 8(refine' AK.run ?_ ?_ ?_ ?_;rotate_left 2;(simp only[Aa,Ab,Ac];rfl);rfl;(rintro w' -;go_simp;with_reducible rfl);simp only[Al,Ad,Ae,Af])
  refine' Ar 8 (by kernel_rfl) ?_ ?_;rotate_left;(simp only[Aa,Ab,Ac];rfl)
  refine A5 w.drew rfl (.tmp 73) (.tmp 76) 22 22 rfl 45 Tryz.underlying22 14 Tryz.infoFl g ((i+1)* 14) (n - i) (c - (i+1)) rfl ⟨g,i* 14,none⟩ (n+1 - i) (c - i) rfl _ 45 HB.out.1 (L.drop (i* 14)) ?_ ?_ ?_ HDO.out ?_
  ·rw[HDL.out,show Nat.min (n+1 - i) (n - i)=n - i from Nat.min_eq_right (by omega)] <;> omega
  ·exact fun j u hu=> HDR.out w.drew _ HB.out.1 (fun k hk=> by rw[List.getElem?_append_left (by rw[HL.out];exact hk)]) j u hu
  ·rw[List.length_append,HDL.out,HL.out,HSP.out];omega
  intro w2 hb2 hc2 hs2
  have H2:=Ag (show Blk w2 g 45 (splice (L ++ sp) ((i+1)* 14) (L.drop (i* 14)))∧Blk w2 vb 45 X∧Ch (·=g) w w2 from
   ⟨hb2,(show Blk w.drew vb 45 X from HB.out.2.1).keep hc2 (fun e=> HB.out.2.2.2.2.1 e.symm),(Ch.refl (·=g) w).drew.trans hc2⟩)
  clear hb2 hc2 hs2 hov
  refine QK.normal ⟨trivial,?_⟩
  refine wpAnyH_done (by kernel_rfl) ?_ _
  refine NoPanic.normal ?_
  go_wp2_with ((with_reducible refine A5 w2 rfl (.tmp 80) (.tmp 81) 22 22 rfl 45 Tryz.underlying22 14 Tryz.infoFl g (i* 14) (n+1 - i) (c - i) rfl ⟨vb,0,none⟩ 1 1 rfl _ 45 H2.out.1 X ?_ ?_ ?_ ?_ ?_))
  ·rw[show Nat.min 1 (n+1 - i)=1 from Nat.min_eq_left (by omega),HX.out.1]
  ·exact fun j u hu=> HXS.out _ H2.out.2.1 j u hu
  ·rw[length_splice _ _ _ (by rw[List.length_append,HDL.out,HL.out,HSP.out];omega),List.length_append,HL.out,HSP.out,HX.out.1];omega
  ·exact HX.out.2.1
  intro w3 hb3 hc3 _
  have H3:=Ag (show w3.ownsRow base 45 14 (.slice (some ⟨g,0,none⟩) (n+1) c) (n+1) (L.take (i* 14) ++ X ++ L.drop (i* 14))∧Ch (·=g) w w3 from by
   have e:=D3 L sp X (i* 14) (by rw[HL.out];omega) (by rw[HX.out.1];have:=HSP.out;omega)
   rw[HX.out.1,show i* 14+14=(i+1)* 14 by omega] at e
   rw[e] at hb3
   exact⟨B6 hb3 HB.out.2.2.1 (by simp only[List.length_append,List.length_take,List.length_drop,HL.out,HX.out.1];omega) hrn (by unfold maxLen;omega) (by have:=HSP.out;simp only[List.length_append,List.length_take,List.length_drop,HL.out,HX.out.1];omega),H2.out.2.2.trans hc3⟩)
  clear hb3 hc3
  go_wp2_with fail
  go_ret
  exact⟨_,_,rfl,H3.out.1,H3.out.2.mono (fun k hk=> by have e:k=g:=hk;rw[e];rfl),.inl rfl⟩
theorem Io (base vb:Nat) (X L:List Value) (n:Nat) (v:Value) (w:World) (hv:w.ownsRow base 49 3 v n L) (hb:base≤w.heap.size) (hx:Blk w vb 49 X) (hX:X.length=3) (h1:∀ u∈X,u.oneCell'=true) (hl:n≤1000000):
  Calls Tryz.prog 95 #[v,.int .i64 n,.slice (some ⟨vb,0,none⟩) 1 1] w (GT base 49 3 v (n+1) (L ++ X) w):=by
 obtain⟨i0,hi0,hz0,hz1,hz2⟩:=info_parts Tryz.infoRI
 have HI:=Ag (Ai hi0 (Ai hz0 (Ai hz1 hz2)))
 have hcc:∃ ao c,v=.slice ao n c∧n≤c∧c≤maxLen:=by
  obtain⟨_,⟨rfl,hn⟩|⟨g,cap,cur,rfl,_,_,h1,h2,_⟩⟩:=id hv
  ·exact⟨none,0,by rw[hn],by omega,by unfold maxLen;omega⟩
  ·exact⟨_,_,rfl,h1,h2⟩
 obtain⟨ao,c,rfl,hc,hc2⟩:=hcc
 have hc2:c≤9223372036854775807:=by unfold maxLen at hc2;omega
 have HV:=Ag (Ai hv (Ai hb hx))
 have HX:=Ag (Ai hX h1)
 clear hv hb hx hX h1 hi0 hz0 hz1 hz2
 by_cases hcn:c=n
 ·subst hcn
  go_enter Tryz.func95,Tryz.ntmps95
  go_wp2_with (at_builtin;refine wpList_append_own_at w rfl (.tmp 23) (.tmp 24) _ rfl base 49 i0 _ 3 40 Tryz.underlying23 HI.out.1 HI.out.2.1 HI.out.2.2.1 HI.out.2.2.2 rfl (by omega) _ c L rfl HV.out.1 ⟨vb,0,none⟩ 1 1 X rfl (by rw[HX.out.1]) (fun j u hu=> by have h:=As HV.out.2.2 j u hu;rw[Addr.add_lit];exact h) HX.out.2 (by unfold maxLen;omega) (by omega) HV.out.2.1 ?_)
  intro v1 w1 hown hgr _ hob
  obtain⟨ao2,c2,rfl⟩:=AY hown
  have H1:=Ag (Ai hown (Ai (show Ch _ w w1 from⟨hgr.os,hgr.tape,hgr.output,hgr.size,fun k hk hn=> hgr.block k hk (fun e=> hn e.symm)⟩) (show(Value.slice ao2 _ c2).ownBlock=_∨∀ k,(Value.slice ao2 _ c2).ownBlock=some k→w.heap.size≤k from hob.imp id (fun h k hk=> by rw[h] at hk;injection hk with hk;omega))))
  clear hown hgr hob
  go_wp2_with fail
  go_ret
  exact⟨_,_,rfl,H1.out.1,H1.out.2.1,H1.out.2.2⟩
 ·skip
  go_enter Tryz.func95,Tryz.ntmps95
  go_wp2_with (at_builtin;refine wpList_append_own_at w rfl (.tmp 23) (.tmp 24) _ rfl base 49 i0 _ 3 40 Tryz.underlying23 HI.out.1 HI.out.2.1 HI.out.2.2.1 HI.out.2.2.2 rfl (by omega) _ n L rfl HV.out.1 ⟨vb,0,none⟩ 1 1 X rfl (by rw[HX.out.1]) (fun j u hu=> by have h:=As HV.out.2.2 j u hu;rw[Addr.add_lit];exact h) HX.out.2 (by unfold maxLen;omega) (by omega) HV.out.2.1 ?_)
  intro v1 w1 hown hgr _ hob
  obtain⟨ao2,c2,rfl⟩:=AY hown
  have H1:=Ag (Ai hown (Ai (show Ch _ w w1 from⟨hgr.os,hgr.tape,hgr.output,hgr.size,fun k hk hn=> hgr.block k hk (fun e=> hn e.symm)⟩) (show(Value.slice ao2 _ c2).ownBlock=_∨∀ k,(Value.slice ao2 _ c2).ownBlock=some k→w.heap.size≤k from hob.imp id (fun h k hk=> by rw[h] at hk;injection hk with hk;omega))))
  clear hown hgr hob
  go_wp2_with fail
  go_ret
  exact⟨_,_,rfl,H1.out.1,H1.out.2.1,H1.out.2.2⟩
theorem Ip (base vb i:Nat) (X L:List Value) (n:Nat) (v:Value) (w:World) (hv:w.ownsRow base 49 3 v n L) (hb:base≤w.heap.size) (hx:Blk w vb 49 X) (hX:X.length=3) (hoX:∀ u∈X,u.oneCell'=true) (hoL:∀ u∈L,u.oneCell'=true) (hnv:∀ k,v.ownBlock=some k→k≠vb) (hl:n≤1000000) (hi:i<n):
  Calls Tryz.prog 95 #[v,.int .i64 i,.slice (some ⟨vb,0,none⟩) 1 1] w (GT base 49 3 v (n+1) (L.take (i* 3) ++ X ++ L.drop (i* 3)) w):=by
 obtain⟨hL,⟨rfl,h2⟩|⟨g,c,C,rfl,hg,hh,hnc,hcm,hcs,htk⟩⟩:=hv
 ·omega
 have hblk:Blk w g 49 C.toList:=hh
 have hgv:=hnv g rfl
 have hmx:c≤9223372036854775807:=by unfold maxLen at hcm;omega
 obtain⟨sp,hsp⟩:∃ sp,C.toList=L ++ sp:=⟨C.toList.drop (n* 3),by rw[←htk,List.take_append_drop]⟩
 have hspl:n* 3+sp.length=c* 3:=by have:=congrArg List.length hsp;rw[List.length_append,hL] at this;simp at this;omega
 rw[hsp] at hblk
 have hov:∀ la ca,(callFunc 115 #[.slice (some ⟨vb,0,none⟩) 1 1,.slice (some ⟨g,(i+1)* 3,none⟩) la ca]).run Tryz.prog w=.ok (.value (.bool false)) w:=fun la ca=> by
  rw[run_callFunc_extern Tryz.func115 (by kernel_rfl) (by kernel_rfl) (by kernel_rfl) (e:=Extern.SlicesOverlaps.overlaps #[23,23] #[4]) (by kernel_rfl),
   Lib.run_overlaps_apart w 23 4 49 Tryz.underlying23 3 (fun w=> by kernel_rfl) ⟨vb,0,none⟩ ⟨g,(i+1)* 3,none⟩ 1 1 la ca (fun e=> hgv e.symm) _ _ _ _ hx.shape hblk.shape (by rw[List.length_append,hL];omega) (hx.free 0) (hx.free _)]
  rfl
 have HB:=Ag (Ai hblk (Ai hx (Ai hg (Ai hb (Ai hgv hov)))))
 have HSP:=Ag hspl
 have HL:=Ag hL
 have HX:=Ag (Ai hX (Ai hoX hoL))
 have HDO:=Ag (show ∀ u∈L.drop (i* 3),u.oneCell'=true from fun u hu=> hoL u (List.mem_of_mem_drop hu))
 have hne:((i:Int)==(n:Int))=false:=by simp;omega
 have hin:(i:Int)≤(n:Int):=by omega
 have hic:(i:Int)≤(c:Int):=by omega
 have h0i:(0:Int)≤(i:Int):=by omega
 have HXS:=Ag (show ∀ W:World,Blk W vb 49 X→∀ j u,X[j]?=some u→W.cell? (Addr.add ⟨vb,0,none⟩ j)=some u from fun W hW j u hu=> by rw[Addr.add_lit,Nat.zero_add,hW.cell];exact hu)
 have HDR:=Ag (show ∀ (W:World) (Y:List Value),Blk W g 49 Y→(∀ j,j<n* 3→Y[j]?=L[j]?)→∀ j u,(L.drop (i* 3))[j]?=some u→W.cell? (Addr.add ⟨g,i* 3,none⟩ j)=some u from fun W Y hW hY j u hu=> by
  have hj:j<n* 3 - i* 3:=by have:=(List.getElem?_eq_some_iff.1 hu).1;rwa [List.length_drop,HL.out] at this
  rw[Addr.add_lit,hW.cell,hY _ (by omega),←List.getElem?_drop];exact hu)
 have HDL:=Ag (show(L.drop (i* 3)).length=(n - i)* 3 by rw[List.length_drop,HL.out] <;> omega)
 have hgk:n+1≤grownCap w (n+1) c 49:=grownCap_ge w _ _ _
 clear hblk hx hg hb hnv hcm hcs htk hh hsp hov hspl hL hX hoX hoL
 have hw1:IntKind.i64.wrap ((n:Int)+1)=(n:Int)+1:=by rw[IntKind.wrap_i64];omega
 have hwi:IntKind.i64.wrap ((i:Int)+1)=(i:Int)+1:=by rw[IntKind.wrap_i64];omega
 have hi1:(0:Int)≤(i:Int)+1:=by omega
 have hti:((i:Int)+1).toNat=i+1:=by omega
 have hin2:i* 3≤n* 3:=by omega
 by_cases hroom:c<n+1
 ·
  have hrz:(c:Int)<(n:Int)+1:=by omega
  have hkk:(n:Int)+1 - (i:Int)=((n+1 - i:Nat):Int):=by omega
  have hwk:IntKind.i64.wrap ((n:Int)+1 - (i:Int))=((n+1 - i:Nat):Int):=by rw[IntKind.wrap_i64];omega
  obtain⟨i0,hi0,hz0,hzs,hzb⟩:=info_parts Tryz.infoRI
  have hold:(Builtin.firstCells i0.size i (.slice (some ⟨g,0,none⟩) i c)).run Tryz.prog w.drew=.ok (L.take (i* 3)).toArray w.drew:=by
   rw[hzs]
   exact run_firstCells_some w.drew 3 i ⟨g,0,none⟩ i c (L.take (i* 3)) (by rw[List.length_take,HL.out];omega) (fun j u hj=> by
    rw[Addr.add_lit,Nat.zero_add]
    rw[List.getElem?_take] at hj
    split at hj
    ·show w.cell? _=_
     rw[HB.out.1.cell,List.getElem?_append_left (by rw[HL.out];omega)];exact hj
    ·cases hj)
  have hrun:∀ ty,(Builtin.append_ #[23,3] ty #[.slice (some ⟨g,0,none⟩) i c,.int .i64 ((n+1 - i:Nat):Int)]).run Tryz.prog w=
    .ok (.slice (some ⟨w.heap.size,0,none⟩) (n+1) (grownCap w (n+1) c 49)) (w.drew.alloc (.cells ((L.take (i* 3)).toArray ++ Builtin.zeroCells ((.agg (ciC 0 0 (.slice none 0 0)).toArray):Value).cells (n+1 - i) ++ Builtin.zeroCells ((.agg (ciC 0 0 (.slice none 0 0)).toArray):Value).cells (grownCap w (n+1) c 49 - (n+1))) 49)):=fun ty=> by
   have h:=Lib.run_append_grow_zeros w 23 3 ty 49 i0 _ .i64 .i64 Tryz.underlying23 Tryz.underlying3 hi0 hz0 (some ⟨g,0,none⟩) i c _ hold (n+1 - i) (by omega) (by omega) (by omega) (by omega) (by rw[hzb];omega) (by rw[hzb];exact growslice_fits (by omega) (by omega))
   rw[show i+(n+1 - i)=n+1 by omega] at h
   exact h
  obtain⟨G,hG⟩:∃ G,grownCap w (n+1) c 49=G:=⟨_,rfl⟩
  have hGm:G≤9223372036854775807:=by
   have:=grownCap_le_maxLen w (n+1) c 49 (by unfold maxLen;omega)
   rw[hG] at this
   unfold maxLen at this
   omega
  rw[hG] at hrun hgk
  have hcz:((.agg (ciC 0 0 (.slice none 0 0)).toArray):Value).cells.size=3:=rfl
  obtain⟨Z,hZ⟩:∃ Z:List Value,((L.take (i* 3)).toArray ++ Builtin.zeroCells ((.agg (ciC 0 0 (.slice none 0 0)).toArray):Value).cells (n+1 - i) ++ Builtin.zeroCells ((.agg (ciC 0 0 (.slice none 0 0)).toArray):Value).cells (G - (n+1)))=(L.take (i* 3) ++ Z).toArray∧Z.length=(G - i)* 3:=by
   refine⟨(Builtin.zeroCells ((.agg (ciC 0 0 (.slice none 0 0)).toArray):Value).cells (n+1 - i)).toList ++ (Builtin.zeroCells ((.agg (ciC 0 0 (.slice none 0 0)).toArray):Value).cells (G - (n+1))).toList,?_,?_⟩
   ·rw[←Array.toList_inj];simp
   ·rw[List.length_append,BP,BP,hcz];omega
  obtain⟨W1,hW1⟩:∃ W1,w.drew.alloc (.cells (L.take (i* 3) ++ Z).toArray 49)=W1:=⟨_,rfl⟩
  have HZ:=Ag (show ∀ ty,(Builtin.append_ #[23,3] ty #[.slice (some ⟨g,0,none⟩) i c,.int .i64 ((n+1 - i:Nat):Int)]).run Tryz.prog w=.ok (.slice (some ⟨w.heap.size,0,none⟩) (n+1) G) W1 from fun ty=> by rw[hrun ty,hZ.1,hW1])
  have HZL:=Ag hZ.2
  have HA1:=Ag (show Blk W1 w.heap.size 49 (L.take (i* 3) ++ Z)∧Below w.heap.size w W1 from by rw[←hW1];exact⟨Blk.new w.drew _ _,((Below.refl w.heap.size w).drew).alloc (Ah _) _⟩)
  have HT:=Ag (show(L.take (i* 3)).length=i* 3 by rw[List.length_take,HL.out];omega)
  have hGi:(i:Int)≤(G:Int):=by omega
  have hGi1:(i:Int)+1≤(G:Int):=by omega
  have hi1n:(i:Int)+1≤(n:Int)+1:=by omega
  have hci:¬ (c=i):=by omega
  have hGi2:¬ (G=i):=by omega
  have hGi3:¬ (G=i+1):=by omega
  clear hold hrun hG hZ hW1 hi0 hz0 hzs hzb hcz
  go_enter Tryz.func95,Tryz.ntmps95
  go_wp2_with (first
   | (at_builtin;refine Lib.wpList_append_run _ rfl _ _ _ _ rfl _ _ rfl rfl _ _ (HZ.out _) ?_)
   | ((with_reducible refine A5 W1 rfl (.tmp 43) (.tmp 44) 23 23 rfl 49 Tryz.underlying23 3 Tryz.infoCi w.heap.size (i* 3) (n+1 - i) (G - i) rfl ⟨vb,0,none⟩ 1 1 rfl (L.take (i* 3) ++ Z) 49 HA1.out.1 X ?_ ?_ ?_ ?_ ?_)))
  ·rw[show Nat.min 1 (n+1 - i)=1 from Nat.min_eq_left (by omega),HX.out.1]
  ·exact fun j u hu=> HXS.out _ (HB.out.2.1.below HA1.out.2 HB.out.2.1.lt) j u hu
  ·rw[List.length_append,HT.out,HZL.out,HX.out.1];omega
  ·exact HX.out.2.1
  intro w2 hb2 hc2 hs2
  have H2:=Ag (show Blk w2 w.heap.size 49 (splice (L.take (i* 3) ++ Z) (i* 3) X)∧Blk w2 g 49 (L ++ sp)∧Below w.heap.size w w2 from
   ⟨hb2,(HB.out.1.below HA1.out.2 HB.out.1.lt).keep hc2 (fun e=> by have:=HB.out.1.lt;have e:g=w.heap.size:=e;omega),Aw HA1.out.2 hc2 (Ah _) (fun k hk=> by have e:k=w.heap.size:=hk;omega)⟩)
  clear hb2 hc2 hs2
  go_wp2_with fail
  refine Az (fun _=> True) [0,1,2,3,4,5,6,7] 1 (by kernel_rfl) rfl (by kernel_rfl) (by kernel_rfl) trivial ?_
  iterate 8(refine' AK.run ?_ ?_ ?_ ?_;rotate_left 2;(simp only[Aa,Ab,Ac];rfl);rfl;(rintro w' -;go_simp;with_reducible rfl);simp only[Al,Ad,Ae,Af])
  refine' Ar 8 (by kernel_rfl) ?_ ?_;rotate_left;(simp only[Aa,Ab,Ac];rfl)
  refine A5 w2.drew rfl (.tmp 50) (.tmp 53) 23 23 rfl 49 Tryz.underlying23 3 Tryz.infoCi w.heap.size ((i+1)* 3) (n - i) (G - (i+1)) rfl ⟨g,i* 3,none⟩ (n - i) (c - i) rfl _ 49 H2.out.1 (L.drop (i* 3)) ?_ ?_ ?_ HDO.out ?_
  ·rw[HDL.out,show Nat.min (n - i) (n - i)=n - i from Nat.min_self _] <;> omega
  ·exact fun j u hu=> HDR.out w2.drew _ H2.out.2.1 (fun k hk=> by rw[List.getElem?_append_left (by rw[HL.out];exact hk)]) j u hu
  ·rw[length_splice _ _ _ (by rw[List.length_append,HT.out,HZL.out,HX.out.1];omega),List.length_append,HT.out,HZL.out,HDL.out];omega
  intro w3 hb3 hc3 _
  have H3:=Ag (show w3.ownsRow base 49 3 (.slice (some ⟨w.heap.size,0,none⟩) (n+1) G) (n+1) (L.take (i* 3) ++ X ++ L.drop (i* 3))∧Below w.heap.size w w3 from by
   have e:=Et L Z X (i* 3) (by rw[HL.out];omega) (by rw[HX.out.1,HL.out,HZL.out];omega)
   rw[HX.out.1,show i* 3+3=(i+1)* 3 by omega] at e
   rw[e] at hb3
   exact⟨B6 hb3 HB.out.2.2.2.1 (by simp only[List.length_append,List.length_take,List.length_drop,HL.out,HX.out.1];omega) hgk (by unfold maxLen;omega) (by simp only[List.length_append,List.length_take,List.length_drop,HL.out,HX.out.1,HZL.out];omega),
    Aw (H2.out.2.2.drew) hc3 (Ah _) (fun k hk=> by have e:k=w.heap.size:=hk;omega)⟩)
  clear hb3 hc3
  refine QK.normal ⟨trivial,?_⟩
  refine wpAnyH_done (by kernel_rfl) ?_ _
  refine NoPanic.normal ?_
  go_wp2_with fail
  go_ret
  exact⟨_,_,rfl,H3.out.1,Ch.of_below H3.out.2 (Ah _),.inr (fun k hk=> by have e:some w.heap.size=some k:=hk;cases e;exact Ah _)⟩
 ·
  have hrn:n+1≤c:=by omega
  have hrz:¬ (c:Int)<(n:Int)+1:=by omega
  have hrz2:(n:Int)+1≤(c:Int):=by omega
  have hi1c:(i:Int)+1≤(c:Int):=by omega
  have hci:¬ (c=i):=by omega
  have hci1:¬ (c=i+1):=by omega
  have hi1n:(i:Int)+1≤(n:Int)+1:=by omega
  have htn:((n:Int)+1).toNat=n+1:=by omega
  have h0n:(0:Int)≤(n:Int)+1:=by omega
  have hin1:(i:Int)≤(n:Int)+1:=by omega
  have hov:=HB.out.2.2.2.2.2
  clear hroom hgk
  go_enter Tryz.func95,Tryz.ntmps95
  go_wp2_with (simp only[hov])
  refine Az (fun _=> True) [0,1,2,3,4,5,6,7] 1 (by kernel_rfl) rfl (by kernel_rfl) (by kernel_rfl) trivial ?_
  iterate 8(refine' AK.run ?_ ?_ ?_ ?_;rotate_left 2;(simp only[Aa,Ab,Ac];rfl);rfl;(rintro w' -;go_simp;with_reducible rfl);simp only[Al,Ad,Ae,Af])
  refine' Ar 8 (by kernel_rfl) ?_ ?_;rotate_left;(simp only[Aa,Ab,Ac];rfl)
  refine A5 w.drew rfl (.tmp 73) (.tmp 76) 23 23 rfl 49 Tryz.underlying23 3 Tryz.infoCi g ((i+1)* 3) (n - i) (c - (i+1)) rfl ⟨g,i* 3,none⟩ (n+1 - i) (c - i) rfl _ 49 HB.out.1 (L.drop (i* 3)) ?_ ?_ ?_ HDO.out ?_
  ·rw[HDL.out,show Nat.min (n+1 - i) (n - i)=n - i from Nat.min_eq_right (by omega)] <;> omega
  ·exact fun j u hu=> HDR.out w.drew _ HB.out.1 (fun k hk=> by rw[List.getElem?_append_left (by rw[HL.out];exact hk)]) j u hu
  ·rw[List.length_append,HDL.out,HL.out,HSP.out];omega
  intro w2 hb2 hc2 hs2
  have H2:=Ag (show Blk w2 g 49 (splice (L ++ sp) ((i+1)* 3) (L.drop (i* 3)))∧Blk w2 vb 49 X∧Ch (·=g) w w2 from
   ⟨hb2,(show Blk w.drew vb 49 X from HB.out.2.1).keep hc2 (fun e=> HB.out.2.2.2.2.1 e.symm),(Ch.refl (·=g) w).drew.trans hc2⟩)
  clear hb2 hc2 hs2 hov
  refine QK.normal ⟨trivial,?_⟩
  refine wpAnyH_done (by kernel_rfl) ?_ _
  refine NoPanic.normal ?_
  go_wp2_with ((with_reducible refine A5 w2 rfl (.tmp 80) (.tmp 81) 23 23 rfl 49 Tryz.underlying23 3 Tryz.infoCi g (i* 3) (n+1 - i) (c - i) rfl ⟨vb,0,none⟩ 1 1 rfl _ 49 H2.out.1 X ?_ ?_ ?_ ?_ ?_))
  ·rw[show Nat.min 1 (n+1 - i)=1 from Nat.min_eq_left (by omega),HX.out.1]
  ·exact fun j u hu=> HXS.out _ H2.out.2.1 j u hu
  ·rw[length_splice _ _ _ (by rw[List.length_append,HDL.out,HL.out,HSP.out];omega),List.length_append,HL.out,HSP.out,HX.out.1];omega
  ·exact HX.out.2.1
  intro w3 hb3 hc3 _
  have H3:=Ag (show w3.ownsRow base 49 3 (.slice (some ⟨g,0,none⟩) (n+1) c) (n+1) (L.take (i* 3) ++ X ++ L.drop (i* 3))∧Ch (·=g) w w3 from by
   have e:=D3 L sp X (i* 3) (by rw[HL.out];omega) (by rw[HX.out.1];have:=HSP.out;omega)
   rw[HX.out.1,show i* 3+3=(i+1)* 3 by omega] at e
   rw[e] at hb3
   exact⟨B6 hb3 HB.out.2.2.1 (by simp only[List.length_append,List.length_take,List.length_drop,HL.out,HX.out.1];omega) hrn (by unfold maxLen;omega) (by have:=HSP.out;simp only[List.length_append,List.length_take,List.length_drop,HL.out,HX.out.1];omega),H2.out.2.2.trans hc3⟩)
  clear hb3 hc3
  go_wp2_with fail
  go_ret
  exact⟨_,_,rfl,H3.out.1,H3.out.2.mono (fun k hk=> by have e:k=g:=hk;rw[e];rfl),.inl rfl⟩
theorem Iq (base vb:Nat) (X L:List Value) (n:Nat) (v:Value) (w:World) (hv:w.ownsRow base 3 1 v n L) (hb:base≤w.heap.size) (hx:Blk w vb 3 X) (hX:X.length=1) (h1:∀ u∈X,u.oneCell'=true) (hl:n≤1000000):
  Calls Tryz.prog 97 #[v,.int .i64 n,.slice (some ⟨vb,0,none⟩) 1 1] w (GT base 3 1 v (n+1) (L ++ X) w):=by
 obtain⟨i0,hi0,hz0,hz1,hz2⟩:=info_parts Tryz.infoI
 have HI:=Ag (Ai hi0 (Ai hz0 (Ai hz1 hz2)))
 have hcc:∃ ao c,v=.slice ao n c∧n≤c∧c≤maxLen:=by
  obtain⟨_,⟨rfl,hn⟩|⟨g,cap,cur,rfl,_,_,h1,h2,_⟩⟩:=id hv
  ·exact⟨none,0,by rw[hn],by omega,by unfold maxLen;omega⟩
  ·exact⟨_,_,rfl,h1,h2⟩
 obtain⟨ao,c,rfl,hc,hc2⟩:=hcc
 have hc2:c≤9223372036854775807:=by unfold maxLen at hc2;omega
 have HV:=Ag (Ai hv (Ai hb hx))
 have HX:=Ag (Ai hX h1)
 clear hv hb hx hX h1 hi0 hz0 hz1 hz2
 by_cases hcn:c=n
 ·subst hcn
  go_enter Tryz.func97,Tryz.ntmps97
  go_wp2_with (at_builtin;refine wpList_append_own_at w rfl (.tmp 23) (.tmp 24) _ rfl base 3 i0 _ 1 8 Tryz.underlying40 HI.out.1 HI.out.2.1 HI.out.2.2.1 HI.out.2.2.2 rfl (by omega) _ c L rfl HV.out.1 ⟨vb,0,none⟩ 1 1 X rfl (by rw[HX.out.1]) (fun j u hu=> by have h:=As HV.out.2.2 j u hu;rw[Addr.add_lit];exact h) HX.out.2 (by unfold maxLen;omega) (by omega) HV.out.2.1 ?_)
  intro v1 w1 hown hgr _ hob
  obtain⟨ao2,c2,rfl⟩:=AY hown
  have H1:=Ag (Ai hown (Ai (show Ch _ w w1 from⟨hgr.os,hgr.tape,hgr.output,hgr.size,fun k hk hn=> hgr.block k hk (fun e=> hn e.symm)⟩) (show(Value.slice ao2 _ c2).ownBlock=_∨∀ k,(Value.slice ao2 _ c2).ownBlock=some k→w.heap.size≤k from hob.imp id (fun h k hk=> by rw[h] at hk;injection hk with hk;omega))))
  clear hown hgr hob
  go_wp2_with fail
  go_ret
  exact⟨_,_,rfl,H1.out.1,H1.out.2.1,H1.out.2.2⟩
 ·skip
  go_enter Tryz.func97,Tryz.ntmps97
  go_wp2_with (at_builtin;refine wpList_append_own_at w rfl (.tmp 23) (.tmp 24) _ rfl base 3 i0 _ 1 8 Tryz.underlying40 HI.out.1 HI.out.2.1 HI.out.2.2.1 HI.out.2.2.2 rfl (by omega) _ n L rfl HV.out.1 ⟨vb,0,none⟩ 1 1 X rfl (by rw[HX.out.1]) (fun j u hu=> by have h:=As HV.out.2.2 j u hu;rw[Addr.add_lit];exact h) HX.out.2 (by unfold maxLen;omega) (by omega) HV.out.2.1 ?_)
  intro v1 w1 hown hgr _ hob
  obtain⟨ao2,c2,rfl⟩:=AY hown
  have H1:=Ag (Ai hown (Ai (show Ch _ w w1 from⟨hgr.os,hgr.tape,hgr.output,hgr.size,fun k hk hn=> hgr.block k hk (fun e=> hn e.symm)⟩) (show(Value.slice ao2 _ c2).ownBlock=_∨∀ k,(Value.slice ao2 _ c2).ownBlock=some k→w.heap.size≤k from hob.imp id (fun h k hk=> by rw[h] at hk;injection hk with hk;omega))))
  clear hown hgr hob
  go_wp2_with fail
  go_ret
  exact⟨_,_,rfl,H1.out.1,H1.out.2.1,H1.out.2.2⟩
theorem Ir (base vb i:Nat) (X L:List Value) (n:Nat) (v:Value) (w:World) (hv:w.ownsRow base 3 1 v n L) (hb:base≤w.heap.size) (hx:Blk w vb 3 X) (hX:X.length=1) (hoX:∀ u∈X,u.oneCell'=true) (hoL:∀ u∈L,u.oneCell'=true) (hnv:∀ k,v.ownBlock=some k→k≠vb) (hl:n≤1000000) (hi:i<n):
  Calls Tryz.prog 97 #[v,.int .i64 i,.slice (some ⟨vb,0,none⟩) 1 1] w (GT base 3 1 v (n+1) (L.take (i) ++ X ++ L.drop (i)) w):=by
 obtain⟨hL,⟨rfl,h2⟩|⟨g,c,C,rfl,hg,hh,hnc,hcm,hcs,htk⟩⟩:=hv
 ·omega
 rw[Nat.mul_one] at hcs htk hL
 have hblk:Blk w g 3 C.toList:=hh
 have hgv:=hnv g rfl
 have hmx:c≤9223372036854775807:=by unfold maxLen at hcm;omega
 obtain⟨sp,hsp⟩:∃ sp,C.toList=L ++ sp:=⟨C.toList.drop (n),by rw[←htk,List.take_append_drop]⟩
 have hspl:n+sp.length=c:=by have:=congrArg List.length hsp;rw[List.length_append,hL] at this;simp at this;omega
 rw[hsp] at hblk
 have hov:∀ la ca,(callFunc 119 #[.slice (some ⟨vb,0,none⟩) 1 1,.slice (some ⟨g,(i+1),none⟩) la ca]).run Tryz.prog w=.ok (.value (.bool false)) w:=fun la ca=> by
  rw[run_callFunc_extern Tryz.func119 (by kernel_rfl) (by kernel_rfl) (by kernel_rfl) (e:=Extern.SlicesOverlaps.overlaps #[40,40] #[4]) (by kernel_rfl),
   Lib.run_overlaps_apart w 40 4 3 Tryz.underlying40 1 (fun w=> by kernel_rfl) ⟨vb,0,none⟩ ⟨g,(i+1),none⟩ 1 1 la ca (fun e=> hgv e.symm) _ _ _ _ hx.shape hblk.shape (by rw[List.length_append,hL];omega) (hx.free 0) (hx.free _)]
  rfl
 have HB:=Ag (Ai hblk (Ai hx (Ai hg (Ai hb (Ai hgv hov)))))
 have HSP:=Ag hspl
 have HL:=Ag hL
 have HX:=Ag (Ai hX (Ai hoX hoL))
 have HDO:=Ag (show ∀ u∈L.drop (i),u.oneCell'=true from fun u hu=> hoL u (List.mem_of_mem_drop hu))
 have hne:((i:Int)==(n:Int))=false:=by simp;omega
 have hin:(i:Int)≤(n:Int):=by omega
 have hic:(i:Int)≤(c:Int):=by omega
 have h0i:(0:Int)≤(i:Int):=by omega
 have HXS:=Ag (show ∀ W:World,Blk W vb 3 X→∀ j u,X[j]?=some u→W.cell? (Addr.add ⟨vb,0,none⟩ j)=some u from fun W hW j u hu=> by rw[Addr.add_lit,Nat.zero_add,hW.cell];exact hu)
 have HDR:=Ag (show ∀ (W:World) (Y:List Value),Blk W g 3 Y→(∀ j,j<n→Y[j]?=L[j]?)→∀ j u,(L.drop (i))[j]?=some u→W.cell? (Addr.add ⟨g,i,none⟩ j)=some u from fun W Y hW hY j u hu=> by
  have hj:j<n - i:=by have:=(List.getElem?_eq_some_iff.1 hu).1;rwa [List.length_drop,HL.out] at this
  rw[Addr.add_lit,hW.cell,hY _ (by omega),←List.getElem?_drop];exact hu)
 have HDL:=Ag (show(L.drop (i)).length=(n - i) by rw[List.length_drop,HL.out] <;> omega)
 have hgk:n+1≤grownCap w (n+1) c 3:=grownCap_ge w _ _ _
 clear hblk hx hg hb hnv hcm hcs htk hh hsp hov hspl hL hX hoX hoL
 have hw1:IntKind.i64.wrap ((n:Int)+1)=(n:Int)+1:=by rw[IntKind.wrap_i64];omega
 have hwi:IntKind.i64.wrap ((i:Int)+1)=(i:Int)+1:=by rw[IntKind.wrap_i64];omega
 have hi1:(0:Int)≤(i:Int)+1:=by omega
 have hti:((i:Int)+1).toNat=i+1:=by omega
 have hin2:i≤n:=by omega
 by_cases hroom:c<n+1
 ·
  have hrz:(c:Int)<(n:Int)+1:=by omega
  have hkk:(n:Int)+1 - (i:Int)=((n+1 - i:Nat):Int):=by omega
  have hwk:IntKind.i64.wrap ((n:Int)+1 - (i:Int))=((n+1 - i:Nat):Int):=by rw[IntKind.wrap_i64];omega
  obtain⟨i0,hi0,hz0,hzs,hzb⟩:=info_parts Tryz.infoI
  have hold:(Builtin.firstCells i0.size i (.slice (some ⟨g,0,none⟩) i c)).run Tryz.prog w.drew=.ok (L.take (i)).toArray w.drew:=by
   rw[hzs]
   exact run_firstCells_some w.drew 1 i ⟨g,0,none⟩ i c (L.take (i)) (by rw[List.length_take,HL.out];omega) (fun j u hj=> by
    rw[Addr.add_lit,Nat.zero_add]
    rw[List.getElem?_take] at hj
    split at hj
    ·show w.cell? _=_
     rw[HB.out.1.cell,List.getElem?_append_left (by rw[HL.out];omega)];exact hj
    ·cases hj)
  have hrun:∀ ty,(Builtin.append_ #[40,3] ty #[.slice (some ⟨g,0,none⟩) i c,.int .i64 ((n+1 - i:Nat):Int)]).run Tryz.prog w=
    .ok (.slice (some ⟨w.heap.size,0,none⟩) (n+1) (grownCap w (n+1) c 3)) (w.drew.alloc (.cells ((L.take (i)).toArray ++ Builtin.zeroCells ((.int .i64 0):Value).cells (n+1 - i) ++ Builtin.zeroCells ((.int .i64 0):Value).cells (grownCap w (n+1) c 3 - (n+1))) 3)):=fun ty=> by
   have h:=Lib.run_append_grow_zeros w 40 3 ty 3 i0 _ .i64 .i64 Tryz.underlying40 Tryz.underlying3 hi0 hz0 (some ⟨g,0,none⟩) i c _ hold (n+1 - i) (by omega) (by omega) (by omega) (by omega) (by rw[hzb];omega) (by rw[hzb];exact growslice_fits (by omega) (by omega))
   rw[show i+(n+1 - i)=n+1 by omega] at h
   exact h
  obtain⟨G,hG⟩:∃ G,grownCap w (n+1) c 3=G:=⟨_,rfl⟩
  have hGm:G≤9223372036854775807:=by
   have:=grownCap_le_maxLen w (n+1) c 3 (by unfold maxLen;omega)
   rw[hG] at this
   unfold maxLen at this
   omega
  rw[hG] at hrun hgk
  have hcz:((.int .i64 0):Value).cells.size=1:=rfl
  obtain⟨Z,hZ⟩:∃ Z:List Value,((L.take (i)).toArray ++ Builtin.zeroCells ((.int .i64 0):Value).cells (n+1 - i) ++ Builtin.zeroCells ((.int .i64 0):Value).cells (G - (n+1)))=(L.take (i) ++ Z).toArray∧Z.length=(G - i):=by
   refine⟨(Builtin.zeroCells ((.int .i64 0):Value).cells (n+1 - i)).toList ++ (Builtin.zeroCells ((.int .i64 0):Value).cells (G - (n+1))).toList,?_,?_⟩
   ·rw[←Array.toList_inj];simp
   ·rw[List.length_append,BP,BP,hcz];omega
  obtain⟨W1,hW1⟩:∃ W1,w.drew.alloc (.cells (L.take (i) ++ Z).toArray 3)=W1:=⟨_,rfl⟩
  have HZ:=Ag (show ∀ ty,(Builtin.append_ #[40,3] ty #[.slice (some ⟨g,0,none⟩) i c,.int .i64 ((n+1 - i:Nat):Int)]).run Tryz.prog w=.ok (.slice (some ⟨w.heap.size,0,none⟩) (n+1) G) W1 from fun ty=> by rw[hrun ty,hZ.1,hW1])
  have HZL:=Ag hZ.2
  have HA1:=Ag (show Blk W1 w.heap.size 3 (L.take (i) ++ Z)∧Below w.heap.size w W1 from by rw[←hW1];exact⟨Blk.new w.drew _ _,((Below.refl w.heap.size w).drew).alloc (Ah _) _⟩)
  have HT:=Ag (show(L.take (i)).length=i by rw[List.length_take,HL.out];omega)
  have hGi:(i:Int)≤(G:Int):=by omega
  have hGi1:(i:Int)+1≤(G:Int):=by omega
  have hi1n:(i:Int)+1≤(n:Int)+1:=by omega
  have hci:¬ (c=i):=by omega
  have hGi2:¬ (G=i):=by omega
  have hGi3:¬ (G=i+1):=by omega
  clear hold hrun hG hZ hW1 hi0 hz0 hzs hzb hcz
  go_enter Tryz.func97,Tryz.ntmps97
  go_wp2_with (first
   | (at_builtin;refine Lib.wpList_append_run _ rfl _ _ _ _ rfl _ _ rfl rfl _ _ (HZ.out _) ?_)
   | ((with_reducible refine A5 W1 rfl (.tmp 43) (.tmp 44) 40 40 rfl 3 Tryz.underlying40 1 Tryz.sizeInt1 w.heap.size (i) (n+1 - i) (G - i) rfl ⟨vb,0,none⟩ 1 1 rfl (L.take (i) ++ Z) 3 HA1.out.1 X ?_ ?_ ?_ ?_ ?_)))
  ·rw[show Nat.min 1 (n+1 - i)=1 from Nat.min_eq_left (by omega),HX.out.1]
  ·exact fun j u hu=> HXS.out _ (HB.out.2.1.below HA1.out.2 HB.out.2.1.lt) j u hu
  ·rw[List.length_append,HT.out,HZL.out,HX.out.1];omega
  ·exact HX.out.2.1
  intro w2 hb2 hc2 hs2
  have H2:=Ag (show Blk w2 w.heap.size 3 (splice (L.take (i) ++ Z) (i) X)∧Blk w2 g 3 (L ++ sp)∧Below w.heap.size w w2 from
   ⟨hb2,(HB.out.1.below HA1.out.2 HB.out.1.lt).keep hc2 (fun e=> by have:=HB.out.1.lt;have e:g=w.heap.size:=e;omega),Aw HA1.out.2 hc2 (Ah _) (fun k hk=> by have e:k=w.heap.size:=hk;omega)⟩)
  clear hb2 hc2 hs2
  go_wp2_with fail
  refine Az (fun _=> True) [0,1,2,3,4,5,6,7] 1 (by kernel_rfl) rfl (by kernel_rfl) (by kernel_rfl) trivial ?_
  iterate 8(refine' AK.run ?_ ?_ ?_ ?_;rotate_left 2;(simp only[Aa,Ab,Ac];rfl);rfl;(rintro w' -;go_simp;with_reducible rfl);simp only[Al,Ad,Ae,Af])
  refine' Ar 8 (by kernel_rfl) ?_ ?_;rotate_left;(simp only[Aa,Ab,Ac];rfl)
  refine A5 w2.drew rfl (.tmp 50) (.tmp 53) 40 40 rfl 3 Tryz.underlying40 1 Tryz.sizeInt1 w.heap.size ((i+1)) (n - i) (G - (i+1)) rfl ⟨g,i,none⟩ (n - i) (c - i) rfl _ 3 H2.out.1 (L.drop (i)) ?_ ?_ ?_ HDO.out ?_
  ·rw[HDL.out,show Nat.min (n - i) (n - i)=n - i from Nat.min_self _] <;> omega
  ·exact fun j u hu=> HDR.out w2.drew _ H2.out.2.1 (fun k hk=> by rw[List.getElem?_append_left (by rw[HL.out];exact hk)]) j u hu
  ·rw[length_splice _ _ _ (by rw[List.length_append,HT.out,HZL.out,HX.out.1];omega),List.length_append,HT.out,HZL.out,HDL.out];omega
  intro w3 hb3 hc3 _
  have H3:=Ag (show w3.ownsRow base 3 1 (.slice (some ⟨w.heap.size,0,none⟩) (n+1) G) (n+1) (L.take (i) ++ X ++ L.drop (i))∧Below w.heap.size w w3 from by
   have e:=Et L Z X (i) (by rw[HL.out];omega) (by rw[HX.out.1,HL.out,HZL.out];omega)
   rw[HX.out.1,show i+1=(i+1) by omega] at e
   rw[e] at hb3
   exact⟨B6 hb3 HB.out.2.2.2.1 (by simp only[List.length_append,List.length_take,List.length_drop,HL.out,HX.out.1];omega) hgk (by unfold maxLen;omega) (by simp only[List.length_append,List.length_take,List.length_drop,HL.out,HX.out.1,HZL.out];omega),
    Aw (H2.out.2.2.drew) hc3 (Ah _) (fun k hk=> by have e:k=w.heap.size:=hk;omega)⟩)
  clear hb3 hc3
  refine QK.normal ⟨trivial,?_⟩
  refine wpAnyH_done (by kernel_rfl) ?_ _
  refine NoPanic.normal ?_
  go_wp2_with fail
  go_ret
  exact⟨_,_,rfl,H3.out.1,Ch.of_below H3.out.2 (Ah _),.inr (fun k hk=> by have e:some w.heap.size=some k:=hk;cases e;exact Ah _)⟩
 ·
  have hrn:n+1≤c:=by omega
  have hrz:¬ (c:Int)<(n:Int)+1:=by omega
  have hrz2:(n:Int)+1≤(c:Int):=by omega
  have hi1c:(i:Int)+1≤(c:Int):=by omega
  have hci:¬ (c=i):=by omega
  have hci1:¬ (c=i+1):=by omega
  have hi1n:(i:Int)+1≤(n:Int)+1:=by omega
  have htn:((n:Int)+1).toNat=n+1:=by omega
  have h0n:(0:Int)≤(n:Int)+1:=by omega
  have hin1:(i:Int)≤(n:Int)+1:=by omega
  have hov:=HB.out.2.2.2.2.2
  clear hroom hgk
  go_enter Tryz.func97,Tryz.ntmps97
  go_wp2_with (simp only[hov])
  refine Az (fun _=> True) [0,1,2,3,4,5,6,7] 1 (by kernel_rfl) rfl (by kernel_rfl) (by kernel_rfl) trivial ?_
  iterate 8(refine' AK.run ?_ ?_ ?_ ?_;rotate_left 2;(simp only[Aa,Ab,Ac];rfl);rfl;(rintro w' -;go_simp;with_reducible rfl);simp only[Al,Ad,Ae,Af])
  refine' Ar 8 (by kernel_rfl) ?_ ?_;rotate_left;(simp only[Aa,Ab,Ac];rfl)
  refine A5 w.drew rfl (.tmp 73) (.tmp 76) 40 40 rfl 3 Tryz.underlying40 1 Tryz.sizeInt1 g ((i+1)) (n - i) (c - (i+1)) rfl ⟨g,i,none⟩ (n+1 - i) (c - i) rfl _ 3 HB.out.1 (L.drop (i)) ?_ ?_ ?_ HDO.out ?_
  ·rw[HDL.out,show Nat.min (n+1 - i) (n - i)=n - i from Nat.min_eq_right (by omega)] <;> omega
  ·exact fun j u hu=> HDR.out w.drew _ HB.out.1 (fun k hk=> by rw[List.getElem?_append_left (by rw[HL.out];exact hk)]) j u hu
  ·rw[List.length_append,HDL.out,HL.out,HSP.out];omega
  intro w2 hb2 hc2 hs2
  have H2:=Ag (show Blk w2 g 3 (splice (L ++ sp) ((i+1)) (L.drop (i)))∧Blk w2 vb 3 X∧Ch (·=g) w w2 from
   ⟨hb2,(show Blk w.drew vb 3 X from HB.out.2.1).keep hc2 (fun e=> HB.out.2.2.2.2.1 e.symm),(Ch.refl (·=g) w).drew.trans hc2⟩)
  clear hb2 hc2 hs2 hov
  refine QK.normal ⟨trivial,?_⟩
  refine wpAnyH_done (by kernel_rfl) ?_ _
  refine NoPanic.normal ?_
  go_wp2_with ((with_reducible refine A5 w2 rfl (.tmp 80) (.tmp 81) 40 40 rfl 3 Tryz.underlying40 1 Tryz.sizeInt1 g (i) (n+1 - i) (c - i) rfl ⟨vb,0,none⟩ 1 1 rfl _ 3 H2.out.1 X ?_ ?_ ?_ ?_ ?_))
  ·rw[show Nat.min 1 (n+1 - i)=1 from Nat.min_eq_left (by omega),HX.out.1]
  ·exact fun j u hu=> HXS.out _ H2.out.2.1 j u hu
  ·rw[length_splice _ _ _ (by rw[List.length_append,HDL.out,HL.out,HSP.out];omega),List.length_append,HL.out,HSP.out,HX.out.1];omega
  ·exact HX.out.2.1
  intro w3 hb3 hc3 _
  have H3:=Ag (show w3.ownsRow base 3 1 (.slice (some ⟨g,0,none⟩) (n+1) c) (n+1) (L.take (i) ++ X ++ L.drop (i))∧Ch (·=g) w w3 from by
   have e:=D3 L sp X (i) (by rw[HL.out];omega) (by rw[HX.out.1];have:=HSP.out;omega)
   rw[HX.out.1,show i+1=(i+1) by omega] at e
   rw[e] at hb3
   exact⟨B6 hb3 HB.out.2.2.1 (by simp only[List.length_append,List.length_take,List.length_drop,HL.out,HX.out.1];omega) hrn (by unfold maxLen;omega) (by have:=HSP.out;simp only[List.length_append,List.length_take,List.length_drop,HL.out,HX.out.1];omega),H2.out.2.2.trans hc3⟩)
  clear hb3 hc3
  go_wp2_with fail
  go_ret
  exact⟨_,_,rfl,H3.out.1,H3.out.2.mono (fun k hk=> by have e:k=g:=hk;rw[e];rfl),.inl rfl⟩
structure OpM where
 k:Int
 u:Int
 nm:ByteArray
 t:Int
 g:Int
 wr:Bool
 b:Tm
structure ResM where
 e:Int
 v:Int
 u:Int
 b:Tm
def tm0:Tm:=.mk 0 0 0 ⟨#[]⟩ []
def opC (o:OpM) (tc:List Value):List Value:=.int .i64 o.k::.int .i64 o.u::.string o.nm::.int .i64 o.t::.int .i64 o.g::.bool o.wr::tc
def AC (e v u:Int) (tc:List Value):List Value:=.int .i64 e::.int .i64 v::.int .i64 u::tc
theorem Bm (F:Nat→Prop) (w:World):TmC F w (tmC 0 0 0 ⟨#[]⟩ (.slice none 0 0)) tm0:=B0.2 ⟨_,rfl,SlT.nil _ _⟩
theorem Tryz.infoOp:(Tryz.prog.info? 31).map (·.size)=some 11:=by kernel_rfl
theorem Tryz.infoRs:(Tryz.prog.info? 37).map (·.size)=some 8:=by kernel_rfl
theorem Tryz.zeroRs:∀ w,(zeroValue 37).run Tryz.prog w=.ok (.agg (AC 0 0 0 (tmC 0 0 0 ⟨#[]⟩ (.slice none 0 0))).toArray) w:=fun w=> by kernel_rfl
theorem Ax {e v u:Int} {tc:List Value} (h:tc.length=5):(Tryz.prog.info? 37).map (·.size)=some (AC e v u tc).length:=by rw[show(AC e v u tc).length=8 by simp[AC,h]];exact Tryz.infoRs
theorem Bp {p:OpM} {tc:List Value} (h:tc.length=5):(Tryz.prog.info? 31).map (·.size)=some (opC p tc).length:=by rw[show(opC p tc).length=11 by simp[opC,h]];exact Tryz.infoOp
theorem AM {e v u:Int} {tc:List Value} (h:∀ x∈tc,x.oneCell'=true):∀ x∈AC e v u tc,x.oneCell'=true:=fun x hx=> by
 simp only[AC,List.mem_cons] at hx
 rcases hx with rfl|rfl|rfl|hx
 ·rfl
 ·rfl
 ·rfl
 ·exact h x hx
theorem F2 {p:OpM} {tc:List Value} (h:∀ x∈tc,x.oneCell'=true):∀ x∈opC p tc,x.oneCell'=true:=fun x hx=> by
 simp only[opC,List.mem_cons] at hx
 rcases hx with rfl|rfl|rfl|rfl|rfl|rfl|hx
 ·rfl
 ·rfl
 ·rfl
 ·rfl
 ·rfl
 ·rfl
 ·exact h x hx
theorem Tryz.buildtold (e:Int):∀ w,(Instr.build 37 #[(0,.int .i64 e)]).run Tryz.prog w=.ok (.agg (AC e 0 0 (tmC 0 0 0 ⟨#[]⟩ (.slice none 0 0))).toArray) w:=fun w=> by kernel_rfl
theorem EP {ops:Array Oper} {rest:List Oper} {op:Oper} {a:Act} {w:World} {Q:Exit→Act→World→Prop} (hgd:op.guard=none) (x0:Operand) (ho:op.op=.build 37 #[(0,x0)])
  (e:Int) (h0:a.eval x0=.int .i64 e)
  (h:wpList Tryz.prog ops Q rest (a.put op.dst (.agg (AC e 0 0 (tmC 0 0 0 ⟨#[]⟩ (.slice none 0 0))).toArray)) w):wpList Tryz.prog ops Q (op::rest) a w:=by
 refine wpList_plain hgd fun K hK=> ?_
 have hrun:(execOp a.eval op).run Tryz.prog w=.ok (.value (.agg (AC e 0 0 (tmC 0 0 0 ⟨#[]⟩ (.slice none 0 0))).toArray)) w:=by
  unfold execOp
  simp only[ho]
  rw[show((#[((0:Nat),x0)]:Array (Nat × Operand)).map fun (i,x)=> (i,a.eval x))=#[(0,.int .i64 e)] by simp[h0]]
  simp[Tryz.buildtold,Result.andThen]
 unfold Oper.wp
 rw[hrun]
 exact hK _ _ h
theorem Tryz.buildres0:∀ w,(Instr.build 37 #[]).run Tryz.prog w=.ok (.agg (AC 0 0 0 (tmC 0 0 0 ⟨#[]⟩ (.slice none 0 0))).toArray) w:=fun w=> by kernel_rfl
theorem Ba {ops:Array Oper} {rest:List Oper} {op:Oper} {a:Act} {w:World} {Q:Exit→Act→World→Prop} (hgd:op.guard=none) (ho:op.op=.build 37 #[])
  (h:wpList Tryz.prog ops Q rest (a.put op.dst (.agg (AC 0 0 0 (tmC 0 0 0 ⟨#[]⟩ (.slice none 0 0))).toArray)) w):wpList Tryz.prog ops Q (op::rest) a w:=by
 refine wpList_plain hgd fun K hK=> ?_
 have hrun:(execOp a.eval op).run Tryz.prog w=.ok (.value (.agg (AC 0 0 0 (tmC 0 0 0 ⟨#[]⟩ (.slice none 0 0))).toArray)) w:=by
  unfold execOp
  simp only[ho]
  simp[Tryz.buildres0,Result.andThen]
 unfold Oper.wp
 rw[hrun]
 exact hK _ _ h
theorem Tryz.buildblg (x y:Int):∀ w,(Instr.build 105 #[(0,.int .i64 x),(1,.int .i64 y)]).run Tryz.prog w=.ok (.agg [.int .i64 x,.int .i64 y].toArray) w:=fun w=> by kernel_rfl
theorem Fe {ops:Array Oper} {rest:List Oper} {op:Oper} {a:Act} {w:World} {Q:Exit→Act→World→Prop} (hgd:op.guard=none) (x0 x1:Operand) (ho:op.op=.build 105 #[(0,x0),(1,x1)])
  (x y:Int) (h0:a.eval x0=.int .i64 x) (h1:a.eval x1=.int .i64 y)
  (h:wpList Tryz.prog ops Q rest (a.put op.dst (.agg [.int .i64 x,.int .i64 y].toArray)) w):wpList Tryz.prog ops Q (op::rest) a w:=by
 refine wpList_plain hgd fun K hK=> ?_
 have hrun:(execOp a.eval op).run Tryz.prog w=.ok (.value (.agg [.int .i64 x,.int .i64 y].toArray)) w:=by
  unfold execOp
  simp only[ho]
  rw[show((#[((0:Nat),x0),(1,x1)]:Array (Nat × Operand)).map fun (i,x)=> (i,a.eval x))=#[(0,.int .i64 x),(1,.int .i64 y)] by simp[h0,h1]]
  simp[Tryz.buildblg,Result.andThen]
 unfold Oper.wp
 rw[hrun]
 exact hK _ _ h
theorem Bc (e:Int) (w:World):Calls Tryz.prog 87 #[.int .i64 e] w (fun e' w'=> e'=.returned (.agg (AC e 0 0 (tmC 0 0 0 ⟨#[]⟩ (.slice none 0 0))).toArray)∧Below w.heap.size w w'):=by
 go_enter Tryz.func87,Tryz.ntmps87
 go_wp2_with (first
  | ((with_reducible refine Av w rfl 37 rfl (AC 0 0 0 (tmC 0 0 0 ⟨#[]⟩ (.slice none 0 0))) Tryz.zeroRs ?_);intro b1 hb hbel hsz;have HB1:=Ag (Ai hb hbel);clear hb hbel hsz)
  | (with_reducible refine EP rfl (.tmp 3) rfl e rfl ?_)
  | ((with_reducible refine Ao b1 rfl 37 (.tmp 2) (.tmp 4) rfl w.heap.size 37 (AC 0 0 0 (tmC 0 0 0 ⟨#[]⟩ (.slice none 0 0))) (AC e 0 0 (tmC 0 0 0 ⟨#[]⟩ (.slice none 0 0))) HB1.out.1 rfl rfl rfl (Ax rfl) (AM (AR _ _ _ _ _ _ _)) ?_);intro b2 hb hc hs;have HB2:=Ag (Ai hb (Aw HB1.out.2 hc (Ah _) (fun k hk=> by have e:k=w.heap.size:=hk;omega)));clear hb hc hs))
 refine bodyPost_ret (AA Tryz.results87 _ _ w.heap.size _ _ rfl HB2.out.1 _ Tryz.underlying37 rfl (Ax rfl)) rfl ?_
 exact⟨rfl,HB2.out.2⟩
def CQ (cs:List CirM):List (Int × Int):=cs.flatMap fun c=> c.us.map fun u=> (c.n,u)
def BlC (_:World) (cs:List Value) (p:Int × Int):Prop:=cs=[.int .i64 p.1,.int .i64 p.2]
theorem OwR.slP {B:Nat} {w:World} {v:Value} {l:List (Int × Int)} (h:OwR BlC 2 105 B w v l):SlP w v .i64 .i64 l:=by
 obtain⟨ao,c,h1,h2,h3,h4⟩:=h.rwc
 refine⟨ao,c,h1,h2,by unfold maxLen at h3;exact h3,fun h0=> ?_⟩
 obtain⟨b,o,e,-,hb,ha⟩:=h4 h0
 refine⟨b,o,e,hb,fun j hj=> ?_⟩
 obtain⟨cs,-,k1,k2⟩:=ha j hj
 unfold BlC at k2
 subst k2
 exact⟨by have:=k1 0 _ rfl;simpa using this,k1 1 _ rfl⟩
theorem Tryz.infoBe:(Tryz.prog.info? 105).map (fun i=> (i.zero,i.size,i.bytes))=some (some (.agg ([.int .i64 0,.int .i64 0]:List Value).toArray),2,16):=by kernel_rfl
theorem Tryz.zeroBe:∀ w,(zeroValue 105).run Tryz.prog w=.ok (.agg ([.int .i64 0,.int .i64 0]:List Value).toArray) w:=fun w=> by kernel_rfl
theorem Tryz.zeroCi3:∀ w,(zeroValue 49).run Tryz.prog w=.ok (.agg (ciC 0 0 (.slice none 0 0)).toArray) w:=fun w=> by kernel_rfl
theorem FT (w:World) {ops:Array Oper} {rest:List Oper} {o:Oper} {a:Act} {Q:Exit→Act→World→Prop} (hgd:o.guard=none) (x:Operand) (ho:o.op=.buildSlice 69 1 #[(0,x)]) (cs:List Value) (hcs:cs.length=2)
  (hx:a.eval x=.agg cs.toArray) (h:∀ w',Blk w' w.heap.size 105 cs→Below w.heap.size w w'→w'.heap.size=w.heap.size+1→wpList Tryz.prog ops Q rest (a.put o.dst (.slice (some ⟨w.heap.size,0,none⟩) 1 1)) w'):wpList Tryz.prog ops Q (o::rest) a w:=
 Bk w hgd 69 x ho Tryz.underlying69 (fun w=> by kernel_rfl) Tryz.zeroBe (by decide) (by decide) cs hcs hx h
theorem RwC.of_one {α:Type} {C:World→List Value→α→Prop} {sz:Nat} {F:Nat→Prop} {w:World} {b:Nat} {ty:TypeId} {cs:List Value} {t:α} (hb:Blk w b ty cs) (hF:F b) (hl:cs.length=sz) (ht:C w cs t):RwC C sz F w (.slice (some ⟨b,0,none⟩) 1 1) [t]:=
 ⟨some ⟨b,0,none⟩,1,rfl,Ah _,by unfold maxLen;omega,fun _=> ⟨b,0,rfl,hF,hb.lt,fun j hj=> match j,hj with|0,_=> ⟨cs,hl,by simpa using As hb,ht⟩⟩⟩
theorem FA (s:IdM) (cs:List Value) (F:Nat→Prop) (w:World) (hs:IdC F w cs s) (hl:(CQ s.cs).length≤1000000):
  Calls Tryz.prog 24 #[.agg cs.toArray] w (fun e w'=> ∃ v,e=.returned v∧SlP w' v .i64 .i64 (CQ s.cs)∧Below w.heap.size w w'):=by
 obtain⟨vf,vc,vw,rfl,hf,hc,hw⟩:=hs
 obtain⟨ca,cc,rfl,hcn,hcc⟩:=hc.shape
 have HC0:=Ag hc
 obtain⟨cn,hcn'⟩:∃ n,s.cs.length=n:=⟨_,rfl⟩
 have HN:=Ag hcn'
 rw[hcn'] at HC0 hcn ⊢
 obtain⟨R,hR⟩:∃ R,CQ s.cs=R:=⟨_,rfl⟩
 have HR:=Ag hR
 have HL:=Ag hl
 rw[hR] at HL ⊢
 have hcc63:cn≤9223372036854775807:=by unfold maxLen at hcc;omega
 obtain⟨i0,hi0,hz0,hz1,hz2⟩:=info_parts Tryz.infoBe
 have HI:=Ag (Ai hi0 (Ai hz0 (Ai hz1 hz2)))
 clear hf hc hw hl hR hcn' hcn hcc hi0 hz0 hz1 hz2
 go_enter Tryz.func24,Tryz.ntmps24
 go_upto_region 2 with(first
  | ((with_reducible refine Au w rfl 26 (.tmp 0) rfl ([vf,.slice ca cn cc,vw]) rfl ?_);intro a1 hb hbel hsz;have H1:=hJ2 hb hbel;clear hb hbel hsz))
 try simp only[Al,Ad,Ae,Af]
 have c1:=H1.out.1.cell 1
 simp only[Ab,Ac] at c1
 have HG0:=Ag H1.out.1.lt
 go_wp2_with fail
 clear c1
 go_loopw [3,5,7,11] (fun s3 s5 s7 s11 wr=> ∃ (k:Nat) (l:List (Int × Int)) (oz:Option Addr) (pz:Nat),s11=.int .i64 k∧k≤cn∧s3=.slice oz l.length pz∧Hid (l ++ CQ (s.cs.drop k)=R)∧Hid (Blk wr (w.heap.size) 26 ([vf,.slice ca cn cc,vw])∧OwR BlC 2 105 a1.heap.size wr (.slice oz l.length pz) l∧a1.heap.size≤wr.heap.size∧Below w.heap.size w wr)) (fun _ _ _ s11 _=> cn - (intOf s11).toNat)
 case atStart=> exact⟨0,[],none,0,rfl,Nat.zero_le _,rfl,Ag (by rw[List.drop_zero,HR.out];rfl),Ag ⟨H1.out.1,OwR.nil,Ah _,H1.out.2⟩⟩
 case round=>
  clear H1
  obtain⟨k,l,oz,pz,rfl,hk,rfl,HT,HZ⟩:=hrel
  by_cases hlt:k<cn
  ·have hkl:k<s.cs.length:=by rw[HN.out];exact hlt
   have hkz:(k:Int)<(cn:Int):=by omega
   have hk0:(0:Int)≤(k:Int):=by omega
   have HGG:=hJ2 HG0.out HZ.out.2.2.1
   obtain⟨b,o,cs,rfl,-,-,hlen,hra,hci⟩:=HC0.out.get hkl
   have HT2:=Ag (show l ++ ((s.cs[k].us.map fun u=> (s.cs[k].n,u)) ++ CQ (s.cs.drop (k+1)))=R from by rw[←HT.out,List.drop_eq_getElem_cons hkl];rfl)
   generalize s.cs[k]=y at hci HT2
   have HON:=Ag hci.one
   obtain⟨vu,hcs,hus⟩:=hci
   obtain⟨ua,uc,rfl,hu1,hu2,-⟩:=hus.1.nums
   have HUS:=Ag hus
   obtain⟨un,hun⟩:∃ n,y.us.length=n:=⟨_,rfl⟩
   have HUN:=Ag hun
   have HU:=Ag (show cs=ciC y.n y.o (.slice ua un uc) from by rw[hcs,hun])
   have HRA:=Ag (Ai (show wr.rangeAt b (o+k* 3) cs from fun i x hx=> (HZ.out.2.2.2.cell (Am (hra i x hx))).trans (hra i x hx)) hlen)
   have HZL:=Ag (show cs.length=(ciC 0 0 (.slice none 0 0)).length from hlen)
   have hun63:un≤9223372036854775807:=by omega
   clear hra hlen hcs hus hun hu1 hu2 HT hkl
   go_upto_region 5 with(first
  | (with_reducible refine Ap rfl 49 (.tmp 13) rfl b (o+k* 3) rfl cs _ HRA.out.1 Tryz.underlying49 rfl (At Tryz.infoCi HRA.out.2) ?_)
  | ((with_reducible refine Av wr rfl 49 rfl (ciC 0 0 (.slice none 0 0)) Tryz.zeroCi3 ?_);intro x2 hb hbel hsz;have HX2:=Ag (show Blk x2 (w.heap.size) 26 ([vf,.slice (some ⟨b,o,none⟩) cn cc,vw])∧OwR BlC 2 105 a1.heap.size x2 (.slice oz l.length pz) l∧a1.heap.size≤x2.heap.size∧Below w.heap.size w x2∧Blk x2 (wr.heap.size) 49 (ciC 0 0 (.slice none 0 0)) from⟨HZ.out.1.below hbel HZ.out.1.lt,(HZ.out.2.1.keep' (Ch.of_below (S:=fun _=> False) hbel (Ah _)) (fun _ _ e=> e) (fun _ _ _ h=> h)),(Aj HZ.out.2.2.1 hbel.size),(An HZ.out.2.2.2 hbel (Ah _)),hb⟩);clear hb hbel hsz)
  | ((with_reducible refine Ao x2 rfl 49 (.tmp 5) (.tmp 14) rfl (wr.heap.size) 49 (ciC 0 0 (.slice none 0 0)) cs HX2.out.2.2.2.2 rfl rfl HZL.out (At Tryz.infoCi HRA.out.2) HON.out ?_);intro x3 hb hc hs;have HX3:=Ag (show Blk x3 (w.heap.size) 26 ([vf,.slice (some ⟨b,o,none⟩) cn cc,vw])∧OwR BlC 2 105 a1.heap.size x3 (.slice oz l.length pz) l∧a1.heap.size≤x3.heap.size∧Below w.heap.size w x3∧Blk x3 (wr.heap.size) 49 (cs)∧((∀ k,(Value.slice oz l.length pz).ownBlock=some k→k≠wr.heap.size)) from⟨HX2.out.1.keep hc (fun e=> by have e:w.heap.size=wr.heap.size:=e;have:=HGG.out;omega),HX2.out.2.1.keep' hc (fun k hk e=> by have e:k=wr.heap.size:=e;have:=(HZ.out.2.1.lt k hk).2;omega) (fun _ _ _ h=> h),(Aj HX2.out.2.2.1 hc.size),Aw HX2.out.2.2.2.1 hc (Ah _) (fun k hk=> by have e:k=wr.heap.size:=hk;have:=HGG.out;omega),hb,fun k hk e=> by have:=(HZ.out.2.1.lt k hk).2;omega⟩);clear hb hc hs))
   try simp only[Al,Ad,Ae,Af]
   obtain⟨gc,hgc⟩:∃ g,wr.heap.size=g:=⟨_,rfl⟩
   have HGC:=Ag (show a1.heap.size≤gc from by rw[←hgc];exact HGG.out.2)
   have HY0:=HX3
   rw[hgc,HU.out] at HY0
   rw[hgc]
   clear hgc HX2 HX3
   have c2:=HY0.out.2.2.2.2.1.cell 2
   simp only[ciC,Ab,Ac] at c2
   go_wp2_with fail
   clear c2
   go_loopw [3,7,18] (fun s3 s7 s18 wr=> ∃ (j:Nat) (l:List (Int × Int)) (oz:Option Addr) (pz:Nat),s18=.int .i64 j∧j≤un∧s3=.slice oz l.length pz∧Hid (l ++ (((y.us.drop j).map fun u=> (y.n,u)) ++ CQ (s.cs.drop (k+1)))=R)∧Hid (Blk wr (w.heap.size) 26 ([vf,.slice (some ⟨b,o,none⟩) cn cc,vw])∧OwR BlC 2 105 a1.heap.size wr (.slice oz l.length pz) l∧a1.heap.size≤wr.heap.size∧Below w.heap.size w wr∧Blk wr (gc) 49 (ciC y.n y.o (.slice ua un uc))∧((∀ k,(Value.slice oz l.length pz).ownBlock=some k→k≠gc)))) (fun _ _ s18 _=> un - (intOf s18).toNat)
   case atStart=> exact⟨0,l,oz,pz,rfl,Nat.zero_le _,rfl,Ag (by rw[List.drop_zero];exact HT2.out),HY0⟩
   case round=>
    clear HY0 HT2 HZ HRA HGG
    obtain⟨j,l,oz,pz,rfl,hj,rfl,HT,HY⟩:=hrel
    by_cases hlt:j<un
    ·have hjl:j<y.us.length:=by rw[HUN.out];exact hlt
     have hjz:(j:Int)<(un:Int):=by omega
     have hj0:(0:Int)≤(j:Int):=by omega
     obtain⟨ua',uc',e1,-,-,hcl⟩:=(HUS.out.below HY.out.2.2.2.1).1.nums
     obtain⟨ub,uo,e2,-,hcell⟩:=hcl (by omega)
     obtain rfl:ua=ua':=by simpa using (Value.slice.inj e1).1
     subst e2
     have z1:=hcell j hjl
     have c0:=HY.out.2.2.2.2.1.cell 0
     simp only[ciC,Ab,Ac] at c0
     have HT2:=Ag (show(l ++ [(y.n,y.us[j])]) ++ (((y.us.drop (j+1)).map fun u=> (y.n,u)) ++ CQ (s.cs.drop (k+1)))=R from by rw[←HT.out,List.drop_eq_getElem_cons hjl,List.map_cons,List.append_assoc];rfl)
     have HLL:=Ag (show l.length+1≤1000000 from by have h:=congrArg List.length HT2.out;have:=HL.out;simp only[List.length_append,List.length_cons,List.length_nil] at h;omega)
     generalize y.us[j]=ux at z1 HT2
     clear e1 hcl hcell HT hjl
     go_wp2_with (first
      | (with_reducible refine Fe rfl (.tmp 24) (.tmp 25) rfl y.n ux rfl rfl ?_)
      | ((with_reducible refine FT wr rfl (.tmp 26) rfl [.int .i64 y.n,.int .i64 ux] rfl rfl ?_);intro z2 hb hbel hsz;have HX2:=Ag (show Blk z2 (w.heap.size) 26 ([vf,.slice (some ⟨b,o,none⟩) cn cc,vw])∧OwR BlC 2 105 a1.heap.size z2 (.slice oz l.length pz) l∧a1.heap.size≤z2.heap.size∧Below w.heap.size w z2∧Blk z2 (gc) 49 (ciC y.n y.o (.slice (some ⟨ub,uo,none⟩) un uc))∧((∀ k,(Value.slice oz l.length pz).ownBlock=some k→k≠gc))∧Blk z2 (wr.heap.size) 105 ([.int .i64 y.n,.int .i64 ux]) from⟨HY.out.1.below hbel HY.out.1.lt,(HY.out.2.1.keep' (Ch.of_below (S:=fun _=> False) hbel (Ah _)) (fun _ _ e=> e) (fun _ _ _ h=> h)),(Aj HY.out.2.2.1 hbel.size),(An HY.out.2.2.2.1 hbel (Ah _)),HY.out.2.2.2.2.1.below hbel HY.out.2.2.2.2.1.lt,HY.out.2.2.2.2.2,hb⟩);clear hb hbel hsz)
      | (at_builtin;refine Bv rfl (.tmp 22) (.tmp 27) 69 rfl Tryz.underlying69 i0 _ 16 HI.out.1 HI.out.2.1 HI.out.2.2.1 HI.out.2.2.2 rfl (by omega) (r:=[(y.n,ux)]) (F:=fun _=> True) (C':=BlC) HX2.out.2.1 rfl rfl (RwC.of_one HX2.out.2.2.2.2.2.2 trivial rfl rfl) (fun cs a _ h u hu=> by unfold BlC at h;subst h;simp only[List.mem_cons,List.not_mem_nil,or_false] at hu;rcases hu with rfl|rfl <;> rfl) (l ++ [(y.n,ux)]).length (by simp) (by have:=HLL.out;simp;omega) (by omega) HX2.out.2.2.1 (fun _ _ _ _ _ h=> h) ?_))
     intro oy py z3 hown hc hob
     have HX:=Ag (show Blk z3 (w.heap.size) 26 ([vf,.slice (some ⟨b,o,none⟩) cn cc,vw])∧OwR BlC 2 105 a1.heap.size z3 (.slice oy (l.length+1) py) (l ++ [(y.n,ux)])∧a1.heap.size≤z3.heap.size∧Below w.heap.size w z3∧Blk z3 (gc) 49 (ciC y.n y.o (.slice (some ⟨ub,uo,none⟩) un uc))∧((∀ k,(Value.slice oy (l.length+1) py).ownBlock=some k→k≠gc)) from⟨HX2.out.1.keep hc (fun e=> by have h:=(HX2.out.2.1.lt _ e).1;have:=HG0.out;omega),hown,(Aj HX2.out.2.2.1 hc.size),Aw HX2.out.2.2.2.1 hc (Ah _) (fun k hk=> by have h:=(HX2.out.2.1.lt k hk).1;have:=HG0.out;omega),HX2.out.2.2.2.2.1.keep hc (fun e=> HX2.out.2.2.2.2.2.1 _ e rfl),fun k hk e=> by
      rcases hob with h|h
      ·rw[h] at hk;exact HX2.out.2.2.2.2.2.1 k hk e
      ·rw[h] at hk;injection hk with hk;have:=HX2.out.2.2.2.2.1.lt;omega⟩)
     clear hown hc hob
     go_wp2_with fail
     go_roundw
     case measure=> simp[intOf];omega
     case rel=>
      have e:(l ++ [(y.n,ux)]).length=l.length+1:=by simp
      exact⟨j+1,l ++ [(y.n,ux)],oy,py,by go_num,by omega,by rw[e],HT2,by rw[e];exact HX⟩
    ·have hge:¬ (j:Int)<(un:Int):=by omega
     have HT2:=Ag (show l ++ CQ (s.cs.drop (k+1))=R from by rw[←HT.out,show y.us.drop j=[] from List.drop_of_length_le (by rw[HUN.out];omega)];simp)
     go_wp2_with fail
     go_roundw
     case measure=> simp[intOf];omega
     case rel=> exact⟨k+1,l,oz,pz,by go_num,by omega,rfl,HT2,Ag ⟨HY.out.1,HY.out.2.1,HY.out.2.2.1,HY.out.2.2.2.1⟩⟩
  ·have hge:¬ (k:Int)<(cn:Int):=by omega
   have HE:=Ag (show l=R from by rw[←HT.out,List.drop_of_length_le (by rw[HN.out];omega)];simp[CQ])
   go_wp2_with fail
   go_ret
   exact⟨_,rfl,by rw[←HE.out];exact HZ.out.2.1.slP,HZ.out.2.2.2⟩
theorem Ci (w:World) {ops:Array Oper} {rest:List Oper} {o:Oper} {a:Act} {Q:Exit→Act→World→Prop} (hgd:o.guard=none) (x:Operand) (ho:o.op=.buildSlice 24 1 #[(0,x)]) (cs:List Value) (hcs:cs.length=9)
  (hx:a.eval x=.agg cs.toArray) (h:∀ w',Blk w' w.heap.size 56 cs→Below w.heap.size w w'→w'.heap.size=w.heap.size+1→wpList Tryz.prog ops Q rest (a.put o.dst (.slice (some ⟨w.heap.size,0,none⟩) 1 1)) w'):wpList Tryz.prog ops Q (o::rest) a w:=
 Bk w hgd 24 x ho Tryz.underlying24 (fun w=> by kernel_rfl) (zs:=(wrC ⟨#[]⟩ 0 0 0 (tmC 0 0 0 ⟨#[]⟩ (.slice none 0 0))).toArray) (fun w=> by kernel_rfl) (by decide) (by decide) cs hcs hx h
theorem Tryz.zeroWr9:∀ w,(zeroValue 56).run Tryz.prog w=.ok (.agg (wrC ⟨#[]⟩ 0 0 0 (tmC 0 0 0 ⟨#[]⟩ (.slice none 0 0))).toArray) w:=fun w=> by kernel_rfl
section
variable {w0 w w':World} {m0 xs:List Nat} {bp:Nat} {bt:TypeId} {cells cells':List Value} {vf vc vw vf' vc' vw':Value} {fs fs':List FileM} {cv cv':List CirV} {ws ws':List WrM} {ex:List (List Value × Tm)}
theorem OwnX.exadd (h:OwnX w0 m0 xs w bp bt cells vf vc vw fs cv ws ex) {cs:List Value} {t:Tm} (ht:TmC (Fz xs (msL bp vf vc vw cv) w) w cs t):OwnX w0 m0 xs w bp bt cells vf vc vw fs cv ws ((cs,t)::ex):=
 ⟨h.ch,h.nd,h.sub,h.ax,h.bl,h.rf,h.rc,h.rw,fun p hp=> by
  rcases List.mem_cons.1 hp with rfl|hp
  ·exact ht
  ·exact h.ex p hp⟩
theorem DP {ops:Array Oper} {rest:List Oper} {o:Oper} {a:Act} {Q:Exit→Act→World→Prop} (hgd:o.guard=none) (s x':Operand) (ho:o.op=.call {callee:=.builtin .append,args:=#[s,x'],argTypes:=#[24,24]})
  (h:OwnX w0 m0 xs w bp bt cells vf vc vw fs cv ws ex) (hs:a.eval s=vw) {b:Nat} {cs:List Value} {x:WrM} (hx:a.eval x'=.slice (some ⟨b,0,none⟩) 1 1) (hb:Blk w b 56 cs) (hw:WrC (Fz xs (msL bp vf vc vw cv) w) w cs x) (hn:ws.length≤1000000)
  (hK:∀ ao c w',OwnX w0 m0 xs w' bp bt cells vf vc (.slice ao (ws.length+1) c) fs cv (ws ++ [x]) ex→Ch (fun k=> vw.ownBlock=some k) w w'→wpList Tryz.prog ops Q rest (a.put o.dst (.slice ao (ws.length+1) c)) w'):wpList Tryz.prog ops Q (o::rest) a w:=by
 obtain⟨i0,hi,hz0,hz1,hz2⟩:=info_parts Tryz.infoRW
 have hN:∀ k,Fz xs (msL bp vf vc vw cv) w k→¬ (vw.ownBlock=some k):=fun k hk e=> hk.1.2 (GR k (AF.2 e))
 refine Bv hgd s x' 24 ho Tryz.underlying24 i0 _ 104 hi hz0 hz1 hz2 rfl (by omega) (C':=WrC (Fz xs (msL bp vf vc vw cv) w)) h.rw hs hx (r:=[x]) (RwC.of_one (F:=fun _=> True) hb trivial hw.len hw) (fun cs a _ h=> h.one) (ws.length+1) (by simp) (by omega) (by omega) (Nat.zero_le _) (fun w' hc cs a _ hf=> hf.keep' hc hN (idf _)) ?_
 intro ao c w' hown hc hob
 have hob':(Value.slice ao (ws.length+1) c).ownBlock=vw.ownBlock∨∀ k,(Value.slice ao (ws.length+1) c).ownBlock=some k→w.heap.size≤k:=hob.imp id (fun h k hk=> by rw[h] at hk;injection hk with hk;omega)
 exact hK ao c w' (h.newW hc hob' (fun _=> hown.mono (Ah _) (fun cs a _ hf=> hf.mono (frz hc.size (msL_w (Ik hob' GR) (fun k hk=> .inl hk)))))) hc
theorem OwnX.elF {g n c i:Nat} {f:FileM} (h:OwnX w0 m0 xs w bp bt cells (.slice (some ⟨g,0,none⟩) n c) vc vw (fs.set i f) cv ws ex) (hi:i<fs.length):g<w.heap.size∧∃ vr vq vg tc,
  w.rangeAt g (i* 14) (flC f.nm f.p.o f.p.e vr vq vg f.v f.e f.u tc)∧PmF (Fz xs (msL bp (.slice (some ⟨g,0,none⟩) n c) vc vw cv) w) w f.p vr vq vg∧TmC (Fz xs (msL bp (.slice (some ⟨g,0,none⟩) n c) vc vw cv) w) w tc f.b∧w.there g (i* 14) 14∧
  (∀ x,OwnX w0 m0 xs (w.setCells g (i* 14+6) [.int .i64 x]) bp bt cells (.slice (some ⟨g,0,none⟩) n c) vc vw (fs.set i ⟨f.nm,f.p,x,f.e,f.u,f.b⟩) cv ws ex)∧
  (∀ x,OwnX w0 m0 xs (w.setCells g (i* 14+7) [.int .i64 x]) bp bt cells (.slice (some ⟨g,0,none⟩) n c) vc vw (fs.set i ⟨f.nm,f.p,f.v,x,f.u,f.b⟩) cv ws ex)∧
  (∀ x,OwnX w0 m0 xs (w.setCells g (i* 14+8) [.int .i64 x]) bp bt cells (.slice (some ⟨g,0,none⟩) n c) vc vw (fs.set i ⟨f.nm,f.p,f.v,f.e,x,f.b⟩) cv ws ex)∧
  (∀ tc' b',TmC (Fz xs (msL bp (.slice (some ⟨g,0,none⟩) n c) vc vw cv) w) w tc' b'→OwnX w0 m0 xs (w.setCells g (i* 14+9) tc') bp bt cells (.slice (some ⟨g,0,none⟩) n c) vc vw (fs.set i ⟨f.nm,f.p,f.v,f.e,f.u,b'⟩) cv ws ex)∧
  (∀ p' ur uq ug,PmF (Fz xs (msL bp (.slice (some ⟨g,0,none⟩) n c) vc vw cv) w) w p' ur uq ug→OwnX w0 m0 xs (w.setCells g (i* 14+1) (pmC p'.o p'.e ur uq ug)) bp bt cells (.slice (some ⟨g,0,none⟩) n c) vc vw (fs.set i ⟨f.nm,p',f.v,f.e,f.u,f.b⟩) cv ws ex):=by
 have hi':i<(fs.set i f).length:=by rw[List.length_set];exact hi
 obtain⟨hg,cs,hl,hra,hf,hth,hput⟩:=h.putF hi'
 rw[List.getElem_set_self] at hf
 obtain⟨vr,vq,vg,tc,rfl,hp,ht⟩:=hf
 have hput':∀ q new f',q+new.length≤14→FlC (Fz xs (msL bp (.slice (some ⟨g,0,none⟩) n c) vc vw cv) w) w (AU (flC f.nm f.p.o f.p.e vr vq vg f.v f.e f.u tc) q new) f'→OwnX w0 m0 xs (w.setCells g (i* 14+q) new) bp bt cells (.slice (some ⟨g,0,none⟩) n c) vc vw (fs.set i f') cv ws ex:=fun q new f' h1 h2=> by
  have:=hput q new f' h1 h2
  rw[List.set_set] at this
  exact this
 refine⟨hg,vr,vq,vg,tc,hra,hp,ht,hth,fun x=> hput' 6 _ _ (by simp) ⟨vr,vq,vg,tc,rfl,hp,ht⟩,fun x=> hput' 7 _ _ (by simp) ⟨vr,vq,vg,tc,rfl,hp,ht⟩,fun x=> hput' 8 _ _ (by simp) ⟨vr,vq,vg,tc,rfl,hp,ht⟩,fun tc' b' ht'=> hput' 9 _ _ (by rw[ht'.len];omega) ⟨vr,vq,vg,tc',?_,hp,ht'⟩,fun p' ur uq ug hp'=> hput' 1 _ _ (by simp[pmC]) ⟨ur,uq,ug,tc,rfl,hp',ht⟩⟩
 exact Gs _ _ _ _ _ _ _ _ _ _ _ (by rw[ht.len,ht'.len])
theorem OwnX.ne {g:Nat} (h:OwnX w0 m0 xs w bp bt cells vf vc vw fs cv ws ex) (hg:g∈xs):g≠bp∧g∉ob vf∧g∉ob vc∧g∉ob vw∧g∉ubs cv:=
 ⟨fun e=> (h.ax g hg).1 (e ▸ of_b),fun e=> (h.ax g hg).1 (FR g e),fun e=> (h.ax g hg).1 (FS g e),fun e=> (h.ax g hg).1 (GR g e),fun e=> (h.ax g hg).1 (Gt g e)⟩
end
end Go.Proofs.YtgdlfiphihaooaaGreat

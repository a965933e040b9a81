import Derived.Test.YtgdlfiphihaooaaGreatYq7
import Derived.RangeFuncNested
import Derived.RangeFuncBound
import Derived.RangeFuncCalls
import Derived.RangeFuncLeaves
import Derived.Shelf.Abstract
import Derived.Shelf.RegionOpen
import Derived.OwnWalkIn
import Derived.TacticsInMore
import Derived.LoopNIn
import Derived.LoopIn
set_option linter.unusedSimpArgs false
set_option linter.unusedVariables false
set_option maxRecDepth 100000
set_option maxHeartbeats 8000000
open _root_.List renaming getElem?_toArray→Aa,getElem?_cons_zero→Ab,getElem?_cons_succ→Ac,setIfInBounds_toArray→Ad,set_cons_zero→Ae,set_cons_succ→Af
open _root_.Go.Lib renaming hid→Ag
open _root_.Nat renaming le_refl→Ah,le_trans→Aj,lt_of_lt_of_le→Ak
open _root_.And renaming intro→Ai
open _root_.Go.Act renaming put→Al
namespace Go.Proofs.YtgdlfiphihaooaaGreat
open Go Go.RowKit Go.Sort
theorem CI {P:Int→Bool} {l:List Int} (h:BK P l=true):l.Pairwise (·<·):=by
 have hs:∀ i (hi:i+1<l.length),l[i]<l[i+1]:=fun i hi=> by
  have h1:=List.all_eq_true.1 h (i+1) (by simpa using hi)
  unfold Cz at h1
  rw[CA hi,show i+1 - 1=i by omega,CA (show i<l.length by omega)] at h1
  simp at h1
  exact h1.2
 refine List.pairwise_iff_getElem.2 fun i j hi hj hij=> ?_
 obtain⟨d,rfl⟩:∃ d,j=i+1+d:=⟨j - (i+1),by omega⟩
 clear hij
 induction d with
 | zero=> exact hs i hj
 | succ d ih=> exact Int.lt_trans (ih (by omega)) (hs (i+1+d) hj)
theorem Ce {p:PmD} (h:okB p=true) (hl:PmL p):PmR p∧PmE p:=by
 unfold okB at h
 simp only[Bool.and_eq_true,decide_eq_true_eq] at h
 exact⟨⟨CI h.2.2.2.1,CI h.2.2.2.2.1,CI h.2.2.2.2.2.1,hl⟩,h.2.1,h.2.2.1⟩
theorem FL (args:Array Value) (w:World):Sem.run Tryz.prog (callFunc 106 args) w=.ok (.enter 106 args) w:=
 AP Tryz.func106 (by kernel_rfl) (by kernel_rfl) args w
theorem JY (p:PmD) (by_:Int) (who:Int) (write:Bool) (vr vq vg:Value) (w:World) (hp:PmS w p vr vq vg) (hl:PmL p):
  Calls Tryz.prog 88 #[.agg (pmC p.o p.e vr vq vg).toArray,.int .i64 by_,.int .i64 who,.bool write] w (EM w (Bj p (B9 p by_ who write))):=by
 obtain⟨R,hR⟩:∃ R,Bj p (B9 p by_ who write)=R:=⟨_,rfl⟩
 have HP:=Ag (Ai hp (Ai hl hR))
 rw[hR]
 obtain⟨ra,rc,rfl,-⟩:=hp.1.nums
 obtain⟨qa,qc,rfl,-⟩:=hp.2.1.nums
 obtain⟨ga,gc,rfl,-⟩:=hp.2.2.nums
 obtain⟨o,pe,pr,pq,pg⟩:=p
 simp only at HP ⊢
 generalize pr.length=rl at HP ⊢
 generalize pq.length=ql at HP ⊢
 generalize pg.length=gl at HP ⊢
 clear hp hl hR
 go_enter Tryz.func88,Tryz.ntmps88
 go_wp2_with (first
  | ((with_reducible refine Au w rfl 43 (.tmp 0) rfl (pmC o pe (.slice ra rl rc) (.slice qa ql qc) (.slice ga gl gc)) rfl ?_);intro w1 hb hbel hsz;have H1:=hJ2 hb hbel;clear hb hbel hsz)
  | ((with_reducible refine A5 w1 rfl 3 (.tmp 1) rfl (.int .i64 by_) rfl rfl ?_);intro w2 hb hbel hsz;have H2:=Ag (show Blk w2 w.heap.size 43 ((pmC o pe (.slice ra rl rc) (.slice qa ql qc) (.slice ga gl gc)))∧Below w.heap.size w w2∧w2.cell? ⟨w1.heap.size,0,none⟩=some (.int .i64 by_) from⟨H1.out.1.below hbel H1.out.1.lt,An H1.out.2 hbel (Ah _),hb.cell 0⟩);clear hb hbel hsz)
  | ((with_reducible refine A5 w2 rfl 3 (.tmp 2) rfl (.int .i64 who) rfl rfl ?_);intro w3 hb hbel hsz;have H3:=Ag (show Blk w3 w.heap.size 43 ((pmC o pe (.slice ra rl rc) (.slice qa ql qc) (.slice ga gl gc)))∧Below w.heap.size w w3∧w3.cell? ⟨w1.heap.size,0,none⟩=some (.int .i64 by_)∧w3.cell? ⟨w2.heap.size,0,none⟩=some (.int .i64 who) from⟨H2.out.1.below hbel H2.out.1.lt,An H2.out.2.1 hbel (Ah _),(hbel.cell (p:=⟨w1.heap.size,0,none⟩) (Am H2.out.2.2)).trans H2.out.2.2,hb.cell 0⟩);clear hb hbel hsz)
  | ((with_reducible refine A5 w3 rfl 4 (.tmp 3) rfl (.bool write) rfl rfl ?_);intro w4 hb hbel hsz;have H4:=Ag (show Blk w4 w.heap.size 43 ((pmC o pe (.slice ra rl rc) (.slice qa ql qc) (.slice ga gl gc)))∧Below w.heap.size w w4∧w4.cell? ⟨w1.heap.size,0,none⟩=some (.int .i64 by_)∧w4.cell? ⟨w2.heap.size,0,none⟩=some (.int .i64 who)∧w4.cell? ⟨w3.heap.size,0,none⟩=some (.bool write) from⟨H3.out.1.below hbel H3.out.1.lt,An H3.out.2.1 hbel (Ah _),(hbel.cell (p:=⟨w1.heap.size,0,none⟩) (Am H3.out.2.2.1)).trans H3.out.2.2.1,(hbel.cell (p:=⟨w2.heap.size,0,none⟩) (Am H3.out.2.2.2)).trans H3.out.2.2.2,hb.cell 0⟩);clear hb hbel hsz)
  | ((with_reducible refine Av w4 rfl 43 rfl (pmC 0 0 (.slice none 0 0) (.slice none 0 0) (.slice none 0 0)) Tryz.zeroPm ?_);intro w5 hb hbel hsz;have H5:=hJ7 (H4.out.1.below hbel H4.out.1.lt) (An H4.out.2.1 hbel (Ah _)) ((hbel.cell (p:=⟨w1.heap.size,0,none⟩) (Am H4.out.2.2.1)).trans H4.out.2.2.1) ((hbel.cell (p:=⟨w2.heap.size,0,none⟩) (Am H4.out.2.2.2.1)).trans H4.out.2.2.2.1) ((hbel.cell (p:=⟨w3.heap.size,0,none⟩) (Am H4.out.2.2.2.2)).trans H4.out.2.2.2.2) hb H4.out.2.1.size;clear hb hbel hsz)
  | (with_reducible refine Ap rfl 43 (.tmp 4) rfl w.heap.size 0 rfl (pmC o pe (.slice ra rl rc) (.slice qa ql qc) (.slice ga gl gc)) _ (As H5.out.1) Tryz.underlying43 rfl (Ay _ _ _ _ _) ?_))
 refine(D9 ⟨o,pe,pr,pq,pg⟩ (B9 ⟨o,pe,pr,pq,pg⟩ by_ who write) 106 [.pointer (some ⟨w1.heap.size,0,none⟩),.pointer (some ⟨w2.heap.size,0,none⟩),.pointer (some ⟨w3.heap.size,0,none⟩)] _ _ _ w5 (HP.out.1.below H5.out.2.1) HP.out.2.1 FL (fun hok wz g B xr xq xg hbl hge hB hab hblk hps hoff=> I2 ⟨o,pe,pr,pq,pg⟩ by_ who write w1.heap.size w2.heap.size w3.heap.size g B xr xq xg wz hblk hps hoff hab hB (Ce hok HP.out.2.1).1 ((hbl.cell (p:=⟨w1.heap.size,0,none⟩) (Am H5.out.2.2.1)).trans H5.out.2.2.1) (fun e=> by have:=Am H5.out.2.2.1;simp only at this;omega) ((hbl.cell (p:=⟨w2.heap.size,0,none⟩) (Am H5.out.2.2.2.1)).trans H5.out.2.2.2.1) (fun e=> by have:=Am H5.out.2.2.2.1;simp only at this;omega) ((hbl.cell (p:=⟨w3.heap.size,0,none⟩) (Am H5.out.2.2.2.2.1)).trans H5.out.2.2.2.2.1) (fun e=> by have:=Am H5.out.2.2.2.2.1;simp only at this;omega))).mono ?_
 rw[HP.out.2.2]
 rintro e wy ⟨xr,xq,xg,rfl,hs,hb,hab⟩
 obtain⟨xa,xc,rfl,-⟩:=hs.1.shape
 obtain⟨ya,yc,rfl,-⟩:=hs.2.1.shape
 obtain⟨za,zc,rfl,-⟩:=hs.2.2.shape
 generalize (ofK .i64 R.1.r).length=xl at hs hab ⊢
 generalize (ofK .i64 R.1.q).length=yl at hs hab ⊢
 generalize (ofK .i64 R.1.g).length=zl at hs hab ⊢
 have HY:=hJ3 hs (H5.out.2.2.2.2.2.1.below hb H5.out.2.2.2.2.2.1.lt) (An H5.out.2.1 hb (Ah _))
 have HO:=Ag (show Off w4.heap.size (.slice xa xl xc) (.slice ya yl yc) (.slice za zl zc)∧BH w.heap.size (.slice xa xl xc) (.slice ya yl yc) (.slice za zl zc) from⟨⟨fun k hk e=> by have:=hab.1 k hk;have:=H5.out.2.2.2.2.2.1.lt;omega,fun k hk e=> by have:=hab.2.1 k hk;have:=H5.out.2.2.2.2.2.1.lt;omega,fun k hk e=> by have:=hab.2.2 k hk;have:=H5.out.2.2.2.2.2.1.lt;omega⟩,hab.mono H5.out.2.1.size⟩)
 clear hs hb hab
 go_wp2_with ((with_reducible refine Ao wy rfl 43 (.tmp 8) (.tmp 13) rfl w4.heap.size 43 (pmC 0 0 (.slice none 0 0) (.slice none 0 0) (.slice none 0 0)) (pmC R.1.o R.1.e (.slice xa xl xc) (.slice ya yl yc) (.slice za zl zc)) HY.out.2.1 rfl rfl rfl (Ay _ _ _ _ _) (Bn _ _ _ _ _ _ _ _ _ _ _) ?_);intro w9 hb hc hs;have H9:=hJ2 hb hc;clear hb hc hs)
 refine bodyPost_ret (AR Tryz.results88 _ _ w4.heap.size _ _ rfl H9.out.1 _ Tryz.underlying43 rfl (Ay _ _ _ _ _) _ rfl) rfl ?_
 exact⟨_,_,_,rfl,HY.out.1.ch H9.out.2 HO.out.1,Aw HY.out.2.2 H9.out.2 (Ah _) (fun k hk=> by have e:k=w4.heap.size:=hk;have:=H5.out.2.2.2.2.2.2;omega),HO.out.2⟩
theorem FM (args:Array Value) (w:World):Sem.run Tryz.prog (callFunc 108 args) w=.ok (.enter 108 args) w:=
 AP Tryz.func108 (by kernel_rfl) (by kernel_rfl) args w
theorem KD (p:PmD) (by_:Int) (who:Int) (vr vq vg:Value) (w:World) (hp:PmS w p vr vq vg) (hl:PmL p):
  Calls Tryz.prog 89 #[.agg (pmC p.o p.e vr vq vg).toArray,.int .i64 by_,.int .i64 who] w (EM w (Bj p (Cv p by_ who))):=by
 obtain⟨R,hR⟩:∃ R,Bj p (Cv p by_ who)=R:=⟨_,rfl⟩
 have HP:=Ag (Ai hp (Ai hl hR))
 rw[hR]
 obtain⟨ra,rc,rfl,-⟩:=hp.1.nums
 obtain⟨qa,qc,rfl,-⟩:=hp.2.1.nums
 obtain⟨ga,gc,rfl,-⟩:=hp.2.2.nums
 obtain⟨o,pe,pr,pq,pg⟩:=p
 simp only at HP ⊢
 generalize pr.length=rl at HP ⊢
 generalize pq.length=ql at HP ⊢
 generalize pg.length=gl at HP ⊢
 clear hp hl hR
 go_enter Tryz.func89,Tryz.ntmps89
 go_wp2_with (first
  | ((with_reducible refine Au w rfl 43 (.tmp 0) rfl (pmC o pe (.slice ra rl rc) (.slice qa ql qc) (.slice ga gl gc)) rfl ?_);intro w1 hb hbel hsz;have H1:=hJ2 hb hbel;clear hb hbel hsz)
  | ((with_reducible refine A5 w1 rfl 3 (.tmp 1) rfl (.int .i64 by_) rfl rfl ?_);intro w2 hb hbel hsz;have H2:=Ag (show Blk w2 w.heap.size 43 ((pmC o pe (.slice ra rl rc) (.slice qa ql qc) (.slice ga gl gc)))∧Below w.heap.size w w2∧w2.cell? ⟨w1.heap.size,0,none⟩=some (.int .i64 by_) from⟨H1.out.1.below hbel H1.out.1.lt,An H1.out.2 hbel (Ah _),hb.cell 0⟩);clear hb hbel hsz)
  | ((with_reducible refine A5 w2 rfl 3 (.tmp 2) rfl (.int .i64 who) rfl rfl ?_);intro w3 hb hbel hsz;have H3:=Ag (show Blk w3 w.heap.size 43 ((pmC o pe (.slice ra rl rc) (.slice qa ql qc) (.slice ga gl gc)))∧Below w.heap.size w w3∧w3.cell? ⟨w1.heap.size,0,none⟩=some (.int .i64 by_)∧w3.cell? ⟨w2.heap.size,0,none⟩=some (.int .i64 who) from⟨H2.out.1.below hbel H2.out.1.lt,An H2.out.2.1 hbel (Ah _),(hbel.cell (p:=⟨w1.heap.size,0,none⟩) (Am H2.out.2.2)).trans H2.out.2.2,hb.cell 0⟩);clear hb hbel hsz)
  | ((with_reducible refine Av w3 rfl 43 rfl (pmC 0 0 (.slice none 0 0) (.slice none 0 0) (.slice none 0 0)) Tryz.zeroPm ?_);intro w4 hb hbel hsz;have H4:=hJ6 (H3.out.1.below hbel H3.out.1.lt) (An H3.out.2.1 hbel (Ah _)) ((hbel.cell (p:=⟨w1.heap.size,0,none⟩) (Am H3.out.2.2.1)).trans H3.out.2.2.1) ((hbel.cell (p:=⟨w2.heap.size,0,none⟩) (Am H3.out.2.2.2)).trans H3.out.2.2.2) hb H3.out.2.1.size;clear hb hbel hsz)
  | (with_reducible refine Ap rfl 43 (.tmp 3) rfl w.heap.size 0 rfl (pmC o pe (.slice ra rl rc) (.slice qa ql qc) (.slice ga gl gc)) _ (As H4.out.1) Tryz.underlying43 rfl (Ay _ _ _ _ _) ?_))
 refine(D9 ⟨o,pe,pr,pq,pg⟩ (Cv ⟨o,pe,pr,pq,pg⟩ by_ who) 108 [.pointer (some ⟨w1.heap.size,0,none⟩),.pointer (some ⟨w2.heap.size,0,none⟩)] _ _ _ w4 (HP.out.1.below H4.out.2.1) HP.out.2.1 FM (fun hok wz g B xr xq xg hbl hge hB hab hblk hps hoff=> JX ⟨o,pe,pr,pq,pg⟩ by_ who w1.heap.size w2.heap.size g B xr xq xg wz hblk hps hoff hab hB (Ce hok HP.out.2.1).1 (Ce hok HP.out.2.1).2 ((hbl.cell (p:=⟨w1.heap.size,0,none⟩) (Am H4.out.2.2.1)).trans H4.out.2.2.1) (fun e=> by have:=Am H4.out.2.2.1;simp only at this;omega) ((hbl.cell (p:=⟨w2.heap.size,0,none⟩) (Am H4.out.2.2.2.1)).trans H4.out.2.2.2.1) (fun e=> by have:=Am H4.out.2.2.2.1;simp only at this;omega))).mono ?_
 rw[HP.out.2.2]
 rintro e wy ⟨xr,xq,xg,rfl,hs,hb,hab⟩
 obtain⟨xa,xc,rfl,-⟩:=hs.1.shape
 obtain⟨ya,yc,rfl,-⟩:=hs.2.1.shape
 obtain⟨za,zc,rfl,-⟩:=hs.2.2.shape
 generalize (ofK .i64 R.1.r).length=xl at hs hab ⊢
 generalize (ofK .i64 R.1.q).length=yl at hs hab ⊢
 generalize (ofK .i64 R.1.g).length=zl at hs hab ⊢
 have HY:=hJ3 hs (H4.out.2.2.2.2.1.below hb H4.out.2.2.2.2.1.lt) (An H4.out.2.1 hb (Ah _))
 have HO:=Ag (show Off w3.heap.size (.slice xa xl xc) (.slice ya yl yc) (.slice za zl zc)∧BH w.heap.size (.slice xa xl xc) (.slice ya yl yc) (.slice za zl zc) from⟨⟨fun k hk e=> by have:=hab.1 k hk;have:=H4.out.2.2.2.2.1.lt;omega,fun k hk e=> by have:=hab.2.1 k hk;have:=H4.out.2.2.2.2.1.lt;omega,fun k hk e=> by have:=hab.2.2 k hk;have:=H4.out.2.2.2.2.1.lt;omega⟩,hab.mono H4.out.2.1.size⟩)
 clear hs hb hab
 go_wp2_with ((with_reducible refine Ao wy rfl 43 (.tmp 6) (.tmp 11) rfl w3.heap.size 43 (pmC 0 0 (.slice none 0 0) (.slice none 0 0) (.slice none 0 0)) (pmC R.1.o R.1.e (.slice xa xl xc) (.slice ya yl yc) (.slice za zl zc)) HY.out.2.1 rfl rfl rfl (Ay _ _ _ _ _) (Bn _ _ _ _ _ _ _ _ _ _ _) ?_);intro w9 hb hc hs;have H9:=hJ2 hb hc;clear hb hc hs)
 refine bodyPost_ret (AR Tryz.results89 _ _ w3.heap.size _ _ rfl H9.out.1 _ Tryz.underlying43 rfl (Ay _ _ _ _ _) _ rfl) rfl ?_
 exact⟨_,_,_,rfl,HY.out.1.ch H9.out.2 HO.out.1,Aw HY.out.2.2 H9.out.2 (Ah _) (fun k hk=> by have e:k=w3.heap.size:=hk;have:=H4.out.2.2.2.2.2;omega),HO.out.2⟩
theorem FN (args:Array Value) (w:World):Sem.run Tryz.prog (callFunc 111 args) w=.ok (.enter 111 args) w:=
 AP Tryz.func111 (by kernel_rfl) (by kernel_rfl) args w
theorem Gk (p:PmD) (by_:Int) (n:Int) (vr vq vg:Value) (w:World) (hp:PmS w p vr vq vg) (hl:PmL p):
  Calls Tryz.prog 90 #[.agg (pmC p.o p.e vr vq vg).toArray,.int .i64 by_,.int .i64 n] w (EM w (Bj p (Cn p by_ n))):=by
 obtain⟨R,hR⟩:∃ R,Bj p (Cn p by_ n)=R:=⟨_,rfl⟩
 have HP:=Ag (Ai hp (Ai hl hR))
 rw[hR]
 obtain⟨ra,rc,rfl,-⟩:=hp.1.nums
 obtain⟨qa,qc,rfl,-⟩:=hp.2.1.nums
 obtain⟨ga,gc,rfl,-⟩:=hp.2.2.nums
 obtain⟨o,pe,pr,pq,pg⟩:=p
 simp only at HP ⊢
 generalize pr.length=rl at HP ⊢
 generalize pq.length=ql at HP ⊢
 generalize pg.length=gl at HP ⊢
 clear hp hl hR
 go_enter Tryz.func90,Tryz.ntmps90
 go_wp2_with (first
  | ((with_reducible refine Au w rfl 43 (.tmp 0) rfl (pmC o pe (.slice ra rl rc) (.slice qa ql qc) (.slice ga gl gc)) rfl ?_);intro w1 hb hbel hsz;have H1:=hJ2 hb hbel;clear hb hbel hsz)
  | ((with_reducible refine A5 w1 rfl 3 (.tmp 1) rfl (.int .i64 by_) rfl rfl ?_);intro w2 hb hbel hsz;have H2:=Ag (show Blk w2 w.heap.size 43 ((pmC o pe (.slice ra rl rc) (.slice qa ql qc) (.slice ga gl gc)))∧Below w.heap.size w w2∧w2.cell? ⟨w1.heap.size,0,none⟩=some (.int .i64 by_) from⟨H1.out.1.below hbel H1.out.1.lt,An H1.out.2 hbel (Ah _),hb.cell 0⟩);clear hb hbel hsz)
  | ((with_reducible refine A5 w2 rfl 3 (.tmp 2) rfl (.int .i64 n) rfl rfl ?_);intro w3 hb hbel hsz;have H3:=Ag (show Blk w3 w.heap.size 43 ((pmC o pe (.slice ra rl rc) (.slice qa ql qc) (.slice ga gl gc)))∧Below w.heap.size w w3∧w3.cell? ⟨w1.heap.size,0,none⟩=some (.int .i64 by_)∧w3.cell? ⟨w2.heap.size,0,none⟩=some (.int .i64 n) from⟨H2.out.1.below hbel H2.out.1.lt,An H2.out.2.1 hbel (Ah _),(hbel.cell (p:=⟨w1.heap.size,0,none⟩) (Am H2.out.2.2)).trans H2.out.2.2,hb.cell 0⟩);clear hb hbel hsz)
  | ((with_reducible refine Av w3 rfl 43 rfl (pmC 0 0 (.slice none 0 0) (.slice none 0 0) (.slice none 0 0)) Tryz.zeroPm ?_);intro w4 hb hbel hsz;have H4:=hJ6 (H3.out.1.below hbel H3.out.1.lt) (An H3.out.2.1 hbel (Ah _)) ((hbel.cell (p:=⟨w1.heap.size,0,none⟩) (Am H3.out.2.2.1)).trans H3.out.2.2.1) ((hbel.cell (p:=⟨w2.heap.size,0,none⟩) (Am H3.out.2.2.2)).trans H3.out.2.2.2) hb H3.out.2.1.size;clear hb hbel hsz)
  | (with_reducible refine Ap rfl 43 (.tmp 3) rfl w.heap.size 0 rfl (pmC o pe (.slice ra rl rc) (.slice qa ql qc) (.slice ga gl gc)) _ (As H4.out.1) Tryz.underlying43 rfl (Ay _ _ _ _ _) ?_))
 refine(D9 ⟨o,pe,pr,pq,pg⟩ (Cn ⟨o,pe,pr,pq,pg⟩ by_ n) 111 [.pointer (some ⟨w1.heap.size,0,none⟩),.pointer (some ⟨w2.heap.size,0,none⟩)] _ _ _ w4 (HP.out.1.below H4.out.2.1) HP.out.2.1 FN (fun hok wz g B xr xq xg hbl hge hB hab hblk hps hoff=> FK ⟨o,pe,pr,pq,pg⟩ by_ n w1.heap.size w2.heap.size g B xr xq xg wz hblk hps hoff hab hB (Ce hok HP.out.2.1).1 (Ce hok HP.out.2.1).2 ((hbl.cell (p:=⟨w1.heap.size,0,none⟩) (Am H4.out.2.2.1)).trans H4.out.2.2.1) (fun e=> by have:=Am H4.out.2.2.1;simp only at this;omega) ((hbl.cell (p:=⟨w2.heap.size,0,none⟩) (Am H4.out.2.2.2.1)).trans H4.out.2.2.2.1) (fun e=> by have:=Am H4.out.2.2.2.1;simp only at this;omega))).mono ?_
 rw[HP.out.2.2]
 rintro e wy ⟨xr,xq,xg,rfl,hs,hb,hab⟩
 obtain⟨xa,xc,rfl,-⟩:=hs.1.shape
 obtain⟨ya,yc,rfl,-⟩:=hs.2.1.shape
 obtain⟨za,zc,rfl,-⟩:=hs.2.2.shape
 generalize (ofK .i64 R.1.r).length=xl at hs hab ⊢
 generalize (ofK .i64 R.1.q).length=yl at hs hab ⊢
 generalize (ofK .i64 R.1.g).length=zl at hs hab ⊢
 have HY:=hJ3 hs (H4.out.2.2.2.2.1.below hb H4.out.2.2.2.2.1.lt) (An H4.out.2.1 hb (Ah _))
 have HO:=Ag (show Off w3.heap.size (.slice xa xl xc) (.slice ya yl yc) (.slice za zl zc)∧BH w.heap.size (.slice xa xl xc) (.slice ya yl yc) (.slice za zl zc) from⟨⟨fun k hk e=> by have:=hab.1 k hk;have:=H4.out.2.2.2.2.1.lt;omega,fun k hk e=> by have:=hab.2.1 k hk;have:=H4.out.2.2.2.2.1.lt;omega,fun k hk e=> by have:=hab.2.2 k hk;have:=H4.out.2.2.2.2.1.lt;omega⟩,hab.mono H4.out.2.1.size⟩)
 clear hs hb hab
 go_wp2_with ((with_reducible refine Ao wy rfl 43 (.tmp 6) (.tmp 11) rfl w3.heap.size 43 (pmC 0 0 (.slice none 0 0) (.slice none 0 0) (.slice none 0 0)) (pmC R.1.o R.1.e (.slice xa xl xc) (.slice ya yl yc) (.slice za zl zc)) HY.out.2.1 rfl rfl rfl (Ay _ _ _ _ _) (Bn _ _ _ _ _ _ _ _ _ _ _) ?_);intro w9 hb hc hs;have H9:=hJ2 hb hc;clear hb hc hs)
 refine bodyPost_ret (AR Tryz.results90 _ _ w3.heap.size _ _ rfl H9.out.1 _ Tryz.underlying43 rfl (Ay _ _ _ _ _) _ rfl) rfl ?_
 exact⟨_,_,_,rfl,HY.out.1.ch H9.out.2 HO.out.1,Aw HY.out.2.2 H9.out.2 (Ah _) (fun k hk=> by have e:k=w3.heap.size:=hk;have:=H4.out.2.2.2.2.2;omega),HO.out.2⟩
theorem FO (args:Array Value) (w:World):Sem.run Tryz.prog (callFunc 112 args) w=.ok (.enter 112 args) w:=
 AP Tryz.func112 (by kernel_rfl) (by kernel_rfl) args w
theorem GP (p:PmD) (by_:Int) (n:Int) (vr vq vg:Value) (w:World) (hp:PmS w p vr vq vg) (hl:PmL p):
  Calls Tryz.prog 91 #[.agg (pmC p.o p.e vr vq vg).toArray,.int .i64 by_,.int .i64 n] w (EM w (Bj p (CY p by_ n))):=by
 obtain⟨R,hR⟩:∃ R,Bj p (CY p by_ n)=R:=⟨_,rfl⟩
 have HP:=Ag (Ai hp (Ai hl hR))
 rw[hR]
 obtain⟨ra,rc,rfl,-⟩:=hp.1.nums
 obtain⟨qa,qc,rfl,-⟩:=hp.2.1.nums
 obtain⟨ga,gc,rfl,-⟩:=hp.2.2.nums
 obtain⟨o,pe,pr,pq,pg⟩:=p
 simp only at HP ⊢
 generalize pr.length=rl at HP ⊢
 generalize pq.length=ql at HP ⊢
 generalize pg.length=gl at HP ⊢
 clear hp hl hR
 go_enter Tryz.func91,Tryz.ntmps91
 go_wp2_with (first
  | ((with_reducible refine Au w rfl 43 (.tmp 0) rfl (pmC o pe (.slice ra rl rc) (.slice qa ql qc) (.slice ga gl gc)) rfl ?_);intro w1 hb hbel hsz;have H1:=hJ2 hb hbel;clear hb hbel hsz)
  | ((with_reducible refine A5 w1 rfl 3 (.tmp 1) rfl (.int .i64 by_) rfl rfl ?_);intro w2 hb hbel hsz;have H2:=Ag (show Blk w2 w.heap.size 43 ((pmC o pe (.slice ra rl rc) (.slice qa ql qc) (.slice ga gl gc)))∧Below w.heap.size w w2∧w2.cell? ⟨w1.heap.size,0,none⟩=some (.int .i64 by_) from⟨H1.out.1.below hbel H1.out.1.lt,An H1.out.2 hbel (Ah _),hb.cell 0⟩);clear hb hbel hsz)
  | ((with_reducible refine A5 w2 rfl 3 (.tmp 2) rfl (.int .i64 n) rfl rfl ?_);intro w3 hb hbel hsz;have H3:=Ag (show Blk w3 w.heap.size 43 ((pmC o pe (.slice ra rl rc) (.slice qa ql qc) (.slice ga gl gc)))∧Below w.heap.size w w3∧w3.cell? ⟨w1.heap.size,0,none⟩=some (.int .i64 by_)∧w3.cell? ⟨w2.heap.size,0,none⟩=some (.int .i64 n) from⟨H2.out.1.below hbel H2.out.1.lt,An H2.out.2.1 hbel (Ah _),(hbel.cell (p:=⟨w1.heap.size,0,none⟩) (Am H2.out.2.2)).trans H2.out.2.2,hb.cell 0⟩);clear hb hbel hsz)
  | ((with_reducible refine Av w3 rfl 43 rfl (pmC 0 0 (.slice none 0 0) (.slice none 0 0) (.slice none 0 0)) Tryz.zeroPm ?_);intro w4 hb hbel hsz;have H4:=hJ6 (H3.out.1.below hbel H3.out.1.lt) (An H3.out.2.1 hbel (Ah _)) ((hbel.cell (p:=⟨w1.heap.size,0,none⟩) (Am H3.out.2.2.1)).trans H3.out.2.2.1) ((hbel.cell (p:=⟨w2.heap.size,0,none⟩) (Am H3.out.2.2.2)).trans H3.out.2.2.2) hb H3.out.2.1.size;clear hb hbel hsz)
  | (with_reducible refine Ap rfl 43 (.tmp 3) rfl w.heap.size 0 rfl (pmC o pe (.slice ra rl rc) (.slice qa ql qc) (.slice ga gl gc)) _ (As H4.out.1) Tryz.underlying43 rfl (Ay _ _ _ _ _) ?_))
 refine(D9 ⟨o,pe,pr,pq,pg⟩ (CY ⟨o,pe,pr,pq,pg⟩ by_ n) 112 [.pointer (some ⟨w1.heap.size,0,none⟩),.pointer (some ⟨w2.heap.size,0,none⟩)] _ _ _ w4 (HP.out.1.below H4.out.2.1) HP.out.2.1 FO (fun hok wz g B xr xq xg hbl hge hB hab hblk hps hoff=> Gj ⟨o,pe,pr,pq,pg⟩ by_ n w1.heap.size w2.heap.size g B xr xq xg wz hblk hps hoff hab hB (Ce hok HP.out.2.1).1 (Ce hok HP.out.2.1).2 ((hbl.cell (p:=⟨w1.heap.size,0,none⟩) (Am H4.out.2.2.1)).trans H4.out.2.2.1) (fun e=> by have:=Am H4.out.2.2.1;simp only at this;omega) ((hbl.cell (p:=⟨w2.heap.size,0,none⟩) (Am H4.out.2.2.2.1)).trans H4.out.2.2.2.1) (fun e=> by have:=Am H4.out.2.2.2.1;simp only at this;omega))).mono ?_
 rw[HP.out.2.2]
 rintro e wy ⟨xr,xq,xg,rfl,hs,hb,hab⟩
 obtain⟨xa,xc,rfl,-⟩:=hs.1.shape
 obtain⟨ya,yc,rfl,-⟩:=hs.2.1.shape
 obtain⟨za,zc,rfl,-⟩:=hs.2.2.shape
 generalize (ofK .i64 R.1.r).length=xl at hs hab ⊢
 generalize (ofK .i64 R.1.q).length=yl at hs hab ⊢
 generalize (ofK .i64 R.1.g).length=zl at hs hab ⊢
 have HY:=hJ3 hs (H4.out.2.2.2.2.1.below hb H4.out.2.2.2.2.1.lt) (An H4.out.2.1 hb (Ah _))
 have HO:=Ag (show Off w3.heap.size (.slice xa xl xc) (.slice ya yl yc) (.slice za zl zc)∧BH w.heap.size (.slice xa xl xc) (.slice ya yl yc) (.slice za zl zc) from⟨⟨fun k hk e=> by have:=hab.1 k hk;have:=H4.out.2.2.2.2.1.lt;omega,fun k hk e=> by have:=hab.2.1 k hk;have:=H4.out.2.2.2.2.1.lt;omega,fun k hk e=> by have:=hab.2.2 k hk;have:=H4.out.2.2.2.2.1.lt;omega⟩,hab.mono H4.out.2.1.size⟩)
 clear hs hb hab
 go_wp2_with ((with_reducible refine Ao wy rfl 43 (.tmp 6) (.tmp 11) rfl w3.heap.size 43 (pmC 0 0 (.slice none 0 0) (.slice none 0 0) (.slice none 0 0)) (pmC R.1.o R.1.e (.slice xa xl xc) (.slice ya yl yc) (.slice za zl zc)) HY.out.2.1 rfl rfl rfl (Ay _ _ _ _ _) (Bn _ _ _ _ _ _ _ _ _ _ _) ?_);intro w9 hb hc hs;have H9:=hJ2 hb hc;clear hb hc hs)
 refine bodyPost_ret (AR Tryz.results91 _ _ w3.heap.size _ _ rfl H9.out.1 _ Tryz.underlying43 rfl (Ay _ _ _ _ _) _ rfl) rfl ?_
 exact⟨_,_,_,rfl,HY.out.1.ch H9.out.2 HO.out.1,Aw HY.out.2.2 H9.out.2 (Ah _) (fun k hk=> by have e:k=w3.heap.size:=hk;have:=H4.out.2.2.2.2.2;omega),HO.out.2⟩
def I3 (n:Int):PmD × Int:=if AX n=true then (⟨n,1,[],[],[]⟩,0) else (noP,2)
theorem Tryz.buildPm2 (o:Int):∀ w,(Instr.build 43 #[(0,.int .i64 o),(1,.int .i64 1)]).run Tryz.prog w=.ok (.agg (pmC o 1 (.slice none 0 0) (.slice none 0 0) (.slice none 0 0)).toArray) w:=fun w=> by kernel_rfl
theorem Fd {ops:Array Oper} {rest:List Oper} {op:Oper} {a:Act} {w:World} {Q:Exit→Act→World→Prop} (hgd:op.guard=none) (x0:Operand) (ho:op.op=.build 43 #[(0,x0),(1,.const (.int .i64 1))]) (o:Int) (h0:a.eval x0=.int .i64 o)
  (h:wpList Tryz.prog ops Q rest (a.put op.dst (.agg (pmC o 1 (.slice none 0 0) (.slice none 0 0) (.slice none 0 0)).toArray)) w):wpList Tryz.prog ops Q (op::rest) a w:=by
 refine wpList_plain hgd fun K hK=> ?_
 have hrun:(execOp a.eval op).run Tryz.prog w=.ok (.value (.agg (pmC o 1 (.slice none 0 0) (.slice none 0 0) (.slice none 0 0)).toArray)) w:=by
  unfold execOp
  simp only[ho]
  rw[show(#[((0:Nat),x0),(1,.const (.int .i64 1))].map fun (i,x)=> (i,a.eval x))=#[(0,.int .i64 o),(1,.int .i64 1)] by simp only[List.map_toArray,List.map_cons,List.map_nil,h0];rfl]
  simp[Tryz.buildPm2,Result.andThen]
 unfold Oper.wp
 rw[hrun]
 exact hK _ _ h
theorem Lx (n:Int) (w:World):Calls Tryz.prog 92 #[.int .i64 n] w (EM w (I3 n)):=by
 have HU:=Ag (Dz n)
 obtain⟨R,hR⟩:∃ R,I3 n=R:=⟨_,rfl⟩
 obtain⟨u,hu⟩:∃ u,AX n=u:=⟨_,rfl⟩
 have HR:=Ag (show R=if u=true then (⟨n,1,[],[],[]⟩,0) else (noP,2) by rw[←hR,←hu];rfl)
 rw[hR]
 rw[hu] at HU
 clear hR hu
 cases u
 ·have HE:=Ag (show R=(noP,2) from HR.out)
  go_enter Tryz.func92,Tryz.ntmps92
  go_wp2_with ((with_reducible refine Av w rfl 43 rfl (pmC 0 0 (.slice none 0 0) (.slice none 0 0) (.slice none 0 0)) Tryz.zeroPm ?_);intro w1 hb hbel hsz;have H1:=Ag (Ai hb hbel);clear hb hbel hsz)
  refine(HU.out w1).mono ?_
  rintro e w' ⟨rfl,rfl⟩
  go_wp2_with (first
  | ((with_reducible refine Bi rfl rfl ?_))
  | ((with_reducible refine Ao w1 rfl 43 (.tmp 2) (.tmp 7) rfl w.heap.size 43 (pmC 0 0 (.slice none 0 0) (.slice none 0 0) (.slice none 0 0)) (pmC 0 0 (.slice none 0 0) (.slice none 0 0) (.slice none 0 0)) H1.out.1 rfl rfl rfl (Ay _ _ _ _ _) (Bn _ _ _ _ _ _ _ _ _ _ _) ?_);intro w2 hb hc hs;have H2:=Ag (Ai hb hc);clear hb hc hs))
  rw[HE.out]
  refine bodyPost_ret (AR Tryz.results92 _ _ w.heap.size _ _ rfl H2.out.1 _ Tryz.underlying43 rfl (Ay _ _ _ _ _) _ rfl) rfl ?_
  exact⟨_,_,_,rfl,⟨Sl.nil _,Sl.nil _,Sl.nil _⟩,Aw H1.out.2 H2.out.2 (Ah _) (fun k hk=> by have e:k=w.heap.size:=hk;omega),BH.nil _⟩
 ·have HE:=Ag (show R=(⟨n,1,[],[],[]⟩,0) from HR.out)
  go_enter Tryz.func92,Tryz.ntmps92
  go_wp2_with ((with_reducible refine Av w rfl 43 rfl (pmC 0 0 (.slice none 0 0) (.slice none 0 0) (.slice none 0 0)) Tryz.zeroPm ?_);intro w1 hb hbel hsz;have H1:=Ag (Ai hb hbel);clear hb hbel hsz)
  refine(HU.out w1).mono ?_
  rintro e w' ⟨rfl,rfl⟩
  go_wp2_with (first
  | ((with_reducible refine Fd rfl (.tmp 8) rfl n rfl ?_))
  | ((with_reducible refine Ao w1 rfl 43 (.tmp 2) (.tmp 9) rfl w.heap.size 43 (pmC 0 0 (.slice none 0 0) (.slice none 0 0) (.slice none 0 0)) (pmC n 1 (.slice none 0 0) (.slice none 0 0) (.slice none 0 0)) H1.out.1 rfl rfl rfl (Ay _ _ _ _ _) (Bn _ _ _ _ _ _ _ _ _ _ _) ?_);intro w2 hb hc hs;have H2:=Ag (Ai hb hc);clear hb hc hs))
  rw[HE.out]
  refine bodyPost_ret (AR Tryz.results92 _ _ w.heap.size _ _ rfl H2.out.1 _ Tryz.underlying43 rfl (Ay _ _ _ _ _) _ rfl) rfl ?_
  exact⟨_,_,_,rfl,⟨Sl.nil _,Sl.nil _,Sl.nil _⟩,Aw H1.out.2 H2.out.2 (Ah _) (fun k hk=> by have e:k=w.heap.size:=hk;omega),BH.nil _⟩
def Dt (p:PmD) (n:Int):Bool:=okB p && (n==p.o ||p.q.any (n==·))
theorem C7 (p:PmD) (n:Int) (vr vq vg:Value) (w:World) (hp:PmS w p vr vq vg):
  Calls Tryz.prog 13 #[.agg (pmC p.o p.e vr vq vg).toArray,.int .i64 n] w (fun e w'=> e=.returned (.bool (Dt p n))∧Below w.heap.size w w'):=by
 have HP:=Ag hp
 obtain⟨R,hR⟩:∃ R,Dt p n=R:=⟨_,rfl⟩
 rw[hR]
 obtain⟨b,hb⟩:∃ b,okB p=b:=⟨_,rfl⟩
 have HB:=Ag hb
 have hR2:R=(b && (n==p.o ||p.q.any (n==·))):=by rw[←hR,←hb];rfl
 obtain⟨ra,rc,rfl,-⟩:=hp.1.nums
 obtain⟨qa,qc,rfl,-⟩:=hp.2.1.nums
 obtain⟨ga,gc,rfl,-⟩:=hp.2.2.nums
 obtain⟨o,pe,pr,pq,pg⟩:=p
 simp only at HP hb hR2 ⊢
 obtain⟨rl,e1⟩:∃ n,pr.length=n:=⟨_,rfl⟩
 obtain⟨ql,e2⟩:∃ n,pq.length=n:=⟨_,rfl⟩
 obtain⟨gl,e3⟩:∃ n,pg.length=n:=⟨_,rfl⟩
 have HLN:=hJ3 e1 e2 e3
 rw[e1,e2,e3] at HP ⊢
 obtain⟨m,hm⟩:∃ m,pq.any (n==·)=m:=⟨_,rfl⟩
 have HM:=Ag hm
 rw[hm] at hR2
 have HR:=Ag hR2
 have HBB:=Ag hb
 clear hp hR hR2 hb hm e1 e2 e3
 go_enter Tryz.func13,Tryz.ntmps13
 go_wp2_with (first
  | ((with_reducible refine Au w rfl 43 (.tmp 0) rfl (pmC o pe (.slice ra rl rc) (.slice qa ql qc) (.slice ga gl gc)) rfl ?_);intro w1 hb hbel hsz;have H1:=hJ3 hb (HP.out.below hbel) hbel;clear hb hbel hsz)
  | (with_reducible refine Ap rfl 43 (.tmp 2) rfl w.heap.size 0 rfl (pmC o pe (.slice ra rl rc) (.slice qa ql qc) (.slice ga gl gc)) _ (As H1.out.1) Tryz.underlying43 rfl (Ay _ _ _ _ _) ?_))
 have hck:=EK ⟨o,pe,pr,pq,pg⟩ b HBB.out _ _ _ w1 H1.out.2.1
 refine hck.mono ?_
 clear hck
 rintro e w2 ⟨rfl,hb2⟩
 have H2:=Ag (show Blk w2 w.heap.size 43 (pmC o pe (.slice ra rl rc) (.slice qa ql qc) (.slice ga gl gc))∧PmS w2 ⟨o,pe,pr,pq,pg⟩ (.slice ra rl rc) (.slice qa ql qc) (.slice ga gl gc)∧Below w.heap.size w w2 from⟨H1.out.1.below hb2 H1.out.1.lt,H1.out.2.1.below hb2,An H1.out.2.2 hb2 (Ah _)⟩)
 clear hb2
 cases b
 ·have HE:=Ag (show R=false from HR.out)
  go_wp2_with fail
  go_ret
  exact⟨by rw[HE.out];rfl,H2.out.2.2⟩
 ·have HE:=Ag (show R=(n==o ||m) from HR.out)
  have c0:=H2.out.1.cell 0
  have c3:=H2.out.1.cell 3
  simp only[pmC,Ab,Ac] at c0 c3
  obtain⟨z,hz⟩:∃ z,(n==o)=z:=⟨_,rfl⟩
  rw[hz] at HE
  have hcc:=AM n _ pq w2 H2.out.2.1.2.1
  rw[HM.out] at hcc
  have HCC:=Ag hcc
  clear hcc
  cases z
  ·go_wp2_with fail
   refine HCC.out.mono ?_
   rintro e w' ⟨rfl,rfl⟩
   go_wp2_with fail
   go_ret
   exact⟨by rw[HE.out];rfl,H2.out.2.2⟩
  ·go_wp2_with fail
   go_ret
   exact⟨by rw[HE.out];rfl,H2.out.2.2⟩
theorem BR {P:Program} {ops:Array Oper} {rest:List Oper} {op:Oper} {a:Act} {w:World} {Q:Exit→Act→World→Prop} (hgd:Region.wanted op (yielded ops a.tmps)=true) (ty:TypeId) (x:Operand) (ho:op.op=.load ty x)
  (b o:Nat) (hx:a.eval x=.pointer (some ⟨b,o,none⟩)) (cs:List Value) (d:TypeDesc) (hc:w.rangeAt b o cs)
  (hu:P.underlying ty=some d) (hd:d.isRow=true) (hi:(P.info? ty).map (·.size)=some cs.length)
  (h:wpList P ops Q rest (a.put op.dst (.agg cs.toArray)) w):wpList P ops Q (op::rest) a w:=
 wpList_step fun _ hK=> by rw[if_pos hgd];exact wp_load_mid ty x ho b o hx cs d hc hu hd hi (hK _ _ h)
theorem Ly {g B:Nat} {vr vq vg:Value} (h:BH B vr vq vg) (hg:g<B):Off g vr vq vg:=⟨fun k hk e=> by have:=h.1 k hk;omega,fun k hk e=> by have:=h.2.1 k hk;omega,fun k hk e=> by have:=h.2.2 k hk;omega⟩
theorem I4 {f:FuncId} {args:Array Value} {w:World} {p:PmD} {e:Int} (h:Calls Tryz.prog f args w (EM w (p,e))):
 Calls Tryz.prog f args w (fun en w'=> ∃ vr vq vg,en=.returned (.tuple #[.agg (pmC p.o p.e vr vq vg).toArray,.int .i64 e])∧PmS w' p vr vq vg∧Below w.heap.size w w'∧BH w.heap.size vr vq vg):=h
structure WideF (F:Fence):Prop where
 fn:∀ f,F.fn f
 dep:F.depth.isSome=false
 calls:∀ {n:Nat} {P:Program} {f:FuncId} {args:Array Value} {w:World} {R:Ending→World→Prop},Calls P f args w R→CallsIn F n P f args w R
 rows:∀ {n:Nat} {P:Program} {row:String} {args:Array Value} {w:World} {R:Value→World→Prop},Rows P row args w R→RowsIn F n P row args w R
theorem WideF.wide:WideF Fence.wide:=⟨fun _=> trivial,rfl,fun h=> callsIn_wide.2 h,fun h c cs _=> let ⟨v,w',r,s⟩:=h c cs;⟨v,w',r,stepsIn_wide.2 s⟩⟩
theorem WideF.round (l:Nat):WideF (Fence.wide.inRound l):=⟨fun _=> trivial,rfl,fun h=> CallsIn.inRound l (callsIn_wide.2 h),fun h=> WideF.wide.rows h⟩
def QN (K:Act→World→Prop):Exit→Act→World→Prop
 | .normal,a,w=> K a w
 | _,_,_=> False
theorem QN.normal {K:Act→World→Prop} {a:Act} {w:World} (h:K a w):QN K .normal a w:=h
theorem QN.noPanic {K:Act→World→Prop}:∀ c a a' w,QN K (.panic c) a' w→QN K (.panic c) a w:=fun _ _ _ _ h=> (h:False).elim
theorem QN.letsOut {K:Act→World→Prop}:¬ LetsOut (QN K):=fun ⟨_,_,h⟩=> h
section
variable {F:Fence} {n:Nat} {P:Program} {ops:Array Oper} {K:Act→World→Prop} {Q:Exit→Act→World→Prop}
theorem Jy (hF:WideF F) {o:Oper} (hd:∀ c,o.op≠.defer c) {N:Act→World→Prop} {a:Act} {w:World} (h:o.wp P a w N (QN K)):o.wpIn F n P a w N Q:=by
 refine⟨fun f _=> hF.fn f,?_⟩
 rw[Oper.semAt_plain F _ _ hd]
 unfold Oper.wp at h
 generalize (execOp a.eval o).run P w=r at h
 have hdep:F.depth.isSome=true→1≤n:=fun e=> by rw[hF.dep] at e;cases e
 cases r with
 | ok m w'=>
  cases m with
  | value v=> exact h
  | skip=> exact h
  | defer d=> exact h
  | enter f args=>
   refine⟨hdep,hF.calls (Calls.mono h ?_)⟩
   intro e w'' he
   cases e with
   | returned v=> exact he
   | panicked c=> exact(he:False).elim
   | outgrown=> exact(QN.letsOut he).elim
  | row row args=> exact⟨hdep,hF.rows h⟩
  | _=> exact(h:False).elim
 | halt x w'=>
  cases x <;> exact(h:False).elim
theorem CR (hF:WideF F) {o:Oper} {rest:List Oper} (hd:∀ c,o.op≠.defer c) {a:Act} {w:World} (h:wpList P ops (QN (wpListIn F n P ops Q rest)) [o] a w):wpListIn F n P ops Q (o::rest) a w:=by
 unfold wpList at h
 unfold wpListIn
 split at h
 ·rename_i hw
  rw[if_pos hw]
  refine Jy hF hd (K:=wpListIn F n P ops Q rest) (Oper.wp_mono (fun _ _ h=> h) (h.elim (fun h=> h) (fun h=> (QN.letsOut h.2).elim)))
 ·rename_i hw
  rw[if_neg hw]
  exact⟨fun f _=> hF.fn f,h⟩
theorem DD {a:Act} {w:World} (h:K a w):wpList P ops (QN K) [] a w:=h
theorem Lz (hF:WideF F) (hd:∀ o∈ops.toList,∀ c,o.op≠.defer c) {i:Nat} {N N':Act→World→Prop} (hN:∀ a w,N a w→N' a w) {a:Act} {w:World} (h:wpOp P ops (QN K) i N a w):wpOpIn F n P ops Q i N' a w:=by
 unfold wpOp at h
 unfold wpOpIn
 cases ho:ops[i]? with
 | none=> rw[ho] at h;exact hN _ _ h
 | some o=>
  rw[ho] at h
  simp only at h ⊢
  split at h
  ·rename_i hw
   rw[if_pos hw]
   refine Jy hF (hd o (Array.mem_toList_iff.2 (Array.mem_of_getElem? ho))) (K:=K) (Oper.wp_mono hN (h.elim (fun h=> h) (fun h=> (QN.letsOut h.2).elim)))
  ·rename_i hw
   rw[if_neg hw]
   exact⟨fun f _=> hF.fn f,hN _ _ h⟩
theorem Ic (hF:WideF F) (hd:∀ o∈ops.toList,∀ c,o.op≠.defer c) (hQ:∀ a w,K a w→Q .normal a w) {md:Region.Mode}:∀ (fuel:Nat) (listed:Array Bool) (a:Act) (w:World),wpAny P md ops (QN K) fuel listed a w→wpAnyIn F n P md ops Q fuel listed a w
 | 0,_,_,_,h=> ⟨h.1,hQ _ _ h.2⟩
 | fuel+1,_,_,_,h=> ⟨fun e=> hQ _ _ (h.1 e),fun i hi=> Lz hF hd (fun a' w' h'=> Ic hF hd hQ fuel _ a' w' h') (h.2 i hi)⟩
end
section
variable {F:Fence} {n:Nat} {P:Program} {ops:Array Oper} {Q:Exit→Act→World→Prop} {rest:List Oper} {o:Oper} {a:Act}
theorem EN (hF:WideF F) (w:World) (hgd:o.guard=none) (ty:TypeId) (x:Operand) (ho:o.op=.load ty x)
  (b f:Nat) (hx:a.eval x=.pointer (some ⟨b,f,none⟩)) (cs:List Value) (d:TypeDesc) (hc:w.rangeAt b f cs)
  (hu:P.underlying ty=some d) (hd:d.isRow=true) (hi:(P.info? ty).map (·.size)=some cs.length)
  (h:wpListIn F n P ops Q rest (a.put o.dst (.agg cs.toArray)) w):wpListIn F n P ops Q (o::rest) a w:=
 CR hF (by rw[ho];intro c h;cases h) (Ap (by simp[Region.wanted,hgd]) ty x ho b f hx cs d hc hu hd hi (DD h))
theorem Eg (hF:WideF F) (w:World) (hgd:o.guard=none) (t:TypeId) (ho:o.op=.alloc t) (zs:List Value) (hz:∀ w,(zeroValue t).run P w=.ok (.agg zs.toArray) w)
  (h:∀ w',Blk w' w.heap.size t zs→Below w.heap.size w w'→w'.heap.size=w.heap.size+1→wpListIn F n P ops Q rest (a.put o.dst (.pointer (some ⟨w.heap.size,0,none⟩))) w'):wpListIn F n P ops Q (o::rest) a w:=
 CR hF (by rw[ho];intro c h;cases h) (Av w hgd t ho zs hz fun w' h1 h2 h3=> DD (h w' h1 h2 h3))
theorem DE (hF:WideF F) (w:World) (hgd:o.guard=none) (ty:TypeId) (x y:Operand) (ho:o.op=.store ty x y)
  (g:Nat) (e:TypeId) (xs cells:List Value) (hb:Blk w g e xs) (hx:a.eval x=.pointer (some ⟨g,0,none⟩)) (hy:a.eval y=.agg cells.toArray) (hl:cells.length=xs.length) (hi:(P.info? ty).map (·.size)=some cells.length) (h1:∀ v∈cells,v.oneCell'=true)
  (h:∀ w',Blk w' g e cells→Ch (·=g) w w'→w'.heap.size=w.heap.size→wpListIn F n P ops Q rest (a.put o.dst undef) w'):wpListIn F n P ops Q (o::rest) a w:=
 CR hF (by rw[ho];intro c h;cases h) (Ao w hgd ty x y ho g e xs cells hb hx hy hl hi h1 fun w' h1 h2 h3=> DD (h w' h1 h2 h3))
theorem I5 (hF:WideF F) (w:World) (hgd:o.guard=none) (t:TypeId) (x:Operand) (ho:o.op=.buildSlice t 1 #[(0,x)]) {e:TypeId} {k:Nat} {zs:Array Value} (ht:P.underlying t=some (.slice e)) (hs:∀ w,(sizeOf e).run P w=.ok k w) (hz:∀ w,(zeroValue e).run P w=.ok (.agg zs) w) (hn0:0<k) (hn:k≤16777216)
  (cs:List Value) (hcs:cs.length=k) (hx:a.eval x=.agg cs.toArray) (h:∀ w',Blk w' w.heap.size e cs→Below w.heap.size w w'→w'.heap.size=w.heap.size+1→wpListIn F n P ops Q rest (a.put o.dst (.slice (some ⟨w.heap.size,0,none⟩) 1 1)) w'):wpListIn F n P ops Q (o::rest) a w:=
 CR hF (by rw[ho];intro c h;cases h) (Bk w hgd t x ho ht hs hz hn0 hn cs hcs hx fun w' h1 h2 h3=> DD (h w' h1 h2 h3))
end
end Go.Proofs.YtgdlfiphihaooaaGreat
namespace Go.Proofs.YtgdlfiphihaooaaGreat
open Go Go.RowKit
def KE {α:Type} (F:Fence) (n:Nat) (P:Program) (g:Nat) (lb:Array Value) (encs:α→Array Value) (T:α→Nat→Prop) (Pr:List α→α→Nat→World→Prop) (S Sp:List α→Prop) (w:World):Prop:=
 ∀ (l:Nat) (J Jx:List α→World→Prop) (W:World),Below w.heap.size w W→
  (∀ s A B,J s A→Below A.heap.size A B→J s B)→(∀ s A B,Jx s A→Below A.heap.size A B→Jx s B)→
  (∀ pre x W0 W1,J pre W0→Below W0.heap.size W0 W1→Pr pre x W0.heap.size W1→YieldAt F (n - 1) P l (encs x) W1 fun e W'=>
   (e=.returned (.bool true)∧J (pre ++ [x]) W'∧W1.heap.size≤W'.heap.size∧∀ k,T x k→W'.heap[k]?=W1.heap[k]?)∨(e=.returned (.bool false)∧Jx (pre ++ [x]) W'))→
  J [] W→
  CallsIn F n P g (#[.func (.yield l) #[] #[]] ++ lb) W fun e W'=> (∃ v,e=.returned v)∧((∃ xs,S xs∧J xs W')∨(∃ pre,Sp pre∧Jx pre W'))
theorem CB {A B:World} (h:Below A.heap.size A B) (row:Option Nat):A.grownBy B row:=⟨h.os,h.tape,h.output,h.size,fun k hk _=> h.block k hk⟩
section
variable {F:Fence} {n:Nat} {P:Program}
theorem Gl {α:Type} {g:Operand} {ps:Array Tmp} {assign body:Code} {Q:Exit→Act→World→Prop} {a:Act} {w:World}
  (hro:F.round=none) (h1:1≤n) {gf:Nat} {lb:Array Value} (hg:a.eval g=.func (.func gf) #[] lb) (hFg:F.fn gf) (eg:∀ args w,(callFunc gf args).run P w=.ok (.enter gf args) w)
  {encs:α→Array Value} {T:α→Nat→Prop} {Pr:List α→α→Nat→World→Prop} {S Sp:List α→Prop} {w0:World} (hseq:KE F (n - 1) P gf lb encs T Pr S Sp w0)
  (hb0:Below w0.heap.size w0 w) (hps:∀ x,(encs x).size=ps.size)
  (hT:∀ pre x s W k,Pr pre x s W→T x k→k<w.heap.size∨s≤k)
  (hPr:∀ pre x s A B row,Pr pre x s A→A.grownBy B row→(∀ r,row=some r→∃ o:Obj,A.heap[r]?=some o∧o.isCells=false)→Pr pre x s B)
  (I:List α→World→Prop) (Ix:Code→List α→World→Prop) (hI:OwnFrom w.heap.size I) (hIx:∀ c,OwnFrom w.heap.size (Ix c)) (h0:I [] w) (a₁:α→Act)
  (hassign:∀ (l:Nat) (x:α) (W:World) (K:Act→World→Prop),K (a₁ x) W→
   assign.wpIn (F.inRound l) (n - 1 - 1) P (Exit.then K (fun _ _ _=> False)) {tmps:=(ps.zip (encs x)).foldl (fun t (p,v)=> t.setIfInBounds p v) a.tmps,defers:=[]} W)
  (hbody:∀ (l:Nat) (pre:List α) (x:α) (W0 W:World),w.heap.size<l→(∃ r,W0.heap[l]?=some (.loop r))→I pre W0→I pre W→W0.grownBy W (some l)→Pr pre x W0.heap.size W→
   body.wpIn (F.inRound l) (n - 1 - 1) P (ownPostG w.heap.size (fun A B=> ∀ k,T x k→B.heap[k]?=A.heap[k]?) I Ix (pre ++ [x]) W) (a₁ x) W)
  (hdone:∀ (D:Nat) (xs:List α) (W:World),w.heap.size≤D→S xs→I xs W→W.heap[D]?=some (.deferred (some []))→Q .normal {a with defers:={target:=.collected D,args:=#[]}::a.defers} W)
  (hstop:∀ (D:Nat) (c:Code) (pre:List α) (W:World),w.heap.size≤D→Sp pre→Ix c pre W→W.heap[D]?=some (.deferred (some []))→c.wpIn F n P Q {a with defers:={target:=.collected D,args:=#[]}::a.defers} W):
  (Code.rangeFunc g ps assign body).wpIn F n P Q a w:=by
 refine wpIn_rangeFunc fun fn hfn=> ?_
 rw[hro]
 have hnew:=run_enterLoop_outer (P:=P) (w:=w) fn a.tmps ps assign body
 obtain⟨L,hL⟩:∃ L:Loop,L={state:=.ready,pending:=none,fn:=fn,tmps:=a.tmps,params:=ps,assign:=assign,body:=body,defers:=w.heap.size}:=⟨_,rfl⟩
 rw[←hL] at hnew
 have pL:L.pending=none:=by rw[hL]
 have sL:L.state=.ready:=by rw[hL]
 obtain⟨V,hV⟩:∃ V,(w.alloc (.deferred (some []))).alloc (.loop L)=V:=⟨_,rfl⟩
 rw[hV] at hnew
 have hgV:w.grownBy V none:=by rw[←hV];exact(World.grownBy_alloc w (.deferred (some [])) none).trans (World.grownBy_alloc _ (.loop L) none)
 have hloop:V.heap[w.heap.size+1]?=some (.loop L):=by
  rw[←hV]
  have h:=World.alloc_heap_new (w.alloc (.deferred (some []))) (.loop L)
  rwa [World.size_alloc] at h
 have hdef:V.heap[w.heap.size]?=some (.deferred (some [])):=by
  rw[←hV,(World.grownBy_alloc (w.alloc (.deferred (some []))) (.loop L) none).block _ (by simp) (by simp)]
  exact World.alloc_heap_new w _
 have hbV:Below w0.heap.size w0 V:=⟨hgV.os.trans hb0.os,hgV.tape.trans hb0.tape,hgV.output.trans hb0.output,Aj hb0.size hgV.size,fun k hk=> (hgV.block k (Ak hk hb0.size) (by simp)).trans (hb0.block k hk)⟩
 have none_:∀ {A:World} (r:Nat),(none:Option Nat)=some r→w.heap.size≤r∧∃ o:Obj,A.heap[r]?=some o∧o.isCells=false:=fun r e=> by cases e
 have later:∀ {A B:World} {k:Nat} {o:Obj},Below A.heap.size A B→A.heap[k]?=some o→B.heap[k]?=some o:=fun h hk=> (h.block _ (Array.getElem?_eq_some_iff.1 hk).1).trans hk
 refine⟨w.heap.size+1,_,V,{target:=.fn (.func gf) lb,args:=#[.func (.yield (w.heap.size+1)) #[] #[]]},V,gf,#[.func (.yield (w.heap.size+1)) #[] #[]] ++ lb,V,hnew,?_,?_,?_,fun _=> h1,?_⟩
 ·simp only[resolve,hg]
  simp[go_sem]
 ·intro f' hf'
  simp[Target.leads] at hf'
  subst hf'
  exact hFg
 ·simp[invoke,go_sem,eg]
 refine(hseq (w.heap.size+1)
  (fun pre W=> I pre W∧W.heap[w.heap.size+1]?=some (.loop L)∧W.heap[w.heap.size]?=some (.deferred (some [])))
  (fun pre W=> ∃ c,Ix c pre W∧W.heap[w.heap.size+1]?=some (.loop {L with state:=.done,pending:=some c})∧W.heap[w.heap.size]?=some (.deferred (some [])))
  V hbV (fun s A B h hb=> ⟨hI s A B none h.1 (CB hb none) none_,later hb h.2.1,later hb h.2.2⟩)
  (fun s A B h hb=> by
   obtain⟨c,x,y,z⟩:=h
   exact⟨c,hIx c s A B none x (CB hb none) none_,later hb y,later hb z⟩)
  ?_ ⟨hI [] w V none h0 hgV none_,hloop,hdef⟩).mono ?_
 ·rintro pre x W0 W1 ⟨hi0,hl0,hd0⟩ hb01 hpr
  have hlt0:=(Array.getElem?_eq_some_iff.1 hl0).1
  have hl1:=later hb01 hl0
  have hd1:=later hb01 hd0
  have hlt1:=(Array.getElem?_eq_some_iff.1 hl1).1
  have hi1:I pre W1:=hI pre W0 W1 none hi0 (CB hb01 none) none_
  have hy:=run_yield (P:=P) (args:=encs x) hl1 (by rw[hL];exact hps x)
  rw[hL] at hy
  refine⟨fn,_,assign,body,hy,roundIn_of_wpIn hfn (hassign _ x W1 _ ?_)⟩
  clear hy
  refine⟨_,run_beginRound hl1 sL,?_⟩
  obtain⟨W,hW⟩:∃ W,W1.putObj (w.heap.size+1) (.loop {L with state:=.busy})=W:=⟨_,rfl⟩
  rw[hW]
  have hg1:W1.grownBy W (some (w.heap.size+1)):=by rw[←hW];exact grownBy_putObj' _ _ _
  have hl2:W.heap[w.heap.size+1]?=some (.loop {L with state:=.busy}):=by rw[←hW];exact World.putObj_heap_same hlt1
  have hd2:W.heap[w.heap.size]?=some (.deferred (some [])):=(hg1.block _ (by omega) (fun e=> by injection e with e;omega)).trans hd1
  have hrow:∀ r,some (w.heap.size+1)=some r→w.heap.size≤r∧∃ o:Obj,W1.heap[r]?=some o∧o.isCells=false:=fun r e=> by cases e;exact⟨by omega,_,hl1,rfl⟩
  have hi2:I pre W:=hI pre W1 W _ hi1 hg1 hrow
  have hpr2:=hPr pre x _ W1 W _ hpr hg1 (fun r e=> (hrow r e).2)
  have hg0:W0.grownBy W (some (w.heap.size+1)):=(CB hb01 _).trans hg1
  have hTl:∀ k,T x k→k≠w.heap.size+1:=fun k hk e=> by
   rcases hT pre x _ _ k hpr hk with h|h <;> omega
  refine wpIn_mono (hbody _ pre x W0 W (by omega) ⟨_,hl0⟩ hi0 hi2 hg0 hpr2) ?_
  have shut:∀ (c:Option Code) (Z:World),KeepsFrom w.heap.size W Z→
    (Instr.endRound (w.heap.size+1) c).run P Z=.ok (.bool c.isNone) (Z.putObj (w.heap.size+1) (.loop {L with state:=if c.isNone then .ready else .done,pending:=c}))∧
    Z.heap[w.heap.size+1]?=some (.loop {L with state:=.busy})∧
    (Z.putObj (w.heap.size+1) (.loop {L with state:=if c.isNone then .ready else .done,pending:=c})).heap[w.heap.size]?=some (.deferred (some [])):=fun c Z hk=> by
   have hl3:=hk.same _ _ (by omega) hl2 rfl
   have hr3:=run_endRound (P:=P) (r:={L with state:=.busy}) c hl3
   exact⟨hr3,hl3,(World.putObj_heap_other (by omega)).trans (hk.same _ _ (Ah _) hd2 rfl)⟩
  have back:∀ (c:Code) (Z:World),KeepsFrom w.heap.size W Z→Ix c (pre ++ [x]) Z→∃ v Z',(Instr.endRound (w.heap.size+1) (some c)).run P Z=.ok v Z'∧v=.bool false∧∃ c,Ix c (pre ++ [x]) Z'∧Z'.heap[w.heap.size+1]?=some (.loop {L with state:=.done,pending:=some c})∧Z'.heap[w.heap.size]?=some (.deferred (some [])):=fun c Z hk hx=> by
   obtain⟨hr,hl3,hd3⟩:=shut (some c) Z hk
   exact⟨_,_,hr,rfl,c,(hIx c).putObj _ hx (by omega) hl3 rfl,World.putObj_heap_same (Array.getElem?_eq_some_iff.1 hl3).1,hd3⟩
  rintro e a3 Z hp
  cases e with
  | normal=>
   obtain⟨hk,hkp,hi3⟩:=hp
   obtain⟨hr,hl3,hd3⟩:=shut none Z hk
   have hes:({L with state:=.ready,pending:=none}:Loop)=L:=by rw[hL]
   refine⟨_,_,hr,.inl ⟨rfl,⟨hI.putObj _ hi3 (by omega) hl3 rfl,?_,hd3⟩,?_,fun k hTk=> ?_⟩⟩
   ·refine(World.putObj_heap_same (Array.getElem?_eq_some_iff.1 hl3).1).trans ?_
    exact congrArg (fun y=> some (Obj.loop y)) hes
   ·have:=hk.size
    have:=hg1.size
    have:=(grownBy_putObj' Z (w.heap.size+1) (.loop {L with state:=.ready,pending:=none})).size
    exact Aj (Aj ‹W1.heap.size≤W.heap.size› ‹W.heap.size≤Z.heap.size›) this
   ·refine(World.putObj_heap_other (hTl k hTk)).trans ((hkp k hTk).trans ?_)
    rw[←hW]
    exact World.putObj_heap_other (hTl k hTk)
  | ret=>
   obtain⟨v,Z',hr,rfl,h⟩:=back .ret Z hp.1 hp.2
   exact⟨_,_,hr,.inr ⟨rfl,h⟩⟩
  | exit id=>
   obtain⟨v,Z',hr,rfl,h⟩:=back (.exit id) Z hp.1 hp.2
   exact⟨_,_,hr,.inr ⟨rfl,h⟩⟩
  | goto t=>
   obtain⟨v,Z',hr,rfl,h⟩:=back (.goto t) Z hp.1 hp.2
   exact⟨_,_,hr,.inr ⟨rfl,h⟩⟩
  | panic ch=> exact hp.elim
  | outgrown=> exact hp.elim
 ·rintro e Z ⟨⟨v,rfl⟩,(⟨xs,hS,hi,hl,hd⟩|⟨pre,hSp,c,hi,hl,hd⟩)⟩
  ·have hr:=run_endLoop (P:=P) hl (by rw[sL];simp)
   rw[pL] at hr
   exact⟨none,_,hr,hdone _ xs _ (Ah _) hS (hI.putObj _ hi (by omega) hl rfl) ((World.putObj_heap_other (by omega)).trans hd)⟩
  ·exact⟨some c,_,run_endLoop (P:=P) hl (by simp),hstop _ c pre _ (Ah _) hSp ((hIx c).putObj _ hi (by omega) hl rfl) ((World.putObj_heap_other (by omega)).trans hd)⟩
end
end Go.Proofs.YtgdlfiphihaooaaGreat

import Derived.Test.YtgdlfiphihaooaaGreatYq22
import Derived.Test.YtgdlfiphihaooaaGreatYq23
set_option linter.unusedSimpArgs false
set_option linter.unusedVariables false
set_option maxRecDepth 100000
set_option maxHeartbeats 8000000
open _root_.List renaming getElem?_toArray→Aa,getElem?_cons_zero→Ab,getElem?_cons_succ→Ac,setIfInBounds_toArray→Ad,set_cons_zero→Ae,set_cons_succ→Af
open _root_.Go.Lib renaming hid→Ag
open _root_.Nat renaming le_refl→Ah,le_trans→Aj,lt_of_lt_of_le→Ak
open _root_.And renaming intro→Ai
open _root_.Go.Act renaming put→Al
namespace Go.Proofs.YtgdlfiphihaooaaGreat
open Go Go.RowKit Go.Sort Go.Shelf
def NoC (A:World) (row:Option Nat):Prop:=∀ r,row=some r→∃ o:Obj,A.heap[r]?=some o∧o.isCells=false
section
variable {A B:World} {row:Option Nat}
theorem LG {b o:Nat} {cs:List Value} (h:A.rangeAt b o cs) (hg:A.grownBy B row) (hr:NoC A row):B.rangeAt b o cs:=fun j v hv=> Ie (h j v hv) hg hr
theorem G7 {base e size n:Nat} {v:Value} {xs:List Value} (h:A.ownsRow base e size v n xs) (hg:A.grownBy B row) (hr:NoC A row):B.ownsRow base e size v n xs:=by
 obtain⟨h1,h2|⟨g,cap,C,h3,h4,h5,h6⟩⟩:=h
 ·exact⟨h1,.inl h2⟩
 ·refine⟨h1,.inr ⟨g,cap,C,h3,h4,?_,h6⟩⟩
  rw[hg.block g (lt_of_block h5) (fun e=> by
   obtain⟨o,ho,hc⟩:=hr g e.symm
   rw[h5] at ho;cases ho;cases hc)]
  exact h5
theorem RwC.grown {α:Type} {C C':World→List Value→α→Prop} {sz:Nat} {F:Nat→Prop} {v:Value} {l:List α} (h:RwC C sz F A v l) (hg:A.grownBy B row) (hr:NoC A row) (hC:∀ cs,∀ a∈l,C A cs a→C' B cs a):RwC C' sz F B v l:=by
 obtain⟨ao,c,h1,h2,h3,h4⟩:=h
 refine⟨ao,c,h1,h2,h3,fun h0=> ?_⟩
 obtain⟨b,o,e,hF,hb,ha⟩:=h4 h0
 refine⟨b,o,e,hF,Ak hb hg.size,fun j hj=> ?_⟩
 obtain⟨cs,h5,h6,h7⟩:=ha j hj
 exact⟨cs,h5,LG h6 hg hr,hC cs _ (List.getElem_mem hj) h7⟩
theorem TmC.grown {F:Nat→Prop}:∀ (t:Tm) (cs:List Value),TmC F A cs t→A.grownBy B row→NoC A row→TmC F B cs t:=by
 refine Tm.ind fun k u n s ks ih cs h hg hr=> ?_
 obtain⟨v,h1,h2⟩:=B6.1 h
 exact B6.2 ⟨v,h1,(h2.rwc.grown (C':=TmC F) hg hr (fun cs a ha hc=> ih a ha cs hc hg hr)).slt⟩
theorem SlI.grown {F:Nat→Prop} {v:Value} {l:List Int} (h:SlI F A v l) (hg:A.grownBy B row) (hr:NoC A row):SlI F B v l:=⟨h.1.own hg hr,h.2⟩
theorem PmF.grown {F:Nat→Prop} {p:PmD} {vr vq vg:Value} (h:PmF F A p vr vq vg) (hg:A.grownBy B row) (hr:NoC A row):PmF F B p vr vq vg:=⟨h.1.grown hg hr,h.2.1.grown hg hr,h.2.2.grown hg hr⟩
theorem FlC.grown {F:Nat→Prop} {cs:List Value} {f:FileM} (h:FlC F A cs f) (hg:A.grownBy B row) (hr:NoC A row):FlC F B cs f:=by
 obtain⟨vr,vq,vg,tc,h1,h2,h3⟩:=h
 exact⟨vr,vq,vg,tc,h1,h2.grown hg hr,TmC.grown _ _ h3 hg hr⟩
theorem WrC.grown {F:Nat→Prop} {cs:List Value} {f:WrM} (h:WrC F A cs f) (hg:A.grownBy B row) (hr:NoC A row):WrC F B cs f:=by
 obtain⟨tc,h1,h3⟩:=h
 exact⟨tc,h1,TmC.grown _ _ h3 hg hr⟩
theorem CvC.grown {F:Nat→Prop} {cs:List Value} {c:CirV} (h:CvC F A cs c) (hg:A.grownBy B row) (hr:NoC A row):CvC F B cs c:=⟨h.1,fun e=> G7 (h.2.1 e) hg hr,fun e=> (h.2.2 e).grown hg hr⟩
theorem OwR.grown {α:Type} {C C':World→List Value→α→Prop} {sz b:Nat} {ty:TypeId} {v:Value} {l:List α} (h:OwR C sz ty b A v l) (hg:A.grownBy B row) (hr:NoC A row) (hC:∀ cs,∀ a∈l,C A cs a→C' B cs a):OwR C' sz ty b B v l:=by
 obtain⟨css,h1,h2,h3⟩:=h
 exact⟨css,G7 h1 hg hr,h2,fun j a b=> ⟨(h3 j a b).1,hC _ _ (List.getElem_mem b) (h3 j a b).2⟩⟩
theorem OwnX.grown {w0:World} {m0 xs:List Nat} {bp:Nat} {bt:TypeId} {cells:List Value} {vf vc vw:Value} {fs:List FileM} {cv:List CirV} {ws:List WrM} {ex:List (List Value × Tm)}
  (h:OwnX w0 m0 xs A bp bt cells vf vc vw fs cv ws ex) (hg:A.grownBy B row) (hr:NoC A row) (hw:∀ r,row=some r→w0.heap.size≤r):OwnX w0 m0 xs B bp bt cells vf vc vw fs cv ws ex:=by
 have hG:∀ k,Fz xs (msL bp vf vc vw cv) A k→Fz xs (msL bp vf vc vw cv) B k:=fun k hk=> ⟨hk.1,Ak hk.2 hg.size⟩
 refine⟨⟨hg.os.trans h.ch.os,hg.tape.trans h.ch.tape,hg.output.trans h.ch.output,Aj h.ch.size hg.size,fun k hk hn=> ?_⟩,h.nd,h.sub,fun k hk=> ⟨(h.ax k hk).1,Ak (h.ax k hk).2 hg.size⟩,BL h.bl hg hr,
  h.rf.grown hg hr (fun _ _ _ hf=> (hf.grown hg hr).mono hG),h.rc.grown hg hr (fun _ _ _ hf=> (hf.grown hg hr).mono hG),h.rw.grown hg hr (fun _ _ _ hf=> (hf.grown hg hr).mono hG),fun p hp=> (TmC.grown _ _ (h.ex p hp) hg hr).mono hG⟩
 rw[hg.block k (Ak hk h.ch.size) (fun e=> by have:=hw k e.symm;omega)]
 exact h.ch.block k hk hn
end
theorem GC (bp:Nat) (n:Int) (w:World):
  Calls Tryz.prog 98 #[.pointer (some ⟨bp,0,none⟩),.int .i64 n] w (fun e w'=> ∃ bl bn,e=.returned (.func (.func 121) #[] #[.pointer (some ⟨bl,0,none⟩),.pointer (some ⟨bn,0,none⟩)])∧Blk w' bl 95 [.pointer (some ⟨bp,0,none⟩)]∧Blk w' bn 3 [.int .i64 n]∧w.heap.size≤bl∧bl<bn∧Below w.heap.size w w'):=by
 go_enter Tryz.func98,Tryz.ntmps98
 go_wp2_with (first
  | ((refine A5 w rfl 95 (.tmp 0) rfl (.pointer (some ⟨bp,0,none⟩)) rfl rfl ?_);intro w1 hb hbel hsz;have H1:=Ag (Ai hb hbel);clear hb hbel hsz)
  | ((with_reducible refine A5 w1 rfl 3 (.tmp 1) rfl (.int .i64 n) rfl rfl ?_);intro w2 hb hbel hsz;have H2:=hJ4 (H1.out.1.below hbel H1.out.1.lt) hb H1.out.1.lt (An H1.out.2 hbel (Ah _));clear hb hbel hsz))
 go_ret
 exact⟨_,_,rfl,H2.out.1,H2.out.2.1,Ah _,H2.out.2.2.1,H2.out.2.2.2⟩
structure ShrK (bl bn bp:Nat) (n:Int) (vf:Value) (g fn:Nat) (sh:Nat→Bool) (W:World):Prop where
 kl:Blk W bl 95 [.pointer (some ⟨bp,0,none⟩)]
 kn:Blk W bn 3 [.int .i64 n]
 kf:W.cell? ⟨bp,0,none⟩=some vf
 ke:∀ i,i<fn→∃ vg gl,W.cell? ⟨g,i* 14+5,none⟩=some vg∧Sl W vg (ofK .i64 gl)∧gl.any (n==·)=sh i
def shL (sh:Nat→Bool) (fn:Nat):List Nat:=(List.range fn).filter sh
theorem GD (sh:Nat→Bool) (k:Nat):shL sh (k+1)=shL sh k ++ if sh k=true then [k] else []:=by
 unfold shL
 rw[List.range_succ,List.filter_append]
 by_cases h:sh k=true <;> simp[h]
theorem LH (sh:Nat→Bool) {k fn:Nat} (h:k≤fn):shL sh k <+:shL sh fn:=by
 induction fn with
 | zero=>
    obtain rfl:k=0:=by omega
    exact List.prefix_refl _
 | succ m ih=>
  by_cases e:k=m+1
  ·rw[e];exact List.prefix_refl _
  ·rw[GD]
   exact List.IsPrefix.trans (ih (by omega)) (List.prefix_append _ _)
theorem GE (bl bn bp g fn cf:Nat) (n:Int) (af:Option Addr) (sh:Nat→Bool) (w:World) (haf:0<fn→af=some ⟨g,0,none⟩) (hfn:fn≤1000000) (hcf:fn≤cf):
  SeqK Fence.wide 8 Tryz.prog 121 #[.pointer (some ⟨bl,0,none⟩),.pointer (some ⟨bn,0,none⟩)] (fun i:Nat=> #[.pointer (some ⟨g,i* 14,none⟩)]) (ShrK bl bn bp n (.slice af fn cf) g fn sh) (fun pre x=> pre ++ [x] <+:shL sh fn) (fun xs=> xs=shL sh fn) (fun pre=> pre <+:shL sh fn) w:=fun l J Jx W hW hJ hJx hJK hY h0=> by
 have HJ:=Ag hJ
 have HJX:=Ag hJx
 have HJK:=Ag hJK
 have HY:=Ag hY
 have H0:=Ag h0
 have HAF:=Ag haf
 have HK:=Ag (hJK _ _ h0)
 have a0:=HK.out.kl.cell 0
 have a1:=HK.out.kf
 simp only[Ab] at a0
 have hfn63:fn≤9223372036854775807:=by omega
 clear hJ hJx hY h0 hJK haf
 refine callsIn_of_wp Tryz.func121 rfl trivial ?_ rfl
 simp only[Tryz.ntmps121,List.size_toArray,List.length_cons,List.length_nil,Nat.reduceAdd,Nat.reduceSub,Array.replicate_succ,Array.replicate_zero,List.push_toArray,List.append_toArray,List.nil_append,List.cons_append]
 gi_wp2
 clear a0 a1 HK
 gi_loopw [4,5,12] (fun _ _ s12 wr=> ∃ k:Nat,k≤fn∧s12=.int .i64 k∧Hid (J (shL sh k) wr)) (fun _ _ s12 _=> fn - (intOf s12).toNat)
 case atStart=> exact⟨0,Nat.zero_le _,rfl,Ag H0.out⟩
 case round=>
  obtain⟨k,hk,rfl,HR⟩:=hrel
  by_cases hlt:k<fn
  ·have hkz:(k:Int)<(fn:Int):=by omega
   have hk0:(0:Int)≤(k:Int):=by omega
   obtain rfl:=HAF.out (by omega)
   have HK:=Ag (HJK.out _ _ HR.out)
   have a0:=HK.out.kl.cell 0
   have a1:=HK.out.kf
   simp only[Ab] at a0
   gi_wp2_with fail
   clear a0 a1
   refine wpIn_region_any (by kernel_rfl) ?_
   have HJV:=Ag (HJ.out _ _ _ HR.out ((Sm.refl wr).drew.below _))
   generalize hgv:({wr with drawn:=wr.drawn+1}:World)=v0
   have hgv2:wr.drew=v0:=hgv
   rw[hgv2] at HJV
   clear hgv hgv2
   have HKV:=Ag (HJK.out _ _ HJV.out)
   obtain⟨vg,gl,hc5,hsl,hgl⟩:=HKV.out.ke k hlt
   have HCT:=Ag (show Calls Tryz.prog 12 #[vg,.int .i64 n] v0 (fun e w'=> e=.returned (.bool (sh k))∧v0=w') from by have h:=AM n vg gl v0 hsl;rw[hgl] at h;exact h)
   have d0:v0.cell? ⟨g,k* 14+1+4,none⟩=some vg:=hc5
   have d1:=HKV.out.kn.cell 0
   simp only[Ab] at d1
   obtain⟨z,hz⟩:∃ z,sh k=z:=⟨_,rfl⟩
   rw[hz] at HCT
   have HZ:=Ag hz
   clear hc5 hsl hgl hz
   cases z
   ·have HJ2:=Ag (show J (shL sh (k+1)) v0 from by rw[GD,HZ.out,if_neg (by simp),List.append_nil];exact HJV.out)
    refine' A0 0 5 (by kernel_rfl) ?_ ?_ ?_ ?_;rotate_left 2;(simp only[Aa,Ab,Ac];rfl);(simp only[Aa,Ab,Ac];rfl)
    ·skip
     gi_wp2_with fail
     refine QK.normal ?_
     refine' A0 1 5 (by kernel_rfl) ?_ ?_ ?_ ?_;rotate_left 2;(simp only[Aa,Ab,Ac];rfl);(simp only[Aa,Ab,Ac];rfl)
     ·skip
      gi_wp2_with fail
      refine QK.normal ?_
      refine' A0 2 5 (by kernel_rfl) ?_ ?_ ?_ ?_;rotate_left 2;(simp only[Aa,Ab,Ac];rfl);(simp only[Aa,Ab,Ac];rfl)
      ·skip
       gi_wp2_with fail
       refine QK.normal ?_
       refine' A0 3 5 (by kernel_rfl) ?_ ?_ ?_ ?_;rotate_left 2;(simp only[Aa,Ab,Ac];rfl);(simp only[Aa,Ab,Ac];rfl)
       ·skip
        gi_wp2_with fail
        refine QK.normal ?_
        refine' A0 4 5 (by kernel_rfl) ?_ ?_ ?_ ?_;rotate_left 2;(simp only[Aa,Ab,Ac];rfl);(simp only[Aa,Ab,Ac];rfl)
        ·skip
         gi_wp2_with fail
         refine QK.normal ?_
         refine' Aq 5 (by kernel_rfl) ?_ ?_;rotate_left;(simp only[Aa,Ab,Ac];rfl)
         gi_wp2_with fail
         refine QK.normal ?_
         refine' Aq 6 (by kernel_rfl) ?_ ?_;rotate_left;(simp only[Aa,Ab,Ac];rfl)
         gi_wp2_with fail
         refine⟨trivial,?_⟩
         refine(WideF.wide.calls (n:=7) HCT.out).mono ?_
         rintro e' w' ⟨rfl,rfl⟩
         gi_wp2_with fail
         refine QK.normal ?_
         refine' Aq 7 (by kernel_rfl) ?_ ?_;rotate_left;(simp only[Aa,Ab,Ac];rfl)
         gi_wp2_with fail
         refine QK.normal ?_
         refine' A0 8 9 (by kernel_rfl) ?_ ?_ ?_ ?_;rotate_left 2;(simp only[Aa,Ab,Ac];rfl);(simp only[Aa,Ab,Ac];rfl)
         ·skip
          refine⟨fun f h=> (by cases h),?_⟩
          gi_wp2_with fail
          refine QK.normal ?_
          refine' Aq 9 (by kernel_rfl) ?_ ?_;rotate_left;(simp only[Aa,Ab,Ac];rfl)
          refine⟨fun f h=> (by cases h),?_⟩
          gi_wp2_with fail
          refine QK.normal ?_
          refine' Aq 10 (by kernel_rfl) ?_ ?_;rotate_left;(simp only[Aa,Ab,Ac];rfl)
          refine⟨fun f h=> (by cases h),?_⟩
          gi_wp2_with fail
          refine QK.normal ?_
          refine' Aq 11 (by kernel_rfl) ?_ ?_;rotate_left;(simp only[Aa,Ab,Ac];rfl)
          refine⟨fun f h=> (by cases h),?_⟩
          gi_wp2_with fail
          refine QK.normal ?_
          refine' Aq 12 (by kernel_rfl) ?_ ?_;rotate_left;(simp only[Aa,Ab,Ac];rfl)
          gi_wp2_with fail
          refine QK.normal ?_
          refine wpAnyIn_done (by kernel_rfl) ?_ _
          gi_wp2
          go_roundw
          case rel=> exact⟨k+1,by omega,by go_num,HJ2⟩
          case measure=> simp[intOf];omega
         ·skip
          refine⟨fun f h=> (by cases h),?_⟩
          gi_wp2_with fail
          refine QK.normal ?_
          refine' Aq 8 (by kernel_rfl) ?_ ?_;rotate_left;(simp only[Aa,Ab,Ac];rfl)
          refine⟨fun f h=> (by cases h),?_⟩
          gi_wp2_with fail
          refine QK.normal ?_
          refine' Aq 10 (by kernel_rfl) ?_ ?_;rotate_left;(simp only[Aa,Ab,Ac];rfl)
          refine⟨fun f h=> (by cases h),?_⟩
          gi_wp2_with fail
          refine QK.normal ?_
          refine' Aq 11 (by kernel_rfl) ?_ ?_;rotate_left;(simp only[Aa,Ab,Ac];rfl)
          refine⟨fun f h=> (by cases h),?_⟩
          gi_wp2_with fail
          refine QK.normal ?_
          refine' Aq 12 (by kernel_rfl) ?_ ?_;rotate_left;(simp only[Aa,Ab,Ac];rfl)
          gi_wp2_with fail
          refine QK.normal ?_
          refine wpAnyIn_done (by kernel_rfl) ?_ _
          gi_wp2
          go_roundw
          case rel=> exact⟨k+1,by omega,by go_num,HJ2⟩
          case measure=> simp[intOf];omega
        ·skip
         gi_wp2_with fail
         refine QK.normal ?_
         refine' Aq 4 (by kernel_rfl) ?_ ?_;rotate_left;(simp only[Aa,Ab,Ac];rfl)
         gi_wp2_with fail
         refine QK.normal ?_
         refine' Aq 6 (by kernel_rfl) ?_ ?_;rotate_left;(simp only[Aa,Ab,Ac];rfl)
         gi_wp2_with fail
         refine⟨trivial,?_⟩
         refine(WideF.wide.calls (n:=7) HCT.out).mono ?_
         rintro e' w' ⟨rfl,rfl⟩
         gi_wp2_with fail
         refine QK.normal ?_
         refine' Aq 7 (by kernel_rfl) ?_ ?_;rotate_left;(simp only[Aa,Ab,Ac];rfl)
         gi_wp2_with fail
         refine QK.normal ?_
         refine' A0 8 9 (by kernel_rfl) ?_ ?_ ?_ ?_;rotate_left 2;(simp only[Aa,Ab,Ac];rfl);(simp only[Aa,Ab,Ac];rfl)
         ·skip
          refine⟨fun f h=> (by cases h),?_⟩
          gi_wp2_with fail
          refine QK.normal ?_
          refine' Aq 9 (by kernel_rfl) ?_ ?_;rotate_left;(simp only[Aa,Ab,Ac];rfl)
          refine⟨fun f h=> (by cases h),?_⟩
          gi_wp2_with fail
          refine QK.normal ?_
          refine' Aq 10 (by kernel_rfl) ?_ ?_;rotate_left;(simp only[Aa,Ab,Ac];rfl)
          refine⟨fun f h=> (by cases h),?_⟩
          gi_wp2_with fail
          refine QK.normal ?_
          refine' Aq 11 (by kernel_rfl) ?_ ?_;rotate_left;(simp only[Aa,Ab,Ac];rfl)
          refine⟨fun f h=> (by cases h),?_⟩
          gi_wp2_with fail
          refine QK.normal ?_
          refine' Aq 12 (by kernel_rfl) ?_ ?_;rotate_left;(simp only[Aa,Ab,Ac];rfl)
          gi_wp2_with fail
          refine QK.normal ?_
          refine wpAnyIn_done (by kernel_rfl) ?_ _
          gi_wp2
          go_roundw
          case rel=> exact⟨k+1,by omega,by go_num,HJ2⟩
          case measure=> simp[intOf];omega
         ·skip
          refine⟨fun f h=> (by cases h),?_⟩
          gi_wp2_with fail
          refine QK.normal ?_
          refine' Aq 8 (by kernel_rfl) ?_ ?_;rotate_left;(simp only[Aa,Ab,Ac];rfl)
          refine⟨fun f h=> (by cases h),?_⟩
          gi_wp2_with fail
          refine QK.normal ?_
          refine' Aq 10 (by kernel_rfl) ?_ ?_;rotate_left;(simp only[Aa,Ab,Ac];rfl)
          refine⟨fun f h=> (by cases h),?_⟩
          gi_wp2_with fail
          refine QK.normal ?_
          refine' Aq 11 (by kernel_rfl) ?_ ?_;rotate_left;(simp only[Aa,Ab,Ac];rfl)
          refine⟨fun f h=> (by cases h),?_⟩
          gi_wp2_with fail
          refine QK.normal ?_
          refine' Aq 12 (by kernel_rfl) ?_ ?_;rotate_left;(simp only[Aa,Ab,Ac];rfl)
          gi_wp2_with fail
          refine QK.normal ?_
          refine wpAnyIn_done (by kernel_rfl) ?_ _
          gi_wp2
          go_roundw
          case rel=> exact⟨k+1,by omega,by go_num,HJ2⟩
          case measure=> simp[intOf];omega
       ·skip
        gi_wp2_with fail
        refine QK.normal ?_
        refine' Aq 3 (by kernel_rfl) ?_ ?_;rotate_left;(simp only[Aa,Ab,Ac];rfl)
        gi_wp2_with fail
        refine QK.normal ?_
        refine' Aq 4 (by kernel_rfl) ?_ ?_;rotate_left;(simp only[Aa,Ab,Ac];rfl)
        gi_wp2_with fail
        refine QK.normal ?_
        refine' Aq 6 (by kernel_rfl) ?_ ?_;rotate_left;(simp only[Aa,Ab,Ac];rfl)
        gi_wp2_with fail
        refine⟨trivial,?_⟩
        refine(WideF.wide.calls (n:=7) HCT.out).mono ?_
        rintro e' w' ⟨rfl,rfl⟩
        gi_wp2_with fail
        refine QK.normal ?_
        refine' Aq 7 (by kernel_rfl) ?_ ?_;rotate_left;(simp only[Aa,Ab,Ac];rfl)
        gi_wp2_with fail
        refine QK.normal ?_
        refine' A0 8 9 (by kernel_rfl) ?_ ?_ ?_ ?_;rotate_left 2;(simp only[Aa,Ab,Ac];rfl);(simp only[Aa,Ab,Ac];rfl)
        ·skip
         refine⟨fun f h=> (by cases h),?_⟩
         gi_wp2_with fail
         refine QK.normal ?_
         refine' Aq 9 (by kernel_rfl) ?_ ?_;rotate_left;(simp only[Aa,Ab,Ac];rfl)
         refine⟨fun f h=> (by cases h),?_⟩
         gi_wp2_with fail
         refine QK.normal ?_
         refine' Aq 10 (by kernel_rfl) ?_ ?_;rotate_left;(simp only[Aa,Ab,Ac];rfl)
         refine⟨fun f h=> (by cases h),?_⟩
         gi_wp2_with fail
         refine QK.normal ?_
         refine' Aq 11 (by kernel_rfl) ?_ ?_;rotate_left;(simp only[Aa,Ab,Ac];rfl)
         refine⟨fun f h=> (by cases h),?_⟩
         gi_wp2_with fail
         refine QK.normal ?_
         refine' Aq 12 (by kernel_rfl) ?_ ?_;rotate_left;(simp only[Aa,Ab,Ac];rfl)
         gi_wp2_with fail
         refine QK.normal ?_
         refine wpAnyIn_done (by kernel_rfl) ?_ _
         gi_wp2
         go_roundw
         case rel=> exact⟨k+1,by omega,by go_num,HJ2⟩
         case measure=> simp[intOf];omega
        ·skip
         refine⟨fun f h=> (by cases h),?_⟩
         gi_wp2_with fail
         refine QK.normal ?_
         refine' Aq 8 (by kernel_rfl) ?_ ?_;rotate_left;(simp only[Aa,Ab,Ac];rfl)
         refine⟨fun f h=> (by cases h),?_⟩
         gi_wp2_with fail
         refine QK.normal ?_
         refine' Aq 10 (by kernel_rfl) ?_ ?_;rotate_left;(simp only[Aa,Ab,Ac];rfl)
         refine⟨fun f h=> (by cases h),?_⟩
         gi_wp2_with fail
         refine QK.normal ?_
         refine' Aq 11 (by kernel_rfl) ?_ ?_;rotate_left;(simp only[Aa,Ab,Ac];rfl)
         refine⟨fun f h=> (by cases h),?_⟩
         gi_wp2_with fail
         refine QK.normal ?_
         refine' Aq 12 (by kernel_rfl) ?_ ?_;rotate_left;(simp only[Aa,Ab,Ac];rfl)
         gi_wp2_with fail
         refine QK.normal ?_
         refine wpAnyIn_done (by kernel_rfl) ?_ _
         gi_wp2
         go_roundw
         case rel=> exact⟨k+1,by omega,by go_num,HJ2⟩
         case measure=> simp[intOf];omega
      ·skip
       gi_wp2_with fail
       refine QK.normal ?_
       refine' Aq 2 (by kernel_rfl) ?_ ?_;rotate_left;(simp only[Aa,Ab,Ac];rfl)
       gi_wp2_with fail
       refine QK.normal ?_
       refine' Aq 3 (by kernel_rfl) ?_ ?_;rotate_left;(simp only[Aa,Ab,Ac];rfl)
       gi_wp2_with fail
       refine QK.normal ?_
       refine' Aq 4 (by kernel_rfl) ?_ ?_;rotate_left;(simp only[Aa,Ab,Ac];rfl)
       gi_wp2_with fail
       refine QK.normal ?_
       refine' Aq 6 (by kernel_rfl) ?_ ?_;rotate_left;(simp only[Aa,Ab,Ac];rfl)
       gi_wp2_with fail
       refine⟨trivial,?_⟩
       refine(WideF.wide.calls (n:=7) HCT.out).mono ?_
       rintro e' w' ⟨rfl,rfl⟩
       gi_wp2_with fail
       refine QK.normal ?_
       refine' Aq 7 (by kernel_rfl) ?_ ?_;rotate_left;(simp only[Aa,Ab,Ac];rfl)
       gi_wp2_with fail
       refine QK.normal ?_
       refine' A0 8 9 (by kernel_rfl) ?_ ?_ ?_ ?_;rotate_left 2;(simp only[Aa,Ab,Ac];rfl);(simp only[Aa,Ab,Ac];rfl)
       ·skip
        refine⟨fun f h=> (by cases h),?_⟩
        gi_wp2_with fail
        refine QK.normal ?_
        refine' Aq 9 (by kernel_rfl) ?_ ?_;rotate_left;(simp only[Aa,Ab,Ac];rfl)
        refine⟨fun f h=> (by cases h),?_⟩
        gi_wp2_with fail
        refine QK.normal ?_
        refine' Aq 10 (by kernel_rfl) ?_ ?_;rotate_left;(simp only[Aa,Ab,Ac];rfl)
        refine⟨fun f h=> (by cases h),?_⟩
        gi_wp2_with fail
        refine QK.normal ?_
        refine' Aq 11 (by kernel_rfl) ?_ ?_;rotate_left;(simp only[Aa,Ab,Ac];rfl)
        refine⟨fun f h=> (by cases h),?_⟩
        gi_wp2_with fail
        refine QK.normal ?_
        refine' Aq 12 (by kernel_rfl) ?_ ?_;rotate_left;(simp only[Aa,Ab,Ac];rfl)
        gi_wp2_with fail
        refine QK.normal ?_
        refine wpAnyIn_done (by kernel_rfl) ?_ _
        gi_wp2
        go_roundw
        case rel=> exact⟨k+1,by omega,by go_num,HJ2⟩
        case measure=> simp[intOf];omega
       ·skip
        refine⟨fun f h=> (by cases h),?_⟩
        gi_wp2_with fail
        refine QK.normal ?_
        refine' Aq 8 (by kernel_rfl) ?_ ?_;rotate_left;(simp only[Aa,Ab,Ac];rfl)
        refine⟨fun f h=> (by cases h),?_⟩
        gi_wp2_with fail
        refine QK.normal ?_
        refine' Aq 10 (by kernel_rfl) ?_ ?_;rotate_left;(simp only[Aa,Ab,Ac];rfl)
        refine⟨fun f h=> (by cases h),?_⟩
        gi_wp2_with fail
        refine QK.normal ?_
        refine' Aq 11 (by kernel_rfl) ?_ ?_;rotate_left;(simp only[Aa,Ab,Ac];rfl)
        refine⟨fun f h=> (by cases h),?_⟩
        gi_wp2_with fail
        refine QK.normal ?_
        refine' Aq 12 (by kernel_rfl) ?_ ?_;rotate_left;(simp only[Aa,Ab,Ac];rfl)
        gi_wp2_with fail
        refine QK.normal ?_
        refine wpAnyIn_done (by kernel_rfl) ?_ _
        gi_wp2
        go_roundw
        case rel=> exact⟨k+1,by omega,by go_num,HJ2⟩
        case measure=> simp[intOf];omega
     ·skip
      gi_wp2_with fail
      refine QK.normal ?_
      refine' Aq 1 (by kernel_rfl) ?_ ?_;rotate_left;(simp only[Aa,Ab,Ac];rfl)
      gi_wp2_with fail
      refine QK.normal ?_
      refine' Aq 2 (by kernel_rfl) ?_ ?_;rotate_left;(simp only[Aa,Ab,Ac];rfl)
      gi_wp2_with fail
      refine QK.normal ?_
      refine' Aq 3 (by kernel_rfl) ?_ ?_;rotate_left;(simp only[Aa,Ab,Ac];rfl)
      gi_wp2_with fail
      refine QK.normal ?_
      refine' Aq 4 (by kernel_rfl) ?_ ?_;rotate_left;(simp only[Aa,Ab,Ac];rfl)
      gi_wp2_with fail
      refine QK.normal ?_
      refine' Aq 6 (by kernel_rfl) ?_ ?_;rotate_left;(simp only[Aa,Ab,Ac];rfl)
      gi_wp2_with fail
      refine⟨trivial,?_⟩
      refine(WideF.wide.calls (n:=7) HCT.out).mono ?_
      rintro e' w' ⟨rfl,rfl⟩
      gi_wp2_with fail
      refine QK.normal ?_
      refine' Aq 7 (by kernel_rfl) ?_ ?_;rotate_left;(simp only[Aa,Ab,Ac];rfl)
      gi_wp2_with fail
      refine QK.normal ?_
      refine' A0 8 9 (by kernel_rfl) ?_ ?_ ?_ ?_;rotate_left 2;(simp only[Aa,Ab,Ac];rfl);(simp only[Aa,Ab,Ac];rfl)
      ·skip
       refine⟨fun f h=> (by cases h),?_⟩
       gi_wp2_with fail
       refine QK.normal ?_
       refine' Aq 9 (by kernel_rfl) ?_ ?_;rotate_left;(simp only[Aa,Ab,Ac];rfl)
       refine⟨fun f h=> (by cases h),?_⟩
       gi_wp2_with fail
       refine QK.normal ?_
       refine' Aq 10 (by kernel_rfl) ?_ ?_;rotate_left;(simp only[Aa,Ab,Ac];rfl)
       refine⟨fun f h=> (by cases h),?_⟩
       gi_wp2_with fail
       refine QK.normal ?_
       refine' Aq 11 (by kernel_rfl) ?_ ?_;rotate_left;(simp only[Aa,Ab,Ac];rfl)
       refine⟨fun f h=> (by cases h),?_⟩
       gi_wp2_with fail
       refine QK.normal ?_
       refine' Aq 12 (by kernel_rfl) ?_ ?_;rotate_left;(simp only[Aa,Ab,Ac];rfl)
       gi_wp2_with fail
       refine QK.normal ?_
       refine wpAnyIn_done (by kernel_rfl) ?_ _
       gi_wp2
       go_roundw
       case rel=> exact⟨k+1,by omega,by go_num,HJ2⟩
       case measure=> simp[intOf];omega
      ·skip
       refine⟨fun f h=> (by cases h),?_⟩
       gi_wp2_with fail
       refine QK.normal ?_
       refine' Aq 8 (by kernel_rfl) ?_ ?_;rotate_left;(simp only[Aa,Ab,Ac];rfl)
       refine⟨fun f h=> (by cases h),?_⟩
       gi_wp2_with fail
       refine QK.normal ?_
       refine' Aq 10 (by kernel_rfl) ?_ ?_;rotate_left;(simp only[Aa,Ab,Ac];rfl)
       refine⟨fun f h=> (by cases h),?_⟩
       gi_wp2_with fail
       refine QK.normal ?_
       refine' Aq 11 (by kernel_rfl) ?_ ?_;rotate_left;(simp only[Aa,Ab,Ac];rfl)
       refine⟨fun f h=> (by cases h),?_⟩
       gi_wp2_with fail
       refine QK.normal ?_
       refine' Aq 12 (by kernel_rfl) ?_ ?_;rotate_left;(simp only[Aa,Ab,Ac];rfl)
       gi_wp2_with fail
       refine QK.normal ?_
       refine wpAnyIn_done (by kernel_rfl) ?_ _
       gi_wp2
       go_roundw
       case rel=> exact⟨k+1,by omega,by go_num,HJ2⟩
       case measure=> simp[intOf];omega
    ·skip
     gi_wp2_with fail
     refine QK.normal ?_
     refine' Aq 0 (by kernel_rfl) ?_ ?_;rotate_left;(simp only[Aa,Ab,Ac];rfl)
     gi_wp2_with fail
     refine QK.normal ?_
     refine' Aq 1 (by kernel_rfl) ?_ ?_;rotate_left;(simp only[Aa,Ab,Ac];rfl)
     gi_wp2_with fail
     refine QK.normal ?_
     refine' Aq 2 (by kernel_rfl) ?_ ?_;rotate_left;(simp only[Aa,Ab,Ac];rfl)
     gi_wp2_with fail
     refine QK.normal ?_
     refine' Aq 3 (by kernel_rfl) ?_ ?_;rotate_left;(simp only[Aa,Ab,Ac];rfl)
     gi_wp2_with fail
     refine QK.normal ?_
     refine' Aq 4 (by kernel_rfl) ?_ ?_;rotate_left;(simp only[Aa,Ab,Ac];rfl)
     gi_wp2_with fail
     refine QK.normal ?_
     refine' Aq 6 (by kernel_rfl) ?_ ?_;rotate_left;(simp only[Aa,Ab,Ac];rfl)
     gi_wp2_with fail
     refine⟨trivial,?_⟩
     refine(WideF.wide.calls (n:=7) HCT.out).mono ?_
     rintro e' w' ⟨rfl,rfl⟩
     gi_wp2_with fail
     refine QK.normal ?_
     refine' Aq 7 (by kernel_rfl) ?_ ?_;rotate_left;(simp only[Aa,Ab,Ac];rfl)
     gi_wp2_with fail
     refine QK.normal ?_
     refine' A0 8 9 (by kernel_rfl) ?_ ?_ ?_ ?_;rotate_left 2;(simp only[Aa,Ab,Ac];rfl);(simp only[Aa,Ab,Ac];rfl)
     ·skip
      refine⟨fun f h=> (by cases h),?_⟩
      gi_wp2_with fail
      refine QK.normal ?_
      refine' Aq 9 (by kernel_rfl) ?_ ?_;rotate_left;(simp only[Aa,Ab,Ac];rfl)
      refine⟨fun f h=> (by cases h),?_⟩
      gi_wp2_with fail
      refine QK.normal ?_
      refine' Aq 10 (by kernel_rfl) ?_ ?_;rotate_left;(simp only[Aa,Ab,Ac];rfl)
      refine⟨fun f h=> (by cases h),?_⟩
      gi_wp2_with fail
      refine QK.normal ?_
      refine' Aq 11 (by kernel_rfl) ?_ ?_;rotate_left;(simp only[Aa,Ab,Ac];rfl)
      refine⟨fun f h=> (by cases h),?_⟩
      gi_wp2_with fail
      refine QK.normal ?_
      refine' Aq 12 (by kernel_rfl) ?_ ?_;rotate_left;(simp only[Aa,Ab,Ac];rfl)
      gi_wp2_with fail
      refine QK.normal ?_
      refine wpAnyIn_done (by kernel_rfl) ?_ _
      gi_wp2
      go_roundw
      case rel=> exact⟨k+1,by omega,by go_num,HJ2⟩
      case measure=> simp[intOf];omega
     ·skip
      refine⟨fun f h=> (by cases h),?_⟩
      gi_wp2_with fail
      refine QK.normal ?_
      refine' Aq 8 (by kernel_rfl) ?_ ?_;rotate_left;(simp only[Aa,Ab,Ac];rfl)
      refine⟨fun f h=> (by cases h),?_⟩
      gi_wp2_with fail
      refine QK.normal ?_
      refine' Aq 10 (by kernel_rfl) ?_ ?_;rotate_left;(simp only[Aa,Ab,Ac];rfl)
      refine⟨fun f h=> (by cases h),?_⟩
      gi_wp2_with fail
      refine QK.normal ?_
      refine' Aq 11 (by kernel_rfl) ?_ ?_;rotate_left;(simp only[Aa,Ab,Ac];rfl)
      refine⟨fun f h=> (by cases h),?_⟩
      gi_wp2_with fail
      refine QK.normal ?_
      refine' Aq 12 (by kernel_rfl) ?_ ?_;rotate_left;(simp only[Aa,Ab,Ac];rfl)
      gi_wp2_with fail
      refine QK.normal ?_
      refine wpAnyIn_done (by kernel_rfl) ?_ _
      gi_wp2
      go_roundw
      case rel=> exact⟨k+1,by omega,by go_num,HJ2⟩
      case measure=> simp[intOf];omega
   ·have HSU:=Ag (show shL sh (k+1)=shL sh k ++ [k] from by rw[GD,HZ.out,if_pos rfl])
    have HPX2:=Ag (LH sh (show k+1≤fn by omega))
    have HPX:=Ag (show shL sh k ++ [k] <+:shL sh fn from by rw[←HSU.out];exact HPX2.out)
    refine' A0 0 5 (by kernel_rfl) ?_ ?_ ?_ ?_;rotate_left 2;(simp only[Aa,Ab,Ac];rfl);(simp only[Aa,Ab,Ac];rfl)
    ·skip
     gi_wp2_with fail
     refine QK.normal ?_
     refine' A0 1 5 (by kernel_rfl) ?_ ?_ ?_ ?_;rotate_left 2;(simp only[Aa,Ab,Ac];rfl);(simp only[Aa,Ab,Ac];rfl)
     ·skip
      gi_wp2_with fail
      refine QK.normal ?_
      refine' A0 2 5 (by kernel_rfl) ?_ ?_ ?_ ?_;rotate_left 2;(simp only[Aa,Ab,Ac];rfl);(simp only[Aa,Ab,Ac];rfl)
      ·skip
       gi_wp2_with fail
       refine QK.normal ?_
       refine' A0 3 5 (by kernel_rfl) ?_ ?_ ?_ ?_;rotate_left 2;(simp only[Aa,Ab,Ac];rfl);(simp only[Aa,Ab,Ac];rfl)
       ·skip
        gi_wp2_with fail
        refine QK.normal ?_
        refine' A0 4 5 (by kernel_rfl) ?_ ?_ ?_ ?_;rotate_left 2;(simp only[Aa,Ab,Ac];rfl);(simp only[Aa,Ab,Ac];rfl)
        ·skip
         gi_wp2_with fail
         refine QK.normal ?_
         refine' Aq 5 (by kernel_rfl) ?_ ?_;rotate_left;(simp only[Aa,Ab,Ac];rfl)
         gi_wp2_with fail
         refine QK.normal ?_
         refine' Aq 6 (by kernel_rfl) ?_ ?_;rotate_left;(simp only[Aa,Ab,Ac];rfl)
         gi_wp2_with fail
         refine⟨trivial,?_⟩
         refine(WideF.wide.calls (n:=7) HCT.out).mono ?_
         rintro e' w' ⟨rfl,rfl⟩
         gi_wp2_with fail
         refine QK.normal ?_
         refine' Aq 7 (by kernel_rfl) ?_ ?_;rotate_left;(simp only[Aa,Ab,Ac];rfl)
         gi_wp2_with fail
         refine QK.normal ?_
         refine' A0 8 9 (by kernel_rfl) ?_ ?_ ?_ ?_;rotate_left 2;(simp only[Aa,Ab,Ac];rfl);(simp only[Aa,Ab,Ac];rfl)
         ·skip
          gi_wp2_with fail
          refine QK.normal ?_
          refine' Aq 9 (by kernel_rfl) ?_ ?_;rotate_left;(simp only[Aa,Ab,Ac];rfl)
          gi_wp2_with fail
          refine QK.normal ?_
          refine' Aq 10 (by kernel_rfl) ?_ ?_;rotate_left;(simp only[Aa,Ab,Ac];rfl)
          obtain⟨fn',tmps,assign,body,hyl,hR⟩:=HY.out (shL sh k) k v0 v0 HJV.out (Below.refl _ _) HPX.out
          try simp only at hyl
          gi_wp2_with fail
          refine hR.mono ?_
          rintro e W3 (⟨rfl,hJ3⟩|⟨rfl,hJx3⟩)
          ·have H3:=Ag (show J (shL sh (k+1)) W3 from by rw[HSU.out];exact hJ3)
           clear hJ3 hyl hR d0 d1
           gi_wp2_with fail
           refine QK.normal ?_
           refine' Aq 11 (by kernel_rfl) ?_ ?_;rotate_left;(simp only[Aa,Ab,Ac];rfl)
           gi_wp2_with fail
           refine QK.normal ?_
           refine' Aq 12 (by kernel_rfl) ?_ ?_;rotate_left;(simp only[Aa,Ab,Ac];rfl)
           gi_wp2_with fail
           refine QK.normal ?_
           refine wpAnyIn_done (by kernel_rfl) ?_ _
           gi_wp2
           go_roundw
           case rel=> exact⟨k+1,by omega,by go_num,H3⟩
           case measure=> simp[intOf];omega
          ·have H3:=Ag (show Jx (shL sh (k+1)) W3 from by rw[HSU.out];exact hJx3)
           clear hJx3 hyl hR d0 d1
           gi_wp2_with fail
           refine QK.normal ?_
           refine' Aq 11 (by kernel_rfl) ?_ ?_;rotate_left;(simp only[Aa,Ab,Ac];rfl)
           gi_wp2_with fail
           refine QK.normal ?_
           refine' Aq 12 (by kernel_rfl) ?_ ?_;rotate_left;(simp only[Aa,Ab,Ac];rfl)
           gi_wp2_with fail
           refine QK.normal ?_
           refine wpAnyIn_done (by kernel_rfl) ?_ _
           gi_wp2
           refine bodyPost_ret (results_none rfl _ _ _) rfl ?_
           exact⟨⟨_,rfl⟩,.inr ⟨_,HPX2.out,H3.out⟩⟩
         ·skip
          gi_wp2_with fail
          refine QK.normal ?_
          refine' Aq 8 (by kernel_rfl) ?_ ?_;rotate_left;(simp only[Aa,Ab,Ac];rfl)
          gi_wp2_with fail
          refine QK.normal ?_
          refine' Aq 10 (by kernel_rfl) ?_ ?_;rotate_left;(simp only[Aa,Ab,Ac];rfl)
          obtain⟨fn',tmps,assign,body,hyl,hR⟩:=HY.out (shL sh k) k v0 v0 HJV.out (Below.refl _ _) HPX.out
          try simp only at hyl
          gi_wp2_with fail
          refine hR.mono ?_
          rintro e W3 (⟨rfl,hJ3⟩|⟨rfl,hJx3⟩)
          ·have H3:=Ag (show J (shL sh (k+1)) W3 from by rw[HSU.out];exact hJ3)
           clear hJ3 hyl hR d0 d1
           gi_wp2_with fail
           refine QK.normal ?_
           refine' Aq 11 (by kernel_rfl) ?_ ?_;rotate_left;(simp only[Aa,Ab,Ac];rfl)
           gi_wp2_with fail
           refine QK.normal ?_
           refine' Aq 12 (by kernel_rfl) ?_ ?_;rotate_left;(simp only[Aa,Ab,Ac];rfl)
           gi_wp2_with fail
           refine QK.normal ?_
           refine wpAnyIn_done (by kernel_rfl) ?_ _
           gi_wp2
           go_roundw
           case rel=> exact⟨k+1,by omega,by go_num,H3⟩
           case measure=> simp[intOf];omega
          ·have H3:=Ag (show Jx (shL sh (k+1)) W3 from by rw[HSU.out];exact hJx3)
           clear hJx3 hyl hR d0 d1
           gi_wp2_with fail
           refine QK.normal ?_
           refine' Aq 11 (by kernel_rfl) ?_ ?_;rotate_left;(simp only[Aa,Ab,Ac];rfl)
           gi_wp2_with fail
           refine QK.normal ?_
           refine' Aq 12 (by kernel_rfl) ?_ ?_;rotate_left;(simp only[Aa,Ab,Ac];rfl)
           gi_wp2_with fail
           refine QK.normal ?_
           refine wpAnyIn_done (by kernel_rfl) ?_ _
           gi_wp2
           refine bodyPost_ret (results_none rfl _ _ _) rfl ?_
           exact⟨⟨_,rfl⟩,.inr ⟨_,HPX2.out,H3.out⟩⟩
        ·skip
         gi_wp2_with fail
         refine QK.normal ?_
         refine' Aq 4 (by kernel_rfl) ?_ ?_;rotate_left;(simp only[Aa,Ab,Ac];rfl)
         gi_wp2_with fail
         refine QK.normal ?_
         refine' Aq 6 (by kernel_rfl) ?_ ?_;rotate_left;(simp only[Aa,Ab,Ac];rfl)
         gi_wp2_with fail
         refine⟨trivial,?_⟩
         refine(WideF.wide.calls (n:=7) HCT.out).mono ?_
         rintro e' w' ⟨rfl,rfl⟩
         gi_wp2_with fail
         refine QK.normal ?_
         refine' Aq 7 (by kernel_rfl) ?_ ?_;rotate_left;(simp only[Aa,Ab,Ac];rfl)
         gi_wp2_with fail
         refine QK.normal ?_
         refine' A0 8 9 (by kernel_rfl) ?_ ?_ ?_ ?_;rotate_left 2;(simp only[Aa,Ab,Ac];rfl);(simp only[Aa,Ab,Ac];rfl)
         ·skip
          gi_wp2_with fail
          refine QK.normal ?_
          refine' Aq 9 (by kernel_rfl) ?_ ?_;rotate_left;(simp only[Aa,Ab,Ac];rfl)
          gi_wp2_with fail
          refine QK.normal ?_
          refine' Aq 10 (by kernel_rfl) ?_ ?_;rotate_left;(simp only[Aa,Ab,Ac];rfl)
          obtain⟨fn',tmps,assign,body,hyl,hR⟩:=HY.out (shL sh k) k v0 v0 HJV.out (Below.refl _ _) HPX.out
          try simp only at hyl
          gi_wp2_with fail
          refine hR.mono ?_
          rintro e W3 (⟨rfl,hJ3⟩|⟨rfl,hJx3⟩)
          ·have H3:=Ag (show J (shL sh (k+1)) W3 from by rw[HSU.out];exact hJ3)
           clear hJ3 hyl hR d0 d1
           gi_wp2_with fail
           refine QK.normal ?_
           refine' Aq 11 (by kernel_rfl) ?_ ?_;rotate_left;(simp only[Aa,Ab,Ac];rfl)
           gi_wp2_with fail
           refine QK.normal ?_
           refine' Aq 12 (by kernel_rfl) ?_ ?_;rotate_left;(simp only[Aa,Ab,Ac];rfl)
           gi_wp2_with fail
           refine QK.normal ?_
           refine wpAnyIn_done (by kernel_rfl) ?_ _
           gi_wp2
           go_roundw
           case rel=> exact⟨k+1,by omega,by go_num,H3⟩
           case measure=> simp[intOf];omega
          ·have H3:=Ag (show Jx (shL sh (k+1)) W3 from by rw[HSU.out];exact hJx3)
           clear hJx3 hyl hR d0 d1
           gi_wp2_with fail
           refine QK.normal ?_
           refine' Aq 11 (by kernel_rfl) ?_ ?_;rotate_left;(simp only[Aa,Ab,Ac];rfl)
           gi_wp2_with fail
           refine QK.normal ?_
           refine' Aq 12 (by kernel_rfl) ?_ ?_;rotate_left;(simp only[Aa,Ab,Ac];rfl)
           gi_wp2_with fail
           refine QK.normal ?_
           refine wpAnyIn_done (by kernel_rfl) ?_ _
           gi_wp2
           refine bodyPost_ret (results_none rfl _ _ _) rfl ?_
           exact⟨⟨_,rfl⟩,.inr ⟨_,HPX2.out,H3.out⟩⟩
         ·skip
          gi_wp2_with fail
          refine QK.normal ?_
          refine' Aq 8 (by kernel_rfl) ?_ ?_;rotate_left;(simp only[Aa,Ab,Ac];rfl)
          gi_wp2_with fail
          refine QK.normal ?_
          refine' Aq 10 (by kernel_rfl) ?_ ?_;rotate_left;(simp only[Aa,Ab,Ac];rfl)
          obtain⟨fn',tmps,assign,body,hyl,hR⟩:=HY.out (shL sh k) k v0 v0 HJV.out (Below.refl _ _) HPX.out
          try simp only at hyl
          gi_wp2_with fail
          refine hR.mono ?_
          rintro e W3 (⟨rfl,hJ3⟩|⟨rfl,hJx3⟩)
          ·have H3:=Ag (show J (shL sh (k+1)) W3 from by rw[HSU.out];exact hJ3)
           clear hJ3 hyl hR d0 d1
           gi_wp2_with fail
           refine QK.normal ?_
           refine' Aq 11 (by kernel_rfl) ?_ ?_;rotate_left;(simp only[Aa,Ab,Ac];rfl)
           gi_wp2_with fail
           refine QK.normal ?_
           refine' Aq 12 (by kernel_rfl) ?_ ?_;rotate_left;(simp only[Aa,Ab,Ac];rfl)
           gi_wp2_with fail
           refine QK.normal ?_
           refine wpAnyIn_done (by kernel_rfl) ?_ _
           gi_wp2
           go_roundw
           case rel=> exact⟨k+1,by omega,by go_num,H3⟩
           case measure=> simp[intOf];omega
          ·have H3:=Ag (show Jx (shL sh (k+1)) W3 from by rw[HSU.out];exact hJx3)
           clear hJx3 hyl hR d0 d1
           gi_wp2_with fail
           refine QK.normal ?_
           refine' Aq 11 (by kernel_rfl) ?_ ?_;rotate_left;(simp only[Aa,Ab,Ac];rfl)
           gi_wp2_with fail
           refine QK.normal ?_
           refine' Aq 12 (by kernel_rfl) ?_ ?_;rotate_left;(simp only[Aa,Ab,Ac];rfl)
           gi_wp2_with fail
           refine QK.normal ?_
           refine wpAnyIn_done (by kernel_rfl) ?_ _
           gi_wp2
           refine bodyPost_ret (results_none rfl _ _ _) rfl ?_
           exact⟨⟨_,rfl⟩,.inr ⟨_,HPX2.out,H3.out⟩⟩
       ·skip
        gi_wp2_with fail
        refine QK.normal ?_
        refine' Aq 3 (by kernel_rfl) ?_ ?_;rotate_left;(simp only[Aa,Ab,Ac];rfl)
        gi_wp2_with fail
        refine QK.normal ?_
        refine' Aq 4 (by kernel_rfl) ?_ ?_;rotate_left;(simp only[Aa,Ab,Ac];rfl)
        gi_wp2_with fail
        refine QK.normal ?_
        refine' Aq 6 (by kernel_rfl) ?_ ?_;rotate_left;(simp only[Aa,Ab,Ac];rfl)
        gi_wp2_with fail
        refine⟨trivial,?_⟩
        refine(WideF.wide.calls (n:=7) HCT.out).mono ?_
        rintro e' w' ⟨rfl,rfl⟩
        gi_wp2_with fail
        refine QK.normal ?_
        refine' Aq 7 (by kernel_rfl) ?_ ?_;rotate_left;(simp only[Aa,Ab,Ac];rfl)
        gi_wp2_with fail
        refine QK.normal ?_
        refine' A0 8 9 (by kernel_rfl) ?_ ?_ ?_ ?_;rotate_left 2;(simp only[Aa,Ab,Ac];rfl);(simp only[Aa,Ab,Ac];rfl)
        ·skip
         gi_wp2_with fail
         refine QK.normal ?_
         refine' Aq 9 (by kernel_rfl) ?_ ?_;rotate_left;(simp only[Aa,Ab,Ac];rfl)
         gi_wp2_with fail
         refine QK.normal ?_
         refine' Aq 10 (by kernel_rfl) ?_ ?_;rotate_left;(simp only[Aa,Ab,Ac];rfl)
         obtain⟨fn',tmps,assign,body,hyl,hR⟩:=HY.out (shL sh k) k v0 v0 HJV.out (Below.refl _ _) HPX.out
         try simp only at hyl
         gi_wp2_with fail
         refine hR.mono ?_
         rintro e W3 (⟨rfl,hJ3⟩|⟨rfl,hJx3⟩)
         ·have H3:=Ag (show J (shL sh (k+1)) W3 from by rw[HSU.out];exact hJ3)
          clear hJ3 hyl hR d0 d1
          gi_wp2_with fail
          refine QK.normal ?_
          refine' Aq 11 (by kernel_rfl) ?_ ?_;rotate_left;(simp only[Aa,Ab,Ac];rfl)
          gi_wp2_with fail
          refine QK.normal ?_
          refine' Aq 12 (by kernel_rfl) ?_ ?_;rotate_left;(simp only[Aa,Ab,Ac];rfl)
          gi_wp2_with fail
          refine QK.normal ?_
          refine wpAnyIn_done (by kernel_rfl) ?_ _
          gi_wp2
          go_roundw
          case rel=> exact⟨k+1,by omega,by go_num,H3⟩
          case measure=> simp[intOf];omega
         ·have H3:=Ag (show Jx (shL sh (k+1)) W3 from by rw[HSU.out];exact hJx3)
          clear hJx3 hyl hR d0 d1
          gi_wp2_with fail
          refine QK.normal ?_
          refine' Aq 11 (by kernel_rfl) ?_ ?_;rotate_left;(simp only[Aa,Ab,Ac];rfl)
          gi_wp2_with fail
          refine QK.normal ?_
          refine' Aq 12 (by kernel_rfl) ?_ ?_;rotate_left;(simp only[Aa,Ab,Ac];rfl)
          gi_wp2_with fail
          refine QK.normal ?_
          refine wpAnyIn_done (by kernel_rfl) ?_ _
          gi_wp2
          refine bodyPost_ret (results_none rfl _ _ _) rfl ?_
          exact⟨⟨_,rfl⟩,.inr ⟨_,HPX2.out,H3.out⟩⟩
        ·skip
         gi_wp2_with fail
         refine QK.normal ?_
         refine' Aq 8 (by kernel_rfl) ?_ ?_;rotate_left;(simp only[Aa,Ab,Ac];rfl)
         gi_wp2_with fail
         refine QK.normal ?_
         refine' Aq 10 (by kernel_rfl) ?_ ?_;rotate_left;(simp only[Aa,Ab,Ac];rfl)
         obtain⟨fn',tmps,assign,body,hyl,hR⟩:=HY.out (shL sh k) k v0 v0 HJV.out (Below.refl _ _) HPX.out
         try simp only at hyl
         gi_wp2_with fail
         refine hR.mono ?_
         rintro e W3 (⟨rfl,hJ3⟩|⟨rfl,hJx3⟩)
         ·have H3:=Ag (show J (shL sh (k+1)) W3 from by rw[HSU.out];exact hJ3)
          clear hJ3 hyl hR d0 d1
          gi_wp2_with fail
          refine QK.normal ?_
          refine' Aq 11 (by kernel_rfl) ?_ ?_;rotate_left;(simp only[Aa,Ab,Ac];rfl)
          gi_wp2_with fail
          refine QK.normal ?_
          refine' Aq 12 (by kernel_rfl) ?_ ?_;rotate_left;(simp only[Aa,Ab,Ac];rfl)
          gi_wp2_with fail
          refine QK.normal ?_
          refine wpAnyIn_done (by kernel_rfl) ?_ _
          gi_wp2
          go_roundw
          case rel=> exact⟨k+1,by omega,by go_num,H3⟩
          case measure=> simp[intOf];omega
         ·have H3:=Ag (show Jx (shL sh (k+1)) W3 from by rw[HSU.out];exact hJx3)
          clear hJx3 hyl hR d0 d1
          gi_wp2_with fail
          refine QK.normal ?_
          refine' Aq 11 (by kernel_rfl) ?_ ?_;rotate_left;(simp only[Aa,Ab,Ac];rfl)
          gi_wp2_with fail
          refine QK.normal ?_
          refine' Aq 12 (by kernel_rfl) ?_ ?_;rotate_left;(simp only[Aa,Ab,Ac];rfl)
          gi_wp2_with fail
          refine QK.normal ?_
          refine wpAnyIn_done (by kernel_rfl) ?_ _
          gi_wp2
          refine bodyPost_ret (results_none rfl _ _ _) rfl ?_
          exact⟨⟨_,rfl⟩,.inr ⟨_,HPX2.out,H3.out⟩⟩
      ·skip
       gi_wp2_with fail
       refine QK.normal ?_
       refine' Aq 2 (by kernel_rfl) ?_ ?_;rotate_left;(simp only[Aa,Ab,Ac];rfl)
       gi_wp2_with fail
       refine QK.normal ?_
       refine' Aq 3 (by kernel_rfl) ?_ ?_;rotate_left;(simp only[Aa,Ab,Ac];rfl)
       gi_wp2_with fail
       refine QK.normal ?_
       refine' Aq 4 (by kernel_rfl) ?_ ?_;rotate_left;(simp only[Aa,Ab,Ac];rfl)
       gi_wp2_with fail
       refine QK.normal ?_
       refine' Aq 6 (by kernel_rfl) ?_ ?_;rotate_left;(simp only[Aa,Ab,Ac];rfl)
       gi_wp2_with fail
       refine⟨trivial,?_⟩
       refine(WideF.wide.calls (n:=7) HCT.out).mono ?_
       rintro e' w' ⟨rfl,rfl⟩
       gi_wp2_with fail
       refine QK.normal ?_
       refine' Aq 7 (by kernel_rfl) ?_ ?_;rotate_left;(simp only[Aa,Ab,Ac];rfl)
       gi_wp2_with fail
       refine QK.normal ?_
       refine' A0 8 9 (by kernel_rfl) ?_ ?_ ?_ ?_;rotate_left 2;(simp only[Aa,Ab,Ac];rfl);(simp only[Aa,Ab,Ac];rfl)
       ·skip
        gi_wp2_with fail
        refine QK.normal ?_
        refine' Aq 9 (by kernel_rfl) ?_ ?_;rotate_left;(simp only[Aa,Ab,Ac];rfl)
        gi_wp2_with fail
        refine QK.normal ?_
        refine' Aq 10 (by kernel_rfl) ?_ ?_;rotate_left;(simp only[Aa,Ab,Ac];rfl)
        obtain⟨fn',tmps,assign,body,hyl,hR⟩:=HY.out (shL sh k) k v0 v0 HJV.out (Below.refl _ _) HPX.out
        try simp only at hyl
        gi_wp2_with fail
        refine hR.mono ?_
        rintro e W3 (⟨rfl,hJ3⟩|⟨rfl,hJx3⟩)
        ·have H3:=Ag (show J (shL sh (k+1)) W3 from by rw[HSU.out];exact hJ3)
         clear hJ3 hyl hR d0 d1
         gi_wp2_with fail
         refine QK.normal ?_
         refine' Aq 11 (by kernel_rfl) ?_ ?_;rotate_left;(simp only[Aa,Ab,Ac];rfl)
         gi_wp2_with fail
         refine QK.normal ?_
         refine' Aq 12 (by kernel_rfl) ?_ ?_;rotate_left;(simp only[Aa,Ab,Ac];rfl)
         gi_wp2_with fail
         refine QK.normal ?_
         refine wpAnyIn_done (by kernel_rfl) ?_ _
         gi_wp2
         go_roundw
         case rel=> exact⟨k+1,by omega,by go_num,H3⟩
         case measure=> simp[intOf];omega
        ·have H3:=Ag (show Jx (shL sh (k+1)) W3 from by rw[HSU.out];exact hJx3)
         clear hJx3 hyl hR d0 d1
         gi_wp2_with fail
         refine QK.normal ?_
         refine' Aq 11 (by kernel_rfl) ?_ ?_;rotate_left;(simp only[Aa,Ab,Ac];rfl)
         gi_wp2_with fail
         refine QK.normal ?_
         refine' Aq 12 (by kernel_rfl) ?_ ?_;rotate_left;(simp only[Aa,Ab,Ac];rfl)
         gi_wp2_with fail
         refine QK.normal ?_
         refine wpAnyIn_done (by kernel_rfl) ?_ _
         gi_wp2
         refine bodyPost_ret (results_none rfl _ _ _) rfl ?_
         exact⟨⟨_,rfl⟩,.inr ⟨_,HPX2.out,H3.out⟩⟩
       ·skip
        gi_wp2_with fail
        refine QK.normal ?_
        refine' Aq 8 (by kernel_rfl) ?_ ?_;rotate_left;(simp only[Aa,Ab,Ac];rfl)
        gi_wp2_with fail
        refine QK.normal ?_
        refine' Aq 10 (by kernel_rfl) ?_ ?_;rotate_left;(simp only[Aa,Ab,Ac];rfl)
        obtain⟨fn',tmps,assign,body,hyl,hR⟩:=HY.out (shL sh k) k v0 v0 HJV.out (Below.refl _ _) HPX.out
        try simp only at hyl
        gi_wp2_with fail
        refine hR.mono ?_
        rintro e W3 (⟨rfl,hJ3⟩|⟨rfl,hJx3⟩)
        ·have H3:=Ag (show J (shL sh (k+1)) W3 from by rw[HSU.out];exact hJ3)
         clear hJ3 hyl hR d0 d1
         gi_wp2_with fail
         refine QK.normal ?_
         refine' Aq 11 (by kernel_rfl) ?_ ?_;rotate_left;(simp only[Aa,Ab,Ac];rfl)
         gi_wp2_with fail
         refine QK.normal ?_
         refine' Aq 12 (by kernel_rfl) ?_ ?_;rotate_left;(simp only[Aa,Ab,Ac];rfl)
         gi_wp2_with fail
         refine QK.normal ?_
         refine wpAnyIn_done (by kernel_rfl) ?_ _
         gi_wp2
         go_roundw
         case rel=> exact⟨k+1,by omega,by go_num,H3⟩
         case measure=> simp[intOf];omega
        ·have H3:=Ag (show Jx (shL sh (k+1)) W3 from by rw[HSU.out];exact hJx3)
         clear hJx3 hyl hR d0 d1
         gi_wp2_with fail
         refine QK.normal ?_
         refine' Aq 11 (by kernel_rfl) ?_ ?_;rotate_left;(simp only[Aa,Ab,Ac];rfl)
         gi_wp2_with fail
         refine QK.normal ?_
         refine' Aq 12 (by kernel_rfl) ?_ ?_;rotate_left;(simp only[Aa,Ab,Ac];rfl)
         gi_wp2_with fail
         refine QK.normal ?_
         refine wpAnyIn_done (by kernel_rfl) ?_ _
         gi_wp2
         refine bodyPost_ret (results_none rfl _ _ _) rfl ?_
         exact⟨⟨_,rfl⟩,.inr ⟨_,HPX2.out,H3.out⟩⟩
     ·skip
      gi_wp2_with fail
      refine QK.normal ?_
      refine' Aq 1 (by kernel_rfl) ?_ ?_;rotate_left;(simp only[Aa,Ab,Ac];rfl)
      gi_wp2_with fail
      refine QK.normal ?_
      refine' Aq 2 (by kernel_rfl) ?_ ?_;rotate_left;(simp only[Aa,Ab,Ac];rfl)
      gi_wp2_with fail
      refine QK.normal ?_
      refine' Aq 3 (by kernel_rfl) ?_ ?_;rotate_left;(simp only[Aa,Ab,Ac];rfl)
      gi_wp2_with fail
      refine QK.normal ?_
      refine' Aq 4 (by kernel_rfl) ?_ ?_;rotate_left;(simp only[Aa,Ab,Ac];rfl)
      gi_wp2_with fail
      refine QK.normal ?_
      refine' Aq 6 (by kernel_rfl) ?_ ?_;rotate_left;(simp only[Aa,Ab,Ac];rfl)
      gi_wp2_with fail
      refine⟨trivial,?_⟩
      refine(WideF.wide.calls (n:=7) HCT.out).mono ?_
      rintro e' w' ⟨rfl,rfl⟩
      gi_wp2_with fail
      refine QK.normal ?_
      refine' Aq 7 (by kernel_rfl) ?_ ?_;rotate_left;(simp only[Aa,Ab,Ac];rfl)
      gi_wp2_with fail
      refine QK.normal ?_
      refine' A0 8 9 (by kernel_rfl) ?_ ?_ ?_ ?_;rotate_left 2;(simp only[Aa,Ab,Ac];rfl);(simp only[Aa,Ab,Ac];rfl)
      ·skip
       gi_wp2_with fail
       refine QK.normal ?_
       refine' Aq 9 (by kernel_rfl) ?_ ?_;rotate_left;(simp only[Aa,Ab,Ac];rfl)
       gi_wp2_with fail
       refine QK.normal ?_
       refine' Aq 10 (by kernel_rfl) ?_ ?_;rotate_left;(simp only[Aa,Ab,Ac];rfl)
       obtain⟨fn',tmps,assign,body,hyl,hR⟩:=HY.out (shL sh k) k v0 v0 HJV.out (Below.refl _ _) HPX.out
       try simp only at hyl
       gi_wp2_with fail
       refine hR.mono ?_
       rintro e W3 (⟨rfl,hJ3⟩|⟨rfl,hJx3⟩)
       ·have H3:=Ag (show J (shL sh (k+1)) W3 from by rw[HSU.out];exact hJ3)
        clear hJ3 hyl hR d0 d1
        gi_wp2_with fail
        refine QK.normal ?_
        refine' Aq 11 (by kernel_rfl) ?_ ?_;rotate_left;(simp only[Aa,Ab,Ac];rfl)
        gi_wp2_with fail
        refine QK.normal ?_
        refine' Aq 12 (by kernel_rfl) ?_ ?_;rotate_left;(simp only[Aa,Ab,Ac];rfl)
        gi_wp2_with fail
        refine QK.normal ?_
        refine wpAnyIn_done (by kernel_rfl) ?_ _
        gi_wp2
        go_roundw
        case rel=> exact⟨k+1,by omega,by go_num,H3⟩
        case measure=> simp[intOf];omega
       ·have H3:=Ag (show Jx (shL sh (k+1)) W3 from by rw[HSU.out];exact hJx3)
        clear hJx3 hyl hR d0 d1
        gi_wp2_with fail
        refine QK.normal ?_
        refine' Aq 11 (by kernel_rfl) ?_ ?_;rotate_left;(simp only[Aa,Ab,Ac];rfl)
        gi_wp2_with fail
        refine QK.normal ?_
        refine' Aq 12 (by kernel_rfl) ?_ ?_;rotate_left;(simp only[Aa,Ab,Ac];rfl)
        gi_wp2_with fail
        refine QK.normal ?_
        refine wpAnyIn_done (by kernel_rfl) ?_ _
        gi_wp2
        refine bodyPost_ret (results_none rfl _ _ _) rfl ?_
        exact⟨⟨_,rfl⟩,.inr ⟨_,HPX2.out,H3.out⟩⟩
      ·skip
       gi_wp2_with fail
       refine QK.normal ?_
       refine' Aq 8 (by kernel_rfl) ?_ ?_;rotate_left;(simp only[Aa,Ab,Ac];rfl)
       gi_wp2_with fail
       refine QK.normal ?_
       refine' Aq 10 (by kernel_rfl) ?_ ?_;rotate_left;(simp only[Aa,Ab,Ac];rfl)
       obtain⟨fn',tmps,assign,body,hyl,hR⟩:=HY.out (shL sh k) k v0 v0 HJV.out (Below.refl _ _) HPX.out
       try simp only at hyl
       gi_wp2_with fail
       refine hR.mono ?_
       rintro e W3 (⟨rfl,hJ3⟩|⟨rfl,hJx3⟩)
       ·have H3:=Ag (show J (shL sh (k+1)) W3 from by rw[HSU.out];exact hJ3)
        clear hJ3 hyl hR d0 d1
        gi_wp2_with fail
        refine QK.normal ?_
        refine' Aq 11 (by kernel_rfl) ?_ ?_;rotate_left;(simp only[Aa,Ab,Ac];rfl)
        gi_wp2_with fail
        refine QK.normal ?_
        refine' Aq 12 (by kernel_rfl) ?_ ?_;rotate_left;(simp only[Aa,Ab,Ac];rfl)
        gi_wp2_with fail
        refine QK.normal ?_
        refine wpAnyIn_done (by kernel_rfl) ?_ _
        gi_wp2
        go_roundw
        case rel=> exact⟨k+1,by omega,by go_num,H3⟩
        case measure=> simp[intOf];omega
       ·have H3:=Ag (show Jx (shL sh (k+1)) W3 from by rw[HSU.out];exact hJx3)
        clear hJx3 hyl hR d0 d1
        gi_wp2_with fail
        refine QK.normal ?_
        refine' Aq 11 (by kernel_rfl) ?_ ?_;rotate_left;(simp only[Aa,Ab,Ac];rfl)
        gi_wp2_with fail
        refine QK.normal ?_
        refine' Aq 12 (by kernel_rfl) ?_ ?_;rotate_left;(simp only[Aa,Ab,Ac];rfl)
        gi_wp2_with fail
        refine QK.normal ?_
        refine wpAnyIn_done (by kernel_rfl) ?_ _
        gi_wp2
        refine bodyPost_ret (results_none rfl _ _ _) rfl ?_
        exact⟨⟨_,rfl⟩,.inr ⟨_,HPX2.out,H3.out⟩⟩
    ·skip
     gi_wp2_with fail
     refine QK.normal ?_
     refine' Aq 0 (by kernel_rfl) ?_ ?_;rotate_left;(simp only[Aa,Ab,Ac];rfl)
     gi_wp2_with fail
     refine QK.normal ?_
     refine' Aq 1 (by kernel_rfl) ?_ ?_;rotate_left;(simp only[Aa,Ab,Ac];rfl)
     gi_wp2_with fail
     refine QK.normal ?_
     refine' Aq 2 (by kernel_rfl) ?_ ?_;rotate_left;(simp only[Aa,Ab,Ac];rfl)
     gi_wp2_with fail
     refine QK.normal ?_
     refine' Aq 3 (by kernel_rfl) ?_ ?_;rotate_left;(simp only[Aa,Ab,Ac];rfl)
     gi_wp2_with fail
     refine QK.normal ?_
     refine' Aq 4 (by kernel_rfl) ?_ ?_;rotate_left;(simp only[Aa,Ab,Ac];rfl)
     gi_wp2_with fail
     refine QK.normal ?_
     refine' Aq 6 (by kernel_rfl) ?_ ?_;rotate_left;(simp only[Aa,Ab,Ac];rfl)
     gi_wp2_with fail
     refine⟨trivial,?_⟩
     refine(WideF.wide.calls (n:=7) HCT.out).mono ?_
     rintro e' w' ⟨rfl,rfl⟩
     gi_wp2_with fail
     refine QK.normal ?_
     refine' Aq 7 (by kernel_rfl) ?_ ?_;rotate_left;(simp only[Aa,Ab,Ac];rfl)
     gi_wp2_with fail
     refine QK.normal ?_
     refine' A0 8 9 (by kernel_rfl) ?_ ?_ ?_ ?_;rotate_left 2;(simp only[Aa,Ab,Ac];rfl);(simp only[Aa,Ab,Ac];rfl)
     ·skip
      gi_wp2_with fail
      refine QK.normal ?_
      refine' Aq 9 (by kernel_rfl) ?_ ?_;rotate_left;(simp only[Aa,Ab,Ac];rfl)
      gi_wp2_with fail
      refine QK.normal ?_
      refine' Aq 10 (by kernel_rfl) ?_ ?_;rotate_left;(simp only[Aa,Ab,Ac];rfl)
      obtain⟨fn',tmps,assign,body,hyl,hR⟩:=HY.out (shL sh k) k v0 v0 HJV.out (Below.refl _ _) HPX.out
      try simp only at hyl
      gi_wp2_with fail
      refine hR.mono ?_
      rintro e W3 (⟨rfl,hJ3⟩|⟨rfl,hJx3⟩)
      ·have H3:=Ag (show J (shL sh (k+1)) W3 from by rw[HSU.out];exact hJ3)
       clear hJ3 hyl hR d0 d1
       gi_wp2_with fail
       refine QK.normal ?_
       refine' Aq 11 (by kernel_rfl) ?_ ?_;rotate_left;(simp only[Aa,Ab,Ac];rfl)
       gi_wp2_with fail
       refine QK.normal ?_
       refine' Aq 12 (by kernel_rfl) ?_ ?_;rotate_left;(simp only[Aa,Ab,Ac];rfl)
       gi_wp2_with fail
       refine QK.normal ?_
       refine wpAnyIn_done (by kernel_rfl) ?_ _
       gi_wp2
       go_roundw
       case rel=> exact⟨k+1,by omega,by go_num,H3⟩
       case measure=> simp[intOf];omega
      ·have H3:=Ag (show Jx (shL sh (k+1)) W3 from by rw[HSU.out];exact hJx3)
       clear hJx3 hyl hR d0 d1
       gi_wp2_with fail
       refine QK.normal ?_
       refine' Aq 11 (by kernel_rfl) ?_ ?_;rotate_left;(simp only[Aa,Ab,Ac];rfl)
       gi_wp2_with fail
       refine QK.normal ?_
       refine' Aq 12 (by kernel_rfl) ?_ ?_;rotate_left;(simp only[Aa,Ab,Ac];rfl)
       gi_wp2_with fail
       refine QK.normal ?_
       refine wpAnyIn_done (by kernel_rfl) ?_ _
       gi_wp2
       refine bodyPost_ret (results_none rfl _ _ _) rfl ?_
       exact⟨⟨_,rfl⟩,.inr ⟨_,HPX2.out,H3.out⟩⟩
     ·skip
      gi_wp2_with fail
      refine QK.normal ?_
      refine' Aq 8 (by kernel_rfl) ?_ ?_;rotate_left;(simp only[Aa,Ab,Ac];rfl)
      gi_wp2_with fail
      refine QK.normal ?_
      refine' Aq 10 (by kernel_rfl) ?_ ?_;rotate_left;(simp only[Aa,Ab,Ac];rfl)
      obtain⟨fn',tmps,assign,body,hyl,hR⟩:=HY.out (shL sh k) k v0 v0 HJV.out (Below.refl _ _) HPX.out
      try simp only at hyl
      gi_wp2_with fail
      refine hR.mono ?_
      rintro e W3 (⟨rfl,hJ3⟩|⟨rfl,hJx3⟩)
      ·have H3:=Ag (show J (shL sh (k+1)) W3 from by rw[HSU.out];exact hJ3)
       clear hJ3 hyl hR d0 d1
       gi_wp2_with fail
       refine QK.normal ?_
       refine' Aq 11 (by kernel_rfl) ?_ ?_;rotate_left;(simp only[Aa,Ab,Ac];rfl)
       gi_wp2_with fail
       refine QK.normal ?_
       refine' Aq 12 (by kernel_rfl) ?_ ?_;rotate_left;(simp only[Aa,Ab,Ac];rfl)
       gi_wp2_with fail
       refine QK.normal ?_
       refine wpAnyIn_done (by kernel_rfl) ?_ _
       gi_wp2
       go_roundw
       case rel=> exact⟨k+1,by omega,by go_num,H3⟩
       case measure=> simp[intOf];omega
      ·have H3:=Ag (show Jx (shL sh (k+1)) W3 from by rw[HSU.out];exact hJx3)
       clear hJx3 hyl hR d0 d1
       gi_wp2_with fail
       refine QK.normal ?_
       refine' Aq 11 (by kernel_rfl) ?_ ?_;rotate_left;(simp only[Aa,Ab,Ac];rfl)
       gi_wp2_with fail
       refine QK.normal ?_
       refine' Aq 12 (by kernel_rfl) ?_ ?_;rotate_left;(simp only[Aa,Ab,Ac];rfl)
       gi_wp2_with fail
       refine QK.normal ?_
       refine wpAnyIn_done (by kernel_rfl) ?_ _
       gi_wp2
       refine bodyPost_ret (results_none rfl _ _ _) rfl ?_
       exact⟨⟨_,rfl⟩,.inr ⟨_,HPX2.out,H3.out⟩⟩
  ·have hge:¬ (k:Int)<(fn:Int):=by omega
   have HF:=Ag (show J (shL sh fn) wr by have h:=HR.out;rwa [show k=fn by omega] at h)
   gi_wp2
   go_end0
   exact⟨⟨_,rfl⟩,.inl HF.out⟩
end Go.Proofs.YtgdlfiphihaooaaGreat

import Derived.Test.YtgdlfiphihaooaaGreatYs12
import Derived.ArgAppend
set_option linter.unusedSimpArgs false
set_option linter.unusedVariables false
set_option maxRecDepth 100000
set_option maxHeartbeats 8000000
open _root_.List renaming getElem?_toArray→Aa,getElem?_cons_zero→Ab,getElem?_cons_succ→Ac,setIfInBounds_toArray→Ad,set_cons_zero→Ae,set_cons_succ→Af
open _root_.Go.Lib renaming hid→Ag
open _root_.Nat renaming le_refl→Ah,le_trans→Aj,lt_of_lt_of_le→Ak
open _root_.And renaming intro→Ai
open _root_.Go.Act renaming put→Al
namespace Go.Proofs.YtgdlfiphihaooaaGreat
open Go Go.RowKit Go.Sort Go.Shelf
def NoC (A:World) (row:Option Nat):Prop:=∀ r,row=some r→∃ o:Obj,A.heap[r]?=some o∧o.isCells=false
section
variable {A B:World} {row:Option Nat}
theorem LC {b o:Nat} {cs:List Value} (h:A.rangeAt b o cs) (hg:A.grownBy B row) (hr:NoC A row):B.rangeAt b o cs:=fun j v hv=> Ib (h j v hv) hg hr
theorem G6 {base e size n:Nat} {v:Value} {xs:List Value} (h:A.ownsRow base e size v n xs) (hg:A.grownBy B row) (hr:NoC A row):B.ownsRow base e size v n xs:=by
 obtain⟨h1,h2|⟨g,cap,C,h3,h4,h5,h6⟩⟩:=h
 ·exact⟨h1,.inl h2⟩
 ·refine⟨h1,.inr ⟨g,cap,C,h3,h4,?_,h6⟩⟩
  rw[hg.block g (lt_of_block h5) (fun e=> by
   obtain⟨o,ho,hc⟩:=hr g e.symm
   rw[h5] at ho;cases ho;cases hc)]
  exact h5
theorem RwC.grown {α:Type} {C C':World→List Value→α→Prop} {sz:Nat} {F:Nat→Prop} {v:Value} {l:List α} (h:RwC C sz F A v l) (hg:A.grownBy B row) (hr:NoC A row) (hC:∀ cs,∀ a∈l,C A cs a→C' B cs a):RwC C' sz F B v l:=by
 obtain⟨ao,c,h1,h2,h3,h4⟩:=h
 refine⟨ao,c,h1,h2,h3,fun h0=> ?_⟩
 obtain⟨b,o,e,hF,hb,ha⟩:=h4 h0
 refine⟨b,o,e,hF,Ak hb hg.size,fun j hj=> ?_⟩
 obtain⟨cs,h5,h6,h7⟩:=ha j hj
 exact⟨cs,h5,LC h6 hg hr,hC cs _ (List.getElem_mem hj) h7⟩
theorem TmC.grown {F:Nat→Prop}:∀ (t:Tm) (cs:List Value),TmC F A cs t→A.grownBy B row→NoC A row→TmC F B cs t:=by
 refine Tm.ind fun k u n s ks ih cs h hg hr=> ?_
 obtain⟨v,h1,h2⟩:=B0.1 h
 exact B0.2 ⟨v,h1,(h2.rwc.grown (C':=TmC F) hg hr (fun cs a ha hc=> ih a ha cs hc hg hr)).slt⟩
theorem SlI.grown {F:Nat→Prop} {v:Value} {l:List Int} (h:SlI F A v l) (hg:A.grownBy B row) (hr:NoC A row):SlI F B v l:=⟨h.1.own hg hr,h.2⟩
theorem PmF.grown {F:Nat→Prop} {p:PmD} {vr vq vg:Value} (h:PmF F A p vr vq vg) (hg:A.grownBy B row) (hr:NoC A row):PmF F B p vr vq vg:=⟨h.1.grown hg hr,h.2.1.grown hg hr,h.2.2.grown hg hr⟩
theorem FlC.grown {F:Nat→Prop} {cs:List Value} {f:FileM} (h:FlC F A cs f) (hg:A.grownBy B row) (hr:NoC A row):FlC F B cs f:=by
 obtain⟨vr,vq,vg,tc,h1,h2,h3⟩:=h
 exact⟨vr,vq,vg,tc,h1,h2.grown hg hr,TmC.grown _ _ h3 hg hr⟩
theorem WrC.grown {F:Nat→Prop} {cs:List Value} {f:WrM} (h:WrC F A cs f) (hg:A.grownBy B row) (hr:NoC A row):WrC F B cs f:=by
 obtain⟨tc,h1,h3⟩:=h
 exact⟨tc,h1,TmC.grown _ _ h3 hg hr⟩
theorem CvC.grown {F:Nat→Prop} {cs:List Value} {c:CirV} (h:CvC F A cs c) (hg:A.grownBy B row) (hr:NoC A row):CvC F B cs c:=⟨h.1,fun e=> G6 (h.2.1 e) hg hr,fun e=> (h.2.2 e).grown hg hr⟩
theorem OwR.grown {α:Type} {C C':World→List Value→α→Prop} {sz b:Nat} {ty:TypeId} {v:Value} {l:List α} (h:OwR C sz ty b A v l) (hg:A.grownBy B row) (hr:NoC A row) (hC:∀ cs,∀ a∈l,C A cs a→C' B cs a):OwR C' sz ty b B v l:=by
 obtain⟨css,h1,h2,h3⟩:=h
 exact⟨css,G6 h1 hg hr,h2,fun j a b=> ⟨(h3 j a b).1,hC _ _ (List.getElem_mem b) (h3 j a b).2⟩⟩
theorem OwnX.grown {w0:World} {m0 xs:List Nat} {bp:Nat} {bt:TypeId} {cells:List Value} {vf vc vw:Value} {fs:List FileM} {cv:List CirV} {ws:List WrM} {ex:List (List Value × Tm)}
  (h:OwnX w0 m0 xs A bp bt cells vf vc vw fs cv ws ex) (hg:A.grownBy B row) (hr:NoC A row) (hw:∀ r,row=some r→w0.heap.size≤r):OwnX w0 m0 xs B bp bt cells vf vc vw fs cv ws ex:=by
 have hG:∀ k,Fz xs (msL bp vf vc vw cv) A k→Fz xs (msL bp vf vc vw cv) B k:=fun k hk=> ⟨hk.1,Ak hk.2 hg.size⟩
 refine⟨⟨hg.os.trans h.ch.os,hg.tape.trans h.ch.tape,hg.output.trans h.ch.output,Aj h.ch.size hg.size,fun k hk hn=> ?_⟩,h.nd,h.sub,fun k hk=> ⟨(h.ax k hk).1,Ak (h.ax k hk).2 hg.size⟩,BH h.bl hg hr,
  h.rf.grown hg hr (fun _ _ _ hf=> (hf.grown hg hr).mono hG),h.rc.grown hg hr (fun _ _ _ hf=> (hf.grown hg hr).mono hG),h.rw.grown hg hr (fun _ _ _ hf=> (hf.grown hg hr).mono hG),fun p hp=> (TmC.grown _ _ (h.ex p hp) hg hr).mono hG⟩
 rw[hg.block k (Ak hk h.ch.size) (fun e=> by have:=hw k e.symm;omega)]
 exact h.ch.block k hk hn
end
theorem GA (bp:Nat) (n:Int) (w:World):
  Calls Tryz.prog 98 #[.pointer (some ⟨bp,0,none⟩),.int .i64 n] w (fun e w'=> ∃ bl bn,e=.returned (.func (.func 121) #[] #[.pointer (some ⟨bl,0,none⟩),.pointer (some ⟨bn,0,none⟩)])∧Blk w' bl 95 [.pointer (some ⟨bp,0,none⟩)]∧Blk w' bn 3 [.int .i64 n]∧w.heap.size≤bl∧bl<bn∧Below w.heap.size w w'):=by
 go_enter Tryz.func98,Tryz.ntmps98
 go_wp2_with (first
  | ((refine A4 w rfl 95 (.tmp 0) rfl (.pointer (some ⟨bp,0,none⟩)) rfl rfl ?_);intro w1 hb hbel hsz;have H1:=Ag (Ai hb hbel);clear hb hbel hsz)
  | ((with_reducible refine A4 w1 rfl 3 (.tmp 1) rfl (.int .i64 n) rfl rfl ?_);intro w2 hb hbel hsz;have H2:=hJ4 (H1.out.1.below hbel H1.out.1.lt) hb H1.out.1.lt (An H1.out.2 hbel (Ah _));clear hb hbel hsz))
 go_ret
 exact⟨_,_,rfl,H2.out.1,H2.out.2.1,Ah _,H2.out.2.2.1,H2.out.2.2.2⟩
structure ShrK (bl bn bp:Nat) (n:Int) (vf:Value) (g fn:Nat) (sh:Nat→Bool) (W:World):Prop where
 kl:Blk W bl 95 [.pointer (some ⟨bp,0,none⟩)]
 kn:Blk W bn 3 [.int .i64 n]
 kf:W.cell? ⟨bp,0,none⟩=some vf
 ke:∀ i,i<fn→∃ vg gl,W.cell? ⟨g,i* 14+5,none⟩=some vg∧Sl W vg (ofK .i64 gl)∧gl.any (n==·)=sh i
def shL (sh:Nat→Bool) (fn:Nat):List Nat:=(List.range fn).filter sh
theorem GB (sh:Nat→Bool) (k:Nat):shL sh (k+1)=shL sh k ++ if sh k=true then [k] else []:=by
 unfold shL
 rw[List.range_succ,List.filter_append]
 by_cases h:sh k=true <;> simp[h]
theorem LD (sh:Nat→Bool) {k fn:Nat} (h:k≤fn):shL sh k <+:shL sh fn:=by
 induction fn with
 | zero=>
    obtain rfl:k=0:=by omega
    exact List.prefix_refl _
 | succ m ih=>
  by_cases e:k=m+1
  ·rw[e];exact List.prefix_refl _
  ·rw[GB]
   exact List.IsPrefix.trans (ih (by omega)) (List.prefix_append _ _)
theorem GC (bl bn bp g fn cf:Nat) (n:Int) (af:Option Addr) (sh:Nat→Bool) (w:World) (haf:0<fn→af=some ⟨g,0,none⟩) (hfn:fn≤1000000) (hcf:fn≤cf):
  SeqK Fence.wide 8 Tryz.prog 121 #[.pointer (some ⟨bl,0,none⟩),.pointer (some ⟨bn,0,none⟩)] (fun i:Nat=> #[.pointer (some ⟨g,i* 14,none⟩)]) (ShrK bl bn bp n (.slice af fn cf) g fn sh) (fun pre x=> pre ++ [x] <+:shL sh fn) (fun xs=> xs=shL sh fn) (fun pre=> pre <+:shL sh fn) w:=fun l J Jx W hW hJ hJx hJK hY h0=> by
 have HJ:=Ag hJ
 have HJX:=Ag hJx
 have HJK:=Ag hJK
 have HY:=Ag hY
 have H0:=Ag h0
 have HAF:=Ag haf
 have HK:=Ag (hJK _ _ h0)
 have a0:=HK.out.kl.cell 0
 have a1:=HK.out.kf
 simp only[Ab] at a0
 have hfn63:fn≤9223372036854775807:=by omega
 clear hJ hJx hY h0 hJK haf
 refine callsIn_of_wp Tryz.func121 rfl trivial ?_ rfl
 simp only[Tryz.ntmps121,List.size_toArray,List.length_cons,List.length_nil,Nat.reduceAdd,Nat.reduceSub,Array.replicate_succ,Array.replicate_zero,List.push_toArray,List.append_toArray,List.nil_append,List.cons_append]
 gi_wp2
 clear a0 a1 HK
 gi_loopw [4,5,12] (fun _ _ s12 wr=> ∃ k:Nat,k≤fn∧s12=.int .i64 k∧Hid (J (shL sh k) wr)) (fun _ _ s12 _=> fn - (intOf s12).toNat)
 case atStart=> exact⟨0,Nat.zero_le _,rfl,Ag H0.out⟩
 case round=>
  obtain⟨k,hk,rfl,HR⟩:=hrel
  by_cases hlt:k<fn
  ·have hkz:(k:Int)<(fn:Int):=by omega
   have hk0:(0:Int)≤(k:Int):=by omega
   obtain rfl:=HAF.out (by omega)
   have HK:=Ag (HJK.out _ _ HR.out)
   have a0:=HK.out.kl.cell 0
   have a1:=HK.out.kf
   simp only[Ab] at a0
   gi_wp2_with fail
   clear a0 a1
   refine wpIn_region_any (by kernel_rfl) ?_
   have HJV:=Ag (HJ.out _ _ _ HR.out ((Sm.refl wr).drew.below _))
   generalize hgv:({wr with drawn:=wr.drawn+1}:World)=v0
   have hgv2:wr.drew=v0:=hgv
   rw[hgv2] at HJV
   clear hgv hgv2
   have HKV:=Ag (HJK.out _ _ HJV.out)
   obtain⟨vg,gl,hc5,hsl,hgl⟩:=HKV.out.ke k hlt
   have HCT:=Ag (show Calls Tryz.prog 12 #[vg,.int .i64 n] v0 (fun e w'=> e=.returned (.bool (sh k))∧v0=w') from by have h:=AV n vg gl v0 hsl;rw[hgl] at h;exact h)
   have d0:v0.cell? ⟨g,k* 14+1+4,none⟩=some vg:=hc5
   have d1:=HKV.out.kn.cell 0
   simp only[Ab] at d1
   obtain⟨z,hz⟩:∃ z,sh k=z:=⟨_,rfl⟩
   rw[hz] at HCT
   have HZ:=Ag hz
   clear hc5 hsl hgl hz
   cases z
   ·have HJ2:=Ag (show J (shL sh (k+1)) v0 from by rw[GB,HZ.out,if_neg (by simp),List.append_nil];exact HJV.out)
    refine' AZ 0 5 (by kernel_rfl) ?_ ?_ ?_ ?_;rotate_left 2;(simp only[Aa,Ab,Ac];rfl);(simp only[Aa,Ab,Ac];rfl)
    ·skip
     gi_wp2_with fail
     refine QK.normal ?_
     refine' AZ 1 5 (by kernel_rfl) ?_ ?_ ?_ ?_;rotate_left 2;(simp only[Aa,Ab,Ac];rfl);(simp only[Aa,Ab,Ac];rfl)
     ·skip
      gi_wp2_with fail
      refine QK.normal ?_
      refine' AZ 2 5 (by kernel_rfl) ?_ ?_ ?_ ?_;rotate_left 2;(simp only[Aa,Ab,Ac];rfl);(simp only[Aa,Ab,Ac];rfl)
      ·skip
       gi_wp2_with fail
       refine QK.normal ?_
       refine' AZ 3 5 (by kernel_rfl) ?_ ?_ ?_ ?_;rotate_left 2;(simp only[Aa,Ab,Ac];rfl);(simp only[Aa,Ab,Ac];rfl)
       ·skip
        gi_wp2_with fail
        refine QK.normal ?_
        refine' AZ 4 5 (by kernel_rfl) ?_ ?_ ?_ ?_;rotate_left 2;(simp only[Aa,Ab,Ac];rfl);(simp only[Aa,Ab,Ac];rfl)
        ·skip
         gi_wp2_with fail
         refine QK.normal ?_
         refine' Aq 5 (by kernel_rfl) ?_ ?_;rotate_left;(simp only[Aa,Ab,Ac];rfl)
         gi_wp2_with fail
         refine QK.normal ?_
         refine' Aq 6 (by kernel_rfl) ?_ ?_;rotate_left;(simp only[Aa,Ab,Ac];rfl)
         gi_wp2_with fail
         refine⟨trivial,?_⟩
         refine(WideF.wide.calls (n:=7) HCT.out).mono ?_
         rintro e' w' ⟨rfl,rfl⟩
         gi_wp2_with fail
         refine QK.normal ?_
         refine' Aq 7 (by kernel_rfl) ?_ ?_;rotate_left;(simp only[Aa,Ab,Ac];rfl)
         gi_wp2_with fail
         refine QK.normal ?_
         refine' AZ 8 9 (by kernel_rfl) ?_ ?_ ?_ ?_;rotate_left 2;(simp only[Aa,Ab,Ac];rfl);(simp only[Aa,Ab,Ac];rfl)
         ·skip
          refine⟨fun f h=> (by cases h),?_⟩
          gi_wp2_with fail
          refine QK.normal ?_
          refine' Aq 9 (by kernel_rfl) ?_ ?_;rotate_left;(simp only[Aa,Ab,Ac];rfl)
          refine⟨fun f h=> (by cases h),?_⟩
          gi_wp2_with fail
          refine QK.normal ?_
          refine' Aq 10 (by kernel_rfl) ?_ ?_;rotate_left;(simp only[Aa,Ab,Ac];rfl)
          refine⟨fun f h=> (by cases h),?_⟩
          gi_wp2_with fail
          refine QK.normal ?_
          refine' Aq 11 (by kernel_rfl) ?_ ?_;rotate_left;(simp only[Aa,Ab,Ac];rfl)
          refine⟨fun f h=> (by cases h),?_⟩
          gi_wp2_with fail
          refine QK.normal ?_
          refine' Aq 12 (by kernel_rfl) ?_ ?_;rotate_left;(simp only[Aa,Ab,Ac];rfl)
          gi_wp2_with fail
          refine QK.normal ?_
          refine wpAnyIn_done (by kernel_rfl) ?_ _
          gi_wp2
          go_roundw
          case rel=> exact⟨k+1,by omega,by go_num,HJ2⟩
          case measure=> simp[intOf];omega
         ·skip
          refine⟨fun f h=> (by cases h),?_⟩
          gi_wp2_with fail
          refine QK.normal ?_
          refine' Aq 8 (by kernel_rfl) ?_ ?_;rotate_left;(simp only[Aa,Ab,Ac];rfl)
          refine⟨fun f h=> (by cases h),?_⟩
          gi_wp2_with fail
          refine QK.normal ?_
          refine' Aq 10 (by kernel_rfl) ?_ ?_;rotate_left;(simp only[Aa,Ab,Ac];rfl)
          refine⟨fun f h=> (by cases h),?_⟩
          gi_wp2_with fail
          refine QK.normal ?_
          refine' Aq 11 (by kernel_rfl) ?_ ?_;rotate_left;(simp only[Aa,Ab,Ac];rfl)
          refine⟨fun f h=> (by cases h),?_⟩
          gi_wp2_with fail
          refine QK.normal ?_
          refine' Aq 12 (by kernel_rfl) ?_ ?_;rotate_left;(simp only[Aa,Ab,Ac];rfl)
          gi_wp2_with fail
          refine QK.normal ?_
          refine wpAnyIn_done (by kernel_rfl) ?_ _
          gi_wp2
          go_roundw
          case rel=> exact⟨k+1,by omega,by go_num,HJ2⟩
          case measure=> simp[intOf];omega
        ·skip
         gi_wp2_with fail
         refine QK.normal ?_
         refine' Aq 4 (by kernel_rfl) ?_ ?_;rotate_left;(simp only[Aa,Ab,Ac];rfl)
         gi_wp2_with fail
         refine QK.normal ?_
         refine' Aq 6 (by kernel_rfl) ?_ ?_;rotate_left;(simp only[Aa,Ab,Ac];rfl)
         gi_wp2_with fail
         refine⟨trivial,?_⟩
         refine(WideF.wide.calls (n:=7) HCT.out).mono ?_
         rintro e' w' ⟨rfl,rfl⟩
         gi_wp2_with fail
         refine QK.normal ?_
         refine' Aq 7 (by kernel_rfl) ?_ ?_;rotate_left;(simp only[Aa,Ab,Ac];rfl)
         gi_wp2_with fail
         refine QK.normal ?_
         refine' AZ 8 9 (by kernel_rfl) ?_ ?_ ?_ ?_;rotate_left 2;(simp only[Aa,Ab,Ac];rfl);(simp only[Aa,Ab,Ac];rfl)
         ·skip
          refine⟨fun f h=> (by cases h),?_⟩
          gi_wp2_with fail
          refine QK.normal ?_
          refine' Aq 9 (by kernel_rfl) ?_ ?_;rotate_left;(simp only[Aa,Ab,Ac];rfl)
          refine⟨fun f h=> (by cases h),?_⟩
          gi_wp2_with fail
          refine QK.normal ?_
          refine' Aq 10 (by kernel_rfl) ?_ ?_;rotate_left;(simp only[Aa,Ab,Ac];rfl)
          refine⟨fun f h=> (by cases h),?_⟩
          gi_wp2_with fail
          refine QK.normal ?_
          refine' Aq 11 (by kernel_rfl) ?_ ?_;rotate_left;(simp only[Aa,Ab,Ac];rfl)
          refine⟨fun f h=> (by cases h),?_⟩
          gi_wp2_with fail
          refine QK.normal ?_
          refine' Aq 12 (by kernel_rfl) ?_ ?_;rotate_left;(simp only[Aa,Ab,Ac];rfl)
          gi_wp2_with fail
          refine QK.normal ?_
          refine wpAnyIn_done (by kernel_rfl) ?_ _
          gi_wp2
          go_roundw
          case rel=> exact⟨k+1,by omega,by go_num,HJ2⟩
          case measure=> simp[intOf];omega
         ·skip
          refine⟨fun f h=> (by cases h),?_⟩
          gi_wp2_with fail
          refine QK.normal ?_
          refine' Aq 8 (by kernel_rfl) ?_ ?_;rotate_left;(simp only[Aa,Ab,Ac];rfl)
          refine⟨fun f h=> (by cases h),?_⟩
          gi_wp2_with fail
          refine QK.normal ?_
          refine' Aq 10 (by kernel_rfl) ?_ ?_;rotate_left;(simp only[Aa,Ab,Ac];rfl)
          refine⟨fun f h=> (by cases h),?_⟩
          gi_wp2_with fail
          refine QK.normal ?_
          refine' Aq 11 (by kernel_rfl) ?_ ?_;rotate_left;(simp only[Aa,Ab,Ac];rfl)
          refine⟨fun f h=> (by cases h),?_⟩
          gi_wp2_with fail
          refine QK.normal ?_
          refine' Aq 12 (by kernel_rfl) ?_ ?_;rotate_left;(simp only[Aa,Ab,Ac];rfl)
          gi_wp2_with fail
          refine QK.normal ?_
          refine wpAnyIn_done (by kernel_rfl) ?_ _
          gi_wp2
          go_roundw
          case rel=> exact⟨k+1,by omega,by go_num,HJ2⟩
          case measure=> simp[intOf];omega
       ·skip
        gi_wp2_with fail
        refine QK.normal ?_
        refine' Aq 3 (by kernel_rfl) ?_ ?_;rotate_left;(simp only[Aa,Ab,Ac];rfl)
        gi_wp2_with fail
        refine QK.normal ?_
        refine' Aq 4 (by kernel_rfl) ?_ ?_;rotate_left;(simp only[Aa,Ab,Ac];rfl)
        gi_wp2_with fail
        refine QK.normal ?_
        refine' Aq 6 (by kernel_rfl) ?_ ?_;rotate_left;(simp only[Aa,Ab,Ac];rfl)
        gi_wp2_with fail
        refine⟨trivial,?_⟩
        refine(WideF.wide.calls (n:=7) HCT.out).mono ?_
        rintro e' w' ⟨rfl,rfl⟩
        gi_wp2_with fail
        refine QK.normal ?_
        refine' Aq 7 (by kernel_rfl) ?_ ?_;rotate_left;(simp only[Aa,Ab,Ac];rfl)
        gi_wp2_with fail
        refine QK.normal ?_
        refine' AZ 8 9 (by kernel_rfl) ?_ ?_ ?_ ?_;rotate_left 2;(simp only[Aa,Ab,Ac];rfl);(simp only[Aa,Ab,Ac];rfl)
        ·skip
         refine⟨fun f h=> (by cases h),?_⟩
         gi_wp2_with fail
         refine QK.normal ?_
         refine' Aq 9 (by kernel_rfl) ?_ ?_;rotate_left;(simp only[Aa,Ab,Ac];rfl)
         refine⟨fun f h=> (by cases h),?_⟩
         gi_wp2_with fail
         refine QK.normal ?_
         refine' Aq 10 (by kernel_rfl) ?_ ?_;rotate_left;(simp only[Aa,Ab,Ac];rfl)
         refine⟨fun f h=> (by cases h),?_⟩
         gi_wp2_with fail
         refine QK.normal ?_
         refine' Aq 11 (by kernel_rfl) ?_ ?_;rotate_left;(simp only[Aa,Ab,Ac];rfl)
         refine⟨fun f h=> (by cases h),?_⟩
         gi_wp2_with fail
         refine QK.normal ?_
         refine' Aq 12 (by kernel_rfl) ?_ ?_;rotate_left;(simp only[Aa,Ab,Ac];rfl)
         gi_wp2_with fail
         refine QK.normal ?_
         refine wpAnyIn_done (by kernel_rfl) ?_ _
         gi_wp2
         go_roundw
         case rel=> exact⟨k+1,by omega,by go_num,HJ2⟩
         case measure=> simp[intOf];omega
        ·skip
         refine⟨fun f h=> (by cases h),?_⟩
         gi_wp2_with fail
         refine QK.normal ?_
         refine' Aq 8 (by kernel_rfl) ?_ ?_;rotate_left;(simp only[Aa,Ab,Ac];rfl)
         refine⟨fun f h=> (by cases h),?_⟩
         gi_wp2_with fail
         refine QK.normal ?_
         refine' Aq 10 (by kernel_rfl) ?_ ?_;rotate_left;(simp only[Aa,Ab,Ac];rfl)
         refine⟨fun f h=> (by cases h),?_⟩
         gi_wp2_with fail
         refine QK.normal ?_
         refine' Aq 11 (by kernel_rfl) ?_ ?_;rotate_left;(simp only[Aa,Ab,Ac];rfl)
         refine⟨fun f h=> (by cases h),?_⟩
         gi_wp2_with fail
         refine QK.normal ?_
         refine' Aq 12 (by kernel_rfl) ?_ ?_;rotate_left;(simp only[Aa,Ab,Ac];rfl)
         gi_wp2_with fail
         refine QK.normal ?_
         refine wpAnyIn_done (by kernel_rfl) ?_ _
         gi_wp2
         go_roundw
         case rel=> exact⟨k+1,by omega,by go_num,HJ2⟩
         case measure=> simp[intOf];omega
      ·skip
       gi_wp2_with fail
       refine QK.normal ?_
       refine' Aq 2 (by kernel_rfl) ?_ ?_;rotate_left;(simp only[Aa,Ab,Ac];rfl)
       gi_wp2_with fail
       refine QK.normal ?_
       refine' Aq 3 (by kernel_rfl) ?_ ?_;rotate_left;(simp only[Aa,Ab,Ac];rfl)
       gi_wp2_with fail
       refine QK.normal ?_
       refine' Aq 4 (by kernel_rfl) ?_ ?_;rotate_left;(simp only[Aa,Ab,Ac];rfl)
       gi_wp2_with fail
       refine QK.normal ?_
       refine' Aq 6 (by kernel_rfl) ?_ ?_;rotate_left;(simp only[Aa,Ab,Ac];rfl)
       gi_wp2_with fail
       refine⟨trivial,?_⟩
       refine(WideF.wide.calls (n:=7) HCT.out).mono ?_
       rintro e' w' ⟨rfl,rfl⟩
       gi_wp2_with fail
       refine QK.normal ?_
       refine' Aq 7 (by kernel_rfl) ?_ ?_;rotate_left;(simp only[Aa,Ab,Ac];rfl)
       gi_wp2_with fail
       refine QK.normal ?_
       refine' AZ 8 9 (by kernel_rfl) ?_ ?_ ?_ ?_;rotate_left 2;(simp only[Aa,Ab,Ac];rfl);(simp only[Aa,Ab,Ac];rfl)
       ·skip
        refine⟨fun f h=> (by cases h),?_⟩
        gi_wp2_with fail
        refine QK.normal ?_
        refine' Aq 9 (by kernel_rfl) ?_ ?_;rotate_left;(simp only[Aa,Ab,Ac];rfl)
        refine⟨fun f h=> (by cases h),?_⟩
        gi_wp2_with fail
        refine QK.normal ?_
        refine' Aq 10 (by kernel_rfl) ?_ ?_;rotate_left;(simp only[Aa,Ab,Ac];rfl)
        refine⟨fun f h=> (by cases h),?_⟩
        gi_wp2_with fail
        refine QK.normal ?_
        refine' Aq 11 (by kernel_rfl) ?_ ?_;rotate_left;(simp only[Aa,Ab,Ac];rfl)
        refine⟨fun f h=> (by cases h),?_⟩
        gi_wp2_with fail
        refine QK.normal ?_
        refine' Aq 12 (by kernel_rfl) ?_ ?_;rotate_left;(simp only[Aa,Ab,Ac];rfl)
        gi_wp2_with fail
        refine QK.normal ?_
        refine wpAnyIn_done (by kernel_rfl) ?_ _
        gi_wp2
        go_roundw
        case rel=> exact⟨k+1,by omega,by go_num,HJ2⟩
        case measure=> simp[intOf];omega
       ·skip
        refine⟨fun f h=> (by cases h),?_⟩
        gi_wp2_with fail
        refine QK.normal ?_
        refine' Aq 8 (by kernel_rfl) ?_ ?_;rotate_left;(simp only[Aa,Ab,Ac];rfl)
        refine⟨fun f h=> (by cases h),?_⟩
        gi_wp2_with fail
        refine QK.normal ?_
        refine' Aq 10 (by kernel_rfl) ?_ ?_;rotate_left;(simp only[Aa,Ab,Ac];rfl)
        refine⟨fun f h=> (by cases h),?_⟩
        gi_wp2_with fail
        refine QK.normal ?_
        refine' Aq 11 (by kernel_rfl) ?_ ?_;rotate_left;(simp only[Aa,Ab,Ac];rfl)
        refine⟨fun f h=> (by cases h),?_⟩
        gi_wp2_with fail
        refine QK.normal ?_
        refine' Aq 12 (by kernel_rfl) ?_ ?_;rotate_left;(simp only[Aa,Ab,Ac];rfl)
        gi_wp2_with fail
        refine QK.normal ?_
        refine wpAnyIn_done (by kernel_rfl) ?_ _
        gi_wp2
        go_roundw
        case rel=> exact⟨k+1,by omega,by go_num,HJ2⟩
        case measure=> simp[intOf];omega
     ·skip
      gi_wp2_with fail
      refine QK.normal ?_
      refine' Aq 1 (by kernel_rfl) ?_ ?_;rotate_left;(simp only[Aa,Ab,Ac];rfl)
      gi_wp2_with fail
      refine QK.normal ?_
      refine' Aq 2 (by kernel_rfl) ?_ ?_;rotate_left;(simp only[Aa,Ab,Ac];rfl)
      gi_wp2_with fail
      refine QK.normal ?_
      refine' Aq 3 (by kernel_rfl) ?_ ?_;rotate_left;(simp only[Aa,Ab,Ac];rfl)
      gi_wp2_with fail
      refine QK.normal ?_
      refine' Aq 4 (by kernel_rfl) ?_ ?_;rotate_left;(simp only[Aa,Ab,Ac];rfl)
      gi_wp2_with fail
      refine QK.normal ?_
      refine' Aq 6 (by kernel_rfl) ?_ ?_;rotate_left;(simp only[Aa,Ab,Ac];rfl)
      gi_wp2_with fail
      refine⟨trivial,?_⟩
      refine(WideF.wide.calls (n:=7) HCT.out).mono ?_
      rintro e' w' ⟨rfl,rfl⟩
      gi_wp2_with fail
      refine QK.normal ?_
      refine' Aq 7 (by kernel_rfl) ?_ ?_;rotate_left;(simp only[Aa,Ab,Ac];rfl)
      gi_wp2_with fail
      refine QK.normal ?_
      refine' AZ 8 9 (by kernel_rfl) ?_ ?_ ?_ ?_;rotate_left 2;(simp only[Aa,Ab,Ac];rfl);(simp only[Aa,Ab,Ac];rfl)
      ·skip
       refine⟨fun f h=> (by cases h),?_⟩
       gi_wp2_with fail
       refine QK.normal ?_
       refine' Aq 9 (by kernel_rfl) ?_ ?_;rotate_left;(simp only[Aa,Ab,Ac];rfl)
       refine⟨fun f h=> (by cases h),?_⟩
       gi_wp2_with fail
       refine QK.normal ?_
       refine' Aq 10 (by kernel_rfl) ?_ ?_;rotate_left;(simp only[Aa,Ab,Ac];rfl)
       refine⟨fun f h=> (by cases h),?_⟩
       gi_wp2_with fail
       refine QK.normal ?_
       refine' Aq 11 (by kernel_rfl) ?_ ?_;rotate_left;(simp only[Aa,Ab,Ac];rfl)
       refine⟨fun f h=> (by cases h),?_⟩
       gi_wp2_with fail
       refine QK.normal ?_
       refine' Aq 12 (by kernel_rfl) ?_ ?_;rotate_left;(simp only[Aa,Ab,Ac];rfl)
       gi_wp2_with fail
       refine QK.normal ?_
       refine wpAnyIn_done (by kernel_rfl) ?_ _
       gi_wp2
       go_roundw
       case rel=> exact⟨k+1,by omega,by go_num,HJ2⟩
       case measure=> simp[intOf];omega
      ·skip
       refine⟨fun f h=> (by cases h),?_⟩
       gi_wp2_with fail
       refine QK.normal ?_
       refine' Aq 8 (by kernel_rfl) ?_ ?_;rotate_left;(simp only[Aa,Ab,Ac];rfl)
       refine⟨fun f h=> (by cases h),?_⟩
       gi_wp2_with fail
       refine QK.normal ?_
       refine' Aq 10 (by kernel_rfl) ?_ ?_;rotate_left;(simp only[Aa,Ab,Ac];rfl)
       refine⟨fun f h=> (by cases h),?_⟩
       gi_wp2_with fail
       refine QK.normal ?_
       refine' Aq 11 (by kernel_rfl) ?_ ?_;rotate_left;(simp only[Aa,Ab,Ac];rfl)
       refine⟨fun f h=> (by cases h),?_⟩
       gi_wp2_with fail
       refine QK.normal ?_
       refine' Aq 12 (by kernel_rfl) ?_ ?_;rotate_left;(simp only[Aa,Ab,Ac];rfl)
       gi_wp2_with fail
       refine QK.normal ?_
       refine wpAnyIn_done (by kernel_rfl) ?_ _
       gi_wp2
       go_roundw
       case rel=> exact⟨k+1,by omega,by go_num,HJ2⟩
       case measure=> simp[intOf];omega
    ·skip
     gi_wp2_with fail
     refine QK.normal ?_
     refine' Aq 0 (by kernel_rfl) ?_ ?_;rotate_left;(simp only[Aa,Ab,Ac];rfl)
     gi_wp2_with fail
     refine QK.normal ?_
     refine' Aq 1 (by kernel_rfl) ?_ ?_;rotate_left;(simp only[Aa,Ab,Ac];rfl)
     gi_wp2_with fail
     refine QK.normal ?_
     refine' Aq 2 (by kernel_rfl) ?_ ?_;rotate_left;(simp only[Aa,Ab,Ac];rfl)
     gi_wp2_with fail
     refine QK.normal ?_
     refine' Aq 3 (by kernel_rfl) ?_ ?_;rotate_left;(simp only[Aa,Ab,Ac];rfl)
     gi_wp2_with fail
     refine QK.normal ?_
     refine' Aq 4 (by kernel_rfl) ?_ ?_;rotate_left;(simp only[Aa,Ab,Ac];rfl)
     gi_wp2_with fail
     refine QK.normal ?_
     refine' Aq 6 (by kernel_rfl) ?_ ?_;rotate_left;(simp only[Aa,Ab,Ac];rfl)
     gi_wp2_with fail
     refine⟨trivial,?_⟩
     refine(WideF.wide.calls (n:=7) HCT.out).mono ?_
     rintro e' w' ⟨rfl,rfl⟩
     gi_wp2_with fail
     refine QK.normal ?_
     refine' Aq 7 (by kernel_rfl) ?_ ?_;rotate_left;(simp only[Aa,Ab,Ac];rfl)
     gi_wp2_with fail
     refine QK.normal ?_
     refine' AZ 8 9 (by kernel_rfl) ?_ ?_ ?_ ?_;rotate_left 2;(simp only[Aa,Ab,Ac];rfl);(simp only[Aa,Ab,Ac];rfl)
     ·skip
      refine⟨fun f h=> (by cases h),?_⟩
      gi_wp2_with fail
      refine QK.normal ?_
      refine' Aq 9 (by kernel_rfl) ?_ ?_;rotate_left;(simp only[Aa,Ab,Ac];rfl)
      refine⟨fun f h=> (by cases h),?_⟩
      gi_wp2_with fail
      refine QK.normal ?_
      refine' Aq 10 (by kernel_rfl) ?_ ?_;rotate_left;(simp only[Aa,Ab,Ac];rfl)
      refine⟨fun f h=> (by cases h),?_⟩
      gi_wp2_with fail
      refine QK.normal ?_
      refine' Aq 11 (by kernel_rfl) ?_ ?_;rotate_left;(simp only[Aa,Ab,Ac];rfl)
      refine⟨fun f h=> (by cases h),?_⟩
      gi_wp2_with fail
      refine QK.normal ?_
      refine' Aq 12 (by kernel_rfl) ?_ ?_;rotate_left;(simp only[Aa,Ab,Ac];rfl)
      gi_wp2_with fail
      refine QK.normal ?_
      refine wpAnyIn_done (by kernel_rfl) ?_ _
      gi_wp2
      go_roundw
      case rel=> exact⟨k+1,by omega,by go_num,HJ2⟩
      case measure=> simp[intOf];omega
     ·skip
      refine⟨fun f h=> (by cases h),?_⟩
      gi_wp2_with fail
      refine QK.normal ?_
      refine' Aq 8 (by kernel_rfl) ?_ ?_;rotate_left;(simp only[Aa,Ab,Ac];rfl)
      refine⟨fun f h=> (by cases h),?_⟩
      gi_wp2_with fail
      refine QK.normal ?_
      refine' Aq 10 (by kernel_rfl) ?_ ?_;rotate_left;(simp only[Aa,Ab,Ac];rfl)
      refine⟨fun f h=> (by cases h),?_⟩
      gi_wp2_with fail
      refine QK.normal ?_
      refine' Aq 11 (by kernel_rfl) ?_ ?_;rotate_left;(simp only[Aa,Ab,Ac];rfl)
      refine⟨fun f h=> (by cases h),?_⟩
      gi_wp2_with fail
      refine QK.normal ?_
      refine' Aq 12 (by kernel_rfl) ?_ ?_;rotate_left;(simp only[Aa,Ab,Ac];rfl)
      gi_wp2_with fail
      refine QK.normal ?_
      refine wpAnyIn_done (by kernel_rfl) ?_ _
      gi_wp2
      go_roundw
      case rel=> exact⟨k+1,by omega,by go_num,HJ2⟩
      case measure=> simp[intOf];omega
   ·have HSU:=Ag (show shL sh (k+1)=shL sh k ++ [k] from by rw[GB,HZ.out,if_pos rfl])
    have HPX2:=Ag (LD sh (show k+1≤fn by omega))
    have HPX:=Ag (show shL sh k ++ [k] <+:shL sh fn from by rw[←HSU.out];exact HPX2.out)
    refine' AZ 0 5 (by kernel_rfl) ?_ ?_ ?_ ?_;rotate_left 2;(simp only[Aa,Ab,Ac];rfl);(simp only[Aa,Ab,Ac];rfl)
    ·skip
     gi_wp2_with fail
     refine QK.normal ?_
     refine' AZ 1 5 (by kernel_rfl) ?_ ?_ ?_ ?_;rotate_left 2;(simp only[Aa,Ab,Ac];rfl);(simp only[Aa,Ab,Ac];rfl)
     ·skip
      gi_wp2_with fail
      refine QK.normal ?_
      refine' AZ 2 5 (by kernel_rfl) ?_ ?_ ?_ ?_;rotate_left 2;(simp only[Aa,Ab,Ac];rfl);(simp only[Aa,Ab,Ac];rfl)
      ·skip
       gi_wp2_with fail
       refine QK.normal ?_
       refine' AZ 3 5 (by kernel_rfl) ?_ ?_ ?_ ?_;rotate_left 2;(simp only[Aa,Ab,Ac];rfl);(simp only[Aa,Ab,Ac];rfl)
       ·skip
        gi_wp2_with fail
        refine QK.normal ?_
        refine' AZ 4 5 (by kernel_rfl) ?_ ?_ ?_ ?_;rotate_left 2;(simp only[Aa,Ab,Ac];rfl);(simp only[Aa,Ab,Ac];rfl)
        ·skip
         gi_wp2_with fail
         refine QK.normal ?_
         refine' Aq 5 (by kernel_rfl) ?_ ?_;rotate_left;(simp only[Aa,Ab,Ac];rfl)
         gi_wp2_with fail
         refine QK.normal ?_
         refine' Aq 6 (by kernel_rfl) ?_ ?_;rotate_left;(simp only[Aa,Ab,Ac];rfl)
         gi_wp2_with fail
         refine⟨trivial,?_⟩
         refine(WideF.wide.calls (n:=7) HCT.out).mono ?_
         rintro e' w' ⟨rfl,rfl⟩
         gi_wp2_with fail
         refine QK.normal ?_
         refine' Aq 7 (by kernel_rfl) ?_ ?_;rotate_left;(simp only[Aa,Ab,Ac];rfl)
         gi_wp2_with fail
         refine QK.normal ?_
         refine' AZ 8 9 (by kernel_rfl) ?_ ?_ ?_ ?_;rotate_left 2;(simp only[Aa,Ab,Ac];rfl);(simp only[Aa,Ab,Ac];rfl)
         ·skip
          gi_wp2_with fail
          refine QK.normal ?_
          refine' Aq 9 (by kernel_rfl) ?_ ?_;rotate_left;(simp only[Aa,Ab,Ac];rfl)
          gi_wp2_with fail
          refine QK.normal ?_
          refine' Aq 10 (by kernel_rfl) ?_ ?_;rotate_left;(simp only[Aa,Ab,Ac];rfl)
          obtain⟨fn',tmps,assign,body,hyl,hR⟩:=HY.out (shL sh k) k v0 v0 HJV.out (Below.refl _ _) HPX.out
          try simp only at hyl
          gi_wp2_with fail
          refine hR.mono ?_
          rintro e W3 (⟨rfl,hJ3⟩|⟨rfl,hJx3⟩)
          ·have H3:=Ag (show J (shL sh (k+1)) W3 from by rw[HSU.out];exact hJ3)
           clear hJ3 hyl hR d0 d1
           gi_wp2_with fail
           refine QK.normal ?_
           refine' Aq 11 (by kernel_rfl) ?_ ?_;rotate_left;(simp only[Aa,Ab,Ac];rfl)
           gi_wp2_with fail
           refine QK.normal ?_
           refine' Aq 12 (by kernel_rfl) ?_ ?_;rotate_left;(simp only[Aa,Ab,Ac];rfl)
           gi_wp2_with fail
           refine QK.normal ?_
           refine wpAnyIn_done (by kernel_rfl) ?_ _
           gi_wp2
           go_roundw
           case rel=> exact⟨k+1,by omega,by go_num,H3⟩
           case measure=> simp[intOf];omega
          ·have H3:=Ag (show Jx (shL sh (k+1)) W3 from by rw[HSU.out];exact hJx3)
           clear hJx3 hyl hR d0 d1
           gi_wp2_with fail
           refine QK.normal ?_
           refine' Aq 11 (by kernel_rfl) ?_ ?_;rotate_left;(simp only[Aa,Ab,Ac];rfl)
           gi_wp2_with fail
           refine QK.normal ?_
           refine' Aq 12 (by kernel_rfl) ?_ ?_;rotate_left;(simp only[Aa,Ab,Ac];rfl)
           gi_wp2_with fail
           refine QK.normal ?_
           refine wpAnyIn_done (by kernel_rfl) ?_ _
           gi_wp2
           refine bodyPost_ret (results_none rfl _ _ _) rfl ?_
           exact⟨⟨_,rfl⟩,.inr ⟨_,HPX2.out,H3.out⟩⟩
         ·skip
          gi_wp2_with fail
          refine QK.normal ?_
          refine' Aq 8 (by kernel_rfl) ?_ ?_;rotate_left;(simp only[Aa,Ab,Ac];rfl)
          gi_wp2_with fail
          refine QK.normal ?_
          refine' Aq 10 (by kernel_rfl) ?_ ?_;rotate_left;(simp only[Aa,Ab,Ac];rfl)
          obtain⟨fn',tmps,assign,body,hyl,hR⟩:=HY.out (shL sh k) k v0 v0 HJV.out (Below.refl _ _) HPX.out
          try simp only at hyl
          gi_wp2_with fail
          refine hR.mono ?_
          rintro e W3 (⟨rfl,hJ3⟩|⟨rfl,hJx3⟩)
          ·have H3:=Ag (show J (shL sh (k+1)) W3 from by rw[HSU.out];exact hJ3)
           clear hJ3 hyl hR d0 d1
           gi_wp2_with fail
           refine QK.normal ?_
           refine' Aq 11 (by kernel_rfl) ?_ ?_;rotate_left;(simp only[Aa,Ab,Ac];rfl)
           gi_wp2_with fail
           refine QK.normal ?_
           refine' Aq 12 (by kernel_rfl) ?_ ?_;rotate_left;(simp only[Aa,Ab,Ac];rfl)
           gi_wp2_with fail
           refine QK.normal ?_
           refine wpAnyIn_done (by kernel_rfl) ?_ _
           gi_wp2
           go_roundw
           case rel=> exact⟨k+1,by omega,by go_num,H3⟩
           case measure=> simp[intOf];omega
          ·have H3:=Ag (show Jx (shL sh (k+1)) W3 from by rw[HSU.out];exact hJx3)
           clear hJx3 hyl hR d0 d1
           gi_wp2_with fail
           refine QK.normal ?_
           refine' Aq 11 (by kernel_rfl) ?_ ?_;rotate_left;(simp only[Aa,Ab,Ac];rfl)
           gi_wp2_with fail
           refine QK.normal ?_
           refine' Aq 12 (by kernel_rfl) ?_ ?_;rotate_left;(simp only[Aa,Ab,Ac];rfl)
           gi_wp2_with fail
           refine QK.normal ?_
           refine wpAnyIn_done (by kernel_rfl) ?_ _
           gi_wp2
           refine bodyPost_ret (results_none rfl _ _ _) rfl ?_
           exact⟨⟨_,rfl⟩,.inr ⟨_,HPX2.out,H3.out⟩⟩
        ·skip
         gi_wp2_with fail
         refine QK.normal ?_
         refine' Aq 4 (by kernel_rfl) ?_ ?_;rotate_left;(simp only[Aa,Ab,Ac];rfl)
         gi_wp2_with fail
         refine QK.normal ?_
         refine' Aq 6 (by kernel_rfl) ?_ ?_;rotate_left;(simp only[Aa,Ab,Ac];rfl)
         gi_wp2_with fail
         refine⟨trivial,?_⟩
         refine(WideF.wide.calls (n:=7) HCT.out).mono ?_
         rintro e' w' ⟨rfl,rfl⟩
         gi_wp2_with fail
         refine QK.normal ?_
         refine' Aq 7 (by kernel_rfl) ?_ ?_;rotate_left;(simp only[Aa,Ab,Ac];rfl)
         gi_wp2_with fail
         refine QK.normal ?_
         refine' AZ 8 9 (by kernel_rfl) ?_ ?_ ?_ ?_;rotate_left 2;(simp only[Aa,Ab,Ac];rfl);(simp only[Aa,Ab,Ac];rfl)
         ·skip
          gi_wp2_with fail
          refine QK.normal ?_
          refine' Aq 9 (by kernel_rfl) ?_ ?_;rotate_left;(simp only[Aa,Ab,Ac];rfl)
          gi_wp2_with fail
          refine QK.normal ?_
          refine' Aq 10 (by kernel_rfl) ?_ ?_;rotate_left;(simp only[Aa,Ab,Ac];rfl)
          obtain⟨fn',tmps,assign,body,hyl,hR⟩:=HY.out (shL sh k) k v0 v0 HJV.out (Below.refl _ _) HPX.out
          try simp only at hyl
          gi_wp2_with fail
          refine hR.mono ?_
          rintro e W3 (⟨rfl,hJ3⟩|⟨rfl,hJx3⟩)
          ·have H3:=Ag (show J (shL sh (k+1)) W3 from by rw[HSU.out];exact hJ3)
           clear hJ3 hyl hR d0 d1
           gi_wp2_with fail
           refine QK.normal ?_
           refine' Aq 11 (by kernel_rfl) ?_ ?_;rotate_left;(simp only[Aa,Ab,Ac];rfl)
           gi_wp2_with fail
           refine QK.normal ?_
           refine' Aq 12 (by kernel_rfl) ?_ ?_;rotate_left;(simp only[Aa,Ab,Ac];rfl)
           gi_wp2_with fail
           refine QK.normal ?_
           refine wpAnyIn_done (by kernel_rfl) ?_ _
           gi_wp2
           go_roundw
           case rel=> exact⟨k+1,by omega,by go_num,H3⟩
           case measure=> simp[intOf];omega
          ·have H3:=Ag (show Jx (shL sh (k+1)) W3 from by rw[HSU.out];exact hJx3)
           clear hJx3 hyl hR d0 d1
           gi_wp2_with fail
           refine QK.normal ?_
           refine' Aq 11 (by kernel_rfl) ?_ ?_;rotate_left;(simp only[Aa,Ab,Ac];rfl)
           gi_wp2_with fail
           refine QK.normal ?_
           refine' Aq 12 (by kernel_rfl) ?_ ?_;rotate_left;(simp only[Aa,Ab,Ac];rfl)
           gi_wp2_with fail
           refine QK.normal ?_
           refine wpAnyIn_done (by kernel_rfl) ?_ _
           gi_wp2
           refine bodyPost_ret (results_none rfl _ _ _) rfl ?_
           exact⟨⟨_,rfl⟩,.inr ⟨_,HPX2.out,H3.out⟩⟩
         ·skip
          gi_wp2_with fail
          refine QK.normal ?_
          refine' Aq 8 (by kernel_rfl) ?_ ?_;rotate_left;(simp only[Aa,Ab,Ac];rfl)
          gi_wp2_with fail
          refine QK.normal ?_
          refine' Aq 10 (by kernel_rfl) ?_ ?_;rotate_left;(simp only[Aa,Ab,Ac];rfl)
          obtain⟨fn',tmps,assign,body,hyl,hR⟩:=HY.out (shL sh k) k v0 v0 HJV.out (Below.refl _ _) HPX.out
          try simp only at hyl
          gi_wp2_with fail
          refine hR.mono ?_
          rintro e W3 (⟨rfl,hJ3⟩|⟨rfl,hJx3⟩)
          ·have H3:=Ag (show J (shL sh (k+1)) W3 from by rw[HSU.out];exact hJ3)
           clear hJ3 hyl hR d0 d1
           gi_wp2_with fail
           refine QK.normal ?_
           refine' Aq 11 (by kernel_rfl) ?_ ?_;rotate_left;(simp only[Aa,Ab,Ac];rfl)
           gi_wp2_with fail
           refine QK.normal ?_
           refine' Aq 12 (by kernel_rfl) ?_ ?_;rotate_left;(simp only[Aa,Ab,Ac];rfl)
           gi_wp2_with fail
           refine QK.normal ?_
           refine wpAnyIn_done (by kernel_rfl) ?_ _
           gi_wp2
           go_roundw
           case rel=> exact⟨k+1,by omega,by go_num,H3⟩
           case measure=> simp[intOf];omega
          ·have H3:=Ag (show Jx (shL sh (k+1)) W3 from by rw[HSU.out];exact hJx3)
           clear hJx3 hyl hR d0 d1
           gi_wp2_with fail
           refine QK.normal ?_
           refine' Aq 11 (by kernel_rfl) ?_ ?_;rotate_left;(simp only[Aa,Ab,Ac];rfl)
           gi_wp2_with fail
           refine QK.normal ?_
           refine' Aq 12 (by kernel_rfl) ?_ ?_;rotate_left;(simp only[Aa,Ab,Ac];rfl)
           gi_wp2_with fail
           refine QK.normal ?_
           refine wpAnyIn_done (by kernel_rfl) ?_ _
           gi_wp2
           refine bodyPost_ret (results_none rfl _ _ _) rfl ?_
           exact⟨⟨_,rfl⟩,.inr ⟨_,HPX2.out,H3.out⟩⟩
       ·skip
        gi_wp2_with fail
        refine QK.normal ?_
        refine' Aq 3 (by kernel_rfl) ?_ ?_;rotate_left;(simp only[Aa,Ab,Ac];rfl)
        gi_wp2_with fail
        refine QK.normal ?_
        refine' Aq 4 (by kernel_rfl) ?_ ?_;rotate_left;(simp only[Aa,Ab,Ac];rfl)
        gi_wp2_with fail
        refine QK.normal ?_
        refine' Aq 6 (by kernel_rfl) ?_ ?_;rotate_left;(simp only[Aa,Ab,Ac];rfl)
        gi_wp2_with fail
        refine⟨trivial,?_⟩
        refine(WideF.wide.calls (n:=7) HCT.out).mono ?_
        rintro e' w' ⟨rfl,rfl⟩
        gi_wp2_with fail
        refine QK.normal ?_
        refine' Aq 7 (by kernel_rfl) ?_ ?_;rotate_left;(simp only[Aa,Ab,Ac];rfl)
        gi_wp2_with fail
        refine QK.normal ?_
        refine' AZ 8 9 (by kernel_rfl) ?_ ?_ ?_ ?_;rotate_left 2;(simp only[Aa,Ab,Ac];rfl);(simp only[Aa,Ab,Ac];rfl)
        ·skip
         gi_wp2_with fail
         refine QK.normal ?_
         refine' Aq 9 (by kernel_rfl) ?_ ?_;rotate_left;(simp only[Aa,Ab,Ac];rfl)
         gi_wp2_with fail
         refine QK.normal ?_
         refine' Aq 10 (by kernel_rfl) ?_ ?_;rotate_left;(simp only[Aa,Ab,Ac];rfl)
         obtain⟨fn',tmps,assign,body,hyl,hR⟩:=HY.out (shL sh k) k v0 v0 HJV.out (Below.refl _ _) HPX.out
         try simp only at hyl
         gi_wp2_with fail
         refine hR.mono ?_
         rintro e W3 (⟨rfl,hJ3⟩|⟨rfl,hJx3⟩)
         ·have H3:=Ag (show J (shL sh (k+1)) W3 from by rw[HSU.out];exact hJ3)
          clear hJ3 hyl hR d0 d1
          gi_wp2_with fail
          refine QK.normal ?_
          refine' Aq 11 (by kernel_rfl) ?_ ?_;rotate_left;(simp only[Aa,Ab,Ac];rfl)
          gi_wp2_with fail
          refine QK.normal ?_
          refine' Aq 12 (by kernel_rfl) ?_ ?_;rotate_left;(simp only[Aa,Ab,Ac];rfl)
          gi_wp2_with fail
          refine QK.normal ?_
          refine wpAnyIn_done (by kernel_rfl) ?_ _
          gi_wp2
          go_roundw
          case rel=> exact⟨k+1,by omega,by go_num,H3⟩
          case measure=> simp[intOf];omega
         ·have H3:=Ag (show Jx (shL sh (k+1)) W3 from by rw[HSU.out];exact hJx3)
          clear hJx3 hyl hR d0 d1
          gi_wp2_with fail
          refine QK.normal ?_
          refine' Aq 11 (by kernel_rfl) ?_ ?_;rotate_left;(simp only[Aa,Ab,Ac];rfl)
          gi_wp2_with fail
          refine QK.normal ?_
          refine' Aq 12 (by kernel_rfl) ?_ ?_;rotate_left;(simp only[Aa,Ab,Ac];rfl)
          gi_wp2_with fail
          refine QK.normal ?_
          refine wpAnyIn_done (by kernel_rfl) ?_ _
          gi_wp2
          refine bodyPost_ret (results_none rfl _ _ _) rfl ?_
          exact⟨⟨_,rfl⟩,.inr ⟨_,HPX2.out,H3.out⟩⟩
        ·skip
         gi_wp2_with fail
         refine QK.normal ?_
         refine' Aq 8 (by kernel_rfl) ?_ ?_;rotate_left;(simp only[Aa,Ab,Ac];rfl)
         gi_wp2_with fail
         refine QK.normal ?_
         refine' Aq 10 (by kernel_rfl) ?_ ?_;rotate_left;(simp only[Aa,Ab,Ac];rfl)
         obtain⟨fn',tmps,assign,body,hyl,hR⟩:=HY.out (shL sh k) k v0 v0 HJV.out (Below.refl _ _) HPX.out
         try simp only at hyl
         gi_wp2_with fail
         refine hR.mono ?_
         rintro e W3 (⟨rfl,hJ3⟩|⟨rfl,hJx3⟩)
         ·have H3:=Ag (show J (shL sh (k+1)) W3 from by rw[HSU.out];exact hJ3)
          clear hJ3 hyl hR d0 d1
          gi_wp2_with fail
          refine QK.normal ?_
          refine' Aq 11 (by kernel_rfl) ?_ ?_;rotate_left;(simp only[Aa,Ab,Ac];rfl)
          gi_wp2_with fail
          refine QK.normal ?_
          refine' Aq 12 (by kernel_rfl) ?_ ?_;rotate_left;(simp only[Aa,Ab,Ac];rfl)
          gi_wp2_with fail
          refine QK.normal ?_
          refine wpAnyIn_done (by kernel_rfl) ?_ _
          gi_wp2
          go_roundw
          case rel=> exact⟨k+1,by omega,by go_num,H3⟩
          case measure=> simp[intOf];omega
         ·have H3:=Ag (show Jx (shL sh (k+1)) W3 from by rw[HSU.out];exact hJx3)
          clear hJx3 hyl hR d0 d1
          gi_wp2_with fail
          refine QK.normal ?_
          refine' Aq 11 (by kernel_rfl) ?_ ?_;rotate_left;(simp only[Aa,Ab,Ac];rfl)
          gi_wp2_with fail
          refine QK.normal ?_
          refine' Aq 12 (by kernel_rfl) ?_ ?_;rotate_left;(simp only[Aa,Ab,Ac];rfl)
          gi_wp2_with fail
          refine QK.normal ?_
          refine wpAnyIn_done (by kernel_rfl) ?_ _
          gi_wp2
          refine bodyPost_ret (results_none rfl _ _ _) rfl ?_
          exact⟨⟨_,rfl⟩,.inr ⟨_,HPX2.out,H3.out⟩⟩
      ·skip
       gi_wp2_with fail
       refine QK.normal ?_
       refine' Aq 2 (by kernel_rfl) ?_ ?_;rotate_left;(simp only[Aa,Ab,Ac];rfl)
       gi_wp2_with fail
       refine QK.normal ?_
       refine' Aq 3 (by kernel_rfl) ?_ ?_;rotate_left;(simp only[Aa,Ab,Ac];rfl)
       gi_wp2_with fail
       refine QK.normal ?_
       refine' Aq 4 (by kernel_rfl) ?_ ?_;rotate_left;(simp only[Aa,Ab,Ac];rfl)
       gi_wp2_with fail
       refine QK.normal ?_
       refine' Aq 6 (by kernel_rfl) ?_ ?_;rotate_left;(simp only[Aa,Ab,Ac];rfl)
       gi_wp2_with fail
       refine⟨trivial,?_⟩
       refine(WideF.wide.calls (n:=7) HCT.out).mono ?_
       rintro e' w' ⟨rfl,rfl⟩
       gi_wp2_with fail
       refine QK.normal ?_
       refine' Aq 7 (by kernel_rfl) ?_ ?_;rotate_left;(simp only[Aa,Ab,Ac];rfl)
       gi_wp2_with fail
       refine QK.normal ?_
       refine' AZ 8 9 (by kernel_rfl) ?_ ?_ ?_ ?_;rotate_left 2;(simp only[Aa,Ab,Ac];rfl);(simp only[Aa,Ab,Ac];rfl)
       ·skip
        gi_wp2_with fail
        refine QK.normal ?_
        refine' Aq 9 (by kernel_rfl) ?_ ?_;rotate_left;(simp only[Aa,Ab,Ac];rfl)
        gi_wp2_with fail
        refine QK.normal ?_
        refine' Aq 10 (by kernel_rfl) ?_ ?_;rotate_left;(simp only[Aa,Ab,Ac];rfl)
        obtain⟨fn',tmps,assign,body,hyl,hR⟩:=HY.out (shL sh k) k v0 v0 HJV.out (Below.refl _ _) HPX.out
        try simp only at hyl
        gi_wp2_with fail
        refine hR.mono ?_
        rintro e W3 (⟨rfl,hJ3⟩|⟨rfl,hJx3⟩)
        ·have H3:=Ag (show J (shL sh (k+1)) W3 from by rw[HSU.out];exact hJ3)
         clear hJ3 hyl hR d0 d1
         gi_wp2_with fail
         refine QK.normal ?_
         refine' Aq 11 (by kernel_rfl) ?_ ?_;rotate_left;(simp only[Aa,Ab,Ac];rfl)
         gi_wp2_with fail
         refine QK.normal ?_
         refine' Aq 12 (by kernel_rfl) ?_ ?_;rotate_left;(simp only[Aa,Ab,Ac];rfl)
         gi_wp2_with fail
         refine QK.normal ?_
         refine wpAnyIn_done (by kernel_rfl) ?_ _
         gi_wp2
         go_roundw
         case rel=> exact⟨k+1,by omega,by go_num,H3⟩
         case measure=> simp[intOf];omega
        ·have H3:=Ag (show Jx (shL sh (k+1)) W3 from by rw[HSU.out];exact hJx3)
         clear hJx3 hyl hR d0 d1
         gi_wp2_with fail
         refine QK.normal ?_
         refine' Aq 11 (by kernel_rfl) ?_ ?_;rotate_left;(simp only[Aa,Ab,Ac];rfl)
         gi_wp2_with fail
         refine QK.normal ?_
         refine' Aq 12 (by kernel_rfl) ?_ ?_;rotate_left;(simp only[Aa,Ab,Ac];rfl)
         gi_wp2_with fail
         refine QK.normal ?_
         refine wpAnyIn_done (by kernel_rfl) ?_ _
         gi_wp2
         refine bodyPost_ret (results_none rfl _ _ _) rfl ?_
         exact⟨⟨_,rfl⟩,.inr ⟨_,HPX2.out,H3.out⟩⟩
       ·skip
        gi_wp2_with fail
        refine QK.normal ?_
        refine' Aq 8 (by kernel_rfl) ?_ ?_;rotate_left;(simp only[Aa,Ab,Ac];rfl)
        gi_wp2_with fail
        refine QK.normal ?_
        refine' Aq 10 (by kernel_rfl) ?_ ?_;rotate_left;(simp only[Aa,Ab,Ac];rfl)
        obtain⟨fn',tmps,assign,body,hyl,hR⟩:=HY.out (shL sh k) k v0 v0 HJV.out (Below.refl _ _) HPX.out
        try simp only at hyl
        gi_wp2_with fail
        refine hR.mono ?_
        rintro e W3 (⟨rfl,hJ3⟩|⟨rfl,hJx3⟩)
        ·have H3:=Ag (show J (shL sh (k+1)) W3 from by rw[HSU.out];exact hJ3)
         clear hJ3 hyl hR d0 d1
         gi_wp2_with fail
         refine QK.normal ?_
         refine' Aq 11 (by kernel_rfl) ?_ ?_;rotate_left;(simp only[Aa,Ab,Ac];rfl)
         gi_wp2_with fail
         refine QK.normal ?_
         refine' Aq 12 (by kernel_rfl) ?_ ?_;rotate_left;(simp only[Aa,Ab,Ac];rfl)
         gi_wp2_with fail
         refine QK.normal ?_
         refine wpAnyIn_done (by kernel_rfl) ?_ _
         gi_wp2
         go_roundw
         case rel=> exact⟨k+1,by omega,by go_num,H3⟩
         case measure=> simp[intOf];omega
        ·have H3:=Ag (show Jx (shL sh (k+1)) W3 from by rw[HSU.out];exact hJx3)
         clear hJx3 hyl hR d0 d1
         gi_wp2_with fail
         refine QK.normal ?_
         refine' Aq 11 (by kernel_rfl) ?_ ?_;rotate_left;(simp only[Aa,Ab,Ac];rfl)
         gi_wp2_with fail
         refine QK.normal ?_
         refine' Aq 12 (by kernel_rfl) ?_ ?_;rotate_left;(simp only[Aa,Ab,Ac];rfl)
         gi_wp2_with fail
         refine QK.normal ?_
         refine wpAnyIn_done (by kernel_rfl) ?_ _
         gi_wp2
         refine bodyPost_ret (results_none rfl _ _ _) rfl ?_
         exact⟨⟨_,rfl⟩,.inr ⟨_,HPX2.out,H3.out⟩⟩
     ·skip
      gi_wp2_with fail
      refine QK.normal ?_
      refine' Aq 1 (by kernel_rfl) ?_ ?_;rotate_left;(simp only[Aa,Ab,Ac];rfl)
      gi_wp2_with fail
      refine QK.normal ?_
      refine' Aq 2 (by kernel_rfl) ?_ ?_;rotate_left;(simp only[Aa,Ab,Ac];rfl)
      gi_wp2_with fail
      refine QK.normal ?_
      refine' Aq 3 (by kernel_rfl) ?_ ?_;rotate_left;(simp only[Aa,Ab,Ac];rfl)
      gi_wp2_with fail
      refine QK.normal ?_
      refine' Aq 4 (by kernel_rfl) ?_ ?_;rotate_left;(simp only[Aa,Ab,Ac];rfl)
      gi_wp2_with fail
      refine QK.normal ?_
      refine' Aq 6 (by kernel_rfl) ?_ ?_;rotate_left;(simp only[Aa,Ab,Ac];rfl)
      gi_wp2_with fail
      refine⟨trivial,?_⟩
      refine(WideF.wide.calls (n:=7) HCT.out).mono ?_
      rintro e' w' ⟨rfl,rfl⟩
      gi_wp2_with fail
      refine QK.normal ?_
      refine' Aq 7 (by kernel_rfl) ?_ ?_;rotate_left;(simp only[Aa,Ab,Ac];rfl)
      gi_wp2_with fail
      refine QK.normal ?_
      refine' AZ 8 9 (by kernel_rfl) ?_ ?_ ?_ ?_;rotate_left 2;(simp only[Aa,Ab,Ac];rfl);(simp only[Aa,Ab,Ac];rfl)
      ·skip
       gi_wp2_with fail
       refine QK.normal ?_
       refine' Aq 9 (by kernel_rfl) ?_ ?_;rotate_left;(simp only[Aa,Ab,Ac];rfl)
       gi_wp2_with fail
       refine QK.normal ?_
       refine' Aq 10 (by kernel_rfl) ?_ ?_;rotate_left;(simp only[Aa,Ab,Ac];rfl)
       obtain⟨fn',tmps,assign,body,hyl,hR⟩:=HY.out (shL sh k) k v0 v0 HJV.out (Below.refl _ _) HPX.out
       try simp only at hyl
       gi_wp2_with fail
       refine hR.mono ?_
       rintro e W3 (⟨rfl,hJ3⟩|⟨rfl,hJx3⟩)
       ·have H3:=Ag (show J (shL sh (k+1)) W3 from by rw[HSU.out];exact hJ3)
        clear hJ3 hyl hR d0 d1
        gi_wp2_with fail
        refine QK.normal ?_
        refine' Aq 11 (by kernel_rfl) ?_ ?_;rotate_left;(simp only[Aa,Ab,Ac];rfl)
        gi_wp2_with fail
        refine QK.normal ?_
        refine' Aq 12 (by kernel_rfl) ?_ ?_;rotate_left;(simp only[Aa,Ab,Ac];rfl)
        gi_wp2_with fail
        refine QK.normal ?_
        refine wpAnyIn_done (by kernel_rfl) ?_ _
        gi_wp2
        go_roundw
        case rel=> exact⟨k+1,by omega,by go_num,H3⟩
        case measure=> simp[intOf];omega
       ·have H3:=Ag (show Jx (shL sh (k+1)) W3 from by rw[HSU.out];exact hJx3)
        clear hJx3 hyl hR d0 d1
        gi_wp2_with fail
        refine QK.normal ?_
        refine' Aq 11 (by kernel_rfl) ?_ ?_;rotate_left;(simp only[Aa,Ab,Ac];rfl)
        gi_wp2_with fail
        refine QK.normal ?_
        refine' Aq 12 (by kernel_rfl) ?_ ?_;rotate_left;(simp only[Aa,Ab,Ac];rfl)
        gi_wp2_with fail
        refine QK.normal ?_
        refine wpAnyIn_done (by kernel_rfl) ?_ _
        gi_wp2
        refine bodyPost_ret (results_none rfl _ _ _) rfl ?_
        exact⟨⟨_,rfl⟩,.inr ⟨_,HPX2.out,H3.out⟩⟩
      ·skip
       gi_wp2_with fail
       refine QK.normal ?_
       refine' Aq 8 (by kernel_rfl) ?_ ?_;rotate_left;(simp only[Aa,Ab,Ac];rfl)
       gi_wp2_with fail
       refine QK.normal ?_
       refine' Aq 10 (by kernel_rfl) ?_ ?_;rotate_left;(simp only[Aa,Ab,Ac];rfl)
       obtain⟨fn',tmps,assign,body,hyl,hR⟩:=HY.out (shL sh k) k v0 v0 HJV.out (Below.refl _ _) HPX.out
       try simp only at hyl
       gi_wp2_with fail
       refine hR.mono ?_
       rintro e W3 (⟨rfl,hJ3⟩|⟨rfl,hJx3⟩)
       ·have H3:=Ag (show J (shL sh (k+1)) W3 from by rw[HSU.out];exact hJ3)
        clear hJ3 hyl hR d0 d1
        gi_wp2_with fail
        refine QK.normal ?_
        refine' Aq 11 (by kernel_rfl) ?_ ?_;rotate_left;(simp only[Aa,Ab,Ac];rfl)
        gi_wp2_with fail
        refine QK.normal ?_
        refine' Aq 12 (by kernel_rfl) ?_ ?_;rotate_left;(simp only[Aa,Ab,Ac];rfl)
        gi_wp2_with fail
        refine QK.normal ?_
        refine wpAnyIn_done (by kernel_rfl) ?_ _
        gi_wp2
        go_roundw
        case rel=> exact⟨k+1,by omega,by go_num,H3⟩
        case measure=> simp[intOf];omega
       ·have H3:=Ag (show Jx (shL sh (k+1)) W3 from by rw[HSU.out];exact hJx3)
        clear hJx3 hyl hR d0 d1
        gi_wp2_with fail
        refine QK.normal ?_
        refine' Aq 11 (by kernel_rfl) ?_ ?_;rotate_left;(simp only[Aa,Ab,Ac];rfl)
        gi_wp2_with fail
        refine QK.normal ?_
        refine' Aq 12 (by kernel_rfl) ?_ ?_;rotate_left;(simp only[Aa,Ab,Ac];rfl)
        gi_wp2_with fail
        refine QK.normal ?_
        refine wpAnyIn_done (by kernel_rfl) ?_ _
        gi_wp2
        refine bodyPost_ret (results_none rfl _ _ _) rfl ?_
        exact⟨⟨_,rfl⟩,.inr ⟨_,HPX2.out,H3.out⟩⟩
    ·skip
     gi_wp2_with fail
     refine QK.normal ?_
     refine' Aq 0 (by kernel_rfl) ?_ ?_;rotate_left;(simp only[Aa,Ab,Ac];rfl)
     gi_wp2_with fail
     refine QK.normal ?_
     refine' Aq 1 (by kernel_rfl) ?_ ?_;rotate_left;(simp only[Aa,Ab,Ac];rfl)
     gi_wp2_with fail
     refine QK.normal ?_
     refine' Aq 2 (by kernel_rfl) ?_ ?_;rotate_left;(simp only[Aa,Ab,Ac];rfl)
     gi_wp2_with fail
     refine QK.normal ?_
     refine' Aq 3 (by kernel_rfl) ?_ ?_;rotate_left;(simp only[Aa,Ab,Ac];rfl)
     gi_wp2_with fail
     refine QK.normal ?_
     refine' Aq 4 (by kernel_rfl) ?_ ?_;rotate_left;(simp only[Aa,Ab,Ac];rfl)
     gi_wp2_with fail
     refine QK.normal ?_
     refine' Aq 6 (by kernel_rfl) ?_ ?_;rotate_left;(simp only[Aa,Ab,Ac];rfl)
     gi_wp2_with fail
     refine⟨trivial,?_⟩
     refine(WideF.wide.calls (n:=7) HCT.out).mono ?_
     rintro e' w' ⟨rfl,rfl⟩
     gi_wp2_with fail
     refine QK.normal ?_
     refine' Aq 7 (by kernel_rfl) ?_ ?_;rotate_left;(simp only[Aa,Ab,Ac];rfl)
     gi_wp2_with fail
     refine QK.normal ?_
     refine' AZ 8 9 (by kernel_rfl) ?_ ?_ ?_ ?_;rotate_left 2;(simp only[Aa,Ab,Ac];rfl);(simp only[Aa,Ab,Ac];rfl)
     ·skip
      gi_wp2_with fail
      refine QK.normal ?_
      refine' Aq 9 (by kernel_rfl) ?_ ?_;rotate_left;(simp only[Aa,Ab,Ac];rfl)
      gi_wp2_with fail
      refine QK.normal ?_
      refine' Aq 10 (by kernel_rfl) ?_ ?_;rotate_left;(simp only[Aa,Ab,Ac];rfl)
      obtain⟨fn',tmps,assign,body,hyl,hR⟩:=HY.out (shL sh k) k v0 v0 HJV.out (Below.refl _ _) HPX.out
      try simp only at hyl
      gi_wp2_with fail
      refine hR.mono ?_
      rintro e W3 (⟨rfl,hJ3⟩|⟨rfl,hJx3⟩)
      ·have H3:=Ag (show J (shL sh (k+1)) W3 from by rw[HSU.out];exact hJ3)
       clear hJ3 hyl hR d0 d1
       gi_wp2_with fail
       refine QK.normal ?_
       refine' Aq 11 (by kernel_rfl) ?_ ?_;rotate_left;(simp only[Aa,Ab,Ac];rfl)
       gi_wp2_with fail
       refine QK.normal ?_
       refine' Aq 12 (by kernel_rfl) ?_ ?_;rotate_left;(simp only[Aa,Ab,Ac];rfl)
       gi_wp2_with fail
       refine QK.normal ?_
       refine wpAnyIn_done (by kernel_rfl) ?_ _
       gi_wp2
       go_roundw
       case rel=> exact⟨k+1,by omega,by go_num,H3⟩
       case measure=> simp[intOf];omega
      ·have H3:=Ag (show Jx (shL sh (k+1)) W3 from by rw[HSU.out];exact hJx3)
       clear hJx3 hyl hR d0 d1
       gi_wp2_with fail
       refine QK.normal ?_
       refine' Aq 11 (by kernel_rfl) ?_ ?_;rotate_left;(simp only[Aa,Ab,Ac];rfl)
       gi_wp2_with fail
       refine QK.normal ?_
       refine' Aq 12 (by kernel_rfl) ?_ ?_;rotate_left;(simp only[Aa,Ab,Ac];rfl)
       gi_wp2_with fail
       refine QK.normal ?_
       refine wpAnyIn_done (by kernel_rfl) ?_ _
       gi_wp2
       refine bodyPost_ret (results_none rfl _ _ _) rfl ?_
       exact⟨⟨_,rfl⟩,.inr ⟨_,HPX2.out,H3.out⟩⟩
     ·skip
      gi_wp2_with fail
      refine QK.normal ?_
      refine' Aq 8 (by kernel_rfl) ?_ ?_;rotate_left;(simp only[Aa,Ab,Ac];rfl)
      gi_wp2_with fail
      refine QK.normal ?_
      refine' Aq 10 (by kernel_rfl) ?_ ?_;rotate_left;(simp only[Aa,Ab,Ac];rfl)
      obtain⟨fn',tmps,assign,body,hyl,hR⟩:=HY.out (shL sh k) k v0 v0 HJV.out (Below.refl _ _) HPX.out
      try simp only at hyl
      gi_wp2_with fail
      refine hR.mono ?_
      rintro e W3 (⟨rfl,hJ3⟩|⟨rfl,hJx3⟩)
      ·have H3:=Ag (show J (shL sh (k+1)) W3 from by rw[HSU.out];exact hJ3)
       clear hJ3 hyl hR d0 d1
       gi_wp2_with fail
       refine QK.normal ?_
       refine' Aq 11 (by kernel_rfl) ?_ ?_;rotate_left;(simp only[Aa,Ab,Ac];rfl)
       gi_wp2_with fail
       refine QK.normal ?_
       refine' Aq 12 (by kernel_rfl) ?_ ?_;rotate_left;(simp only[Aa,Ab,Ac];rfl)
       gi_wp2_with fail
       refine QK.normal ?_
       refine wpAnyIn_done (by kernel_rfl) ?_ _
       gi_wp2
       go_roundw
       case rel=> exact⟨k+1,by omega,by go_num,H3⟩
       case measure=> simp[intOf];omega
      ·have H3:=Ag (show Jx (shL sh (k+1)) W3 from by rw[HSU.out];exact hJx3)
       clear hJx3 hyl hR d0 d1
       gi_wp2_with fail
       refine QK.normal ?_
       refine' Aq 11 (by kernel_rfl) ?_ ?_;rotate_left;(simp only[Aa,Ab,Ac];rfl)
       gi_wp2_with fail
       refine QK.normal ?_
       refine' Aq 12 (by kernel_rfl) ?_ ?_;rotate_left;(simp only[Aa,Ab,Ac];rfl)
       gi_wp2_with fail
       refine QK.normal ?_
       refine wpAnyIn_done (by kernel_rfl) ?_ _
       gi_wp2
       refine bodyPost_ret (results_none rfl _ _ _) rfl ?_
       exact⟨⟨_,rfl⟩,.inr ⟨_,HPX2.out,H3.out⟩⟩
  ·have hge:¬ (k:Int)<(fn:Int):=by omega
   have HF:=Ag (show J (shL sh fn) wr by have h:=HR.out;rwa [show k=fn by omega] at h)
   gi_wp2
   go_end0
   exact⟨⟨_,rfl⟩,.inl HF.out⟩
end Go.Proofs.YtgdlfiphihaooaaGreat
namespace Go.Proofs.YtgdlfiphihaooaaGreat
open Go Go.RowKit Go.Sort
theorem G7 (us:List Int) (sp:List Value) (k:Nat) (hk:k<us.length) (j:Nat) (hj:j<us.length - 1):
  (AU (AU (ofK .i64 us ++ sp) k (ofK .i64 (us.drop (k+1)))) (us.length - 1) [.int .i64 0])[j]?=(ofK .i64 (us.eraseIdx k))[j]?:=by
 have hd:(ofK .i64 (us.drop (k+1))).length=us.length - (k+1):=by rw[AJ,List.length_drop]
 have hL:(ofK .i64 us ++ sp).length=us.length+sp.length:=by rw[List.length_append,AJ]
 rw[Cm _ _ _ (by rw[BI,hL];simp;omega),if_neg (by omega),Cm _ _ _ (by rw[hL,hd];omega),hd]
 unfold ofK
 rw[List.getElem?_map,List.getElem?_map,List.getElem?_eraseIdx]
 by_cases h:j<k
 ·rw[if_neg (by omega),if_pos h,List.getElem?_append_left (by rw[List.length_map];omega),List.getElem?_map]
 ·rw[if_pos (by omega),if_neg h,List.getElem?_drop]
  congr 2;omega
theorem KQ (base k:Nat) (us:List Int) (v:Value) (w:World) (hv:w.ownsRow base 3 1 v us.length (ofK .i64 us)) (hl:us.length≤1000000) (hk:k<us.length):
  Calls Tryz.prog 100 #[v,.int .i64 k,.int .i64 ((k:Int)+1)] w (GT base 3 1 v (us.length - 1) (ofK .i64 (us.eraseIdx k)) w):=by
 obtain⟨hL,⟨rfl,h2⟩|⟨g,c,C,rfl,hg,hh,hnc,hcm,hcs,htk⟩⟩:=hv
 ·omega
 rw[Nat.mul_one] at hcs htk hL
 have hblk:Blk w g 3 C.toList:=hh
 have hmx:c≤9223372036854775807:=by unfold maxLen at hcm;omega
 obtain⟨sp,hsp⟩:∃ sp,C.toList=ofK .i64 us ++ sp:=⟨C.toList.drop us.length,by rw[←htk,List.take_append_drop]⟩
 have hspl:(ofK .i64 us ++ sp).length=c:=by rw[←hsp];simpa using hcs
 rw[hsp] at hblk
 obtain⟨n,hn⟩:∃ n,us.length=n:=⟨_,rfl⟩
 have HN:=Ag hn
 have hdl:(ofK .i64 (us.drop (k+1))).length=n - (k+1):=by rw[AJ,List.length_drop,hn]
 obtain⟨i0,hi0,hz0,hzs,hzb⟩:=info_parts Tryz.infoI
 have hone:∀ u∈ofK .i64 (us.drop (k+1)),u.oneCell'=true:=Cp _ _
 have HB:=Ag (Ai hblk hg)
 have HSP:=Ag hspl
 rw[hn] at hl hk hnc ⊢
 have hA:∀ (ad:Addr) (m q:Nat),m=n - (k+1)→(0<m→ad=⟨g,k+1,none⟩)→∀ ty,(Builtin.append_ #[40,40] ty #[.slice (some ⟨g,0,none⟩) k c,.slice (some ad) m q]).run Tryz.prog w.drew=.ok (.slice (some ⟨g,0,none⟩) (k+m) c) (w.drew.setCells g k (ofK .i64 (us.drop (k+1)))):=fun ad m q hm had ty=> by
  have h:=run_append_room_cells (P:=Tryz.prog) w.drew 40 ty 3 i0 Tryz.underlying40 hi0 g 0 k c ad m q (ofK .i64 (us.drop (k+1))) (by rw[hzs,hdl,hm];omega) (fun j u hu=> by
   have hj:j<n - (k+1):=by have:=(List.getElem?_eq_some_iff.1 hu).1;rwa [hdl] at this
   rw[had (by omega),Addr.add_lit]
   show w.cell? _=_
   rw[hblk.cell,List.getElem?_append_left (by rw[AJ,hn];omega),←Dh];exact hu) hone (by omega) (fun j hj=> by
   show(w.cell? _).isSome=true
   rw[hblk.cell,List.getElem?_eq_getElem (by rw[hspl];rw[hdl] at hj;rw[hzs];omega)];rfl) (fun j _=> hblk.free _)
  rw[hzs,Nat.zero_add,Nat.mul_one] at h
  exact h
 have HAA:=Ag hA
 clear hblk hg hh hcm hcs htk hL hsp hspl hn hdl hi0 hz0 hzs hzb hone hA
 have hk0:(0:Int)≤(k:Int):=by omega
 have hk1:(0:Int)≤(k:Int)+1:=by omega
 have hk2:(k:Int)+1≤(n:Int):=by omega
 have hk3:(k:Int)≤(n:Int):=by omega
 have hkn:(n:Int)≤(c:Int):=by omega
 have hkc:(k:Int)≤(c:Int):=by omega
 have hkt:((k:Int)+1).toNat=k+1:=by omega
 have hkk:(k:Int)≤(k:Int)+1:=by omega
 have hke:((k:Int)==(k:Int)+1)=false:=by simp;omega
 have hck:¬ (c=k):=by omega
 by_cases hcj:c=k+1
 ·obtain rfl:n=k+1:=by omega
  subst hcj
  have HA:=Ag (fun ty=> by have h:=HAA.out ⟨g,0,none⟩ 0 0 (by omega) (fun h=> by omega) ty;rw[Nat.add_zero] at h;exact h)
  simp only[Nat.add_sub_cancel]
  go_enter Tryz.func100,Tryz.ntmps100
  go_wp2_with fail
  refine Az (fun _=> True) [0,1,2,3,4,5] 2 (by kernel_rfl) rfl (by kernel_rfl) (by kernel_rfl) trivial ?_
  iterate 6(refine' AK.run ?_ ?_ ?_ ?_;rotate_left 2;(simp only[Aa,Ab,Ac];rfl);rfl;(rintro w' -;go_simp;with_reducible rfl);simp only[Al,Ad,Ae,Af])
  refine' Ar 6 (by kernel_rfl) ?_ ?_;rotate_left;(simp only[Aa,Ab,Ac];rfl)
  at_builtin
  refine Lib.wpList_append_run _ rfl _ _ _ _ rfl _ _ rfl rfl _ _ (HA.out _) ?_
  have hs1:=AH g (ofK .i64 (us.drop (k+1))) k w
  have H2:=Ag (show Blk (w.drew.setCells g k (ofK .i64 (us.drop (k+1)))) g 3 (AU (ofK .i64 us ++ sp) k (ofK .i64 (us.drop (k+1))))∧Ch (·=g) w (w.drew.setCells g k (ofK .i64 (us.drop (k+1)))) from⟨(show Blk w.drew g 3 (ofK .i64 us ++ sp) from HB.out.1).setCells _ _,(Ch.refl (·=g) w).drew.trans (AH g _ _ _)⟩)
  clear hs1
  generalize w.drew.setCells g k (ofK .i64 (us.drop (k+1)))=w2 at H2 ⊢
  refine QK.normal ⟨trivial,?_⟩
  try simp only[Al,Ad,Ae,Af]
  refine' Ar 7 (by kernel_rfl) ?_ ?_;rotate_left;(simp only[Aa,Ab,Ac];rfl)
  go_wp2_with fail
  refine QK.normal ⟨trivial,?_⟩
  refine wpAnyH_done (by kernel_rfl) ?_ _
  refine NoPanic.normal ?_
  have hcl:∀ ty,(Builtin.clear_ #[40] ty #[.slice (some ⟨g,k,none⟩) 1 1]).run Tryz.prog w2=.ok (.tuple #[]) (w2.setCells g k (List.replicate 1 (.int .i64 0))):=
   fun ty=> Lib.run_clear_slice w2 40 3 ty (.int .i64 0) Tryz.underlying40 Tryz.zeroI rfl rfl g k _ _ (by omega) (fun t ht=> by rw[H2.out.1.cell,List.getElem?_eq_getElem (by rw[BI,HSP.out];omega)];rfl) (fun t ht=> H2.out.1.free _)
  have hc1:((k:Nat):Int)≤(((k+1):Nat):Int):=by omega
  have hc2:(((k+1):Nat):Int)≤(((k+1):Nat):Int):=by omega
  have hc3:(0:Int)≤((k:Nat):Int):=by omega
  have hc4:¬ ((k+1)=k):=by omega
  have hc5:(k+1) - k=1:=by omega
  go_wp2_with (simp only[hcl])
  clear hcl
  have H3:=Ag (show(w2.setCells g k [.int .i64 0]).ownsRow base 3 1 (.slice (some ⟨g,0,none⟩) k (k+1)) k (ofK .i64 (us.eraseIdx k))∧Ch (·=g) w (w2.setCells g k [.int .i64 0]) from by
   have hb:=H2.out.1.setCells [.int .i64 0] k
   obtain⟨Y,hY⟩:∃ Y,AU (AU (ofK .i64 us ++ sp) k (ofK .i64 (us.drop (k+1)))) k [.int .i64 0]=Y:=⟨_,rfl⟩
   rw[hY] at hb
   have hYl:Y.length=(k+1):=by rw[←hY,BI,BI,HSP.out]
   have hel:(ofK .i64 (us.eraseIdx k)).length=k:=by rw[AJ,List.length_eraseIdx,if_pos (by rw[HN.out];omega)];have:=HN.out;omega
   have hYe:Y=ofK .i64 (us.eraseIdx k) ++ Y.drop k:=by
    have:Y.take k=ofK .i64 (us.eraseIdx k):=by
     apply List.ext_getElem?
     intro j
     rw[List.getElem?_take]
     by_cases hj:j<k
     ·rw[if_pos hj,←hY]
      have h:=G7 us sp k (by rw[HN.out];omega) j (by rw[HN.out];exact hj)
      rw[HN.out] at h
      exact h
     ·rw[if_neg hj,List.getElem?_eq_none (by rw[hel];omega)]
    rw[←this,List.take_append_drop]
   rw[hYe] at hb
   exact⟨B6 hb HB.out.2 (by rw[hel];omega) (by omega) (by unfold maxLen;omega) (by rw[←hYe,hYl];omega),H2.out.2.trans (AH g _ _ _)⟩)
  go_wp2_with fail
  go_ret
  exact⟨_,_,rfl,H3.out.1,H3.out.2.mono (fun k hk=> by have e:k=g:=hk;rw[e];rfl),.inl rfl⟩
 ·have HA:=Ag (fun ty=> by have h:=HAA.out ⟨g,k+1,none⟩ (n - (k+1)) (c - (k+1)) rfl (fun _=> rfl) ty;rw[show k+(n - (k+1))=n - 1 by omega] at h;exact h)
  go_enter Tryz.func100,Tryz.ntmps100
  go_wp2_with fail
  refine Az (fun _=> True) [0,1,2,3,4,5] 2 (by kernel_rfl) rfl (by kernel_rfl) (by kernel_rfl) trivial ?_
  iterate 6(refine' AK.run ?_ ?_ ?_ ?_;rotate_left 2;(simp only[Aa,Ab,Ac];rfl);rfl;(rintro w' -;go_simp;with_reducible rfl);simp only[Al,Ad,Ae,Af])
  refine' Ar 6 (by kernel_rfl) ?_ ?_;rotate_left;(simp only[Aa,Ab,Ac];rfl)
  at_builtin
  refine Lib.wpList_append_run _ rfl _ _ _ _ rfl _ _ rfl rfl _ _ (HA.out _) ?_
  have hs1:=AH g (ofK .i64 (us.drop (k+1))) k w
  have H2:=Ag (show Blk (w.drew.setCells g k (ofK .i64 (us.drop (k+1)))) g 3 (AU (ofK .i64 us ++ sp) k (ofK .i64 (us.drop (k+1))))∧Ch (·=g) w (w.drew.setCells g k (ofK .i64 (us.drop (k+1)))) from⟨(show Blk w.drew g 3 (ofK .i64 us ++ sp) from HB.out.1).setCells _ _,(Ch.refl (·=g) w).drew.trans (AH g _ _ _)⟩)
  clear hs1
  generalize w.drew.setCells g k (ofK .i64 (us.drop (k+1)))=w2 at H2 ⊢
  refine QK.normal ⟨trivial,?_⟩
  try simp only[Al,Ad,Ae,Af]
  refine' Ar 7 (by kernel_rfl) ?_ ?_;rotate_left;(simp only[Aa,Ab,Ac];rfl)
  go_wp2_with fail
  refine QK.normal ⟨trivial,?_⟩
  refine wpAnyH_done (by kernel_rfl) ?_ _
  refine NoPanic.normal ?_
  have hcl:∀ ty,(Builtin.clear_ #[40] ty #[.slice (some ⟨g,(n - 1),none⟩) 1 (c - (n - 1))]).run Tryz.prog w2=.ok (.tuple #[]) (w2.setCells g (n - 1) (List.replicate 1 (.int .i64 0))):=
   fun ty=> Lib.run_clear_slice w2 40 3 ty (.int .i64 0) Tryz.underlying40 Tryz.zeroI rfl rfl g (n - 1) _ _ (by omega) (fun t ht=> by rw[H2.out.1.cell,List.getElem?_eq_getElem (by rw[BI,HSP.out];omega)];rfl) (fun t ht=> H2.out.1.free _)
  have hc1:(((n - 1):Nat):Int)≤((n:Nat):Int):=by omega
  have hc2:((n:Nat):Int)≤((c:Nat):Int):=by omega
  have hc3:(0:Int)≤(((n - 1):Nat):Int):=by omega
  have hc4:¬ (c=(n - 1)):=by omega
  have hc5:n - (n - 1)=1:=by omega
  go_wp2_with (simp only[hcl])
  clear hcl
  have H3:=Ag (show(w2.setCells g (n - 1) [.int .i64 0]).ownsRow base 3 1 (.slice (some ⟨g,0,none⟩) (n - 1) c) (n - 1) (ofK .i64 (us.eraseIdx k))∧Ch (·=g) w (w2.setCells g (n - 1) [.int .i64 0]) from by
   have hb:=H2.out.1.setCells [.int .i64 0] (n - 1)
   obtain⟨Y,hY⟩:∃ Y,AU (AU (ofK .i64 us ++ sp) k (ofK .i64 (us.drop (k+1)))) (n - 1) [.int .i64 0]=Y:=⟨_,rfl⟩
   rw[hY] at hb
   have hYl:Y.length=c:=by rw[←hY,BI,BI,HSP.out]
   have hel:(ofK .i64 (us.eraseIdx k)).length=(n - 1):=by rw[AJ,List.length_eraseIdx,if_pos (by rw[HN.out];omega)];have:=HN.out;omega
   have hYe:Y=ofK .i64 (us.eraseIdx k) ++ Y.drop (n - 1):=by
    have:Y.take (n - 1)=ofK .i64 (us.eraseIdx k):=by
     apply List.ext_getElem?
     intro j
     rw[List.getElem?_take]
     by_cases hj:j<(n - 1)
     ·rw[if_pos hj,←hY]
      have h:=G7 us sp k (by rw[HN.out];omega) j (by rw[HN.out];exact hj)
      rw[HN.out] at h
      exact h
     ·rw[if_neg hj,List.getElem?_eq_none (by rw[hel];omega)]
    rw[←this,List.take_append_drop]
   rw[hYe] at hb
   exact⟨B6 hb HB.out.2 (by rw[hel];omega) (by omega) (by unfold maxLen;omega) (by rw[←hYe,hYl];omega),H2.out.2.trans (AH g _ _ _)⟩)
  go_wp2_with fail
  go_ret
  exact⟨_,_,rfl,H3.out.1,H3.out.2.mono (fun k hk=> by have e:k=g:=hk;rw[e];rfl),.inl rfl⟩
end Go.Proofs.YtgdlfiphihaooaaGreat
namespace Go.Proofs.YtgdlfiphihaooaaGreat
open Go Go.RowKit Go.Sort Go.Shelf
def nxR (fs:List FileM) (i:Nat):PmD × Int:=((fs[i]?.map fun f=> Bj f.p (BN f.p))).getD (noP,0)
def shB (fs:List FileM) (n:Int) (i:Nat):Bool:=((fs[i]?.map fun f=> f.p.g.any (n==·))).getD false
def upF (f:FileM):FileM:=⟨f.nm,(Bj f.p (BN f.p)).1,f.v,f.e,f.u,f.b⟩
theorem GD {g:Int}:∀ {fs:List FileM},(∀ i,shB fs g i=true→(nxR fs i).2=0)→Dd g fs=0
 | [],_=> rfl
 | f::t,h=> by
  unfold Dd
  have h0:=h 0
  rw[if_neg (fun hh=> hh.2 (h0 hh.1))]
  exact GD fun i hi=> h (i+1) hi
theorem Iv {g:Int}:∀ {fs:List FileM} {x:Nat},shB fs g x=true→(nxR fs x).2≠0→(∀ i,i<x→shB fs g i=true→(nxR fs i).2=0)→Dd g fs=(nxR fs x).2
 | [],x,h,_,_=> by simp[shB] at h
 | f::t,0,h,he,_=> by
  unfold Dd
  rw[if_pos ⟨h,he⟩];rfl
 | f::t,x+1,h,he,hl=> by
  unfold Dd
  have h0:=hl 0 (by omega)
  rw[if_neg (fun hh=> hh.2 (h0 hh.1))]
  exact Iv (fs:=t) h he fun i hi hs=> hl (i+1) (by omega) hs
theorem Dm {sh:Nat→Bool} {fn i:Nat}:i∈shL sh fn↔i<fn∧sh i=true:=by unfold shL;rw[List.mem_filter,List.mem_range]
theorem Jl {sh:Nat→Bool} {fn x:Nat} {pre:List Nat} (h:pre ++ [x] <+:shL sh fn):x<fn∧sh x=true∧(∀ i,i<x→sh i=true→i∈pre)∧x∉pre∧(∀ i∈pre,i<fn∧sh i=true)∧shL sh fn=pre ++ x::(shL sh fn).drop (pre.length+1):=by
 obtain⟨rest,h⟩:=h
 have hp:(shL sh fn).Pairwise (·<·):=List.Pairwise.filter _ List.pairwise_lt_range
 rw[←h,List.append_assoc,List.pairwise_append] at hp
 have hx:x∈shL sh fn:=by rw[←h];simp
 have hx2:=Dm.1 hx
 refine⟨hx2.1,hx2.2,fun i hi hs=> ?_,fun hm=> ?_,fun i hi=> Dm.1 (by rw[←h];simp[hi]),?_⟩
 ·have hm:i∈shL sh fn:=Dm.2 ⟨by omega,hs⟩
  rw[←h,List.append_assoc,List.mem_append] at hm
  rcases hm with hm|hm
  ·exact hm
  ·have hp2:=hp.2.1
   rw[List.singleton_append,List.pairwise_cons] at hp2
   rw[List.singleton_append,List.mem_cons] at hm
   rcases hm with rfl|hm
   ·omega
   ·have:=hp2.1 i hm;omega
 ·have:=hp.2.2 x hm x (by simp);omega
 ·rw[←h,List.append_assoc,List.drop_append,List.drop_eq_nil_of_le (by omega)]
  simp
def PqC (F:Nat→Prop) (w:World) (cs:List Value) (p:PmD):Prop:=∃ vr vq vg,cs=pmC p.o p.e vr vq vg∧PmF F w p vr vq vg
theorem PqC.keep' {F G S:Nat→Prop} {w w':World} {cs:List Value} {p:PmD} (h:PqC F w cs p) (hc:Ch S w w') (hS:∀ k,F k→¬ S k) (hG:∀ k,F k→G k):PqC G w' cs p:=by
 obtain⟨vr,vq,vg,h1,h2⟩:=h
 exact⟨vr,vq,vg,h1,h2.keep' hc hS hG⟩
theorem PqC.grown {F:Nat→Prop} {A B:World} {row:Option Nat} {cs:List Value} {p:PmD} (h:PqC F A cs p) (hg:A.grownBy B row) (hr:NoC A row):PqC F B cs p:=by
 obtain⟨vr,vq,vg,h1,h2⟩:=h
 exact⟨vr,vq,vg,h1,h2.grown hg hr⟩
theorem PqC.one {F:Nat→Prop} {w:World} {cs:List Value} {p:PmD} (h:PqC F w cs p):∀ v∈cs,v.oneCell'=true:=by
 obtain⟨vr,vq,vg,rfl,h⟩:=h
 exact Bt h.ones.1 h.ones.2.1 h.ones.2.2
theorem Tryz.infoPq:(Tryz.prog.info? 43).map (fun i=> (i.zero,i.size,i.bytes))=some (some (.agg (pmC 0 0 (.slice none 0 0) (.slice none 0 0) (.slice none 0 0)).toArray),5,88):=by kernel_rfl
theorem Tryz.zeroSp:∀ w,(zeroValue 137).run Tryz.prog w=.ok (.slice none 0 0) w:=fun w=> by kernel_rfl
theorem Tryz.sizeSp1:(Tryz.prog.info? 137).map (·.size)=some 1:=by kernel_rfl
structure NI1 (x5:World) (gn:Nat) (fs:List FileM) (pre:List Nat) (W:World):Prop where
 ch:Ch (·=gn) x5 W
 er:∀ i∈pre,(nxR fs i).2=0
 nx:∃ ao c,Blk W gn 137 [.slice ao pre.length c]∧OwR (PqC (fun k=> x5.heap.size≤k∧(Value.slice ao pre.length c).ownBlock≠some k)) 5 43 x5.heap.size W (.slice ao pre.length c) (pre.map fun i=> (nxR fs i).1)
theorem NI1.own {x5:World} {gn:Nat} {fs:List FileM}:OwnFrom x5.heap.size (NI1 x5 gn fs):=fun pre A B row h hg hr=> by
 obtain⟨h1,h2,ao,c,h3,h4⟩:=h
 have hn:NoC A row:=fun r e=> (hr r e).2
 exact⟨h1.grown hg (fun k e=> .inr (hr k e).1),h2,ao,c,BH h3 hg hn,h4.grown hg hn (fun _ _ _ hf=> hf.grown hg hn)⟩
def NX1 (x5:World) (gn gr:Nat) (fs:List FileM) (c:Code) (pre:List Nat) (W:World):Prop:=
 c=.ret∧Ch (fun k=> k=gn∨k=gr) x5 W∧∃ pre' x,pre=pre' ++ [x]∧(∀ i∈pre',(nxR fs i).2=0)∧(nxR fs x).2≠0∧Blk W gr 37 (AC (nxR fs x).2 0 0 (tmC 0 0 0 ⟨#[]⟩ (.slice none 0 0)))
theorem NX1.own {x5:World} {gn gr:Nat} {fs:List FileM} (c:Code):OwnFrom x5.heap.size (NX1 x5 gn gr fs c):=fun pre A B row h hg hr=> by
 obtain⟨h1,h2,p,x,h3,h4,h5,h6⟩:=h
 have hn:NoC A row:=fun r e=> (hr r e).2
 exact⟨h1,h2.grown hg (fun k e=> .inr (hr k e).1),p,x,h3,h4,h5,BH h6 hg hn⟩
theorem CE {W W':World} {B:Nat} {S:Nat→Prop} (hc:Ch S W W') (hS:∀ k,S k→∀ o,W.heap[k]?=some o→o.isCells=true):KeepsFrom B W W':=
 ⟨hc.size,fun k o _ hk ho=> (hc.block k (Array.getElem?_eq_some_iff.1 hk).1 (fun e=> by rw[hS k e o hk] at ho;cases ho)).trans hk⟩
theorem DB {w:World} {base e size n:Nat} {v:Value} {xs:List Value} (h:w.ownsRow base e size v n xs):∀ k,v.ownBlock=some k→∀ o,w.heap[k]?=some o→o.isCells=true:=fun k hk o ho=> by
 obtain⟨-,⟨rfl,-⟩|⟨g,cap,C,rfl,-,h5,-⟩⟩:=h
 ·cases hk
 ·injection hk with hk
  subst hk
  rw[h5] at ho;cases ho;rfl
section
variable {w0 w w':World} {m0 xs:List Nat} {bp:Nat} {bt:TypeId} {cells:List Value} {vf vc vw:Value} {fs:List FileM} {cv:List CirV} {ws:List WrM} {ex:List (List Value × Tm)}
theorem OwnX.shr {bl bn g fn cf:Nat} {n:Int} {af:Option Addr} {sh:Nat→Bool} (h:OwnX w0 m0 xs w bp bt [.slice af fn cf,vc,vw] (.slice af fn cf) vc vw fs cv ws ex) (hl:Blk w bl 95 [.pointer (some ⟨bp,0,none⟩)]) (hn:Blk w bn 3 [.int .i64 n])
  (hfn:fs.length=fn) (haf:0<fn→af=some ⟨g,0,none⟩) (hsh:∀ i,i<fn→shB fs n i=sh i):ShrK bl bn bp n (.slice af fn cf) g fn sh w:=by
 refine⟨hl,hn,h.bl.cell 0,fun i hi=> ?_⟩
 obtain rfl:=haf (by omega)
 have hi':i<fs.length:=by omega
 obtain⟨-,vr,vq,vg,tc,hra,hp,-⟩:=OwnX.elF (f:=fs[i]) (by rw[List.set_getElem_self];exact h) hi'
 refine⟨vg,fs[i].p.g,hra 5 _ rfl,hp.2.2.1,?_⟩
 rw[←hsh i hi]
 unfold shB
 rw[List.getElem?_eq_getElem hi'];rfl
end
theorem Df {F:Fence} {n:Nat} {P:Program} {id:Nat} {Q:Exit→Act→World→Prop} {a:Act} {w:World} {l:List Oper} (hF:WideF F) (hd:∀ o∈l,∀ c,o.op≠.defer c) (S:World→Prop) (m:Nat) (is:List Nat) (fuel:Nat) (hm:P.follows .mixedOrders=true) (hn:l.length=is.length+fuel)
  (hsel:Region.noSelect l.toArray=true) (hB:Ey .any l.toArray m is (Array.replicate l.toArray.size false)=true) (hS:S w.drew)
  (h:AK P l.toArray S is (fun a'=> BY P .any l.toArray (QN (Q .normal)) S m fuel (GU is (Array.replicate l.toArray.size false)) a' w.drew) a):(Code.region id l.toArray true).wpIn F n P Q a w:=by
 refine wpIn_region_any hm (Ia hF (by simpa using hd) (K:=Q .normal) (fun _ _ h=> h) _ _ _ _ (CL (S:=S) (m:=m) _ _ _ _ ?_))
 have h2:=B7 (P:=P) (md:=.any) (m:=m) (Q:=QN (Q .normal)) hsel QN.noPanic (fuel:=fuel) hS is _ a hB h
 rw[←show l.toArray.size=is.length+fuel by simpa using hn] at h2
 exact h2
theorem up_all {fs fs':List FileM} {g:Int} (h:∀ i,fs'[i]?=if i∈shL (shB fs g) fs.length then (fs[i]?).map upF else fs[i]?):fs'=fs.map (Dk g):=by
 apply List.ext_getElem?
 intro i
 rw[h i,List.getElem?_map]
 by_cases hi:i<fs.length
 ·rw[List.getElem?_eq_getElem hi]
  by_cases hs:shB fs g i=true
  ·rw[if_pos (Dm.2 ⟨hi,hs⟩)]
   unfold shB at hs
   rw[List.getElem?_eq_getElem hi] at hs
   simp only[Option.map_some]
   unfold Dk upF
   rw[if_pos (show fs[i].p.g.any (g==·)=true from hs)]
  ·rw[if_neg (fun hm=> hs (Dm.1 hm).2)]
   unfold shB at hs
   rw[List.getElem?_eq_getElem hi] at hs
   simp only[Option.map_some]
   unfold Dk
   rw[if_neg (show ¬ fs[i].p.g.any (g==·)=true from hs)]
 ·rw[List.getElem?_eq_none (by omega),if_neg (fun hm=> by have:=(Dm.1 hm).1;omega)];rfl
theorem turn_g {p:PmD} (h:(Bj p (BN p)).2=0):(Bj p (BN p)).1.g=p.g:=by
 unfold Bj at h ⊢
 by_cases ho:okB p=true
 ·rw[if_pos ho] at h ⊢
  by_cases he:p.e=8
  ·simp[BN,he] at h
  ·simp[BN,he]
 ·rw[if_neg ho] at h;simp at h
section
variable {w0 w w':World} {m0 xs:List Nat} {bp:Nat} {bt:TypeId} {cells:List Value} {vf vc vw:Value} {fs:List FileM} {cv:List CirV} {ws:List WrM} {ex:List (List Value × Tm)}
theorem OwnX.setS {S:Nat→Prop} (h:OwnX w0 m0 xs w bp bt cells vf vc vw fs cv ws ex) (hS:∀ k,S k→k∈xs∧w0.heap.size≤k) (hc:Ch S w w'):OwnX w0 m0 xs w' bp bt cells vf vc vw fs cv ws ex:=by
 have hx:∀ k,S k→k∉msL bp vf vc vw cv:=fun k hk=> (h.ax k (hS k hk).1).1
 have hN:∀ k,Fz xs (msL bp vf vc vw cv) w k→¬ S k:=fun k hk e=> hk.1.1 (hS k e).1
 have hG:∀ k,Fz xs (msL bp vf vc vw cv) w k→Fz xs (msL bp vf vc vw cv) w' k:=fun k hk=> ⟨hk.1,Ak hk.2 hc.size⟩
 refine⟨⟨hc.os.trans h.ch.os,hc.tape.trans h.ch.tape,hc.output.trans h.ch.output,Aj h.ch.size hc.size,fun k hk hn=> ?_⟩,h.nd,h.sub,fun k hk=> ⟨(h.ax k hk).1,Ak (h.ax k hk).2 hc.size⟩,
  h.bl.keep hc (fun e=> hx _ e of_b),h.rf.keep' hc (fun k hk e=> hx k e (FR k (AF.2 hk))) (fun cs a _ hf=> hf.keep' hc hN hG),h.rc.keep' hc (fun k hk e=> hx k e (FS k (AF.2 hk))) (fun cs a ha hf=> hf.keep' hc (fun k hk e=> hx k e (Gt k (BR.2 ⟨a,ha,hk⟩))) hN hG),h.rw.keep' hc (fun k hk e=> hx k e (GR k (AF.2 hk))) (fun cs a _ hf=> hf.keep' hc hN hG),fun p hp=> TmC.keep' hc hN hG _ _ (h.ex p hp)⟩
 rw[hc.block k (Ak hk h.ch.size) (fun e=> by have:=(hS k e).2;omega)]
 exact h.ch.block k hk hn
end
structure NI2 (w0:World) (m0 xs:List Nat) (bp:Nat) (vf vc vw:Value) (cv:List CirV) (ws:List WrM) (ex:List (List Value × Tm)) (B5 gn go gr bl bn D:Nat) (p:OpM) (tco:List Value) (fn:Nat) (fs:List FileM) (pre:List Nat) (W:World):Prop where
 own:∃ fs':List FileM,(∀ i,fs'[i]?=if i∈pre then (fs[i]?).map upF else fs[i]?)∧OwnX w0 m0 xs W bp 97 [vf,vc,vw] vf vc vw fs' cv ws ex
 sb:∀ i∈pre,i∈shL (shB fs p.g) fn
 op:Blk W go 31 (opC p tco)
 res:Blk W gr 37 (AC 0 0 0 (tmC 0 0 0 ⟨#[]⟩ (.slice none 0 0)))
 nx:∃ v,Blk W gn 137 [v]∧RwC (PqC (B5≤·)) 5 (B5≤·) W v (((shL (shB fs p.g) fn).drop pre.length).map fun i=> (nxR fs i).1)
 df:W.heap[D]?=some (.deferred (some []))
 kl:Blk W bl 95 [.pointer (some ⟨bp,0,none⟩)]
 kn:Blk W bn 3 [.int .i64 p.g]
theorem NI2.from {w0:World} {m0 xs:List Nat} {bp:Nat} {vf vc vw:Value} {cv:List CirV} {ws:List WrM} {ex:List (List Value × Tm)} {B5 gn go gr bl bn D:Nat} {p:OpM} {tco:List Value} {fn:Nat} {fs:List FileM} {B:Nat} (hB:w0.heap.size≤B) (hD:D<B):
  OwnFrom B (NI2 w0 m0 xs bp vf vc vw cv ws ex B5 gn go gr bl bn D p tco fn fs):=fun pre A Z row h hg hr=> by
 have hn:NoC A row:=fun r e=> (hr r e).2
 obtain⟨⟨fs',h1,h2⟩,h3,h4,h5,⟨v,h6,h7⟩,h8,h9,h10⟩:=h
 refine⟨⟨fs',h1,h2.grown hg hn (fun r e=> by have:=(hr r e).1;omega)⟩,h3,BH h4 hg hn,BH h5 hg hn,⟨v,BH h6 hg hn,h7.grown hg hn (fun _ _ _ hf=> hf.grown hg hn)⟩,?_,BH h9 hg hn,BH h10 hg hn⟩
 rw[hg.block D (Array.getElem?_eq_some_iff.1 h8).1 (fun e=> by have:=(hr D e.symm).1;omega)]
 exact h8
theorem up_at {fs fs':List FileM} {pre:List Nat} {x:Nat} (h:∀ i,fs'[i]?=if i∈pre then (fs[i]?).map upF else fs[i]?) (hx:x∉pre) (hl:x<fs.length):x<fs'.length∧fs'[x]?=fs[x]?∧∀ i,(fs'.set x (upF fs[x]))[i]?=if i∈pre ++ [x] then (fs[i]?).map upF else fs[i]?:=by
 have h0:=h x
 rw[if_neg hx,List.getElem?_eq_getElem hl] at h0
 have hl':x<fs'.length:=(List.getElem?_eq_some_iff.1 h0).1
 refine⟨hl',by rw[h x,if_neg hx],fun i=> ?_⟩
 rw[List.getElem?_set]
 by_cases e:x=i
 ·subst e
  rw[if_pos rfl,if_pos hl',if_pos (by simp),List.getElem?_eq_getElem hl];rfl
 ·rw[if_neg e,h i]
  by_cases hi:i∈pre
  ·rw[if_pos hi,if_pos (by simp[hi])]
  ·rw[if_neg hi,if_neg (by simp[hi];exact fun e2=> e e2.symm)]
theorem shB_up {fs fs':List FileM} {pre:List Nat} {g:Int} {fn:Nat} (h:∀ i,fs'[i]?=if i∈pre then (fs[i]?).map upF else fs[i]?) (hp:∀ i∈pre,(nxR fs i).2=0) (i:Nat):shB fs' g i=shB fs g i:=by
 unfold shB
 rw[h i]
 by_cases hi:i∈pre
 ·rw[if_pos hi]
  have he:=hp i hi
  cases hf:fs[i]? with
  | none=> rfl
  | some f=>
   unfold nxR at he
   rw[hf] at he
   simp only[Option.map_some,Option.getD_some] at he ⊢
   unfold upF
   simp only
   rw[turn_g he]
 ·rw[if_neg hi]
theorem up_len {fs fs':List FileM} {pre:List Nat} (h:∀ i,fs'[i]?=if i∈pre then (fs[i]?).map upF else fs[i]?):fs'.length=fs.length:=by
 have key:∀ i,i<fs'.length↔i<fs.length:=fun i=> by
  have e1:fs'[i]?=none↔fs[i]?=none:=by
   rw[h i]
   by_cases hi:i∈pre
   ·rw[if_pos hi,Option.map_eq_none_iff]
   ·rw[if_neg hi]
  rw[List.getElem?_eq_none_iff,List.getElem?_eq_none_iff] at e1
  omega
 have h1:=key fs'.length
 have h2:=key fs.length
 omega
theorem RwC.tail {α:Type} {C:World→List Value→α→Prop} {sz:Nat} {F:Nat→Prop} {w:World} {b o n c:Nat} {a:α} {l:List α} (h:RwC C sz F w (.slice (some ⟨b,o,none⟩) n c) (a::l)):RwC C sz F w (.slice (some ⟨b,o+sz,none⟩) (n - 1) (c - 1)) l:=by
 obtain⟨ao,c',h1,h2,h3,h4⟩:=h
 simp only[Value.slice.injEq] at h1
 obtain⟨rfl,rfl,rfl⟩:=h1
 obtain⟨b',o',e,hF,hb,ha⟩:=h4 (by simp)
 simp only[Option.some.injEq,Addr.mk.injEq,and_true] at e
 obtain⟨rfl,rfl⟩:=e
 rw[List.length_cons] at h2 ⊢
 refine⟨_,c - 1,by rw[Nat.add_sub_cancel],by omega,by omega,fun h0=> ⟨b,o+sz,rfl,hF,hb,fun j hj=> ?_⟩⟩
 obtain⟨cs,k1,k2,k3⟩:=ha (j+1) (by rw[List.length_cons];omega)
 exact⟨cs,k1,by rw[show o+sz+j* sz=o+(j+1)* sz by rw[Nat.succ_mul];omega];exact k2,k3⟩
theorem RwC.zero {α:Type} {C:World→List Value→α→Prop} {sz:Nat} {F:Nat→Prop} {w:World} {ao:Option Addr} {c:Nat} (hc:c≤maxLen):RwC C sz F w (.slice ao 0 c) ([]:List α):=⟨ao,c,rfl,Nat.zero_le _,hc,fun h=> absurd h (by simp)⟩
theorem Eg {W W':World} {D:Nat} {ds:Option (List Deferred)} {S:Nat→Prop} (h:W.heap[D]?=some (.deferred ds)) (hc:Ch S W W') (hS:∀ k,S k→∀ o,W.heap[k]?=some o→o.isCells=true):W'.heap[D]?=some (.deferred ds):=by
 rw[hc.block D (Array.getElem?_eq_some_iff.1 h).1 (fun e=> by have:=hS D e _ h;cases this)]
 exact h
theorem KR {l:List Int} {x:Int} (h:l.any (x==·)=true):BT l x<l.length:=by
 rw[List.any_eq_true] at h
 obtain⟨y,hy,he⟩:=h
 obtain rfl:x=y:=by simpa using he
 have h1:=Ge l x
 rcases Nat.lt_or_ge (BT l x) l.length with h2|h2
 ·exact h2
 ·have h3:l.countP (·<x)=l.length:=by unfold BT at h1 h2;omega
  have:=List.countP_eq_length.1 h3 x hy
  simp at this
theorem GE {l:List Oper} (h:l.all (fun o=> match o.op with|.defer _=> false|_=> true)=true):∀ o∈l,∀ c,o.op≠.defer c:=fun o ho c hc=> by
 have:=List.all_eq_true.1 h o ho
 rw[hc] at this
 simp at this
theorem pq_fz {w0 w x5:World} {m0 xs:List Nat} {bp:Nat} {bt:TypeId} {cells:List Value} {vf vc vw:Value} {fs:List FileM} {cv:List CirV} {ws:List WrM} {ex:List (List Value × Tm)} (h:OwnX w0 m0 xs x5 bp bt cells vf vc vw fs cv ws ex) {p:PmD} {vr vq vg:Value} (hp:PmF (x5.heap.size≤·) w p vr vq vg):PmF (Fz xs (msL bp vf vc vw cv) w) w p vr vq vg:=by
 have hp2:PmF (fun k=> x5.heap.size≤k∧k<w.heap.size) w p vr vq vg:=⟨hp.1.old',hp.2.1.old',hp.2.2.old'⟩
 exact hp2.keep' (Ch.refl (fun _=> False) w) (fun _ _ e=> e) (fun k hk=> ⟨⟨fun e=> by have:=(h.ax k e).2;omega,fun e=> by have:=h.lt k e;omega⟩,hk.2⟩)
end Go.Proofs.YtgdlfiphihaooaaGreat

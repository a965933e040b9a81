import Derived.Test.YtgdlfiphihaooaaGreatYs17
set_option linter.unusedSimpArgs false
set_option linter.unusedVariables false
set_option maxRecDepth 100000
set_option maxHeartbeats 8000000
open _root_.List renaming getElem?_toArray→Aa,getElem?_cons_zero→Ab,getElem?_cons_succ→Ac,setIfInBounds_toArray→Ad,set_cons_zero→Ae,set_cons_succ→Af
open _root_.Go.Lib renaming hid→Ag
open _root_.Nat renaming le_refl→Ah,le_trans→Aj,lt_of_lt_of_le→Ak
open _root_.And renaming intro→Ai
open _root_.Go.Act renaming put→Al
namespace Go.Proofs.YtgdlfiphihaooaaGreat
open Go Go.RowKit
theorem Tryz.buildwk0:∀ w,(Instr.build 31 #[(0,.int .i64 1),(1,.int .i64 1),(2,.string ⟨#[49,47,102]⟩),(6,.agg (tmC 1 0 0 ⟨#[120]⟩ (.slice none 0 0)).toArray)]).run Tryz.prog w=.ok (.agg (opC ⟨1,1,⟨#[49,47,102]⟩,0,0,false,tm0⟩ (tmC 1 0 0 ⟨#[120]⟩ (.slice none 0 0))).toArray) w:=fun w=> by kernel_rfl
theorem Fl {ops:Array Oper} {rest:List Oper} {op:Oper} {a:Act} {w:World} {Q:Exit→Act→World→Prop} (hgd:op.guard=none) (x0:Operand) (ho:op.op=.build 31 #[(0,.const (.int .i64 1)),(1,.const (.int .i64 1)),(2,.const (.string ⟨#[49,47,102]⟩)),(6,x0)]) (h0:a.eval x0=.agg (tmC 1 0 0 ⟨#[120]⟩ (.slice none 0 0)).toArray)
  (h:wpList Tryz.prog ops Q rest (a.put op.dst (.agg (opC ⟨1,1,⟨#[49,47,102]⟩,0,0,false,tm0⟩ (tmC 1 0 0 ⟨#[120]⟩ (.slice none 0 0))).toArray)) w):wpList Tryz.prog ops Q (op::rest) a w:=by
 refine wpList_plain hgd fun K hK=> ?_
 have hrun:(execOp a.eval op).run Tryz.prog w=.ok (.value (.agg (opC ⟨1,1,⟨#[49,47,102]⟩,0,0,false,tm0⟩ (tmC 1 0 0 ⟨#[120]⟩ (.slice none 0 0))).toArray)) w:=by
  unfold execOp
  simp only[ho]
  rw[show((#[((0:Nat),.const (.int .i64 1)),(1,.const (.int .i64 1)),(2,.const (.string ⟨#[49,47,102]⟩)),(6,x0)]:Array (Nat × Operand)).map fun (i,x)=> (i,a.eval x))=#[(0,.int .i64 1),(1,.int .i64 1),(2,.string ⟨#[49,47,102]⟩),(6,.agg (tmC 1 0 0 ⟨#[120]⟩ (.slice none 0 0)).toArray)] by simp only[List.map_toArray,List.map_cons,List.map_nil,h0];rfl]
  simp[Tryz.buildwk0,Result.andThen]
 unfold Oper.wp
 rw[hrun]
 exact hK _ _ h
theorem Tryz.buildwk1:∀ w,(Instr.build 31 #[(0,.int .i64 3),(1,.int .i64 2),(2,.string ⟨#[49,47,102]⟩)]).run Tryz.prog w=.ok (.agg (opC ⟨3,2,⟨#[49,47,102]⟩,0,0,false,tm0⟩ (tmC 0 0 0 ⟨#[]⟩ (.slice none 0 0))).toArray) w:=fun w=> by kernel_rfl
theorem Fm {ops:Array Oper} {rest:List Oper} {op:Oper} {a:Act} {w:World} {Q:Exit→Act→World→Prop} (hgd:op.guard=none) (ho:op.op=.build 31 #[(0,.const (.int .i64 3)),(1,.const (.int .i64 2)),(2,.const (.string ⟨#[49,47,102]⟩))])
  (h:wpList Tryz.prog ops Q rest (a.put op.dst (.agg (opC ⟨3,2,⟨#[49,47,102]⟩,0,0,false,tm0⟩ (tmC 0 0 0 ⟨#[]⟩ (.slice none 0 0))).toArray)) w):wpList Tryz.prog ops Q (op::rest) a w:=by
 refine wpList_plain hgd fun K hK=> ?_
 have hrun:(execOp a.eval op).run Tryz.prog w=.ok (.value (.agg (opC ⟨3,2,⟨#[49,47,102]⟩,0,0,false,tm0⟩ (tmC 0 0 0 ⟨#[]⟩ (.slice none 0 0))).toArray)) w:=by
  unfold execOp
  simp only[ho]
  rw[show((#[((0:Nat),.const (.int .i64 3)),(1,.const (.int .i64 2)),(2,.const (.string ⟨#[49,47,102]⟩))]:Array (Nat × Operand)).map fun (i,x)=> (i,a.eval x))=#[(0,.int .i64 3),(1,.int .i64 2),(2,.string ⟨#[49,47,102]⟩)] by simp only[List.map_toArray,List.map_cons,List.map_nil];rfl]
  simp[Tryz.buildwk1,Result.andThen]
 unfold Oper.wp
 rw[hrun]
 exact hK _ _ h
theorem Tryz.buildwk2:∀ w,(Instr.build 31 #[(0,.int .i64 4),(1,.int .i64 1),(2,.string ⟨#[49,47,102]⟩),(3,.int .i64 2)]).run Tryz.prog w=.ok (.agg (opC ⟨4,1,⟨#[49,47,102]⟩,2,0,false,tm0⟩ (tmC 0 0 0 ⟨#[]⟩ (.slice none 0 0))).toArray) w:=fun w=> by kernel_rfl
theorem Fn {ops:Array Oper} {rest:List Oper} {op:Oper} {a:Act} {w:World} {Q:Exit→Act→World→Prop} (hgd:op.guard=none) (ho:op.op=.build 31 #[(0,.const (.int .i64 4)),(1,.const (.int .i64 1)),(2,.const (.string ⟨#[49,47,102]⟩)),(3,.const (.int .i64 2))])
  (h:wpList Tryz.prog ops Q rest (a.put op.dst (.agg (opC ⟨4,1,⟨#[49,47,102]⟩,2,0,false,tm0⟩ (tmC 0 0 0 ⟨#[]⟩ (.slice none 0 0))).toArray)) w):wpList Tryz.prog ops Q (op::rest) a w:=by
 refine wpList_plain hgd fun K hK=> ?_
 have hrun:(execOp a.eval op).run Tryz.prog w=.ok (.value (.agg (opC ⟨4,1,⟨#[49,47,102]⟩,2,0,false,tm0⟩ (tmC 0 0 0 ⟨#[]⟩ (.slice none 0 0))).toArray)) w:=by
  unfold execOp
  simp only[ho]
  rw[show((#[((0:Nat),.const (.int .i64 4)),(1,.const (.int .i64 1)),(2,.const (.string ⟨#[49,47,102]⟩)),(3,.const (.int .i64 2))]:Array (Nat × Operand)).map fun (i,x)=> (i,a.eval x))=#[(0,.int .i64 4),(1,.int .i64 1),(2,.string ⟨#[49,47,102]⟩),(3,.int .i64 2)] by simp only[List.map_toArray,List.map_cons,List.map_nil];rfl]
  simp[Tryz.buildwk2,Result.andThen]
 unfold Oper.wp
 rw[hrun]
 exact hK _ _ h
theorem Tryz.sliceWk:∀ w,(Instr.buildSlice 53 4 #[(0,.agg (opC ⟨1,1,⟨#[49,47,102]⟩,0,0,false,tm0⟩ (tmC 1 0 0 ⟨#[120]⟩ (.slice none 0 0))).toArray),(1,.agg (opC ⟨3,2,⟨#[49,47,102]⟩,0,0,false,tm0⟩ (tmC 0 0 0 ⟨#[]⟩ (.slice none 0 0))).toArray),(2,.agg (opC ⟨4,1,⟨#[49,47,102]⟩,2,0,false,tm0⟩ (tmC 0 0 0 ⟨#[]⟩ (.slice none 0 0))).toArray),(3,.agg (opC ⟨3,2,⟨#[49,47,102]⟩,0,0,false,tm0⟩ (tmC 0 0 0 ⟨#[]⟩ (.slice none 0 0))).toArray)]).run Tryz.prog w=.ok (.slice (some ⟨w.heap.size,0,none⟩) 4 4) (w.alloc (.cells (opC ⟨1,1,⟨#[49,47,102]⟩,0,0,false,tm0⟩ (tmC 1 0 0 ⟨#[120]⟩ (.slice none 0 0)) ++ opC ⟨3,2,⟨#[49,47,102]⟩,0,0,false,tm0⟩ (tmC 0 0 0 ⟨#[]⟩ (.slice none 0 0)) ++ opC ⟨4,1,⟨#[49,47,102]⟩,2,0,false,tm0⟩ (tmC 0 0 0 ⟨#[]⟩ (.slice none 0 0)) ++ opC ⟨3,2,⟨#[49,47,102]⟩,0,0,false,tm0⟩ (tmC 0 0 0 ⟨#[]⟩ (.slice none 0 0))).toArray 31)):=fun w=> by kernel_rfl
theorem FZ (w:World) {ops:Array Oper} {rest:List Oper} {o:Oper} {a:Act} {Q:Exit→Act→World→Prop} (hgd:o.guard=none) (x0 x1 x2 x3:Operand) (ho:o.op=.buildSlice 53 4 #[(0,x0),(1,x1),(2,x2),(3,x3)])
  (h0:a.eval x0=.agg (opC ⟨1,1,⟨#[49,47,102]⟩,0,0,false,tm0⟩ (tmC 1 0 0 ⟨#[120]⟩ (.slice none 0 0))).toArray) (h1:a.eval x1=.agg (opC ⟨3,2,⟨#[49,47,102]⟩,0,0,false,tm0⟩ (tmC 0 0 0 ⟨#[]⟩ (.slice none 0 0))).toArray) (h2:a.eval x2=.agg (opC ⟨4,1,⟨#[49,47,102]⟩,2,0,false,tm0⟩ (tmC 0 0 0 ⟨#[]⟩ (.slice none 0 0))).toArray) (h3:a.eval x3=.agg (opC ⟨3,2,⟨#[49,47,102]⟩,0,0,false,tm0⟩ (tmC 0 0 0 ⟨#[]⟩ (.slice none 0 0))).toArray)
  (h:∀ w',Blk w' w.heap.size 31 (opC ⟨1,1,⟨#[49,47,102]⟩,0,0,false,tm0⟩ (tmC 1 0 0 ⟨#[120]⟩ (.slice none 0 0)) ++ opC ⟨3,2,⟨#[49,47,102]⟩,0,0,false,tm0⟩ (tmC 0 0 0 ⟨#[]⟩ (.slice none 0 0)) ++ opC ⟨4,1,⟨#[49,47,102]⟩,2,0,false,tm0⟩ (tmC 0 0 0 ⟨#[]⟩ (.slice none 0 0)) ++ opC ⟨3,2,⟨#[49,47,102]⟩,0,0,false,tm0⟩ (tmC 0 0 0 ⟨#[]⟩ (.slice none 0 0)))→Below w.heap.size w w'→w'.heap.size=w.heap.size+1→wpList Tryz.prog ops Q rest (a.put o.dst (.slice (some ⟨w.heap.size,0,none⟩) 4 4)) w'):wpList Tryz.prog ops Q (o::rest) a w:=by
 refine wpList_plain hgd fun K' hK'=> ?_
 have hrun:(execOp a.eval o).run Tryz.prog w=.ok (.value (.slice (some ⟨w.heap.size,0,none⟩) 4 4)) (w.alloc (.cells (opC ⟨1,1,⟨#[49,47,102]⟩,0,0,false,tm0⟩ (tmC 1 0 0 ⟨#[120]⟩ (.slice none 0 0)) ++ opC ⟨3,2,⟨#[49,47,102]⟩,0,0,false,tm0⟩ (tmC 0 0 0 ⟨#[]⟩ (.slice none 0 0)) ++ opC ⟨4,1,⟨#[49,47,102]⟩,2,0,false,tm0⟩ (tmC 0 0 0 ⟨#[]⟩ (.slice none 0 0)) ++ opC ⟨3,2,⟨#[49,47,102]⟩,0,0,false,tm0⟩ (tmC 0 0 0 ⟨#[]⟩ (.slice none 0 0))).toArray 31)):=by
  unfold execOp
  simp only[ho]
  rw[show((#[((0:Nat),x0),(1,x1),(2,x2),(3,x3)]:Array (Nat × Operand)).map fun (i,x)=> (i,a.eval x))=#[(0,.agg (opC ⟨1,1,⟨#[49,47,102]⟩,0,0,false,tm0⟩ (tmC 1 0 0 ⟨#[120]⟩ (.slice none 0 0))).toArray),(1,.agg (opC ⟨3,2,⟨#[49,47,102]⟩,0,0,false,tm0⟩ (tmC 0 0 0 ⟨#[]⟩ (.slice none 0 0))).toArray),(2,.agg (opC ⟨4,1,⟨#[49,47,102]⟩,2,0,false,tm0⟩ (tmC 0 0 0 ⟨#[]⟩ (.slice none 0 0))).toArray),(3,.agg (opC ⟨3,2,⟨#[49,47,102]⟩,0,0,false,tm0⟩ (tmC 0 0 0 ⟨#[]⟩ (.slice none 0 0))).toArray)] by simp[h0,h1,h2,h3]]
  simp[Tryz.sliceWk,Result.andThen]
 unfold Oper.wp
 rw[hrun]
 exact hK' _ _ (h _ (Blk.new w _ 31) ((Below.refl _ _).alloc (Ah _) _) (by simp))
theorem wk_row (w:World) (g:Nat) (h:Blk w g 31 (opC ⟨1,1,⟨#[49,47,102]⟩,0,0,false,tm0⟩ (tmC 1 0 0 ⟨#[120]⟩ (.slice none 0 0)) ++ opC ⟨3,2,⟨#[49,47,102]⟩,0,0,false,tm0⟩ (tmC 0 0 0 ⟨#[]⟩ (.slice none 0 0)) ++ opC ⟨4,1,⟨#[49,47,102]⟩,2,0,false,tm0⟩ (tmC 0 0 0 ⟨#[]⟩ (.slice none 0 0)) ++ opC ⟨3,2,⟨#[49,47,102]⟩,0,0,false,tm0⟩ (tmC 0 0 0 ⟨#[]⟩ (.slice none 0 0)))):RwC (OpC (fun _=> False)) 11 (fun _=> True) w (.slice (some ⟨g,0,none⟩) 4 4) opsW:=by
 have hr:∀ (P X R:List Value),opC ⟨1,1,⟨#[49,47,102]⟩,0,0,false,tm0⟩ (tmC 1 0 0 ⟨#[120]⟩ (.slice none 0 0)) ++ opC ⟨3,2,⟨#[49,47,102]⟩,0,0,false,tm0⟩ (tmC 0 0 0 ⟨#[]⟩ (.slice none 0 0)) ++ opC ⟨4,1,⟨#[49,47,102]⟩,2,0,false,tm0⟩ (tmC 0 0 0 ⟨#[]⟩ (.slice none 0 0)) ++ opC ⟨3,2,⟨#[49,47,102]⟩,0,0,false,tm0⟩ (tmC 0 0 0 ⟨#[]⟩ (.slice none 0 0))=P ++ (X ++ R)→∀ n,P.length=n→w.rangeAt g (0+n) X:=fun P X R e n hn i v hv=> by
  rw[Nat.zero_add,h.cell,e,List.getElem?_append_right (by omega),show n+i - P.length=i by omega,List.getElem?_append_left (by have:=(List.getElem?_eq_some_iff.1 hv).1;exact this)]
  exact hv
 have hT:∀ F W,TmC F W (tmC 0 0 0 ⟨#[]⟩ (.slice none 0 0)) tm0:=fun F W=> Bm F W
 refine⟨_,4,rfl,Ah _,by unfold maxLen;omega,fun _=> ⟨g,0,rfl,trivial,h.lt,fun j hj=> ?_⟩⟩
 match j,hj with
 | 0,_=> exact⟨_,rfl,hr [] (opC ⟨1,1,⟨#[49,47,102]⟩,0,0,false,tm0⟩ (tmC 1 0 0 ⟨#[120]⟩ (.slice none 0 0))) (opC ⟨3,2,⟨#[49,47,102]⟩,0,0,false,tm0⟩ (tmC 0 0 0 ⟨#[]⟩ (.slice none 0 0)) ++ opC ⟨4,1,⟨#[49,47,102]⟩,2,0,false,tm0⟩ (tmC 0 0 0 ⟨#[]⟩ (.slice none 0 0)) ++ opC ⟨3,2,⟨#[49,47,102]⟩,0,0,false,tm0⟩ (tmC 0 0 0 ⟨#[]⟩ (.slice none 0 0))) rfl 0 rfl,_,rfl,txT_C _ _ _⟩
 | 1,_=> exact⟨_,rfl,hr (opC ⟨1,1,⟨#[49,47,102]⟩,0,0,false,tm0⟩ (tmC 1 0 0 ⟨#[120]⟩ (.slice none 0 0))) (opC ⟨3,2,⟨#[49,47,102]⟩,0,0,false,tm0⟩ (tmC 0 0 0 ⟨#[]⟩ (.slice none 0 0))) (opC ⟨4,1,⟨#[49,47,102]⟩,2,0,false,tm0⟩ (tmC 0 0 0 ⟨#[]⟩ (.slice none 0 0)) ++ opC ⟨3,2,⟨#[49,47,102]⟩,0,0,false,tm0⟩ (tmC 0 0 0 ⟨#[]⟩ (.slice none 0 0))) rfl 11 rfl,_,rfl,hT _ _⟩
 | 2,_=> exact⟨_,rfl,hr (opC ⟨1,1,⟨#[49,47,102]⟩,0,0,false,tm0⟩ (tmC 1 0 0 ⟨#[120]⟩ (.slice none 0 0)) ++ opC ⟨3,2,⟨#[49,47,102]⟩,0,0,false,tm0⟩ (tmC 0 0 0 ⟨#[]⟩ (.slice none 0 0))) (opC ⟨4,1,⟨#[49,47,102]⟩,2,0,false,tm0⟩ (tmC 0 0 0 ⟨#[]⟩ (.slice none 0 0))) (opC ⟨3,2,⟨#[49,47,102]⟩,0,0,false,tm0⟩ (tmC 0 0 0 ⟨#[]⟩ (.slice none 0 0))) rfl 22 rfl,_,rfl,hT _ _⟩
 | 3,_=> exact⟨_,rfl,hr (opC ⟨1,1,⟨#[49,47,102]⟩,0,0,false,tm0⟩ (tmC 1 0 0 ⟨#[120]⟩ (.slice none 0 0)) ++ opC ⟨3,2,⟨#[49,47,102]⟩,0,0,false,tm0⟩ (tmC 0 0 0 ⟨#[]⟩ (.slice none 0 0)) ++ opC ⟨4,1,⟨#[49,47,102]⟩,2,0,false,tm0⟩ (tmC 0 0 0 ⟨#[]⟩ (.slice none 0 0))) (opC ⟨3,2,⟨#[49,47,102]⟩,0,0,false,tm0⟩ (tmC 0 0 0 ⟨#[]⟩ (.slice none 0 0))) [] rfl 33 rfl,_,rfl,hT _ _⟩
theorem id0_C {F:Nat→Prop} {w:World}:IdC F w [(.slice none 0 0),(.slice none 0 0),(.slice none 0 0)] ES:=⟨_,_,_,rfl,RwC.nil _ _ _ _,RwC.nil _ _ _ _,RwC.nil _ _ _ _⟩
theorem IB (Cv:∀ {s:IdM} {o:OpM},ChkP s→opB o=true→ChkP (BJ s o).1) (w:World):Calls Tryz.prog 6 #[] w (fun e w'=> e=.returned (.bool true)∧Below w.heap.size w w'):=by
 go_enter Tryz.func6,Tryz.ntmps6
 go_wp2_with fail
 refine(GF ⟨#[120]⟩ w).mono ?_
 rintro e' w1 ⟨rfl,hb⟩
 have H1:=Ag hb
 clear hb
 go_wp2_with (first
  | (with_reducible refine Fl rfl (.tmp 5) rfl rfl ?_)
  | (with_reducible refine Fm rfl rfl ?_)
  | (with_reducible refine Fn rfl rfl ?_)
  | ((with_reducible refine FZ w1 rfl (.tmp 6) (.tmp 7) (.tmp 8) (.tmp 9) rfl rfl rfl rfl rfl ?_);intro w2 hb hbel hsz;have H2:=hJ2 (An H1.out hbel (Ah _)) hb;clear hb hbel hsz)
  | (with_reducible refine Cb rfl rfl ?_))
 have HRUN:=Ag (JG Cv ES [(.slice none 0 0),(.slice none 0 0),(.slice none 0 0)] opsW (.slice (some ⟨w1.heap.size,0,none⟩) 4 4) (fun _=> False) [] w2 id0_C (fun _ h=> absurd h id) (fun _ h=> absurd h (by simp)) (by simp[ES]) (fun _=> True) (wk_row w2 _ H2.out.2) (by decide))
 refine HRUN.out.mono ?_
 rintro e' w3 ⟨cs,vr,rfl,hs,hr,hb⟩
 rw[show(Hq ES opsW).2.2=0 from KZ]
 have HS:=Ag (show IdC (·∉[]) w3 cs Do.1 from hs)
 have HR:=Ag (show RwC (RsC (·∉[])) 8 (·∉[]) w3 vr Do.2.1 from hr)
 have HB3:=Ag (An H2.out.1 hb (Ah _))
 have HCL:=Ag hs.len
 have HCO:=Ag hs.one
 have HZL:=Ag (show cs.length=([(.slice none 0 0),(.slice none 0 0),(.slice none 0 0)]:List Value).length from hs.len)
 clear hs hr hb HRUN
 obtain⟨va,vcap,rfl,-,-⟩:=HR.out.shape
 obtain⟨rb,ro,rcs1,rfl,-,hrlt,hl1,hra1,hrc1⟩:=HR.out.get (j:=1) (by rw[Cu];omega)
 obtain⟨rb',ro',rcs3,e3,-,-,hl3,hra3,hrc3⟩:=HR.out.get (j:=3) (by rw[Cu];omega)
 obtain⟨rfl,rfl⟩:rb=rb'∧ro=ro':=by simpa using e3
 obtain⟨tc1,rfl,-⟩:=hrc1
 obtain⟨tc3,rfl,ht3⟩:=hrc3
 have he1:(Do.2.1[1]'(by rw[Cu];omega)).e=280:=by
  have h:(Do.2.1.map (·.e))[1]?=some 280:=by rw[runW_e];rfl
  rw[List.getElem?_map,List.getElem?_eq_getElem (by rw[Cu];omega)] at h
  simpa using h
 have hv3:(Do.2.1[3]'(by rw[Cu];omega)).v=1:=by
  have h:(Do.2.1.map (·.v))[3]?=some 1:=by rw[runW_v];rfl
  rw[List.getElem?_map,List.getElem?_eq_getElem (by rw[Cu];omega)] at h
  simpa using h
 have hb3:C0 (Do.2.1[3]'(by rw[Cu];omega)).b (txT ⟨#[120]⟩)=true:=by
  have h:(Do.2.1.map (fun r=> C0 r.b (txT ⟨#[120]⟩)))[3]?=some true:=by rw[runW_b];rfl
  rw[List.getElem?_map,List.getElem?_eq_getElem (by rw[Cu];omega)] at h
  simpa using h
 rw[Cu]
 generalize Do.2.1[1]=r1 at he1 hra1
 generalize Do.2.1[3]=r3 at hv3 hb3 hra3 ht3
 rw[he1] at hra1
 rw[hv3] at hra3
 have HT3:=Ag (Ai ht3 hb3)
 have HTL:=Ag ht3.len
 have HC:=Ag (show w3.cell? ⟨rb,ro+8,none⟩=some (.int .i64 280)∧w3.cell? ⟨rb,ro+25,none⟩=some (.int .i64 1)∧w3.rangeAt rb (ro+27) tc3 from⟨hra1 0 _ rfl,hra3 1 _ rfl,fun i z hz=> (congrArg (fun q=> w3.cell? ⟨rb,q,none⟩) (by omega)).trans (hra3 (3+i) z (by rw[Nat.add_comm];exact hz))⟩)
 clear he1 hv3 hb3 hra1 hra3 ht3 hl1 hl3 e3 hrlt
 go_upto_region 3 with(first
  | ((with_reducible refine Av w3 rfl 26 rfl ([(.slice none 0 0),(.slice none 0 0),(.slice none 0 0)]) Tryz.zeroId3b ?_);intro w4 hb hbel hsz;have H4:=Ag (Ai hb hbel);clear hb hbel hsz)
  | ((with_reducible refine Ao w4 rfl 26 (.tmp 2) (.tmp 15) rfl (w3.heap.size) 26 ([(.slice none 0 0),(.slice none 0 0),(.slice none 0 0)]) cs H4.out.1 rfl rfl HZL.out (At Tryz.infoId HCL.out) HCO.out ?_);intro w5 hb hc hs;have H5:=Ag (show Below w.heap.size w w5∧Blk w5 w3.heap.size 26 cs∧Below w3.heap.size w3 w5∧w5.cell? ⟨rb,ro+8,none⟩=some (.int .i64 280)∧w5.cell? ⟨rb,ro+25,none⟩=some (.int .i64 1)∧w5.rangeAt rb (ro+27) tc3 from⟨An HB3.out (By H4.out.2 hc) (Ah _),hb,By H4.out.2 hc,((By H4.out.2 hc).cell (Am HC.out.1)).trans HC.out.1,((By H4.out.2 hc).cell (Am HC.out.2.1)).trans HC.out.2.1,AD HC.out.2.2 (By H4.out.2 hc)⟩);clear hb hc hs))
 try simp only[Al,Ad,Ae,Af]
 go_wp2_with fail
 refine Az (fun W=> W.cell? ⟨rb,ro+8,none⟩=some (.int .i64 280)∧W.cell? ⟨rb,ro+25,none⟩=some (.int .i64 1)∧W.rangeAt rb (ro+27) tc3) [0,1,2,3,4,5,6,7,8,9,10,11,12,13,14,15,16,17,18,19,20,21,22,23,24,25] 16 (by kernel_rfl) rfl (by kernel_rfl) (by kernel_rfl) ⟨H5.out.2.2.2.1,H5.out.2.2.2.2.1,H5.out.2.2.2.2.2⟩ ?_
 iterate 26(refine' AK.run ?_ ?_ ?_ ?_;rotate_left 2;(simp only[Aa,Ab,Ac];rfl);rfl;(rintro w' ⟨k0,k1,k2⟩;first|exact AB rfl rfl k2 Tryz.underlying29 rfl (At Tryz.infoTm HTL.out)|(go_simp;with_reducible rfl));simp only[Al,Ad,Ae,Af])
 have sm:=(Sm.refl w5).drew
 have HV2:=hJ6 (An H5.out.1 (sm.below _) (Ah _)) (H5.out.2.1.below (sm.below _) H5.out.2.1.lt) (An H5.out.2.2.1 (sm.below _) (Ah _)) (((sm.below _).cell (p:=⟨rb,ro+8,none⟩) (Am H5.out.2.2.2.1)).trans H5.out.2.2.2.1) (((sm.below _).cell (p:=⟨rb,ro+25,none⟩) (Am H5.out.2.2.2.2.1)).trans H5.out.2.2.2.2.1) (AD H5.out.2.2.2.2.2 (sm.below _))
 clear sm
 generalize w5.drew=v1 at HV2 ⊢
 refine' Ar 26 (by kernel_rfl) ?_ ?_;rotate_left;(simp only[Aa,Ab,Ac];rfl)
 try simp only[Al,Ad,Ae,Af]
 go_wp2_with fail
 refine(GF ⟨#[120]⟩ v1).mono ?_
 rintro e' u3 ⟨rfl,hb⟩
 have K4:=hJ6 (An HV2.out.1 hb (Ah _)) (HV2.out.2.1.below hb HV2.out.2.1.lt) (An HV2.out.2.2.1 hb (Ah _)) ((hb.cell (p:=⟨rb,ro+8,none⟩) (Am HV2.out.2.2.2.1)).trans HV2.out.2.2.2.1) ((hb.cell (p:=⟨rb,ro+25,none⟩) (Am HV2.out.2.2.2.2.1)).trans HV2.out.2.2.2.2.1) (AD HV2.out.2.2.2.2.2 hb)
 clear hb
 go_wp2_with fail
 refine QK.normal ⟨⟨K4.out.2.2.2.1,K4.out.2.2.2.2.1,K4.out.2.2.2.2.2⟩,?_⟩
 refine' Ar 27 (by kernel_rfl) ?_ ?_;rotate_left;(simp only[Aa,Ab,Ac];rfl)
 try simp only[Al,Ad,Ae,Af]
 go_wp2_with fail
 refine(Jp r3.b (txT ⟨#[120]⟩) tc3 (tmC 1 0 0 ⟨#[120]⟩ (.slice none 0 0)) _ (fun _=> True) u3 (HT3.out.1.below K4.out.2.2.1) (txT_C _ _ _)).mono ?_
 rintro e' u5 ⟨rfl,hb⟩
 rw[HT3.out.2]
 have K6:=hJ6 (An K4.out.1 hb (Ah _)) (K4.out.2.1.below hb K4.out.2.1.lt) (An K4.out.2.2.1 hb (Ah _)) ((hb.cell (p:=⟨rb,ro+8,none⟩) (Am K4.out.2.2.2.1)).trans K4.out.2.2.2.1) ((hb.cell (p:=⟨rb,ro+25,none⟩) (Am K4.out.2.2.2.2.1)).trans K4.out.2.2.2.2.1) (AD K4.out.2.2.2.2.2 hb)
 clear hb
 go_wp2_with fail
 refine QK.normal ⟨⟨K6.out.2.2.2.1,K6.out.2.2.2.2.1,K6.out.2.2.2.2.2⟩,?_⟩
 refine' Ar 28 (by kernel_rfl) ?_ ?_;rotate_left;(simp only[Aa,Ab,Ac];rfl)
 try simp only[Al]
 go_wp2_with fail
 refine QK.normal ⟨⟨K6.out.2.2.2.1,K6.out.2.2.2.2.1,K6.out.2.2.2.2.2⟩,?_⟩
 refine' Ar 29 (by kernel_rfl) ?_ ?_;rotate_left;(simp only[Aa,Ab,Ac];rfl)
 try simp only[Al]
 go_wp2_with fail
 refine QK.normal ⟨⟨K6.out.2.2.2.1,K6.out.2.2.2.2.1,K6.out.2.2.2.2.2⟩,?_⟩
 refine' Ar 30 (by kernel_rfl) ?_ ?_;rotate_left;(simp only[Aa,Ab,Ac];rfl)
 try simp only[Al,Ad,Ae,Af]
 go_wp2_with (first
  | ((with_reducible refine AO ?_ 26 (.tmp 2) rfl (w3.heap.size) 0 rfl cs _ (As K6.out.2.1) Tryz.underlying26 rfl (At Tryz.infoId HCL.out) ?_);focus rfl))
 refine QK.normal ⟨⟨K6.out.2.2.2.1,K6.out.2.2.2.2.1,K6.out.2.2.2.2.2⟩,?_⟩
 refine' Ar 31 (by kernel_rfl) ?_ ?_;rotate_left;(simp only[Aa,Ab,Ac];rfl)
 try simp only[Al,Ad,Ae,Af]
 go_wp2_with fail
 refine(Iw Do.1 nmW cs (·∉[]) u5 (HS.out.below K6.out.2.2.1) (by rw[Jo.1];omega) (by rw[Jo.2];omega)).mono ?_
 rintro e' u7 ⟨v,rfl,hv,hb⟩
 obtain⟨va2,vc2,rfl,-⟩:=hv.1.nums
 rw[runW_r]
 have K8:=hJ6 (An K6.out.1 hb (Ah _)) (K6.out.2.1.below hb K6.out.2.1.lt) (An K6.out.2.2.1 hb (Ah _)) ((hb.cell (p:=⟨rb,ro+8,none⟩) (Am K6.out.2.2.2.1)).trans K6.out.2.2.2.1) ((hb.cell (p:=⟨rb,ro+25,none⟩) (Am K6.out.2.2.2.2.1)).trans K6.out.2.2.2.2.1) (AD K6.out.2.2.2.2.2 hb)
 clear hv hb
 go_wp2_with fail
 refine QK.normal ⟨⟨K8.out.2.2.2.1,K8.out.2.2.2.2.1,K8.out.2.2.2.2.2⟩,?_⟩
 refine' Ar 32 (by kernel_rfl) ?_ ?_;rotate_left;(simp only[Aa,Ab,Ac];rfl)
 try simp only[Al]
 go_wp2_with fail
 refine QK.normal ⟨⟨K8.out.2.2.2.1,K8.out.2.2.2.2.1,K8.out.2.2.2.2.2⟩,?_⟩
 refine' Ar 33 (by kernel_rfl) ?_ ?_;rotate_left;(simp only[Aa,Ab,Ac];rfl)
 try simp only[Al]
 go_wp2_with fail
 refine QK.normal ⟨⟨K8.out.2.2.2.1,K8.out.2.2.2.2.1,K8.out.2.2.2.2.2⟩,?_⟩
 refine' Ar 34 (by kernel_rfl) ?_ ?_;rotate_left;(simp only[Aa,Ab,Ac];rfl)
 try simp only[Al]
 go_wp2_with fail
 refine QK.normal ⟨⟨K8.out.2.2.2.1,K8.out.2.2.2.2.1,K8.out.2.2.2.2.2⟩,?_⟩
 refine' Ar 35 (by kernel_rfl) ?_ ?_;rotate_left;(simp only[Aa,Ab,Ac];rfl)
 try simp only[Al]
 go_wp2_with fail
 refine QK.normal ⟨⟨K8.out.2.2.2.1,K8.out.2.2.2.2.1,K8.out.2.2.2.2.2⟩,?_⟩
 refine' Ar 36 (by kernel_rfl) ?_ ?_;rotate_left;(simp only[Aa,Ab,Ac];rfl)
 try simp only[Al,Ad,Ae,Af]
 go_wp2_with (first
  | ((with_reducible refine AO ?_ 26 (.tmp 2) rfl (w3.heap.size) 0 rfl cs _ (As K8.out.2.1) Tryz.underlying26 rfl (At Tryz.infoId HCL.out) ?_);focus rfl))
 refine QK.normal ⟨⟨K8.out.2.2.2.1,K8.out.2.2.2.2.1,K8.out.2.2.2.2.2⟩,?_⟩
 refine' Ar 37 (by kernel_rfl) ?_ ?_;rotate_left;(simp only[Aa,Ab,Ac];rfl)
 try simp only[Al,Ad,Ae,Af]
 go_wp2_with fail
 refine(Iy Do.1 nmW cs (·∉[]) u7 (HS.out.below K8.out.2.2.1) (by rw[Jo.1];omega)).mono ?_
 rintro e' u9 ⟨v,rfl,hv,hb⟩
 obtain⟨va3,vc3,rfl,-⟩:=hv.shape
 rw[runW_h]
 have K10:=hJ6 (An K8.out.1 hb (Ah _)) (K8.out.2.1.below hb K8.out.2.1.lt) (An K8.out.2.2.1 hb (Ah _)) ((hb.cell (p:=⟨rb,ro+8,none⟩) (Am K8.out.2.2.2.1)).trans K8.out.2.2.2.1) ((hb.cell (p:=⟨rb,ro+25,none⟩) (Am K8.out.2.2.2.2.1)).trans K8.out.2.2.2.2.1) (AD K8.out.2.2.2.2.2 hb)
 clear hv hb
 go_wp2_with fail
 refine QK.normal ⟨⟨K10.out.2.2.2.1,K10.out.2.2.2.2.1,K10.out.2.2.2.2.2⟩,?_⟩
 refine' Ar 38 (by kernel_rfl) ?_ ?_;rotate_left;(simp only[Aa,Ab,Ac];rfl)
 try simp only[Al]
 go_wp2_with fail
 refine QK.normal ⟨⟨K10.out.2.2.2.1,K10.out.2.2.2.2.1,K10.out.2.2.2.2.2⟩,?_⟩
 refine' Ar 39 (by kernel_rfl) ?_ ?_;rotate_left;(simp only[Aa,Ab,Ac];rfl)
 try simp only[Al]
 go_wp2_with fail
 refine QK.normal ⟨⟨K10.out.2.2.2.1,K10.out.2.2.2.2.1,K10.out.2.2.2.2.2⟩,?_⟩
 refine' Ar 40 (by kernel_rfl) ?_ ?_;rotate_left;(simp only[Aa,Ab,Ac];rfl)
 try simp only[Al]
 go_wp2_with fail
 refine QK.normal ⟨⟨K10.out.2.2.2.1,K10.out.2.2.2.2.1,K10.out.2.2.2.2.2⟩,?_⟩
 refine' Ar 41 (by kernel_rfl) ?_ ?_;rotate_left;(simp only[Aa,Ab,Ac];rfl)
 try simp only[Al]
 go_wp2_with fail
 refine QK.normal ⟨⟨K10.out.2.2.2.1,K10.out.2.2.2.2.1,K10.out.2.2.2.2.2⟩,?_⟩
 refine wpAnyH_done (by kernel_rfl) ?_ _
 refine NoPanic.normal ?_
 go_wp2_with fail
 go_ret
 exact⟨rfl,K10.out.1⟩
theorem cb_eq:∀ a b:List UInt8,Lib.compareBytes a b=0↔a=b
 | [],[]=> by simp[Lib.compareBytes]
 | [],_::_=> by simp[Lib.compareBytes]
 | _::_,[]=> by simp[Lib.compareBytes]
 | a::x,b::y=> by
  rw[Lib.compareBytes]
  by_cases h1:a<b
  ·rw[if_pos h1]
   refine⟨fun h=> absurd h (by decide),fun e=> ?_⟩
   injection e with e1 e2
   rw[e1,UInt8.lt_iff_toNat_lt] at h1
   omega
  ·rw[if_neg h1]
   by_cases h2:b<a
   ·rw[if_pos h2]
    refine⟨fun h=> absurd h (by decide),fun e=> ?_⟩
    injection e with e1 e2
    rw[e1,UInt8.lt_iff_toNat_lt] at h2
    omega
   ·rw[if_neg h2,cb_eq x y]
    have e:a=b:=by
     rw[UInt8.lt_iff_toNat_lt] at h1 h2
     exact UInt8.toNat_inj.1 (by omega)
    rw[e]
    simp
theorem JH:∀ a b:List UInt8,Lib.compareBytes a b<0↔0<Lib.compareBytes b a
 | [],[]=> by simp[Lib.compareBytes]
 | [],_::_=> by simp[Lib.compareBytes]
 | _::_,[]=> by simp[Lib.compareBytes]
 | a::x,b::y=> by
  rw[Lib.compareBytes,Lib.compareBytes]
  by_cases h1:a<b
  ·have h2:¬ b<a:=by rw[UInt8.lt_iff_toNat_lt] at h1 ⊢;omega
   rw[if_pos h1,if_neg h2,if_pos h1]
   decide
  ·by_cases h2:b<a
   ·rw[if_neg h1,if_pos h2,if_pos h2]
    decide
   ·rw[if_neg h1,if_neg h2,if_neg h2,if_neg h1]
    exact JH x y
theorem IC:∀ a b c:List UInt8,Lib.compareBytes a b<0→Lib.compareBytes b c<0→Lib.compareBytes a c<0
 | _,[],[]=> fun _ h=> absurd h (by simp[Lib.compareBytes])
 | _::_,[],_=> fun h _=> absurd h (by simp[Lib.compareBytes])
 | [],[],_=> fun h _=> absurd h (by simp[Lib.compareBytes])
 | _,_::_,[]=> fun _ h=> absurd h (by simp[Lib.compareBytes])
 | [],_::_,_::_=> fun _ _=> by simp[Lib.compareBytes]
 | a::x,b::y,c::z=> fun h1 h2=> by
  rw[Lib.compareBytes] at h1 h2 ⊢
  have hab:a.toNat≤b.toNat:=by
   by_cases k:a<b
   ·rw[UInt8.lt_iff_toNat_lt] at k;omega
   ·by_cases k2:b<a
    ·rw[if_neg k,if_pos k2] at h1;exact absurd h1 (by decide)
    ·rw[UInt8.lt_iff_toNat_lt] at k2;omega
  have hbc:b.toNat≤c.toNat:=by
   by_cases k:b<c
   ·rw[UInt8.lt_iff_toNat_lt] at k;omega
   ·by_cases k2:c<b
    ·rw[if_neg k,if_pos k2] at h2;exact absurd h2 (by decide)
    ·rw[UInt8.lt_iff_toNat_lt] at k2;omega
  by_cases hac:a<c
  ·rw[if_pos hac];decide
  ·have e1:¬ a<b:=by rw[UInt8.lt_iff_toNat_lt] at hac ⊢;omega
   have e2:¬ b<a:=by rw[UInt8.lt_iff_toNat_lt];omega
   have e3:¬ b<c:=by rw[UInt8.lt_iff_toNat_lt] at hac ⊢;omega
   have e4:¬ c<b:=by rw[UInt8.lt_iff_toNat_lt];omega
   have e5:¬ c<a:=by rw[UInt8.lt_iff_toNat_lt];omega
   rw[if_neg e1,if_neg e2] at h1
   rw[if_neg e3,if_neg e4] at h2
   rw[if_neg hac,if_neg e5]
   exact IC x y z h1 h2
theorem bl_cb:∀ a b:List UInt8,Op.bytesLess a b=decide (Lib.compareBytes a b<0)
 | [],[]=> by simp[Op.bytesLess,Lib.compareBytes]
 | [],_::_=> by simp[Op.bytesLess,Lib.compareBytes]
 | _::_,[]=> by simp[Op.bytesLess,Lib.compareBytes]
 | a::x,b::y=> by
  rw[Op.bytesLess,Lib.compareBytes,bl_cb x y]
  by_cases h1:a<b
  ·simp[h1]
  ·by_cases h2:b<a
   ·have h3:¬ a=b:=fun e=> by rw[e,UInt8.lt_iff_toNat_lt] at h2;omega
    simp[h1,h2,h3]
   ·have e:a=b:=by
     rw[UInt8.lt_iff_toNat_lt] at h1 h2
     exact UInt8.toNat_inj.1 (by omega)
    subst e
    simp[h1]
structure Lin {κ:Type} (cmp:κ→κ→Int):Prop where
 eq:∀ a b,cmp a b=0↔a=b
 swap:∀ a b,cmp a b<0↔0<cmp b a
 trans:∀ a b c,cmp a b<0→cmp b c<0→cmp a c<0
theorem Ce:Lin BW:=⟨fun a b=> by
 unfold BW;rw[cb_eq]
 constructor
 ·intro h
  have:a.data=b.data:=Array.toList_inj.1 h
  cases a;cases b;simp only at this;rw[this]
 ·intro h;rw[h],fun a b=> JH _ _,fun a b c=> IC _ _ _⟩
theorem DF (a b:Int):Bx a b<0↔a<b:=by
 unfold Bx
 by_cases h:a<b
 ·rw[if_pos h];omega
 ·rw[if_neg h]
  by_cases h2:b<a
  ·rw[if_pos h2];omega
  ·rw[if_neg h2];omega
theorem ID (a b:Int):0<Bx a b↔b<a:=by
 unfold Bx
 by_cases h:a<b
 ·rw[if_pos h];omega
 ·rw[if_neg h]
  by_cases h2:b<a
  ·rw[if_pos h2];omega
  ·rw[if_neg h2];omega
theorem DG:Lin Bx:=⟨fun a b=> by
 have h1:=DF a b
 have h2:=ID a b
 constructor
 ·intro h;omega
 ·intro h;omega,fun a b=> by rw[DF,ID],fun a b c=> by rw[DF,DF,DF];omega⟩
theorem K0 (a b:ByteArray):geS a b=false↔BW a b<0:=by
 unfold geS BW
 rw[bl_cb,Lib.toList_data,Lib.toList_data]
 simp
theorem K1 (a b:Int):geN a b=false↔Bx a b<0:=by
 rw[DF]
 unfold geN
 simp
theorem CY {α:Type} {ge:α→α→Bool} {lt:α→α→Prop} (h:∀ a b,ge a b=false↔lt a b) (tr:∀ a b c,lt a b→lt b c→lt a c):∀ l:List α,BC ge l=true↔l.Pairwise lt
 | []=> by simp[BC]
 | [a]=> by simp[BC]
 | a::b::t=> by
  rw[BC,Bool.and_eq_true,CY h tr (b::t),Bool.not_eq_true',h,List.pairwise_cons (a:=a)]
  constructor
  ·rintro⟨h1,h2⟩
   refine⟨fun x hx=> ?_,h2⟩
   rcases List.mem_cons.1 hx with rfl|hx
   ·exact h1
   ·exact tr _ _ _ h1 ((List.pairwise_cons.1 h2).1 x hx)
  ·rintro⟨h1,h2⟩
   exact⟨h1 b List.mem_cons_self,h2⟩
section
variable {α κ:Type} {cmp:κ→κ→Int} {key:α→κ}
theorem K2 {c:Nat→Int} (n:Nat):∀ (lo hi:Nat),hi - lo≤n→lo≤hi→(∀ a b,lo≤a→a≤b→b<hi→c b<0→c a<0)→
  lo≤bsI c lo hi∧bsI c lo hi≤hi∧(∀ j,lo≤j→j<bsI c lo hi→c j<0)∧(∀ j,bsI c lo hi≤j→j<hi→¬ c j<0):=by
 induction n with
 | zero=>
  intro lo hi h1 h2 _
  rw[Ec (by omega)]
  exact⟨Ah _,h2,fun j a b=> by omega,fun j a b=> by omega⟩
 | succ n ih=>
  intro lo hi h1 h2 hm
  by_cases hl:lo<hi
  ·by_cases hc:c ((lo+hi) / 2)<0
   ·rw[Hl hl hc]
    obtain⟨a1,a2,a3,a4⟩:=ih ((lo+hi) / 2+1) hi (by omega) (by omega) (fun a b x y z=> hm a b (by omega) y z)
    refine⟨by omega,a2,fun j x y=> ?_,a4⟩
    by_cases hj:j≤(lo+hi) / 2
    ·exact hm j _ x hj (by omega) hc
    ·exact a3 j (by omega) y
   ·rw[EM hl hc]
    obtain⟨a1,a2,a3,a4⟩:=ih lo ((lo+hi) / 2) (by omega) (by omega) (fun a b x y z=> hm a b x y (by omega))
    refine⟨a1,by omega,a3,fun j x y hj=> ?_⟩
    by_cases hj2:j<(lo+hi) / 2
    ·exact a4 j x hj2 hj
    ·exact hc (hm _ j (by omega) (by omega) y hj)
  ·rw[Ec hl]
   exact⟨Ah _,h2,fun j a b=> by omega,fun j a b=> by omega⟩
theorem Fo (hc:Lin cmp) {l:List α} (hs:l.Pairwise (fun x y=> cmp (key x) (key y)<0)) (k:κ):
  (AW (fun x=> cmp (key x) k) l).1≤l.length∧(∀ j (hj:j<l.length),j<(AW (fun x=> cmp (key x) k) l).1→cmp (key l[j]) k<0)∧(∀ j (hj:j<l.length),(AW (fun x=> cmp (key x) k) l).1≤j→¬ cmp (key l[j]) k<0):=by
 have h:=K2 (c:=C6 (fun x=> cmp (key x) k) l) l.length 0 l.length (by omega) (by omega) (fun a b _ hab hb h=> by
  rcases Nat.lt_or_eq_of_le hab with h1|rfl
  ·rw[CD _ _ _ hb] at h
   rw[CD _ _ _ (show a<l.length by omega)]
   exact hc.trans _ _ _ (List.pairwise_iff_getElem.1 hs a b (by omega) hb h1) h
  ·exact h)
 unfold AW
 refine⟨h.2.1,fun j hj hlt=> ?_,fun j hj hle=> ?_⟩
 ·have:=h.2.2.1 j (Nat.zero_le _) hlt
  rw[CD _ _ _ hj] at this
  exact this
 ·have:=h.2.2.2 j hle hj
  rw[CD _ _ _ hj] at this
  exact this
theorem CK (hc:Lin cmp) {l:List α} {k:κ} (h:(AW (fun x=> cmp (key x) k) l).2=true):∃ x,l[(AW (fun x=> cmp (key x) k) l).1]?=some x∧key x=k∧x∈l:=by
 have h1:=DM h
 refine⟨l[(AW (fun x=> cmp (key x) k) l).1]'h1.1,List.getElem?_eq_getElem h1.1,?_,List.getElem_mem _⟩
 have h2:=h1.2
 rw[CD _ _ _ h1.1] at h2
 exact(hc.eq _ _).1 h2
theorem JI (hc:Lin cmp) {l:List α} (hs:l.Pairwise (fun x y=> cmp (key x) (key y)<0)) {k:κ} (h:(AW (fun x=> cmp (key x) k) l).2=false):∀ x∈l,key x≠k:=by
 intro x hx e
 obtain⟨j,hj,rfl⟩:=List.mem_iff_getElem.1 hx
 obtain⟨h1,h2,h3⟩:=Fo hc hs k
 have h0:cmp (key l[j]) k=0:=(hc.eq _ _).2 e
 have hj2:(AW (fun x=> cmp (key x) k) l).1=j:=by
  rcases Nat.lt_trichotomy (AW (fun x=> cmp (key x) k) l).1 j with h4|h4|h4
  ·have h5:=h3 (AW (fun x=> cmp (key x) k) l).1 (by omega) (Ah _)
   have h6:=List.pairwise_iff_getElem.1 hs _ j (show(AW (fun x=> cmp (key x) k) l).1<l.length by omega) hj h4
   rw[e] at h6
   exact absurd h6 h5
  ·exact h4
  ·have:=h2 j hj h4;omega
 have h':(decide ((AW (fun x=> cmp (key x) k) l).1<l.length) && (C6 (fun x=> cmp (key x) k) l (AW (fun x=> cmp (key x) k) l).1==0))=false:=h
 rw[hj2,CD _ _ _ hj] at h'
 simp[hj,h0] at h'
theorem La (hc:Lin cmp) {l:List α} (hs:l.Pairwise (fun x y=> cmp (key x) (key y)<0)) {k:κ}:(AW (fun x=> cmp (key x) k) l).2=true↔∃ x∈l,key x=k:=by
 constructor
 ·intro h
  obtain⟨x,-,h1,h2⟩:=CK hc h
  exact⟨x,h2,h1⟩
 ·rintro⟨x,hx,e⟩
  cases hb:(AW (fun x=> cmp (key x) k) l).2 with
  | true=> rfl
  | false=> exact absurd e (JI hc hs hb x hx)
theorem GG (hc:Lin cmp) {l:List α} (hs:l.Pairwise (fun x y=> cmp (key x) (key y)<0)) {k:κ} {x:α} (hx:x∈l) (e:key x=k):(AW (fun x=> cmp (key x) k) l).2=true∧l[(AW (fun x=> cmp (key x) k) l).1]?=some x:=by
 have h2:=(La hc hs).2 ⟨x,hx,e⟩
 obtain⟨y,h3,h4,h5⟩:=CK hc h2
 refine⟨h2,?_⟩
 rw[h3]
 obtain⟨i,hi,rfl⟩:=List.mem_iff_getElem.1 hx
 obtain⟨j,hj,rfl⟩:=List.mem_iff_getElem.1 h5
 have hij:i=j:=by
  have hp:=List.pairwise_iff_getElem.1 hs
  rcases Nat.lt_trichotomy i j with h|h|h
  ·have h6:=hp i j hi hj h
   rw[e,h4,(hc.eq k k).2 rfl] at h6
   omega
  ·exact h
  ·have h6:=hp j i hj hi h
   rw[e,h4,(hc.eq k k).2 rfl] at h6
   omega
 subst hij
 rfl
theorem IE (hc:Lin cmp) {l:List α} (hs:l.Pairwise (fun x y=> cmp (key x) (key y)<0)) {x:α} (h:(AW (fun y=> cmp (key y) (key x)) l).2=false):(BS l (AW (fun y=> cmp (key y) (key x)) l).1 x).Pairwise (fun x y=> cmp (key x) (key y)<0):=by
 obtain⟨h1,h2,h3⟩:=Fo hc hs (key x)
 have hn:=JI hc hs h
 unfold BS
 generalize (AW (fun y=> cmp (key y) (key x)) l).1=i at h1 h2 h3
 rw[List.pairwise_append]
 refine⟨hs.sublist (List.take_sublist _ _),?_,?_⟩
 ·rw[List.pairwise_cons]
  refine⟨fun y hy=> ?_,hs.sublist (List.drop_sublist _ _)⟩
  obtain⟨j,hj,rfl⟩:=List.mem_iff_getElem.1 hy
  rw[List.length_drop] at hj
  rw[List.getElem_drop]
  have h4:=h3 (i+j) (by omega) (by omega)
  have h5:=hn _ (List.getElem_mem (show i+j<l.length by omega))
  have h6:cmp (key l[i+j]) (key x)≠0:=fun e=> h5 ((hc.eq _ _).1 e)
  exact(hc.swap _ _).2 (by omega)
 ·intro a ha b hb
  obtain⟨j,hj,rfl⟩:=List.mem_iff_getElem.1 ha
  rw[List.length_take] at hj
  rw[List.getElem_take]
  have h4:=h2 j (by omega) (by omega)
  rcases List.mem_cons.1 hb with rfl|hb
  ·exact h4
  ·obtain⟨m,hm,rfl⟩:=List.mem_iff_getElem.1 hb
   rw[List.length_drop] at hm
   rw[List.getElem_drop]
   exact List.pairwise_iff_getElem.1 hs j (i+m) (by omega) (by omega) (by omega)
theorem Ei {l:List α} {i:Nat} {x y:α}:y∈BS l i x↔y=x∨y∈l:=by
 unfold BS
 rw[List.mem_append,List.mem_cons]
 conv=> rhs;rw[←List.take_append_drop i l,List.mem_append]
 constructor
 ·rintro(h|h|h)
  ·exact .inr (.inl h)
  ·exact .inl h
  ·exact .inr (.inr h)
 ·rintro(h|h|h)
  ·exact .inr (.inl h)
  ·exact .inl h
  ·exact .inr (.inr h)
theorem GH {l:List α} (hs:l.Pairwise (fun x y=> cmp (key x) (key y)<0)) {i:Nat} {x y:α} (h:l[i]?=some x) (e:key y=key x):(l.set i y).Pairwise (fun x y=> cmp (key x) (key y)<0):=by
 have hm:(l.set i y).map key=l.map key:=by
  rw[List.map_set]
  obtain⟨hi,hx⟩:=List.getElem?_eq_some_iff.1 h
  rw[e,←hx,show key l[i]=(l.map key)[i]'(by simpa using hi) by simp,List.set_getElem_self]
 have h1:(l.map key).Pairwise (fun x y=> cmp x y<0):=List.pairwise_map.2 hs
 rw[←hm] at h1
 exact List.pairwise_map.1 h1
end
theorem CZ {p:PmD} {r:Int × PmD} (hp:OkP p) (h:(Bj p r).2=0):r.1=0∧(Bj p r).1=r.2:=by
 unfold Bj at h ⊢
 rw[if_pos (Hn.2 hp)] at h ⊢
 by_cases hr:r.1=0
 ·rw[if_pos hr];exact⟨hr,rfl⟩
 ·rw[if_neg hr] at h;exact absurd h hr
theorem F4 {p:PmD} (hp:OkP p) (h:(BN p).1=0):p.e≠8∧(BN p).2={p with e:=p.e+1}∧OkP {p with e:=p.e+1}:=by
 unfold BN at h ⊢
 by_cases he:p.e=8
 ·rw[if_pos he] at h;cases h
 ·rw[if_neg he]
  exact⟨he,rfl,hp.o,⟨by have:=hp.e.1;simp only;omega,by have:=hp.e.2;simp only;omega⟩,hp.r,hp.q,hp.g,hp.w⟩
theorem LE {p:PmD} (hp:OkP p) (n:Int):OkP {p with r:=Bb (n==·) p.r,q:=Bb (n==·) p.q}:=
 ⟨hp.o,hp.e,Ev hp.r,Ev hp.q,hp.g,fun m hm=> Dy.2 ⟨hp.w m (Dy.1 hm).1,(Dy.1 hm).2⟩⟩
theorem Lb {p:PmD} (hp:OkP p) (n:Int):OkP {p with g:=Bb (n==·) p.g}:=
 ⟨hp.o,hp.e,hp.r,hp.q,Ev hp.g,hp.w⟩
theorem LF {p:PmD} (hp:OkP p) {b n:Int} (h:(DO p b n).1=0):
  b=p.o∧BK p.o n=true∧n∈p.r∧(DO p b n).2={p with e:=p.e+1,r:=Bb (n==·) p.r,q:=Bb (n==·) p.q}∧OkP (DO p b n).2:=by
 unfold DO at h ⊢
 by_cases h1:b=p.o
 ·rw[if_neg (by simpa using h1)] at h ⊢
  by_cases h2:AX n=false∨n=p.o
  ·rw[if_pos h2] at h;cases h
  ·rw[if_neg h2] at h ⊢
   by_cases h3:inB p.r n=false
   ·rw[if_pos h3] at h;cases h
   ·rw[if_neg h3] at h ⊢
    obtain⟨a,b,c⟩:=F4 (LE hp n) h
    refine⟨h1,?_,Ed.1 (by simpa using h3),b,b ▸ c⟩
    unfold BK
    have a:AX n=true:=by
     cases hu:AX n with
     | true=> rfl
     | false=> exact(h2 (.inl hu)).elim
    have b:n≠p.o:=fun e=> h2 (.inr e)
    simp[a,b]
 ·rw[if_pos h1] at h;cases h
theorem Kk {p:PmD} (hp:OkP p) {b n:Int} (h:(Cg p b n).1=0):b=p.o∧(Cg p b n).2={p with g:=Bs p.g n}∧OkP (Cg p b n).2:=by
 unfold Cg at h ⊢
 by_cases h1:b=p.o
 ·rw[if_neg (by simpa using h1)] at h ⊢
  by_cases h2:BB n=false
  ·rw[if_pos h2] at h;cases h
  ·rw[if_neg h2] at h ⊢
   by_cases h3:inB p.g n=true
   ·rw[if_pos h3] at h;cases h
   ·rw[if_neg h3]
    exact⟨h1,rfl,hp.o,hp.e,hp.r,hp.q,Eu hp.g (by simpa using h2),hp.w⟩
 ·rw[if_pos h1] at h;cases h
theorem Lc {p:PmD} (hp:OkP p) {b n:Int} (h:(CO p b n).1=0):b=p.o∧(CO p b n).2={p with e:=p.e+1,g:=Bb (n==·) p.g}∧OkP (CO p b n).2:=by
 unfold CO at h ⊢
 by_cases h1:b=p.o
 ·rw[if_neg (by simpa using h1)] at h ⊢
  by_cases h2:BB n=false
  ·rw[if_pos h2] at h;cases h
  ·rw[if_neg h2] at h ⊢
   by_cases h3:inB p.g n=false
   ·rw[if_pos h3] at h;cases h
   ·rw[if_neg h3] at h ⊢
    obtain⟨a,b,c⟩:=F4 (Lb hp n) h
    exact⟨h1,b,b ▸ c⟩
 ·rw[if_pos h1] at h;cases h
theorem ChkP.fp {s:IdM} (h:ChkP s):s.fs.Pairwise (fun x y=> BW x.nm y.nm<0):=(CY (lt:=fun x y:FileM=> BW x.nm y.nm<0) (fun a b=> K0 a.nm b.nm) (fun a b c=> Ce.trans _ _ _) _).1 h.fr
theorem ChkP.cp {s:IdM} (h:ChkP s):s.cs.Pairwise (fun x y=> Bx x.n y.n<0):=(CY (lt:=fun x y:CirM=> Bx x.n y.n<0) (fun a b=> K1 a.n b.n) (fun a b c=> DG.trans _ _ _) _).1 h.cr
theorem JJ {l:List FileM} (h:l.Pairwise (fun x y=> BW x.nm y.nm<0)):BC (fun x y:FileM=> geS x.nm y.nm) l=true:=(CY (lt:=fun x y:FileM=> BW x.nm y.nm<0) (fun a b=> K0 a.nm b.nm) (fun a b c=> Ce.trans _ _ _) _).2 h
theorem Ld {l:List CirM} (h:l.Pairwise (fun x y=> Bx x.n y.n<0)):BC (fun x y:CirM=> geN x.n y.n) l=true:=(CY (lt:=fun x y:CirM=> Bx x.n y.n<0) (fun a b=> K1 a.n b.n) (fun a b c=> DG.trans _ _ _) _).2 h
theorem IF {s:IdM} (h:s.cs.Pairwise (fun x y=> Bx x.n y.n<0)) {o n:Int}:Dx s o n=true↔∃ c∈s.cs,c.n=n∧c.o=o:=by
 unfold Dx Bz
 rw[Bool.and_eq_true,beq_iff_eq]
 constructor
 ·rintro⟨h1,h2⟩
  obtain⟨x,h3,h4,h5⟩:=CK (key:=CirM.n) DG h1
  rw[h3] at h2
  exact⟨x,h5,h4,by simpa using h2⟩
 ·rintro⟨c,hc,e1,e2⟩
  obtain⟨h1,h2⟩:=GG (key:=CirM.n) DG h hc e1
  refine⟨h1,?_⟩
  rw[h2]
  simpa using e2
def JK (s s':IdM):Prop:=∀ c∈s.cs,∃ c'∈s'.cs,c'.n=c.n∧c'.o=c.o
theorem JK.grp {s s':IdM} (h:JK s s') (h1:s.cs.Pairwise (fun x y=> Bx x.n y.n<0)) (h2:s'.cs.Pairwise (fun x y=> Bx x.n y.n<0)) {o n:Int} (hg:Dx s o n=true):Dx s' o n=true:=by
 obtain⟨c,hc,e1,e2⟩:=(IF h1).1 hg
 obtain⟨c',hc',e3,e4⟩:=h c hc
 exact(IF h2).2 ⟨c',hc',e3.trans e1,e4.trans e2⟩
theorem Fp {s:IdM} {f:FileM} (h1:OkP f.p) (h2:BE f.nm=f.p.o) (h3:f.e≤f.p.e) (h4:wrB (BO f)=true) (h5:∀ n∈f.p.g,Dx s f.p.o n=true):Dg s f=true:=by
 unfold Dg
 simp only[Bool.and_eq_true,decide_eq_true_eq,beq_iff_eq,List.all_eq_true]
 exact⟨⟨Hn.2 h1,h2,h3,h4⟩,h5⟩
theorem Jq {s s':IdM} (h:JK s s') (h1:s.cs.Pairwise (fun x y=> Bx x.n y.n<0)) (h2:s'.cs.Pairwise (fun x y=> Bx x.n y.n<0)) {f:FileM} (hf:Dg s f=true):Dg s' f=true:=by
 obtain⟨a,b,c,d,e⟩:=Br hf
 exact Fp a b c d fun n hn=> h.grp h1 h2 (e n hn)
theorem GI {s s':IdM} (h:s.cs=s'.cs) {f:FileM} (hf:Dg s f=true):Dg s' f=true:=by
 obtain⟨a,b,c,d,e⟩:=Br hf
 refine Fp a b c d fun n hn=> ?_
 have:=e n hn
 unfold Dx Bz at this ⊢
 rw[←h]
 exact this
theorem Le {c:CirM} (h1:1≤c.n) (h2:c.n≤3) (h3:AX c.o=true) (h4:c.us.Pairwise (·<·)) (h5:∀ u∈c.us,AX u=true):Ek c=true:=by
 unfold Ek
 simp only[Bool.and_eq_true,decide_eq_true_eq,Bool.not_eq_true',List.any_eq_false]
 refine⟨h1,h2,h3,(CY (lt:=(·<·)) (fun a b=> by unfold geN;simp) (fun a b c=> Int.lt_trans) _).2 h4,fun u hu=> by rw[h5 u hu];simp⟩
theorem wr_of {x:WrM} (h1:0<BE x.nm) (h2:1≤x.v) (h3:x.v≤9999) (h4:1≤x.e) (h5:x.e≤8) (h6:AX x.u=true) (h7:C5 x.b=true):wrB x=true:=by
 unfold wrB
 simp only[Bool.and_eq_true,decide_eq_true_eq]
 exact⟨h1,h2,h3,h4,h5,h6,h7⟩
theorem mem_set {α:Type} {l:List α} {i:Nat} {x y:α} (h:y∈l.set i x):y=x∨y∈l:=by
 rcases List.mem_or_eq_of_mem_set h with h|h
 ·exact .inr h
 ·exact .inl h
theorem EY {o:OpM} (h:opB o=true):1≤o.k∧o.k≤10∧AX o.u=true∧(o.k≤7→0<BE o.nm)∧(o.k≤2→C5 o.b=true):=by
 unfold opB at h
 simp only[Bool.and_eq_true,Bool.or_eq_true,decide_eq_true_eq] at h
 obtain⟨⟨h1,h2,h3⟩,h4,h5⟩:=h
 refine⟨h1,h2,h3,fun h=> ?_,fun h=> ?_⟩
 ·rcases h4 with h4|h4
  ·omega
  ·exact h4
 ·rcases h5 with h5|h5
  ·omega
  ·exact h5
theorem IG {s:IdM} {f:FileM} {o:OpM} (hf:Dg s f=true) (h1:f.v≠9999) (h2:AX o.u=true) (h3:C5 o.b=true):wrB (BO (B2 f o))=true:=by
 obtain⟨a,b,c,d,e⟩:=Br hf
 obtain⟨d1,d2,d3,d4,d5,d6,d7⟩:=DA d
 unfold BO at d1 d2 d3
 simp only at d1 d2 d3
 unfold B2 BO
 exact wr_of d1 (by simp only;omega) (by simp only;omega) a.e.1 a.e.2 h2 h3
theorem Kl {s:IdM} {f:FileM} {o:OpM} (hf:Dg s f=true) (h1:f.v≠9999) (h2:AX o.u=true) (h3:C5 o.b=true):Dg s (B2 f o)=true:=by
 have hw:=IG hf h1 h2 h3
 obtain⟨a,b,c,d,e⟩:=Br hf
 exact Fp a b (Int.le_refl _) hw e
theorem Lf {o:OpM} (h2:AX o.u=true):(I2 o.u).1=⟨o.u,1,[],[],[]⟩∧OkP ⟨o.u,1,[],[],[]⟩:=by
 refine⟨by unfold I2;rw[if_pos h2],h2,⟨Int.le_refl _,by show(1:Int)≤8;decide⟩,rfl,rfl,rfl,fun n hn=> absurd hn (by simp)⟩
theorem Jr {s:IdM} {o:OpM} (h:ChkP s) (ho:opB o=true) (hk:o.k=1):ChkP (Ca s o).1:=by
 obtain⟨o1,o2,o3,o4,o5⟩:=EY ho
 unfold Ca
 by_cases h1:BE o.nm≠o.u
 ·rw[if_pos h1];exact h
 ·rw[if_neg h1]
  by_cases h2:(Bu s o.nm).2=true
  ·rw[if_pos h2];exact h
  ·rw[if_neg h2]
   by_cases h3:s.fs.length=6∨s.ws.length=400
   ·rw[if_pos h3];exact h
   ·rw[if_neg h3]
    obtain⟨n1,n2⟩:=Lf o3
    have hi:=(Fo (key:=FileM.nm) Ce h.fp o.nm).1
    have hu:=Gz o3
    have hn:BE o.nm=o.u:=by simpa using h1
    have hW:wrB (BO (B2 (Dc o) o))=true:=by
     unfold B2 Dc BO
     rw[n1]
     exact wr_of (by simp only;omega) (by simp) (by simp) (by simp) (by simp) o3 (o5 (by omega))
    have hF:∀ s':IdM,Dg s' (B2 (Dc o) o)=true:=fun s'=> by
     refine Fp ?_ ?_ (Int.le_refl _) hW ?_
     ·unfold B2 Dc;rw[n1];exact n2
     ·unfold B2 Dc;rw[n1];exact hn
     ·unfold B2 Dc;rw[n1];intro n hn;simp at hn
    have hins:(BS s.fs (Bu s o.nm).1 (B2 (Dc o) o)).length=s.fs.length+1:=by
     unfold BS Bu
     rw[List.length_append,List.length_cons,List.length_take,List.length_drop]
     omega
    refine⟨?_,?_,JJ ?_,h.cr,h.c,?_,?_⟩
    ·rw[hins];have:=h.fl;omega
    ·rw[List.length_append,List.length_singleton];have:=h.wl;omega
    ·have hf:(AW (fun y:FileM=> BW y.nm o.nm) s.fs).2=false:=by simpa [Bu] using h2
     exact IE (key:=FileM.nm) (x:=B2 (Dc o) o) Ce h.fp hf
    ·intro f hf
     rcases Ei.1 hf with rfl|hf
     ·exact hF _
     ·exact GI rfl (h.f f hf)
    ·intro x hx
     rcases List.mem_append.1 hx with hx|hx
     ·exact h.w x hx
     ·rw[List.mem_singleton.1 hx];exact hW
theorem II {s:IdM} {o:OpM} (h:ChkP s) (ho:opB o=true) (hk:o.k=2∨o.k=3):ChkP (Bw s o).1:=by
 obtain⟨o1,o2,o3,o4,o5⟩:=EY ho
 unfold Bw
 by_cases h1:(Bu s o.nm).2=false
 ·rw[if_pos h1];exact h
 ·rw[if_neg h1]
  have h1':(AW (fun x:FileM=> BW x.nm o.nm) s.fs).2=true:=by simpa [Bu] using h1
  obtain⟨f,e1,e2,e3⟩:=CK (key:=FileM.nm) Ce h1'
  have e1':s.fs[(Bu s o.nm).1]?=some f:=e1
  rw[e1']
  simp only
  by_cases h2:o.k=3∧Fv f.p o.u (CQ s.cs)=true
  ·rw[if_pos h2];exact h
  ·rw[if_neg h2]
   by_cases h3:o.k=3∨EG f.p o.u=false
   ·rw[if_pos h3];exact h
   ·rw[if_neg h3]
    by_cases h4:f.v=9999∨s.ws.length=400
    ·rw[if_pos h4];exact h
    ·rw[if_neg h4]
     have hb:=o5 (by omega)
     have hv:f.v≠9999:=fun e=> h4 (.inl e)
     refine⟨by simp only[List.length_set];exact h.fl,?_,JJ ?_,h.cr,h.c,?_,?_⟩
     ·rw[List.length_append,List.length_singleton];have:=h.wl;omega
     ·exact GH (key:=FileM.nm) h.fp e1 rfl
     ·intro g hg
      rcases mem_set hg with rfl|hg
      ·exact GI (s:=s) rfl (Kl (h.f f e3) hv o3 hb)
      ·exact GI (s:=s) rfl (h.f g hg)
     ·intro x hx
      rcases List.mem_append.1 hx with hx|hx
      ·exact h.w x hx
      ·rw[List.mem_singleton.1 hx];exact IG (h.f f e3) hv o3 hb
theorem JL {s:IdM} {p:PmD} {o:OpM} (hc:s.cs.Pairwise (fun x y=> Bx x.n y.n<0)) (hp:OkP p) (h:(Co s p o).2=0):OkP (Co s p o).1∧(Co s p o).1.o=p.o∧p.e≤(Co s p o).1.e∧∀ n∈(Co s p o).1.g,n∈p.g∨Dx s p.o n=true:=by
 unfold Co at h ⊢
 by_cases k4:o.k=4
 ·rw[if_pos k4] at h ⊢
  obtain⟨h1,h2⟩:=CZ hp h
  obtain⟨-,-,-,h3,h4⟩:=KN hp h1
  rw[h2]
  refine⟨h4,?_⟩
  rw[h3]
  exact⟨rfl,Int.le_refl _,fun n hn=> .inl hn⟩
 rw[if_neg k4] at h ⊢
 by_cases k5:o.k=5
 ·rw[if_pos k5] at h ⊢
  obtain⟨h1,h2⟩:=CZ hp h
  obtain⟨-,-,-,h3,h4⟩:=LF hp h1
  rw[h2]
  refine⟨h4,?_⟩
  rw[h3]
  exact⟨rfl,by simp only;omega,fun n hn=> .inl hn⟩
 rw[if_neg k5] at h ⊢
 by_cases k6:o.k=6
 ·rw[if_pos k6] at h ⊢
  by_cases h5:(Bz s o.g).2=false
  ·rw[if_pos h5] at h;cases h
  ·rw[if_neg h5] at h ⊢
   by_cases h6:((s.cs[(Bz s o.g).1]?.map CirM.o).getD 0)≠o.u
   ·rw[if_pos h6] at h;cases h
   ·rw[if_neg h6] at h ⊢
    obtain⟨h1,h2⟩:=CZ hp h
    obtain⟨hb,h3,h4⟩:=Kk hp h1
    rw[h2]
    refine⟨h4,?_⟩
    rw[h3]
    refine⟨rfl,Int.le_refl _,fun n hn=> ?_⟩
    rcases Ee.1 hn with rfl|hn
    ·right
     unfold Dx
     rw[Bool.and_eq_true,beq_iff_eq,←hb]
     exact⟨by simpa using h5,by simpa using h6⟩
    ·exact .inl hn
 rw[if_neg k6] at h ⊢
 by_cases k7:o.k=7
 ·rw[if_pos k7] at h ⊢
  obtain⟨h1,h2⟩:=CZ hp h
  obtain⟨-,h3,h4⟩:=Lc hp h1
  rw[h2]
  refine⟨h4,?_⟩
  rw[h3]
  exact⟨rfl,by simp only;omega,fun n hn=> .inl (Dy.1 hn).1⟩
 rw[if_neg k7]
 exact⟨hp,rfl,Int.le_refl _,fun n hn=> .inl hn⟩
theorem IJ {s:IdM} {o:OpM} (h:ChkP s):ChkP (Bg s o).1:=by
 unfold Bg
 by_cases h1:(Bu s o.nm).2=false
 ·rw[if_pos h1];exact h
 ·rw[if_neg h1]
  have h1':(AW (fun x:FileM=> BW x.nm o.nm) s.fs).2=true:=by simpa [Bu] using h1
  obtain⟨f,e1,e2,e3⟩:=CK (key:=FileM.nm) Ce h1'
  have e1':s.fs[(Bu s o.nm).1]?=some f:=e1
  rw[e1']
  simp only
  by_cases h2:(Co s f.p o).2≠0
  ·rw[if_pos h2];exact h
  ·rw[if_neg h2]
   have h2':(Co s f.p o).2=0:=by simpa using h2
   obtain⟨a,b,c,d,e⟩:=Br (h.f f e3)
   obtain⟨p1,p2,p3,p4⟩:=JL h.cp a h2'
   refine⟨by simp only[List.length_set];exact h.fl,h.wl,JJ ?_,h.cr,h.c,?_,h.w⟩
   ·exact GH (key:=FileM.nm) h.fp e1 rfl
   ·intro g hg
    rcases mem_set hg with rfl|hg
    ·refine GI (s:=s) rfl (Fp p1 (by rw[p2];exact b) (Int.le_trans c p3) d fun n hn=> ?_)
     rw[p2]
     rcases p4 n hn with h|h
     ·exact e n h
     ·exact h
    ·exact GI (s:=s) rfl (h.f g hg)
theorem Km {s:IdM} {o:OpM} (h:ChkP s) (ho:opB o=true):ChkP (CR s o).1:=by
 obtain⟨o1,o2,o3,o4,o5⟩:=EY ho
 unfold CR
 by_cases h1:o.g<1∨3<o.g
 ·rw[if_pos h1];exact h
 ·rw[if_neg h1]
  by_cases h2:(Bz s o.g).2=true
  ·rw[if_pos h2];exact h
  ·rw[if_neg h2]
   have hf:(AW (fun y:CirM=> Bx y.n o.g) s.cs).2=false:=by simpa [Bz] using h2
   have hp:(BS s.cs (Bz s o.g).1 (⟨o.g,o.u,[]⟩:CirM)).Pairwise (fun x y=> Bx x.n y.n<0):=IE (key:=CirM.n) (x:=(⟨o.g,o.u,[]⟩:CirM)) DG h.cp hf
   refine⟨h.fl,h.wl,h.fr,Ld hp,?_,?_,h.w⟩
   ·intro c hc
    rcases Ei.1 hc with rfl|hc
    ·exact Le (by simp only;omega) (by simp only;omega) o3 .nil (fun u hu=> absurd hu (by simp))
    ·exact h.c c hc
   ·intro f hf'
    exact Jq (s:=s) (fun c hc=> ⟨c,Ei.2 (.inr hc),rfl,rfl⟩) h.cp hp (h.f f hf')
theorem JM {s:IdM} {i:Nat} {c c':CirM} {fs:List FileM} {ws:List WrM} (h:s.cs[i]?=some c) (e1:c'.n=c.n) (e2:c'.o=c.o):JK s ⟨fs,s.cs.set i c',ws⟩:=fun x hx=> by
 obtain⟨j,hj,rfl⟩:=List.mem_iff_getElem.1 hx
 obtain⟨hi,rfl⟩:=List.getElem?_eq_some_iff.1 h
 by_cases hij:i=j
 ·subst hij
  exact⟨c',List.mem_set hi _,e1,e2⟩
 ·exact⟨s.cs[j],by
   have:(s.cs.set i c')[j]'(by rw[List.length_set];exact hj)=s.cs[j]:=List.getElem_set_ne hij _
   rw[←this];exact List.getElem_mem _,rfl,rfl⟩
theorem D5 {g:Int}:∀ {l:List FileM},(∀ f∈l,OkP f.p)→Dd g l=0→∀ f∈l,f.p.g.any (g==·)=true→(Bj f.p (BN f.p)).2=0
 | [],_,_,f,hf,_=> absurd hf (by simp)
 | a::t,ha,h,f,hf,hg=> by
  rw[Dd] at h
  by_cases h1:a.p.g.any (g==·)=true∧(Bj a.p (BN a.p)).2≠0
  ·rw[if_pos h1] at h;exact absurd h h1.2
  ·rw[if_neg h1] at h
   rcases List.mem_cons.1 hf with rfl|hf
   ·exact Classical.byContradiction fun e=> h1 ⟨hg,e⟩
   ·exact D5 (fun f hf=> ha f (List.mem_cons_of_mem _ hf)) h f hf hg
theorem IK {g:Int} {f:FileM} (hp:OkP f.p) (h:f.p.g.any (g==·)=true→(Bj f.p (BN f.p)).2=0):Dk g f=if f.p.g.any (g==·)=true then ⟨f.nm,{f.p with e:=f.p.e+1},f.v,f.e,f.u,f.b⟩ else f:=by
 unfold Dk
 by_cases h1:f.p.g.any (g==·)=true
 ·rw[if_pos h1,if_pos h1]
  obtain⟨a,b⟩:=CZ hp (h h1)
  rw[b,(F4 hp a).2.1]
 ·rw[if_neg h1,if_neg h1]
theorem IL (g:Int) (f:FileM):(Dk g f).nm=f.nm:=by unfold Dk;split <;> rfl
theorem Lg {l:List FileM} {t:FileM→FileM} (h:l.Pairwise (fun x y=> BW x.nm y.nm<0)) (ht:∀ f,(t f).nm=f.nm):(l.map t).Pairwise (fun x y=> BW x.nm y.nm<0):=by
 rw[List.pairwise_map]
 exact h.imp (fun {a b} e=> by rw[ht,ht];exact e)
theorem Ko {s:IdM} {o:OpM} (h:ChkP s) (ho:opB o=true):ChkP (BZ s o).1:=by
 obtain⟨o1,o2,o3,o4,o5⟩:=EY ho
 unfold BZ
 by_cases h1:(Bz s o.g).2=false
 ·rw[if_pos h1];exact h
 ·rw[if_neg h1]
  have h1':(AW (fun x:CirM=> Bx x.n o.g) s.cs).2=true:=by simpa [Bz] using h1
  obtain⟨c,e1,e2,e3⟩:=CK (key:=CirM.n) DG h1'
  have e1':s.cs[(Bz s o.g).1]?=some c:=e1
  rw[e1']
  simp only
  obtain⟨c1,c2,c3,c4,c5⟩:=Ef (h.c c e3)
  have hset:∀ us:List Int,us.Pairwise (·<·)→(∀ u∈us,AX u=true)→(s.cs.set (Bz s o.g).1 ⟨c.n,c.o,us⟩).Pairwise (fun x y=> Bx x.n y.n<0)∧∀ x∈s.cs.set (Bz s o.g).1 ⟨c.n,c.o,us⟩,Ek x=true:=fun us k1 k2=> by
   refine⟨GH (key:=CirM.n) h.cp e1 rfl,fun x hx=> ?_⟩
   rcases mem_set hx with rfl|hx
   ·exact Le c1 c2 c3 k1 k2
   ·exact h.c x hx
  by_cases h2:c.o≠o.u
  ·rw[if_pos h2];exact h
  rw[if_neg h2]
  by_cases h3:o.k=9∧AX o.t=false
  ·rw[if_pos h3];exact h
  rw[if_neg h3]
  by_cases h4:o.k=9∧c.us.any (o.t==·)=true
  ·rw[if_pos h4];exact h
  rw[if_neg h4]
  by_cases h5:o.k=9
  ·rw[if_pos h5]
   have hu:AX o.t=true:=by
    cases e:AX o.t with
    | true=> rfl
    | false=> exact absurd ⟨h5,e⟩ h3
   have hw:Cl c.us (BT c.us o.t) o.t=Bs c.us o.t:=by
    unfold Bs
    rw[if_neg fun e=> h4 ⟨h5,e⟩]
   obtain⟨k1,k2⟩:=hset (Cl c.us (BT c.us o.t) o.t) (by rw[hw];exact Gx c4) (fun u hu'=> by
    rcases Is.1 hu' with rfl|h
    ·exact hu
    ·exact c5 u h)
   exact⟨h.fl,h.wl,h.fr,Ld k1,k2,fun f hf=> Jq (s:=s) (s':=⟨s.fs,s.cs.set (Bz s o.g).1 ⟨c.n,c.o,Cl c.us (BT c.us o.t) o.t⟩,s.ws⟩) (JM e1' rfl rfl) h.cp k1 (h.f f hf),h.w⟩
  rw[if_neg h5]
  by_cases h6:c.us.any (o.t==·)=false
  ·rw[if_pos h6];exact h
  rw[if_neg h6]
  by_cases h7:Dd o.g s.fs≠0
  ·rw[if_pos h7];exact h
  rw[if_neg h7]
  obtain⟨k1,k2⟩:=hset (c.us.eraseIdx (BT c.us o.t)) (c4.sublist (List.eraseIdx_sublist _ _)) (fun u hu'=> c5 u ((List.eraseIdx_sublist _ _).subset hu'))
  have hE:Dd o.g s.fs=0:=by simpa using h7
  refine⟨by simp only[List.length_map];exact h.fl,h.wl,JJ (Lg h.fp (IL _)),Ld k1,k2,?_,h.w⟩
  intro f' hf'
  obtain⟨f,hf,rfl⟩:=List.mem_map.1 hf'
  have hfil:Dg ⟨s.fs.map (Dk o.g),s.cs.set (Bz s o.g).1 ⟨c.n,c.o,c.us.eraseIdx (BT c.us o.t)⟩,s.ws⟩ f=true:=Jq (s:=s) (s':=⟨s.fs.map (Dk o.g),s.cs.set (Bz s o.g).1 ⟨c.n,c.o,c.us.eraseIdx (BT c.us o.t)⟩,s.ws⟩) (JM e1' rfl rfl) h.cp k1 (h.f f hf)
  obtain⟨a,b,c',d,e⟩:=Br hfil
  have hz:=D5 (fun f hf=> (Br (h.f f hf)).1) hE f hf
  rw[IK a hz]
  by_cases hg:f.p.g.any (o.g==·)=true
  ·rw[if_pos hg]
   obtain⟨t1,t2⟩:=CZ a (hz hg)
   exact Fp (F4 a t1).2.2 b (by simp only;omega) d e
  ·rw[if_neg hg];exact hfil
theorem Cv {s:IdM} {o:OpM} (h:ChkP s) (ho:opB o=true):ChkP (BJ s o).1:=by
 unfold BJ
 by_cases h1:o.k=1
 ·rw[if_pos h1];exact Jr h ho h1
 rw[if_neg h1]
 by_cases h2:o.k=2∨o.k=3
 ·rw[if_pos h2];exact II h ho h2
 rw[if_neg h2]
 by_cases h3:o.k=8
 ·rw[if_pos h3];exact Km h ho
 rw[if_neg h3]
 by_cases h4:o.k=9∨o.k=10
 ·rw[if_pos h4];exact Ko h ho
 rw[if_neg h4]
 exact IJ h
theorem LG {a b:ByteArray}:nmB a b=true↔a=b:=by
 unfold nmB
 rw[beq_iff_eq,Lib.toList_data,Lib.toList_data]
 constructor
 ·intro h
  have:a.data=b.data:=Array.toList_inj.1 h
  cases a;cases b;simp only at this;rw[this]
 ·intro h;rw[h]
def wsOf (s:IdM) (nm:ByteArray):List WrM:=s.ws.filter (fun x=> nmB x.nm nm)
structure InvL (s:IdM):Prop where
 chk:ChkP s
 hist:∀ f∈s.fs,((wsOf s f.nm).length:Int)=f.v∧(wsOf s f.nm).getLast?=some (BO f)
 own:∀ x∈s.ws,∃ f∈s.fs,f.nm=x.nm
theorem Lh {s:IdM} {o:OpM} (h:(doM s o).2.2=0):D0 s=true∧opB o=true∧doM s o=((BJ s o).1,(BJ s o).2,0):=by
 unfold doM at h ⊢
 by_cases h1:D0 s=true
 ·rw[if_pos h1] at h ⊢
  by_cases h2:opB o=true
  ·rw[if_pos h2] at h ⊢;exact⟨h1,h2,rfl⟩
  ·rw[if_neg h2] at h;cases h
 ·rw[if_neg h1] at h;cases h
theorem Kp {s:IdM} (h:ChkP s) {f:FileM} (hf:f∈s.fs):Dn s f.nm=(f,true):=by
 obtain⟨h1,h2⟩:=GG (key:=FileM.nm) Ce h.fp hf rfl
 unfold Dn
 rw[if_pos (Dj.2 h)]
 have h1':(Bu s f.nm).2=true:=h1
 have h2':s.fs[(Bu s f.nm).1]?=some f:=h2
 rw[if_pos h1',h2']
 rfl
def Li (o:OpM) (r:ResM) (f:FileM):Prop:=o.k=2∧r.e=0∧o.nm=f.nm
structure Kept (o:OpM) (r:ResM) (f g:FileM):Prop where
 nm:g.nm=f.nm
 ep:f.p.e≤g.p.e
 own:g.p.o=f.p.o
 y:Li o r f→g.v=f.v+1∧g.e=f.p.e∧EG f.p g.u=true
 n:¬ Li o r f→g.v=f.v∧g.b=f.b
structure Stay (s:IdM) (o:OpM) (t:IdM × ResM):Prop where
 same:t.2.e≠0∨o.k=3→t.1=s
 told:o.k≠3→t.2.v=0∧t.2.u=0∧t.2.b=tm0
 fs:∀ f∈s.fs,∃ g∈t.1.fs,Kept o t.2 f g
theorem Kept.self {o:OpM} {r:ResM} {f:FileM} (h:¬ Li o r f):Kept o r f f:=⟨rfl,Int.le_refl _,rfl,fun w=> absurd w h,fun _=> ⟨rfl,rfl⟩⟩
theorem Bl {s:IdM} {o:OpM} {e:Int} (h:e≠0):Stay s o (s,A1 e):=⟨fun _=> rfl,fun _=> ⟨rfl,rfl,rfl⟩,fun f hf=> ⟨f,hf,Kept.self fun w=> h w.2.1⟩⟩
theorem GJ {s s':IdM} {o:OpM} (hk:o.k≠2) (h3:o.k≠3) (h:∀ f∈s.fs,∃ g∈s'.fs,g.nm=f.nm∧f.p.e≤g.p.e∧g.p.o=f.p.o∧g.v=f.v∧g.b=f.b):Stay s o (s',A1 0):=
 ⟨fun h=> by
   rcases h with h|h
   ·exact absurd rfl h
   ·exact absurd h h3,fun _=> ⟨rfl,rfl,rfl⟩,fun f hf=> by
  obtain⟨g,hg,h1,h2,h4,h5,h6⟩:=h f hf
  exact⟨g,hg,⟨h1,h2,h4,fun w=> absurd w.1 hk,fun _=> ⟨h5,h6⟩⟩⟩⟩
theorem IM {fs:List FileM} {i:Nat} {f F:FileM} (h:fs[i]?=some f) {x:FileM} (hx:x∈fs):(x=f∧F∈fs.set i F)∨x∈fs.set i F:=by
 obtain⟨hi,rfl⟩:=List.getElem?_eq_some_iff.1 h
 obtain⟨j,hj,rfl⟩:=List.mem_iff_getElem.1 hx
 by_cases hij:i=j
 ·subst hij
  exact .inl ⟨rfl,List.mem_set hi _⟩
 ·right
  have:(fs.set i F)[j]'(by rw[List.length_set];exact hj)=fs[j]:=List.getElem_set_ne hij _
  rw[←this];exact List.getElem_mem _
theorem IN {s:IdM} {o:OpM} (hk:o.k=1):Stay s o (Ca s o):=by
 unfold Ca
 by_cases h1:BE o.nm≠o.u
 ·rw[if_pos h1];exact Bl (by decide)
 rw[if_neg h1]
 by_cases h2:(Bu s o.nm).2=true
 ·rw[if_pos h2];exact Bl (by decide)
 rw[if_neg h2]
 by_cases h3:s.fs.length=6∨s.ws.length=400
 ·rw[if_pos h3];exact Bl (by decide)
 rw[if_neg h3]
 exact GJ (by omega) (by omega) fun f hf=> ⟨f,Ei.2 (.inr hf),rfl,Int.le_refl _,rfl,rfl,rfl⟩
theorem Hs {s:IdM} {o:OpM} (h:ChkP s) (hk:o.k=2∨o.k=3):Stay s o (Bw s o):=by
 unfold Bw
 by_cases h1:(Bu s o.nm).2=false
 ·rw[if_pos h1];exact Bl (by decide)
 rw[if_neg h1]
 have h1':(AW (fun x:FileM=> BW x.nm o.nm) s.fs).2=true:=by simpa [Bu] using h1
 obtain⟨f,e1,e2,e3⟩:=CK (key:=FileM.nm) Ce h1'
 have e1':s.fs[(Bu s o.nm).1]?=some f:=e1
 rw[e1']
 simp only
 by_cases h2:o.k=3∧Fv f.p o.u (CQ s.cs)=true
 ·rw[if_pos h2]
  exact⟨fun _=> rfl,fun h=> absurd h2.1 h,fun x hx=> ⟨x,hx,Kept.self fun w=> by have:=w.1;have:=h2.1;omega⟩⟩
 rw[if_neg h2]
 by_cases h3:o.k=3∨EG f.p o.u=false
 ·rw[if_pos h3];exact Bl (by decide)
 rw[if_neg h3]
 by_cases h4:f.v=9999∨s.ws.length=400
 ·rw[if_pos h4];exact Bl (by decide)
 rw[if_neg h4]
 have hk2:o.k=2:=by
  rcases hk with h|h
  ·exact h
  ·exact absurd (.inl h) h3
 have hw:EG f.p o.u=true:=by
  cases e:EG f.p o.u with
  | true=> rfl
  | false=> exact absurd (.inr e) h3
 refine⟨fun h=> ?_,fun _=> ⟨rfl,rfl,rfl⟩,fun x hx=> ?_⟩
 ·rcases h with h|h
  ·exact absurd rfl h
  ·omega
 ·by_cases hn:x.nm=o.nm
  ·have hxf:x=f:=by
    have a:=GG (key:=FileM.nm) Ce h.fp hx hn
    have b:s.fs[(Bu s o.nm).1]?=some x:=a.2
    rw[e1'] at b
    exact(Option.some.inj b).symm
   subst hxf
   refine⟨_,set_in' e1',⟨rfl,Int.le_refl _,rfl,fun _=> ⟨rfl,rfl,hw⟩,fun w=> absurd ⟨hk2,rfl,hn.symm⟩ w⟩⟩
  ·refine⟨x,?_,Kept.self fun w=> hn w.2.2.symm⟩
   rcases IM (F:=B2 f o) e1' hx with⟨h,-⟩|h
   ·exact absurd (h ▸ e2) hn
   ·exact h
where
 set_in' {α:Type} {l:List α} {i:Nat} {x y:α} (h:l[i]?=some x):y∈l.set i y:=by
  obtain⟨hi,-⟩:=List.getElem?_eq_some_iff.1 h
  exact List.mem_set hi _
theorem Ht {s:IdM} {o:OpM} (h:ChkP s) (hk:o.k≠2) (h3:o.k≠3):Stay s o (Bg s o):=by
 unfold Bg
 by_cases h1:(Bu s o.nm).2=false
 ·rw[if_pos h1];exact Bl (by decide)
 rw[if_neg h1]
 have h1':(AW (fun x:FileM=> BW x.nm o.nm) s.fs).2=true:=by simpa [Bu] using h1
 obtain⟨f,e1,e2,e3⟩:=CK (key:=FileM.nm) Ce h1'
 have e1':s.fs[(Bu s o.nm).1]?=some f:=e1
 rw[e1']
 simp only
 by_cases h2:(Co s f.p o).2≠0
 ·rw[if_pos h2];exact Bl h2
 rw[if_neg h2]
 obtain⟨p1,p2,p3,p4⟩:=JL h.cp (Br (h.f f e3)).1 (by simpa using h2)
 refine GJ hk h3 fun x hx=> ?_
 rcases IM (F:=(⟨f.nm,(Co s f.p o).1,f.v,f.e,f.u,f.b⟩:FileM)) e1' hx with⟨rfl,hm⟩|hm
 ·exact⟨_,hm,rfl,p3,p2,rfl,rfl⟩
 ·exact⟨x,hm,rfl,Int.le_refl _,rfl,rfl,rfl⟩
theorem Js {s:IdM} {o:OpM} (hk:o.k≠2) (h3:o.k≠3):Stay s o (CR s o):=by
 unfold CR
 by_cases h1:o.g<1∨3<o.g
 ·rw[if_pos h1];exact Bl (by decide)
 rw[if_neg h1]
 by_cases h2:(Bz s o.g).2=true
 ·rw[if_pos h2];exact Bl (by decide)
 rw[if_neg h2]
 exact GJ hk h3 fun f hf=> ⟨f,hf,rfl,Int.le_refl _,rfl,rfl,rfl⟩
theorem Jt {s:IdM} {o:OpM} (h:ChkP s) (hk:o.k≠2) (h3:o.k≠3):Stay s o (BZ s o):=by
 unfold BZ
 by_cases h1:(Bz s o.g).2=false
 ·rw[if_pos h1];exact Bl (by decide)
 rw[if_neg h1]
 cases e:s.cs[(Bz s o.g).1]? with
 | none=> exact Bl (by decide)
 | some c=>
  simp only
  by_cases k2:c.o≠o.u
  ·rw[if_pos k2];exact Bl (by decide)
  rw[if_neg k2]
  by_cases k3:o.k=9∧AX o.t=false
  ·rw[if_pos k3];exact Bl (by decide)
  rw[if_neg k3]
  by_cases k4:o.k=9∧c.us.any (o.t==·)=true
  ·rw[if_pos k4];exact Bl (by decide)
  rw[if_neg k4]
  by_cases k5:o.k=9
  ·rw[if_pos k5]
   exact GJ hk h3 fun f hf=> ⟨f,hf,rfl,Int.le_refl _,rfl,rfl,rfl⟩
  rw[if_neg k5]
  by_cases k6:c.us.any (o.t==·)=false
  ·rw[if_pos k6];exact Bl (by decide)
  rw[if_neg k6]
  by_cases k7:Dd o.g s.fs≠0
  ·rw[if_pos k7];exact Bl k7
  rw[if_neg k7]
  refine GJ hk h3 fun f hf=> ⟨Dk o.g f,List.mem_map.2 ⟨f,hf,rfl⟩,IL _ _,?_⟩
  have a:=(Br (h.f f hf)).1
  have hz:=D5 (fun f hf=> (Br (h.f f hf)).1) (by simpa using k7) f hf
  rw[IK a hz]
  split
  ·exact⟨by simp only;omega,rfl,rfl,rfl⟩
  ·exact⟨Int.le_refl _,rfl,rfl,rfl⟩
theorem Kq {s:IdM} {o:OpM} (h:ChkP s):Stay s o (BJ s o):=by
 unfold BJ
 by_cases h1:o.k=1
 ·rw[if_pos h1];exact IN h1
 rw[if_neg h1]
 by_cases h2:o.k=2∨o.k=3
 ·rw[if_pos h2];exact Hs h h2
 rw[if_neg h2]
 have k2:o.k≠2:=fun e=> h2 (.inl e)
 have k3:o.k≠3:=fun e=> h2 (.inr e)
 by_cases h3:o.k=8
 ·rw[if_pos h3];exact Js k2 k3
 rw[if_neg h3]
 by_cases h4:o.k=9∨o.k=10
 ·rw[if_pos h4];exact Jt h k2 k3
 rw[if_neg h4]
 exact Ht h k2 k3
theorem LH {s:IdM} {o:OpM} (he:(doM s o).2.2=0):
  ChkP s∧ChkP (doM s o).1∧((doM s o).2.1.e≠0∨o.k=3→(doM s o).1=s)∧(o.k≠3→(doM s o).2.1.v=0∧(doM s o).2.1.u=0∧(doM s o).2.1.b=tm0)∧
   ∀ f∈s.fs,∃ g,Dn (doM s o).1 f.nm=(g,true)∧f.v≤9999∧1≤f.v∧Kept o (doM s o).2.1 f g:=by
 obtain⟨h1,h2,h3⟩:=Lh he
 have hc:=Dj.1 h1
 have hS:=Kq (o:=o) hc
 have hc':=Cv hc h2
 rw[h3]
 refine⟨hc,hc',hS.same,hS.told,fun f hf=> ?_⟩
 obtain⟨g,hg,hk⟩:=hS.fs f hf
 have hv:=DA (Br (hc.f f hf)).2.2.2.1
 have:=Kp hc' hg
 rw[hk.nm] at this
 exact⟨g,this,hv.2.2.1,hv.2.1,hk⟩
theorem GK (x:WrM) (ca cb:List Value) (Fa Fb:Nat→Prop) (w:World) (ha:WrC Fa w ca x) (hb:WrC Fb w cb x):Calls Tryz.prog 40 #[.agg ca.toArray,.agg cb.toArray] w (fun e w'=> e=.returned (.bool true)∧Below w.heap.size w w'):=by
 obtain⟨nm,v,e,u,bb⟩:=x
 obtain⟨tca,rfl,hta⟩:=ha
 obtain⟨tcb,rfl,htb⟩:=hb
 have HT:=Ag (Ai hta htb)
 have HL:=Ag (Ai hta.len htb.len)
 clear hta htb
 go_enter Tryz.func40,Tryz.ntmps40
 go_upto_region 1 with(first
  | ((with_reducible refine Au w rfl 56 (.tmp 0) rfl (wrC nm v e u tca) rfl ?_);intro a1 hb hbel hsz;have H1:=hJ2 hb hbel;clear hb hbel hsz)
  | ((with_reducible refine Au a1 rfl 56 (.tmp 1) rfl (wrC nm v e u tcb) rfl ?_);intro a2 hb hbel hsz;have H2:=hJ3 (H1.out.1.below hbel H1.out.1.lt) (An H1.out.2 hbel (Ah _)) hb;clear hb hbel hsz))
 try simp only[Al,Ad,Ae,Af]
 have c0:=H2.out.1.cell 0
 simp only[wrC,Ab,Ac] at c0
 have d0:=H2.out.2.2.cell 0
 simp only[wrC,Ab,Ac] at d0
 have c1:=H2.out.1.cell 1
 simp only[wrC,Ab,Ac] at c1
 have d1:=H2.out.2.2.cell 1
 simp only[wrC,Ab,Ac] at d1
 have c2:=H2.out.1.cell 2
 simp only[wrC,Ab,Ac] at c2
 have d2:=H2.out.2.2.cell 2
 simp only[wrC,Ab,Ac] at d2
 have c3:=H2.out.1.cell 3
 simp only[wrC,Ab,Ac] at c3
 have d3:=H2.out.2.2.cell 3
 simp only[wrC,Ab,Ac] at d3
 go_wp2_with (first
  | ((with_reducible refine AO ?_ 29 (.tmp 32) rfl (w.heap.size) 4 rfl (tca) _ (CI H2.out.1) Tryz.underlying29 rfl (At Tryz.infoTm HL.out.1) ?_);focus rfl)
  | ((with_reducible refine AO ?_ 29 (.tmp 34) rfl (a1.heap.size) 4 rfl (tcb) _ (CI H2.out.2.2) Tryz.underlying29 rfl (At Tryz.infoTm HL.out.2) ?_);focus rfl))
 refine(Dq bb bb tca tcb _ _ a2 (HT.out.1.below H2.out.2.1) (HT.out.2.below H2.out.2.1)).mono ?_
 rintro e' z1 ⟨rfl,hb⟩
 rw[(Dp bb bb).2 rfl]
 have HZ:=Ag (An H2.out.2.1 hb (Ah _))
 clear hb c0 c1 c2 c3 d0 d1 d2 d3
 go_wp2_with fail
 go_ret
 exact⟨rfl,HZ.out⟩
theorem Ju (x:CirM) (ca cb:List Value) (Fa Fb:Nat→Prop) (w:World) (ha:CiC Fa w ca x) (hb:CiC Fb w cb x):Calls Tryz.prog 43 #[.agg ca.toArray,.agg cb.toArray] w (fun e w'=> e=.returned (.bool true)∧Below w.heap.size w w'):=by
 obtain⟨n,o2,us⟩:=x
 obtain⟨va,rfl,hta⟩:=ha
 obtain⟨vb,rfl,htb⟩:=hb
 obtain⟨aa,ac,rfl,-⟩:=hta.1.nums
 obtain⟨ba,bc,rfl,-⟩:=htb.1.nums
 simp only at hta htb ⊢
 have HT:=Ag (Ai hta.1 htb.1)
 obtain⟨un,hun⟩:∃ m,us.length=m:=⟨_,rfl⟩
 rw[hun] at HT ⊢
 clear hta htb hun
 go_enter Tryz.func43,Tryz.ntmps43
 go_upto_region 1 with(first
  | ((with_reducible refine Au w rfl 49 (.tmp 0) rfl (ciC n o2 (.slice aa un ac)) rfl ?_);intro a1 hb hbel hsz;have H1:=hJ2 hb hbel;clear hb hbel hsz)
  | ((with_reducible refine Au a1 rfl 49 (.tmp 1) rfl (ciC n o2 (.slice ba un bc)) rfl ?_);intro a2 hb hbel hsz;have H2:=hJ3 (H1.out.1.below hbel H1.out.1.lt) (An H1.out.2 hbel (Ah _)) hb;clear hb hbel hsz))
 try simp only[Al,Ad,Ae,Af]
 have c0:=H2.out.1.cell 0
 simp only[ciC,Ab,Ac] at c0
 have d0:=H2.out.2.2.cell 0
 simp only[ciC,Ab,Ac] at d0
 have c1:=H2.out.1.cell 1
 simp only[ciC,Ab,Ac] at c1
 have d1:=H2.out.2.2.cell 1
 simp only[ciC,Ab,Ac] at d1
 have c2:=H2.out.1.cell 2
 simp only[ciC,Ab,Ac] at c2
 have d2:=H2.out.2.2.cell 2
 simp only[ciC,Ab,Ac] at d2
 go_wp2_with fail
 refine(D8 _ _ us us a2 (HT.out.1.below H2.out.2.1 (Ah _)) (HT.out.2.below H2.out.2.1 (Ah _))).mono ?_
 rintro e' z1 ⟨rfl,hb⟩
 rw[show decide (us=us)=true from decide_eq_true rfl]
 have HZ:=Ag (An H2.out.2.1 (hb.below _) (Ah _))
 clear hb c0 c1 c2 d0 d1 d2
 go_wp2_with fail
 go_ret
 exact⟨rfl,HZ.out⟩
theorem Jv (x:FileM) (ca cb:List Value) (Fa Fb:Nat→Prop) (gg:Nat) (w:World) (ha:FlC Fa w ca x) (hb:FlC Fb w cb x) (hg:w.cell? ⟨gg,0,none⟩=some (.func (.func 40) #[] #[])):Calls Tryz.prog 41 #[.agg ca.toArray,.agg cb.toArray,.pointer (some ⟨gg,0,none⟩)] w (fun e w'=> e=.returned (.bool true)∧Below w.heap.size w w'):=by
 obtain⟨nm,⟨o2,pe,pr,pq,pg⟩,v,e,u,bb⟩:=x
 have HLA:=Ag ha.len
 have HLB:=Ag hb.len
 obtain⟨ra,qa,ga,tca,rfl,hpa,hta⟩:=ha
 obtain⟨rb,qb,gb,tcb,rfl,hpb,htb⟩:=hb
 have HT:=Ag (Ai hta htb)
 have HP:=Ag (Ai hpa hpb)
 have HGG:=Ag hg
 simp only at HLA HLB
 clear hta htb hpa hpb hg
 go_enter Tryz.func41,Tryz.ntmps41
 go_upto_region 1 with(first
  | ((with_reducible refine Au w rfl 45 (.tmp 0) rfl (flC nm o2 pe ra qa ga v e u tca) rfl ?_);intro a1 hb hbel hsz;have H1:=hJ2 hb hbel;clear hb hbel hsz)
  | ((with_reducible refine Au a1 rfl 45 (.tmp 1) rfl (flC nm o2 pe rb qb gb v e u tcb) rfl ?_);intro a2 hb hbel hsz;have H2:=hJ3 (H1.out.1.below hbel H1.out.1.lt) (An H1.out.2 hbel (Ah _)) hb;clear hb hbel hsz))
 try simp only[Al,Ad,Ae,Af]
 have H2b:=Ag (show Blk a2 (w.heap.size) 45 (flC nm o2 pe ra qa ga v e u tca)∧Below w.heap.size w a2∧Blk a2 (a1.heap.size) 45 (flC nm o2 pe rb qb gb v e u tcb)∧a2.cell? ⟨gg,0,none⟩=some (.func (.func 40) #[] #[]) from⟨H2.out.1,H2.out.2.1,H2.out.2.2,(H2.out.2.1.cell (p:=⟨gg,0,none⟩) (Am HGG.out)).trans HGG.out⟩)
 clear H1 H2
 go_wp2_with fail
 refine Az (fun W=> W.rangeAt (w.heap.size) 1 (pmC o2 pe ra qa ga)∧W.rangeAt (a1.heap.size) 1 (pmC o2 pe rb qb gb)∧W.rangeAt (w.heap.size) 0 (flC nm o2 pe ra qa ga v e u tca)∧W.rangeAt (a1.heap.size) 0 (flC nm o2 pe rb qb gb v e u tcb)∧W.cell? ⟨gg,0,none⟩=some (.func (.func 40) #[] #[])) [0,1,2,3] 10 (by kernel_rfl) rfl (by kernel_rfl) (by kernel_rfl) ⟨BQ H2b.out.1,BQ H2b.out.2.2.1,As H2b.out.1,As H2b.out.2.2.1,H2b.out.2.2.2⟩ ?_
 iterate 4(refine' AK.run ?_ ?_ ?_ ?_;rotate_left 2;(simp only[Aa,Ab,Ac];rfl);rfl;(rintro w' ⟨k0,k1,k2,k3,k4⟩;first|exact AB rfl rfl k0 Tryz.underlying43 rfl (Ay _ _ _ _ _)|exact AB rfl rfl k1 Tryz.underlying43 rfl (Ay _ _ _ _ _)|exact AB rfl rfl k2 Tryz.underlying45 rfl (At Tryz.infoFl HLA.out)|exact AB rfl rfl k3 Tryz.underlying45 rfl (At Tryz.infoFl HLB.out)|(go_simp;with_reducible rfl));simp only[Al,Ad,Ae,Af])
 have sm:=(Sm.refl a2).drew
 have HV2:=Ag (show Blk a2.drew (w.heap.size) 45 (flC nm o2 pe ra qa ga v e u tca)∧Below w.heap.size w a2.drew∧Blk a2.drew (a1.heap.size) 45 (flC nm o2 pe rb qb gb v e u tcb)∧a2.drew.cell? ⟨gg,0,none⟩=some (.func (.func 40) #[] #[]) from⟨H2b.out.1.below (sm.below _) H2b.out.1.lt,(An H2b.out.2.1 (sm.below _) (Ah _)),H2b.out.2.2.1.below (sm.below _) H2b.out.2.2.1.lt,(((sm.below _).cell (p:=⟨gg,0,none⟩) (Am H2b.out.2.2.2)).trans H2b.out.2.2.2)⟩)
 clear sm
 generalize a2.drew=v1 at HV2 ⊢
 refine' Ar 4 (by kernel_rfl) ?_ ?_;rotate_left;(simp only[Aa,Ab,Ac];rfl)
 try simp only[Al,Ad,Ae,Af]
 go_wp2_with fail
 refine(JW (⟨o2,pe,pr,pq,pg⟩:PmD) (⟨o2,pe,pr,pq,pg⟩:PmD) ra qa ga rb qb gb v1 (HP.out.1.below HV2.out.2.1).s (HP.out.2.below HV2.out.2.1).s).mono ?_
 rintro e' u3 ⟨rfl,hb⟩
 rw[(I1 (⟨o2,pe,pr,pq,pg⟩:PmD) (⟨o2,pe,pr,pq,pg⟩:PmD)).2 rfl]
 have K4:=Ag (show Blk u3 (w.heap.size) 45 (flC nm o2 pe ra qa ga v e u tca)∧Below w.heap.size w u3∧Blk u3 (a1.heap.size) 45 (flC nm o2 pe rb qb gb v e u tcb)∧u3.cell? ⟨gg,0,none⟩=some (.func (.func 40) #[] #[]) from⟨HV2.out.1.below hb HV2.out.1.lt,(An HV2.out.2.1 hb (Ah _)),HV2.out.2.2.1.below hb HV2.out.2.2.1.lt,((hb.cell (p:=⟨gg,0,none⟩) (Am HV2.out.2.2.2)).trans HV2.out.2.2.2)⟩)
 clear hb
 go_wp2_with fail
 refine QK.normal ⟨⟨BQ K4.out.1,BQ K4.out.2.2.1,As K4.out.1,As K4.out.2.2.1,K4.out.2.2.2⟩,?_⟩
 refine Bi (fuel:=5) (by kernel_rfl) AG ⟨BQ K4.out.1,BQ K4.out.2.2.1,As K4.out.1,As K4.out.2.2.1,K4.out.2.2.2⟩ [5,6,7,9] _ _ (by kernel_rfl) ?_
 try simp only[Al]
 iterate 4(refine' AK.run ?_ ?_ ?_ ?_;rotate_left 2;(simp only[Aa,Ab,Ac];rfl);rfl;(rintro w' ⟨k0,k1,k2,k3,k4⟩;first|exact AB rfl rfl k0 Tryz.underlying43 rfl (Ay _ _ _ _ _)|exact AB rfl rfl k1 Tryz.underlying43 rfl (Ay _ _ _ _ _)|exact AB rfl rfl k2 Tryz.underlying45 rfl (At Tryz.infoFl HLA.out)|exact AB rfl rfl k3 Tryz.underlying45 rfl (At Tryz.infoFl HLB.out)|(go_simp;with_reducible rfl));simp only[Al,Ad,Ae,Af])
 refine' Ar 8 (by kernel_rfl) ?_ ?_;rotate_left;(simp only[Aa,Ab,Ac];rfl)
 try simp only[Al,Ad,Ae,Af]
 go_wp2_with fail
 refine(EL ⟨nm,(⟨o2,pe,pr,pq,pg⟩:PmD),v,e,u,bb⟩ ra qa ga tca _ u3 (HT.out.1.below K4.out.2.1)).mono ?_
 rintro e' u5 ⟨rfl,hb⟩
 have K6:=Ag (show Blk u5 (w.heap.size) 45 (flC nm o2 pe ra qa ga v e u tca)∧Below w.heap.size w u5∧Blk u5 (a1.heap.size) 45 (flC nm o2 pe rb qb gb v e u tcb)∧u5.cell? ⟨gg,0,none⟩=some (.func (.func 40) #[] #[]) from⟨K4.out.1.below hb K4.out.1.lt,(An K4.out.2.1 hb (Ah _)),K4.out.2.2.1.below hb K4.out.2.2.1.lt,((hb.cell (p:=⟨gg,0,none⟩) (Am K4.out.2.2.2)).trans K4.out.2.2.2)⟩)
 clear hb
 go_wp2_with fail
 refine QK.normal ⟨⟨BQ K6.out.1,BQ K6.out.2.2.1,As K6.out.1,As K6.out.2.2.1,K6.out.2.2.2⟩,?_⟩
 refine' Ar 10 (by kernel_rfl) ?_ ?_;rotate_left;(simp only[Aa,Ab,Ac];rfl)
 try simp only[Al,Ad,Ae,Af]
 go_wp2_with fail
 refine(EL ⟨nm,(⟨o2,pe,pr,pq,pg⟩:PmD),v,e,u,bb⟩ rb qb gb tcb _ u5 (HT.out.2.below K6.out.2.1)).mono ?_
 rintro e' u7 ⟨rfl,hb⟩
 have K8:=Ag (show Blk u7 (w.heap.size) 45 (flC nm o2 pe ra qa ga v e u tca)∧Below w.heap.size w u7∧Blk u7 (a1.heap.size) 45 (flC nm o2 pe rb qb gb v e u tcb)∧u7.cell? ⟨gg,0,none⟩=some (.func (.func 40) #[] #[]) from⟨K6.out.1.below hb K6.out.1.lt,(An K6.out.2.1 hb (Ah _)),K6.out.2.2.1.below hb K6.out.2.2.1.lt,((hb.cell (p:=⟨gg,0,none⟩) (Am K6.out.2.2.2)).trans K6.out.2.2.2)⟩)
 clear hb
 go_wp2_with fail
 refine QK.normal ⟨⟨BQ K8.out.1,BQ K8.out.2.2.1,As K8.out.1,As K8.out.2.2.1,K8.out.2.2.2⟩,?_⟩
 refine' Ar 11 (by kernel_rfl) ?_ ?_;rotate_left;(simp only[Aa,Ab,Ac];rfl)
 try simp only[Al,Ad,Ae,Af]
 go_wp2_with fail
 refine(GK ⟨nm,v,e,u,bb⟩ _ _ _ _ u7 ⟨tca,rfl,HT.out.1.below K8.out.2.1⟩ ⟨tcb,rfl,HT.out.2.below K8.out.2.1⟩).mono ?_
 rintro e' u9 ⟨rfl,hb⟩
 have K10:=Ag (show Blk u9 (w.heap.size) 45 (flC nm o2 pe ra qa ga v e u tca)∧Below w.heap.size w u9∧Blk u9 (a1.heap.size) 45 (flC nm o2 pe rb qb gb v e u tcb)∧u9.cell? ⟨gg,0,none⟩=some (.func (.func 40) #[] #[]) from⟨K8.out.1.below hb K8.out.1.lt,(An K8.out.2.1 hb (Ah _)),K8.out.2.2.1.below hb K8.out.2.2.1.lt,((hb.cell (p:=⟨gg,0,none⟩) (Am K8.out.2.2.2)).trans K8.out.2.2.2)⟩)
 clear hb
 go_wp2_with fail
 refine QK.normal ⟨⟨BQ K10.out.1,BQ K10.out.2.2.1,As K10.out.1,As K10.out.2.2.1,K10.out.2.2.2⟩,?_⟩
 refine' Ar 12 (by kernel_rfl) ?_ ?_;rotate_left;(simp only[Aa,Ab,Ac];rfl)
 try simp only[Al]
 go_wp2_with fail
 refine QK.normal ⟨⟨BQ K10.out.1,BQ K10.out.2.2.1,As K10.out.1,As K10.out.2.2.1,K10.out.2.2.2⟩,?_⟩
 refine' Ar 13 (by kernel_rfl) ?_ ?_;rotate_left;(simp only[Aa,Ab,Ac];rfl)
 try simp only[Al]
 go_wp2_with fail
 refine QK.normal ⟨⟨BQ K10.out.1,BQ K10.out.2.2.1,As K10.out.1,As K10.out.2.2.1,K10.out.2.2.2⟩,?_⟩
 refine wpAnyH_done (by kernel_rfl) ?_ _
 refine NoPanic.normal ?_
 go_wp2_with fail
 go_ret
 exact⟨rfl,K10.out.2.1⟩
theorem Lj (l:List FileM) (va vb:Value) (Fa Fb Ga Gb:Nat→Prop) (gg:Nat) (w:World) (ha:RwC (FlC Fa) 14 Ga w va l) (hb:RwC (FlC Fb) 14 Gb w vb l) (hg:w.cell? ⟨gg,0,none⟩=some (.func (.func 40) #[] #[])):Calls Tryz.prog 45 #[va,vb,.func (.func 41) #[] #[.pointer (some ⟨gg,0,none⟩)]] w (fun e w'=> e=.returned (.bool true)∧Below w.heap.size w w'):=by
 obtain⟨ao,c,rfl,hca,hcm⟩:=ha.shape
 obtain⟨bo,d,rfl,hdb,hdm⟩:=hb.shape
 obtain⟨m,hm⟩:∃ m,l.length=m:=⟨_,rfl⟩
 have HM:=Ag hm
 rw[hm] at ha hb hca hdb ⊢
 have hm63:m≤9223372036854775807:=by unfold maxLen at hcm;have:=hca;omega
 have HA:=Ag ha
 have HB:=Ag hb
 have H0:=Ag (show Below w.heap.size w w∧w.cell? ⟨gg,0,none⟩=some (.func (.func 40) #[] #[]) from⟨Below.refl _ _,hg⟩)
 clear ha hb hm hca hcm hdb hdm hg
 have e1:((m:Int) !=(m:Int))=false:=by simp
 go_enter Tryz.func45,Tryz.ntmps45
 go_wp2_with fail
 clear e1
 go_loopw [17] (fun i wr=> ∃ (j:Nat),i=.int .i64 j∧j≤m∧Hid (Below w.heap.size w wr∧wr.cell? ⟨gg,0,none⟩=some (.func (.func 40) #[] #[]))) (fun i _=> m - (intOf i).toNat)
 case atStart=> exact⟨0,rfl,Nat.zero_le _,H0⟩
 case round=>
  clear H0
  obtain⟨j,rfl,hj,HW⟩:=hrel
  by_cases hlt:j<m
  ·have hja:j<l.length:=by rw[HM.out];exact hlt
   have hjz:(j:Int)<(m:Int):=by omega
   have hj0:(0:Int)≤(j:Int):=by omega
   obtain⟨b1,o1,ca,rfl,-,-,hla,hra,hta⟩:=HA.out.get hja
   obtain⟨b2,o2,cb,rfl,-,-,hlb,hrb,htb⟩:=HB.out.get hja
   generalize l[j]=x at hta htb
   have HRA:=Ag (Ai hra hrb)
   have HTM:=Ag (Ai hta htb)
   have HLN:=Ag (Ai hla hlb)
   have HON:=Ag (Ai hta.one htb.one)
   have HZA:=Ag (show ca.length=(flC ⟨#[]⟩ 0 0 (.slice none 0 0) (.slice none 0 0) (.slice none 0 0) 0 0 0 (tmC 0 0 0 ⟨#[]⟩ (.slice none 0 0)):List Value).length from hla)
   have HZB:=Ag (show cb.length=(flC ⟨#[]⟩ 0 0 (.slice none 0 0) (.slice none 0 0) (.slice none 0 0) 0 0 0 (tmC 0 0 0 ⟨#[]⟩ (.slice none 0 0)):List Value).length from hlb)
   clear hra hrb hta htb hja hla hlb
   go_wp2_with (first
  | (with_reducible refine Ap rfl 45 (.tmp 20) rfl b1 (o1+j* 14) rfl ca _ (AD HRA.out.1 HW.out.1) Tryz.underlying45 rfl (At Tryz.infoFl HLN.out.1) ?_)
  | ((with_reducible refine Av wr rfl 45 rfl (flC ⟨#[]⟩ 0 0 (.slice none 0 0) (.slice none 0 0) (.slice none 0 0) 0 0 0 (tmC 0 0 0 ⟨#[]⟩ (.slice none 0 0))) Tryz.zeroFl14 ?_);intro d1 hb hbel hsz;have HD1:=Ag (Ai hb hbel);clear hb hbel hsz)
  | ((with_reducible refine Ao d1 rfl 45 (.tmp 8) (.tmp 21) rfl (wr.heap.size) 45 (flC ⟨#[]⟩ 0 0 (.slice none 0 0) (.slice none 0 0) (.slice none 0 0) 0 0 0 (tmC 0 0 0 ⟨#[]⟩ (.slice none 0 0))) (ca) HD1.out.1 rfl rfl HZA.out (At Tryz.infoFl HLN.out.1) HON.out.1 ?_);intro d2 hb hc hs;have hbx:=By HD1.out.2 hc;have HD2:=Ag (show Below w.heap.size w d2∧d2.cell? ⟨gg,0,none⟩=some (.func (.func 40) #[] #[])∧Blk d2 (wr.heap.size) 45 (ca) from⟨(An HW.out.1 hbx (Ah _)),((hbx.cell (p:=⟨gg,0,none⟩) (Am HW.out.2)).trans HW.out.2),hb⟩);clear hb hc hs hbx)
  | (with_reducible refine Ap rfl 45 (.tmp 24) rfl b2 (o2+j* 14) rfl cb _ (AD HRA.out.2 HD2.out.1) Tryz.underlying45 rfl (At Tryz.infoFl HLN.out.2) ?_)
  | ((with_reducible refine Av d2 rfl 45 rfl (flC ⟨#[]⟩ 0 0 (.slice none 0 0) (.slice none 0 0) (.slice none 0 0) 0 0 0 (tmC 0 0 0 ⟨#[]⟩ (.slice none 0 0))) Tryz.zeroFl14 ?_);intro d3 hb hbel hsz;have HD3:=Ag (Ai hb hbel);clear hb hbel hsz)
  | ((with_reducible refine Ao d3 rfl 45 (.tmp 9) (.tmp 25) rfl (d2.heap.size) 45 (flC ⟨#[]⟩ 0 0 (.slice none 0 0) (.slice none 0 0) (.slice none 0 0) 0 0 0 (tmC 0 0 0 ⟨#[]⟩ (.slice none 0 0))) (cb) HD3.out.1 rfl rfl HZB.out (At Tryz.infoFl HLN.out.2) HON.out.2 ?_);intro d4 hb hc hs;have hbx:=By HD3.out.2 hc;have HD4:=Ag (show Below w.heap.size w d4∧d4.cell? ⟨gg,0,none⟩=some (.func (.func 40) #[] #[])∧Blk d4 (wr.heap.size) 45 (ca)∧Blk d4 (d2.heap.size) 45 (cb) from⟨(An HD2.out.1 hbx (Ah _)),((hbx.cell (p:=⟨gg,0,none⟩) (Am HD2.out.2.1)).trans HD2.out.2.1),HD2.out.2.2.below hbx HD2.out.2.2.lt,hb⟩);clear hb hc hs hbx)
  | (with_reducible refine Ap rfl 45 (.tmp 8) rfl (wr.heap.size) 0 rfl ca _ (As HD4.out.2.2.1) Tryz.underlying45 rfl (At Tryz.infoFl HLN.out.1) ?_)
  | (with_reducible refine Ap rfl 45 (.tmp 9) rfl (d2.heap.size) 0 rfl cb _ (As HD4.out.2.2.2) Tryz.underlying45 rfl (At Tryz.infoFl HLN.out.2) ?_))
   refine(Jv x ca cb _ _ gg d4 (HTM.out.1.below HD4.out.1) (HTM.out.2.below HD4.out.1) HD4.out.2.1).mono ?_
   rintro e' d5 ⟨rfl,hb⟩
   have HD5:=Ag (show Below w.heap.size w d5∧d5.cell? ⟨gg,0,none⟩=some (.func (.func 40) #[] #[])∧Blk d5 (wr.heap.size) 45 (ca)∧Blk d5 (d2.heap.size) 45 (cb) from⟨(An HD4.out.1 hb (Ah _)),((hb.cell (p:=⟨gg,0,none⟩) (Am HD4.out.2.1)).trans HD4.out.2.1),HD4.out.2.2.1.below hb HD4.out.2.2.1.lt,HD4.out.2.2.2.below hb HD4.out.2.2.2.lt⟩)
   clear hb
   go_wp2_with fail
   go_roundw
   case rel=> exact⟨j+1,by go_num,by omega,Ag ⟨HD5.out.1,HD5.out.2.1⟩⟩
   case measure=> simp[intOf];omega
  ·have hge:¬ (j:Int)<(m:Int):=by omega
   go_wp2_with fail
   go_ret
   exact⟨rfl,HW.out.1⟩
theorem Lk (l:List CirM) (va vb:Value) (Fa Fb Ga Gb:Nat→Prop) (w:World) (ha:RwC (CiC Fa) 3 Ga w va l) (hb:RwC (CiC Fb) 3 Gb w vb l):Calls Tryz.prog 46 #[va,vb,.func (.func 43) #[] #[]] w (fun e w'=> e=.returned (.bool true)∧Below w.heap.size w w'):=by
 obtain⟨ao,c,rfl,hca,hcm⟩:=ha.shape
 obtain⟨bo,d,rfl,hdb,hdm⟩:=hb.shape
 obtain⟨m,hm⟩:∃ m,l.length=m:=⟨_,rfl⟩
 have HM:=Ag hm
 rw[hm] at ha hb hca hdb ⊢
 have hm63:m≤9223372036854775807:=by unfold maxLen at hcm;have:=hca;omega
 have HA:=Ag ha
 have HB:=Ag hb
 have H0:=Ag (show Below w.heap.size w w from Below.refl _ _)
 clear ha hb hm hca hcm hdb hdm
 have e1:((m:Int) !=(m:Int))=false:=by simp
 go_enter Tryz.func46,Tryz.ntmps46
 go_wp2_with fail
 clear e1
 go_loopw [17] (fun i wr=> ∃ (j:Nat),i=.int .i64 j∧j≤m∧Hid (Below w.heap.size w wr)) (fun i _=> m - (intOf i).toNat)
 case atStart=> exact⟨0,rfl,Nat.zero_le _,H0⟩
 case round=>
  clear H0
  obtain⟨j,rfl,hj,HW⟩:=hrel
  by_cases hlt:j<m
  ·have hja:j<l.length:=by rw[HM.out];exact hlt
   have hjz:(j:Int)<(m:Int):=by omega
   have hj0:(0:Int)≤(j:Int):=by omega
   obtain⟨b1,o1,ca,rfl,-,-,hla,hra,hta⟩:=HA.out.get hja
   obtain⟨b2,o2,cb,rfl,-,-,hlb,hrb,htb⟩:=HB.out.get hja
   generalize l[j]=x at hta htb
   have HRA:=Ag (Ai hra hrb)
   have HTM:=Ag (Ai hta htb)
   have HLN:=Ag (Ai hla hlb)
   have HON:=Ag (Ai hta.one htb.one)
   have HZA:=Ag (show ca.length=(ciC 0 0 (.slice none 0 0):List Value).length from hla)
   have HZB:=Ag (show cb.length=(ciC 0 0 (.slice none 0 0):List Value).length from hlb)
   clear hra hrb hta htb hja hla hlb
   go_wp2_with (first
  | (with_reducible refine Ap rfl 49 (.tmp 20) rfl b1 (o1+j* 3) rfl ca _ (AD HRA.out.1 HW.out) Tryz.underlying49 rfl (At Tryz.infoCi HLN.out.1) ?_)
  | ((with_reducible refine Av wr rfl 49 rfl (ciC 0 0 (.slice none 0 0)) Tryz.zeroCi3 ?_);intro d1 hb hbel hsz;have HD1:=Ag (Ai hb hbel);clear hb hbel hsz)
  | ((with_reducible refine Ao d1 rfl 49 (.tmp 8) (.tmp 21) rfl (wr.heap.size) 49 (ciC 0 0 (.slice none 0 0)) (ca) HD1.out.1 rfl rfl HZA.out (At Tryz.infoCi HLN.out.1) HON.out.1 ?_);intro d2 hb hc hs;have hbx:=By HD1.out.2 hc;have HD2:=hJ2 (An HW.out hbx (Ah _)) hb;clear hb hc hs hbx)
  | (with_reducible refine Ap rfl 49 (.tmp 24) rfl b2 (o2+j* 3) rfl cb _ (AD HRA.out.2 HD2.out.1) Tryz.underlying49 rfl (At Tryz.infoCi HLN.out.2) ?_)
  | ((with_reducible refine Av d2 rfl 49 rfl (ciC 0 0 (.slice none 0 0)) Tryz.zeroCi3 ?_);intro d3 hb hbel hsz;have HD3:=Ag (Ai hb hbel);clear hb hbel hsz)
  | ((with_reducible refine Ao d3 rfl 49 (.tmp 9) (.tmp 25) rfl (d2.heap.size) 49 (ciC 0 0 (.slice none 0 0)) (cb) HD3.out.1 rfl rfl HZB.out (At Tryz.infoCi HLN.out.2) HON.out.2 ?_);intro d4 hb hc hs;have hbx:=By HD3.out.2 hc;have HD4:=hJ3 (An HD2.out.1 hbx (Ah _)) (HD2.out.2.below hbx HD2.out.2.lt) hb;clear hb hc hs hbx)
  | (with_reducible refine Ap rfl 49 (.tmp 8) rfl (wr.heap.size) 0 rfl ca _ (As HD4.out.2.1) Tryz.underlying49 rfl (At Tryz.infoCi HLN.out.1) ?_)
  | (with_reducible refine Ap rfl 49 (.tmp 9) rfl (d2.heap.size) 0 rfl cb _ (As HD4.out.2.2) Tryz.underlying49 rfl (At Tryz.infoCi HLN.out.2) ?_))
   refine(Ju x ca cb _ _ d4 (HTM.out.1.keep' (Ch.of_below (S:=fun _=> False) HD4.out.1 (Ah _)) (fun _ _ e=> e) (fun _ h=> h)) (HTM.out.2.keep' (Ch.of_below (S:=fun _=> False) HD4.out.1 (Ah _)) (fun _ _ e=> e) (fun _ h=> h))).mono ?_
   rintro e' d5 ⟨rfl,hb⟩
   have HD5:=hJ3 (An HD4.out.1 hb (Ah _)) (HD4.out.2.1.below hb HD4.out.2.1.lt) (HD4.out.2.2.below hb HD4.out.2.2.lt)
   clear hb
   go_wp2_with fail
   go_roundw
   case rel=> exact⟨j+1,by go_num,by omega,Ag HD5.out.1⟩
   case measure=> simp[intOf];omega
  ·have hge:¬ (j:Int)<(m:Int):=by omega
   go_wp2_with fail
   go_ret
   exact⟨rfl,HW.out⟩
theorem Ll (l:List WrM) (va vb:Value) (Fa Fb Ga Gb:Nat→Prop) (w:World) (ha:RwC (WrC Fa) 9 Ga w va l) (hb:RwC (WrC Fb) 9 Gb w vb l):Calls Tryz.prog 47 #[va,vb,.func (.func 40) #[] #[]] w (fun e w'=> e=.returned (.bool true)∧Below w.heap.size w w'):=by
 obtain⟨ao,c,rfl,hca,hcm⟩:=ha.shape
 obtain⟨bo,d,rfl,hdb,hdm⟩:=hb.shape
 obtain⟨m,hm⟩:∃ m,l.length=m:=⟨_,rfl⟩
 have HM:=Ag hm
 rw[hm] at ha hb hca hdb ⊢
 have hm63:m≤9223372036854775807:=by unfold maxLen at hcm;have:=hca;omega
 have HA:=Ag ha
 have HB:=Ag hb
 have H0:=Ag (show Below w.heap.size w w from Below.refl _ _)
 clear ha hb hm hca hcm hdb hdm
 have e1:((m:Int) !=(m:Int))=false:=by simp
 go_enter Tryz.func47,Tryz.ntmps47
 go_wp2_with fail
 clear e1
 go_loopw [17] (fun i wr=> ∃ (j:Nat),i=.int .i64 j∧j≤m∧Hid (Below w.heap.size w wr)) (fun i _=> m - (intOf i).toNat)
 case atStart=> exact⟨0,rfl,Nat.zero_le _,H0⟩
 case round=>
  clear H0
  obtain⟨j,rfl,hj,HW⟩:=hrel
  by_cases hlt:j<m
  ·have hja:j<l.length:=by rw[HM.out];exact hlt
   have hjz:(j:Int)<(m:Int):=by omega
   have hj0:(0:Int)≤(j:Int):=by omega
   obtain⟨b1,o1,ca,rfl,-,-,hla,hra,hta⟩:=HA.out.get hja
   obtain⟨b2,o2,cb,rfl,-,-,hlb,hrb,htb⟩:=HB.out.get hja
   generalize l[j]=x at hta htb
   have HRA:=Ag (Ai hra hrb)
   have HTM:=Ag (Ai hta htb)
   have HLN:=Ag (Ai hla hlb)
   have HON:=Ag (Ai hta.one htb.one)
   have HZA:=Ag (show ca.length=(wrC ⟨#[]⟩ 0 0 0 (tmC 0 0 0 ⟨#[]⟩ (.slice none 0 0)):List Value).length from hla)
   have HZB:=Ag (show cb.length=(wrC ⟨#[]⟩ 0 0 0 (tmC 0 0 0 ⟨#[]⟩ (.slice none 0 0)):List Value).length from hlb)
   clear hra hrb hta htb hja hla hlb
   go_wp2_with (first
  | (with_reducible refine Ap rfl 56 (.tmp 20) rfl b1 (o1+j* 9) rfl ca _ (AD HRA.out.1 HW.out) Tryz.underlying56 rfl (At Tryz.infoWr HLN.out.1) ?_)
  | ((with_reducible refine Av wr rfl 56 rfl (wrC ⟨#[]⟩ 0 0 0 (tmC 0 0 0 ⟨#[]⟩ (.slice none 0 0))) Tryz.zeroWr9 ?_);intro d1 hb hbel hsz;have HD1:=Ag (Ai hb hbel);clear hb hbel hsz)
  | ((with_reducible refine Ao d1 rfl 56 (.tmp 8) (.tmp 21) rfl (wr.heap.size) 56 (wrC ⟨#[]⟩ 0 0 0 (tmC 0 0 0 ⟨#[]⟩ (.slice none 0 0))) (ca) HD1.out.1 rfl rfl HZA.out (At Tryz.infoWr HLN.out.1) HON.out.1 ?_);intro d2 hb hc hs;have hbx:=By HD1.out.2 hc;have HD2:=hJ2 (An HW.out hbx (Ah _)) hb;clear hb hc hs hbx)
  | (with_reducible refine Ap rfl 56 (.tmp 24) rfl b2 (o2+j* 9) rfl cb _ (AD HRA.out.2 HD2.out.1) Tryz.underlying56 rfl (At Tryz.infoWr HLN.out.2) ?_)
  | ((with_reducible refine Av d2 rfl 56 rfl (wrC ⟨#[]⟩ 0 0 0 (tmC 0 0 0 ⟨#[]⟩ (.slice none 0 0))) Tryz.zeroWr9 ?_);intro d3 hb hbel hsz;have HD3:=Ag (Ai hb hbel);clear hb hbel hsz)
  | ((with_reducible refine Ao d3 rfl 56 (.tmp 9) (.tmp 25) rfl (d2.heap.size) 56 (wrC ⟨#[]⟩ 0 0 0 (tmC 0 0 0 ⟨#[]⟩ (.slice none 0 0))) (cb) HD3.out.1 rfl rfl HZB.out (At Tryz.infoWr HLN.out.2) HON.out.2 ?_);intro d4 hb hc hs;have hbx:=By HD3.out.2 hc;have HD4:=hJ3 (An HD2.out.1 hbx (Ah _)) (HD2.out.2.below hbx HD2.out.2.lt) hb;clear hb hc hs hbx)
  | (with_reducible refine Ap rfl 56 (.tmp 8) rfl (wr.heap.size) 0 rfl ca _ (As HD4.out.2.1) Tryz.underlying56 rfl (At Tryz.infoWr HLN.out.1) ?_)
  | (with_reducible refine Ap rfl 56 (.tmp 9) rfl (d2.heap.size) 0 rfl cb _ (As HD4.out.2.2) Tryz.underlying56 rfl (At Tryz.infoWr HLN.out.2) ?_))
   refine(GK x ca cb _ _ d4 (HTM.out.1.keep' (Ch.of_below (S:=fun _=> False) HD4.out.1 (Ah _)) (fun _ _ e=> e) (fun _ h=> h)) (HTM.out.2.keep' (Ch.of_below (S:=fun _=> False) HD4.out.1 (Ah _)) (fun _ _ e=> e) (fun _ h=> h))).mono ?_
   rintro e' d5 ⟨rfl,hb⟩
   have HD5:=hJ3 (An HD4.out.1 hb (Ah _)) (HD4.out.2.1.below hb HD4.out.2.1.lt) (HD4.out.2.2.below hb HD4.out.2.2.lt)
   clear hb
   go_wp2_with fail
   go_roundw
   case rel=> exact⟨j+1,by go_num,by omega,Ag HD5.out.1⟩
   case measure=> simp[intOf];omega
  ·have hge:¬ (j:Int)<(m:Int):=by omega
   go_wp2_with fail
   go_ret
   exact⟨rfl,HW.out⟩
theorem Tryz.zeroFn87:∀ w,(zeroValue 87).run Tryz.prog w=.ok .nilFunc w:=fun w=> by kernel_rfl
theorem Tryz.sizeFn87:(Tryz.prog.info? 87).map (·.size)=some 1:=by kernel_rfl
theorem D6 (s:IdM) (ca cb:List Value) (Fa Fb:Nat→Prop) (w:World) (ha:IdC Fa w ca s) (hb:IdC Fb w cb s):Calls Tryz.prog 17 #[.agg ca.toArray,.agg cb.toArray] w (fun e w'=> e=.returned (.bool true)∧Below w.heap.size w w'):=by
 have HX:=Ag (fun (W:World) (hw:Below w.heap.size w W)=> Ai (ha.below hw) (hb.below hw))
 obtain⟨va,vb,vc,rfl,ha1,ha2,ha3⟩:=ha
 obtain⟨ua,ub,uc,rfl,hb1,hb2,hb3⟩:=hb
 obtain⟨xf1,fc,rfl,-,-⟩:=ha1.shape
 obtain⟨xc1,cc,rfl,-,-⟩:=ha2.shape
 obtain⟨xw1,wc_,rfl,-,-⟩:=ha3.shape
 obtain⟨xf2,fd,rfl,-,-⟩:=hb1.shape
 obtain⟨xc2,cd,rfl,-,-⟩:=hb2.shape
 obtain⟨xw2,wd,rfl,-,-⟩:=hb3.shape
 obtain⟨fs,cs,ws⟩:=s
 simp only at HX ha1 ha2 ha3 hb1 hb2 hb3 ⊢
 clear ha1 ha2 ha3 hb1 hb2 hb3
 have HP:=Ag (show ∀ W,Below w.heap.size w W→(RwC (FlC Fa) 14 Fa W (.slice xf1 fs.length fc) fs∧RwC (FlC Fb) 14 Fb W (.slice xf2 fs.length fd) fs)∧(RwC (CiC Fa) 3 Fa W (.slice xc1 cs.length cc) cs∧RwC (CiC Fb) 3 Fb W (.slice xc2 cs.length cd) cs)∧(RwC (WrC Fa) 9 Fa W (.slice xw1 ws.length wc_) ws∧RwC (WrC Fb) 9 Fb W (.slice xw2 ws.length wd) ws) from fun W hW=> by
  obtain⟨⟨_,_,_,e1,h1,h2,h3⟩,⟨_,_,_,e2,h4,h5,h6⟩⟩:=HX.out W hW
  simp only[List.cons.injEq,and_true] at e1 e2
  obtain⟨rfl,rfl,rfl⟩:=e1
  obtain⟨rfl,rfl,rfl⟩:=e2
  exact⟨⟨h1,h4⟩,⟨h2,h5⟩,⟨h3,h6⟩⟩)
 clear HX
 obtain⟨fn,hfn⟩:∃ m,fs.length=m:=⟨_,rfl⟩
 obtain⟨cn,hcn⟩:∃ m,cs.length=m:=⟨_,rfl⟩
 obtain⟨wn,hwn⟩:∃ m,ws.length=m:=⟨_,rfl⟩
 rw[hfn,hcn,hwn] at HP ⊢
 clear hfn hcn hwn
 have HZ1:=Ag (show 0<([.nilFunc]:List Value).length from by simp)
 go_enter Tryz.func17,Tryz.ntmps17
 go_upto_region 4 with(first
  | ((with_reducible refine Au w rfl 26 (.tmp 0) rfl ([.slice xf1 fn fc,.slice xc1 cn cc,.slice xw1 wn wc_]) rfl ?_);intro a1 hb hbel hsz;have H1:=hJ2 hb hbel;clear hb hbel hsz)
  | ((with_reducible refine Au a1 rfl 26 (.tmp 1) rfl ([.slice xf2 fn fd,.slice xc2 cn cd,.slice xw2 wn wd]) rfl ?_);intro a2 hb hbel hsz;have H2:=hJ3 (H1.out.1.below hbel H1.out.1.lt) (An H1.out.2 hbel (Ah _)) hb;clear hb hbel hsz)
  | ((with_reducible refine Cz a2 rfl 87 rfl .nilFunc rfl Tryz.zeroFn87 ?_);intro a3 hb hbel hsz;have H3:=Ag (Ai hb hbel);clear hb hbel hsz)
  | ((with_reducible refine AI a3 rfl 87 (.tmp 5) (.func 40) rfl (a2.heap.size) 0 87 _ H3.out.1 rfl (.func (.func 40) #[] #[]) rfl HZ1.out Tryz.sizeFn87 rfl rfl ?_);intro a4 hb hc hs;have hbx:=By H3.out.2 hc;have H4:=Ag (show Blk a4 (w.heap.size) 26 ([.slice xf1 fn fc,.slice xc1 cn cc,.slice xw1 wn wc_])∧Below w.heap.size w a4∧Blk a4 (a1.heap.size) 26 ([.slice xf2 fn fd,.slice xc2 cn cd,.slice xw2 wn wd])∧Blk a4 (a2.heap.size) 87 ([.func (.func 40) #[] #[]]) from⟨H2.out.1.below hbx H2.out.1.lt,An H2.out.2.1 hbx (Ah _),H2.out.2.2.below hbx H2.out.2.2.lt,hb⟩);clear hb hc hs hbx))
 try simp only[Al,Ad,Ae,Af]
 clear H1 H2 H3
 have c0:=H4.out.1.cell 0
 simp only[Ab,Ac] at c0
 have d0:=H4.out.2.2.1.cell 0
 simp only[Ab,Ac] at d0
 have c1:=H4.out.1.cell 1
 simp only[Ab,Ac] at c1
 have d1:=H4.out.2.2.1.cell 1
 simp only[Ab,Ac] at d1
 have c2:=H4.out.1.cell 2
 simp only[Ab,Ac] at c2
 have d2:=H4.out.2.2.1.cell 2
 simp only[Ab,Ac] at d2
 go_wp2_with fail
 refine(Lj fs _ _ _ _ _ _ (a2.heap.size) a4 (HP.out a4 H4.out.2.1).1.1 (HP.out a4 H4.out.2.1).1.2 (H4.out.2.2.2.cell 0)).mono ?_
 rintro e' u11 ⟨rfl,hb⟩
 have K12:=Ag (show Blk u11 (w.heap.size) 26 ([.slice xf1 fn fc,.slice xc1 cn cc,.slice xw1 wn wc_])∧Below w.heap.size w u11∧Blk u11 (a1.heap.size) 26 ([.slice xf2 fn fd,.slice xc2 cn cd,.slice xw2 wn wd])∧Blk u11 (a2.heap.size) 87 ([.func (.func 40) #[] #[]]) from⟨H4.out.1.below hb H4.out.1.lt,(An H4.out.2.1 hb (Ah _)),H4.out.2.2.1.below hb H4.out.2.2.1.lt,H4.out.2.2.2.below hb H4.out.2.2.2.lt⟩)
 clear hb
 clear c0 d0 c1 d1 c2 d2
 have c1:=K12.out.1.cell 1
 simp only[Ab,Ac] at c1
 have d1:=K12.out.2.2.1.cell 1
 simp only[Ab,Ac] at d1
 go_wp2_with fail
 clear c1 d1
 refine(Lk cs _ _ _ _ _ _ u11 (HP.out u11 K12.out.2.1).2.1.1 (HP.out u11 K12.out.2.1).2.1.2).mono ?_
 rintro e' u13 ⟨rfl,hb⟩
 have K14:=Ag (show Blk u13 (w.heap.size) 26 ([.slice xf1 fn fc,.slice xc1 cn cc,.slice xw1 wn wc_])∧Below w.heap.size w u13∧Blk u13 (a1.heap.size) 26 ([.slice xf2 fn fd,.slice xc2 cn cd,.slice xw2 wn wd])∧Blk u13 (a2.heap.size) 87 ([.func (.func 40) #[] #[]]) from⟨K12.out.1.below hb K12.out.1.lt,(An K12.out.2.1 hb (Ah _)),K12.out.2.2.1.below hb K12.out.2.2.1.lt,K12.out.2.2.2.below hb K12.out.2.2.2.lt⟩)
 clear hb
 have c2:=K14.out.1.cell 2
 simp only[Ab,Ac] at c2
 have d2:=K14.out.2.2.1.cell 2
 simp only[Ab,Ac] at d2
 have ck:=K14.out.2.2.2.cell 0
 simp only[Ab,Ac] at ck
 go_wp2_with fail
 clear c2 d2 ck
 refine(Ll ws _ _ _ _ _ _ u13 (HP.out u13 K14.out.2.1).2.2.1 (HP.out u13 K14.out.2.1).2.2.2).mono ?_
 rintro e' u15 ⟨rfl,hb⟩
 have K16:=Ag (show Blk u15 (w.heap.size) 26 ([.slice xf1 fn fc,.slice xc1 cn cc,.slice xw1 wn wc_])∧Below w.heap.size w u15∧Blk u15 (a1.heap.size) 26 ([.slice xf2 fn fd,.slice xc2 cn cd,.slice xw2 wn wd])∧Blk u15 (a2.heap.size) 87 ([.func (.func 40) #[] #[]]) from⟨K14.out.1.below hb K14.out.1.lt,(An K14.out.2.1 hb (Ah _)),K14.out.2.2.1.below hb K14.out.2.2.1.lt,K14.out.2.2.2.below hb K14.out.2.2.2.lt⟩)
 clear hb
 go_wp2_with fail
 go_ret
 exact⟨rfl,K16.out.2.1⟩
end Go.Proofs.YtgdlfiphihaooaaGreat

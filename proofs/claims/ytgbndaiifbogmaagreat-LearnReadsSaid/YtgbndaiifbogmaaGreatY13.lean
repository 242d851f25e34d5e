/-
  Small laws and walks on the way to LearnReads: T1, Rs, Rd, Ta, Wu, Of. Conditions: each theorem names its own.
-/
import Derived.Test.YtgbndaiifbogmaaGreatY12
import Derived.RangeFuncFrom
import Derived.RangeFuncLeaves
import Derived.RangeFuncCalls
import Derived.RangeFuncBox
import Derived.WalkKit
import Derived.OwnWalkIn
import Derived.TacticsInMore
import Derived.LoopNIn
import Derived.LoopIn
import Derived.Test.YtgbndaiifbogmaaGreatY00
import Derived.Test.YtgbndaiifbogmaaGreatY09
import Derived.Test.YtgbndaiifbogmaaGreatY05
import Derived.Test.YtgbndaiifbogmaaGreatY02
set_option linter.unusedVariables false
set_option linter.unusedSimpArgs false
set_option maxRecDepth 100000
set_option maxHeartbeats 8000000
namespace Go.Proofs.YtgbndaiifbogmaaGreat
open Go.RowKit Go.Maps
@[reducible] def arrO0:Array Value:=#[.int .i64 0,noV]
theorem infO0:(Tryz.prog.info? 276).map (·.size)=some arrO0.size:=by
 show _=some 2;kernel_rfl
def OnPost (k:Nat) (x:Ans Nat) (e:Ending):Prop:=match x with
 |.error n=>e=.returned (.tuple #[.agg arrO0,.int .i64 0,.int .i64 n])
 |.ok m=>∃A n c,e=.returned (.tuple #[.agg #[.int .i64 (k:Nat),.slice A n c],.int .i64 (m:Nat),.int .i64 0])
theorem OnPost.err {k:Nat} {x:Ans Nat} {n:Int} (h:x=.error n):OnPost k x (.returned (.tuple #[.agg arrO0,.int .i64 0,.int .i64 n])):=by subst h;rfl
theorem OnPost.ok {k m:Nat} {x:Ans Nat} {A:Option Addr} {n c:Nat} (h:x=.ok m):OnPost k x (.returned (.tuple #[.agg #[.int .i64 (k:Nat),.slice A n c],.int .i64 (m:Nat),.int .i64 0])):=by subst h;exact⟨A,n,c,rfl⟩
theorem oneO_err {l:By} {n:Int} (h:oneO l=.error n):n≠0:=by
 unfold oneO at h
 repeat (first|(split at h)|(injection h with h;omega)|(cases h))
theorem one_any {w:World} {B:Nat} {v:Value} {l:By} (h:SlY w B v l) (hb:okB l) (hl:l.length≤1000000) (h0:0<l.length) :
  Calls Tryz.prog 379 #[v] w fun e w'=>OnPost (gB l 0) (oneO l) e∧Chg [] w w':=by
 have hs:=h.less (Nat.zero_le _);obtain⟨b,o,c,rfl,hcap,_,hcell⟩:=hs.all h0;have HE:Hid (oneO l=if gB l 0=1 then .ok 1 else if l.length<2 then .error 3 else if gB l 1<2 then .error 5 else if l.length<gB l 1 then .error 3 else if fitsO (gB l 0) (gB l 1-2)=false then .error 5 else .ok (gB l 1)):=zH rfl
 have g0:=gB_lt hb 0;have g1:=gB_lt hb 1;have hA:=(Chg.refl [] w).alloc (.cells arrO0 276);have hB0:Blk (w.alloc (.cells arrO0 276)) w.heap.size 276 arrO0:=Blk.new _ _ _;have k0:=hA.cell (hcell 0 h0) (by simp);unfold byV at k0;rw[Nat.add_zero]at k0;have i0:(0:Int)<(l.length:Int):=by omega
 have wz0:IntKind.i64.wrap ((gB l 0:Nat):Int)=(gB l 0:Nat):=by rw[IntKind.wrap_i64];omega
 have HK1:Hid (1<l.length→∀W,Chg [] w W→W.cell? ⟨b,o+1,none⟩=some (.int .u8 (gB l 1:Nat))):=zH (fun h1 W hc=>hc.cell (hcell 1 h1) (by simp));have hA5:=hA.alloc (.cells arrO0 276);have hB5:Blk ((w.alloc (.cells arrO0 276)).alloc (.cells arrO0 276)) (w.heap.size+1) 276 arrO0:=Blk.new' (by simp)
 have hB05:=hB0.alloc (.cells arrO0 276);have HA5:=zH hA5;have HB05:=zH hB05;have HS:=zH hs;generalize hN:l.length=N at *;have HN:=zH hN;have h0n:0<N:=h0;clear h hs hA hB0 hcell hA5 hB05 hN;generalize hx0:gB l 0=x0 at *;go_enter Tryz.func379,Tryz.ntmps379
 go_upto_region 2 with (first
  |(refine zs (vs:=#[.int .i64 (x0:Nat),noV]) rfl 276 (.tmp 5) (.tmp 11) rfl rfl hB5 rfl rfl rfl infO0 rfl ?_;intro w2 hB2 hc2)
  |fail)
 have hz2:=HB05.out.chg hc2 (by simp);have HC2:Hid (Chg [] w w2):=zH (HA5.out.trans' hc2 (zN (by omega)));have c0:w2.cell? ⟨w.heap.size+1,0,none⟩=some (.int .i64 (x0:Nat)):=hB2.cell 0;have hgz:w.heap.size+1<w2.heap.size:=hB2.lt;clear hB5 hc2 HB05 HA5;generalize hg5:w.heap.size+1=g5 at *
 by_cases h1:x0=1
 ·subst h1;have hR:Hid (oneO l=.ok 1):=zH (by rw[HE.out,if_pos rfl]);clear HE;go_wp2_with (first
   |(refine zl rfl 276 (.tmp 5) rfl hB2 rfl _ Tryz.underlying276 rfl infOp ?_)
   |(refine zs (vs:=#[.int .i64 ((1:Nat):Int),noV]) rfl 276 (.tmp 2) (.tmp 15) rfl rfl hz2 rfl rfl rfl infOp rfl ?_;intro w9 hB9 hc9)
   |fail)
  refine bodyPost_ret (results_blk3 rfl rfl hB9 _ Tryz.underlying276 rfl infOp) rfl ?_;exact⟨OnPost.ok hR.out,HC2.out.trans' hc9 (zN (by omega))⟩
 ·have e1:(((x0:Nat):Int)==1)=false:=by rw[beq_eq_false_iff_ne];omega
  rw[if_neg h1]at HE;by_cases h2:N<2
  ·have hR:Hid (oneO l=.error 3):=zH (by rw[HE.out,if_pos h2]);have i2:(N:Int)<2:=by omega
   clear HE;go_wp2_with (first
    |(refine zs (vs:=arrO0) rfl 276 (.tmp 2) (.tmp 19) rfl rfl hz2 rfl rfl rfl infO0 rfl ?_;intro w9 hB9 hc9)
    |fail)
   refine bodyPost_ret (results_blk3 rfl rfl hB9 _ Tryz.underlying276 rfl infO0) rfl ?_;exact⟨OnPost.err hR.out,HC2.out.trans' hc9 (zN (by omega))⟩
  ·rw[if_neg h2]at HE;have i2:¬(N:Int)<2:=by omega
   have i1:(1:Int)<(N:Int):=by omega
   have k1:=HK1.out (by omega) w2 HC2.out;have wz1:IntKind.i64.wrap ((gB l 1:Nat):Int)=(gB l 1:Nat):=by rw[IntKind.wrap_i64];omega
   generalize hx1:gB l 1=x1 at *;by_cases h3:x1<2
   ·have hR:Hid (oneO l=.error 5):=zH (by rw[HE.out,if_pos h3]);have i3:(x1:Int)<2:=by omega
    clear HE;go_wp2_with (first
     |(refine zs (vs:=arrO0) rfl 276 (.tmp 2) (.tmp 27) rfl rfl hz2 rfl rfl rfl infO0 rfl ?_;intro w9 hB9 hc9)
     |fail)
    refine bodyPost_ret (results_blk3 rfl rfl hB9 _ Tryz.underlying276 rfl infO0) rfl ?_;exact⟨OnPost.err hR.out,HC2.out.trans' hc9 (zN (by omega))⟩
   ·rw[if_neg h3]at HE;have i3:¬(x1:Int)<2:=by omega
    by_cases h4:N<x1
    ·have hR:Hid (oneO l=.error 3):=zH (by rw[HE.out,if_pos h4]);have i4:(N:Int)<(x1:Int):=by omega
     clear HE;go_wp2_with (first
      |(refine zs (vs:=arrO0) rfl 276 (.tmp 2) (.tmp 33) rfl rfl hz2 rfl rfl rfl infO0 rfl ?_;intro w9 hB9 hc9)
      |fail)
     refine bodyPost_ret (results_blk3 rfl rfl hB9 _ Tryz.underlying276 rfl infO0) rfl ?_;exact⟨OnPost.err hR.out,HC2.out.trans' hc9 (zN (by omega))⟩
    ·rw[if_neg h4]at HE;have i4:¬(N:Int)<(x1:Int):=by omega
     obtain⟨X,hXr,hsX⟩:=cutY2 HS.out (lo:=2) (hi:=x1) (by omega) (by have:=HN.out;omega);have hXr':∀W:World,(Instr.slice 22 (.slice (some ⟨b,o,none⟩) N c) (some (.int .i64 2)) (some (.int .i64 (x1:Int))) none).run Tryz.prog W=.ok (.slice X (x1-2) (c-2)) W:=hXr
     have FC:=zH (cloneY_any (hsX.chg0 HC2.out) (by rw[List.length_take,List.length_drop];have:=HN.out;omega));have hlX:((l.drop 2).take (x1-2)).length=x1-2:=by rw[List.length_take,List.length_drop];have:=HN.out;omega
     have FF:=zH (fun (A:Option Addr) (c:Nat) (W:World)=>fits_any g0 A (x1-2) c W);have HLX:=zH hlX;clear hXr hsX hlX hx1;go_wp2_with fail;refine FC.out.mono ?_;rintro e w3 ⟨v3,rfl,ho3,hc3⟩;obtain⟨A3,c3,rfl⟩:=(OwY.sl ho3).form;rw[HLX.out];have hB3:=hB2.chg hc3 (by simp)
     have hz3:=hz2.chg hc3 (by simp);have HC3:=zH (HC2.out.trans hc3);have c1:w3.cell? ⟨g5,1,none⟩=some noV:=hB3.cell 1;have f1:=hB3.frozen 1;have hB4:Blk (w3.setCell ⟨g5,1,none⟩ (.slice A3 (x1-2) c3)) g5 276 #[.int .i64 (x0:Nat),.slice A3 (x1-2) c3]:=hB3.set_ 1 _
     have hC4:Chg [g5] w3 (w3.setCell ⟨g5,1,none⟩ (.slice A3 (x1-2) c3)):=(Chg.refl [g5] w3).setCell (p:=⟨g5,1,none⟩) (.inl (by simp)) _;have HI:=zH (And.intro hB4 (And.intro (hz3.chg hC4 (by simp;omega)) (HC3.out.trans' hC4 (zN (by omega)))));clear hB4 hC4 hB3 hz3 hc3 ho3 hB2 hz2 FC k0 k1 c0
     go_upto_region 12 with fail
     obtain⟨hB4,hz4,hC4⟩:=HI.out;generalize w3.setCell ⟨g5,1,none⟩ (.slice A3 (x1-2) c3)=w4 at *;clear HI c1 f1;go_wp2_with (first
      |(refine zl rfl 276 (.tmp 5) rfl hB4 rfl _ Tryz.underlying276 rfl infOp ?_)
      |fail)
     refine (FF.out _ _ _).mono ?_;rintro e w5 ⟨rfl,hc5⟩;have hB5:=hB4.chg hc5 (by simp);have hz5:=hz4.chg hc5 (by simp);have HC5:=zH (hC4.trans hc5);clear hB4 hz4 hC4 hc5 FF;cases hf:fitsO x0 (x1-2) with
     |false=>
      have hR:Hid (oneO l=.error 5):=zH (by rw[HE.out,if_pos hf]);clear HE hf;go_wp2_with (first
       |(refine zs (vs:=arrO0) rfl 276 (.tmp 2) (.tmp 42) rfl rfl hz5 rfl rfl rfl infO0 rfl ?_;intro w9 hB9 hc9)
       |fail)
      refine bodyPost_ret (results_blk3 rfl rfl hB9 _ Tryz.underlying276 rfl infO0) rfl ?_;exact⟨OnPost.err hR.out,HC5.out.trans' hc9 (zN (by omega))⟩
     |true=>
      have hR:Hid (oneO l=.ok x1):=zH (by rw[HE.out,if_neg (by rw[hf];simp)]);clear HE hf;go_wp2_with (first
       |(refine zl rfl 276 (.tmp 5) rfl hB5 rfl _ Tryz.underlying276 rfl infOp ?_)
       |(refine zs (vs:=#[.int .i64 (x0:Nat),.slice A3 (x1-2) c3]) rfl 276 (.tmp 2) (.tmp 43) rfl rfl hz5 rfl rfl rfl infOp rfl ?_;intro w9 hB9 hc9)
       |fail)
      refine bodyPost_ret (results_blk3 rfl rfl hB9 _ Tryz.underlying276 rfl infOp) rfl ?_;exact⟨OnPost.ok hR.out,HC5.out.trans' hc9 (zN (by omega))⟩
end Go.Proofs.YtgbndaiifbogmaaGreat
namespace Go.Proofs.YtgbndaiifbogmaaGreat
open Go.RowKit
def SeqE (n:Nat) (P:Program) (gf:Nat) (lb:Array Value) (Pr:Array Value→Int→Prop) (x:Int) (N:Nat) (w0 w1:World):Prop:=
 ∀(l:Nat) (J:Nat→World→Prop) (Jx:Int→World→Prop) (W:World),Chg [] w1 W→(∀i A,J i A→Chg [] w0 A)→(∀i A B,J i A→Chg [] A B→J i B) →
  (∀i args e A,J i A→i<N→Pr args e→YieldAt Fence.wide (n-1) P l args A fun E B=>(e=0∧E=.returned (.bool true)∧J (i+1) B)∨(e≠0∧E=.returned (.bool false)∧Jx e B)) →
  J 0 W→CallsIn Fence.wide n P gf (#[.func (.yield l) #[] #[]]++lb) W fun E B=>(∃v,E=.returned v)∧((x=0∧∃i,i≤N∧J i B)∨(x≠0∧Jx x B))
def goesErr (e:Int) (i:Nat) (I:Nat→World→Prop) (Ix:Int→World→Prop) (W:World):Exit→Act→World→Prop
 |.normal,_,B=>e=0∧KeepsOthers W B∧I (i+1) B
 |.ret,_,B=>e≠0∧KeepsOthers W B∧Ix e B
 |_,_,_=>False
theorem grown_chgE {w w':World} (h:Chg [] w w'):w.grownBy w' none:=⟨h.os,h.tape,h.output,h.size,fun k hk _=>h.block k hk (by simp)⟩
theorem ownFrom_chg {B:Nat} {w0:World} (hB:w0.heap.size≤B):OwnFrom B (fun (_:Nat) W=>Chg [] w0 W):=fun s W W' row h hg hr=>
 ⟨hg.os.trans h.os,hg.tape.trans h.tape,hg.output.trans h.output,Nat.le_trans h.size hg.size,fun k hk _=>(hg.block k (Nat.lt_of_lt_of_le hk h.size) (fun e=>by have:=(hr k e.symm).1;omega)).trans (h.block k hk (by simp))⟩
theorem wpIn_range_err {n:Nat} {P:Program} {g:Operand} {ps:Array Tmp} {assign body:Code} {Q:Exit→Act→World→Prop} {a:Act} {w:World} (h1:1≤n) {gf:Nat} {lb:Array Value}
  (hg:a.eval g=.func (.func gf) #[] lb) (eg:∀args w,(callFunc gf args).run P w=.ok (.enter gf args) w)
  {Pr:Array Value→Int→Prop} {x:Int} {N:Nat} {w0:World} (hseq:SeqE (n-1) P gf lb Pr x N w0 w)
  (hps:∀args e,Pr args e→args.size=ps.size) (I:Nat→World→Prop) (Ix:Int→World→Prop) (hI:OwnFrom w.heap.size I) (hIx:OwnFrom w.heap.size Ix) (hIc:∀i A,I i A→Chg [] w0 A) (h0:I 0 w)
  (Ax:Array Value→Int→Act→World→Prop) (hAx:∀args e,OwnFrom w.heap.size (Ax args e))
  (hassign:∀(l i:Nat) (args:Array Value) (e:Int) (W:World),w.heap.size≤W.heap.size→I i W→Pr args e →
   assign.wpIn (Fence.wide.inRound l) (n-1-1) P (Exit.then (fun a₁ W₁=>Chg [] W W₁∧Ax args e a₁ W₁) (fun _ _ _=>False)) {tmps:=(ps.zip args).foldl (fun t (p,v)=>t.setIfInBounds p v) a.tmps,defers:=[]} W)
  (hbody:∀(l i:Nat) (args:Array Value) (e:Int) (a₁:Act) (W:World),w.heap.size≤W.heap.size→I i W→i<N→Pr args e→Ax args e a₁ W→body.wpIn (Fence.wide.inRound l) (n-1-1) P (goesErr e i I Ix W) a₁ W)
  (hdone:∀(D i:Nat) (W:World),w.heap.size≤D→x=0→i≤N→I i W→W.heap[D]?=some (.deferred (some []))→Q .normal {a with defers:={target:=.collected D,args:=#[]} :: a.defers} W)
  (hstop:∀(D:Nat) (W:World),w.heap.size≤D→x≠0→Ix x W→W.heap[D]?=some (.deferred (some []))→Code.ret.wpIn Fence.wide n P Q {a with defers:={target:=.collected D,args:=#[]} :: a.defers} W) :
  (Code.rangeFunc g ps assign body).wpIn Fence.wide n P Q a w:=by
 refine wpIn_rangeFunc fun fn hfn=>?_
 obtain⟨rec,hrec⟩:∃rec:LoopState→Option Code→Loop,rec=fun st pe=>{state:=st,pending:=pe,fn,tmps:=a.tmps,params:=ps,assign,body,defers:=w.heap.size}:=⟨_,rfl⟩
 obtain⟨W1,hW1⟩:∃W1,(w.alloc (.deferred (some []))).alloc (.loop (rec .ready none))=W1:=⟨_,rfl⟩;have hL1:W1.heap[w.heap.size+1]?=some (.loop (rec .ready none)):=by
  rw[←hW1];have:=World.alloc_heap_new (w.alloc (.deferred (some []))) (.loop (rec .ready none));rwa [World.size_alloc]at this
 have hK1:W1.heap[w.heap.size]?=some (.deferred (some [])):=by
  rw[←hW1];exact (Below.heap_alloc _ _ _ (by simp)).trans (World.alloc_heap_new w _)
 have hc1:Chg [] w W1:=by rw[←hW1];exact ((Chg.refl [] w).alloc _).alloc _
 have hIg:∀{i:Nat} {A B:World},I i A→Chg [] A B→I i B:=fun i h=>hI _ _ _ none i (grown_chgE h) (fun r e=>by cases e)
 have hI1:I 0 W1:=hIg h0 hc1;refine⟨w.heap.size+1,[{target:=.collected w.heap.size,args:=#[]}],W1,{target:=.fn (.func gf) lb,args:=#[.func (.yield (w.heap.size+1)) #[] #[]]},W1,gf,#[.func (.yield (w.heap.size+1)) #[] #[]]++lb,W1,
  by rw[←hW1,hrec];exact run_enterLoop_outer _ _ _ _ _,?_,fun f' hf'=>trivial,?_,fun _=>h1,?_⟩
 ·simp only[resolve,hg];simp[go_sem]
 ·simp[invoke,go_sem,eg]
 refine (hseq (w.heap.size+1) (fun i A=>I i A∧A.heap[w.heap.size+1]?=some (.loop (rec .ready none))∧A.heap[w.heap.size]?=some (.deferred (some [])))
  (fun e A=>Ix e A∧A.heap[w.heap.size+1]?=some (.loop (rec .done (some .ret)))∧A.heap[w.heap.size]?=some (.deferred (some []))) W1 hc1 (fun i A h=>hIc i A h.1)
  (fun _ A B ⟨i,j,k⟩ hc=>⟨hIg i hc,(hc.block _ (Array.getElem?_eq_some_iff.1 j).1 (by simp)).trans j,(hc.block _ (Array.getElem?_eq_some_iff.1 k).1 (by simp)).trans k⟩)
  ?_ ⟨hI1,hL1,hK1⟩).mono ?_
 ·rintro i args e A ⟨hi,hl,hk⟩ hiN hp;have hlt0:=(Array.getElem?_eq_some_iff.1 hl).1;have hy:=run_yield (P:=P) (args:=args) hl (by rw[hrec];exact hps _ _ hp);rw[hrec]at hy;refine⟨fn,_,assign,body,hy,roundIn_of_wpIn hfn (wpIn_mono (hassign _ i args e A (by omega) hi hp) ?_)⟩;rintro e0 a1 A' he0
  cases e0 with
  |ret=>exact he0.elim
  |exit id=>exact he0.elim
  |goto t=>exact he0.elim
  |panic ch=>exact he0.elim
  |outgrown=>exact he0.elim
  |normal=>
  obtain⟨hcA,hax⟩:=he0;have hl:=(hcA.block _ hlt0 (by simp)).trans hl;have hk:=(hcA.block _ (Array.getElem?_eq_some_iff.1 hk).1 (by simp)).trans hk;have hi:=hIg hi hcA;have hlt:=(Array.getElem?_eq_some_iff.1 hl).1;refine⟨_,run_beginRound hl (by rw[hrec]),?_⟩
  have hl2:(A'.putObj (w.heap.size+1) (.loop {rec .ready none with state:=.busy})).heap[w.heap.size+1]?=some (.loop {rec .ready none with state:=.busy}):=World.putObj_heap_same hlt
  have hk2:(A'.putObj (w.heap.size+1) (.loop {rec .ready none with state:=.busy})).heap[w.heap.size]?=some (.deferred (some [])):=(World.putObj_heap_other (by omega)).trans hk
  have fin:∀(jump:Option Code) (W3:World),KeepsOthers (A'.putObj (w.heap.size+1) (.loop {rec .ready none with state:=.busy})) W3 →
    (Instr.endRound (w.heap.size+1) jump).run P W3=.ok (.bool jump.isNone) (W3.putObj (w.heap.size+1) (.loop (rec (if jump.isNone then .ready else .done) jump))) ∧
    W3.heap[w.heap.size+1]?=some (.loop {rec .ready none with state:=.busy}) ∧
    (W3.putObj (w.heap.size+1) (.loop (rec (if jump.isNone then .ready else .done) jump))).heap[w.heap.size+1]?=some (.loop (rec (if jump.isNone then .ready else .done) jump)) ∧
    (W3.putObj (w.heap.size+1) (.loop (rec (if jump.isNone then .ready else .done) jump))).heap[w.heap.size]?=some (.deferred (some [])):=fun jump W3 hk3=>by
   have hl3:=hk3.same _ _ hl2 rfl;have:=run_endRound (P:=P) jump hl3;rw[hrec]at this ⊢;exact⟨this,by rw[hrec]at hl3;exact hl3,World.putObj_heap_same (Array.getElem?_eq_some_iff.1 hl3).1,(World.putObj_heap_other (by omega)).trans (hk3.same _ _ hk2 rfl)⟩
  refine wpIn_mono (hbody _ i args e a1 _ (by simp;omega) (hI.putObj _ hi (by omega) hl rfl) hiN hp ((hAx args e).putObj _ hax (by omega) hl rfl)) ?_;rintro e3 a3 W3 hp3;cases e3 with
  |normal=>
   obtain⟨he,hk3,hi3⟩:=hp3;obtain⟨hr,hl3,hl4,hk4⟩:=fin none W3 hk3;exact⟨_,_,hr,.inl ⟨he,rfl,hI.putObj _ hi3 (by omega) hl3 rfl,hl4,hk4⟩⟩
  |ret=>
   obtain⟨he,hk3,hi3⟩:=hp3;obtain⟨hr,hl3,hl4,hk4⟩:=fin (some .ret) W3 hk3;exact⟨_,_,hr,.inr ⟨he,rfl,hIx.putObj _ hi3 (by omega) hl3 rfl,hl4,hk4⟩⟩
  |exit id=>exact hp3.elim
  |goto t=>exact hp3.elim
  |panic ch=>exact hp3.elim
  |outgrown=>exact hp3.elim
 ·rintro e W2 ⟨⟨v,rfl⟩,(⟨hx,i,hiN,hi,hl,hk⟩ | ⟨hx,hi,hl,hk⟩)⟩
  ·exact⟨none,_,by have:=run_endLoop (P:=P) hl (by rw[hrec];simp);rw[hrec]at this;exact this,hdone _ i _ (Nat.le_refl _) hx hiN (hI.putObj _ hi (by omega) hl rfl) ((World.putObj_heap_other (by omega)).trans hk)⟩
  ·exact⟨some .ret,_,by have:=run_endLoop (P:=P) hl (by rw[hrec];simp);rw[hrec]at this;exact this,hstop _ _ (Nat.le_refl _) hx (hIx.putObj _ hi (by omega) hl rfl) ((World.putObj_heap_other (by omega)).trans hk)⟩
end Go.Proofs.YtgbndaiifbogmaaGreat
namespace Go.Proofs.YtgbndaiifbogmaaGreat
open Go.RowKit Go.Maps
theorem skind_any (p:Value) (w:World):Calls Tryz.prog 364 #[p] w fun e w'=>e=.returned (.int .i64 6)∧w=w':=by
 go_enter Tryz.func364,Tryz.ntmps364
 go_wp2_with fail;go_ret
 exact⟨rfl,rfl⟩
theorem mkind_any (p:Value) (w:World):Calls Tryz.prog 380 #[p] w fun e w'=>e=.returned (.int .i64 58)∧w=w':=by
 go_enter Tryz.func380,Tryz.ntmps380
 go_wp2_with fail;go_ret
 exact⟨rfl,rfl⟩
theorem Sl.new {w w':World} {B size n:Nat} {v:Value} {xs:List Value} {S:List Nat} (h:Sl w B size v n xs) (hc:Chg S w w') (hS:∀x∈S,w.heap.size≤x):Sl w' B size v n xs:=by
 obtain⟨hl,A,c,hv,hcap,hr⟩:=h;refine⟨hl,A,c,hv,hcap,fun hn=>?_⟩;obtain⟨b,o,hA,hb,hx⟩:=hr hn;refine⟨b,o,hA,hb,fun j u hu=>hc.cell (hx j u hu) (fun hm=>?_)⟩;have h1:=World.block_lt_of_cell? w _ (hx j u hu);have h2:=hS _ hm;simp only at h1 h2;omega
def SrdPost (x:Ans Tp) (f:Bool) (g B:Nat) (e:Ending) (w':World):Prop:=match x with
 |.error n=>e=.returned (.int .i64 n)
 |.ok m=>(f=false∧e=.returned (.int .i64 6))∨(f=true∧e=.returned (.int .i64 0)∧∃A n c A2 n2 c2,Blk w' g 254 (arrTc m.t (.slice A2 n2 c2) (.slice A n c))∧SlY w' B (.slice A n c) m.pay)
theorem tcpS_err {l:By} {n:Int} (h:tcpS l=.error n):n≠0:=by
 unfold tcpS at h
 repeat (first|(split at h)|(injection h with h;omega)|(cases h))
theorem sread_any (HT:TopSays) {src dst:Ad} (hsr:okA src) (hds:okA dst) {w:World} {B g:Nat} {v:Value} {l:By} {cs:Array Value} (h:SlY w B v l) (hb:okB l) (hl:l.length≤1000000) (hB:Blk w g 254 cs) (hcs:cs.size=10) :
  Calls Tryz.prog 365 #[.pointer (some ⟨g,0,none⟩),src.v,dst.v,v] w fun e w'=>SrdPost (tcpS l) (fineC src dst 6 l) g w.heap.size e w'∧Chg [g] w w':=by
 have hA:=((Chg.refl [] w).alloc (.cells (arrA src) 24)).alloc (.cells (arrA dst) 24);have hB1:Blk ((w.alloc (.cells (arrA src) 24)).alloc (.cells (arrA dst) 24)) w.heap.size 24 (arrA src):=(Blk.new _ _ _).alloc _
 have hB2:Blk ((w.alloc (.cells (arrA src) 24)).alloc (.cells (arrA dst) 24)) (w.heap.size+1) 24 (arrA dst):=Blk.new' (by simp);have FT:=zH (fun (W:World) (hc:Chg [] w W)=>tparse_any HT (h.chg0 hc) hb hl);have FF:=zH (fun (W:World) (hc:Chg [] w W)=>tfine_any hsr hds (h.chg0 hc) hb hl)
 obtain⟨A,c,rfl⟩:=h.form;have HA:=zH hA;have HG:=zH (hB.chg hA (by simp));have hgw:=hB.lt;have hsA:=hA.size;generalize l.length=N at *;generalize fineC src dst 6 l=fn at *;clear h hb hl hA hB HT;go_enter Tryz.func365,Tryz.ntmps365
 go_wp2_with fail;refine (FT.out _ HA.out).mono ?_;rintro e w3 ⟨hp,hc3⟩;have hB13:=hB1.chg hc3 (by simp);have hB23:=hB2.chg hc3 (by simp);have HG3:Hid (Blk w3 g 254 cs):=zH (HG.out.chg hc3 (by simp));have HC3:=zH (HA.out.trans hc3);have hsz3:=hc3.size
 have hsA':w.heap.size+2≤w3.heap.size:=by have h1:=hB2.lt;omega
 have hB9:Blk (w3.alloc (.cells (arrTc tc0 noV noV) 34)) w3.heap.size 34 (arrTc tc0 noV noV):=Blk.new _ _ _;have hB14:=hB13.alloc (.cells (arrTc tc0 noV noV) 34);have hB24:=hB23.alloc (.cells (arrTc tc0 noV noV) 34)
 have HG4:Hid (Blk (w3.alloc (.cells (arrTc tc0 noV noV) 34)) g 254 cs):=zH (HG3.out.alloc _);have HC4:Hid (Chg [] w (w3.alloc (.cells (arrTc tc0 noV noV) 34))):=zH (HC3.out.alloc _);clear hc3 hB1 hB2 HG hsz3 hsA HG3;cases hx:tcpS l with
 |error n=>
  rw[hx]at hp;obtain rfl:e=_:=hp;have hn0:=tcpS_err hx;have hnI:(n==0)=false:=by rw[beq_eq_false_iff_ne];exact hn0
  have HPo:Hid (∀w',SrdPost (tcpS l) fn g w.heap.size (.returned (.int .i64 n)) w'):=zH (fun _=>by rw[hx];rfl);clear hx hn0 hB13 hB23;go_wp2_with (first
   |(refine zs (vs:=arrTc tc0 noV noV) rfl 34 (.tmp 9) (.tmp 14) rfl rfl hB9 rfl rfl rfl infTc rfl ?_;intro w5 hB5 hc5)
   |fail)
  go_ret
  exact⟨HPo.out _,HC4.out.trans' hc5 (zN (by omega)) |>.more (by simp)⟩
 |ok m=>
  rw[hx]at hp;obtain⟨A9,n9,c9,A8,n8,c8,rfl,hs9⟩:=hp;have HS9:=zH hs9
  have HPo:Hid (∀e w',((fn=false∧e=.returned (.int .i64 6))∨(fn=true∧e=.returned (.int .i64 0)∧∃A n c A2 n2 c2,Blk w' g 254 (arrTc m.t (.slice A2 n2 c2) (.slice A n c))∧SlY w' w.heap.size (.slice A n c) m.pay))→SrdPost (tcpS l) fn g w.heap.size e w'):=zH (fun _ _ h=>by rw[hx];exact h)
  clear hx hB13 hB23 hs9;go_upto_region 4 with (first
   |(refine zs (vs:=arrTc m.t (.slice A8 n8 c8) (.slice A9 n9 c9)) rfl 34 (.tmp 9) (.tmp 14) rfl rfl hB9 rfl rfl rfl infTc rfl ?_;intro w5 hB5 hc5)
   |fail)
  have hB15:=hB14.chg hc5 (by simp;omega);have hB25:=hB24.chg hc5 (by simp;omega);have HC5:Hid (Chg [] w w5):=zH (HC4.out.trans' hc5 (zN (by omega)));have HG5:Hid (Blk w5 g 254 cs):=zH (HG4.out.chg hc5 (by simp;omega))
  have HS5:Hid (SlY w5 w.heap.size (.slice A9 n9 c9) m.pay):=zH ((Sl.new (HS9.out.less HA.out.size) (((Chg.refl [w3.heap.size] w3).alloc (.cells (arrTc tc0 noV noV) 34)).trans hc5) (by simp)));clear hB14 hB24 HG4 HC4 hB9 hc5 HS9;go_wp2_with (first
   |(refine zl rfl 24 (.tmp 5) rfl hB15 rfl _ Tryz.underlying24 rfl infAd ?_)
   |(refine zl rfl 24 (.tmp 6) rfl hB25 rfl _ Tryz.underlying24 rfl infAd ?_)
   |fail)
  refine (FF.out _ HC5.out).mono ?_;rintro e w6 ⟨rfl,hc6⟩;cases fn with
  |false=>
   have HC6:=zH (HC5.out.trans hc6);go_wp2_with fail;go_ret
   exact⟨HPo.out _ _ (.inl ⟨by first|rfl|trivial,rfl⟩),HC6.out.more (by simp)⟩
  |true=>
   have hB6:=hB5.chg hc6 (by simp);have HG6:=HG5.out.chg hc6 (by simp);have HS6:=zH (SlY.chg0 HS5.out hc6);have HC6:=zH (HC5.out.trans hc6);clear hc6 hB5 HG5 HS5 hB15 hB25;go_wp2_with (first
    |(refine zl rfl 34 (.tmp 9) rfl hB6 rfl _ Tryz.underlying34 rfl infTc ?_)
    |(refine zs (vs:=arrTc m.t (.slice A8 n8 c8) (.slice A9 n9 c9)) rfl 34 (.tmp 27) (.tmp 25) rfl rfl HG6 rfl rfl (by rw[hcs];rfl) infTc rfl ?_;intro w7 hB7 hc7)
    |fail)
   go_ret
   exact⟨HPo.out _ _ (.inr ⟨by first|rfl|trivial,rfl,A9,n9,c9,A8,n8,c8,hB7,Sl.chg HS6.out hc7 (by intro x hx;simp at hx;omega)⟩),(HC6.out.more (by simp)).trans hc7⟩
def MrdPost (x:Ans Ms) (g B:Nat) (e:Ending) (w':World):Prop:=match x with
 |.error n=>e=.returned (.int .i64 n)
 |.ok m=>e=.returned (.int .i64 0)∧∃A n c,Blk w' g 257 (arrMs m.kind m.code m.word (.slice A n c))∧SlY w' B (.slice A n c) m.body
theorem mread_any {src dst:Ad} (hsr:okA src) (hds:okA dst) {w:World} {B g:Nat} {v:Value} {l:By} {cs:Array Value} (h:SlY w B v l) (hb:okB l) (hl:l.length≤1000000) (hB:Blk w g 257 cs) (hcs:cs.size=4) :
  Calls Tryz.prog 381 #[.pointer (some ⟨g,0,none⟩),src.v,dst.v,v] w fun e w'=>MrdPost (icmpS src dst l) g w.heap.size e w'∧Chg [g] w w':=by
 have hA:=((Chg.refl [] w).alloc (.cells (arrA src) 24)).alloc (.cells (arrA dst) 24);have hB1:Blk ((w.alloc (.cells (arrA src) 24)).alloc (.cells (arrA dst) 24)) w.heap.size 24 (arrA src):=(Blk.new _ _ _).alloc _
 have hB2:Blk ((w.alloc (.cells (arrA src) 24)).alloc (.cells (arrA dst) 24)) (w.heap.size+1) 24 (arrA dst):=Blk.new' (by simp);have FT:=zH (fun (W:World) (hc:Chg [] w W)=>icmp_any hsr hds (h.chg0 hc) hb hl);obtain⟨A,c,rfl⟩:=h.form;have HA:=zH hA;have HG:=zH (hB.chg hA (by simp));have hgw:=hB.lt
 generalize l.length=N at *;clear h hb hl hA hB;go_enter Tryz.func381,Tryz.ntmps381
 go_wp2_with (first
  |(refine zl rfl 24 (.tmp 5) rfl hB1 rfl _ Tryz.underlying24 rfl infAd ?_)
  |(refine zl rfl 24 (.tmp 6) rfl hB2 rfl _ Tryz.underlying24 rfl infAd ?_)
  |fail)
 refine (FT.out _ HA.out).mono ?_;rintro e w3 ⟨hp,hc3⟩;have HG3:=HG.out.chg hc3 (by simp);have HC3:=zH (HA.out.trans hc3);have hg3:g≠w3.heap.size:=by have:=HC3.out.size;omega
 have hB9:Blk (w3.alloc (.cells (arrMs 0 0 0 noV) 36)) w3.heap.size 36 (arrMs 0 0 0 noV):=Blk.new _ _ _;have HG4:Blk (w3.alloc (.cells (arrMs 0 0 0 noV) 36)) g 257 cs:=HG3.alloc _;have HC4:Hid (Chg [] w (w3.alloc (.cells (arrMs 0 0 0 noV) 36))):=zH (HC3.out.alloc _)
 have HSW:Hid (w.heap.size≤w3.heap.size):=zH HC3.out.size;clear hc3 hB1 hB2 HG HG3;cases hx:icmpS src dst l with
 |error n=>
  rw[hx]at hp;obtain rfl:e=_:=hp;have HPo:Hid (∀w',MrdPost (icmpS src dst l) g w.heap.size (.returned (.int .i64 n)) w'):=zH (fun _=>by rw[hx];rfl);clear hx;go_wp2_with (first
   |(refine zs (vs:=arrMs 0 0 0 noV) rfl 36 (.tmp 9) (.tmp 16) rfl rfl hB9 rfl rfl rfl infMs rfl ?_;intro w5 hB5 hc5;have HG5:=HG4.chg hc5 (fun hm=>hg3 (by simpa using hm)))
   |(refine zl rfl 36 (.tmp 9) rfl hB5 rfl _ Tryz.underlying36 rfl infMs ?_)
   |(refine zs (vs:=arrMs 0 0 0 noV) rfl 36 (.tmp 21) (.tmp 19) rfl rfl HG5 rfl rfl (by rw[hcs];rfl) infMs rfl ?_;intro w7 hB7 hc7)
   |fail)
  go_ret
  exact⟨HPo.out _,((HC4.out.trans' hc5 (by intro x hx;simp at hx;subst hx;right;exact HSW.out)).more (by simp)).trans hc7⟩
 |ok m=>
  rw[hx]at hp;obtain⟨A9,n9,c9,rfl,hs9⟩:=hp;have HS9:=zH hs9;have HPo:Hid (∀w',(∃A n c,Blk w' g 257 (arrMs m.kind m.code m.word (.slice A n c))∧SlY w' w.heap.size (.slice A n c) m.body)→MrdPost (icmpS src dst l) g w.heap.size (.returned (.int .i64 0)) w'):=zH (fun _ h=>by rw[hx];exact⟨rfl,h⟩)
  clear hx hs9;go_wp2_with (first
   |(refine zs (vs:=arrMs m.kind m.code m.word (.slice A9 n9 c9)) rfl 36 (.tmp 9) (.tmp 16) rfl rfl hB9 rfl rfl rfl infMs rfl ?_;intro w5 hB5 hc5;have HG5:=HG4.chg hc5 (fun hm=>hg3 (by simpa using hm)))
   |(refine zl rfl 36 (.tmp 9) rfl hB5 rfl _ Tryz.underlying36 rfl infMs ?_)
   |(refine zs (vs:=arrMs m.kind m.code m.word (.slice A9 n9 c9)) rfl 36 (.tmp 21) (.tmp 19) rfl rfl HG5 rfl rfl (by rw[hcs];rfl) infMs rfl ?_;intro w7 hB7 hc7)
   |fail)
  go_ret
  have hs5:=Sl.new (HS9.out.less HA.out.size) (((Chg.refl [w3.heap.size] w3).alloc (.cells (arrMs 0 0 0 noV) 36)).trans hc5) (by simp)
  exact⟨HPo.out _ ⟨A9,n9,c9,hB7,Sl.chg hs5 hc7 (by intro x hx;simp at hx;omega)⟩,((HC4.out.trans' hc5 (by intro x hx;simp at hx;subst hx;right;exact HSW.out)).more (by simp)).trans hc7⟩
end Go.Proofs.YtgbndaiifbogmaaGreat
namespace Go.Proofs.YtgbndaiifbogmaaGreat
open Go.RowKit Go.Maps
attribute [local go_sem] Oper.semAt_some
def PrO (args:Array Value) (e:Int):Prop:=∃(k:Int) (A:Option Addr) (n c:Nat),args=#[.agg #[.int .i64 k,.slice A n c],.int .i64 e]
theorem optW_0 {f:Nat} {m:By} (h:m.length<f) (h0:m.length=0):optW f m=0:=by
 cases f with
 |zero=>omega
 |succ f=>unfold optW;rw[if_pos h0]
theorem optW_end {f:Nat} {m:By} (h:m.length<f) (h0:0<m.length) (hz:gB m 0=0):optW f m=if zerosB m=true then 0 else 5:=by
 cases f with
 |zero=>omega
 |succ f=>unfold optW;rw[if_neg (by omega),if_pos hz]
theorem optW_bad {f:Nat} {m:By} {e:Int} (h:m.length<f) (h0:0<m.length) (hz:¬gB m 0=0) (he:oneO m=.error e):optW f m=e:=by
 cases f with
 |zero=>omega
 |succ f=>unfold optW;rw[if_neg (by omega),if_neg hz,he]
theorem oneO_pos {m:By} {k:Nat} (he:oneO m=.ok k) (h0:0<m.length):0<k∧k≤m.length:=by
 unfold oneO at he
 repeat (first|(split at he)|(injection he with he;omega)|(cases he))
theorem optW_on {f:Nat} {m:By} {k:Nat} (h:m.length<f) (h0:0<m.length) (hz:¬gB m 0=0) (he:oneO m=.ok k):∃f',optW f m=optW f' (m.drop k)∧(m.drop k).length<f':=by
 have:=oneO_pos he h0;cases f with
 |zero=>omega
 |succ f=>exact⟨f,by (conv=>lhs;unfold optW);rw[if_neg (by omega),if_neg hz,he],by rw[List.length_drop];omega⟩
theorem all1_seq (n:Nat) (hn:1≤n) {w w1:World} {Bt:Nat} {v:Value} {l:By} (hB:w1.cell? ⟨Bt,0,none⟩=some v) (h:SlY w 0 v l) (hb:okB l) (hl:l.length≤1000) :
  SeqE n Tryz.prog 377 #[.pointer (some ⟨Bt,0,none⟩)] PrO (optW (l.length+1) l) l.length w w1:=by
 intro l' J Jx W hW1 hJc hJg hY h0;obtain⟨A0,c0,rfl⟩:=h.form;have hx:Hid (optW (l.length+1) l=optW (l.length+1) l):=zH rfl;have cB:=hW1.cell hB (by simp);refine callsIn_of_wp Tryz.func377 rfl trivial ?_ rfl
 simp only[Tryz.ntmps377,List.size_toArray,List.length_cons,List.length_nil,Nat.reduceAdd,Nat.reduceSub,Array.replicate_succ,Array.replicate_zero,List.push_toArray,List.append_toArray,List.nil_append,List.cons_append];have HY:=zH hY;have HJg:=zH hJg;have HJc:=zH hJc;have H0:=zH h0;have HSl:=zH h
 have hxx:∃x,x=optW (l.length+1) l:=⟨_,rfl⟩;obtain⟨x,hxx⟩:=hxx;rw[←hxx]at hx;have HX0:Hid (optW (l.length+1) l=x):=zH hxx.symm;rw[←hxx];clear hY hJg hJc h0 h hxx hx
 gi_wp2_with fail
 gi_loopw [3] (fun i wr=>∃(A:Option Addr) (n c f q:Nat) (m:By),i=.slice A n c∧Hid (SlY w 0 (.slice A n c) m)∧Hid (okB m)∧m.length=n∧Hid (m.length<f)∧q+n≤l.length∧Hid (optW f m=x)∧Hid (J q wr)) (fun i _=>lenV i)
 case atStart=>exact⟨A0,l.length,c0,l.length+1,0,l,rfl,HSl,zH hb,rfl,zH (Nat.lt_succ_self _),by omega,HX0,H0⟩
 case round=>
  obtain⟨A,n',c,f,q,m,rfl,HS,HB,hmn,HF,hnl,HX,HJ⟩:=hrel;rcases Nat.eq_zero_or_pos n' with h0|h0
  ·subst h0;have hX:=HX.out;rw[optW_0 HF.out hmn]at hX;clear HX HF HS HB hmn
   gi_wp2_with fail
   go_end0
   exact⟨⟨_,rfl⟩,.inl ⟨hX.symm,q,by omega,HJ.out⟩⟩
  ·have hcw:=HJc.out _ _ HJ.out;have hsr:=HS.out.chg0 hcw;obtain⟨b,o,c',e,hcap,_,hcell⟩:=hsr.all (by omega);simp only[Value.slice.injEq]at e;obtain⟨rfl,e2,rfl⟩:=e;clear e2;have hc0:=hcell 0 (by omega);have g0:=gB_lt HB.out 0;unfold byV at hc0;rw[Nat.add_zero]at hc0;have i0:(0:Int)<(n':Int):=by omega
   by_cases hz:gB m 0=0
   ·have hX:=HX.out;rw[optW_end HF.out (by omega) hz]at hX;have hX:=zH hX;rw[hz]at hc0;have FZ:=zH (callsIn_wide (n:=n-1).2 (zeros_any hsr (by omega)));clear hsr HX HF HS HB hmn hcell;cases hzb:zerosB m with
    |true=>
     rw[hzb]at FZ hX;have hX:=hX.out;clear hzb HY HJg HJc
     gi_wp2_with (refine⟨trivial,?_⟩;gi_at_call 378;refine FZ.out.mono ?_;rintro e w' ⟨rfl,rfl⟩)
     refine bodyPost_ret (results_none rfl _ _ _) rfl ?_;exact⟨⟨_,rfl⟩,.inl ⟨by simpa using hX.symm,q,by omega,HJ.out⟩⟩
    |false=>
     rw[hzb]at FZ hX;have hX:5=x:=by simpa using hX.out
     subst hX;obtain⟨fn,tmps,assign,body,hy,hR⟩:=HY.out q #[.agg #[.int .i64 0,.slice none 0 0],.int .i64 5] 5 wr HJ.out (by omega) ⟨_,_,_,_,rfl⟩;have HR:=zH hR;clear hzb HY HJg HJc hR hX
     gi_wp2_with (refine⟨trivial,?_⟩;gi_at_call 378;refine FZ.out.mono ?_;rintro e w' ⟨rfl,rfl⟩)
     refine HR.out.mono ?_;rintro e W3 (⟨h5,_⟩ | ⟨_,rfl,hJ3⟩)
     ·cases h5
     ·gi_wp2_with fail
      refine bodyPost_ret (results_none rfl _ _ _) rfl ?_;exact⟨⟨_,rfl⟩,.inr ⟨by decide,hJ3⟩⟩
   ·have hzI:(((gB m 0:Nat):Int)==0)=false:=by rw[beq_eq_false_iff_ne];omega
    have F1:=zH (callsIn_wide (n:=n-1).2 (one_any hsr HB.out (by omega) (by omega)));cases ho:oneO m with
    |error e=>
     have hX:=HX.out;rw[optW_bad HF.out (by omega) hz ho]at hX;have he0:=oneO_err ho;subst hX;rw[ho]at F1;have HE:=zH he0;have heI:(e==0)=false:=by rw[beq_eq_false_iff_ne];exact he0
     have HHY:=zH (fun (k:Int) (A:Option Addr) (n c:Nat) (W:World) (hj:J q W)=>HY.out q #[.agg #[.int .i64 k,.slice A n c],.int .i64 e] e W hj (by omega) ⟨k,A,n,c,rfl⟩);clear he0 HX HY ho HJc HS HB HF hsr hcell hz
     gi_wp2_with (first
      |(refine⟨trivial,?_⟩;gi_at_call 379;refine F1.out.mono ?_;rintro e w1 ⟨he1,hc1⟩;have he1:_=_:=he1;subst he1;obtain⟨fn,tmps,assign,body,hy,hR⟩:=HHY.out 0 none 0 0 (w1.alloc (.cells arrO0 276)) (HJg.out _ _ _ HJ.out (hc1.alloc _));have HR:=zH hR;clear hR)
      |fail)
     refine HR.out.mono ?_;rintro e3 W3 (⟨h5,_⟩ | ⟨_,rfl,hJ3⟩)
     ·exact absurd h5 HE.out
     ·gi_wp2_with fail
      refine bodyPost_ret (results_none rfl _ _ _) rfl ?_;exact⟨⟨_,rfl⟩,.inr ⟨HE.out,hJ3⟩⟩
    |ok k=>
     obtain⟨f',hX,hf'⟩:=optW_on HF.out (by omega) hz ho;have hkk:=oneO_pos ho (by omega);obtain⟨X,hXr,hs'⟩:=cutYf HS.out (lo:=k) (by omega);have hXr':∀W:World,(Instr.slice 22 (.slice (some ⟨b,o,none⟩) n' c) (some (.int .i64 (k:Int))) none none).run Tryz.prog W=.ok (.slice X (n'-k) (c-k)) W:=hXr
     have HX':Hid (optW f' (m.drop k)=x):=zH (by rw[←hX];exact HX.out);have HB':=zH (HB.out.drop k);have hl':(m.drop k).length=n'-k:=by rw[List.length_drop];omega
     have HS':=zH hs';have HF':=zH hf';rw[ho]at F1;have HHY:=zH (fun (k:Int) (A:Option Addr) (n c:Nat) (W:World) (hj:J q W)=>HY.out q #[.agg #[.int .i64 k,.slice A n c],.int .i64 0] 0 W hj (by omega) ⟨k,A,n,c,rfl⟩);have hlt:n'-k<n':=by omega
     generalize m.drop k=m' at *;generalize gB m 0=x0 at *;clear HX HJc HS HB HF hsr hcell hXr hX hf' hs' ho
     gi_wp2_with (first
      |(refine⟨trivial,?_⟩;gi_at_call 379;refine F1.out.mono ?_;rintro e w1 ⟨⟨A1,n1,c1,rfl⟩,hc1⟩;obtain⟨fn,tmps,assign,body,hy,hR⟩:=HHY.out x0 A1 n1 c1 (w1.alloc (.cells #[.int .i64 (x0:Nat),.slice A1 n1 c1] 276)) (HJg.out _ _ _ HJ.out (hc1.alloc _));have HR:=zH hR;clear hR)
      |fail)
     refine HR.out.mono ?_;rintro e3 W3 (⟨_,rfl,hJ3⟩ | ⟨h5,_⟩)
     ·have HJ3:=zH hJ3
      gi_wp2_with fail
      go_roundw
      case rel=>exact⟨X,n'-k,c-k,f',q+1,m',rfl,HS',HB',hl',HF',by omega,HX',HJ3⟩
      case measure=>simp[lenV];omega
     ·exact absurd rfl h5
 stop
 skip
end Go.Proofs.YtgbndaiifbogmaaGreat
namespace Go.Proofs.YtgbndaiifbogmaaGreat
open Go.RowKit Go.Maps
@[reducible] def ar5 (a b c d e:Int):Array Value:=#[.int .i64 a,.int .i64 b,.int .i64 c,.int .i64 d,.int .i64 e]
theorem pnum_any {t:Sg} (h:numsT t=true) (pv:Value) (w:World):Calls Tryz.prog 334 #[.agg (arrTc t noV pv)] w fun e w'=>e=.returned (.int .i64 0)∧Chg [] w w':=by
 obtain⟨⟨a1,a2⟩,⟨b1,b2⟩,⟨d1,d2⟩,⟨e1,e2⟩,⟨f1,f2⟩,g1,g2⟩:=numsT.at h;obtain⟨x0,x1,sq,ak,x5,x2,x3,x4⟩:=t;simp only at a1 a2 b1 b2 d1 d2 e1 e2 f1 f2 g1 g2;have hB:Blk (w.alloc (.cells (arrTc ⟨x0,x1,sq,ak,x5,x2,x3,x4⟩ noV pv) 403)) w.heap.size 403 (arrTc ⟨x0,x1,sq,ak,x5,x2,x3,x4⟩ noV pv):=Blk.new _ _ _
 have hA:=(Chg.refl [] w).alloc (.cells (arrTc ⟨x0,x1,sq,ak,x5,x2,x3,x4⟩ noV pv) 403);have c0:=hB.cell 0;have c1:=hB.cell 1;have c4:=hB.cell 4;have c5:=hB.cell 5;have c6:=hB.cell 6;have c7:=hB.cell 7
 have i0:∀w,(Instr.index 282 (.agg (ar5 x0 x1 x2 x3 x4)) (.int .i64 0)).run Tryz.prog w=.ok (.int .i64 x0) w:=fun _=>by kernel_rfl
 have i1:∀w,(Instr.index 282 (.agg (ar5 x0 x1 x2 x3 x4)) (.int .i64 1)).run Tryz.prog w=.ok (.int .i64 x1) w:=fun _=>by kernel_rfl
 have i2:∀w,(Instr.index 282 (.agg (ar5 x0 x1 x2 x3 x4)) (.int .i64 2)).run Tryz.prog w=.ok (.int .i64 x2) w:=fun _=>by kernel_rfl
 have i3:∀w,(Instr.index 282 (.agg (ar5 x0 x1 x2 x3 x4)) (.int .i64 3)).run Tryz.prog w=.ok (.int .i64 x3) w:=fun _=>by kernel_rfl
 have i4:∀w,(Instr.index 282 (.agg (ar5 x0 x1 x2 x3 x4)) (.int .i64 4)).run Tryz.prog w=.ok (.int .i64 x4) w:=fun _=>by kernel_rfl
 have na0:¬x0<0:=by omega
 have na1:¬x0>65535:=by omega
 have nb0:¬x1<0:=by omega
 have nb1:¬x1>65535:=by omega
 have nc0:¬x2<0:=by omega
 have nc1:¬x2>65535:=by omega
 have nd0:¬x3<0:=by omega
 have nd1:¬x3>65535:=by omega
 have ne0:¬x4<0:=by omega
 have ne1:¬x4>65535:=by omega
 have nf0:¬x5<0:=by omega
 have nf1:¬x5>255:=by omega
 clear a1 a2 b1 b2 d1 d2 e1 e2 f1 f2 g1 g2 hB;go_enter Tryz.func334,Tryz.ntmps334
 go_wp2_with fail;refine wp_loop_rounds 6 ?_;rw[rounds_succ];go_wp2_with fail;rw[rounds_succ];go_wp2_with fail;rw[rounds_succ];go_wp2_with fail;rw[rounds_succ];go_wp2_with fail;rw[rounds_succ];go_wp2_with fail;rw[rounds_succ];go_wp2_with fail;go_ret
 exact⟨rfl,hA⟩
theorem popts_any (t:Sg) (pv:Value) (w:World):Calls Tryz.prog 335 #[.agg (arrTc t noV pv)] w fun e w'=>e=.returned (.int .i64 0)∧Chg [] w w':=by
 have hB:Blk (w.alloc (.cells (arrTc t noV pv) 403)) w.heap.size 403 (arrTc t noV pv):=Blk.new _ _ _;have hA:=(Chg.refl [] w).alloc (.cells (arrTc t noV pv) 403);have c8:=hB.cell 8;have F:=zH pocan0_any;clear hB;go_enter Tryz.func335,Tryz.ntmps335
 go_wp2_with fail;refine (F.out _).mono ?_;rintro e w1 ⟨rfl,hc1⟩;go_wp2_with fail;go_ret
 exact⟨rfl,hA.trans hc1⟩
theorem psize_any (t:Sg) (A:Option Addr) {n c:Nat} (hn:n≤65515) (w:World):Calls Tryz.prog 336 #[.agg (arrTc t noV (.slice A n c))] w fun e w'=>e=.returned (.int .i64 0)∧Chg [] w w':=by
 have hB:Blk (w.alloc (.cells (arrTc t noV (.slice A n c)) 403)) w.heap.size 403 (arrTc t noV (.slice A n c)):=Blk.new _ _ _;have hA:=(Chg.refl [] w).alloc (.cells (arrTc t noV (.slice A n c)) 403);have c8:=hB.cell 8;have F:=zH poput0_any;have hI:¬(n:Int)>65515:=by omega
 go_enter Tryz.func336,Tryz.ntmps336
 go_wp2_with fail;refine (F.out _).mono ?_;rintro e w1 ⟨rfl,hc1⟩;have hB1:=hB.chg hc1 (by simp);have c9:=hB1.cell 9;clear c8 hB hB1;go_wp2_with fail;go_ret
 exact⟨rfl,hA.trans hc1⟩
theorem infSe {t:Sg} {o p:Value}:(Tryz.prog.info? 403).map (·.size)=some (arrTc t o p).size:=by
 show _=some 10;kernel_rfl
theorem ptcan_any {t:Sg} (h:numsT t=true) (A:Option Addr) {n c:Nat} (hn:n≤65515) (w:World):Calls Tryz.prog 322 #[.agg (arrTc t noV (.slice A n c))] w fun e w'=>e=.returned (.int .i64 0)∧Chg [] w w':=by
 have F1:=zH (pnum_any h (.slice A n c));have F2:=zH (popts_any t (.slice A n c));have F3:=zH (psize_any t A (c:=c) hn);have hB:Blk (w.alloc (.cells (arrTc t noV (.slice A n c)) 34)) w.heap.size 34 (arrTc t noV (.slice A n c)):=Blk.new _ _ _
 have hA:=((Chg.refl [] w).alloc (.cells (arrTc t noV (.slice A n c)) 34)).alloc (.cells (arrTc tc0 noV noV) 403);have hS:Blk ((w.alloc (.cells (arrTc t noV (.slice A n c)) 34)).alloc (.cells (arrTc tc0 noV noV) 403)) (w.heap.size+1) 403 (arrTc tc0 noV noV):=Blk.new' (by simp)
 have i0:∀w,(Instr.index 405 (.agg #[.func (Fn.func 334) #[] #[],.func (Fn.func 335) #[] #[],.func (Fn.func 336) #[] #[]]) (.int .i64 0)).run Tryz.prog w=.ok (.func (Fn.func 334) #[] #[]) w:=fun _=>by kernel_rfl
 have i1:∀w,(Instr.index 405 (.agg #[.func (Fn.func 334) #[] #[],.func (Fn.func 335) #[] #[],.func (Fn.func 336) #[] #[]]) (.int .i64 1)).run Tryz.prog w=.ok (.func (Fn.func 335) #[] #[]) w:=fun _=>by kernel_rfl
 have i2:∀w,(Instr.index 405 (.agg #[.func (Fn.func 334) #[] #[],.func (Fn.func 335) #[] #[],.func (Fn.func 336) #[] #[]]) (.int .i64 2)).run Tryz.prog w=.ok (.func (Fn.func 336) #[] #[]) w:=fun _=>by kernel_rfl
 clear h hn;go_enter Tryz.func322,Tryz.ntmps322
 go_upto_region 2 with (first
  |(refine zl rfl 34 (.tmp 1) rfl hB rfl _ Tryz.underlying34 rfl infTc ?_)
  |(refine zs (vs:=arrTc t noV (.slice A n c)) rfl 403 (.tmp 3) (.tmp 8) rfl rfl hS rfl rfl rfl infSe rfl ?_;intro w2 hB2 hc2)
  |fail)
 have HC2:=zH<|hA.trans' hc2 (zN (by omega))
 clear hB hS hc2 hA;go_wp2_with fail;refine wp_loop_rounds 4 ?_;rw[rounds_succ];go_wp2_with (first
  |(refine zl rfl 403 (.tmp 3) rfl hB2 rfl _ Tryz.underlying403 rfl infSe ?_)
  |fail)
 refine (F1.out _).mono ?_;rintro e w3 ⟨rfl,hc3⟩;have hB3:=hB2.chg hc3 (by simp);have HC3:=zH (HC2.out.trans hc3);clear hB2 hc3 HC2 F1;go_wp2_with fail;rw[rounds_succ];go_wp2_with (first
  |(refine zl rfl 403 (.tmp 3) rfl hB3 rfl _ Tryz.underlying403 rfl infSe ?_)
  |fail)
 refine (F2.out _).mono ?_;rintro e w4 ⟨rfl,hc4⟩;have hB4:=hB3.chg hc4 (by simp);have HC4:=zH (HC3.out.trans hc4);clear hB3 hc4 HC3 F2;go_wp2_with fail;rw[rounds_succ];go_wp2_with (first
  |(refine zl rfl 403 (.tmp 3) rfl hB4 rfl _ Tryz.underlying403 rfl infSe ?_)
  |fail)
 refine (F3.out _).mono ?_;rintro e w5 ⟨rfl,hc5⟩;have hB5:=hB4.chg hc5 (by simp);have HC5:=zH (HC4.out.trans hc5);clear hB4 hc5 HC4 F3;go_wp2_with fail;rw[rounds_succ];go_wp2_with fail;go_ret
 exact⟨rfl,HC5.out⟩
end Go.Proofs.YtgbndaiifbogmaaGreat
namespace Go.Proofs.YtgbndaiifbogmaaGreat
open Go.RowKit Go.Maps
theorem mkS (p : Option Addr) (w : World) : (method (539 + 1) 252 (.pointer p) "harrier/packet.kind").run Tryz.prog w = .ok (364, .pointer p) w :=
 run_method_ptr (by kernel_rfl) Tryz.underlying252 _ w
theorem mkM (p : Option Addr) (w : World) : (method (539 + 1) 255 (.pointer p) "harrier/packet.kind").run Tryz.prog w = .ok (380, .pointer p) w :=
 run_method_ptr (by kernel_rfl) Tryz.underlying255 _ w
theorem mrS (p : Option Addr) (w : World) : (method (539 + 1) 252 (.pointer p) "harrier/packet.read").run Tryz.prog w = .ok (365, .pointer p) w :=
 run_method_ptr (by kernel_rfl) Tryz.underlying252 _ w
theorem mrM (p : Option Addr) (w : World) : (method (539 + 1) 255 (.pointer p) "harrier/packet.read").run Tryz.prog w = .ok (381, .pointer p) w :=
 run_method_ptr (by kernel_rfl) Tryz.underlying255 _ w
def OfPost (k:Int) (B:Nat) (e:Ending) (w':World):Prop:=
 (k=6∧∃g,e=.returned (.iface 252 (.pointer (some ⟨g,0,none⟩)))∧B≤g∧Blk w' g 254 (arrTc tc0 noV noV)) ∨
 (k=58∧∃g,e=.returned (.iface 255 (.pointer (some ⟨g,0,none⟩)))∧B≤g∧Blk w' g 257 (arrMs 0 0 0 noV)) ∨
 (k≠6∧k≠58∧e=.returned .nilIface)
theorem of_any (k:Int) (w:World):Calls Tryz.prog 157 #[.int .i64 k] w fun e w'=>OfPost k w.heap.size e w'∧Chg [] w w':=by
 have hA:=(((Chg.refl [] w).alloc (.cells (arrTc tc0 noV noV) 254)).alloc (.cells (arrMs 0 0 0 noV) 257)).alloc (.cells #[.iface 252 (.pointer (some ⟨w.heap.size,0,none⟩)),.iface 255 (.pointer (some ⟨w.heap.size+1,0,none⟩))] 249)
 have hB1:Blk (((w.alloc (.cells (arrTc tc0 noV noV) 254)).alloc (.cells (arrMs 0 0 0 noV) 257)).alloc (.cells #[.iface 252 (.pointer (some ⟨w.heap.size,0,none⟩)),.iface 255 (.pointer (some ⟨w.heap.size+1,0,none⟩))] 249)) w.heap.size 254 (arrTc tc0 noV noV):=((Blk.new _ _ _).alloc _).alloc _
 have hB2:Blk (((w.alloc (.cells (arrTc tc0 noV noV) 254)).alloc (.cells (arrMs 0 0 0 noV) 257)).alloc (.cells #[.iface 252 (.pointer (some ⟨w.heap.size,0,none⟩)),.iface 255 (.pointer (some ⟨w.heap.size+1,0,none⟩))] 249)) (w.heap.size+1) 257 (arrMs 0 0 0 noV):=(Blk.new' (by simp)).alloc _
 have hB3:Blk (((w.alloc (.cells (arrTc tc0 noV noV) 254)).alloc (.cells (arrMs 0 0 0 noV) 257)).alloc (.cells #[.iface 252 (.pointer (some ⟨w.heap.size,0,none⟩)),.iface 255 (.pointer (some ⟨w.heap.size+1,0,none⟩))] 249)) (w.heap.size+1+1) 249 #[.iface 252 (.pointer (some ⟨w.heap.size,0,none⟩)),.iface 255 (.pointer (some ⟨w.heap.size+1,0,none⟩))]:=Blk.new' (by simp)
 have HB:=zH (And.intro hA (And.intro hB1 hB2));have c0:=hB3.cell 0;have c1:=hB3.cell 1;simp only[List.getElem?_toArray,List.getElem?_cons_succ,List.getElem?_cons_zero]at c0 c1;clear hA hB1 hB2 hB3;go_enter Tryz.func157,Tryz.ntmps157
 go_wp2_with fail;go_loop [13] (fun iv=>∃i:Nat,i≤2∧iv=.int .i64 i∧(0<i→k≠6)∧(1<i→k≠58)) (fun iv=>2-(intOf iv).toNat)
 case atStart=>exact⟨0,by omega,rfl,fun h=>absurd h (by omega),fun h=>absurd h (by omega)⟩
 case round=>
  obtain⟨i,hi,rfl,h1,h2⟩:=hrel;have hi':i=0∨i=1∨i=2:=by omega
  rcases hi' with rfl|rfl|rfl
  ·clear h1 h2;have m1:=mkS (some ⟨w.heap.size,0,none⟩);have FK:=zH (skind_any (.pointer (some ⟨w.heap.size,0,none⟩)));by_cases hk:k=6
   ·subst hk;go_wp2_with fail;refine (FK.out _).mono ?_;rintro e w1 ⟨rfl,rfl⟩;go_wp2_with fail;go_ret
    exact⟨.inl ⟨rfl,_,rfl,Nat.le_refl _,HB.out.2.1⟩,HB.out.1⟩
   ·have hkI:((6:Int)==k)=false:=by rw[beq_eq_false_iff_ne];omega
    have HKn:=zH hk;clear hk;go_wp2_with fail;refine (FK.out _).mono ?_;rintro e w1 ⟨rfl,rfl⟩;go_wp2_with fail;go_round
    case rel=>exact⟨1,by omega,by go_num,fun _=>HKn.out,fun h=>absurd h (by omega)⟩
    case measure=>simp[intOf]
  ·have HKn:=zH (h1 (by omega));clear h1 h2;have m1:=mkM (some ⟨w.heap.size+1,0,none⟩);have FK:=zH (mkind_any (.pointer (some ⟨w.heap.size+1,0,none⟩)));by_cases hk:k=58
   ·subst hk;go_wp2_with fail;refine (FK.out _).mono ?_;rintro e w1 ⟨rfl,rfl⟩;go_wp2_with fail;go_ret
    exact⟨.inr (.inl ⟨rfl,_,rfl,Nat.le_succ _,HB.out.2.2⟩),HB.out.1⟩
   ·have hkI:((58:Int)==k)=false:=by rw[beq_eq_false_iff_ne];omega
    have HKm:=zH hk;clear hk;go_wp2_with fail;refine (FK.out _).mono ?_;rintro e w1 ⟨rfl,rfl⟩;go_wp2_with fail;go_round
    case rel=>exact⟨2,by omega,by go_num,fun _=>HKn.out,fun _=>HKm.out⟩
    case measure=>simp[intOf]
  ·have HKn:=zH (h1 (by omega));have HKm:=zH (h2 (by omega));clear h1 h2;go_wp2_with fail;go_ret
   exact⟨.inr (.inr ⟨HKn.out,HKm.out,rfl⟩),HB.out.1⟩
end Go.Proofs.YtgbndaiifbogmaaGreat

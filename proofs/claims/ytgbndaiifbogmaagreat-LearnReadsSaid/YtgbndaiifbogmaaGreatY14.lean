/-
  Small laws and walks on the way to LearnReads: Tb, Pa, Pb, Pc. Conditions: each theorem names its own.
-/
import Derived.Test.YtgbndaiifbogmaaGreatY13
import Derived.Test.YtgbndaiifbogmaaGreatY12
set_option linter.unusedVariables false
set_option linter.unusedSimpArgs false
set_option maxRecDepth 100000
set_option maxHeartbeats 8000000
namespace Go.Proofs.YtgbndaiifbogmaaGreat
open Go.RowKit Go.Maps
attribute [local go_sem] Oper.semAt_some
theorem wpListIn_appT {P:Program} {t e:TypeId} {z:Value} {size bytes:Nat} {w:World} (el:El P t e z size bytes) {F:Fence} {q:Nat} {ops:Array Oper} {rest:List Oper} {o:Oper} {a:Act} {Q:Exit→Act→World→Prop} (hgd:o.guard=none) (s x:Operand)
  (ho:o.op=.call {callee:=.builtin .append,args:=#[s,x],argTypes:=#[t,t]})
  (base:Nat) {v:Value} {n:Nat} {xs:List Value} (hs:a.eval s=v) (hown:w.ownsRow base e size v n xs)
  {B:Nat} {sv:Value} {m:Nat} {news:List Value} (hx:a.eval x=sv) (hr:Sl w B size sv m news) (h1:∀u∈news,u.oneCell'=true)
  (h63:n+m≤maxLen) (hbytes:(n+m)*bytes≤140737488355328) (hbase:base≤w.heap.size)
  (h:∀v' w',w'.ownsRow base e size v' (n+m) (xs++news)→Chg v.ownBlock.toList w w'→wpListIn F q P ops Q rest (a.put o.dst v') w') :
  wpListIn F q P ops Q (o::rest) a w:=by
 refine wpListIn_plain hgd fun K hK'=>?_
 obtain⟨v',w',hrun,h2,h3,h5⟩:=app_run el o.type base hown hr h1 h63 hbytes hbase;unfold Oper.wpIn;refine⟨?_,?_⟩
 ·simp[Oper.about,ho,resolve,Target.leads,Sem.run_pure]
 ·rw[Oper.semAt_plain F _ _ (by rw[ho];intro c hc';cases hc')];simp[execOp,ho,resolve,invoke,builtin,hs,hx,hrun,Result.andThen];exact hK' _ _ (h v' w' h2 h3)
theorem keepsO_T {S:List Nat} {W W':World} (h:Chg S W W') (hS:∀x∈S,∃cs t o,W.heap[x]?=some (.cells cs t o)):KeepsOthers W W':=
 ⟨h.size,fun k o hk ho=>by
  have hlt:=(Array.getElem?_eq_some_iff.1 hk).1;by_cases hm:k∈S
  ·obtain⟨cs,t,o',hc⟩:=hS k hm;rw[hk]at hc;cases hc;cases ho
  ·rw[h.block k hlt hm];exact hk⟩
theorem own_cellsT {w:World} {base size n:Nat} {e:TypeId} {v:Value} {xs:List Value} (h:w.ownsRow base e size v n xs):∀x∈v.ownBlock.toList,∃cs t o,w.heap[x]?=some (.cells cs t o):=by
 intro x hx;rcases h.2 with ⟨rfl,_⟩ | ⟨g,cap,cur,rfl,_,hh,_⟩
 ·simp[Value.ownBlock]at hx
 ·simp[Value.ownBlock]at hx;subst hx;exact⟨_,_,_,hh⟩
theorem blk_kept {w w':World} {g:Nat} {t:TypeId} {cs:Array Value} {row:Option Nat} (h:Blk w g t cs) (hg:w.grownBy w' row) (hr:∀r,row=some r→∃o:Obj,w.heap[r]?=some o∧o.isCells=false):Blk w' g t cs:=
 (hg.block g (Array.getElem?_eq_some_iff.1 h).1 (fun e=>by
  obtain⟨o,ho,hn⟩:=hr g e.symm;rw[show w.heap[g]?=_ from h]at ho;cases ho;cases hn)).trans h
theorem own_keptT {w w':World} {base size n:Nat} {e:TypeId} {v:Value} {xs:List Value} {row:Option Nat} (h:w.ownsRow base e size v n xs) (hg:w.grownBy w' row) (hr:∀r,row=some r→∃o:Obj,w.heap[r]?=some o∧o.isCells=false):w'.ownsRow base e size v n xs:=by
 refine h.kept hg ?_;rcases h.2 with ⟨rfl,_⟩ | ⟨g,cap,cur,rfl,_,hh,_⟩
 ·cases row with
  |none=>exact .inl rfl
  |some r=>exact .inr (by simp[Value.ownBlock])
 ·cases row with
  |none=>exact .inr (by simp[Value.ownBlock])
  |some r=>
   refine .inr ?_;intro e;simp[Value.ownBlock]at e;subst e;obtain⟨o,ho,hn⟩:=hr _ rfl;rw[hh]at ho;cases ho;cases hn
theorem elO:El Tryz.prog 32 276 (.agg #[.int .i64 0,.slice none 0 0]) 2 32:=⟨Tryz.underlying32,by kernel_rfl,rfl,by omega⟩
theorem allO_any (A:Option Addr) (n c:Nat) (w:World) :
  Calls Tryz.prog 371 #[.slice A n c] w fun e w'=>e=.returned (.func (.func 377) #[] #[.pointer (some ⟨w.heap.size,0,none⟩)])∧w'=w.alloc (.cells #[.slice A n c] 22):=by
 go_enter Tryz.func371,Tryz.ntmps371
 go_wp2
 go_ret
 exact⟨rfl,rfl⟩
def IO (w:World) (i:Nat) (W:World):Prop:=(∃v k xs,Blk W w.heap.size 32 #[.slice none 0 0]∧Blk W (w.heap.size+1) 39 #[.int .i64 0]∧Blk W (w.heap.size+1+1) 32 #[v] ∧
 W.ownsRow (w.heap.size+4) 276 2 v k xs∧k≤i∧w.heap.size+4≤W.heap.size)∧Chg [] w W
def JO (w:World) (e:Int) (W:World):Prop:=(Blk W w.heap.size 32 #[.slice none 0 0]∧Blk W (w.heap.size+1) 39 #[.int .i64 e])∧Chg [] w W
def AO (A0:Option Addr) (N c0 g:Nat) (args:Array Value) (e:Int) (a:Act) (W:World):Prop:=∃(p:Nat) (k:Int) (A:Option Addr) (n c:Nat),args=#[.agg #[.int .i64 k,.slice A n c],.int .i64 e]∧Blk W p 276 #[.int .i64 k,.slice A n c]∧g+4≤p ∧
 a={tmps:=#[.slice A0 N c0,undef,.pointer (some ⟨g,0,none⟩),.pointer (some ⟨g+1,0,none⟩),.pointer (some ⟨g+1+1,0,none⟩),.pointer (some ⟨p,0,none⟩),.int .i64 e,.slice A0 N c0,.int .i64 N,.bool false,.slice A0 N c0,.func (.func 377) #[] #[.pointer (some ⟨g+1+1+1,0,none⟩)],.agg #[.int .i64 k,.slice A n c],.int .i64 e,undef,undef,undef,undef,undef,undef,undef,undef],defers:=[]}
theorem ownFrom_IO (w:World) {B:Nat} (hB:w.heap.size≤B):OwnFrom B (IO w):=fun i W W' row ⟨⟨v,k,xs,h0,h1,h2,h3,h4,h5⟩,hc⟩ hg hr=>
 ⟨⟨v,k,xs,blk_kept h0 hg (fun r e=>(hr r e).2),blk_kept h1 hg (fun r e=>(hr r e).2),blk_kept h2 hg (fun r e=>(hr r e).2),own_keptT h3 hg (fun r e=>(hr r e).2),h4,Nat.le_trans h5 hg.size⟩,ownFrom_chg hB 0 W W' row hc hg hr⟩
theorem ownFrom_JO (w:World) {B:Nat} (hB:w.heap.size≤B):OwnFrom B (JO w):=fun i W W' row ⟨⟨h0,h1⟩,hc⟩ hg hr=>
 ⟨⟨blk_kept h0 hg (fun r e=>(hr r e).2),blk_kept h1 hg (fun r e=>(hr r e).2)⟩,ownFrom_chg hB 0 W W' row hc hg hr⟩
theorem ownFrom_AO (A0:Option Addr) (N c0 g:Nat) {B:Nat} (args:Array Value) (e:Int):OwnFrom B (AO A0 N c0 g args e):=fun a W W' row ⟨p,k,A,n,c,h1,h2,h3,h4⟩ hg hr=>
 ⟨p,k,A,n,c,h1,blk_kept h2 hg (fun r e=>(hr r e).2),h3,h4⟩
theorem top_says:TopSays:=by
 intro w v l h hb hl;obtain⟨A0,c0,rfl⟩:=h.form;refine (callsIn_wide (n:=5)).1 ?_;have HS:=zH h;have hL:Hid (optS l=if 40<l.length then 4 else optW (l.length+1) l):=zH rfl;generalize optS l=x at *;generalize hN:l.length=N at *;clear h;refine callsIn_of_wp_marks Tryz.func368 rfl trivial ?_ rfl
 simp only[Tryz.ntmps368,List.size_toArray,List.length_cons,List.length_nil,Nat.reduceAdd,Nat.reduceSub,Array.replicate_succ,Array.replicate_zero,List.push_toArray,List.append_toArray,List.nil_append,List.cons_append];by_cases h4:40<N
 ·have hX:=hL.out;rw[if_pos h4]at hX;subst hX;have hI:(40:Int)<(N:Int):=by omega
  clear HS hL
  gi_wp2
  have b0:Blk ((w.alloc (.cells #[.slice none 0 0] 32)).alloc (.cells #[.int .i64 4] 39)) w.heap.size 32 #[.slice none 0 0]:=(Blk.new _ _ _).alloc _;have b1:Blk ((w.alloc (.cells #[.slice none 0 0] 32)).alloc (.cells #[.int .i64 4] 39)) (w.heap.size+1) 39 #[.int .i64 4]:=Blk.new' (by simp)
  have c1:=b0.cell 0;have c2:=b1.cell 0;refine⟨.tuple #[.slice none 0 0,.int .i64 4],?_,⟨⟨_,_,_,rfl⟩,((Chg.refl [] w).alloc _).alloc _⟩⟩;simp[results,Tryz.f368,go_sem,c1,c2]
 ·have hX:=hL.out;rw[if_neg h4]at hX;have hI:¬(40:Int)<(N:Int):=by omega
  gi_wp2_with (refine⟨trivial,?_⟩;gi_at_call 371;refine (callsIn_wide.2 (allO_any _ _ _ _)).mono ?_;rintro e w' ⟨rfl,rfl⟩)
  obtain⟨w1,hw1⟩:∃w1,w1=(((w.alloc (.cells #[.slice none 0 0] 32)).alloc (.cells #[.int .i64 0] 39)).alloc (.cells #[.slice none 0 0] 32)).alloc (.cells #[.slice A0 N c0] 22):=⟨_,rfl⟩;have hA:Chg [] w w1:=by rw[hw1];exact ((((Chg.refl [] w).alloc _).alloc _).alloc _).alloc _
  have hB0:Blk w1 w.heap.size 32 #[.slice none 0 0]:=by rw[hw1];exact (((Blk.new _ _ _).alloc _).alloc _).alloc _
  have hB1:Blk w1 (w.heap.size+1) 39 #[.int .i64 0]:=by rw[hw1];exact ((Blk.new' (by simp)).alloc _).alloc _
  have hB2:Blk w1 (w.heap.size+1+1) 32 #[.slice none 0 0]:=by rw[hw1];exact (Blk.new' (by simp)).alloc _
  have hB3:Blk w1 (w.heap.size+1+1+1) 22 #[.slice A0 N c0]:=by rw[hw1];exact Blk.new' (by simp)
  have hz:w1.heap.size=w.heap.size+4:=by rw[hw1];simp
  rw[←hw1];clear hw1;have hs0:SlY w 0 (.slice A0 N c0) l:=HS.out;have hseq:=all1_seq (5-1) (by omega) (w:=w) (hB3.cell 0) hs0 hb (by omega);rw[hN,←hX]at hseq
  refine wpIn_range_err (by omega) (gf:=377) (lb:=#[.pointer (some ⟨w.heap.size+1+1+1,0,none⟩)]) rfl (enters_of Tryz.func377 (by kernel_rfl) rfl) hseq
   (by rintro _ e ⟨k,A,n,c,rfl⟩;rfl) (IO w) (JO w) (ownFrom_IO w (by omega)) (ownFrom_JO w (by omega)) (fun i A h=>h.2) ⟨⟨_,_,_,hB0,hB1,hB2,World.ownsRow_nil ..,by omega⟩,hA⟩
   (AO A0 N c0 w.heap.size) (ownFrom_AO _ _ _ _) ?assign ?body ?done ?stop
  case assign=>
   rintro l' i _ e W hsz hI ⟨k,A,n,c,rfl⟩;have hA1:=(Chg.refl [] W).alloc (.cells #[.int .i64 k,.slice A n c] 276);have hBn:Blk (W.alloc (.cells #[.int .i64 k,.slice A n c] 276)) W.heap.size 276 #[.int .i64 k,.slice A n c]:=Blk.new _ _ _;have HH:=zH (And.intro hA1 hBn);clear hA1 hBn
   gi_wp2
   exact⟨HH.out.1,W.heap.size,k,A,n,c,rfl,HH.out.2,by omega,rfl⟩
  case body=>
   rintro l' i _ e a₁ W hsz hI hiN _ ⟨p,k,A,n,c,rfl,hBp,hp,rfl⟩;obtain⟨⟨v,q,xs,h0,h1,h2,hown,hq,hgz⟩,hC⟩:=hI;by_cases he:e=0
   ·subst he;obtain⟨A2,cc,rfl⟩:=Sl.form (Sl.of_own hown);have c0:=h2.cell 0;have c1:W.cell? ⟨p,0,none⟩=some (.int .i64 k):=hBp.cell 0;have c2:W.cell? ⟨p,1,none⟩=some (.slice A n c):=hBp.cell 1;have f0:=h2.frozen 0;have hlt:=own_lt hown;have hbs:=h2.lt
    have hA1:=(Chg.refl [] W).alloc (.cells #[.int .i64 k,.slice A n c] 276);have hcw1:=hA1.cell c0 (by simp);have hfr1:=(hA1.frozen c0 (by simp)).trans f0;have hown1:=own_chg hown hA1 (by simp)
    have hcat:Sl (W.alloc (.cells #[.int .i64 k,.slice A n c] 276)) 0 2 (.slice (some ⟨W.heap.size,0,none⟩) 1 1) 1 [.int .i64 k,.slice A n c]:=
     Sl.of_own (own_lit (base:=0) W 276 2 1 #[.int .i64 k,.slice A n c] (Nat.zero_le _) (by simp[maxLen]) rfl)
    have hnm:w.heap.size+1+1∉(Value.slice A2 q cc).ownBlock.toList:=fun hm=>by have:=(hlt _ hm).1;omega
    have hnm0:w.heap.size∉(Value.slice A2 q cc).ownBlock.toList:=fun hm=>by have:=(hlt _ hm).1;omega
    have hnm1:w.heap.size+1∉(Value.slice A2 q cc).ownBlock.toList:=fun hm=>by have:=(hlt _ hm).1;omega
    have hsz1:w.heap.size+4≤(W.alloc (.cells #[.int .i64 k,.slice A n c] 276)).heap.size:=by simp;omega
    gi_wp2_with (
     (gi_at_builtin;refine wpListIn_appT elO rfl (.tmp 17) (.tmp 19) rfl (w.heap.size+4) rfl hown1 rfl hcat (by intro u hu;simp at hu;rcases hu with rfl|rfl<;>rfl) (by unfold maxLen;omega) (by omega) hsz1 ?_;intro v2 w2 hown2 hc2;obtain⟨A3,c3,rfl⟩:=Sl.form (Sl.of_own hown2);have hcw2:=hc2.cell hcw1 hnm;have hfr2:=(hc2.frozen hcw1 hnm).trans hfr1))
    have hb0:=(h0.chg hA1 (by simp)).chg hc2 hnm0;have hb1:=(h1.chg hA1 (by simp)).chg hc2 hnm1;have hb2:=(h2.chg hA1 (by simp)).chg hc2 hnm
    have hc3:Chg [w.heap.size+1+1] w2 (w2.setCell ⟨w.heap.size+1+1,0,none⟩ (.slice A3 (q+1) c3)):=(Chg.refl [w.heap.size+1+1] w2).setCell (p:=⟨w.heap.size+1+1,0,none⟩) (.inl (by simp)) _
    have hb2':Blk (w2.setCell ⟨w.heap.size+1+1,0,none⟩ (.slice A3 (q+1) c3)) (w.heap.size+1+1) 32 #[.slice A3 (q+1) c3]:=hb2.set_ 0 _;refine⟨rfl,?_,⟨_,_,_,hb0.chg hc3 (by simp;omega),hb1.chg hc3 (by simp),hb2',own_chg hown2 hc3 ?_,Nat.succ_le_succ hq,?_⟩,?_⟩
    ·exact ((KeepsOthers.alloc W _).trans (keepsO_T hc2 (own_cellsT hown1))).trans (KeepsOthers.setCell _ _ _)
    ·intro y hy e;simp at e;subst e;have:=(own_lt hown2 _ hy).1;omega
    ·exact Nat.le_trans hsz1 (Nat.le_trans hc2.size hc3.size)
    ·exact ((hC.trans hA1).trans' hc2 (fun y hy=>.inr (by have:=(hlt y hy).1;omega))).trans' hc3 (by intro y hy;simp at hy;right;omega)
   ·have heI:(e !=0)=true:=by simpa using he
    have heI2:(e==0)=false:=by simpa using he
    have c0:=h0.cell 0;have c1:=h1.cell 0;have f0:=h0.frozen 0;have f1:=h1.frozen 0;have hc0:Chg [w.heap.size] W (W.setCell ⟨w.heap.size,0,none⟩ (.slice none 0 0)):=(Chg.refl [w.heap.size] W).setCell (p:=⟨w.heap.size,0,none⟩) (.inl (by simp)) _
    have hc1:Chg [w.heap.size+1] (W.setCell ⟨w.heap.size,0,none⟩ (.slice none 0 0)) ((W.setCell ⟨w.heap.size,0,none⟩ (.slice none 0 0)).setCell ⟨w.heap.size+1,0,none⟩ (.int .i64 e)):=(Chg.refl [w.heap.size+1] _).setCell (p:=⟨w.heap.size+1,0,none⟩) (.inl (by simp)) _
    have hb0:Blk (W.setCell ⟨w.heap.size,0,none⟩ (.slice none 0 0)) w.heap.size 32 #[.slice none 0 0]:=h0.set_ 0 _;have hb1:Blk ((W.setCell ⟨w.heap.size,0,none⟩ (.slice none 0 0)).setCell ⟨w.heap.size+1,0,none⟩ (.int .i64 e)) (w.heap.size+1) 39 #[.int .i64 e]:=(h1.chg hc0 (by simp)).set_ 0 _
    gi_wp2_with fail
    refine⟨he,(KeepsOthers.setCell _ _ _).trans (KeepsOthers.setCell _ _ _),⟨hb0.chg hc1 (by simp),hb1⟩,(hC.trans' hc0 (by simp)).trans' hc1 (by simp)⟩
  case done=>
   rintro D i W hD hx0 hiN ⟨⟨v,q,xs,h0,h1,h2,hown,hq,hgz⟩,hC⟩ hK;obtain⟨A2,cc,rfl⟩:=Sl.form (Sl.of_own hown);have c0:=h2.cell 0;have c1:=h0.cell 0;have c2:=h1.cell 0;have f0:=h0.frozen 0;have f1:=h1.frozen 0
   gi_wp2_with fail
   have hc0:Chg [w.heap.size] W (W.setCell ⟨w.heap.size,0,none⟩ (.slice A2 q cc)):=(Chg.refl [w.heap.size] W).setCell (p:=⟨w.heap.size,0,none⟩) (.inl (by simp)) _
   have hc1:Chg [w.heap.size+1] (W.setCell ⟨w.heap.size,0,none⟩ (.slice A2 q cc)) ((W.setCell ⟨w.heap.size,0,none⟩ (.slice A2 q cc)).setCell ⟨w.heap.size+1,0,none⟩ (.int .i64 0)):=(Chg.refl [w.heap.size+1] _).setCell (p:=⟨w.heap.size+1,0,none⟩) (.inl (by simp)) _
   have hb0:Blk (W.setCell ⟨w.heap.size,0,none⟩ (.slice A2 q cc)) w.heap.size 32 #[.slice A2 q cc]:=h0.set_ 0 _;have hb1:Blk ((W.setCell ⟨w.heap.size,0,none⟩ (.slice A2 q cc)).setCell ⟨w.heap.size+1,0,none⟩ (.int .i64 0)) (w.heap.size+1) 39 #[.int .i64 0]:=(h1.chg hc0 (by simp)).set_ 0 _
   have hK':=(KeepsOthers.setCell (W.setCell ⟨w.heap.size,0,none⟩ (.slice A2 q cc)) ⟨w.heap.size+1,0,none⟩ (.int .i64 0)).same D _ ((KeepsOthers.setCell W ⟨w.heap.size,0,none⟩ (.slice A2 q cc)).same D _ hK rfl) rfl;have hb0':=hb0.chg hc1 (by simp)
   refine⟨by simp,.inl ⟨_,_,rfl,run_takeDeferred hK',?_⟩⟩;have hc4:=cell_kept (hb0'.cell 0) (grownBy_putObj' _ D (.deferred none)) (fun r e=>by cases e;exact⟨_,hK',rfl⟩);have hc5:=cell_kept (hb1.cell 0) (grownBy_putObj' _ D (.deferred none)) (fun r e=>by cases e;exact⟨_,hK',rfl⟩)
   have hCf:=((hC.trans' hc0 (by simp)).trans' hc1 (by simp));refine⟨.tuple #[.slice A2 q cc,.int .i64 0],?_,⟨⟨_,_,_,by rw[hx0]⟩,Chg.of_below (hCf.below.trans (belowK_b (w:=w) (Nat.le_refl _) _ D _ _ (by omega) hK' rfl rfl))⟩⟩;simp[results,Tryz.f368,go_sem,hc4,hc5]
  case stop=>
   rintro D W hD hx0 ⟨⟨h0,h1⟩,hC⟩ hK;have c1:=h0.cell 0;have c2:=h1.cell 0
   gi_wp2_with fail
   refine⟨by simp,.inl ⟨_,_,rfl,run_takeDeferred hK,?_⟩⟩;have hc4:=cell_kept c1 (grownBy_putObj' _ D (.deferred none)) (fun r e=>by cases e;exact⟨_,hK,rfl⟩);have hc5:=cell_kept c2 (grownBy_putObj' _ D (.deferred none)) (fun r e=>by cases e;exact⟨_,hK,rfl⟩)
   refine⟨.tuple #[.slice none 0 0,.int .i64 x],?_,⟨⟨_,_,_,rfl⟩,Chg.of_below (hC.below.trans (belowK_b (w:=w) (Nat.le_refl _) _ D _ _ (by omega) hK rfl rfl))⟩⟩;simp[results,Tryz.f368,go_sem,hc4,hc5]
end Go.Proofs.YtgbndaiifbogmaaGreat
namespace Go.Proofs.YtgbndaiifbogmaaGreat
open Go.RowKit Go.Maps
structure Pm where
 (h:Hd) (rt:Bool) (s:Sr) (sv tv:Value) (f:Ad) (k:Int) (t:Sg) (ov pv:Value) (mkd mc mw:Nat) (mb bv:Value)
@[reducible] def arrPk (p:Pm):Array Value:=#[.int .i64 p.h.cls,.int .i64 p.h.lab,.int .i64 p.h.len,.int .i64 p.h.nxt,.int .i64 p.h.hop,.int .u8 p.h.src.a0,.int .u8 p.h.src.a1,.int .u8 p.h.src.a2,.int .u8 p.h.src.a3,.int .u8 p.h.src.a4,.int .u8 p.h.src.a5,.int .u8 p.h.src.a6,.int .u8 p.h.src.a7,.int .u8 p.h.src.a8,.int .u8 p.h.src.a9,.int .u8 p.h.src.a10,.int .u8 p.h.src.a11,.int .u8 p.h.src.a12,.int .u8 p.h.src.a13,.int .u8 p.h.src.a14,.int .u8 p.h.src.a15,.int .u8 p.h.dst.a0,.int .u8 p.h.dst.a1,.int .u8 p.h.dst.a2,.int .u8 p.h.dst.a3,.int .u8 p.h.dst.a4,.int .u8 p.h.dst.a5,.int .u8 p.h.dst.a6,.int .u8 p.h.dst.a7,.int .u8 p.h.dst.a8,.int .u8 p.h.dst.a9,.int .u8 p.h.dst.a10,.int .u8 p.h.dst.a11,.int .u8 p.h.dst.a12,.int .u8 p.h.dst.a13,.int .u8 p.h.dst.a14,.int .u8 p.h.dst.a15,.bool p.rt,.int .i64 p.s.nxt,.int .i64 p.s.left,.int .i64 p.s.flags,.int .i64 p.s.tag,p.sv,p.tv,.int .u8 p.f.a0,.int .u8 p.f.a1,.int .u8 p.f.a2,.int .u8 p.f.a3,.int .u8 p.f.a4,.int .u8 p.f.a5,.int .u8 p.f.a6,.int .u8 p.f.a7,.int .u8 p.f.a8,.int .u8 p.f.a9,.int .u8 p.f.a10,.int .u8 p.f.a11,.int .u8 p.f.a12,.int .u8 p.f.a13,.int .u8 p.f.a14,.int .u8 p.f.a15,.int .i64 p.k,.int .i64 p.t.sport,.int .i64 p.t.dport,.int .u32 p.t.seq,.int .u32 p.t.ack,.int .i64 p.t.flags,.int .i64 p.t.window,.int .i64 p.t.ck,.int .i64 p.t.urgent,p.ov,p.pv,.int .i64 p.mkd,.int .i64 p.mc,.int .u32 p.mw,p.mb,p.bv]
@[reducible] def sr0:Sr:=⟨0,0,0,0,[]⟩
@[reducible] def pm0:Pm:=⟨hd0,false,sr0,noV,noV,ad0,0,tc0,noV,noV,0,0,0,noV,noV⟩
theorem infPk {p:Pm}:(Tryz.prog.info? 38).map (·.size)=some (arrPk p).size:=by
 show _=some 76;kernel_rfl
section
variable {P:Program} {w w':World} {g:Nat} {e:TypeId} {cs vs:Array Value}
theorem Blk.part (hb:Blk w g e cs) {o:Nat} (l:List Value) (h:(cs.toList.drop o).take l.length=l):w.rangeAt g o l:=fun j v hv=>by
 rw[hb.cell];have hj:=(List.getElem?_eq_some_iff.1 hv).1;rw[←h]at hv;rw[List.getElem?_take,if_pos hj,List.getElem?_drop]at hv;simpa using hv
theorem wpList_store_part {ops:Array Oper} {rest:List Oper} {op:Oper} {a:Act} {Q:Exit→Act→World→Prop} (hgd:op.guard=none) (ty:TypeId) (x y:Operand) (ho:op.op=.store ty x y) (hd:op.dst=none)
  (hb:Blk w g e cs) (o:Nat) (hx:a.eval x=.pointer (some ⟨g,o,none⟩)) (hy:a.eval y=.agg vs) (hsz:o+vs.size≤cs.size) (hi:(P.info? ty).map (·.size)=some vs.size) (h1:vs.toList.all (·.oneCell')=true)
  {cs':Array Value} (hcs:putAt cs o vs.toList=cs') (h:∀w',Blk w' g e cs'→Chg [g] w w'→wpList P ops Q rest a w'):wpList P ops Q (op::rest) a w:=by
 subst hcs;refine wpList_store_mid hgd ty x y ho g o vs hx hy (fun j hj=>?_) hi ?_ ?_
 ·rw[hb.cell,hb.frozen];exact⟨by rw[Array.getElem?_eq_getElem (show o+j<cs.size by omega)];rfl,rfl⟩
 ·simpa using h1
 ·have e1:a.put op.dst undef=a:=by rw[hd];rfl
  rw[e1];exact h _ (Blk.setCells vs.toList o cs hb) (Chg.setCells _ _)
theorem wpList_load_part {ops:Array Oper} {rest:List Oper} {op:Oper} {a:Act} {Q:Exit→Act→World→Prop} (hgd:op.guard=none) (ty:TypeId) (x:Operand) (ho:op.op=.load ty x)
  (hb:Blk w g e cs) (o:Nat) (hx:a.eval x=.pointer (some ⟨g,o,none⟩)) (d:TypeDesc) (hu:P.underlying ty=some d) (hd:d.isRow=true) (hi:(P.info? ty).map (·.size)=some vs.size) (hp:(cs.toList.drop o).take vs.toList.length=vs.toList)
  (h:wpList P ops Q rest (a.put op.dst (.agg vs)) w):wpList P ops Q (op::rest) a w:=
 wpList_load_mid hgd ty x ho g o hx vs.toList d (hb.part vs.toList hp) hu hd (by simpa using hi) (by simpa using h)
end
@[reducible] def arrP (p:Pt):Array Value:=#[.int .i64 p.kind,.int .i64 (p.at_:Nat),.int .i64 (p.len:Nat)]
@[reducible] def arrP0:Array Value:=#[.int .i64 0,.int .i64 0,.int .i64 0]
theorem infP {p:Pt}:(Tryz.prog.info? 176).map (·.size)=some (arrP p).size:=by
 show _=some 3;kernel_rfl
theorem pk_head (p:Pm) (h:Hd):putAt (arrPk p) 0 (arrH h).toList=arrPk {p with h:=h}:=by kernel_rfl
theorem pk_srh (p:Pm) (s:Sr) (sv tv:Value):putAt (arrPk p) 38 (arrSr s sv tv).toList=arrPk {p with s:=s,sv:=sv,tv:=tv}:=by kernel_rfl
theorem pk_fin (p:Pm) (f:Ad):putAt (arrPk p) 44 (arrA f).toList=arrPk {p with f:=f}:=by kernel_rfl
theorem pk_tcp (p:Pm) (t:Sg) (ov pv:Value):putAt (arrPk p) 61 (arrTc t ov pv).toList=arrPk {p with t:=t,ov:=ov,pv:=pv}:=by kernel_rfl
theorem pk_msg (p:Pm) (a b c:Nat) (bv:Value):putAt (arrPk p) 71 (arrMs a b c bv).toList=arrPk {p with mkd:=a,mc:=b,mw:=c,mb:=bv}:=by kernel_rfl
theorem pk_src (p:Pm):((arrPk p).toList.drop 5).take (arrA p.h.src).toList.length=(arrA p.h.src).toList:=by kernel_rfl
theorem pk_dst (p:Pm):((arrPk p).toList.drop 21).take (arrA p.h.dst).toList.length=(arrA p.h.dst).toList:=by kernel_rfl
theorem pk_f (p:Pm):((arrPk p).toList.drop 44).take (arrA p.f).toList.length=(arrA p.f).toList:=by kernel_rfl
theorem cutYf_all {C:World→Prop} {A:Option Addr} {n c B:Nat} {l:By} {w0:World} (hw:C w0) (h:∀W,C W→SlY W B (.slice A n c) l) {lo:Nat} (h1:lo≤l.length) :
  ∃X,(∀W:World,(Instr.slice 22 (.slice A n c) (some (.int .i64 (lo:Int))) none none).run Tryz.prog W=.ok (.slice X (n-lo) (c-lo)) W)∧∀W,C W→SlY W B (.slice X (n-lo) (c-lo)) (l.drop lo):=by
 obtain⟨X,hr,_⟩:=cutYf (h w0 hw) h1;refine⟨X,hr,fun W hc=>?_⟩;obtain⟨X',hr',hs'⟩:=cutYf (h W hc) h1;have e:=(hr W).symm.trans (hr' W);simp only[Result.ok.injEq,Value.slice.injEq,and_true]at e;rw[e];exact hs'
def SlPt (w:World) (B:Nat) (v:Value) (L:List Pt):Prop:=Sl w B 3 v L.length (L.flatMap encP)
theorem SlPt.at_ {w:World} {B:Nat} {v:Value} {L:List Pt} (h:SlPt w B v L) {i:Nat} {x:Pt} (hx:L[i]?=some x) :
  ∃b o c,v=.slice (some ⟨b,o,none⟩) L.length c∧L.length≤c∧w.rangeAt b (o+i*3) (encP x):=by
 have hi:=(List.getElem?_eq_some_iff.1 hx).1;obtain⟨hl,A,c,rfl,hcap,hr⟩:=h;obtain⟨b,o,rfl,_,hc⟩:=hr (by omega);refine⟨b,o,c,rfl,hcap,fun j v hv=>?_⟩;have hj:j<3:=by have:=(List.getElem?_eq_some_iff.1 hv).1;simpa[encP]using this
 rw[Nat.add_assoc];refine hc _ _ ?_;have:=flat_at (enc:=encP) (s:=3) (fun _=>rfl) L i j hj;rw[this,hx];simpa using hv
end Go.Proofs.YtgbndaiifbogmaaGreat
namespace Go.Proofs.YtgbndaiifbogmaaGreat
open Go.RowKit Go.Maps
theorem wupper_any {w:World} {B:Nat} {v:Value} {L:List Pt} (h:SlPt w B v L) (h0:0<L.length) (hl:L.length≤1000) :
  Calls Tryz.prog 153 #[v] w fun e w'=>e=.returned (.tuple #[.agg (arrP (L.getLastD default)),.bool true])∧Chg [] w w':=by
 have hx:L[L.length-1]?=some (L.getLastD default):=by
  rw[List.getLastD_eq_getLast?,List.getLast?_eq_getElem?,List.getElem?_eq_getElem (show L.length-1<L.length by omega)];rfl
 obtain⟨b,o,c,rfl,hcap,hr⟩:=h.at_ hx;generalize L.getLastD default=x at *;generalize L.length=n at *;have hA:=(Chg.refl [] w).alloc (.cells arrP0 176);have hB:Blk (w.alloc (.cells arrP0 176)) w.heap.size 176 arrP0:=Blk.new _ _ _
 have hr1:(w.alloc (.cells arrP0 176)).rangeAt b (o+(n-1)*3) (encP x):=fun j v hv=>hA.cell (hr j v hv) (by simp)
 have hI:((n:Int)==0)=false:=by rw[beq_eq_false_iff_ne];omega
 have hw1:IntKind.i64.wrap ((n:Int)-1)=((n-1:Nat):Int):=by rw[IntKind.wrap_i64];omega
 have hi1:((n-1:Nat):Int)<(n:Int):=by omega
 have HA:=zH hA;clear hA hr;go_enter Tryz.func153,Tryz.ntmps153
 go_wp2_with (first
  |(refine wpList_load_mid rfl 176 (.tmp 12) rfl b (o+(n-1)*3) rfl (encP x) _ hr1 Tryz.underlying176 rfl infP ?_)
  |(refine zs (vs:=arrP x) rfl 176 (.tmp 2) (.tmp 13) rfl rfl hB rfl rfl rfl infP rfl ?_;intro w9 hB9 hc9)
  |fail)
 refine bodyPost_ret (zr rfl rfl hB9 _ Tryz.underlying176 rfl infP) rfl ?_;exact⟨rfl,HA.out.trans' hc9 (zN (by omega))⟩
theorem walkW_len {b:By}:∀(f:Nat) (nx:Int) (a m:Nat) {L:List Pt},a≤b.length→walkW b f nx a m=.ok L→0<L.length∧L.length≤f∧(L.getLastD default).at_≤b.length
 |0,_,_,_,_,_,h=>by cases h
 |f+1,nx,a,m,L,ha,h=>by
  unfold walkW at h;split at h
  ·cases h
  ·split at h
   ·injection h with h;subst h;exact⟨by simp,by simp,ha⟩
   ·split at h
    ·cases h
    ·rename_i h1;split at h
     ·cases h
     ·rename_i r hr;injection h with h
      subst h;obtain⟨h2,h3,h4⟩:=walkW_len f _ _ _ (by omega) hr;refine⟨by simp,by simp;omega,?_⟩;cases r with
      |nil=>simp at h2
      |cons y r=>simpa using h4
theorem walkS_len {b:By} {nx:Int} {a:Nat} {L:List Pt} (h:walkS b nx a=.ok L):0<L.length∧L.length≤9∧(L.getLastD default).at_≤b.length:=by
 unfold walkS at h;split at h
 ·cases h
 ·exact walkW_len 9 _ _ _ (by omega) h
theorem walkW_err {b:By}:∀(f:Nat) (nx:Int) (a m:Nat) {n:Int},walkW b f nx a m=.error n→n≠0
 |0,_,_,_,_,h=>by injection h with h;omega
 |f+1,nx,a,m,n,h=>by
  unfold walkW at h;split at h
  ·injection h with h;subst h;assumption
  ·split at h
   ·cases h
   ·split at h
    ·injection h with h;omega
    ·split at h
     ·rename_i e he;injection h with h
      subst h;exact walkW_err f _ _ _ he
     ·cases h
theorem walkS_err {b:By} {nx:Int} {a:Nat} {n:Int} (h:walkS b nx a=.error n):n≠0:=by
 unfold walkS at h;split at h
 ·injection h with h;omega
 ·exact walkW_err 9 _ _ _ h
theorem infP0:(Tryz.prog.info? 176).map (·.size)=some arrP0.size:=by
 show _=some 3;kernel_rfl
def hdsS (b:By) (nx:Int):Ans (Pt×Bool):=match walkS b nx 40 with
 |.error e=>.error e
 |.ok l=>if lateW l=true then .error 7 else .ok (l.getLastD default,firstW l)
def HdsPost (x:Ans (Pt×Bool)) (p:Pm) (g:Nat) (e:Ending) (w':World):Prop:=match x with
 |.error n=>e=.returned (.tuple #[.agg arrP0,.int .i64 n])
 |.ok r=>e=.returned (.tuple #[.agg (arrP r.1),.int .i64 0])∧Blk w' g 38 (arrPk {p with rt:=r.2})
theorem lateW_at {L:List Pt} {i:Nat} {x:Pt} (h:L[i]?=some x) (h0:0<i) (hk:x.kind=43):lateW L=true:=by
 unfold lateW;rw[List.any_eq_true];refine⟨x,?_,by rw[hk];rfl⟩;refine List.mem_of_getElem? (i:=i-1) ?_;rw[List.getElem?_drop,←h];congr 1;omega
theorem lateW_no {L:List Pt} (h:∀i x,L[i]?=some x→0<i→x.kind≠43):lateW L=false:=by
 unfold lateW;rw[List.any_eq_false];intro x hx;obtain⟨i,hi⟩:=List.mem_iff_getElem?.1 hx;rw[List.getElem?_drop]at hi;have:=h _ _ hi (by omega);simpa using this
theorem headers_any {w:World} {B g:Nat} {v:Value} {l:By} {p:Pm} (h:SlY w B v l) (hb:okB l) (hl:l.length≤1000000) (hB:Blk w g 38 (arrPk p)) (hrt:p.rt=false) :
  Calls Tryz.prog 93 #[.pointer (some ⟨g,0,none⟩),v] w fun e w'=>HdsPost (hdsS l p.h.nxt) p g e w'∧Chg [g] w w':=by
 have hA:=(Chg.refl [] w).alloc (.cells arrP0 176);have hBt:Blk (w.alloc (.cells arrP0 176)) w.heap.size 176 arrP0:=Blk.new _ _ _;have hBg:=hB.alloc (.cells arrP0 176);have hgl:=hB.lt;have c3:(w.alloc (.cells arrP0 176)).cell? ⟨g,0+3,none⟩=some (.int .i64 p.h.nxt):=hBg.cell 3
 have FW:=zH (walk_any (h.chg0 hA) hb hl p.h.nxt (at_:=40) (by omega));have HX:Hid (hdsS l p.h.nxt=match walkS l p.h.nxt 40 with | .error e=>.error e | .ok l=>if lateW l=true then .error 7 else .ok (l.getLastD default,firstW l)):=zH rfl;obtain⟨A,c,rfl⟩:=h.form;generalize hdsS l p.h.nxt=x at *
 have HL:=zH (fun L (hw:walkS l p.h.nxt 40=.ok L)=>walkS_len hw);have HE:=zH (fun n (hw:walkS l p.h.nxt 40=.error n)=>walkS_err hw);generalize walkS l p.h.nxt 40=y at *;generalize l.length=N at *;have HA:=zH hA;clear h hb hl hA hB;go_enter Tryz.func93,Tryz.ntmps93
 go_wp2_with fail;refine FW.out.mono ?_;rintro e w1 ⟨hp,hc1⟩;have hBt1:=hBt.chg hc1 (by simp);have hBg1:=hBg.chg hc1 (by simp);have HC1:=zH (HA.out.trans hc1);have hsz:=HC1.out.size;cases y with
 |error n=>
  obtain rfl:e=_:=hp;have hn:=HE.out n rfl;have hnI:(n==0)=false:=by rw[beq_eq_false_iff_ne];exact hn
  have hX:=HX.out;simp only at hX;have HP:Hid (HdsPost x p g (.returned (.tuple #[.agg arrP0,.int .i64 n]))=HdsPost x p g (.returned (.tuple #[.agg arrP0,.int .i64 n]))):=zH rfl;clear hX hn HL HE c3;go_wp2_with (first
   |(refine zs (vs:=arrP0) rfl 176 (.tmp 4) (.tmp 24) rfl rfl hBt1 rfl rfl rfl infP0 rfl ?_;intro w9 hB9 hc9)
   |fail)
  refine bodyPost_ret (zr rfl rfl hB9 _ Tryz.underlying176 rfl infP0) rfl ?_;refine⟨by rw[HX.out];rfl,(HC1.out.trans' hc9 (zN (by omega))).more (by simp)⟩
 |ok L=>
  obtain⟨v',rfl,ho⟩:=hp;obtain⟨hL1,hL2,hL3⟩:=HL.out L rfl;have hsL:SlPt w1 w.heap.size v' L:=(Sl.of_own ho).less HA.out.size;obtain⟨A2,c2,rfl⟩:=Sl.form hsL;have HS:=zH hsL;have hX:=HX.out;simp only at hX;have HX2:=zH hX
  have HAT:Hid (∀i,i<L.length→∃x,L[i]?=some x):=zH (fun i hi=>⟨_,List.getElem?_eq_getElem hi⟩);have HL1:=zH hL1;have HB0:=zH hBt1;have HBg:Hid (Blk w1 g 38 (arrPk {p with rt:=decide (0<0)&&firstW L})):=zH (by
   have:({p with rt:=decide (0<0)&&firstW L}:Pm)=p:=by
    cases p;simp_all
   rw[this];exact hBg1)
  have HN:Hid (∀i x,i<0→L[i]?=some x→0<i→x.kind≠43):=zH (fun i x h=>by omega);have HSg:=zH (show g<w.heap.size from hgl);have HC1g:Hid (Chg [g] w w1):=zH (HC1.out.more (by simp));clear hX hsL ho HL HE HX c3 hBt1 hBg1 HC1 hBt hBg hc1 FW HA hL3;generalize hLn:L.length=n at *;go_wp2_with fail
  have HD:Hid (∀k:Nat,decide (0<k+1)=true):=zH (fun k=>by simp)
  go_loopw [28] (fun iv wr=>∃k:Nat,iv=.int .i64 k∧k≤n∧Hid (Blk wr w.heap.size 176 arrP0)∧Hid (Blk wr g 38 (arrPk {p with rt:=decide (0<k)&&firstW L}))∧Hid (∀i x,i<k→L[i]?=some x→0<i→x.kind≠43)∧Hid (SlPt wr w.heap.size (.slice A2 n c2) L)∧Hid (Chg [g] w wr)) (fun iv _=>n-(intOf iv).toNat)
  case atStart=>exact⟨0,rfl,Nat.zero_le _,HB0,HBg,HN,HS,HC1g⟩
  case round=>
   obtain⟨k,rfl,hk,HBt,HBp,HNk,HSk,HCk⟩:=hrel;clear HB0 HBg HN HS HC1g;by_cases hlt:k<n
   ·obtain⟨⟨xk,xa,xl⟩,hx1⟩:=HAT.out k hlt;obtain⟨b,o,c',e,_,hr⟩:=HSk.out.at_ hx1;simp only[hLn,Value.slice.injEq,true_and]at e;obtain⟨rfl,rfl⟩:=e;have hcn:(k:Int)<(n:Int):=by omega
    have hA:=(Chg.refl [] wr).alloc (.cells #[.int .i64 xk,.int .i64 (xa:Nat),.int .i64 (xl:Nat)] 176);have hBn:Blk (wr.alloc (.cells #[.int .i64 xk,.int .i64 (xa:Nat),.int .i64 (xl:Nat)] 176)) wr.heap.size 176 #[.int .i64 xk,.int .i64 (xa:Nat),.int .i64 (xl:Nat)]:=Blk.new _ _ _
    have hr1:wr.rangeAt b (o+k*3) [.int .i64 xk,.int .i64 (xa:Nat),.int .i64 (xl:Nat)]:=hr;have HBt':=zH (HBt.out.alloc (.cells #[.int .i64 xk,.int .i64 (xa:Nat),.int .i64 (xl:Nat)] 176));have HBp':=HBp.out.alloc (.cells #[.int .i64 xk,.int .i64 (xa:Nat),.int .i64 (xl:Nat)] 176)
    have HSk':Hid (SlPt (wr.alloc (.cells #[.int .i64 xk,.int .i64 (xa:Nat),.int .i64 (xl:Nat)] 176)) w.heap.size (.slice (some ⟨b,o,none⟩) n c2) L):=zH (Sl.chg0 HSk.out hA);have HCk':Hid (Chg [g] w (wr.alloc (.cells #[.int .i64 xk,.int .i64 (xa:Nat),.int .i64 (xl:Nat)] 176))):=zH (HCk.out.alloc _)
    have ck:(wr.alloc (.cells #[.int .i64 xk,.int .i64 (xa:Nat),.int .i64 (xl:Nat)] 176)).cell? ⟨wr.heap.size,0,none⟩=some (.int .i64 xk):=hBn.cell 0;by_cases h43:xk=43
    ·subst h43;rcases Nat.eq_zero_or_pos k with hk0|hk0
     ·subst hk0;have hf:firstW L=true:=by
       unfold firstW;have:L.headD default=⟨43,xa,xl⟩:=by
        cases L with
        |nil=>cases hx1
        |cons y r=>simpa using hx1
       rw[this];rfl
      have HN':Hid (∀i x,i<0+1→L[i]?=some x→0<i→x.kind≠43):=zH (fun i x hi hx h0=>by omega);have c1:(wr.alloc (.cells #[.int .i64 43,.int .i64 (xa:Nat),.int .i64 (xl:Nat)] 176)).cell? ⟨g,37,none⟩=some (.bool false):=HBp'.cell 37;have f1:=HBp'.frozen 37
      have hb2:Blk ((wr.alloc (.cells #[.int .i64 43,.int .i64 (xa:Nat),.int .i64 (xl:Nat)] 176)).setCell ⟨g,37,none⟩ (.bool true)) g 38 (arrPk {p with rt:=true}):=HBp'.set_ 37 _
      have hc2:Chg [g] (wr.alloc (.cells #[.int .i64 43,.int .i64 (xa:Nat),.int .i64 (xl:Nat)] 176)) ((wr.alloc (.cells #[.int .i64 43,.int .i64 (xa:Nat),.int .i64 (xl:Nat)] 176)).setCell ⟨g,37,none⟩ (.bool true)):=(Chg.refl [g] _).setCell (p:=⟨g,37,none⟩) (.inl (by simp)) _
      have hb3:Blk ((wr.alloc (.cells #[.int .i64 43,.int .i64 (xa:Nat),.int .i64 (xl:Nat)] 176)).setCell ⟨g,37,none⟩ (.bool true)) g 38 (arrPk {p with rt:=decide (0<0+1)&&firstW L}):=by
       rw[hf];exact hb2
      have HF:=zH (And.intro (HBt'.out.chg hc2 (by simp;omega)) (And.intro hb3 (And.intro (HCk'.out.trans hc2) (Sl.chg HSk'.out hc2 (by intro x hx;simp at hx;omega)))));clear hb2 hc2 hb3 HBt HBp HNk HSk HCk hA hBn hr hx1 hf HBp';go_wp2_with (first
       |(refine wpList_load_mid rfl 176 (.tmp 31) rfl b (o+0*3) rfl [.int .i64 43,.int .i64 (xa:Nat),.int .i64 (xl:Nat)] _ hr1 Tryz.underlying176 rfl (infP (p:=⟨43,xa,xl⟩)) ?_)
       |fail)
      obtain⟨f1,f2,f3,f4⟩:=HF.out;exact⟨⟨1,rfl,by omega,zH f1,zH f2,HN',zH f4,zH f3⟩,by simp[intOf];omega⟩
     ·have hkI:(0:Int)<(k:Int):=by omega
      have hlate:=lateW_at hx1 hk0 rfl;have hX:=HX2.out;rw[if_pos hlate]at hX;have hX:=zH hX;have hBt2:=HBt'.out;clear hlate HX2 HBt HBp HNk HSk HCk hA hBn HBp' hr hx1 hk0 HSk' HAT;go_wp2_with (first
       |(refine wpList_load_mid rfl 176 (.tmp 31) rfl b (o+k*3) rfl [.int .i64 43,.int .i64 (xa:Nat),.int .i64 (xl:Nat)] _ hr1 Tryz.underlying176 rfl (infP (p:=⟨43,xa,xl⟩)) ?_)
       |(refine zs (vs:=arrP0) rfl 176 (.tmp 4) (.tmp 38) rfl rfl hBt2 rfl rfl rfl infP0 rfl ?_;intro w9 hB9 hc9)
       |fail)
      refine bodyPost_ret (zr rfl rfl hB9 _ Tryz.underlying176 rfl infP0) rfl ?_;rw[hX.out];exact⟨rfl,HCk'.out.trans' hc9 (zN (by omega))⟩
    ·have hkI:(xk==43)=false:=by rw[beq_eq_false_iff_ne];exact h43
     have HN':Hid (∀i x,i<k+1→L[i]?=some x→0<i→x.kind≠43):=zH (fun i x hi hx h0=>by
      rcases Nat.lt_or_ge i k with h|h
      ·exact HNk.out i x h hx h0
      ·obtain rfl:i=k:=by omega
       rw[hx1]at hx;injection hx with hx
       rw[←hx];exact h43)
     have HB':Hid (Blk (wr.alloc (.cells #[.int .i64 xk,.int .i64 (xa:Nat),.int .i64 (xl:Nat)] 176)) g 38 (arrPk {p with rt:=decide (0<k+1)&&firstW L})):=zH (by
      have:(decide (0<k)&&firstW L)=(decide (0<k+1)&&firstW L):=by
       rcases Nat.eq_zero_or_pos k with h|h
       ·subst h;have:firstW L=false:=by
         unfold firstW;have:L.headD default=⟨xk,xa,xl⟩:=by
          cases L with
          |nil=>cases hx1
          |cons y r=>simpa using hx1
         rw[this];exact hkI
        rw[this];rfl
       ·rw[decide_eq_true h,decide_eq_true (Nat.succ_pos k)]
      rw[←this];exact HBp')
     clear HBt HBp HNk HSk HCk hA hBn HBp' h43 hr hx1;go_wp2_with (first
      |(refine wpList_load_mid rfl 176 (.tmp 31) rfl b (o+k*3) rfl [.int .i64 xk,.int .i64 (xa:Nat),.int .i64 (xl:Nat)] _ hr1 Tryz.underlying176 rfl (infP (p:=⟨xk,xa,xl⟩)) ?_)
      |fail)
     exact⟨⟨k+1,rfl,by omega,HBt',HB',HN',HSk',HCk'⟩,by simp[intOf];omega⟩
   ·obtain rfl:k=n:=by omega
    have hcn:¬(k:Int)<(k:Int):=by omega
    have hlate:lateW L=false:=lateW_no (fun i x hx h0=>HNk.out i x (by have:=(List.getElem?_eq_some_iff.1 hx).1;omega) hx h0);have hX:=HX2.out;rw[hlate,if_neg (by simp)]at hX;have hX:=zH hX;have hk0:=HL1.out;have HBp':=HBp.out;rw[decide_eq_true hk0,Bool.true_and]at HBp'
    have FU:=zH (wupper_any HSk.out (by omega) (by omega));clear hlate HX2 HBp HSk HNk HAT HD hk0;go_wp2_with fail;refine FU.out.mono ?_;rintro e w2 ⟨rfl,hc2⟩;have hB2:=HBp'.chg hc2 (by simp);have hBt2:=HBt.out.chg hc2 (by simp);have HC2:=zH (HCk.out.trans (hc2.more (T:=[g]) (by simp)))
    have hBn2:Blk (w2.alloc (.cells (arrP (L.getLastD default)) 176)) w2.heap.size 176 (arrP (L.getLastD default)):=Blk.new _ _ _;have hB3:=hB2.alloc (.cells (arrP (L.getLastD default)) 176);have hBt3:=hBt2.alloc (.cells (arrP (L.getLastD default)) 176)
    have HC3:=zH (HC2.out.alloc (.cells (arrP (L.getLastD default)) 176));have hsz2:=HC2.out.size;have hgl2:=hBt2.lt;clear FU HBp' hc2 HC2 hB2 hBt2 HBt;generalize L.getLastD default=x1 at *;obtain⟨xk,xa,xl⟩:=x1;go_wp2_with (first
     |(refine zl rfl 176 (.tmp 10) rfl hBn2 rfl _ Tryz.underlying176 rfl (infP (p:=⟨xk,xa,xl⟩)) ?_)
     |(refine zs (vs:=arrP ⟨xk,xa,xl⟩) rfl 176 (.tmp 4) (.tmp 48) rfl rfl hBt3 rfl rfl rfl (infP (p:=⟨xk,xa,xl⟩)) rfl ?_;intro w9 hB9 hc9)
     |fail)
    refine bodyPost_ret (zr rfl rfl hB9 _ Tryz.underlying176 rfl (infP (p:=⟨xk,xa,xl⟩))) rfl ?_;rw[hX.out];exact⟨⟨rfl,hB3.chg hc9 (by simp;omega)⟩,HC3.out.trans' hc9 (zN (by omega))⟩
end Go.Proofs.YtgbndaiifbogmaaGreat
namespace Go.Proofs.YtgbndaiifbogmaaGreat
open Go.RowKit Go.Maps
theorem segsOf_at {b:By}:∀(n i:Nat),i<n→(segsOf b n)[i]?=some (adAt b (8+16*i))
 |n+1,i,h=>by
  unfold segsOf;rcases Nat.lt_or_ge i n with h1|h1
  ·rw[List.getElem?_append_left (by rw[segsOf_len];exact h1)];exact segsOf_at n i h1
  ·obtain rfl:i=n:=by omega
   rw[List.getElem?_append_right (by rw[segsOf_len];omega),segsOf_len];simp
structure SrFine (b:By) (s:Sr):Prop where
 left:∃i:Nat,s.left=i∧i<s.segs.length
 ok:∀x∈s.segs,∃i,x=adAt b i
theorem srhS_fine {b:By} {s:Sr} {n:Nat} (h:srhS b=.ok (s,n)):SrFine b s:=by
 unfold srhS at h
 iterate 7 (split at h;· cases h)
 simp only[Except.ok.injEq,Prod.mk.injEq]at h;obtain⟨h1,h2⟩:=h;subst h1;refine⟨⟨gB b 3,rfl,by rw[segsOf_len];omega⟩,fun x hx=>?_⟩;obtain⟨i,hi⟩:=List.mem_iff_getElem?.1 hx;have hl:=(List.getElem?_eq_some_iff.1 hi).1;rw[segsOf_len]at hl;rw[segsOf_at _ _ hl]at hi;injection hi with hi
 exact⟨_,hi.symm⟩
theorem srhS_err {b:By} {n:Int} (h:srhS b=.error n):n≠0:=by
 unfold srhS at h
 repeat (first|(split at h)|(injection h with h;omega)|(injection h with h;subst h;assumption)|(cases h))
def RtPost (x:Ans (Option Sr×Ad)) (p:Pm) (g B:Nat) (e:Ending) (w':World):Prop:=match x with
 |.error n=>e=.returned (.int .i64 n)
 |.ok (none,f)=>e=.returned (.int .i64 0)∧Blk w' g 38 (arrPk {p with f:=f})
 |.ok (some s,f)=>e=.returned (.int .i64 0)∧∃sv A m c,Blk w' g 38 (arrPk {p with s:=s,sv:=sv,tv:=.slice A m c,f:=f})∧SlD w' B sv s.segs
theorem route_any {w:World} {g:Nat} {v:Value} {l:By} {p:Pm} (hk:∀W,Chg [g] w W→SlY W 0 v l) (hb:okB l) (hl:l.length≤1000000) (h40:40≤l.length) (hB:Blk w g 38 (arrPk p)) (hd:okA p.h.dst) :
  Calls Tryz.prog 94 #[.pointer (some ⟨g,0,none⟩),v] w fun e w'=>RtPost (routeS l p.h p.rt) p g w.heap.size e w'∧Chg [g] w w':=by
 obtain⟨A,c,rfl⟩:=(hk w (Chg.refl _ _)).form;have hgl:=hB.lt;have HX:Hid (routeS l p.h p.rt=if p.rt=false then .ok (none,p.h.dst) else match srhS (l.drop 40) with | .error e=>.error e | .ok (s,_)=>if s.segs.getD s.left.toNat ad0≠p.h.dst then .error 5 else .ok (some s,s.segs.getD 0 ad0)):=zH rfl
 generalize routeS l p.h p.rt=x at *;have HOK:=zH hb;obtain⟨X,hXr,hsX⟩:=cutYf_all (C:=fun W=>Chg [g] w W) (Chg.refl _ w) hk (lo:=40) h40;have hXr':∀W:World,(Instr.slice 22 (.slice A l.length c) (some (.int .i64 40)) none none).run Tryz.prog W=.ok (.slice X (l.length-40) (c-40)) W:=hXr
 have FS:=zH (fun (W:World) (hc:Chg [g] w W)=>srhp_any (hsX W hc) (hb.drop 40) (by rw[List.length_drop];omega));clear hXr hsX hk hb hl;go_enter Tryz.func94,Tryz.ntmps94
 go_upto_region 2 with (first
  |(refine wpList_load_part (vs:=arrA p.h.dst) rfl 24 (.tmp 14) rfl hB 21 rfl _ Tryz.underlying24 rfl infAd (pk_dst p) ?_)
  |(refine wpList_store_part (vs:=arrA p.h.dst) rfl 24 (.tmp 17) (.tmp 15) rfl rfl hB 44 rfl rfl (by show 44+16≤76;omega) infAd rfl (pk_fin p p.h.dst) ?_;intro w2 hB2 hc2)
  |fail)
 have HC2:=zH hc2;have c37:w2.cell? ⟨g,37,none⟩=some (.bool p.rt):=hB2.cell 37;cases hrt:p.rt with
 |false=>
  rw[hrt]at c37;have hX:=HX.out;rw[if_pos hrt]at hX;have hX:=zH hX;clear HX hrt FS;go_wp2_with fail;go_ret
  rw[hX.out];exact⟨⟨rfl,hB2⟩,HC2.out⟩
 |true=>
  rw[hrt]at c37;have hX:=HX.out;rw[if_neg (by rw[hrt];simp)]at hX;have hX:=zH hX;have FS2:=zH (FS.out w2 hc2);have hz:=hc2.size;clear HX hrt FS hc2;go_wp2_with fail;refine FS2.out.mono ?_;rintro e w3 ⟨hp,hc3⟩;have hB3:=hB2.chg hc3 (by simp);have HC3:=zH (HC2.out.trans (hc3.more (T:=[g]) (by simp)))
  clear FS2 HC2 hB2 c37;cases hy:srhS (l.drop 40) with
  |error n=>
   rw[hy]at hp hX;obtain rfl:e=_:=hp;have hn:=srhS_err hy;have hnI:(n==0)=false:=by rw[beq_eq_false_iff_ne];exact hn
   clear hn hy hc3;go_wp2_with fail;go_ret
   rw[hX.out];exact⟨rfl,HC3.out.alloc _⟩
  |ok r=>
   obtain⟨s,k⟩:=r;rw[hy]at hp hX;obtain⟨sv,A3,m3,c3,rfl,hsd⟩:=hp;have HF:=zH (srhS_fine hy);obtain⟨A4,c4,rfl⟩:=Sl.form hsd;obtain⟨⟨i,hli,hil⟩,hok⟩:=HF.out;have hi1:s.segs[i]?=some (s.segs.getD s.left.toNat ad0):=by
    rw[hli,List.getD_eq_getElem?_getD,Int.toNat_natCast,List.getElem?_eq_getElem hil];rfl
   have hi0:s.segs[0]?=some (s.segs.getD 0 ad0):=by
    rw[List.getD_eq_getElem?_getD,List.getElem?_eq_getElem (show 0<s.segs.length by omega)];rfl
   have hx1:okA (s.segs.getD s.left.toNat ad0):=by
    obtain⟨j,hj⟩:=hok _ (List.mem_of_getElem? hi1);rw[hj];exact adAt_ok (HOK.out.drop 40) j
   have HSD:=zH hsd;have FFI:=zH (fun (W:World) (hs:SlD W w2.heap.size (.slice A4 s.segs.length c4) s.segs)=>final_any (s:=s) (tv:=.slice A3 m3 c3) hs hi0 (by intro u hu;simp at hu;subst hu;rfl))
   have FAC:=zH (fun (W:World) (hs:SlD W w2.heap.size (.slice A4 s.segs.length c4) s.segs)=>active_any (s:=s) (tv:=.slice A3 m3 c3) hs hli hi1 (by intro u hu;simp at hu;subst hu;rfl))
   have hB5:Blk (w3.alloc (.cells (arrSr s (.slice A4 s.segs.length c4) (.slice A3 m3 c3)) 30)) w3.heap.size 30 (arrSr s (.slice A4 s.segs.length c4) (.slice A3 m3 c3)):=Blk.new _ _ _;have hB4:=hB3.alloc (.cells (arrSr s (.slice A4 s.segs.length c4) (.slice A3 m3 c3)) 30)
   have HC4:=zH (HC3.out.alloc (.cells (arrSr s (.slice A4 s.segs.length c4) (.slice A3 m3 c3)) 30));have HSD4:Hid (SlD (w3.alloc (.cells (arrSr s (.slice A4 s.segs.length c4) (.slice A3 m3 c3)) 30)) w2.heap.size (.slice A4 s.segs.length c4) s.segs):=zH (Sl.chg0 hsd ((Chg.refl [] _).alloc _))
   have HX9:Hid (x=if s.segs.getD s.left.toNat ad0≠p.h.dst then .error 5 else .ok (some s,s.segs.getD 0 ad0)):=hX;clear hX;have hg3:=hB3.lt;have hgw2:g<w2.heap.size:=by omega
   have HFI:Hid (s.segs.getD 0 ad0=s.segs.getD 0 ad0):=zH rfl;generalize s.segs.getD 0 ad0=f0 at *;generalize s.segs.getD s.left.toNat ad0=f1 at *;clear hsd HSD hy HF hok hli hi1 hi0 hil hB3 HC3 hc3 HFI;generalize s.segs.length=sn at *;go_upto_region 8 with (first
    |(refine zl rfl 30 (.tmp 5) rfl hB5 rfl _ Tryz.underlying30 rfl infSr ?_)
    |(refine wpList_store_part (vs:=arrSr s (.slice A4 sn c4) (.slice A3 m3 c3)) rfl 30 (.tmp 36) (.tmp 34) rfl rfl hB4 38 rfl rfl (by show 38+6≤76;omega) infSr rfl (pk_srh _ s _ _) ?_;intro w5 hB6 hc5)
    |fail)
   have hB55:=hB5.chg hc5 (by simp;omega);have HS5:Hid (SlD w5 w2.heap.size (.slice A4 sn c4) s.segs):=zH (Sl.chg HSD4.out hc5 (by intro x hx;simp at hx;omega));have HC5:=zH (HC4.out.trans hc5);clear hB5 hB4 HC4 HSD4 hc5;go_wp2_with (first
    |(refine zl rfl 30 (.tmp 5) rfl hB55 rfl _ Tryz.underlying30 rfl infSr ?_)
    |fail)
   refine (FFI.out w5 HS5.out).mono ?_;rintro e w6 ⟨rfl,hc6⟩;have hB66:=hB55.chg hc6 (by simp);have hB76:=hB6.chg hc6 (by simp);have HS6:Hid (SlD w6 w2.heap.size (.slice A4 sn c4) s.segs):=zH (Sl.chg0 HS5.out hc6);have HC6:=zH (HC5.out.trans (hc6.more (T:=[g]) (by simp)))
   clear hB55 hB6 HS5 HC5 hc6 FFI;go_upto_region 9 with (first
    |(refine wpList_store_part (vs:=arrA f0) rfl 24 (.tmp 44) (.tmp 41) rfl rfl hB76 44 rfl rfl (by show 44+16≤76;omega) infAd rfl (pk_fin _ f0) ?_;intro w7 hB7 hc7)
    |fail)
   have hB67:=hB66.chg hc7 (by simp;omega);have HS7:Hid (SlD w7 w2.heap.size (.slice A4 sn c4) s.segs):=zH (Sl.chg HS6.out hc7 (by intro x hx;simp at hx;omega));have HC7:=zH (HC6.out.trans hc7);clear hB66 hB76 HS6 HC6 hc7;go_wp2_with (first
    |(refine zl rfl 30 (.tmp 5) rfl hB67 rfl _ Tryz.underlying30 rfl infSr ?_)
    |fail)
   refine (FAC.out w7 HS7.out).mono ?_;rintro e w8 ⟨rfl,hc8⟩;have hB8:=hB7.chg hc8 (by simp);have hB88:=hB8.alloc (.cells (arrA f1) 24);have hB9:Blk (w8.alloc (.cells (arrA f1) 24)) w8.heap.size 24 (arrA f1):=Blk.new _ _ _
   have HS8:Hid (SlD (w8.alloc (.cells (arrA f1) 24)) w2.heap.size (.slice A4 sn c4) s.segs):=zH (Sl.chg0 HS7.out (hc8.alloc _));have HC8:=zH (HC7.out.trans ((hc8.alloc (.cells (arrA f1) 24)).more (T:=[g]) (by simp)));clear hB67 hB7 HS7 HC7 hc8 FAC hB8;go_upto_region 10 with fail
   obtain⟨w9,hw9⟩:∃w9,w9=w8.alloc (.cells (arrA f1) 24):=⟨_,rfl⟩;rw[←hw9]at hB88 hB9 HS8 HC8;have R1:=zH (fun W (hc:Chg [] w9 W)=>(hB9.chg hc (by simp)).rangeQ);have R2:=zH (fun W (hc:Chg [] w9 W)=>(hB88.chg hc (by simp)).part (o:=21) (arrA p.h.dst).toList (pk_dst _))
   have HBX:=zH (And.intro hB88 (And.intro HS8.out HC8.out));have he:=fun W=>eq_ad W hx1 hd
   first
    |rw[←hw9]
    |skip
   clear hB88 hB9 HS8 HC8 hw9;have H0:=HX9;clear HX9;refine wp_region_chg (by kernel_rfl) (by kernel_rfl) ?_
   repeat (first
    |((with_reducible refine wpQuiet_rowC 24 (.tmp 8) ?_ ?_ w8.heap.size 0 ?_ (arrA f1) _ R1.out Tryz.underlying24 ?_ infAd ?_);(focus rfl);(focus rfl);(focus rfl);(focus rfl);(try simp only[zP]))
    |((with_reducible refine wpQuiet_rowC 24 (.tmp 54) ?_ ?_ g 21 ?_ (arrA p.h.dst) _ R2.out Tryz.underlying24 ?_ infAd ?_);(focus rfl);(focus rfl);(focus rfl);(focus rfl);(try simp only[zP]))
    |((with_reducible refine wpQuiet_pure (v:=?_) ?_ (fun w=>?_) ?_);rotate_left;(focus rfl);(focus (go_simp<;>with_reducible rfl));(try simp only[zP])))
   refine wpQuiet_nil ?_;intro wa hca;obtain⟨q1,q2,q3⟩:=HBX.out;have HZ:=zH (And.intro (q1.chg hca (by simp)) (And.intro (Sl.chg0 q2 hca) (q3.trans (hca.more (T:=[g]) (by simp)))));clear q1 q2 q3 HBX hca R1 R2;by_cases heq:f1=p.h.dst
   ·rw[decide_eq_true heq];have hX:=H0.out;rw[if_neg (by simpa using heq)]at hX;have hX:=zH hX;clear H0 he;go_wp2_with fail;go_ret
    rw[hX.out];obtain⟨q1,q2,q3⟩:=HZ.out;exact⟨⟨rfl,_,_,_,_,q1,Sl.less q2 hz⟩,q3⟩
   ·rw[decide_eq_false heq];have hX:=H0.out;rw[if_pos heq]at hX;have hX:=zH hX;clear H0 he;go_wp2_with fail;go_ret
    rw[hX.out];exact⟨rfl,HZ.out.2.2⟩
end Go.Proofs.YtgbndaiifbogmaaGreat

/-
  Small laws and walks on the way to LearnReads: EpW, Frame2, RowQ, MapV, Reg, Addr, BumpZ, KeyW, Less. Conditions: each theorem names its own.
-/
import Derived.Test.YtgbndaiifbogmaaGreatY00
import Derived.Deep.MidRow
import Derived.Deep.QuietTactic
import Derived.Shelf.SlSortCmp.QuietGrown
import Derived.Maps.Views
import Derived.Maps.Ext
import Derived.Deep.RegionHeld3
import Derived.DeepKeys4
import Derived.DeepKeys
import Derived.MapViews
import Derived.WideKeyEntry
import Derived.Deep.DeepCutAuto
import Derived.Deep.CutBlock
import Derived.Sort.Grow
set_option linter.unusedVariables false
set_option linter.unusedSimpArgs false
set_option maxRecDepth 100000
set_option maxHeartbeats 8000000
namespace Go.Proofs.YtgbndaiifbogmaaGreat
open Go.RowKit
theorem first_any (t:Sg) (o p:Value) (w:World) :
  Calls Tryz.prog 182 #[.agg (enT t o p)] w fun e w'=>e=.returned (.bool (firstF t.flags))∧Chg [] w w':=by
 unfold enT firstF;go_enter Tryz.func182,Tryz.ntmps182
 go_wp2_with fail;go_ret
 exact⟨rfl,(Chg.refl _ _).alloc _⟩
theorem seg_any (a b c:Int) (w:World) :
  Calls Tryz.prog 274 #[.int .u32 a,.int .u32 b,.int .i64 c] w fun e w'=>e=.returned (.agg (enT (segF a b c) (.slice none 0 0) (.slice none 0 0)))∧Chg [] w w':=by
 unfold enT segF;go_enter Tryz.func274,Tryz.ntmps274
 go_wp2_with fail;exact bodyPost_ret (v:=.agg #[.int .i64 0,.int .i64 0,.int .u32 a,.int .u32 b,.int .i64 c,.int .i64 4096,.int .i64 0,.int .i64 0,.slice none 0 0,.slice none 0 0]) (by simp[results,Tryz.results274,go_sem]) rfl ⟨rfl,(Chg.refl _ _).alloc _⟩
theorem start_any (a b:Int) (w:World) :
  Calls Tryz.prog 225 #[.int .u32 a,.int .u32 b] w fun e w'=>e=.returned (.agg (enC (startF a b)))∧Chg [] w w':=by
 unfold enC startF u32w;go_enter Tryz.func225,Tryz.ntmps225
 go_wp2_with fail;exact bodyPost_ret (v:=.agg #[.int .i64 1,.int .u32 a,.int .u32 b,.int .u32 ((a+1)%4294967296),.int .u32 ((b+1)%4294967296),.int .i64 0,.int .u32 0]) (by simp[results,Tryz.results225,go_sem]) rfl ⟨rfl,(Chg.refl _ _).alloc _⟩
theorem greet_any (c:CN) (w:World) :
  Calls Tryz.prog 228 #[.agg (enC c)] w fun e w'=>e=.returned (.agg (enT (greetF c) (.slice none 0 0) (.slice none 0 0)))∧Chg [] w w':=by
 unfold enC;go_enter Tryz.func228,Tryz.ntmps228
 go_wp2_with fail;refine (seg_any _ _ _ _).mono ?_;rintro e w1 ⟨rfl,hc1⟩
 have h0:Blk ((w.alloc (.cells #[.int .i64 c.st,.int .u32 c.first,.int .u32 c.own,.int .u32 c.next,.int .u32 c.sent,.int .i64 c.got,.int .u32 c.sum] 106)).alloc (.cells #[.int .i64 0,.int .i64 0,.int .u32 0,.int .u32 0,.int .i64 0,.int .i64 0,.int .i64 0,.int .i64 0,.slice none 0 0,.slice none 0 0] 34)) (w.heap.size+1) 34 #[.int .i64 0,.int .i64 0,.int .u32 0,.int .u32 0,.int .i64 0,.int .i64 0,.int .i64 0,.int .i64 0,.slice none 0 0,.slice none 0 0]:=Blk.new' (by simp)
 have hb:=h0.chg hc1 (by simp);have hcg:Chg [] w w1:=(((Chg.refl [] w).alloc _).alloc _).trans hc1;clear h0;go_wp2_with (refine zs rfl 34 (.tmp 2) (.tmp 7) rfl rfl hb rfl rfl rfl (by kernel_rfl) rfl ?_;intro w2 hb2 hc2)
 exact bodyPost_ret (results_blk rfl rfl hb2 _ Tryz.underlying34 rfl (by kernel_rfl)) rfl ⟨rfl,hcg.trans' hc2 (by simp)⟩
end Go.Proofs.YtgbndaiifbogmaaGreat
namespace Go.Proofs.YtgbndaiifbogmaaGreat
open Go.ChangeShapes Go.WideShapes Go.ChangeAt Go.RowKit Go.Deep
theorem open_ones {H:Type} {enc:TypeId×Value→H} {P:Program} {w:World} {held:Bool} {t e:TypeId} {v:Value} {d:DataW H} {ps:List MemPlace}
  (ht:P.underlying t=some (.slice e)) (hC:P.cellsOf e=1) (hr:Value.okWide P w .any 0 t v) (h:DataW.Trod enc P w 0 (fun _=>true) held t v d ps) :
  ∃A len cap,v=.slice A len cap∧len≤cap∧len≤maxLen∧∀i,i<len→∃b o,A=some ⟨b,o,none⟩∧∃u y n,w.cell? ⟨b,o+i,none⟩=some u∧DataW.trod enc P w 0 (fun _=>true) held n e [u]=some y:=by
 obtain⟨A,len,cap,rfl⟩:=okWide_slice ht hr;obtain⟨fuel,hf⟩:=h;rcases open_slice ht hf with ⟨h0,_⟩ | ⟨a,len',cap',m,n,D,Pl,hcs,hb,hl,hm,hmm,hx,hi⟩
 ·simp[Value.cells]at h0;obtain⟨rfl,rfl,rfl⟩:=h0;exact⟨none,0,0,rfl,Nat.le_refl _,Nat.zero_le _,fun i hi=>by omega⟩
 ·simp[Value.cells]at hcs;obtain⟨rfl,rfl,rfl⟩:=hcs;have key:∀i,i<len→∃u y n',w.cell? (a.add i)=some u∧DataW.trod enc P w 0 (fun _=>true) held n' e [u]=some y:=by
   intro i hil;obtain⟨cs',hc,ht'⟩:=hi i (by rw[hmm];simp;omega);rw[hC]at hc;obtain⟨_,hcl,hat⟩:=World.cells?_some hc
   match cs',hcl with
   |[u],_=>
    refine⟨u,_,n,?_,ht'⟩;have:=hat 0 (by omega);rw[Go.Deep.add_add,Nat.mul_one,Nat.add_zero]at this;exact this
  refine⟨some a,len,cap,rfl,hl,Nat.le_trans hl hm,fun i hil=>?_⟩;have hsp:a.spot=none:=by
   obtain⟨u,_,_,hc0,_⟩:=key 0 (by omega);exact spot_of_cell (by simpa[Addr.add]using hc0)
  obtain⟨u,y,n',hc,ht'⟩:=key i hil;rw[add_none hsp]at hc;exact⟨a.block,a.off,by rw[←hsp],u,y,n',hc,ht'⟩
theorem open_ints' {H:Type} {enc:TypeId×Value→H} {P:Program} {w:World} {held:Bool} {t e:TypeId} {k:IntKind} {v:Value} {d:DataW H} {ps:List MemPlace}
  (ht:P.underlying t=some (.slice e)) (he:P.underlying e=some (.int k)) (hC:P.cellsOf e=1) (hr:Value.okWide P w .any 0 t v) (h:DataW.Trod enc P w 0 (fun _=>true) held t v d ps) :
  ∃A cap l,v=.slice A (List.length l) cap∧Sl w 0 1 v l.length (l.map (Value.int k))∧l.length≤maxLen∧∀x∈l,(Lit.int k x).wf=true:=by
 obtain⟨A,len,cap,rfl,hl,hm,hc⟩:=open_ones ht hC hr h;obtain⟨l,hlen,hp⟩:=list_of (p:=fun i (x:Int)=>(∃b o,A=some ⟨b,o,none⟩∧w.cell? ⟨b,o+i,none⟩=some (.int k x))∧(Lit.int k x).wf=true) len (fun i hi=>by
  obtain⟨b,o,hA,u,y,n,hu,ht'⟩:=hc i hi;obtain⟨x,ex,_,wf⟩:=DataW.trod_int he ht';simp at ex;subst ex;exact⟨x,⟨b,o,hA,hu⟩,wf⟩)
 subst hlen;refine⟨A,cap,l,rfl,?_,hm,fun x hx=>?_⟩
 ·refine⟨by simp,A,cap,rfl,hl,fun hn=>?_⟩;obtain⟨⟨b,o,hA,_⟩,_⟩:=hp 0 _ (List.getElem?_eq_getElem hn);refine⟨b,o,hA,Nat.zero_le _,fun j u hu=>?_⟩;rw[List.getElem?_map]at hu;cases hx:l[j]? with
  |none=>rw[hx]at hu;cases hu
  |some x=>
   rw[hx]at hu;cases hu;obtain⟨⟨b',o',hA',hc'⟩,_⟩:=hp j x hx;rw[hA]at hA';cases hA';exact hc'
 ·obtain⟨i,hi⟩:=List.mem_iff_getElem?.1 hx;exact (hp i x hi).2
end Go.Proofs.YtgbndaiifbogmaaGreat
namespace Go.Proofs.YtgbndaiifbogmaaGreat
open Go.RowKit
theorem Blk.rangeQ {w:World} {g:Nat} {t:TypeId} {cs:Array Value} (h:Blk w g t cs):w.rangeAt g 0 cs.toList:=fun j v hj=>by
 rw[Nat.zero_add,h.cell];simpa using hj
theorem rangeAt_chg {w w':World} {S:List Nat} {b o:Nat} {cs:List Value} (h:w.rangeAt b o cs) (hc:Chg S w w') (hb:b∉S):w'.rangeAt b o cs:=fun j v hv=>hc.cell (h j v hv) hb
section
variable {P:Program} {ops:Array Oper} {rest:List Oper} {o:Oper} {a:Act}
theorem wpQuiet_rowC {C:World→Prop} {Q:Act→Prop} (ty:TypeId) (x:Operand) (ho:o.op=.load ty x) (hw:Region.wanted o (yielded ops a.tmps)=true) (b off:Nat) (hx:a.eval x=.pointer (some ⟨b,off,none⟩)) (cs:Array Value) (d:TypeDesc) (hS:∀w',C w'→w'.rangeAt b off cs.toList)
  (hu:P.underlying ty=some d) (hd:d.isRow=true) (hi:(P.info? ty).map (·.size)=some cs.size) (h:wpQuiet P ops C Q rest (a.put o.dst (.agg cs))):wpQuiet P ops C Q (o::rest) a:=by
 unfold wpQuiet;rw[if_pos hw];refine⟨.agg cs,fun w' hC=>?_,h⟩;unfold Oper.quietAt execOp;simp only[ho,hx,Instr.loadAt,Instr.sureAddr,Sem.run_bind,Sem.run_pure,Result.andThen_ok,run_loadVar_mid w' b off ty cs.toList d (hS w' hC) hu hd (by simpa using hi)];exact⟨rfl,rfl⟩
theorem wpQuiet_skip {C:World→Prop} {Q:Act→Prop} (hw:Region.wanted o (yielded ops a.tmps)=false) (h:wpQuiet P ops C Q rest (a.put o.dst undef)):wpQuiet P ops C Q (o::rest) a:=by
 unfold wpQuiet;rw[if_neg (by rw[hw];simp)];exact h
theorem wpQuiet_do {C:World→Prop} {Q:Act→Prop} (hw:Region.wanted o (yielded ops a.tmps)=true) (h:∀K:Act→Prop,(∀a,wpQuiet P ops C Q rest a→K a)→o.quiet P a C K):wpQuiet P ops C Q (o::rest) a:=by
 unfold wpQuiet;rw[if_pos hw];exact h _ (fun _ h=>h)
theorem wpList_row {w:World} {Q:Exit→Act→World→Prop} (ty:TypeId) (x:Operand) (ho:o.op=.load ty x) (hw:Region.wanted o (yielded ops a.tmps)=true) (b off:Nat) (hx:a.eval x=.pointer (some ⟨b,off,none⟩)) (cs:Array Value) (d:TypeDesc) (hS:w.rangeAt b off cs.toList)
  (hu:P.underlying ty=some d) (hd:d.isRow=true) (hi:(P.info? ty).map (·.size)=some cs.size) (h:wpList P ops Q rest (a.put o.dst (.agg cs)) w):wpList P ops Q (o::rest) a w:=by
 unfold wpList;rw[if_pos hw];have:=wp_load_mid (P:=P) (op:=o) (a:=a) (w:=w) (K:=wpList P ops Q rest) (Q:=Q) ty x ho b off hx cs.toList d hS hu hd (by simpa using hi) (by simpa using h);exact .inl this
end
end Go.Proofs.YtgbndaiifbogmaaGreat
namespace Go.Proofs.YtgbndaiifbogmaaGreat
open Go
structure KL (κ:Type) where
 lit:κ→Lit
 ok:κ→Prop
 key:∀n,ok n→WideAt.IsKeyLit (lit n)
 inj:∀a b,ok a→ok b→lit a=lit b→a=b
section
variable {H κ α:Type} (K:KL κ) (d:α→DataW H)
def ReadsH (D:DataW H) (M:κ→Option α):Prop:=
 Maps.IsMap D∧∀n,K.ok n→(∀r,M n=some r→Maps.has D (K.lit n)=true∧∀z,D.atKey (K.lit n) z=d r)∧(M n=none→Maps.has D (K.lit n)=false)
variable {K d} {D:DataW H} {M:κ→Option α}
theorem ReadsH.nil:ReadsH K d (.map []) (fun _=>none):=⟨Maps.isMap_empty,fun n _=>⟨fun r h=>by simp at h,fun _=>by simp[Maps.has_eq]⟩⟩
theorem ReadsH.put [DecidableEq κ] (h:ReadsH K d D M) {n:κ} (hn:K.ok n) (r:α):ReadsH K d (D.put (K.lit n) (d r)) (fun x=>if x=n then some r else M x):=by
 have hk:=K.key n hn;refine⟨h.1.put _ _,fun x hxo=>?_⟩;by_cases hx:x=n
 ·subst hx;simp only[if_true];exact⟨fun r' e=>by injection e with e;subst e;exact⟨Maps.has_put_same h.1 hk _,fun z=>Maps.atKey_put_same h.1 hk _ _⟩,fun e=>by cases e⟩
 ·have hne:K.lit x≠K.lit n:=fun e=>hx (K.inj _ _ hxo hn e)
  simp only[hx,if_false];refine⟨fun r' e=>?_,fun e=>?_⟩
  ·have:=(h.2 x hxo).1 r' e;exact⟨by rw[Maps.has_put_other hne];exact this.1,fun z=>by rw[Maps.atKey_put_other hne];exact this.2 z⟩
  ·rw[Maps.has_put_other hne];exact (h.2 x hxo).2 e
theorem ReadsH.del [DecidableEq κ] (h:ReadsH K d D M) {n:κ} (hn:K.ok n):ReadsH K d (D.del (K.lit n)) (fun x=>if x=n then none else M x):=by
 refine⟨h.1.del _,fun x hxo=>?_⟩;by_cases hx:x=n
 ·subst hx;simp only[if_true];exact⟨fun r' e=>(by cases e),fun _=>Maps.has_del_same⟩
 ·have hne:K.lit x≠K.lit n:=fun e=>hx (K.inj _ _ hxo hn e)
  simp only[hx,if_false];refine⟨fun r' e=>?_,fun e=>?_⟩
  ·have:=(h.2 x hxo).1 r' e;exact⟨by rw[Maps.has_del_other hne];exact this.1,fun z=>by rw[Maps.atKey_del_other hne];exact this.2 z⟩
  ·rw[Maps.has_del_other hne];exact (h.2 x hxo).2 e
theorem ReadsH.at_some (h:ReadsH K d D M) {n:κ} (hn:K.ok n) {r:α} (e:M n=some r) (z:DataW H):D.atKey (K.lit n) z=d r:=((h.2 n hn).1 r e).2 z
theorem ReadsH.at_none (h:ReadsH K d D M) {n:κ} (hn:K.ok n) (e:M n=none) (z:DataW H):D.atKey (K.lit n) z=z:=Maps.atKey_of_not_has ((h.2 n hn).2 e) z
theorem ReadsH.at_ (h:ReadsH K d D M) {n:κ} (hn:K.ok n) (r0:α):D.atKey (K.lit n) (d r0)=d ((M n).getD r0):=by
 cases e:M n with
 |none=>exact h.at_none hn e _
 |some r=>exact h.at_some hn e _
theorem ReadsH.has (h:ReadsH K d D M) {n:κ} (hn:K.ok n):Maps.has D (K.lit n)=(M n).isSome:=by
 cases e:M n with
 |none=>rw[(h.2 n hn).2 e];rfl
 |some r=>rw[((h.2 n hn).1 r e).1];rfl
end
open Go.RowKit Go.Maps
def rV (v:Value):Option (DataW Value×List MemPlace):=some (.held v,[])
structure KV (P:Program) (k:TypeId) (κ:Type) extends KL κ where
 val:κ→Value
 law:Keyed P k
 isk:∀x,ok x→keyOf P k (val x)=some (lit x)
 inv:∀v l,keyOf P k v=some l→∃x,ok x∧v=val x∧l=lit x
section
variable {P:Program} {k e t:TypeId} {κ:Type} (K:KV P k κ)
def OM (w:World) (b n:Nat) (M:κ→Option Value) (s:Nat):Prop:=∃D:DataW Value,w.ownsMap P k rV b n D∧ReadsH K.toKL DataW.held D M∧Maps.size D=s
variable {K} {w w':World} {b n s:Nat} {M:κ→Option Value} {S:List Nat}
theorem ownsMap_chgH {H:Type} {R:Value→Option (DataW H×List MemPlace)} {D:DataW H} (h:w.ownsMap P k R b n D) (hc:Chg S w w') (hb:b∉S):w'.ownsMap P k R b n D:=by
 have hl:=h.lt;obtain⟨es,clock,h1,r⟩:=h;exact⟨es,clock,(hc.block b hl hb).trans h1,r⟩
theorem OM.chg (h:OM K w b n M s) (hc:Chg S w w') (hb:b∉S):OM K w' b n M s:=by
 obtain⟨D,h1,h2⟩:=h;exact⟨D,ownsMap_chgH h1 hc hb,h2⟩
theorem OM.chg0 (h:OM K w b n M s) (hc:Chg [] w w'):OM K w' b n M s:=h.chg hc (by simp)
theorem OM.lt (h:OM K w b n M s):b<w.heap.size:=by
 obtain⟨D,h1,_⟩:=h;exact h1.lt
theorem OM.new (w:World):OM K (w.alloc (.map #[] 0)) w.heap.size 0 (fun _=>none) 0:=⟨_,World.ownsMap_made w P k rV,ReadsH.nil,rfl⟩
theorem held_inj {v:Value} {y:DataW Value} {ps:List MemPlace} (h:rV v=some (y,ps)):y=.held v:=by unfold rV at h;injection h with h;injection h with h _;exact h.symm
theorem OM.look (h:OM K w b n M s) (ht:P.underlying t=some (.map k e)) {z:Value} (hz:(zeroValue e).run P w=.ok z w) {x:κ} (hx:K.ok x) :
  (Instr.lookup t (.map (some b)) (K.val x) false).run P w=.ok ((M x).getD z) w:=by
 obtain⟨D,h1,h2,h3⟩:=h;obtain⟨v,ps,hr,hv⟩:=h1.lookup K.law ht hz (zd:=.held z) (zp:=[]) rfl (K.isk x hx);have e1:=h2.at_ hx z;have e2:=held_inj hv;rw[e1]at e2;injection e2 with e2
 rw[hr,e2]
theorem OM.look2 (h:OM K w b n M s) (ht:P.underlying t=some (.map k e)) {z:Value} (hz:(zeroValue e).run P w=.ok z w) {x:κ} (hx:K.ok x) :
  (Instr.lookup t (.map (some b)) (K.val x) true).run P w=.ok (.tuple #[(M x).getD z,.bool (M x).isSome]) w:=by
 obtain⟨D,h1,h2,h3⟩:=h;obtain⟨v,ps,hr,hv⟩:=h1.look_ok K.law ht hz (zd:=.held z) (zp:=[]) rfl (K.isk x hx);have e1:=h2.at_ hx z;have e2:=held_inj hv;rw[e1]at e2;injection e2 with e2
 rw[hr,e2,h2.has hx]
theorem OM.put [DecidableEq κ] (h:OM K w b n M s) (ht:P.underlying t=some (.map k e)) (hn:n<maxLen) {x:κ} (hx:K.ok x) (v:Value) :
  ∃w',(Instr.mapUpdate t (.map (some b)) (K.val x) v).run P w=.ok () w'∧OM K w' b (n+1) (fun y=>if y=x then some v else M y) (if (M x).isSome then s else s+1)∧Chg [b] w w':=by
 obtain⟨D,h1,h2,h3⟩:=h;obtain⟨w',hr,h4,h5⟩:=h1.update K.law ht hn (K.isk x hx) (val:=v) (d:=.held v) (ps:=[]) rfl;refine⟨w',hr,⟨_,h4,h2.put hx v,?_⟩,(Chg.refl _ _).grown h5 (fun k e=>by cases e;exact .inl (by simp))⟩;have e1:=Maps.size_put (k:=K.lit x) (h1.tidy K.law) (DataW.held v)
 rw[h2.has hx]at e1;rw[←h3,e1]
theorem OM.del [DecidableEq κ] (h:OM K w b n M s) (ht:P.underlying t=some (.map k e)) {x:κ} (hx:K.ok x) (ty:TypeId) :
  ∃w',(Builtin.delete_ #[t,k] ty #[.map (some b),K.val x]).run P w=.ok (.tuple #[]) w'∧OM K w' b n (fun y=>if y=x then none else M y) (if (M x).isSome then s-1 else s)∧Chg [b] w w':=by
 obtain⟨D,h1,h2,h3⟩:=h;obtain⟨w',hr,h4,h5⟩:=h1.drop K.law ht (K.isk x hx) ty;refine⟨w',hr,⟨_,h4,h2.del hx,?_⟩,(Chg.refl _ _).grown h5.grown (fun k e=>by cases e;exact .inl (by simp))⟩;have e1:=Maps.size_del (k:=K.lit x) (h1.tidy K.law);rw[h2.has hx]at e1;rw[←h3]
 revert e1
 cases (M x).isSome<;>intro e1<;>simp at e1 ⊢<;>omega
theorem OM.len (h:OM K w b n M s) (ht:P.underlying t=some (.map k e)) (ty:TypeId):(Builtin.len_ #[t] ty #[.map (some b)]).run P w=.ok (.int .i64 s) w:=by
 obtain⟨D,h1,h2,h3⟩:=h;rw[←h3];exact h1.len ht ty
section
variable {ops:Array Oper} {rest:List Oper} {o:Oper} {a:Act} {Q:Exit→Act→World→Prop}
end
end
end Go.Proofs.YtgbndaiifbogmaaGreat
namespace Go.Proofs.YtgbndaiifbogmaaGreat
open Go.RowKit
section
variable {P:Program} {ops:Array Oper} {o:Oper} {a:Act} {S:World→Prop}
theorem run_loadVar_one (w:World) (ad:Addr) (ty:TypeId) (d:TypeDesc) (v:Value) (hc:w.cell? ad=some v) (hu:P.underlying ty=some d) (hd:d.isRow=false):(loadVar ty ad).run P w=.ok v w:=by
 have hagg:(isAgg ty).run P w=.ok false w:=by
  unfold isAgg;rw[Sem.run_bind,run_underlying hu w];cases d<;>simp_all
 simp[loadVar,Sem.run_bind,hagg,run_load,hc]
theorem zc (hw:Region.wanted o (yielded ops a.tmps)=true) (ty:TypeId) (x:Operand) (ho:o.op=.load ty x) (b off:Nat) (hx:a.eval x=.pointer (some ⟨b,off,none⟩)) (v:Value) (d:TypeDesc)
  (hS:∀w,S w→w.cell? ⟨b,off,none⟩=some v) (hu:P.underlying ty=some d) (hd:d.isRow=false):YieldsIf P ops S o v a:=
 .inl ⟨hw,fun w hw'=>by
  unfold execOp;simp only[ho,hx,Instr.loadAt,Instr.sureAddr,Sem.run_bind,Sem.run_pure,Result.andThen_ok,run_loadVar_one w _ ty d v (hS w hw') hu hd]⟩
theorem yields_row (hw:Region.wanted o (yielded ops a.tmps)=true) (ty:TypeId) (x:Operand) (ho:o.op=.load ty x) (b off:Nat) (hx:a.eval x=.pointer (some ⟨b,off,none⟩)) (cs:Array Value) (d:TypeDesc)
  (hS:∀w,S w→w.rangeAt b off cs.toList) (hu:P.underlying ty=some d) (hd:d.isRow=true) (hi:(P.info? ty).map (·.size)=some cs.size):YieldsIf P ops S o (.agg cs) a:=
 yieldsIf_load_mid hw ty x ho b off hx cs.toList d hS hu hd (by simpa using hi)
theorem yields_pure {v:Value} (hw:Region.wanted o (yielded ops a.tmps)=true) (h:∀w,(execOp a.eval o).run P w=.ok (.value v) w):YieldsIf P ops S o v a:=.inl ⟨hw,fun w _=>h w⟩
end
section
variable {P:Program} {ops:Array Oper} {rest:List Oper} {o:Oper} {a:Act} {C:World→Prop} {Q:Act→Prop}
theorem wp_region_chg {id:Nat} {Q:Exit→Act→World→Prop} {a:Act} {w:World} {l:List Oper} (hm:P.follows .mixedOrders=true) (hB:Region.lexB .any l.toArray=true)
  (h:wpQuiet P l.toArray (Chg [] w) (fun a'=>∀w',Chg [] w w'→Q .normal a' w') l a):(Code.region id l.toArray true).wp P Q a w:=
 wp_region_quiet (C:=Chg [] w) hm hB ((Chg.refl [] w).drew) (by simpa using h)
theorem wpQuiet_of {v:Value} (hy:YieldsIf P ops C o v a) (h:wpQuiet P ops C Q rest (a.put o.dst v)):wpQuiet P ops C Q (o::rest) a:=by
 unfold wpQuiet;rcases hy with ⟨hw,hr⟩ | ⟨hw,rfl⟩
 ·rw[if_pos hw];exact⟨v,fun w hC=>by unfold Oper.quietAt;rw[hr w hC];exact⟨rfl,rfl⟩,h⟩
 ·rw[if_neg (by rw[hw];simp)];exact h
theorem wpQuiet_cellC (ty:TypeId) (x:Operand) (ho:o.op=.load ty x) (hw:Region.wanted o (yielded ops a.tmps)=true) (b off:Nat) (hx:a.eval x=.pointer (some ⟨b,off,none⟩)) (v:Value) (d:TypeDesc) (hS:∀w',C w'→w'.cell? ⟨b,off,none⟩=some v)
  (hu:P.underlying ty=some d) (hd:d.isRow=false) (h:wpQuiet P ops C Q rest (a.put o.dst v)):wpQuiet P ops C Q (o::rest) a:=wpQuiet_of (zc hw ty x ho b off hx v d hS hu hd) h
theorem wpQuiet_pure {v:Value} (hw:Region.wanted o (yielded ops a.tmps)=true) (hr:∀w,(execOp a.eval o).run P w=.ok (.value v) w) (h:wpQuiet P ops C Q rest (a.put o.dst v)):wpQuiet P ops C Q (o::rest) a:=wpQuiet_of (yields_pure hw hr) h
end
theorem step_store_blk {P:Program} {ops:Array Oper} {op:Oper} {a:Act} {w:World} {K:Act→World→Prop} {Q:Exit→Act→World→Prop} {E:Prop} {g:Nat} {e:TypeId} {cs vs:Array Value} (hgd:op.guard=none) (ty:TypeId) (x y:Operand) (ho:op.op=.store ty x y)
  (hb:Blk w g e cs) (hx:a.eval x=.pointer (some ⟨g,0,none⟩)) (hy:a.eval y=.agg vs) (hsz:vs.size=cs.size) (hi:(P.info? ty).map (·.size)=some vs.size) (h1:vs.toList.all (·.oneCell')=true)
  (h:∀w',Blk w' g e vs→Chg [g] w w'→K (a.put op.dst undef) w'):if Region.wanted op (yielded ops a.tmps)=true then Oper.wp P op a w K Q else E:=by
 rw[if_pos (by simp[Region.wanted,hgd])];refine wp_store_mid ty x y ho g 0 vs hx hy (fun j hj=>?_) hi (by simpa using h1) ?_
 ·rw[Nat.zero_add,hb.cell,hb.frozen];exact⟨by rw[Array.getElem?_eq_getElem (show j<cs.size by omega)];rfl,rfl⟩
 ·have hb':=Blk.setCells vs.toList 0 cs hb;rw[putAt_all hsz]at hb';exact h _ hb' (Chg.setCells _ _)
theorem zP:(∀(a:Act) (d:Tmp) (v:Value),a.put (some d) v={a with tmps:=a.tmps.setIfInBounds d v})∧(∀(a:Act) (v:Value),a.put none v=a)∧(∀(l:List Value) (i:Nat) (v:Value),l.toArray.setIfInBounds i v=(l.set i v).toArray) ∧
  (∀(x v:Value) (l:List Value),(x::l).set 0 v=v::l)∧(∀(x v:Value) (l:List Value) (i:Nat),(x::l).set (i+1) v=x::l.set i v) ∧
  (∀(α:Type) (l:List α) (i:Nat) (h:i<l.toArray.size),l.toArray[i]=l[i]'(by simpa using h))∧(∀(α:Type) (x:α) (l:List α) (i:Nat) (h:i+1<(x::l).length),(x::l)[i+1]=l[i]'(by simpa using h))∧(∀(α:Type) (x:α) (l:List α) (h:0<(x::l).length),(x::l)[0]=x):=
 ⟨fun _ _ _=>rfl,fun _ _=>rfl,fun _ _ _=>by simp,fun _ _ _=>rfl,fun _ _ _ _=>rfl,fun _ _ _ _=>rfl,fun _ _ _ _ _=>rfl,fun _ _ _ _=>rfl⟩
theorem zT {P:Program} {md:Region.Mode} {ops:Array Oper} {Q:Exit→Act→World→Prop} {S:World→Prop} (i:Nat) {oi:Oper} {v:Value} {fuel:Nat} {listed:Array Bool} {a:Act} {w:World} (hi:ops[i]?=some oi) (hy:YieldsIf P ops S oi v a)
  (h:wpAnyH P md ops Q S fuel (listed.setIfInBounds i true) (a.put oi.dst v) w) (hs:Region.noSelect ops=true:=by kernel_rfl) (hf:Region.free md ops listed i=true:=by kernel_rfl) (hr:(Region.ready md ops listed).contains i=true:=by kernel_rfl)
  (hQ:∀c a w,Q (.panic c) (a.put oi.dst v) w→Q (.panic c) a w:=by exact fun _ _ _ h=>h) (hS:S w:=by with_reducible assumption):wpAnyH P md ops Q S (fuel+1) listed a w:=
 wpAnyH_take hi hs hf hr hQ hy hS h
theorem zR {P:Program} {md:Region.Mode} {ops:Array Oper} {Q:Exit→Act→World→Prop} {S:World→Prop} (i:Nat) {o:Oper} {fuel:Nat} {listed:Array Bool} {a:Act} {w:World} (ho:ops[i]?=some o)
  (h:∀K':Act→World→Prop,Shut (∀a w,S w→(S w→wpAnyH P md ops Q S fuel (listed.setIfInBounds i true) a w)→K' a w)→if Region.wanted o (yielded ops a.tmps)=true then Oper.wp P o a w K' Q else K' (a.put o.dst undef) w)
  (hr:Region.ready md ops listed=[i]:=by kernel_rfl):wpAnyH P md ops Q S (fuel+1) listed a w:=wpAnyH_ready hr (by simp) (AllReadyH.cons ho h AllReadyH.nil)
theorem zB {S:World→Prop} {X K:Act→World→Prop} {a:Act} {w:World} (hK:Shut (∀a w,S w→(S w→X a w)→K a w)) (h:X a w) (hS:S w:=by with_reducible assumption):K a w:=hK.out _ _ hS (fun _=>h)
theorem zU {P:Program} {md:Region.Mode} {ops:Array Oper} {Q:Exit→Act→World→Prop} {S:World→Prop} (i:Nat) {oi:Oper} {v:Value} {fuel:Nat} {listed:Array Bool} {a:Act} {w:World} (hi:ops[i]?=some oi)
  (he:∀w,(execOp a.eval oi).run P w=.ok (.value v) w) (h:wpAnyH P md ops Q S fuel (listed.setIfInBounds i true) (a.put oi.dst v) w) (hw:Region.wanted oi (yielded ops a.tmps)=true:=by rfl) (hs:Region.noSelect ops=true:=by kernel_rfl) (hf:Region.free md ops listed i=true:=by kernel_rfl) (hr:(Region.ready md ops listed).contains i=true:=by kernel_rfl)
  (hQ:∀c a w,Q (.panic c) (a.put oi.dst v) w→Q (.panic c) a w:=by exact fun _ _ _ h=>h) (hS:S w:=by with_reducible assumption):wpAnyH P md ops Q S (fuel+1) listed a w:=
 wpAnyH_take hi hs hf hr hQ (yields_pure hw he) hS h
end Go.Proofs.YtgbndaiifbogmaaGreat
namespace Go.Proofs.YtgbndaiifbogmaaGreat
open Go.RowKit Go.Maps Go.WideMaps Go.WideShapes
structure Ad where
 (a0 a1 a2 a3 a4 a5 a6 a7 a8 a9 a10 a11 a12 a13 a14 a15:Int)
deriving DecidableEq,Inhabited
def Ad.l (A:Ad):List Int:=[A.a0,A.a1,A.a2,A.a3,A.a4,A.a5,A.a6,A.a7,A.a8,A.a9,A.a10,A.a11,A.a12,A.a13,A.a14,A.a15]
@[reducible] def Ad.v (A:Ad):Value:=.agg #[.int .u8 A.a0,.int .u8 A.a1,.int .u8 A.a2,.int .u8 A.a3,.int .u8 A.a4,.int .u8 A.a5,.int .u8 A.a6,.int .u8 A.a7,.int .u8 A.a8,.int .u8 A.a9,.int .u8 A.a10,.int .u8 A.a11,.int .u8 A.a12,.int .u8 A.a13,.int .u8 A.a14,.int .u8 A.a15]
@[reducible] def arrA (A:Ad):Array Value:=#[.int .u8 A.a0,.int .u8 A.a1,.int .u8 A.a2,.int .u8 A.a3,.int .u8 A.a4,.int .u8 A.a5,.int .u8 A.a6,.int .u8 A.a7,.int .u8 A.a8,.int .u8 A.a9,.int .u8 A.a10,.int .u8 A.a11,.int .u8 A.a12,.int .u8 A.a13,.int .u8 A.a14,.int .u8 A.a15]
def okA (A:Ad):Prop:=∀x∈A.l,(Lit.int .u8 x).wf=true
def encA (A:Ad):List Value:=A.l.map (Value.int .u8)
theorem Ad.l_len (A:Ad):A.l.length=16:=rfl
theorem encA_len (A:Ad):(encA A).length=16:=rfl
theorem Ad.ext_l {A B:Ad} (h:A.l=B.l):A=B:=by
 cases A;cases B;simpa[Ad.l]using h
theorem okA.at {A:Ad} (h:okA A) (i:Nat) (hi:i<16):0≤A.l[i]?.getD 0∧A.l[i]?.getD 0≤255:=by
 have h1:A.l[i]?=some (A.l[i]'(by rw[A.l_len];exact hi)):=List.getElem?_eq_getElem _;rw[h1];have h2:=h _ (List.getElem_mem (l:=A.l) (n:=i) (by rw[A.l_len];exact hi));simp[Lit.wf,IntKind.min,IntKind.max,IntKind.signed,IntKind.bits]at h2;simpa using h2
theorem Ad.v_inj {A B:Ad} (h:A.v=B.v):A=B:=by
 cases A;cases B;simpa[Ad.v]using h
def litsA (A:Ad):List Lit:=A.l.map (Lit.int .u8)
theorem mapM_some {α β:Type} {f:α→Option β} {g:α→β}:∀(l:List α),(∀x∈l,f x=some (g x))→l.mapM f=some (l.map g)
 |[],_=>rfl
 |a::l,h=>by
  rw[List.mapM_cons,h a (by simp),mapM_some l (fun x hx=>h x (by simp[hx]))];rfl
theorem keyLits_u8 {d:Nat} {x:Int} (h:(Lit.int .u8 x).wf=true):Tryz.prog.keyLits (d+1) 5 [.int .u8 x]=some [.int .u8 x]:=by
 simp[Program.keyLits,Tryz.underlying5,h]
theorem keyLits_int {d:Nat} {x:Int} (h:(Lit.int .i64 x).wf=true):Tryz.prog.keyLits (d+1) 3 [.int .i64 x]=some [.int .i64 x]:=by
 simp[Program.keyLits,Tryz.underlying3,h]
theorem keyLits_ad {d:Nat} {A:Ad} (h:okA A):Tryz.prog.keyLits (d+2) 24 (encA A)=some (litsA A):=by
 have hc:Tryz.prog.cellsOf 24=16:=by kernel_rfl
 have hc1:Tryz.prog.cellsOf 5=1:=by kernel_rfl
 unfold Program.keyLits;simp only[Tryz.underlying24];rw[if_pos (by rw[hc];rfl),hc1];rw[mapM_some (g:=fun i:Nat=>[Lit.int .u8 (A.l[i]?.getD 0)])]
 ·rfl
 ·intro i hi;have hi16:i<16:=by simpa using hi
  have h1:((encA A).drop (i*1)).take 1=[Value.int .u8 (A.l[i]?.getD 0)]:=by
   have:i=0∨i=1∨i=2∨i=3∨i=4∨i=5∨i=6∨i=7∨i=8∨i=9∨i=10∨i=11∨i=12∨i=13∨i=14∨i=15:=by omega
   rcases this with rfl|rfl|rfl|rfl|rfl|rfl|rfl|rfl|rfl|rfl|rfl|rfl|rfl|rfl|rfl|rfl<;>rfl
  rw[h1];refine keyLits_u8 ?_;have h2:A.l[i]?=some (A.l[i]'(by rw[A.l_len];exact hi16)):=List.getElem?_eq_getElem _;rw[h2];exact h _ (List.getElem_mem _)
theorem typesTwo:∃d,Tryz.prog.types.size+1=d+3:=⟨Tryz.prog.types.size-2,by have:2≤Tryz.prog.types.size:=of_decide_eq_true (by kernel_rfl);omega⟩
def keyA (A:Ad):Lit:=.string (keyBytes (litsA A))
theorem key_ad {A:Ad} (h:okA A):keyOf Tryz.prog 24 A.v=some (keyA A):=by
 have hk:Tryz.prog.keyType 24=true:=by kernel_rfl
 have hc:Tryz.prog.cellsOf 24=16:=by kernel_rfl
 obtain⟨d,hd⟩:=typesTwo;unfold keyOf;simp only[Tryz.underlying24];rw[if_pos (by simp[hk,Value.formed,Tryz.underlying24,hc]),hd];have:=keyLits_ad (d:=d+1) h;have e:A.v.cells.toList=encA A:=rfl;rw[e,this];rfl
theorem laidOutV:laidOutB Tryz.prog=true:=by kernel_rfl
theorem lawAd:KeyLaw Tryz.prog 24:=deep_law_laid laidOutV (m:=4) (by omega) (of_decide_eq_true (by kernel_rfl)) (by kernel_rfl) (by kernel_rfl)
theorem keyA_inj {A B:Ad} (hA:okA A) (hB:okA B) (h:keyA A=keyA B):A=B:=
 Ad.v_inj (lawAd.inj (key_ad hA) (h▸key_ad hB))
theorem eq_ad (w:World) {A B:Ad} (hA:okA A) (hB:okA B):(Op.equalIn 10000 24 A.v B.v).run Tryz.prog w=.ok (decide (A=B)) w:=by
 obtain⟨r,hr,hi⟩:=run_equal_deep w (m:=4) (by omega) (k:=24) (by kernel_rfl) (by kernel_rfl) (key_ad hA) (key_ad hB);have e:r=decide (A=B):=by
  by_cases h:A=B
  ·rw[decide_eq_true h];exact hi.2 (by rw[h])
  ·rw[decide_eq_false h];cases r with
   |false=>rfl
   |true=>exact absurd (keyA_inj hA hB (hi.1 rfl)) h
 rw[←e];exact hr
theorem mapM_inv {α β:Type} {f:α→Option β}:∀{l:List α} {r:List β},l.mapM f=some r→∀x∈l,∃y,f x=some y
 |[],r,_,x,hx=>by simp at hx
 |a::l,r,h,x,hx=>by
  rw[List.mapM_cons]at h;cases ha:f a with
  |none=>rw[ha]at h;simp at h
  |some y=>
   rw[ha]at h;cases hl:l.mapM f with
   |none=>rw[hl]at h;simp at h
   |some r'=>
    rcases List.mem_cons.1 hx with rfl|hx
    ·exact⟨y,ha⟩
    ·exact mapM_inv hl x hx
theorem keyLits_int_inv {d:Nat} {t:TypeId} {k:IntKind} (hu:Tryz.prog.underlying t=some (.int k)) {c:Value} {ls:List Lit} (h:Tryz.prog.keyLits (d+1) t [c]=some ls):∃x,c=.int k x∧(Lit.int k x).wf=true:=by
 unfold Program.keyLits at h;rw[hu]at h;cases c<;>simp at h
 obtain⟨⟨rfl,hw⟩,_⟩:=h;exact⟨_,rfl,hw⟩
theorem keyLits_ad_inv {d:Nat} {cs:List Value} {ls:List Lit} (h:Tryz.prog.keyLits (d+2) 24 cs=some ls) (hl:cs.length=16):∃A:Ad,cs=encA A∧okA A:=by
 have hc:Tryz.prog.cellsOf 24=16:=by kernel_rfl
 have hc1:Tryz.prog.cellsOf 5=1:=by kernel_rfl
 unfold Program.keyLits at h;simp only[Tryz.underlying24]at h;rw[if_pos (by rw[hc,hl]),hc1]at h;have key:∀i,i<16→∃x,cs[i]?=some (.int .u8 x)∧(Lit.int .u8 x).wf=true:=by
  intro i hi;have hj:∃r,((List.range 16).mapM fun i=>Tryz.prog.keyLits (d+1) 5 ((cs.drop (i*1)).take 1))=some r:=by
   cases e:((List.range 16).mapM fun i=>Tryz.prog.keyLits (d+1) 5 ((cs.drop (i*1)).take 1)) with
   |none=>rw[e]at h;simp at h
   |some r=>exact⟨r,rfl⟩
  obtain⟨r,hr⟩:=hj;obtain⟨y,hy⟩:=mapM_inv hr i (List.mem_range.2 hi);have h1:(cs.drop (i*1)).take 1=[cs[i]'(by omega)]:=by
   rw[Nat.mul_one,List.drop_eq_getElem_cons (by omega)];rfl
  rw[h1]at hy;obtain⟨x,hx,hw⟩:=keyLits_int_inv Tryz.underlying5 hy;exact⟨x,by rw[List.getElem?_eq_getElem (by omega),hx],hw⟩
 clear h
 match cs,hl,key with
 |[c0,c1,c2,c3,c4,c5,c6,c7,c8,c9,c10,c11,c12,c13,c14,c15],_,key=>
  obtain⟨x0,e0,w0⟩:=key 0 (by omega);obtain⟨x1,e1,w1⟩:=key 1 (by omega);obtain⟨x2,e2,w2⟩:=key 2 (by omega);obtain⟨x3,e3,w3⟩:=key 3 (by omega);obtain⟨x4,e4,w4⟩:=key 4 (by omega);obtain⟨x5,e5,w5⟩:=key 5 (by omega);obtain⟨x6,e6,w6⟩:=key 6 (by omega);obtain⟨x7,e7,w7⟩:=key 7 (by omega)
  obtain⟨x8,e8,w8⟩:=key 8 (by omega);obtain⟨x9,e9,w9⟩:=key 9 (by omega);obtain⟨x10,e10,w10⟩:=key 10 (by omega);obtain⟨x11,e11,w11⟩:=key 11 (by omega);obtain⟨x12,e12,w12⟩:=key 12 (by omega);obtain⟨x13,e13,w13⟩:=key 13 (by omega);obtain⟨x14,e14,w14⟩:=key 14 (by omega)
  obtain⟨x15,e15,w15⟩:=key 15 (by omega);obtain rfl:c0=.int .u8 x0:=Option.some.inj e0;obtain rfl:c1=.int .u8 x1:=Option.some.inj e1;obtain rfl:c2=.int .u8 x2:=Option.some.inj e2;obtain rfl:c3=.int .u8 x3:=Option.some.inj e3;obtain rfl:c4=.int .u8 x4:=Option.some.inj e4
  obtain rfl:c5=.int .u8 x5:=Option.some.inj e5;obtain rfl:c6=.int .u8 x6:=Option.some.inj e6;obtain rfl:c7=.int .u8 x7:=Option.some.inj e7;obtain rfl:c8=.int .u8 x8:=Option.some.inj e8;obtain rfl:c9=.int .u8 x9:=Option.some.inj e9;obtain rfl:c10=.int .u8 x10:=Option.some.inj e10
  obtain rfl:c11=.int .u8 x11:=Option.some.inj e11;obtain rfl:c12=.int .u8 x12:=Option.some.inj e12;obtain rfl:c13=.int .u8 x13:=Option.some.inj e13;obtain rfl:c14=.int .u8 x14:=Option.some.inj e14;obtain rfl:c15=.int .u8 x15:=Option.some.inj e15
  refine⟨⟨x0,x1,x2,x3,x4,x5,x6,x7,x8,x9,x10,x11,x12,x13,x14,x15⟩,rfl,fun x hx=>?_⟩;simp[Ad.l]at hx;rcases hx with rfl|rfl|rfl|rfl|rfl|rfl|rfl|rfl|rfl|rfl|rfl|rfl|rfl|rfl|rfl|rfl<;>assumption
theorem cellsA {w:World} {g:Nat} {t:TypeId} {A:Ad} (h:Blk w g t (arrA A)):w.cell? ⟨g,0,none⟩=some (.int .u8 A.a0)∧w.cell? ⟨g,1,none⟩=some (.int .u8 A.a1)∧w.cell? ⟨g,2,none⟩=some (.int .u8 A.a2)∧w.cell? ⟨g,3,none⟩=some (.int .u8 A.a3)∧w.cell? ⟨g,4,none⟩=some (.int .u8 A.a4)∧w.cell? ⟨g,5,none⟩=some (.int .u8 A.a5)∧w.cell? ⟨g,6,none⟩=some (.int .u8 A.a6)∧w.cell? ⟨g,7,none⟩=some (.int .u8 A.a7)∧w.cell? ⟨g,8,none⟩=some (.int .u8 A.a8)∧w.cell? ⟨g,9,none⟩=some (.int .u8 A.a9)∧w.cell? ⟨g,10,none⟩=some (.int .u8 A.a10)∧w.cell? ⟨g,11,none⟩=some (.int .u8 A.a11)∧w.cell? ⟨g,12,none⟩=some (.int .u8 A.a12)∧w.cell? ⟨g,13,none⟩=some (.int .u8 A.a13)∧w.cell? ⟨g,14,none⟩=some (.int .u8 A.a14)∧w.cell? ⟨g,15,none⟩=some (.int .u8 A.a15):=
 ⟨h.cell 0,h.cell 1,h.cell 2,h.cell 3,h.cell 4,h.cell 5,h.cell 6,h.cell 7,h.cell 8,h.cell 9,h.cell 10,h.cell 11,h.cell 12,h.cell 13,h.cell 14,h.cell 15⟩
end Go.Proofs.YtgbndaiifbogmaaGreat
namespace Go.Proofs.YtgbndaiifbogmaaGreat
open Go Go.RowKit Go.Maps Go.WideShapes Go.WideElems
theorem chg_setBlock {w:World} {b:Nat} {o:Obj}:Chg [b] w (ChangeMaps.setBlock w b o):=
 ⟨rfl,rfl,rfl,by simp[ChangeMaps.setBlock],fun k _ hk=>by
  simp[ChangeMaps.setBlock];rw[Array.getElem?_setIfInBounds,if_neg (by simp at hk;exact fun e=>hk e.symm)]⟩
theorem run_store_entry {P:Program} {w1:World} {b:Nat} {es:Array MapEntry} {clock st i:Nat} (t:TypeId) (v:Value) (hb:w1.heap[b]?=some (.map es clock)) (hi:es.findIdx? (fun y=>((y.born:Nat):Int)==((st:Nat):Int))=some i) :
  (Instr.entryStore t (.map (some b)) (.int .i64 st) v).run P w1=.ok () (ChangeMaps.setBlock w1 b (.map (es.modify i (fun y=>{y with val:=v})) clock)):=by
 simp[Instr.entryStore,MapKept.run_getObj_map hb,asInt,asIntOf,hi,MapKept.run_setObj_map _ hb,Result.andThen,ChangeMaps.setBlock]
theorem setBlock_twice (w:World) (b:Nat) (o o':Obj):ChangeMaps.setBlock (ChangeMaps.setBlock w b o) b o'=ChangeMaps.setBlock w b o':=by simp[ChangeMaps.setBlock]
section
variable {P:Program} {k e t:TypeId} {κ:Type} [DecidableEq κ] {K:KV P k κ} {w:World} {b n s:Nat} {M:κ→Option Value}
theorem OM.entry (h:OM K w b n M s) (ht:P.underlying t=some (.map k e)) (hn:n<maxLen) {z:Value} (hz:∀u:World,(zeroValue e).run P u=.ok z u) {x:κ} (hx:K.ok x) (v:Value) :
  ∃(v0:Value) (st:Int) (w1 w2:World),(Instr.mapEntry t (.map (some b)) (K.val x)).run P w=.ok (.tuple #[v0,.int .i64 st]) w1∧(Instr.entryStore t (.map (some b)) (.int .i64 st) v).run P w1=.ok () w2 ∧
   OM K w2 b (n+1) (fun y=>if y=x then some v else M y) (if (M x).isSome then s else s+1)∧Chg [b] w w2∧Chg [b] w w1:=by
 have L:=K.law;have hkey:=K.isk x hx;obtain⟨w',hu,ho,hc⟩:=h.put ht hn hx v;obtain⟨D,h1,_⟩:=h;obtain⟨es,clock,hb,F,_,_⟩:=h1;obtain⟨s1,s2,_⟩:=F.stamped;rcases L.find w hkey es.toList F.keys with ⟨q1,_⟩ | ⟨j,e0,q1,q2,q3⟩
 ·refine⟨z,clock,ChangeMaps.setBlock w b (.map (es.push ⟨K.val x,z,clock⟩) (clock+1)),w',?_,?_,ho,hc,chg_setBlock⟩
  ·simp[Instr.mapEntry,run_underlying ht,MapKept.run_getObj_map hb,L.check w false hkey,q1,hz,MapKept.run_setObj_map _ hb,Result.andThen,ChangeMaps.setBlock,goInt]
  ·have hw:w'=ChangeMaps.setBlock w b (.map (es.push ⟨K.val x,v,clock⟩) (clock+1)):=by
    have:(Instr.mapUpdate t (.map (some b)) (K.val x) v).run P w=.ok () (ChangeMaps.setBlock w b (.map (es.push ⟨K.val x,v,clock⟩) (clock+1))):=by
     simp[Instr.mapUpdate,run_underlying ht,MapKept.run_getObj_map hb,L.check w false hkey,q1,MapKept.run_setObj_map _ hb,Result.andThen,ChangeMaps.setBlock]
    rw[hu]at this;injection this
   have hb1:(ChangeMaps.setBlock w b (.map (es.push ⟨K.val x,z,clock⟩) (clock+1))).heap[b]?=some (.map (es.push ⟨K.val x,z,clock⟩) (clock+1)):=ChangeMaps.heap_setBlock_same hb _;have hi:(es.push ⟨K.val x,z,clock⟩).findIdx? (fun y=>((y.born:Nat):Int)==((clock:Nat):Int))=some es.size:=by
    rw[findIdx_arr];refine findIdx_born (e0:=⟨K.val x,z,clock⟩) ?_ (by simp);rw[Array.toList_push,List.map_append];refine List.nodup_append.2 ⟨s2,by simp,fun a ha c hc' hac=>?_⟩;simp at hc';obtain⟨y,hy,rfl⟩:=List.mem_map.1 ha;have:=s1 y hy;omega
   have hmd:(es.push ⟨K.val x,z,clock⟩).modify es.size (fun y=>{y with val:=v})=es.push ⟨K.val x,v,clock⟩:=by
    apply Array.ext';rw[Array.toList_modify,Array.toList_push,Array.toList_push,←Array.length_toList,modify_last]
   rw[hw,run_store_entry t v hb1 hi,setBlock_twice,hmd]
 ·have hj:es[j]?=some e0:=by simpa using q2
  have hself:es.modify j (fun y=>{y with key:=K.val x})=es:=by
   apply Array.ext';rw[Array.toList_modify,ChangeMaps.modify_eq_set _ _ _ _ q2,show ({e0 with key:=K.val x}:MapEntry)=e0 by rw[←q3]];exact set_self _ _ _ q2
  refine⟨e0.val,e0.born,ChangeMaps.setBlock w b (.map es clock),w',?_,?_,ho,hc,chg_setBlock⟩
  ·simp[Instr.mapEntry,run_underlying ht,MapKept.run_getObj_map hb,L.check w false hkey,q1,hj,q3,L.stays w hkey,hself,MapKept.run_setObj_map _ hb,Result.andThen,ChangeMaps.setBlock,goInt]
  ·have hw:w'=ChangeMaps.setBlock w b (.map (es.modify j (fun y=>{y with key:=K.val x,val:=v})) clock):=by
    have:(Instr.mapUpdate t (.map (some b)) (K.val x) v).run P w=.ok () (ChangeMaps.setBlock w b (.map (es.modify j (fun y=>{y with key:=K.val x,val:=v})) clock)):=by
     simp[Instr.mapUpdate,run_underlying ht,MapKept.run_getObj_map hb,L.check w false hkey,q1,hj,q3,L.stays w hkey,MapKept.run_setObj_map _ hb,Result.andThen,ChangeMaps.setBlock]
    rw[hu]at this;injection this
   have hb1:(ChangeMaps.setBlock w b (.map es clock)).heap[b]?=some (.map es clock):=ChangeMaps.heap_setBlock_same hb _;have hi:es.findIdx? (fun y=>((y.born:Nat):Int)==((e0.born:Nat):Int))=some j:=by
    rw[findIdx_arr];exact findIdx_born s2 q2
   have hmd:es.modify j (fun y=>{y with val:=v})=es.modify j (fun y=>{y with key:=K.val x,val:=v}):=by
    apply Array.ext';rw[Array.toList_modify,Array.toList_modify,ChangeMaps.modify_eq_set _ _ _ _ q2,ChangeMaps.modify_eq_set _ _ _ _ q2,←q3]
   rw[hw,run_store_entry t v hb1 hi,setBlock_twice,hmd]
end
end Go.Proofs.YtgbndaiifbogmaaGreat
namespace Go.Proofs.YtgbndaiifbogmaaGreat
open Go.RowKit
theorem and63 {k:Nat} (hk:k<64):bits .and .u64 (k:Int) 63=(k:Int):=by
 unfold bits;show IntKind.u64.wrap ((BitVec.ofInt 64 (k:Int) &&& BitVec.ofInt 64 63).toNat:Int)=(k:Int);have h1:(BitVec.ofInt 64 (k:Int))=BitVec.ofNat 64 k:=by simp
 have h2:(BitVec.ofInt 64 63)=BitVec.ofNat 64 63:=by decide
 rw[h1,h2,BitVec.toNat_and,BitVec.toNat_ofNat,BitVec.toNat_ofNat,Nat.mod_eq_of_lt (by omega:k<2 ^ 64),Nat.mod_eq_of_lt (by omega:63<2 ^ 64),show (63:Nat)=2 ^ 6-1 by rfl,Nat.and_two_pow_sub_one_eq_mod,Nat.mod_eq_of_lt (by omega)];exact wrap_nat (by omega)
theorem rotl_any (x:Int) (k:Nat) (hk:k<64) (w:World):Calls Tryz.prog 333 #[.int .u64 x,.int .i64 k] w fun e w'=>e=.returned (.int .u64 (rotS x k))∧w=w':=by
 have hA:=and63 hk;have hw:=wrap_nat (x:=k) (by omega);have hw2:IntKind.u64.wrap (64-(k:Int))=((64-k:Nat):Int):=by rw[←wrap_nat (x:=64-k) (by omega)];congr 1;omega
 have h1:min k 64=k:=by omega
 have h2:min (64-k) 64=64-k:=by omega
 have hs1:(k:Int).toNat=k:=by simp
 go_enter Tryz.func333,Tryz.ntmps333
 go_wp2_with fail;go_ret
 exact⟨rfl,rfl⟩
def arrQ (v:W4):Array Value:=#[.int .u64 v.a,.int .u64 v.b,.int .u64 v.c,.int .u64 v.d]
def getQ (v:W4):Nat→Int
 |0=>v.a
 |1=>v.b
 |2=>v.c
 |_=>v.d
def setQ (v:W4):Nat→Int→W4
 |0,x=>{v with a:=x}
 |1,x=>{v with b:=x}
 |2,x=>{v with c:=x}
 |_,x=>{v with d:=x}
theorem arrQ_at (v:W4) {i:Nat} (h:i<4):(arrQ v)[i]?=some (.int .u64 (getQ v i)):=by
 have:i=0∨i=1∨i=2∨i=3:=by omega
 rcases this with rfl|rfl|rfl|rfl<;>rfl
theorem arrQ_set (v:W4) {i:Nat} (h:i<4) (x:Int):(arrQ v).setIfInBounds i (.int .u64 x)=arrQ (setQ v i x):=by
 have:i=0∨i=1∨i=2∨i=3:=by omega
 rcases this with rfl|rfl|rfl|rfl<;>rfl
theorem blk_setQ {w:World} {g:Nat} {ty:TypeId} {v:W4} (h:Blk w g ty (arrQ v)) {i:Nat} (hi:i<4) (x:Int):Blk (w.setCell ⟨g,i,none⟩ (.int .u64 x)) g ty (arrQ (setQ v i x)):=by
 have:=h.set_ i (.int .u64 x)
 rwa [arrQ_set v hi]at this
def halfQ (v:W4) (ti from_:Nat) (by_:Nat):W4:=
 let u:=setQ v ti (addS (getQ v ti) (getQ v from_))
 setQ u from_ (xorS (rotS (getQ u from_) by_) (getQ u ti))
theorem half_any {w:World} {g:Nat} {v:W4} (h:Blk w g 373 (arrQ v)) (ti from_ by_:Nat) (ht:ti<4) (hf:from_<4) (hb:by_<64) :
  Calls Tryz.prog 320 #[.pointer (some ⟨g,0,none⟩),.int .i64 ti,.int .i64 from_,.int .i64 by_] w fun e w'=>e=.returned (.tuple #[])∧Blk w' g 373 (arrQ (halfQ v ti from_ by_))∧Chg [g] w w':=by
 have c1:w.cell? ⟨g,ti,none⟩=some (.int .u64 (getQ v ti)):=by rw[h.cell,arrQ_at v ht]
 have c2:w.cell? ⟨g,from_,none⟩=some (.int .u64 (getQ v from_)):=by rw[h.cell,arrQ_at v hf]
 have f1:=h.frozen ti;go_enter Tryz.func320,Tryz.ntmps320
 have hti:(ti:Int)<4:=by omega
 have hfi:(from_:Int)<4:=by omega
 go_upto_region 0 with fail
 go_region
 have hB1:Blk (w.setCell ⟨g,ti,none⟩ (.int .u64 (IntKind.u64.wrap (getQ v ti+getQ v from_)))).drew g 373 (arrQ (setQ v ti (addS (getQ v ti) (getQ v from_)))):=(blk_setQ h ht _).drew
 have hC1:Chg [g] w (w.setCell ⟨g,ti,none⟩ (.int .u64 (IntKind.u64.wrap (getQ v ti+getQ v from_)))).drew:=((Chg.refl [g] w).setCell (p:=⟨g,ti,none⟩) (.inl (by simp)) _).drew;generalize (w.setCell ⟨g,ti,none⟩ (.int .u64 (IntKind.u64.wrap (getQ v ti+getQ v from_)))).drew=w1 at *;clear c1 c2 f1
 generalize hu:setQ v ti (addS (getQ v ti) (getQ v from_))=u at *;have HQ:Hid (halfQ v ti from_ by_=setQ u from_ (xorS (rotS (getQ u from_) by_) (getQ u ti))):=zH (by subst hu;rfl);clear hu;have c1:w1.cell? ⟨g,ti,none⟩=some (.int .u64 (getQ u ti)):=by rw[hB1.cell,arrQ_at u ht]
 have c2:w1.cell? ⟨g,from_,none⟩=some (.int .u64 (getQ u from_)):=by rw[hB1.cell,arrQ_at u hf]
 have f1:=hB1.frozen from_;have HR:=zH (fun W=>rotl_any (getQ u from_) by_ hb W);go_wp2_with fail;go_region_with (refine (HR.out _).mono ?_;rintro e w' ⟨rfl,rfl⟩)
 all_goals go_wp2_with fail
 all_goals
  go_end0
  rw[HQ.out];exact⟨rfl,(blk_setQ hB1 hf _).drew,hC1.trans ((Chg.refl [g] w1).setCell (p:=⟨g,from_,none⟩) (.inl (by simp)) _).drew⟩
theorem kturn_any {w:World} {g:Nat} {v:W4} (h:Blk w g 373 (arrQ v)) (i:Nat) (hi:i<4) :
  Calls Tryz.prog 321 #[.pointer (some ⟨g,0,none⟩),.int .i64 i] w fun e w'=>e=.returned (.tuple #[])∧Blk w' g 373 (arrQ (setQ v i (rotS (getQ v i) 32)))∧Chg [g] w w':=by
 have c1:w.cell? ⟨g,i,none⟩=some (.int .u64 (getQ v i)):=by rw[h.cell,arrQ_at v hi]
 have f1:=h.frozen i;have hii:(i:Int)<4:=by omega
 have HR:=zH (fun W=>rotl_any (getQ v i) 32 (by omega) W);go_enter Tryz.func321,Tryz.ntmps321
 go_upto_region 0 with fail
 go_region_with (refine (HR.out _).mono ?_;rintro e w' ⟨rfl,rfl⟩)
 all_goals
  go_wp2_with fail;go_end0
  exact⟨rfl,(blk_setQ h hi _).drew,((Chg.refl [g] w).setCell (p:=⟨g,i,none⟩) (.inl (by simp)) _).drew⟩
theorem round_eq (v:W4):setQ (halfQ (halfQ (halfQ (setQ (halfQ v 0 1 13) 0 (rotS (getQ (halfQ v 0 1 13) 0) 32)) 2 3 16) 0 3 21) 2 1 17) 2 (rotS (getQ (halfQ (halfQ (halfQ (setQ (halfQ v 0 1 13) 0 (rotS (getQ (halfQ v 0 1 13) 0) 32)) 2 3 16) 0 3 21) 2 1 17) 2) 32)=roundW v:=rfl
theorem rounds_any {w:World} {g:Nat} {v:W4} (h:Blk w g 373 (arrQ v)) (n:Nat) (hn:n<100) :
  Calls Tryz.prog 298 #[.pointer (some ⟨g,0,none⟩),.int .i64 n] w fun e w'=>e=.returned (.tuple #[])∧Blk w' g 373 (arrQ (roundsW n v))∧Chg [g] w w':=by
 have HB:=zH h;clear h;go_enter Tryz.func298,Tryz.ntmps298
 go_wp2_with fail;go_loopw [5] (fun iv wr=>∃k:Nat,k≤n∧iv=.int .i64 k∧Hid (Blk wr g 373 (arrQ (roundsW k v)))∧Hid (Chg [g] w wr)) (fun iv _=>n-(intOf iv).toNat)
 case atStart=>exact⟨0,by omega,rfl,HB,zH (Chg.refl _ _)⟩
 case round=>
  obtain⟨k,hk,rfl,HBr,HCr⟩:=hrel;by_cases hlt:k<n
  ·have HE:=zH (round_eq (roundsW k v));have HS:=zH (roundsW_succ k v);have hcn:(k:Int)<(n:Int):=by omega
   generalize roundsW k v=u at *;have F1:=zH (half_any HBr.out 0 1 13 (by omega) (by omega) (by omega));go_wp2_with fail;refine F1.out.mono ?_;rintro e w1 ⟨rfl,hB1,hC1⟩;clear F1;have F2:=zH (kturn_any hB1 0 (by omega));generalize halfQ u 0 1 13=u1 at *;clear hB1;go_wp2_with fail
   refine F2.out.mono ?_;rintro e w2 ⟨rfl,hB2,hC2⟩;clear F2;generalize setQ u1 0 (rotS (getQ u1 0) 32)=u2 at *;have F3:=zH (half_any hB2 2 3 16 (by omega) (by omega) (by omega));clear hB2;go_wp2_with fail;refine F3.out.mono ?_;rintro e w3 ⟨rfl,hB3,hC3⟩;clear F3;generalize halfQ u2 2 3 16=u3 at *
   have F4:=zH (half_any hB3 0 3 21 (by omega) (by omega) (by omega));clear hB3;go_wp2_with fail;refine F4.out.mono ?_;rintro e w4 ⟨rfl,hB4,hC4⟩;clear F4;generalize halfQ u3 0 3 21=u4 at *;have F5:=zH (half_any hB4 2 1 17 (by omega) (by omega) (by omega));clear hB4;go_wp2_with fail
   refine F5.out.mono ?_;rintro e w5 ⟨rfl,hB5,hC5⟩;clear F5;generalize halfQ u4 2 1 17=u5 at *;have F6:=zH (kturn_any hB5 2 (by omega));clear hB5;go_wp2_with fail;refine F6.out.mono ?_;rintro e w6 ⟨rfl,hB6,hC6⟩;clear F6
   have HBn:Hid (Blk w6 g 373 (arrQ (roundsW (k+1) v))):=zH (by rw[HS.out,←HE.out];exact hB6);have HCn:=zH (((((HCr.out.trans hC1).trans hC2).trans hC3).trans hC4).trans hC5 |>.trans hC6);clear hB6 hC1 hC2 hC3 hC4 hC5 hC6 HE HS HBr HCr;go_wp2_with fail;go_roundw
   case rel=>exact⟨k+1,by omega,by go_num,HBn,HCn⟩
   case measure=>simp[intOf];omega
  ·obtain rfl:k=n:=by omega
   go_wp2_with fail;go_end0
   exact⟨rfl,HBr.out,HCr.out⟩
end Go.Proofs.YtgbndaiifbogmaaGreat
namespace Go.Proofs.YtgbndaiifbogmaaGreat
open Go.RowKit Go.Maps Go.Sort
def lexI:List Int→List Int→Bool
 |a::l,b::m=>if a=b then lexI l m else decide (a<b)
 |_,_=>false
def lessA (A B:Ad):Bool:=lexI A.l B.l
end Go.Proofs.YtgbndaiifbogmaaGreat

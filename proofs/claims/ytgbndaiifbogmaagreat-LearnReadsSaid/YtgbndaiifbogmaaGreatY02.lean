/-
  Small laws and walks on the way to LearnReads: Due, Inv, RowS, KeyVf, Flow, DueH. Conditions: each theorem names its own.
-/
import Derived.Test.YtgbndaiifbogmaaGreatY00
import Derived.Test.YtgbndaiifbogmaaGreatY01
import Derived.StillTailTactics
set_option linter.unusedVariables false
set_option linter.unusedSimpArgs false
set_option maxRecDepth 100000
set_option maxHeartbeats 8000000
namespace Go.Proofs.YtgbndaiifbogmaaGreat
open Go.RowKit
structure It where
 at_:Int
 id:Int
 seq:Int
deriving DecidableEq,Inhabited
@[reducible] def arrI (x:It):Array Value:=#[.int .i64 x.at_,.int .i64 x.id,.int .i64 x.seq]
@[reducible] def It.v (x:It):Value:=.agg #[.int .i64 x.at_,.int .i64 x.id,.int .i64 x.seq]
def encI (x:It):List Value:=[.int .i64 x.at_,.int .i64 x.id,.int .i64 x.seq]
theorem encI_len (x:It):(encI x).length=3:=rfl
theorem encI_one (x:It):∀u∈encI x,u.oneCell'=true:=by intro u hu;simp[encI]at hu;rcases hu with rfl|rfl|rfl<;>rfl
theorem elI:El Tryz.prog 271 299 (.agg #[.int .i64 0,.int .i64 0,.int .i64 0]) 3 24:=⟨Tryz.underlying271,by kernel_rfl,rfl,by omega⟩
theorem infI {x:It}:(Tryz.prog.info? 299).map (·.size)=some (arrI x).size:=by
 show _=some 3;kernel_rfl
abbrev RowI (w:World) (g c:Nat) (l:List It):Prop:=RowB encI 3 w g 299 c l
def ltI (x y:It):Bool:=if x.at_=y.at_ then (if x.id=y.id then decide (x.seq<y.seq) else decide (x.id<y.id)) else decide (x.at_<y.at_)
theorem ltI_lt:Heap.Lt ltI:=by
 constructor
 ·intro a b h;unfold ltI at *;split at h<;>(try split at h)<;>simp at h<;>(split<;>(try split)<;>simp<;>omega)
 ·intro a b c h h';unfold ltI at *;split at h<;>(try split at h)<;>simp at h<;>(split at h'<;>(try split at h')<;>simp at h'<;>(split<;>(try split)<;>simp<;>omega))
theorem iless_any (x y:It) (w:World):Calls Tryz.prog 386 #[x.v,y.v] w fun e w'=>e=.returned (.bool (ltI x y))∧Chg [] w w':=by
 obtain⟨a1,b1,c1⟩:=x;obtain⟨a2,b2,c2⟩:=y;have hA:=((Chg.refl [] w).alloc (.cells #[.int .i64 a1,.int .i64 b1,.int .i64 c1] 299)).alloc (.cells #[.int .i64 a2,.int .i64 b2,.int .i64 c2] 299);have HA:=zH hA;clear hA;by_cases h1:a1=a2
 ·by_cases h2:b1=b2
  ·have hv:Hid (ltI ⟨a1,b1,c1⟩ ⟨a2,b2,c2⟩=decide (c1<c2)):=zH (by simp[ltI,h1,h2]);have e1:(a1 !=a2)=false:=by simp[h1]
   have e2:(b1 !=b2)=false:=by simp[h2]
   clear h1 h2;go_enter Tryz.func386,Tryz.ntmps386
   go_wp2
   go_ret
   rw[hv.out];exact⟨rfl,HA.out⟩
  ·have hv:Hid (ltI ⟨a1,b1,c1⟩ ⟨a2,b2,c2⟩=decide (b1<b2)):=zH (by simp[ltI,h1,h2]);have e1:(a1 !=a2)=false:=by simp[h1]
   have e2:(b1 !=b2)=true:=by simp[h2]
   clear h1 h2;go_enter Tryz.func386,Tryz.ntmps386
   go_wp2
   go_ret
   rw[hv.out];exact⟨rfl,HA.out⟩
 ·have hv:Hid (ltI ⟨a1,b1,c1⟩ ⟨a2,b2,c2⟩=decide (a1<a2)):=zH (by simp[ltI,h1]);have e1:(a1 !=a2)=true:=by simp[h1]
  clear h1;go_enter Tryz.func386,Tryz.ntmps386
  go_wp2
  go_ret
  rw[hv.out];exact⟨rfl,HA.out⟩
theorem RowB.range {w:World} {g c:Nat} {l:List It} (h:RowI w g c l) {i:Nat} {x:It} (hx:l[i]?=some x):w.rangeAt g (i*3) (arrI x).toList:=fun j v hv=>(h.at_ encI_len hx (j:=j) hv).1
theorem iLess_any {w:World} {g c cap n i k:Nat} {l:List It} {x y:It} (h:RowI w g c l) (hn:l.length=n) (hx:l[i]?=some x) (hy:l[k]?=some y) :
  Calls Tryz.prog 384 #[.slice (some ⟨g,0,none⟩) n cap,.int .i64 i,.int .i64 k] w fun e w'=>e=.returned (.bool (ltI x y))∧Chg [] w w':=by
 have hi:i<n:=by have:=(List.getElem?_eq_some_iff.1 hx).1;omega
 have hk:k<n:=by have:=(List.getElem?_eq_some_iff.1 hy).1;omega
 have H1:=zH (fun W (hc:Chg [] w W)=>(h.chg hc (by simp)).range hx);have H2:=zH (fun W (hc:Chg [] w W)=>(h.chg hc (by simp)).range hy);have H3:=zH (fun W (hc:Chg [] w W)=>(iless_any x y W).mono fun e w' h=>And.intro h.1 (hc.trans h.2));have hi0:(0:Int)≤(i:Int):=by omega
 have hk0:(0:Int)≤(k:Int):=by omega
 have hiI:(i:Int)<(n:Int):=by omega
 have hkI:(k:Int)<(n:Int):=by omega
 clear h hx hy hn;generalize ltI x y=r at *;go_enter Tryz.func384,Tryz.ntmps384
 go_wp2_with fail;refine wp_region_chg (by kernel_rfl) (by kernel_rfl) ?_
 repeat (first
  |((with_reducible refine wpQuiet_rowC 299 (.tmp 9) ?_ ?_ g _ ?_ (arrI x) _ H1.out Tryz.underlying299 ?_ infI ?_);(focus rfl);(focus rfl);(focus rfl);(focus rfl);(try simp only[zP]))
  |((with_reducible refine wpQuiet_rowC 299 (.tmp 13) ?_ ?_ g _ ?_ (arrI y) _ H2.out Tryz.underlying299 ?_ infI ?_);(focus rfl);(focus rfl);(focus rfl);(focus rfl);(try simp only[zP]))
  |((with_reducible refine wpQuiet_pure (v:=?_) ?_ (fun w=>?_) ?_);rotate_left;(focus rfl);(focus (go_simp<;>with_reducible rfl));(try simp only[zP]))
  |((with_reducible refine wpQuiet_do ?_ (fun K hK=>?_));(focus rfl);go_simp;(apply Exists.intro);(refine⟨fun W hW=>?_,hK _ ?_⟩);(first|exact H3.out W hW);(clear hK K);(try simp only[zP])))
 refine wpQuiet_nil ?_;intro w7 hc7;go_wp2_with fail;go_ret
 exact⟨rfl,hc7⟩
theorem iLen_any (g n cap:Nat) (w:World):Calls Tryz.prog 383 #[.slice (some ⟨g,0,none⟩) n cap] w fun e w'=>e=.returned (.int .i64 n)∧w=w':=by
 go_enter Tryz.func383,Tryz.ntmps383
 go_wp2
 go_ret
 exact⟨rfl,rfl⟩
def AnyW (_:World):Prop:=True
theorem step_load_row {P:Program} {ops:Array Oper} {op:Oper} {a:Act} {w:World} {K:Act→World→Prop} {Q:Exit→Act→World→Prop} {E:Prop} (hgd:op.guard=none) (ty:TypeId) (x:Operand) (ho:op.op=.load ty x) (b off:Nat) (hx:a.eval x=.pointer (some ⟨b,off,none⟩)) (cs:Array Value) (d:TypeDesc)
  (hS:w.rangeAt b off cs.toList) (hu:P.underlying ty=some d) (hd:d.isRow=true) (hi:(P.info? ty).map (·.size)=some cs.size) (h:K (a.put op.dst (.agg cs)) w):if Region.wanted op (yielded ops a.tmps)=true then Oper.wp P op a w K Q else E:=by
 rw[if_pos (by simp[Region.wanted,hgd])];exact wp_load_mid ty x ho b off hx cs.toList d hS hu hd (by simpa using hi) (by simpa using h)
theorem step_store_row {P:Program} {ops:Array Oper} {op:Oper} {a:Act} {w:World} {K:Act→World→Prop} {Q:Exit→Act→World→Prop} {E:Prop} {α:Type} {enc:α→List Value} {s g c:Nat} {e:TypeId} {l:List α} (he:∀x,(enc x).length=s) (hgd:op.guard=none) (ty:TypeId) (x y:Operand) (ho:op.op=.store ty x y)
  (hb:RowB enc s w g e c l) {i:Nat} (hi:i<l.length) (hsz:l.length*s≤c) (u:α) (hx:a.eval x=.pointer (some ⟨g,i*s,none⟩)) (hy:a.eval y=.agg (enc u).toArray) (hin:(P.info? ty).map (·.size)=some s) (h1:∀v∈enc u,v.oneCell'=true)
  (h:∀w',RowB enc s w' g e c (l.set i u)→Chg [g] w w'→K (a.put op.dst undef) w'):if Region.wanted op (yielded ops a.tmps)=true then Oper.wp P op a w K Q else E:=by
 rw[if_pos (by simp[Region.wanted,hgd])];have hp:=hb.put he u hi hsz;obtain⟨cs,hk,hc,ht⟩:=hb;have his:i*s+s≤c:=by
  have:=Nat.mul_le_mul_right s (show i+1≤l.length from hi);rw[Nat.add_mul,Nat.one_mul]at this;omega
 refine wp_store_mid ty x y ho g (i*s) (enc u).toArray hx hy (fun j hj=>?_) (by simpa[he]using hin) (by simpa using h1) ?_
 ·rw[hk.cell,hk.frozen];have hj':j<s:=by simpa[he]using hj
  exact⟨by rw[Array.getElem?_eq_getElem (show i*s+j<cs.size by omega)];rfl,rfl⟩
 ·exact h _ hp (Chg.setCells _ _)
theorem iSwap_any {w:World} {g c cap n i k:Nat} {l:List It} {x y:It} (h:RowI w g c l) (hn:l.length=n) (hcap:n*3≤c) (hx:l[i]?=some x) (hy:l[k]?=some y) :
  Calls Tryz.prog 385 #[.slice (some ⟨g,0,none⟩) n cap,.int .i64 i,.int .i64 k] w fun e w'=>e=.returned (.tuple #[])∧RowI w' g c (Heap.swap l i k x y)∧Chg [g] w w':=by
 have hi:i<n:=by have:=(List.getElem?_eq_some_iff.1 hx).1;omega
 have hk:k<n:=by have:=(List.getElem?_eq_some_iff.1 hy).1;omega
 have R:=zH (h.chg (Chg.refl [] w).drew (by simp));have H1:=zH (R.out.range hx);have H2:=zH (R.out.range hy);have hi0:(0:Int)≤(i:Int):=by omega
 have hk0:(0:Int)≤(k:Int):=by omega
 have hiI:(i:Int)<(n:Int):=by omega
 have hkI:(k:Int)<(n:Int):=by omega
 have HSW:Hid (Heap.swap l i k x y=(l.set i y).set k x):=zH rfl;have hin:Hid ((Tryz.prog.info? 299).map (·.size)=some 3):=zH (by kernel_rfl);clear h hx hy;go_enter Tryz.func385,Tryz.ntmps385
 go_wp2_with fail;have hil:i<l.length:=by omega
 have hkl:k<(l.set i y).length:=by rw[List.length_set];omega
 have hsz:l.length*3≤c:=by omega
 have hsz2:(l.set i y).length*3≤c:=by rw[List.length_set];omega
 have R0:=R.out;have HZ:=zH (Chg.refl [g] w).drew;have hA:AnyW w.drew:=trivial;clear R hn hi hk;refine wp_region_noPanic ?_;refine wp_region_held_drew (S:=AnyW) (by kernel_rfl) hA (fun _=>?_);refine zU 0 rfl (by go_simp<;>with_reducible rfl) ?_
 try simp only[zP]
 refine zU 1 rfl (by go_simp<;>with_reducible rfl) ?_
 try simp only[zP]
 refine zU 2 rfl (by go_simp<;>with_reducible rfl) ?_
 try simp only[zP]
 refine zU 3 rfl (by go_simp<;>with_reducible rfl) ?_
 try simp only[zP]
 refine zU 4 rfl (by go_simp<;>with_reducible rfl) ?_
 try simp only[zP]
 refine zU 5 rfl (by go_simp<;>with_reducible rfl) ?_
 try simp only[zP]
 refine zU 6 rfl (by go_simp<;>with_reducible rfl) ?_
 try simp only[zP]
 refine zU 8 rfl (by go_simp<;>with_reducible rfl) ?_
 try simp only[zP]
 refine zU 9 rfl (by go_simp<;>with_reducible rfl) ?_
 try simp only[zP]
 refine zU 10 rfl (by go_simp<;>with_reducible rfl) ?_
 try simp only[zP]
 refine wpAnyH_ready (rs:=[7,11]) (by kernel_rfl) (by simp) (AllReadyH.cons rfl (fun K hK=>?_) (AllReadyH.cons rfl (fun K hK=>?_) AllReadyH.nil))
 ·refine step_load_row rfl 299 (.tmp 12) rfl g (k*3) rfl (arrI y) _ H2.out Tryz.underlying299 rfl infI ?_;refine zB hK ?_;clear hK K
  try simp only[zP]
  refine zR 11 rfl (fun K hK=>?_);refine step_load_row rfl 299 (.tmp 16) rfl g (i*3) rfl (arrI x) _ H1.out Tryz.underlying299 rfl infI ?_;refine zB hK ?_;clear hK K
  try simp only[zP]
  refine zU 12 rfl (by go_simp<;>with_reducible rfl) ?_
  try simp only[zP]
  refine zR 13 rfl (fun K hK=>?_);refine step_store_row encI_len rfl 299 (.tmp 18) (.tmp 13) rfl R0 hil hsz y rfl rfl hin.out (encI_one y) ?_;intro w3 R3 hc3;have hA3:AnyW w3:=trivial;refine zB hK ?_;clear hK K
  try simp only[zP]
  refine zU 14 rfl (by go_simp<;>with_reducible rfl) ?_
  try simp only[zP]
  refine zR 15 rfl (fun K hK=>?_);refine step_store_row encI_len rfl 299 (.tmp 19) (.tmp 17) rfl R3 hkl hsz2 x rfl rfl hin.out (encI_one x) ?_;intro w4 R4 hc4;have hA4:AnyW w4:=trivial;refine zB hK ?_;clear hK K
  try simp only[zP]
  refine wpAnyH_done (by kernel_rfl) ?_ _;refine NoPanic.normal ?_;go_end0
  rw[HSW.out];exact⟨rfl,R4,HZ.out.trans (hc3.trans hc4)⟩
 ·refine step_load_row rfl 299 (.tmp 16) rfl g (i*3) rfl (arrI x) _ H1.out Tryz.underlying299 rfl infI ?_;refine zB hK ?_;clear hK K
  try simp only[zP]
  refine zR 7 rfl (fun K hK=>?_);refine step_load_row rfl 299 (.tmp 12) rfl g (k*3) rfl (arrI y) _ H2.out Tryz.underlying299 rfl infI ?_;refine zB hK ?_;clear hK K
  try simp only[zP]
  refine zU 12 rfl (by go_simp<;>with_reducible rfl) ?_
  try simp only[zP]
  refine zR 13 rfl (fun K hK=>?_);refine step_store_row encI_len rfl 299 (.tmp 18) (.tmp 13) rfl R0 hil hsz y rfl rfl hin.out (encI_one y) ?_;intro w3 R3 hc3;have hA3:AnyW w3:=trivial;refine zB hK ?_;clear hK K
  try simp only[zP]
  refine zU 14 rfl (by go_simp<;>with_reducible rfl) ?_
  try simp only[zP]
  refine zR 15 rfl (fun K hK=>?_);refine step_store_row encI_len rfl 299 (.tmp 19) (.tmp 17) rfl R3 hkl hsz2 x rfl rfl hin.out (encI_one x) ?_;intro w4 R4 hc4;have hA4:AnyW w4:=trivial;refine zB hK ?_;clear hK K
  try simp only[zP]
  refine wpAnyH_done (by kernel_rfl) ?_ _;refine NoPanic.normal ?_;go_end0
  rw[HSW.out];exact⟨rfl,R4,HZ.out.trans (hc3.trans hc4)⟩
end Go.Proofs.YtgbndaiifbogmaaGreat
namespace Go.Proofs.YtgbndaiifbogmaaGreat
open Go.RowKit
def selOf (P:Program) (t:TypeId) (name:String):Option (Nat×Option (FuncId×Bool)):=((P.info? t).bind fun i=>i.methods.find? (·.name==name)).map fun m=>(m.path.size,m.func)
section
variable {P:Program} {t e:TypeId} {name:String} {f:FuncId} {N:Nat}
theorem sel_parts {b:Bool} (h:selOf P t name=some (0,some (f,b))):∃i m,P.info? t=some i∧i.methods.find? (·.name==name)=some m∧m.path=#[]∧m.func=some (f,b):=by
 unfold selOf at h;cases hi:P.info? t with
 |none=>rw[hi]at h;simp at h
 |some i=>
  rw[hi]at h;cases hm:i.methods.find? (·.name==name) with
  |none=>simp[hm]at h
  |some m=>
   simp[hm]at h;exact⟨i,m,rfl,hm,h.1,h.2⟩
theorem run_method_ptr (h:selOf P t name=some (0,some (f,true))) (ht:P.underlying t=some (.pointer e)) (v:Value) (w:World):(method (N+1) t v name).run P w=.ok (f,v) w:=by
 obtain⟨i,m,hi,hm,hp,hf⟩:=sel_parts h;simp[method,typeInfo,hi,hm,hp,hf,follow,receiverAt,run_underlying ht,Place.get,Result.andThen]
theorem run_wrap (ts:Array TypeId) (ty:TypeId) (a:Addr) (x y:String) (w:World):(Builtin.ssaWrapNilChk_ ts ty #[.pointer (some a),strVal x,strVal y]).run P w=.ok (.pointer (some a)) w:=rfl
theorem run_method_val (h:selOf P t name=some (0,some (f,false))) (ht:P.underlying t=some (.pointer e)) {d:TypeDesc} (he:P.underlying e=some d) (hd:d.isRow=false) {w:World} {b o:Nat} {v:Value} (hc:w.cell? ⟨b,o,none⟩=some v) :
  (method (N+1) t (.pointer (some ⟨b,o,none⟩)) name).run P w=.ok (f,v) w:=by
 obtain⟨i,m,hi,hm,hp,hf⟩:=sel_parts h;simp[method,typeInfo,hi,hm,hp,hf,follow,receiverAt,run_underlying ht,Place.get,Result.andThen,run_wrap,asAddr,run_loadVar_one w ⟨b,o,none⟩ e d v hc he hd]
theorem run_assert {d:TypeDesc} (ht:P.underlying t=some d) (hd:(match d with | .interface _=>false|_=>true)=true) (v:Value) (i:TypeId) (w:World):(Instr.typeAssert (.iface t v) i t false).run P w=.ok v w:=by
 cases d<;>simp_all[Instr.typeAssert,run_underlying ht,Result.andThen]
end
end Go.Proofs.YtgbndaiifbogmaaGreat
namespace Go.Proofs.YtgbndaiifbogmaaGreat.Fs
open Go.RowKit
theorem step_load_row {P:Program} {ops:Array Oper} {op:Oper} {a:Act} {w:World} {K:Act→World→Prop} {Q:Exit→Act→World→Prop} {E:Prop} (hgd:op.guard=none) (ty:TypeId) (x:Operand) (ho:op.op=.load ty x) (b off:Nat) (hx:a.eval x=.pointer (some ⟨b,off,none⟩)) (cs:Array Value) (d:TypeDesc)
  (hS:w.rangeAt b off cs.toList) (hu:P.underlying ty=some d) (hd:d.isRow=true) (hi:(P.info? ty).map (·.size)=some cs.size) (h:K (a.put op.dst (.agg cs)) w):if Region.wanted op (yielded ops a.tmps)=true then Oper.wp P op a w K Q else E:=by
 rw[if_pos (by simp[Region.wanted,hgd])];exact wp_load_mid ty x ho b off hx cs.toList d hS hu hd (by simpa using hi) (by simpa using h)
theorem step_store_row {P:Program} {ops:Array Oper} {op:Oper} {a:Act} {w:World} {K:Act→World→Prop} {Q:Exit→Act→World→Prop} {E:Prop} {α:Type} {enc:α→List Value} {s g c:Nat} {e:TypeId} {l:List α} (he:∀x,(enc x).length=s) (hgd:op.guard=none) (ty:TypeId) (x y:Operand) (ho:op.op=.store ty x y)
  (hb:RowB enc s w g e c l) {i:Nat} (hi:i<l.length) (hsz:l.length*s≤c) (u:α) (hx:a.eval x=.pointer (some ⟨g,i*s,none⟩)) (hy:a.eval y=.agg (enc u).toArray) (hin:(P.info? ty).map (·.size)=some s) (h1:∀v∈enc u,v.oneCell'=true)
  (h:∀w',RowB enc s w' g e c (l.set i u)→Chg [g] w w'→K (a.put op.dst undef) w'):if Region.wanted op (yielded ops a.tmps)=true then Oper.wp P op a w K Q else E:=by
 rw[if_pos (by simp[Region.wanted,hgd])];have hp:=hb.put he u hi hsz;obtain⟨cs,hk,hc,ht⟩:=hb;have his:i*s+s≤c:=by
  have:=Nat.mul_le_mul_right s (show i+1≤l.length from hi);rw[Nat.add_mul,Nat.one_mul]at this;omega
 refine wp_store_mid ty x y ho g (i*s) (enc u).toArray hx hy (fun j hj=>?_) (by simpa[he]using hin) (by simpa using h1) ?_
 ·rw[hk.cell,hk.frozen];have hj':j<s:=by simpa[he]using hj
  exact⟨by rw[Array.getElem?_eq_getElem (show i*s+j<cs.size by omega)];rfl,rfl⟩
 ·exact h _ hp (Chg.setCells _ _)
end Go.Proofs.YtgbndaiifbogmaaGreat.Fs
namespace Go.Proofs.YtgbndaiifbogmaaGreat
open Go.RowKit
theorem elY:El Tryz.prog 22 5 (.int .u8 0) 1 1:=⟨Tryz.underlying22,by kernel_rfl,rfl,by omega⟩
def byV (b:Nat):Value:=.int .u8 (b:Int)
def SlY (w:World) (B:Nat) (v:Value) (l:List Nat):Prop:=Sl w B 1 v l.length (l.map byV)
theorem SlY.chg0 {w w':World} {B:Nat} {v:Value} {l:List Nat} (h:SlY w B v l) (hc:Chg [] w w'):SlY w' B v l:=Sl.chg0 h hc
theorem byV_one (l:List Nat):∀u∈l.map byV,u.oneCell'=true:=by
 intro u hu;obtain⟨x,_,rfl⟩:=List.mem_map.1 hu;rfl
theorem take_any {w:World} {g:Nat} {v:W4} (h:Blk w g 373 (arrQ v)) (x:Int) :
  Calls Tryz.prog 296 #[.pointer (some ⟨g,0,none⟩),.int .u64 x] w fun e w'=>e=.returned (.tuple #[])∧Blk w' g 373 (arrQ (takeW v x))∧Chg [g] w w':=by
 have c1:w.cell? ⟨g,3,none⟩=some (.int .u64 v.d):=h.cell 3;have f1:=h.frozen 3;have hB1:Blk (w.setCell ⟨g,3,none⟩ (.int .u64 (xorS v.d x))).drew g 373 (arrQ ⟨v.a,v.b,v.c,xorS v.d x⟩):=(blk_setQ h (by omega) _).drew
 have hC1:Chg [g] w (w.setCell ⟨g,3,none⟩ (.int .u64 (xorS v.d x))).drew:=((Chg.refl [g] w).setCell (p:=⟨g,3,none⟩) (.inl (by simp)) _).drew;have HI:=zH (And.intro hB1 hC1);clear hB1 hC1 h;go_enter Tryz.func296,Tryz.ntmps296
 go_upto_region 0 with fail
 go_region
 obtain⟨hB1,hC1⟩:=HI.out;change Exit.then _ _ _ _ (w.setCell ⟨g,3,none⟩ (.int .u64 (xorS v.d x))).drew
 generalize (w.setCell ⟨g,3,none⟩ (.int .u64 (xorS v.d x))).drew=w1 at *;clear HI c1 f1;have F1:=zH (rounds_any hB1 2 (by omega));generalize hu:roundsW 2 ⟨v.a,v.b,v.c,xorS v.d x⟩=u at *;have HQ:Hid (takeW v x=⟨xorS u.a x,u.b,u.c,u.d⟩):=zH (by subst hu;rfl);clear hu hB1;go_wp2_with fail
 refine F1.out.mono ?_;rintro e w2 ⟨rfl,hB2,hC2⟩;clear F1;have c2:w2.cell? ⟨g,0,none⟩=some (.int .u64 u.a):=hB2.cell 0;have f2:=hB2.frozen 0;have HI:=zH (And.intro hB2 (hC1.trans hC2));clear hB2 hC1 hC2;go_upto_region 2 with fail
 go_region
 go_wp2_with fail;go_end0
 rw[HQ.out];exact⟨rfl,(blk_setQ HI.out.1 (by omega) _).drew,HI.out.2.trans ((Chg.refl [g] w2).setCell (p:=⟨g,0,none⟩) (.inl (by simp)) _).drew⟩
theorem kbegin_any (ka kb:Int) (w:World) :
  Calls Tryz.prog 295 #[.agg #[.int .u64 ka,.int .u64 kb]] w fun e w'=>e=.returned (.agg (arrQ (beginW ka kb)))∧Chg [] w w':=by
 have hA:=((Chg.refl [] w).alloc (.cells #[.int .u64 ka,.int .u64 kb] 323)).alloc (.cells #[.int .u64 0,.int .u64 0,.int .u64 0,.int .u64 0] 373)
 have hB1:Blk ((w.alloc (.cells #[.int .u64 ka,.int .u64 kb] 323)).alloc (.cells #[.int .u64 0,.int .u64 0,.int .u64 0,.int .u64 0] 373)) w.heap.size 323 #[.int .u64 ka,.int .u64 kb]:=(Blk.new _ _ _).alloc _
 have hB2:Blk ((w.alloc (.cells #[.int .u64 ka,.int .u64 kb] 323)).alloc (.cells #[.int .u64 0,.int .u64 0,.int .u64 0,.int .u64 0] 373)) (w.heap.size+1) 373 #[.int .u64 0,.int .u64 0,.int .u64 0,.int .u64 0]:=Blk.new' (by simp);have HI:=zH (And.intro hA (And.intro hB1 hB2));clear hA hB1 hB2
 go_enter Tryz.func295,Tryz.ntmps295
 go_upto_region 1 with fail
 obtain⟨hA,hB1,hB2⟩:=HI.out;generalize (w.alloc (.cells #[.int .u64 ka,.int .u64 kb] 323)).alloc (.cells #[.int .u64 0,.int .u64 0,.int .u64 0,.int .u64 0] 373)=w1 at *;have c0:w1.cell? ⟨w.heap.size,0,none⟩=some (.int .u64 ka):=hB1.cell 0
 have c1:w1.cell? ⟨w.heap.size,1,none⟩=some (.int .u64 kb):=hB1.cell 1;clear hB1 HI;go_wp2_with (first
  |(refine zs rfl 373 _ _ rfl rfl hB2 rfl (vs:=arrQ (beginW ka kb)) rfl rfl (by kernel_rfl) rfl ?_;intro w2 hB3 hc3)
  |fail)
 exact bodyPost_ret (results_blk rfl rfl hB3 _ Tryz.underlying373 rfl (by kernel_rfl)) rfl ⟨rfl,hA.trans' hc3 (by intro y hy;simp at hy;subst hy;exact .inr (by omega))⟩
theorem word_any {w:World} {B:Nat} {v:Value} {l:List Nat} (h:SlY w B v l) (hl:l.length≤8) (hb:∀x∈l,x<256) :
  Calls Tryz.prog 297 #[v] w fun e w'=>e=.returned (.int .u64 (wordS l:Nat))∧w=w':=by
 obtain⟨A,c,rfl⟩:=Sl.form h;have HS:=zH (fun i (hi:i<l.length)=>Sl.at_ h hi (by omega));have HX:Hid (∀i,i<l.length→∃x,l[i]?=some x∧x<256∧orS ((wordS (l.take i):Nat):Int) (IntKind.u64.wrap ((x:Int)*2 ^ (8*i)))=((wordS (l.take (i+1)):Nat):Int)):=zH fun i hi=>by
  refine⟨_,List.getElem?_eq_getElem hi,hb _ (List.getElem_mem hi),?_⟩;rw[List.take_add_one,List.getElem?_eq_getElem hi];show _=((wordS (l.take i ++ [l[i]]):Nat):Int);have hlt:=wordS_lt (l:=l.take i) fun x hx=>hb x (List.mem_of_mem_take hx)
  have e:(l.take i).length=i:=by rw[List.length_take];omega
  rw[wordS_snoc];rw[e]at hlt ⊢;exact orS_add hlt (hb _ (List.getElem_mem hi)) (by omega)
 have HN:Hid (l.take l.length=l):=zH (List.take_length ..);clear h hb;generalize hn:l.length=n at *;go_enter Tryz.func297,Tryz.ntmps297
 go_wp2_with fail;go_loopw [3,7] (fun u iv wr=>∃k:Nat,k≤n∧iv=.int .i64 k∧u=.int .u64 ((wordS (l.take k):Nat):Int)∧wr=w) (fun _ iv _=>n-(intOf iv).toNat)
 case atStart=>exact⟨0,by omega,rfl,rfl,rfl⟩
 case round=>
  obtain⟨k,hk,rfl,rfl,rfl⟩:=hrel;by_cases hlt:k<n
  ·obtain⟨x,hx,hx2,hor⟩:=HX.out k hlt;obtain⟨b,o,c',hv,_,_,hc⟩:=HS.out k hlt;simp only[Value.slice.injEq,true_and]at hv;obtain⟨rfl,rfl⟩:=hv;have c0:=hc 0 (by omega);simp only[Nat.mul_one,Nat.add_zero,List.getElem?_map,hx,Option.map_some,byV]at c0
   have hw8:IntKind.i64.wrap (8*(k:Int))=((8*k:Nat):Int):=by rw[IntKind.wrap_i64];omega
   have hwx:=wrap_nat (x:=x) (by omega);have hmn:min (8*k) 64=8*k:=by omega
   have hkn:((8*k:Nat):Int).toNat=8*k:=Int.toNat_natCast _;have hcn:(k:Int)<(n:Int):=by omega
   have HOR:=zH hor;generalize wordS (l.take k)=p at *;clear HS HX hx hc hor HN;go_wp2_with fail;go_roundw
   case rel=>exact⟨k+1,by omega,by go_num,by rw[←HOR.out];rfl,trivial⟩
   case measure=>simp[intOf];omega
  ·obtain rfl:k=n:=by omega
   clear HS HX;go_wp2_with fail;go_ret
   rw[HN.out];exact⟨rfl,rfl⟩
theorem long_eq {p n:Nat} (hp:p<72057594037927936):orS (p:Int) (IntKind.u64.wrap ((n:Int)*72057594037927936))=((p+n%256*72057594037927936:Nat):Int):=by
 have e:IntKind.u64.wrap ((n:Int)*72057594037927936)=IntKind.u64.wrap (((n%256:Nat):Int)*2 ^ (8*7)):=by
  simp[IntKind.wrap,IntKind.signed,IntKind.bits];omega
 rw[e,orS_add (i:=7) (by simpa using hp) (Nat.mod_lt _ (by omega)) (by omega)];congr 1;rw[Nat.mul_comm]
theorem bytesAt_last {l:List Nat} {k:Nat} (hk:k=l.length/8):bytesAt l k=l.drop (8*k):=by
 unfold bytesAt;rw[List.take_of_length_le];rw[List.length_drop];omega
theorem sum_any {w:World} {B:Nat} {v:Value} {l:List Nat} (h:SlY w B v l) (hl:l.length≤1000000) (hb:∀x∈l,x<256) (ka kb:Int) :
  Calls Tryz.prog 269 #[.agg #[.int .u64 ka,.int .u64 kb],v] w fun e w'=>e=.returned (.int .u64 (sumS ka kb l))∧Chg [] w w':=by
 obtain⟨A,c,rfl⟩:=Sl.form h;have hA:=(Chg.refl [] w).alloc (.cells #[.int .u64 ka,.int .u64 kb] 323);have hB1:Blk (w.alloc (.cells #[.int .u64 ka,.int .u64 kb] 323)) w.heap.size 323 #[.int .u64 ka,.int .u64 kb]:=Blk.new _ _ _;have HI:=zH (And.intro hA (And.intro h hb));have R1:=zH hB1.rangeQ
 have HF:=zH (fun W=>kbegin_any ka kb W);clear hA hB1 h hb;generalize hn:l.length=n at *;go_enter Tryz.func269,Tryz.ntmps269
 go_wp2_with (first
  |(refine wpList_row 323 (.tmp 2) rfl rfl w.heap.size 0 rfl _ _ R1.out Tryz.underlying323 rfl (by kernel_rfl) ?_)
  |fail)
 refine (HF.out _).mono ?_;rintro e w1 ⟨rfl,hc1⟩;have hC1:=HI.out.1.trans hc1;have hA2:=hC1.alloc (.cells #[.int .u64 0,.int .u64 0,.int .u64 0,.int .u64 0] 373)
 have hB2:Blk (w1.alloc (.cells #[.int .u64 0,.int .u64 0,.int .u64 0,.int .u64 0] 373)) w1.heap.size 373 #[.int .u64 0,.int .u64 0,.int .u64 0,.int .u64 0]:=Blk.new _ _ _;have hz1:=hC1.size;have HJ:=zH (And.intro hA2 (And.intro hB2 (And.intro hz1 HI.out.2)));clear hA2 hB2 hz1 hc1 hC1 HI R1 HF
 go_upto_region 2 with (first
  |(refine zs rfl 373 _ _ rfl rfl HJ.out.2.1 rfl (vs:=arrQ (beginW ka kb)) rfl rfl (by kernel_rfl) rfl ?_;intro w2 hB3 hc3)
  |fail)
 have hS3:Chg [] w w2∧w.heap.size≤w1.heap.size:=⟨HJ.out.1.trans' hc3 (by intro y hy;simp at hy;subst hy;exact .inr HJ.out.2.2.1),HJ.out.2.2.1⟩;have HSL:=zH HJ.out.2.2.2;have H2:=zH hS3;have H0:=zH hB3;generalize w1.heap.size=g at *;clear HJ hc3 hS3 hB3;go_wp2_with fail
 go_loopw [1] (fun sv wr=>∃(k m:Nat) (X:Option Addr),8*k+m=n∧sv=.slice X m (c-8*k)∧Hid (SlY w B (.slice X m (c-8*k)) (l.drop (8*k)))∧Hid (Blk wr g 373 (arrQ (stateS ka kb l k)))∧Hid (Chg [] w wr)) (fun sv _=>match sv with | .slice _ m _=>m|_=>0)
 case atStart=>exact⟨0,n,A,by omega,rfl,zH HSL.out.1,zH H0.out,zH H2.out.1⟩
 case round=>
  obtain⟨k,m,X,hkm,rfl,HS,HB,HC⟩:=hrel;have hll:(l.drop (8*k)).length=m:=by rw[List.length_drop];omega
  by_cases hlt:8≤m
  ·have hm8:(8:Int)≤(m:Int):=by omega
   have hk8:k<l.length/8:=by omega
   have hst:=stateS_succ (ka:=ka) (kb:=kb) (wordsS_at hk8);have hb8:∀x∈bytesAt l k,x<256:=fun x hx=>HSL.out.2 x (List.mem_of_mem_drop (List.mem_of_mem_take hx))
   have h8:(bytesAt l k).length=8:=by unfold bytesAt;rw[List.length_take];omega
   have hsl:=HS.out;unfold SlY at hsl;rw[hll]at hsl;obtain⟨q0,q2⟩:=cut_to elY hsl hlt;obtain⟨Y,r0,r2⟩:=cut_from elY hsl hlt;have hcc:c-8*k-8=c-8*(k+1):=by omega
   rw[hcc]at r0;have q1:∀W:World,(Instr.slice 22 (.slice X m (c-8*k)) none (some (.int .i64 8)) none).run Tryz.prog W=.ok (.slice X 8 (c-8*k)) W:=q0;have r1:∀W:World,(Instr.slice 22 (.slice X m (c-8*k)) (some (.int .i64 8)) none none).run Tryz.prog W=.ok (.slice Y (m-8) (c-8*(k+1))) W:=r0
   have hgz:=H2.out.2;clear q0 r0;have q2':∀W,Chg [] w W→SlY W B (.slice X 8 (c-8*k)) (bytesAt l k):=fun W hW=>by
    have:SlY w B (.slice X 8 (c-8*k)) (bytesAt l k):=by
     unfold SlY;rw[h8];rw[Nat.mul_one,←List.map_take]at q2;exact q2
    exact this.chg0 hW
   have r2':SlY w B (.slice Y (m-8) (c-8*(k+1))) (l.drop (8*(k+1))):=by
    unfold SlY;rw[show (l.drop (8*(k+1))).length=m-8 by rw[List.length_drop];omega];rw[Nat.mul_one,←List.map_drop,List.drop_drop,show 8*k+8=8*(k+1) by omega,show c-8*k-8=c-8*(k+1) by omega]at r2;exact r2
   have F1:=zH (fun W hW=>word_any (q2' W hW) (by omega) hb8);have HST:=zH hst;have HR2:=zH r2';clear hsl q2 q2' r2 r2' hb8 h8 hst HS H0 H2;go_wp2_with fail;refine (F1.out _ HC.out).mono ?_;rintro e w3 ⟨rfl,rfl⟩;have F2:=zH (take_any HB.out ((wordS (bytesAt l k):Nat):Int));clear F1
   generalize ((wordS (bytesAt l k):Nat):Int)=x at *;go_wp2_with fail;refine F2.out.mono ?_;rintro e w4 ⟨rfl,hB4,hc4⟩;have HB4:Hid (Blk w4 g 373 (arrQ (stateS ka kb l (k+1)))):=zH (by rw[HST.out];exact hB4)
   have HC4:Hid (Chg [] w w4):=zH (HC.out.trans' hc4 (by intro y hy;simp at hy;subst hy;exact .inr (by omega)));clear F2 hB4 hc4 HST HB HC;go_wp2_with fail;go_roundw
   case rel=>exact⟨k+1,m-8,Y,by omega,rfl,HR2,HB4,HC4⟩
   case measure=>simp;omega
  ·have hm8:¬(8:Int)≤(m:Int):=by omega
   have hk8:k=l.length/8:=by omega
   have hst:=stateS_succ (ka:=ka) (kb:=kb) (wordsS_last l);have hbl:=bytesAt_last hk8;rw[←hk8,hbl]at hst;have hb8:∀x∈l.drop (8*k),x<256:=fun x hx=>HSL.out.2 x (List.mem_of_mem_drop hx)
   have HSA:Hid (endW (stateS ka kb l (k+1))=sumS ka kb l):=zH (by rw[hk8];exact stateS_all ka kb l);have hpl:wordS (l.drop (8*k))<72057594037927936:=by
    have h1:=wordS_lt hb8;rw[hll]at h1;exact Nat.lt_of_lt_of_le h1 (Nat.le_trans (Nat.pow_le_pow_right (n:=2) (by omega) (show 8*m≤56 by omega)) (by omega))
   have hlong:=long_eq (n:=n) hpl;have F1:=zH (fun W (hW:Chg [] w W)=>word_any (HS.out.chg0 hW) (by omega) hb8);have hgz:=H2.out.2;obtain⟨y,hy⟩:∃y:Nat,y=wordS (l.drop (8*k))+n%256*72057594037927936:=⟨_,rfl⟩;rw[hn,←hy]at hst;rw[←hy]at hlong;have HST:=zH hst;clear hy;have HLG:=zH hlong
   clear hb8 hst HS H0 H2 hpl hbl hlong hk8 hll;go_wp2_with fail;refine (F1.out _ HC.out).mono ?_;rintro e w3 ⟨rfl,rfl⟩;clear F1;have F2:=zH (take_any HB.out (y:Int));rw[←HLG.out]at F2;unfold orS at F2;generalize ((wordS (l.drop (8*k)):Nat):Int)=x at *;go_wp2_with fail;refine F2.out.mono ?_
   rintro e w4 ⟨rfl,hB4,hc4⟩;have HC4:Hid (Chg [] w w4):=zH (HC.out.trans' hc4 (by intro y hy;simp at hy;subst hy;exact .inr (by omega)));have hB4':Blk w4 g 373 (arrQ (stateS ka kb l (k+1))):=by
    rw[HST.out,←HLG.out];exact hB4
   clear F2 hB4 hc4 HST HB HC HLG;generalize stateS ka kb l (k+1)=u at *;have c2:w4.cell? ⟨g,2,none⟩=some (.int .u64 u.c):=hB4'.cell 2;have f2:=hB4'.frozen 2
   have HB5:Hid (Blk (w4.setCell ⟨g,2,none⟩ (.int .u64 (bits .xor .u64 u.c 255))) g 373 (arrQ ⟨u.a,u.b,xorS u.c 255,u.d⟩)):=zH (blk_setQ hB4' (by omega) _)
   have HC5:Hid (Chg [] w (w4.setCell ⟨g,2,none⟩ (.int .u64 (bits .xor .u64 u.c 255)))):=zH (HC4.out.trans' ((Chg.refl [g] w4).setCell (p:=⟨g,2,none⟩) (.inl (by simp)) _) (by intro y hy;simp at hy;subst hy;exact .inr (by omega)));clear hB4' HC4;go_upto_region 8 with fail
   generalize w4.setCell ⟨g,2,none⟩ (.int .u64 (bits .xor .u64 u.c 255))=w5 at *;have F3:=zH (rounds_any HB5.out 4 (by omega));clear c2 f2;go_wp2_with fail;refine F3.out.mono ?_;rintro e w6 ⟨rfl,hB6,hc6⟩;generalize hz:roundsW 4 ⟨u.a,u.b,xorS u.c 255,u.d⟩=z at *
   have HE:Hid (endW u=xorS (xorS (xorS z.a z.b) z.c) z.d):=zH (by subst hz;rfl);have c0:w6.cell? ⟨g,0,none⟩=some (.int .u64 z.a):=hB6.cell 0;have c1:w6.cell? ⟨g,1,none⟩=some (.int .u64 z.b):=hB6.cell 1;have c2:w6.cell? ⟨g,2,none⟩=some (.int .u64 z.c):=hB6.cell 2
   have c3:w6.cell? ⟨g,3,none⟩=some (.int .u64 z.d):=hB6.cell 3;have HC6:=zH (HC5.out.trans' hc6 (by intro y hy;simp at hy;subst hy;exact .inr (by omega)));clear F3 hB6 hc6 HB5 HC5 hz;go_wp2_with fail;go_ret
   rw[←HSA.out,HE.out];exact⟨rfl,HC6.out⟩
def fourS (n:Nat):List Nat:=[n/16777216%256,n/65536%256,n/256%256,n%256]
theorem fourS_lt {n:Nat}:∀x∈fourS n,x<256:=by
 intro x hx;simp[fourS]at hx;omega
theorem wrap8 (x:Nat):IntKind.u8.wrap (x:Int)=((x%256:Nat):Int):=by
 simp[IntKind.wrap,IntKind.signed,IntKind.bits]
theorem wrap32_nat (a:Int):IntKind.u32.wrap a=((IntKind.u32.wrap a).toNat:Int):=by
 rw[Int.toNat_of_nonneg];simp[IntKind.wrap,IntKind.signed,IntKind.bits];omega
end Go.Proofs.YtgbndaiifbogmaaGreat
namespace Go.Proofs.YtgbndaiifbogmaaGreat
open Go.RowKit Go.Maps Go.WideMaps Go.WideShapes
structure Fl where
 src:Ad
 sport:Int
 dst:Ad
 dport:Int
deriving DecidableEq,Inhabited
@[reducible] def Fl.v (f:Fl):Value:=.agg #[.int .u8 f.src.a0,.int .u8 f.src.a1,.int .u8 f.src.a2,.int .u8 f.src.a3,.int .u8 f.src.a4,.int .u8 f.src.a5,.int .u8 f.src.a6,.int .u8 f.src.a7,.int .u8 f.src.a8,.int .u8 f.src.a9,.int .u8 f.src.a10,.int .u8 f.src.a11,.int .u8 f.src.a12,.int .u8 f.src.a13,.int .u8 f.src.a14,.int .u8 f.src.a15,.int .i64 f.sport,.int .u8 f.dst.a0,.int .u8 f.dst.a1,.int .u8 f.dst.a2,.int .u8 f.dst.a3,.int .u8 f.dst.a4,.int .u8 f.dst.a5,.int .u8 f.dst.a6,.int .u8 f.dst.a7,.int .u8 f.dst.a8,.int .u8 f.dst.a9,.int .u8 f.dst.a10,.int .u8 f.dst.a11,.int .u8 f.dst.a12,.int .u8 f.dst.a13,.int .u8 f.dst.a14,.int .u8 f.dst.a15,.int .i64 f.dport]
@[reducible] def arrF (f:Fl):Array Value:=#[.int .u8 f.src.a0,.int .u8 f.src.a1,.int .u8 f.src.a2,.int .u8 f.src.a3,.int .u8 f.src.a4,.int .u8 f.src.a5,.int .u8 f.src.a6,.int .u8 f.src.a7,.int .u8 f.src.a8,.int .u8 f.src.a9,.int .u8 f.src.a10,.int .u8 f.src.a11,.int .u8 f.src.a12,.int .u8 f.src.a13,.int .u8 f.src.a14,.int .u8 f.src.a15,.int .i64 f.sport,.int .u8 f.dst.a0,.int .u8 f.dst.a1,.int .u8 f.dst.a2,.int .u8 f.dst.a3,.int .u8 f.dst.a4,.int .u8 f.dst.a5,.int .u8 f.dst.a6,.int .u8 f.dst.a7,.int .u8 f.dst.a8,.int .u8 f.dst.a9,.int .u8 f.dst.a10,.int .u8 f.dst.a11,.int .u8 f.dst.a12,.int .u8 f.dst.a13,.int .u8 f.dst.a14,.int .u8 f.dst.a15,.int .i64 f.dport]
def okF (f:Fl):Prop:=okA f.src∧(Lit.int .i64 f.sport).wf=true∧okA f.dst∧(Lit.int .i64 f.dport).wf=true
def encF (f:Fl):List Value:=encA f.src++(.int .i64 f.sport::(encA f.dst ++ [.int .i64 f.dport]))
theorem encF_len (f:Fl):(encF f).length=34:=rfl
theorem Fl.v_eq (f:Fl):f.v=.agg (encF f).toArray:=rfl
theorem Fl.v_inj {f g:Fl} (h:f.v=g.v):f=g:=by
 obtain⟨A,p,B,q⟩:=f;obtain⟨C,r,D,s⟩:=g;cases A;cases B;cases C;cases D;simpa[Fl.v,and_assoc]using h
def keyF (f:Fl):Lit:=.string (keyBytes (litsA f.src++(.int .i64 f.sport::(litsA f.dst ++ [.int .i64 f.dport]))))
theorem key_fl {f:Fl} (h:okF f):keyOf Tryz.prog 46 f.v=some (keyF f):=by
 have hcA:Tryz.prog.cellsOf 24=16:=by kernel_rfl
 have hcI:Tryz.prog.cellsOf 3=1:=by kernel_rfl
 have hcF:Tryz.prog.cellsOf 46=34:=by kernel_rfl
 have hkF:Tryz.prog.keyType 46=true:=by kernel_rfl
 obtain⟨d,hd⟩:=typesTwo;unfold keyOf;simp only[Tryz.underlying46];rw[if_pos (by simp[hkF,Value.formed,Tryz.underlying46,hcF]),hd];have e:f.v.cells.toList=encF f:=rfl;rw[e];unfold Program.keyLits;simp only[Tryz.underlying46];rw[if_pos ⟨by rw[hcF];rfl,by simp⟩]
 have g0:((encF f).drop 0).take 16=encA f.src:=rfl;have g1:((encF f).drop 16).take 1=[.int .i64 f.sport]:=rfl;have g2:((encF f).drop 17).take 16=encA f.dst:=rfl;have g3:((encF f).drop 33).take 1=[.int .i64 f.dport]:=rfl;have k0:=keyLits_ad (d:=d) h.1;have k1:=keyLits_int (d:=d+1) h.2.1
 have k2:=keyLits_ad (d:=d) h.2.2.1;have k3:=keyLits_int (d:=d+1) h.2.2.2;simp only[List.mapM_cons,List.mapM_nil,hcA,hcI,g0,g1,g2,g3];rw[show d+2=d+1+1 from rfl]at *;rw[k0,k1,k2,k3];simp[keyF]
theorem lawFl:KeyLaw Tryz.prog 46:=deep_law_laid laidOutV (m:=4) (by omega) (of_decide_eq_true (by kernel_rfl)) (by kernel_rfl) (by kernel_rfl)
theorem lawF:Keyed Tryz.prog 46:=Keyed.of_law lawFl
theorem keyF_inj {f g:Fl} (hf:okF f) (hg:okF g) (h:keyF f=keyF g):f=g:=Fl.v_inj (lawFl.inj (key_fl hf) (h▸key_fl hg))
theorem infF {f:Fl}:(Tryz.prog.info? 46).map (·.size)=some (arrF f).size:=by
 show _=some 34;kernel_rfl
theorem key_fl_inv {key:Value} {kl:Lit} (h:keyOf Tryz.prog 46 key=some kl):∃f:Fl,okF f∧key=f.v∧kl=keyF f:=by
 have hcA:Tryz.prog.cellsOf 24=16:=by kernel_rfl
 have hcI:Tryz.prog.cellsOf 3=1:=by kernel_rfl
 have hcF:Tryz.prog.cellsOf 46=34:=by kernel_rfl
 obtain⟨d,hd⟩:=typesTwo;have h0:=h;unfold keyOf at h;simp only[Tryz.underlying46]at h;split at h
 ·next hf=>
  have hform:∃cs:Array Value,key=.agg cs∧cs.size=34:=by
   rw[Bool.and_eq_true]at hf;have:=hf.2;cases key<;>simp[Value.formed,Tryz.underlying46,hcF]at this
   exact⟨_,rfl,this⟩
  obtain⟨cs,rfl,hsz⟩:=hform;have hcs:(Value.agg cs).cells.toList=cs.toList:=rfl;rw[hcs,hd]at h;have hl:cs.toList.length=34:=by simpa using hsz
  unfold Program.keyLits at h;simp only[Tryz.underlying46]at h;rw[if_pos ⟨by rw[hcF,hl],by simp⟩]at h;simp only[List.mapM_cons,List.mapM_nil,hcA,hcI]at h;cases k0:Tryz.prog.keyLits (d+2) 24 ((cs.toList.drop 0).take 16) with
  |none=>rw[k0]at h;simp at h
  |some l0=>
   cases k1:Tryz.prog.keyLits (d+2) 3 ((cs.toList.drop 16).take 1) with
   |none=>rw[k0,k1]at h;simp at h
   |some l1=>
    cases k2:Tryz.prog.keyLits (d+2) 24 ((cs.toList.drop 17).take 16) with
    |none=>rw[k0,k1,k2]at h;simp at h
    |some l2=>
     cases k3:Tryz.prog.keyLits (d+2) 3 ((cs.toList.drop 33).take 1) with
     |none=>rw[k0,k1,k2,k3]at h;simp at h
     |some l3=>
      obtain⟨A,hA,okA'⟩:=keyLits_ad_inv k0 (by simp[hl]);obtain⟨B,hB,okB'⟩:=keyLits_ad_inv k2 (by simp[hl]);have h1:(cs.toList.drop 16).take 1=[cs.toList[16]'(by omega)]:=by
       rw[List.drop_eq_getElem_cons (by omega)];rfl
      have h3:(cs.toList.drop 33).take 1=[cs.toList[33]'(by omega)]:=by
       rw[List.drop_eq_getElem_cons (by omega)];rfl
      rw[h1]at k1;rw[h3]at k3;obtain⟨p,hp,hw⟩:=keyLits_int_inv Tryz.underlying3 k1;obtain⟨q,hq,hw2⟩:=keyLits_int_inv Tryz.underlying3 k3;have hkey:Value.agg cs=(⟨A,p,B,q⟩:Fl).v:=by
       rw[Fl.v_eq];congr 1;apply Array.ext';show cs.toList=encA A++(.int .i64 p::(encA B ++ [.int .i64 q]));have e1:cs.toList=(cs.toList.drop 0).take 16++((cs.toList.drop 16).take 1++((cs.toList.drop 17).take 16++(cs.toList.drop 33).take 1)):=by
        rw[List.take_of_length_le (l:=cs.toList.drop 33) (by simp[hl])];have a1:(cs.toList.drop 17).take 16++cs.toList.drop 33=cs.toList.drop 17:=by
         have:=List.take_append_drop 16 (cs.toList.drop 17)
         rwa [List.drop_drop]at this
        rw[a1];have a2:(cs.toList.drop 16).take 1++cs.toList.drop 17=cs.toList.drop 16:=by
         have:=List.take_append_drop 1 (cs.toList.drop 16)
         rwa [List.drop_drop]at this
        rw[a2,List.drop_zero,List.take_append_drop]
       rw[e1,hA,hB,h1,h3,hp,hq];simp
      have hok:okF ⟨A,p,B,q⟩:=⟨okA',hw,okB',hw2⟩;refine⟨⟨A,p,B,q⟩,hok,hkey,?_⟩;have h2:=key_fl hok;rw[←hkey,h0]at h2;injection h2
 ·cases h
def KF:KV Tryz.prog 46 Fl where
 lit:=keyF
 ok:=okF
 key f _:=by simp[keyF,WideAt.IsKeyLit]
 inj a b ha hb h:=keyF_inj ha hb h
 val:=Fl.v
 law:=lawF
 isk f hf:=key_fl hf
 inv v l h:=key_fl_inv h
end Go.Proofs.YtgbndaiifbogmaaGreat
namespace Go.Proofs.YtgbndaiifbogmaaGreat
open Go.RowKit
structure HQ (w:World) (q g c cap:Nat) (sq:Int) (l:List It):Prop where
 blk:Blk w q 273 #[.bool true,.slice (some ⟨g,0,none⟩) l.length cap,.int .i64 sq]
 row:RowI w g c l
 hc:c=cap*3
 hl:l.length≤cap
 qg:q≠g
 hm:cap≤maxLen
theorem HQ.chg0 {w w':World} {q g c cap:Nat} {sq:Int} {l:List It} (h:HQ w q g c cap sq l) (hc:Chg [] w w'):HQ w' q g c cap sq l:=⟨h.blk.chg hc (by simp),h.row.chg hc (by simp),h.hc,h.hl,h.qg,h.hm⟩
theorem HQ.swap {w w':World} {q g c cap i k:Nat} {sq:Int} {l:List It} {x y:It} (h:HQ w q g c cap sq l) (hr:RowI w' g c (Heap.swap l i k x y)) (hc:Chg [g] w w'):HQ w' q g c cap sq (Heap.swap l i k x y):=
 ⟨by rw[Heap.swap_len];exact h.blk.chg hc (by simpa using h.qg),hr,h.hc,by rw[Heap.swap_len];exact h.hl,h.qg,h.hm⟩
theorem mLess {w : World} {q : Nat} {v : Value} (hc : w.cell? ⟨q, 1, none⟩ = some v) : (method (539 + 1) 301 (.pointer (some ⟨q, 1, none⟩)) "Less").run Tryz.prog w = .ok (384, v) w :=
 run_method_val (by kernel_rfl) Tryz.underlying301 Tryz.underlying271 rfl hc
theorem mSwap {w : World} {q : Nat} {v : Value} (hc : w.cell? ⟨q, 1, none⟩ = some v) : (method (539 + 1) 301 (.pointer (some ⟨q, 1, none⟩)) "Swap").run Tryz.prog w = .ok (385, v) w :=
 run_method_val (by kernel_rfl) Tryz.underlying301 Tryz.underlying271 rfl hc
theorem mLen {w : World} {q : Nat} {v : Value} (hc : w.cell? ⟨q, 1, none⟩ = some v) : (method (539 + 1) 301 (.pointer (some ⟨q, 1, none⟩)) "Len").run Tryz.prog w = .ok (383, v) w :=
 run_method_val (by kernel_rfl) Tryz.underlying301 Tryz.underlying271 rfl hc
theorem mPush (q : Nat) (w : World) : (method (539 + 1) 301 (.pointer (some ⟨q, 1, none⟩)) "Push").run Tryz.prog w = .ok (388, .pointer (some ⟨q, 1, none⟩)) w :=
 run_method_ptr (by kernel_rfl) Tryz.underlying301 _ w
theorem up_any {w:World} {q g c cap:Nat} {sq:Int} {l:List It} {j:Nat} (h:HQ w q g c cap sq l) (hu:Heap.Up ltI l j) (hj:j<l.length) (hl:l.length≤3000) :
  Calls Tryz.prog 332 #[.iface 301 (.pointer (some ⟨q,1,none⟩)),.int .i64 j] w fun e w'=>e=.returned (.tuple #[])∧∃l',HQ w' q g c cap sq l'∧Heap.OK ltI l'∧l'.Perm l∧Chg [g] w w':=by
 have H0:=zH h;have HU0:=zH hu;clear h hu;go_enter Tryz.func332,Tryz.ntmps332
 go_wp2_with fail;go_loopw [1] (fun jv wr=>∃(j:Nat) (l':List It),jv=.int .i64 j∧Hid (HQ wr q g c cap sq l')∧Hid (Heap.Up ltI l' j)∧j<l'.length∧l'.length≤3000∧Hid (l'.Perm l)∧Hid (Chg [g] w wr)) (fun jv _=>(intOf jv).toNat)
 case atStart=>exact⟨j,l,rfl,H0,HU0,hj,hl,zH (List.Perm.refl _),zH (Chg.refl _ _)⟩
 case round=>
  clear H0 HU0 hj hl;obtain⟨j,l',rfl,H,HU,hj,hl,HP,HC⟩:=hrel;rcases Nat.eq_zero_or_pos j with hj0|hj0
  ·subst hj0;go_wp2_with fail;go_end0
   exact⟨rfl,l',H.out,HU.out.top,HP.out,HC.out⟩
  ·obtain⟨i,hi⟩:∃i,i=(j-1)/2:=⟨_,rfl⟩;have hij:i<j:=by omega
   have hx:l'[i]?=some (l'[i]'(by omega)):=List.getElem?_eq_getElem _;have hy:l'[j]?=some (l'[j]'hj):=List.getElem?_eq_getElem _;generalize l'[i]'(by omega)=x at hx;generalize l'[j]'hj=y at hy;have hd:((j:Int)-1)/2=(i:Int):=by omega
   have hd2:((j-1:Nat):Int)/2=(i:Int):=by omega
   have hne:((i:Int)==(j:Int))=false:=beq_eq_false_iff_ne.2 (by omega);have hne2:¬(i:Int)=(j:Int):=by omega
   have hjm:(0:Int)≤(j:Int)-1:=by omega
   have F1:=zH (iLess_any (cap:=cap) H.out.row rfl hy hx);have F2:=zH (fun W (hc:Chg [] wr W)=>iSwap_any (cap:=cap) (H.out.row.chg hc (by simp)) rfl (by have:=H.out.hc;have:=H.out.hl;omega) hx hy);have c1:wr.cell? ⟨q,1,none⟩=some (.slice (some ⟨g,0,none⟩) l'.length cap):=H.out.blk.cell 1
   have m1:=mLess c1;have HX:=zH hx;have HY:=zH hy;have HI:=zH hi;clear hx hy hi;generalize hnl:l'.length=nl at *;have HN:=zH hnl;clear hnl;cases hr:ltI y x with
   |false=>
    have HO:=zH (HU.out.stop' HI.out HX.out HY.out hr);rw[hr]at F1;clear hr F2 HU;go_wp2_with fail;refine F1.out.mono ?_;rintro e w2 ⟨rfl,hc2⟩;go_wp2_with fail;go_end0
    exact⟨rfl,l',H.out.chg0 hc2,HO.out,HP.out,HC.out.trans (hc2.more (by simp))⟩
   |true=>
    have HO:=zH (HU.out.step' ltI_lt HI.out hj0 HX.out HY.out hr);have HPm:=zH ((Heap.swap_perm HX.out HY.out).trans HP.out);have HLn:=zH (Heap.swap_len l' i j x y);rw[hr]at F1;clear hr HU HP;go_wp2_with fail;refine F1.out.mono ?_;rintro e w2 ⟨rfl,hc2⟩;clear m1 F1;have c2:=hc2.cell c1 (by simp)
    have m2:=mSwap c2;have F3:=zH (F2.out w2 hc2);have H2:=zH (H.out.chg0 hc2);have HC2:=zH (HC.out.trans (hc2.more (T:=[g]) (by simp)));clear F2 H HC hc2 c1;go_wp2_with fail;refine F3.out.mono ?_;rintro e w3 ⟨rfl,hr3,hc3⟩;have H3:=zH (H2.out.swap hr3 hc3);have HC3:=zH (HC2.out.trans hc3)
    clear F3 H2 HC2 hr3 hc3 m2 c2;go_wp2_with fail;go_roundw
    case rel=>exact⟨i,_,rfl,H3,HO,by rw[HLn.out,HN.out];omega,by rw[HLn.out,HN.out];omega,HPm,HC3⟩
    case measure=>simp[intOf];omega
end Go.Proofs.YtgbndaiifbogmaaGreat

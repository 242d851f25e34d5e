/-
  Small laws and walks on the way to LearnReads: Kit, HeapP, Mem, EpPlain, Frame, KeyP, Struct, Cut, Row, MapO, Clear. Conditions: each theorem names its own.
-/
import Derived.Test.YtgbndaiifbogmaaGreatRows
import Derived.WalkKit
import Derived.WalkSpells
import Derived.WalkLawsBesides
import Derived.Lib.Hide
import Derived.Deep.LoopGhost
import Derived.Deep.Draws
import Derived.BigQuiet
import Derived.Deep.QuietTactic
import Derived.StillTailTactics
import Derived.OrdersIn
import Derived.TacticsIn
import Derived.Maps.AppendAt
import Derived.RegionTactic
import Derived.OwnWalk
import Derived.ProofKit
import Derived.OpenShut
import Derived.Deep.Slices
import Derived.Deep.Fields
import Derived.ChangeSame
import Derived.Deep.MidRow
import Derived.Laws.Rows
import Derived.ScopeJumps
import Derived.Laws.CopyOwn
import Derived.Deep.RegionLaw
import Derived.Maps.OwnSet
import Derived.Maps.OwnOps
import Derived.Maps.RangeWalk
import Derived.Laws.IdiomCopy
set_option linter.unusedVariables false
set_option linter.unusedSimpArgs false
set_option maxRecDepth 100000
set_option maxHeartbeats 8000000
namespace Go.Proofs.YtgbndaiifbogmaaGreat
open Go.RowKit
structure Chg (S:List Nat) (w w':World):Prop where
 os:w'.os=w.os
 tape:w'.tape=w.tape
 output:w'.output=w.output
 size:w.heap.size≤w'.heap.size
 block:∀k,k<w.heap.size→k∉S→w'.heap[k]?=w.heap[k]?
def Blk (w:World) (g:Nat) (t:TypeId) (cs:Array Value):Prop:=w.heap[g]?=some (.cells cs t (0,0))
section
variable {w w' w'':World} {S T:List Nat} {g:Nat} {t:TypeId} {cs:Array Value}
theorem Chg.refl (S:List Nat) (w:World):Chg S w w:=⟨rfl,rfl,rfl,Nat.le_refl _,fun _ _ _=>rfl⟩
theorem Chg.trans' (h:Chg S w w') (k:Chg T w' w'') (hT:∀x∈T,x∈S∨w.heap.size≤x):Chg S w w'':=
 ⟨k.os.trans h.os,k.tape.trans h.tape,k.output.trans h.output,Nat.le_trans h.size k.size,fun i hi hS=>
  (k.block i (Nat.lt_of_lt_of_le hi h.size) (fun hx=>(hT i hx).elim hS (by omega))).trans (h.block i hi hS)⟩
theorem Chg.trans (h:Chg S w w') (k:Chg S w' w''):Chg S w w'':=h.trans' k fun _ hx=>.inl hx
theorem Chg.more (h:Chg S w w') (hS:∀x∈S,x∈T):Chg T w w':=⟨h.os,h.tape,h.output,h.size,fun i hi hT=>h.block i hi fun hx=>hT (hS i hx)⟩
theorem Chg.drew (h:Chg S w w'):Chg S w w'.drew:=⟨h.os,h.tape,h.output,h.size,h.block⟩
theorem Chg.drewN (h:Chg S w w') (n:Nat):Chg S w (w'.drewN n):=⟨h.os,h.tape,h.output,h.size,h.block⟩
theorem Chg.alloc (h:Chg S w w') (o:Obj):Chg S w (w'.alloc o):=
 h.trans ⟨rfl,rfl,rfl,by simp,fun k hk _=>Below.heap_alloc _ _ _ hk⟩
theorem Chg.setCell (h:Chg S w w') {p:Addr} (hp:p.block∈S∨w.heap.size≤p.block) (u:Value):Chg S w (w'.setCell p u):=
 h.trans' (T:=[p.block]) ⟨rfl,rfl,rfl,by simp[World.setCell],fun k hk hS=>Below.heap_setCell _ _ _ _ (by simpa using hS)⟩ (by simpa using hp)
theorem Chg.grown {row:Option Nat} (h:Chg S w w') (hg:w'.grownBy w'' row) (hr:∀k,row=some k→k∈S∨w.heap.size≤k):Chg S w w'':=
 h.trans' (T:=row.toList) ⟨hg.os,hg.tape,hg.output,hg.size,fun k hk hS=>hg.block k hk (fun e=>hS (by simp[←e]))⟩ (fun x hx=>hr x (by simpa using hx))
theorem Chg.of_below (h:Below w.heap.size w w'):Chg S w w':=⟨h.os,h.tape,h.output,h.size,fun i hi _=>h.block i hi⟩
theorem Chg.below (h:Chg [] w w'):Below w.heap.size w w':=⟨h.os,h.tape,h.output,h.size,fun i hi=>h.block i hi (by simp)⟩
theorem Chg.cell (h:Chg S w w') {p:Addr} {v:Value} (hc:w.cell? p=some v) (hS:p.block∉S):w'.cell? p=some v:=
 (World.cell?_of_block (w:=w) (h.block p.block (World.block_lt_of_cell? w p hc) hS)).trans hc
theorem Chg.frozen (h:Chg S w w') {p:Addr} {v:Value} (hc:w.cell? p=some v) (hS:p.block∉S):w'.frozen? p=w.frozen? p:=
 World.frozen?_of_block (w:=w) (h.block p.block (World.block_lt_of_cell? w p hc) hS)
theorem Blk.lt (h:Blk w g t cs):g<w.heap.size:=by
 rcases Nat.lt_or_ge g w.heap.size with hlt|hge
 ·exact hlt
 ·unfold Blk at h;rw[Array.getElem?_eq_none hge]at h;cases h
theorem Blk.cell (h:Blk w g t cs) (i:Nat):w.cell? ⟨g,i,none⟩=cs[i]?:=by
 unfold Blk at h;simp[World.cell?,h]
theorem Blk.frozen (h:Blk w g t cs) (i:Nat):w.frozen? ⟨g,i,none⟩=false:=by
 unfold Blk at h;simp[World.frozen?,h]
theorem Blk.new (w:World) (t:TypeId) (cs:Array Value):Blk (w.alloc (.cells cs t)) w.heap.size t cs:=by
 show (w.heap.push _)[w.heap.size]?=_;simp
theorem Blk.new' {w:World} {t:TypeId} {cs:Array Value} {g:Nat} (h:g=w.heap.size):Blk (w.alloc (.cells cs t)) g t cs:=h▸Blk.new w t cs
theorem Blk.drew (h:Blk w g t cs):Blk w.drew g t cs:=h
theorem Blk.alloc (h:Blk w g t cs) (o:Obj):Blk (w.alloc o) g t cs:=(Below.heap_alloc w o g h.lt).trans h
theorem Blk.set_ (h:Blk w g t cs) (i:Nat) (u:Value):Blk (w.setCell ⟨g,i,none⟩ u) g t (cs.setIfInBounds i u):=by
 unfold Blk at h ⊢;simp[World.setCell,Array.getElem?_modify,h]
theorem Blk.far (h:Blk w g t cs) {p:Addr} (hp:g≠p.block) (u:Value):Blk (w.setCell p u) g t cs:=(Below.heap_setCell w p u g hp).trans h
theorem Blk.chg (h:Blk w g t cs) (hc:Chg S w w') (hg:g∉S):Blk w' g t cs:=(hc.block g h.lt hg).trans h
end
theorem run_eql_func_nil {P:Program} {t:TypeId} {ps rs:Array TypeId} {vd:Bool} (hu:P.underlying t=some (.func ps rs vd)) (w:World) (fn:Fn) (a b:Array Value) :
  (binOp .eql t (.func fn a b) .nilFunc).run P w=.ok (.bool false) w:=by
 have h:∀d:Nat,(Op.equalIn (d+1) t (.func fn a b) .nilFunc).run P w=.ok false w:=fun d=>by simp[Op.equalIn,run_underlying hu]
 simp only[binOp];simp[Op.equal,Op.maxDepth,h 9999]
theorem zH {p:Prop} (h:p):Hid p:=Lib.hid h
theorem zN {S:List Nat} {g n:Nat} (h:n≤g):∀x∈[g],x∈S∨n≤x:=fun x hx=>.inr (by rw[List.mem_singleton.1 hx];exact h)
end Go.Proofs.YtgbndaiifbogmaaGreat
namespace Go.Proofs.YtgbndaiifbogmaaGreat
namespace Heap
structure Lt {α:Type} (lt:α→α→Bool):Prop where
 asymm:∀{a b},lt a b=true→lt b a=false
 trans:∀{a b c},lt b a=false→lt c b=false→lt c a=false
section
variable {α:Type} {lt:α→α→Bool}
theorem Lt.irrefl (T:Lt lt) (a:α):lt a a=false:=by
 cases e:lt a a with
 |false=>rfl
 |true=>have:=T.asymm e;rw[e]at this;exact this
def Ord (lt:α→α→Bool) (l:List α) (c p:Nat):Prop:=∀x y,l[c]?=some x→l[p]?=some y→lt x y=false
def swap (l:List α) (i j:Nat) (x y:α):List α:=(l.set i y).set j x
theorem swap_at {l:List α} {i j:Nat} {x y:α} (hi:l[i]?=some x) (hj:l[j]?=some y) (k:Nat):(swap l i j x y)[k]?=if k=j then some x else if k=i then some y else l[k]?:=by
 obtain⟨hi1,_⟩:=List.getElem?_eq_some_iff.1 hi;obtain⟨hj1,_⟩:=List.getElem?_eq_some_iff.1 hj;unfold swap;rw[List.getElem?_set];by_cases h:j=k
 ·subst h;simp[hj1]
 ·rw[if_neg h,if_neg (Ne.symm h),List.getElem?_set];by_cases h2:i=k
  ·subst h2;simp[hi1]
  ·rw[if_neg h2,if_neg (Ne.symm h2)]
theorem swap_len (l:List α) (i j:Nat) (x y:α):(swap l i j x y).length=l.length:=by simp[swap]
theorem swap_perm {l:List α} {i j:Nat} {x y:α} (hi:l[i]?=some x) (hj:l[j]?=some y):(swap l i j x y).Perm l:=by
 classical
 obtain⟨hi1,rfl⟩:=List.getElem?_eq_some_iff.1 hi;obtain⟨hj1,rfl⟩:=List.getElem?_eq_some_iff.1 hj;exact List.set_set_perm hi1 hj1
def HeapFrom (lt:α→α→Bool) (n i0:Nat) (l:List α):Prop:=∀c,0<c→c<n→i0≤(c-1)/2→Ord lt l c ((c-1)/2)
def OK (lt:α→α→Bool) (l:List α):Prop:=HeapFrom lt l.length 0 l
theorem OK.nil:OK lt ([]:List α):=fun c _ h=>by simp at h
structure Up (lt:α→α→Bool) (l:List α) (j:Nat):Prop where
 ord:∀c,0<c→c≠j→c<l.length→Ord lt l c ((c-1)/2)
 skip:∀c,0<c→0<j→c<l.length→(c-1)/2=j→Ord lt l c ((j-1)/2)
theorem Up.push {l:List α} (h:OK lt l) (x:α):Up lt (l ++ [x]) l.length:=by
 refine⟨fun c h1 h2 h3 a b ha hb=>?_,fun c h1 h2 h3 h4=>?_⟩
 ·simp at h3;rw[List.getElem?_append_left (by omega)]at ha hb;exact h c h1 (by omega) (Nat.zero_le _) a b ha hb
 ·simp at h3;omega
theorem Up.step (T:Lt lt) {l:List α} {j:Nat} (h:Up lt l j) (hj:0<j) {x y:α} (hx:l[(j-1)/2]?=some x) (hy:l[j]?=some y) (hlt:lt y x=true):Up lt (swap l ((j-1)/2) j x y) ((j-1)/2):=by
 have hs:=swap_at hx hy;have hij:(j-1)/2<j:=by omega
 obtain⟨hjl,_⟩:=List.getElem?_eq_some_iff.1 hy;refine⟨fun c h1 h2 h3 a b ha hb=>?_,fun c h1 h2 h3 h4 a b ha hb=>?_⟩
 ·rw[swap_len]at h3;rw[hs]at ha hb;by_cases e:c=j
  ·subst e;rw[if_pos rfl]at ha;rw[if_neg (by omega),if_pos rfl]at hb;cases ha;cases hb;exact T.asymm hlt
  ·rw[if_neg e,if_neg h2]at ha;by_cases e1:(c-1)/2=j
   ·rw[if_pos e1]at hb;cases hb;exact h.skip c h1 hj h3 e1 a _ ha hx
   ·rw[if_neg e1]at hb;by_cases e2:(c-1)/2=(j-1)/2
    ·rw[if_pos e2]at hb;cases hb;exact T.trans (T.asymm hlt) (h.ord c h1 e h3 a _ ha (by rw[e2];exact hx))
    ·rw[if_neg e2]at hb;exact h.ord c h1 e h3 a b ha hb
 ·rw[swap_len]at h3;rw[hs]at ha hb;rw[if_neg (by omega),if_neg (by omega)]at hb;have hip:=h.ord ((j-1)/2) h2 (by omega) (by omega) x b hx hb;by_cases e:c=j
  ·subst e;rw[if_pos rfl]at ha;cases ha;exact hip
  ·rw[if_neg e,if_neg (by omega)]at ha;exact T.trans hip (h.ord c h1 e h3 a _ ha (by rw[h4];exact hx))
theorem Up.top {l:List α} (h:Up lt l 0):OK lt l:=fun c h1 h2 _=>h.ord c h1 (by omega) h2
theorem Up.stop {l:List α} {j:Nat} (h:Up lt l j) {x y:α} (hx:l[(j-1)/2]?=some x) (hy:l[j]?=some y) (hlt:lt y x=false):OK lt l:=fun c h1 h2 _=>by
 by_cases e:c=j
 ·subst e;intro a b ha hb;rw[hy]at ha;cases ha;rw[hx]at hb;cases hb;exact hlt
 ·exact h.ord c h1 e h2
theorem Up.stop' {l:List α} {i j:Nat} (h:Up lt l j) (hi:i=(j-1)/2) {x y:α} (hx:l[i]?=some x) (hy:l[j]?=some y) (hlt:lt y x=false):OK lt l:=by subst hi;exact h.stop hx hy hlt
theorem Up.step' (T:Lt lt) {l:List α} {i j:Nat} (h:Up lt l j) (hi:i=(j-1)/2) (hj:0<j) {x y:α} (hx:l[i]?=some x) (hy:l[j]?=some y) (hlt:lt y x=true):Up lt (swap l i j x y) i:=by subst hi;exact h.step T hj hx hy hlt
structure Down (lt:α→α→Bool) (n i0:Nat) (l:List α) (i:Nat):Prop where
 ge:i0≤i
 ord:∀c,0<c→c<n→i0≤(c-1)/2→(c-1)/2≠i→Ord lt l c ((c-1)/2)
 skip:∀c,0<c→c<n→(c-1)/2=i→i≠i0→i0≤(i-1)/2∧Ord lt l c ((i-1)/2)
theorem Down.start {n i0:Nat} {l:List α} (h:HeapFrom lt n (i0+1) l):Down lt n i0 l i0:=
 ⟨Nat.le_refl _,fun c h1 h2 h3 h4=>h c h1 h2 (by omega),fun _ _ _ _ h=>absurd rfl h⟩
theorem Down.step (T:Lt lt) {n i0 i j:Nat} {l:List α} (h:Down lt n i0 l i) (hn:n≤l.length) (hj:j<n) (hp:(j-1)/2=i) (hj0:0<j) {x y:α} (hx:l[i]?=some x) (hy:l[j]?=some y) (hlt:lt y x=true)
  (hmin:∀c,0<c→c<n→(c-1)/2=i→Ord lt l c j):Down lt n i0 (swap l i j x y) j:=by
 have hs:=swap_at hx hy;have hge:=h.ge;refine⟨by omega,fun c h1 h2 h3 h4 a b ha hb=>?_,fun c h1 h2 h3 h4=>⟨by omega,fun a b ha hb=>?_⟩⟩
 ·rw[hs]at ha hb;by_cases e:c=j
  ·subst e;rw[if_pos rfl]at ha;rw[if_neg (by omega),if_pos hp]at hb;cases ha;cases hb;exact T.asymm hlt
  ·rw[if_neg e]at ha;rw[if_neg h4]at hb;by_cases e1:(c-1)/2=i
   ·rw[if_pos e1]at hb;rw[if_neg (by omega)]at ha;cases hb;exact hmin c h1 h2 e1 a _ ha hy
   ·rw[if_neg e1]at hb;by_cases e2:c=i
    ·subst e2;rw[if_pos rfl]at ha;cases ha;exact (h.skip j hj0 hj hp (by omega)).2 _ b hy hb
    ·rw[if_neg e2]at ha;exact h.ord c h1 h2 h3 e1 a b ha hb
 ·rw[hs]at ha hb;rw[if_neg (by omega),if_neg (by omega)]at ha;rw[if_neg (by omega),if_pos hp]at hb;cases hb;exact h.ord c h1 h2 (by omega) (by omega) a _ ha (by rw[h3];exact hy)
theorem Down.leaf {n i0 i:Nat} {l:List α} (h:Down lt n i0 l i) (hl:n≤2*i+1):HeapFrom lt n i0 l:=fun c h1 h2 h3=>h.ord c h1 h2 h3 (by omega)
theorem Down.stop (T:Lt lt) {n i0 i j:Nat} {l:List α} (h:Down lt n i0 l i) {x y:α} (hx:l[i]?=some x) (hy:l[j]?=some y) (hlt:lt y x=false)
  (hmin:∀c,0<c→c<n→(c-1)/2=i→Ord lt l c j):HeapFrom lt n i0 l:=fun c h1 h2 h3=>by
 by_cases e:(c-1)/2=i
 ·intro a b ha hb;rw[e,hx]at hb;cases hb;exact T.trans hlt (hmin c h1 h2 e a _ ha hy)
 ·exact h.ord c h1 h2 h3 e
theorem HeapFrom.half (l:List α):HeapFrom lt l.length (l.length/2) l:=fun c h1 h2 h3=>by omega
end
end Heap
end Go.Proofs.YtgbndaiifbogmaaGreat
namespace Go.Proofs.YtgbndaiifbogmaaGreat
open Go.RowKit
def Sl (w:World) (B size:Nat) (v:Value) (n:Nat) (xs:List Value):Prop:=
 xs.length=n*size∧∃A c,v=.slice A n c∧n≤c∧(0<n→∃b o,A=some ⟨b,o,none⟩∧B≤b∧∀j u,xs[j]?=some u→w.cell? ⟨b,o+j,none⟩=some u)
section
variable {w w':World} {B B' size n:Nat} {v:Value} {xs:List Value} {S:List Nat}
theorem Sl.nil (w:World) (B size:Nat):Sl w B size (.slice none 0 0) 0 []:=⟨by simp,none,0,rfl,Nat.le_refl _,fun h=>absurd h (by omega)⟩
theorem Sl.chg (h:Sl w B size v n xs) (hc:Chg S w w') (hS:∀x∈S,x<B):Sl w' B size v n xs:=by
 obtain⟨hl,A,c,hv,hcap,hr⟩:=h;refine⟨hl,A,c,hv,hcap,fun hn=>?_⟩;obtain⟨b,o,hA,hb,hx⟩:=hr hn;exact⟨b,o,hA,hb,fun j u hu=>hc.cell (hx j u hu) (fun hm=>by have:=hS _ hm;simp only at this;omega)⟩
theorem Sl.chg0 (h:Sl w B size v n xs) (hc:Chg [] w w'):Sl w' B size v n xs:=h.chg hc (by simp)
theorem Sl.less (h:Sl w B size v n xs) (hB:B'≤B):Sl w B' size v n xs:=by
 obtain⟨hl,A,c,hv,hcap,hr⟩:=h;refine⟨hl,A,c,hv,hcap,fun hn=>?_⟩;obtain⟨b,o,hA,hb,hx⟩:=hr hn;exact⟨b,o,hA,by omega,hx⟩
theorem Sl.at_ (h:Sl w B size v n xs) {k:Nat} (hk:k<n) (hs:0<size):∃b o c,v=.slice (some ⟨b,o,none⟩) n c∧B≤b∧n≤c∧∀j,j<size→w.cell? ⟨b,o+(k*size+j),none⟩=xs[k*size+j]?:=by
 obtain⟨hl,A,c,hv,hcap,hr⟩:=h;obtain⟨b,o,hA,hb,hx⟩:=hr (by omega);subst hA;refine⟨b,o,c,hv,hb,hcap,fun j hj=>?_⟩;have hlt:k*size+j<xs.length:=by
  rw[hl]
  calc k*size+j<k*size+size:=by omega
   _=(k+1)*size:=by rw[Nat.add_mul,Nat.one_mul]
   _≤n*size:=Nat.mul_le_mul_right _ hk
 rw[List.getElem?_eq_getElem hlt];exact hx _ _ (List.getElem?_eq_getElem hlt)
theorem Sl.of_own {e:TypeId} (h:w.ownsRow B e size v n xs):Sl w B size v n xs:=by
 refine⟨h.1,?_⟩;rcases h.2 with ⟨rfl,rfl⟩ | ⟨g,cap,cur,rfl,hg,hh,hcap,hm,hcs,ht⟩
 ·exact⟨none,0,rfl,Nat.le_refl _,fun h=>absurd h (by omega)⟩
 ·refine⟨_,cap,rfl,hcap,fun hn=>⟨g,0,rfl,hg,fun j u hu=>?_⟩⟩;rw[←ht,List.getElem?_take]at hu;split at hu
  ·simp only[World.cell?,hh,Nat.zero_add];simpa using hu
  ·simp at hu
theorem Sl.form (h:Sl w B size v n xs):∃A c,v=.slice A n c:=by
 obtain⟨hl,A,c,hv,hr⟩:=h;exact⟨A,c,hv⟩
theorem Sl.take {A:Option Addr} {c:Nat} (h:Sl w B size (.slice A n c) n xs) {k:Nat} (hk:k≤n):Sl w B size (.slice A k c) k (xs.take (k*size)):=by
 obtain⟨hl,A',c',hv,hcap,hr⟩:=h;simp only[Value.slice.injEq,true_and]at hv;obtain⟨rfl,rfl⟩:=hv;refine⟨by rw[List.length_take,hl];exact Nat.min_eq_left (Nat.mul_le_mul_right _ hk),A,c,rfl,by omega,fun hn=>?_⟩;obtain⟨b,o,hA,hb,hx⟩:=hr (by omega);refine⟨b,o,hA,hb,fun j u hu=>hx j u ?_⟩
 rw[List.getElem?_take]at hu;split at hu
 ·exact hu
 ·simp at hu
theorem Sl.drop {A:Option Addr} {c:Nat} (h:Sl w B size (.slice A n c) n xs) {k:Nat} (hk:k≤n) :
  Sl w B size (.slice (if c=k then A else A.map (·.add (k*size))) (n-k) (c-k)) (n-k) (xs.drop (k*size)):=by
 obtain⟨hl,A',c',hv,hcap,hr⟩:=h;simp only[Value.slice.injEq,true_and]at hv;obtain⟨rfl,rfl⟩:=hv;refine⟨by rw[List.length_drop,hl,Nat.sub_mul],_,_,rfl,by omega,fun hn=>?_⟩;obtain⟨b,o,hA,hb,hx⟩:=hr (by omega);subst hA;rw[if_neg (by omega)];refine⟨b,o+k*size,?_,hb,fun j u hu=>?_⟩
 ·simp only[Option.map_some,Addr.add];split
  ·next h0=>simp[h0]
  ·rfl
 ·rw[List.getElem?_drop]at hu;rw[Nat.add_assoc];exact hx _ _ hu
end
section
variable {w:World} {B size n:Nat} {xs:List Value}
end
structure El (P:Program) (t e:TypeId) (z:Value) (size bytes:Nat):Prop where
 ht:P.underlying t=some (.slice e)
 info:(P.info? e).map (fun i=>(i.zero,i.size,i.bytes))=some (some z,size,bytes)
 hzs:z.cells.size=size
 hsz:0<size
section
variable {P:Program} {t e:TypeId} {z:Value} {size bytes:Nat} {w:World}
theorem app_run (el:El P t e z size bytes) (ty:TypeId) (base:Nat) {v:Value} {n:Nat} {xs:List Value} (hown:w.ownsRow base e size v n xs)
  {B:Nat} {sv:Value} {m:Nat} {news:List Value} (hr:Sl w B size sv m news) (h1:∀u∈news,u.oneCell'=true)
  (h63:n+m≤maxLen) (hbytes:(n+m)*bytes≤140737488355328) (hbase:base≤w.heap.size) :
  ∃v' w',(Builtin.append_ #[t,t] ty #[v,sv]).run P w=.ok v' w'∧w'.ownsRow base e size v' (n+m) (xs++news)∧Chg v.ownBlock.toList w w' ∧
   (v'.ownBlock=v.ownBlock∨v'.ownBlock=some w.heap.size):=by
 obtain⟨i,hi,hz,hs,hb⟩:=info_parts el.info;obtain⟨hl,A,c,rfl,hcap,hx⟩:=hr;have ofg:∀{w':World},w.grownBy w' v.ownBlock→Chg v.ownBlock.toList w w':=fun hg=>
  ⟨hg.os,hg.tape,hg.output,hg.size,fun k hk hS=>hg.block k hk (fun e=>hS (by simp[←e]))⟩
 rcases Nat.eq_zero_or_pos m with h0|h0
 ·subst h0;have hn:news=[]:=List.eq_nil_of_length_eq_zero (by simpa using hl);subst hn;rcases A with _|ad
  ·refine⟨v,w,?_,by simpa using hown,Chg.refl _ _,.inl rfl⟩;rcases hown.2 with ⟨rfl,rfl⟩ | ⟨g,cap,cur,rfl,_,_,hnc,_⟩
   ·simp[Builtin.append_,run_underlying el.ht,sizeOf,typeInfo,hi,Builtin.lenOf,Builtin.firstCells]
   ·simp[Builtin.append_,run_underlying el.ht,sizeOf,typeInfo,hi,Builtin.lenOf,Builtin.firstCells,hnc,storeCells]
  ·obtain⟨v',w',hrun,h2,h3,_,h5⟩:=run_append_own_at (P:=P) w base t ty e i z size bytes el.ht hi hz hs hb el.hzs el.hsz v n xs hown ad 0 c [] (by simp) (by simp) (by simp) h63 hbytes hbase;exact⟨v',w',hrun,h2,ofg h3,h5⟩
 ·obtain⟨b,o,rfl,_,hc⟩:=hx h0;obtain⟨v',w',hrun,h2,h3,_,h5⟩:=run_append_own_at (P:=P) w base t ty e i z size bytes el.ht hi hz hs hb el.hzs el.hsz v n xs hown ⟨b,o,none⟩ m c news hl
   (fun j u hu=>by
    have:=hc j u hu;unfold Addr.add;split
    ·next hj=>simpa[hj]using this
    ·exact this) h1 h63 hbytes hbase
  exact⟨v',w',hrun,h2,ofg h3,h5⟩
theorem wpList_app (el:El P t e z size bytes) {ops:Array Oper} {rest:List Oper} {o:Oper} {a:Act} {Q:Exit→Act→World→Prop} (hgd:o.guard=none) (s x:Operand)
  (ho:o.op=.call {callee:=.builtin .append,args:=#[s,x],argTypes:=#[t,t]})
  (base:Nat) {v:Value} {n:Nat} {xs:List Value} (hs:a.eval s=v) (hown:w.ownsRow base e size v n xs)
  {B:Nat} {sv:Value} {m:Nat} {news:List Value} (hx:a.eval x=sv) (hr:Sl w B size sv m news) (h1:∀u∈news,u.oneCell'=true)
  (h63:n+m≤maxLen) (hbytes:(n+m)*bytes≤140737488355328) (hbase:base≤w.heap.size)
  (h:∀v' w',w'.ownsRow base e size v' (n+m) (xs++news)→Chg v.ownBlock.toList w w'→(v'.ownBlock=v.ownBlock∨v'.ownBlock=some w.heap.size)→wpList P ops Q rest (a.put o.dst v') w') :
  wpList P ops Q (o::rest) a w:=by
 refine wpList_plain hgd fun K hK=>?_
 obtain⟨v',w',hr,h2,h3,h5⟩:=app_run el o.type base hown hr h1 h63 hbytes hbase;unfold Oper.wp execOp;simp only[ho,resolve,invoke,builtin,Sem.run_bind,Sem.run_pure,Result.andThen_ok,List.map_toArray,List.map_cons,List.map_nil,hs,hx,hr];exact hK _ _ (h v' w' h2 h3 h5)
end
theorem own_lit {base:Nat} (w:World) (e:TypeId) (size n:Nat) (cs:Array Value) (hb:base≤w.heap.size) (hm:n≤maxLen) (hs:cs.size=n*size) :
  (w.alloc (.cells cs e)).ownsRow base e size (.slice (some ⟨w.heap.size,0,none⟩) n n) n cs.toList:=
 ⟨by simpa using hs,.inr ⟨w.heap.size,n,cs,rfl,hb,Blk.new w e cs,Nat.le_refl _,hm,hs,List.take_of_length_le (by rw[Array.length_toList];omega)⟩⟩
theorem own_lt {w:World} {base size n:Nat} {e:TypeId} {v:Value} {xs:List Value} (h:w.ownsRow base e size v n xs):∀x∈v.ownBlock.toList,base≤x∧x<w.heap.size:=by
 intro x hx;exact h.lt x (by simpa using hx)
theorem own_form {w:World} {base size n:Nat} {e:TypeId} {v:Value} {xs:List Value} (h:w.ownsRow base e size v n xs) (hn:0<n) :
  ∃g cap,v=.slice (some ⟨g,0,none⟩) n cap∧base≤g∧g<w.heap.size:=by
 rcases h.2 with ⟨_,h0⟩ | ⟨g,cap,cur,hv,hb,hg,_⟩
 ·omega
 ·exact⟨g,cap,hv,hb,Blk.lt (w:=w) (t:=e) (cs:=cur) hg⟩
theorem own_chg {w w':World} {base size n:Nat} {e:TypeId} {v:Value} {xs:List Value} {S:List Nat} (h:w.ownsRow base e size v n xs) (hc:Chg S w w') (hS:∀x∈v.ownBlock.toList,x∉S):w'.ownsRow base e size v n xs:=by
 refine⟨h.1,?_⟩;rcases h.2 with h2 | ⟨g,cap,cur,hv,hg,hh,r⟩
 ·exact .inl h2
 ·subst hv;have hlt:g<w.heap.size:=Blk.lt (w:=w) (t:=e) (cs:=cur) hh;exact .inr ⟨g,cap,cur,rfl,hg,(hc.block g hlt (hS g (by simp[Value.ownBlock]))).trans hh,r⟩
section
variable {α:Type} {enc:α→List Value} {s:Nat}
theorem flat_len (he:∀x,(enc x).length=s):∀l:List α,(l.flatMap enc).length=l.length*s
 |[]=>by simp
 |x::l=>by rw[List.flatMap_cons,List.length_append,he,flat_len he l,List.length_cons,Nat.add_mul,Nat.one_mul,Nat.add_comm]
theorem flat_at (he:∀x,(enc x).length=s):∀(l:List α) (k j:Nat),j<s→(l.flatMap enc)[k*s+j]?=l[k]?.bind (fun x=>(enc x)[j]?)
 |[],k,j,hj=>by simp
 |x::l,0,j,hj=>by
  rw[List.flatMap_cons,Nat.zero_mul,Nat.zero_add,List.getElem?_append_left (by rw[he];exact hj)];rfl
 |x::l,k+1,j,hj=>by
  rw[List.flatMap_cons,List.getElem?_append_right (by rw[he,Nat.add_mul];omega),he,show (k+1)*s+j-s=k*s+j by rw[Nat.add_mul];omega,flat_at he l k j hj];rfl
theorem flat_take (he:∀x,(enc x).length=s):∀(l:List α) (k:Nat),(l.flatMap enc).take (k*s)=(l.take k).flatMap enc
 |[],k=>by simp
 |x::l,0=>by simp
 |x::l,k+1=>by
  rw[List.flatMap_cons,List.take_append,he,List.take_of_length_le (by rw[he,Nat.add_mul];omega),show (k+1)*s-s=k*s by rw[Nat.add_mul];omega,flat_take he l k];simp
theorem flat_snoc (l:List α) (x:α):l.flatMap enc++enc x=(l ++ [x]).flatMap enc:=by simp
theorem flat_one (h1:∀x,∀u∈enc x,u.oneCell'=true) (l:List α):∀u∈l.flatMap enc,u.oneCell'=true:=by
 intro u hu;obtain⟨x,_,hx⟩:=List.mem_flatMap.1 hu;exact h1 x u hx
end
theorem Sl.rec {α:Type} {enc:α→List Value} {size:Nat} (he:∀x,(enc x).length=size) (hs:0<size) {w:World} {B:Nat} {v:Value} {l:List α} (h:Sl w B size v l.length (l.flatMap enc)) {i:Nat} {x:α} (hi:l[i]?=some x) :
  ∃b o c,v=.slice (some ⟨b,o,none⟩) l.length c∧B≤b∧l.length≤c∧∀j,j<size→w.cell? ⟨b,o+(i*size+j),none⟩=(enc x)[j]?:=by
 have hl:i<l.length:=(List.getElem?_eq_some_iff.1 hi).1;obtain⟨b,o,c,hv,hb,hcap,hx⟩:=Sl.at_ h hl hs;refine⟨b,o,c,hv,hb,hcap,fun j hj=>?_⟩;rw[hx j hj,flat_at he l i j hj,hi];rfl
end Go.Proofs.YtgbndaiifbogmaaGreat
namespace Go.Proofs.YtgbndaiifbogmaaGreat
structure CN where
 st:Int
 first:Int
 own:Int
 next:Int
 sent:Int
 got:Int
 sum:Int
structure Sg where
 sport:Int
 dport:Int
 seq:Int
 ack:Int
 flags:Int
 window:Int
 ck:Int
 urgent:Int
def u32w (n:Int):Int:=n%4294967296
def segF (seq ack fl:Int):Sg:=⟨0,0,seq,ack,fl,4096,0,0⟩
def startF (first own:Int):CN:=⟨1,first,own,u32w (first+1),u32w (own+1),0,0⟩
def greetF (c:CN):Sg:=segF c.own c.next 18
def firstF (fl:Int):Bool:=bits .and .i64 fl 23==2
def enC (c:CN):Array Value:=#[.int .i64 c.st,.int .u32 c.first,.int .u32 c.own,.int .u32 c.next,.int .u32 c.sent,.int .i64 c.got,.int .u32 c.sum]
def enT (t:Sg) (o p:Value):Array Value:=#[.int .i64 t.sport,.int .i64 t.dport,.int .u32 t.seq,.int .u32 t.ack,.int .i64 t.flags,.int .i64 t.window,.int .i64 t.ck,.int .i64 t.urgent,o,p]
end Go.Proofs.YtgbndaiifbogmaaGreat
namespace Go.Proofs.YtgbndaiifbogmaaGreat
open Go.ChangeShapes Go.WideShapes Go.ChangeAt Go.RowKit Go.Deep
theorem own:ownKnob Tryz.prog.godebug=none:=by kernel_rfl
theorem laidOut:laidOutB Tryz.prog=true:=by kernel_rfl
theorem args_back {H:Type} {enc:TypeId×Value→H} {P:Program} (hl:laidOutB P=true) {W W':World} (hb:Below W.heap.size W W') :
  ∀{ts:List TypeId} {vs:List Value} {ds:List (DataW H)} {ps:List MemPlace},(∀t∈ts,P.readableRec t=true∧t<P.types.size)→(∀x∈ps,x.block<W.heap.size) →
   DataW.TrodAll enc P W 0 (fun _=>true) true ts vs ds ps→DataW.TrodAll enc P W' 0 (fun b=>decide (b<W.heap.size)) true ts vs ds ps
 |[],[],[],_,_,_,h=>h
 |t::ts,v::vs,d::ds,ps,ht,hp,h=>by
  obtain⟨p,q,h1,h2,rfl⟩:=h;obtain⟨r1,r2⟩:=ht t (by simp);exact⟨p,q,Below.trod hl r1 r2 h1 hb (fun x hx=>hp x (by simp[hx])),args_back hl hb (fun t' ht'=>ht t' (by simp[ht'])) (fun x hx=>hp x (by simp[hx])) h2,rfl⟩
 |[],_::_,_,_,_,_,h=>h.elim
 |[],[],_::_,_,_,_,h=>h.elim
 |_::_,[],_,_,_,_,h=>h.elim
 |_::_,_::_,[],_,_,_,h=>h.elim
theorem law_post {H:Type} {enc:TypeId×Value→H} {P:Program} (hl:laidOutB P=true) {f:Func} {s:ChangeSpec} {tb:TypeId} (hrt:f.resultTypes=#[tb]) (hub:P.underlying tb=some .bool)
  (hts':(f.params.toList.all fun t=>P.readableRec t&&decide (t<P.types.size))=true) (hv:s.vars=[]) {W W':World} {args:Array Value} {ds gs:List (DataW H)} {before:List MemPlace}
  (hW:DataW.Whole enc P f.params.toList s.vars false W args.toList ds gs before) (hfn:s.fn H (ds++gs)={results:=[.lit (.bool true)],args:=ds}) (hg:Chg [] W W') :
  s.post enc P f false true false false W args (.bool true) W':=by
 have hts:∀t∈f.params.toList,P.readableRec t=true∧t<P.types.size:=fun t ht=>by
  have:=List.all_eq_true.1 hts' t ht;simpa using this
 have hlt:=hW.lt;have hW':=hW;obtain⟨p,q,hA,hV,rfl,hfz,hnd⟩:=hW;rw[hv]at hV;obtain⟨rfl,rfl⟩:=trodVars_none hV;refine⟨ds,[],_,[],p,[],hW',?_,?_,?_,hg.below.frame _,fun h=>by cases h⟩
 ·rw[hfn,hrt];exact trodAll_cons_mk (shut_bool hub _) trodAll_mk0
 ·rw[hfn];exact args_back hl hg.below hts (fun x hx=>hlt x (by simp[hx])) hA
 ·rw[hv,hfn];rfl
theorem list_of {α:Type} {p:Nat→α→Prop}:∀(n:Nat),(∀i,i<n→∃x,p i x)→∃l:List α,l.length=n∧∀i x,l[i]?=some x→p i x
 |0,_=>⟨[],rfl,fun i x h=>by simp at h⟩
 |n+1,h=>by
  obtain⟨l,hl,hp⟩:=list_of n (fun i hi=>h i (by omega));obtain⟨x,hx⟩:=h n (by omega);refine⟨l ++ [x],by simp[hl],fun i y hy=>?_⟩;by_cases e:i<l.length
  ·rw[List.getElem?_append_left e]at hy;exact hp i y hy
  ·rw[List.getElem?_append_right (by omega)]at hy;have hi:i-l.length=0:=by
    rcases Nat.eq_zero_or_pos (i-l.length) with h0|h0
    ·exact h0
    ·rw[List.getElem?_eq_none (by simp;omega)]at hy;cases hy
   rw[hi]at hy;simp at hy;subst hy;have:i=n:=by omega
   subst this;exact hx
theorem add_none {a:Addr} (h:a.spot=none) (k:Nat):a.add k=⟨a.block,a.off+k,none⟩:=by
 obtain⟨b,o,sp⟩:=a;cases h;unfold Addr.add;split
 ·next h0=>simp[h0]
 ·rfl
theorem spot_of_cell {w:World} {a:Addr} {v:Value} (h:w.cell? a=some v):a.spot=none:=by
 unfold World.cell? at h;split at h
 ·split at h
  ·cases h
  ·next hs=>simpa using hs
 ·cases h
end Go.Proofs.YtgbndaiifbogmaaGreat
namespace Go.Proofs.YtgbndaiifbogmaaGreat
def xorS (a b:Int):Int:=bits .xor .u64 a b
def orS (a b:Int):Int:=bits .or .u64 a b
def addS (a b:Int):Int:=IntKind.u64.wrap (a+b)
def rotS (x:Int) (n:Nat):Int:=orS (IntKind.u64.wrap (x*2 ^ n)) (x/2 ^ (64-n))
structure W4 where
 a:Int
 b:Int
 c:Int
 d:Int
deriving DecidableEq
def roundW (v:W4):W4:=
 let a1:=addS v.a v.b
 let b1:=xorS (rotS v.b 13) a1
 let a2:=rotS a1 32
 let c1:=addS v.c v.d
 let d1:=xorS (rotS v.d 16) c1
 let a3:=addS a2 d1
 let d2:=xorS (rotS d1 21) a3
 let c2:=addS c1 b1
 let b2:=xorS (rotS b1 17) c2
 let c3:=rotS c2 32
 ⟨a3,b2,c3,d2⟩
def roundsW:Nat→W4→W4
 |0,v=>v
 |n+1,v=>roundsW n (roundW v)
theorem roundsW_succ:∀(n:Nat) (v:W4),roundsW (n+1) v=roundW (roundsW n v)
 |0,_=>rfl
 |n+1,v=>roundsW_succ n (roundW v)
def takeW (v:W4) (w:Int):W4:=
 let u:=roundsW 2 ⟨v.a,v.b,v.c,xorS v.d w⟩
 ⟨xorS u.a w,u.b,u.c,u.d⟩
def beginW (ka kb:Int):W4:=⟨xorS ka 8317987319222330741,xorS kb 7237128888997146477,xorS ka 7816392313619706465,xorS kb 8387220255154660723⟩
def endW (v:W4):Int:=
 let u:=roundsW 4 ⟨v.a,v.b,xorS v.c 255,v.d⟩
 xorS (xorS (xorS u.a u.b) u.c) u.d
def wordS:List Nat→Nat
 |[]=>0
 |b::l=>b+256*wordS l
theorem wordS_snoc:∀(l:List Nat) (b:Nat),wordS (l ++ [b])=wordS l+2 ^ (8*l.length)*b
 |[],b=>by simp[wordS]
 |a::l,b=>by
  rw[List.cons_append,wordS,wordS_snoc l b,wordS,List.length_cons,Nat.mul_add 8 l.length 1,Nat.pow_add,Nat.mul_add,←Nat.mul_assoc,Nat.mul_comm 256 (2 ^ (8*l.length))];simp only[Nat.mul_one,Nat.reducePow];omega
theorem wordS_lt:∀{l:List Nat},(∀b∈l,b<256)→wordS l<2 ^ (8*l.length)
 |[],_=>by simp[wordS]
 |b::l,h=>by
  have h1:=wordS_lt (l:=l) fun x hx=>h x (List.mem_cons_of_mem _ hx)
  have h2:=h b (List.mem_cons_self ..);rw[wordS,List.length_cons,Nat.mul_add 8 l.length 1,Nat.pow_add];simp only[Nat.mul_one,Nat.reducePow];generalize 2 ^ (8*l.length)=p at *;omega
theorem wrap_nat {x:Nat} (h:x<18446744073709551616):IntKind.u64.wrap (x:Int)=(x:Int):=by
 simp[IntKind.wrap,IntKind.signed,IntKind.bits];omega
theorem orS_nat {x y:Nat} (hx:x<18446744073709551616) (hy:y<18446744073709551616):orS x y=((x ||| y:Nat):Int):=by
 unfold orS bits;show IntKind.u64.wrap (BitVec.ofInt 64 (x:Int) ||| BitVec.ofInt 64 (y:Int)).toNat=_;have h1:(BitVec.ofInt 64 (x:Int))=BitVec.ofNat 64 x:=by simp
 have h2:(BitVec.ofInt 64 (y:Int))=BitVec.ofNat 64 y:=by simp
 have h3:(BitVec.ofNat 64 x ||| BitVec.ofNat 64 y).toNat=x ||| y:=by
  rw[BitVec.toNat_or,BitVec.toNat_ofNat,BitVec.toNat_ofNat,Nat.mod_eq_of_lt (by omega),Nat.mod_eq_of_lt (by omega)]
 rw[h1,h2,h3];exact wrap_nat (Nat.or_lt_two_pow (n:=64) (by omega) (by omega))
theorem orS_add {x b i:Nat} (hx:x<2 ^ (8*i)) (hb:b<256) (hi:i<8):orS (x:Int) (IntKind.u64.wrap ((b:Int)*2 ^ (8*i)))=((x+2 ^ (8*i)*b:Nat):Int):=by
 have hp:2 ^ (8*i)≤72057594037927936:=Nat.pow_le_pow_right (n:=2) (by omega) (show 8*i≤56 by omega);have hy:b*2 ^ (8*i)<18446744073709551616:=by
  have:=Nat.mul_le_mul (show b≤255 by omega) hp;omega
 have e:((b:Int)*2 ^ (8*i))=((b*2 ^ (8*i):Nat):Int):=by push_cast;rfl
 rw[e,wrap_nat hy,orS_nat (by omega) hy];congr 1;have:=Nat.shiftLeft_add_eq_or_of_lt hx b;rw[Nat.shiftLeft_eq]at this;rw[Nat.or_comm,←this,Nat.mul_comm];omega
def bytesAt (l:List Nat) (i:Nat):List Nat:=(l.drop (8*i)).take 8
def wordsS (l:List Nat):List Int:=((List.range (l.length/8)).map fun i=>(wordS (bytesAt l i):Int)) ++ [((wordS (bytesAt l (l.length/8))+l.length%256*72057594037927936:Nat):Int)]
def sumS (ka kb:Int) (l:List Nat):Int:=endW ((wordsS l).foldl takeW (beginW ka kb))
def stateS (ka kb:Int) (l:List Nat) (i:Nat):W4:=((wordsS l).take i).foldl takeW (beginW ka kb)
theorem wordsS_len (l:List Nat):(wordsS l).length=l.length/8+1:=by simp[wordsS]
theorem wordsS_at {l:List Nat} {i:Nat} (h:i<l.length/8):(wordsS l)[i]?=some (wordS (bytesAt l i):Int):=by
 unfold wordsS;rw[List.getElem?_append_left (by simp[h])];simp[h]
theorem wordsS_last (l:List Nat):(wordsS l)[l.length/8]?=some ((wordS (bytesAt l (l.length/8))+l.length%256*72057594037927936:Nat):Int):=by
 unfold wordsS;rw[List.getElem?_append_right (by simp)];simp
theorem stateS_succ {ka kb:Int} {l:List Nat} {i:Nat} {x:Int} (h:(wordsS l)[i]?=some x):stateS ka kb l (i+1)=takeW (stateS ka kb l i) x:=by
 unfold stateS;rw[List.take_add_one,h];simp
theorem stateS_all (ka kb:Int) (l:List Nat):endW (stateS ka kb l (l.length/8+1))=sumS ka kb l:=by
 unfold stateS sumS;rw[List.take_of_length_le (by rw[wordsS_len];omega)]
end Go.Proofs.YtgbndaiifbogmaaGreat
namespace Go.Proofs.YtgbndaiifbogmaaGreat
open Go.RowKit
section
variable {P:Program} {w w':World} {g:Nat} {e:TypeId} {cs vs:Array Value} {S:List Nat}
def putAt (cs:Array Value):Nat→List Value→Array Value
 |_,[]=>cs
 |o,v::r=>putAt (cs.setIfInBounds o v) (o+1) r
theorem putAt_size:∀(vs:List Value) (o:Nat) (cs:Array Value),(putAt cs o vs).size=cs.size
 |[],_,_=>rfl
 |v::r,o,cs=>by unfold putAt;rw[putAt_size r];simp
theorem putAt_get:∀(vs:List Value) (o:Nat) (cs:Array Value) (j:Nat),j<cs.size→(putAt cs o vs)[j]?=if o≤j∧j<o+vs.length then vs[j-o]? else cs[j]?
 |[],o,cs,j,hj=>by
  rw[if_neg (by simp)];rfl
 |v::r,o,cs,j,hj=>by
  unfold putAt;rw[putAt_get r (o+1) _ j (by simpa using hj)];by_cases h0:j=o
  ·subst h0;rw[if_neg (by omega),if_pos (by simp)];simp[hj]
  ·by_cases h1:o+1≤j∧j<o+1+r.length
   ·rw[if_pos h1,if_pos (by simp;omega)];rw[show j-o=(j-(o+1))+1 by omega,List.getElem?_cons_succ]
   ·rw[if_neg h1,if_neg (by simp;omega),Array.getElem?_setIfInBounds,if_neg (by omega)]
theorem putAt_all (h:vs.size=cs.size):putAt cs 0 vs.toList=vs:=by
 apply Array.ext_getElem?;intro j;by_cases hj:j<cs.size
 ·rw[putAt_get _ _ _ _ hj,if_pos (by simp;omega)];simp
 ·rw[Array.getElem?_eq_none (by rw[putAt_size];omega),Array.getElem?_eq_none (by omega)]
theorem Blk.setCells:∀(l:List Value) (o:Nat) (cs:Array Value) {w:World},Blk w g e cs→Blk (w.setCells g o l) g e (putAt cs o l)
 |[],_,_,_,h=>h
 |v::r,o,cs,w,h=>Blk.setCells r (o+1) _ (h.set_ o v)
theorem Chg.setCells:∀(l:List Value) (o:Nat) {w:World},Chg [g] w (w.setCells g o l)
 |[],_,w=>Chg.refl _ _
 |v::r,o,w=>((Chg.refl [g] w).setCell (p:=⟨g,o,none⟩) (.inl (by simp)) v).trans (Chg.setCells r (o+1))
theorem zs {ops:Array Oper} {rest:List Oper} {op:Oper} {a:Act} {Q:Exit→Act→World→Prop} (hgd:op.guard=none) (ty:TypeId) (x y:Operand) (ho:op.op=.store ty x y) (hd:op.dst=none)
  (hb:Blk w g e cs) (hx:a.eval x=.pointer (some ⟨g,0,none⟩)) (hy:a.eval y=.agg vs) (hsz:vs.size=cs.size) (hi:(P.info? ty).map (·.size)=some vs.size) (h1:vs.toList.all (·.oneCell')=true)
  (h:∀w',Blk w' g e vs→Chg [g] w w'→wpList P ops Q rest a w'):wpList P ops Q (op::rest) a w:=by
 refine wpList_store_mid hgd ty x y ho g 0 vs hx hy (fun j hj=>?_) hi ?_ ?_
 ·rw[Nat.zero_add,hb.cell,hb.frozen];exact⟨by rw[Array.getElem?_eq_getElem (show j<cs.size by omega)];rfl,rfl⟩
 ·simpa using h1
 ·have e1:a.put op.dst undef=a:=by rw[hd];rfl
  rw[e1];have hb':=Blk.setCells vs.toList 0 cs hb;rw[putAt_all hsz]at hb';exact h _ hb' (Chg.setCells _ _)
theorem zl {ops:Array Oper} {rest:List Oper} {op:Oper} {a:Act} {Q:Exit→Act→World→Prop} (hgd:op.guard=none) (ty:TypeId) (x:Operand) (ho:op.op=.load ty x)
  (hb:Blk w g e cs) (hx:a.eval x=.pointer (some ⟨g,0,none⟩)) (d:TypeDesc) (hu:P.underlying ty=some d) (hd:d.isRow=true) (hi:(P.info? ty).map (·.size)=some cs.size)
  (h:wpList P ops Q rest (a.put op.dst (.agg cs)) w):wpList P ops Q (op::rest) a w:=
 wpList_load_mid hgd ty x ho g 0 hx cs.toList d (fun j v hv=>by rw[Nat.zero_add,hb.cell];simpa using hv) hu hd (by simpa using hi) (by simpa using h)
theorem results_blk {fn:Func} {p:Tmp} {ty:TypeId} (h:fn.results=#[.cell p ty]) {tmps:Array Value} (hp:tmps.getD p undef=.pointer (some ⟨g,0,none⟩)) (hb:Blk w g e cs)
  (d:TypeDesc) (hu:P.underlying ty=some d) (hd:d.isRow=true) (hi:(P.info? ty).map (·.size)=some cs.size):(results fn tmps).run P w=.ok (.agg cs) w:=
 results_cell_row h tmps w g e cs (0,0) d hp hb hu (by cases d<;>simp_all) hi
theorem run_loadVar_blk (hb:Blk w g e cs) (ty:TypeId) (d:TypeDesc) (hu:P.underlying ty=some d) (hd:d.isRow=true) (hi:(P.info? ty).map (·.size)=some cs.size) :
  (loadVar ty ⟨g,0,none⟩).run P w=.ok (.agg cs) w:=
 run_loadVar_row (P:=P) w g e ty cs (0,0) d hb hu (by cases d<;>simp_all) hi
theorem zr {fn:Func} {p q:Tmp} {ty:TypeId} (h:fn.results=#[.cell p ty,.tmp q]) {tmps:Array Value} (hp:tmps.getD p undef=.pointer (some ⟨g,0,none⟩)) (hb:Blk w g e cs)
  (d:TypeDesc) (hu:P.underlying ty=some d) (hd:d.isRow=true) (hi:(P.info? ty).map (·.size)=some cs.size):(results fn tmps).run P w=.ok (.tuple #[.agg cs,tmps.getD q undef]) w:=by
 have hp':tmps[p]?.getD undef=.pointer (some ⟨g,0,none⟩):=by simpa using hp
 simp[results,h,hp',asAddr,run_loadVar_blk hb ty d hu hd hi]
end
theorem jump_ret {l:Nat} {J:Act→World→Prop} {Q:Exit→Act→World→Prop} {a:Act} {w:World}:Exit.jump l J Q .ret a w=Q .ret a w:=rfl
end Go.Proofs.YtgbndaiifbogmaaGreat
namespace Go.Proofs.YtgbndaiifbogmaaGreat
open Go.RowKit
section
variable {P:Program} {t e:TypeId} {z:Value} {size bytes:Nat} {w:World}
theorem cut_mid (el:El P t e z size bytes) {A:Option Addr} {n c lo hi B:Nat} {xs:List Value} (h:Sl w B size (.slice A n c) n xs) (h1:lo≤hi) (h2:hi≤n) :
  ∃X,(∀W:World,(Instr.slice t (.slice A n c) (some (.int .i64 (lo:Int))) (some (.int .i64 (hi:Int))) none).run P W=.ok (.slice X (hi-lo) (c-lo)) W) ∧
   Sl w B size (.slice X (hi-lo) (c-lo)) (hi-lo) ((xs.drop (lo*size)).take ((hi-lo)*size)):=by
 obtain⟨i,hi0,hz,hs,hb⟩:=info_parts el.info;have hcap:n≤c:=by
  obtain⟨_,A',c',hv,hc,_⟩:=h;simp only[Value.slice.injEq,true_and]at hv;omega
 refine⟨if c=lo then A else A.map (·.add (lo*size)),fun W=>?_,?_⟩
 ·have e2:hi≤c:=by omega
  simp[Instr.slice,run_underlying el.ht,Instr.sliceBounds,Instr.sliceBound,asIntOf,h1,e2,sizeOf,typeInfo,hi0,hs,go_sem]
 ·have hd:=h.drop (k:=lo) (by omega);have ht:=Sl.take hd (k:=hi-lo) (by omega);exact ht
theorem cut_from (el:El P t e z size bytes) {A:Option Addr} {n c lo B:Nat} {xs:List Value} (h:Sl w B size (.slice A n c) n xs) (h1:lo≤n) :
  ∃X,(∀W:World,(Instr.slice t (.slice A n c) (some (.int .i64 (lo:Int))) none none).run P W=.ok (.slice X (n-lo) (c-lo)) W) ∧
   Sl w B size (.slice X (n-lo) (c-lo)) (n-lo) (xs.drop (lo*size)):=by
 obtain⟨i,hi0,hz,hs,hb⟩:=info_parts el.info;refine⟨if c=lo then A else A.map (·.add (lo*size)),fun W=>?_,h.drop h1⟩;simp[Instr.slice,run_underlying el.ht,Instr.sliceBounds,Instr.sliceBound,asIntOf,h1,sizeOf,typeInfo,hi0,hs,go_sem]
theorem cut_to (el:El P t e z size bytes) {A:Option Addr} {n c hi B:Nat} {xs:List Value} (h:Sl w B size (.slice A n c) n xs) (h2:hi≤n) :
  (∀W:World,(Instr.slice t (.slice A n c) none (some (.int .i64 (hi:Int))) none).run P W=.ok (.slice A hi c) W)∧Sl w B size (.slice A hi c) hi (xs.take (hi*size)):=by
 obtain⟨i,hi0,hz,hs,hb⟩:=info_parts el.info;have hcap:n≤c:=by
  obtain⟨_,A',c',hv,hc,_⟩:=h;simp only[Value.slice.injEq,true_and]at hv;omega
 refine⟨fun W=>?_,Sl.take h h2⟩;have e2:hi≤c:=by omega
 simp[Instr.slice,run_underlying el.ht,Instr.sliceBounds,Instr.sliceBound,asIntOf,e2,sizeOf,typeInfo,hi0,hs,go_sem]
end
end Go.Proofs.YtgbndaiifbogmaaGreat
namespace Go.Proofs.YtgbndaiifbogmaaGreat
open Go.RowKit
section
variable {P:Program} {t e:TypeId} {z:Value} {size bytes:Nat} {w:World}
theorem step_app (el:El P t e z size bytes) {ops:Array Oper} {o:Oper} {a:Act} {K:Act→World→Prop} {Q:Exit→Act→World→Prop} {E:Prop} (hgd:o.guard=none) (s x:Operand)
  (ho:o.op=.call {callee:=.builtin .append,args:=#[s,x],argTypes:=#[t,t]})
  (base:Nat) {v:Value} {n:Nat} {xs:List Value} (hs:a.eval s=v) (hown:w.ownsRow base e size v n xs)
  {B:Nat} {sv:Value} {m:Nat} {news:List Value} (hx:a.eval x=sv) (hr:Sl w B size sv m news) (h1:∀u∈news,u.oneCell'=true)
  (h63:n+m≤maxLen) (hbytes:(n+m)*bytes≤140737488355328) (hbase:base≤w.heap.size)
  (h:∀v' w',w'.ownsRow base e size v' (n+m) (xs++news)→Chg v.ownBlock.toList w w'→(v'.ownBlock=v.ownBlock∨v'.ownBlock=some w.heap.size)→K (a.put o.dst v') w') :
  if Region.wanted o (yielded ops a.tmps)=true then Oper.wp P o a w K Q else E:=by
 have hw:Region.wanted o (yielded ops a.tmps)=true:=by simp[Region.wanted,hgd]
 rw[if_pos hw];obtain⟨v',w',hr,h2,h3,h5⟩:=app_run el o.type base hown hr h1 h63 hbytes hbase;unfold Oper.wp execOp;simp only[ho,resolve,invoke,builtin,Sem.run_bind,Sem.run_pure,Result.andThen_ok,List.map_toArray,List.map_cons,List.map_nil,hs,hx,hr];exact h v' w' h2 h3 h5
end
section
variable {P:Program} {w:World} {ops:Array Oper} {rest:List Oper} {o:Oper} {a:Act} {Q:Exit→Act→World→Prop}
theorem wpList_copy_blk (hgd:o.guard=none) (d s:Operand) (dT sT:TypeId) (ho:o.op=.call {callee:=.builtin .copy,args:=#[d,s],argTypes:=#[dT,sT]}) (elem:TypeId) (hu:P.underlying dT=some (.slice elem)) (hsz:(P.info? elem).map (·.size)=some 1)
  {g:Nat} {t:TypeId} {cur:Array Value} (hb:Blk w g t cur) {off dLen dCap:Nat} (hd:a.eval d=.slice (some ⟨g,off,none⟩) dLen dCap)
  {B m:Nat} {sv:Value} {cs:List Value} (hs:a.eval s=sv) (hr:Sl w B 1 sv m cs) (hn:m≤dLen) (h1:∀u∈cs,u.oneCell'=true) (hfit:off+m≤cur.size)
  (h:∀w',Blk w' g t (splice cur.toList off cs).toArray→Chg [g] w w'→wpList P ops Q rest (a.put o.dst (.int .i64 m)) w'):wpList P ops Q (o::rest) a w:=by
 obtain⟨hl,A,c,rfl,hcap,hx⟩:=hr;rw[Nat.mul_one]at hl;rcases Nat.eq_zero_or_pos m with h0|h0
 ·subst h0;have hcs:cs=[]:=List.eq_nil_of_length_eq_zero hl;subst hcs;refine wpList_copy_nothing hgd d s dT sT ho elem hu hsz _ _ dLen dCap 0 c hd hs (Nat.zero_min _) ?_;refine h w ?_ (Chg.refl _ _);simpa[splice]using hb
 ·obtain⟨b,o',rfl,_,hc⟩:=hx h0;refine wpList_copy_own hgd d s dT sT ho elem hu hsz g off dLen dCap ⟨b,o',none⟩ m c hd hs cur t hb cs (by rw[hl];exact (Nat.min_eq_left hn).symm) (fun j v hj=>?_) (by rw[hl];exact hfit) h1 ?_
  ·have:=hc j v hj;unfold Addr.add;split
   ·next hj=>simpa[hj]using this
   ·exact this
  ·rw[hl];refine h _ (by unfold splice;rw[hl];exact setRow_heap w g cur _ t _ hb) ⟨rfl,rfl,rfl,by simp[World.setRow],fun k hk hne=>setRow_other w g k _ (by simpa using hne)⟩
end
theorem splice_all {cur cs:List Value} (h:cs.length=cur.length):splice cur 0 cs=cs:=by simp[splice,h]
end Go.Proofs.YtgbndaiifbogmaaGreat
namespace Go.Proofs.YtgbndaiifbogmaaGreat
open Go.RowKit Go.Maps
theorem lawZ:Keyed Tryz.prog 3:=int_keyed Tryz.underlying3
end Go.Proofs.YtgbndaiifbogmaaGreat
namespace Go.Proofs.YtgbndaiifbogmaaGreat
open Go.RowKit
theorem run_clear_blk {P:Program} {w:World} {g:Nat} {t:TypeId} {cs:Array Value} (hb:Blk w g t cs) (tS e ty:TypeId) (z:Value) (s:Nat) (ht:P.underlying tS=some (.slice e)) (hv:(zeroValue e).run P w=.ok z w)
  (h1:∀v∈z.cells,v.oneCell'=true) (hs:z.cells.size=s) (hs0:0<s) (o n c:Nat) (hfit:o+n*s≤cs.size) :
  ∃vs:List Value,vs.length=n*s∧(Builtin.clear_ #[tS] ty #[.slice (some ⟨g,o,none⟩) n c]).run P w=.ok (.tuple #[]) (w.setCells g o vs):=by
 rcases Nat.eq_zero_or_pos n with h0|h0
 ·subst h0;exact⟨[],by simp,by simp[Builtin.clear_,run_underlying ht,World.setCells]⟩
 ·have hl:(Builtin.zeroCells z.cells n).toList.length=n*s:=by simp[Builtin.zeroCells,hs]
  refine⟨(Builtin.zeroCells z.cells n).toList,hl,?_⟩;have hst:=run_storeCells_cells (P:=P) g o (Builtin.zeroCells z.cells n).toList 0 w (fun j hj=>by
    rw[Nat.add_zero,hb.cell,Array.getElem?_eq_getElem (by rw[hl]at hj;omega)];rfl) (fun j hj=>hb.frozen _) (fun v hv'=>by
    have hv2:v∈(Builtin.zeroCells z.cells n):=by simpa using hv'
    unfold Builtin.zeroCells at hv2;obtain⟨i,hi,rfl⟩:=Array.mem_map.1 hv2;have hm:i%z.cells.size<z.cells.size:=Nat.mod_lt _ (by omega);rw[getElem!_pos z.cells _ hm];exact h1 _ (Array.getElem_mem hm))
  simp only[Nat.add_zero]at hst;obtain⟨m,rfl⟩:∃m,n=m+1:=⟨n-1,by omega⟩;simp[Builtin.clear_,run_underlying ht,hv,hst]
theorem run_clear_all {P:Program} {w:World} {g:Nat} {t:TypeId} {cs:Array Value} (hb:Blk w g t cs) (tS e:TypeId) (z:Value) (s:Nat) (ht:P.underlying tS=some (.slice e)) (hv:(zeroValue e).run P w=.ok z w)
  (h1:∀v∈z.cells,v.oneCell'=true) (hs:z.cells.size=s) (hs0:0<s) (o n c:Nat) (hfit:o+n*s≤cs.size) :
  ∃vs:List Value,vs.length=n*s∧∀ty,(Builtin.clear_ #[tS] ty #[.slice (some ⟨g,o,none⟩) n c]).run P w=.ok (.tuple #[]) (w.setCells g o vs):=by
 obtain⟨vs,hl,hr⟩:=run_clear_blk hb tS e 0 z s ht hv h1 hs hs0 o n c hfit;exact⟨vs,hl,fun ty=>hr⟩
def RowB {α:Type} (enc:α→List Value) (s:Nat) (w:World) (g:Nat) (t:TypeId) (c:Nat) (l:List α):Prop:=
 ∃cs:Array Value,Blk w g t cs∧cs.size=c∧cs.toList.take (l.length*s)=l.flatMap enc
section
variable {α:Type} {enc:α→List Value} {s:Nat} {w w':World} {g:Nat} {t:TypeId} {c:Nat} {l:List α}
theorem RowB.chg {S:List Nat} (h:RowB enc s w g t c l) (hc:Chg S w w') (hg:g∉S):RowB enc s w' g t c l:=by
 obtain⟨cs,hb,r⟩:=h;exact⟨cs,hb.chg hc hg,r⟩
theorem RowB.at_ (he:∀x,(enc x).length=s) (h:RowB enc s w g t c l) {i:Nat} {x:α} (hx:l[i]?=some x) {j:Nat} {v:Value} (hv:(enc x)[j]?=some v):w.cell? ⟨g,i*s+j,none⟩=some v∧w.frozen? ⟨g,i*s+j,none⟩=false:=by
 obtain⟨cs,hb,hc,ht⟩:=h;have hj:j<s:=by have:=(List.getElem?_eq_some_iff.1 hv).1;rwa [he]at this
 have hi:i<l.length:=(List.getElem?_eq_some_iff.1 hx).1;have hlt:i*s+j<l.length*s:=by have:=Nat.mul_le_mul_right s (show i+1≤l.length from hi);rw[Nat.add_mul,Nat.one_mul]at this;omega
 refine⟨?_,hb.frozen _⟩;rw[hb.cell,←Array.getElem?_toList,←List.getElem?_take_of_lt hlt,ht,flat_at he l i j hj,hx];exact hv
theorem putAt_take (he:∀x,(enc x).length=s) {cs:Array Value} {i:Nat} (x:α) (hi:i<l.length) (ht:cs.toList.take (l.length*s)=l.flatMap enc) (hsz:l.length*s≤cs.size) :
  (putAt cs (i*s) (enc x)).toList.take (l.length*s)=(l.set i x).flatMap enc:=by
 apply List.ext_getElem?;intro q;by_cases hq:q<l.length*s
 ·have hs0:0<s:=by rcases Nat.eq_zero_or_pos s with h|h;(subst h;simp at hq);exact h
  have e0:q/s*s+q%s=q:=by rw[Nat.mul_comm];exact Nat.div_add_mod q s
  have hm:q%s<s:=Nat.mod_lt _ hs0;rw[List.getElem?_take_of_lt hq,Array.getElem?_toList,putAt_get _ _ _ _ (by omega),he];rw[←e0,flat_at he (l.set i x) _ _ hm,e0];by_cases hqi:q/s=i
  ·have h1:i*s≤q∧q<i*s+s:=by rw[hqi]at e0;omega
   have h2:q-i*s=q%s:=by rw[hqi]at e0;omega
   rw[if_pos h1,h2,hqi,List.getElem?_set_self hi];rfl
  ·have h1:¬(i*s≤q∧q<i*s+s):=fun h=>hqi (by
    have:q/s=i:=by
     rw[Nat.div_eq_iff hs0];omega
    exact this)
   rw[if_neg h1,List.getElem?_set_ne (Ne.symm hqi),←flat_at he l _ _ hm,e0,←ht,List.getElem?_take_of_lt hq,Array.getElem?_toList]
 ·rw[List.getElem?_eq_none (by rw[List.length_take];omega),List.getElem?_eq_none (by rw[flat_len he,List.length_set];omega)]
theorem RowB.put (he:∀x,(enc x).length=s) (h:RowB enc s w g t c l) {i:Nat} (x:α) (hi:i<l.length) (hsz:l.length*s≤c):RowB enc s (w.setCells g (i*s) (enc x)) g t c (l.set i x):=by
 obtain⟨cs,hb,hc,ht⟩:=h;exact⟨_,Blk.setCells _ _ _ hb,by rw[putAt_size];exact hc,by rw[List.length_set];exact putAt_take he x hi ht (by omega)⟩
theorem RowB.cut (he:∀x,(enc x).length=s) (h:RowB enc s w g t c l) {k:Nat} (vs:List Value) (hk:k≤l.length) (hsz:l.length*s≤c):RowB enc s (w.setCells g (k*s) vs) g t c (l.take k):=by
 obtain⟨cs,hb,hc,ht⟩:=h;refine⟨_,Blk.setCells _ _ _ hb,by rw[putAt_size];exact hc,?_⟩;have hkl:(l.take k).length=k:=by rw[List.length_take];omega
 have hks:k*s≤l.length*s:=Nat.mul_le_mul_right _ hk;rw[hkl,←flat_take he,←ht,List.take_take,Nat.min_eq_left hks];apply List.ext_getElem?;intro q;by_cases hq:q<k*s
 ·rw[List.getElem?_take_of_lt hq,List.getElem?_take_of_lt hq,Array.getElem?_toList,Array.getElem?_toList,putAt_get _ _ _ _ (by omega),if_neg (by omega)]
 ·rw[List.getElem?_take_eq_none (by omega),List.getElem?_take_eq_none (by omega)]
end
end Go.Proofs.YtgbndaiifbogmaaGreat

/-
  Small laws and walks on the way to LearnReads: Ic, To, Wt, Tp. Conditions: each theorem names its own.
-/
import Derived.Test.YtgbndaiifbogmaaGreatY10
import Derived.Test.YtgbndaiifbogmaaGreatY01
import Derived.Test.YtgbndaiifbogmaaGreatY11
set_option linter.unusedVariables false
set_option linter.unusedSimpArgs false
set_option maxRecDepth 100000
set_option maxHeartbeats 8000000
namespace Go.Proofs.YtgbndaiifbogmaaGreat
open Go.RowKit Go.Maps
theorem ownsRow_less {w:World} {B B' size n:Nat} {e:TypeId} {v:Value} {xs:List Value} (h:w.ownsRow B e size v n xs) (hB:B'≤B):w.ownsRow B' e size v n xs:=by
 refine⟨h.1,?_⟩;rcases h.2 with h2 | ⟨g,cap,cur,hv,hg,r⟩
 ·exact .inl h2
 ·exact .inr ⟨g,cap,cur,hv,by omega,r⟩
@[reducible] def arrMs (k c wd:Nat) (bv:Value):Array Value:=#[.int .i64 k,.int .i64 c,.int .u32 wd,bv]
theorem infMs {k c wd:Nat} {bv:Value}:(Tryz.prog.info? 36).map (·.size)=some (arrMs k c wd bv).size:=by
 show _=some 4;kernel_rfl
def MsPost (x:Ans Ms) (B:Nat) (e:Ending) (w':World):Prop:=match x with
 |.error n=>e=.returned (.tuple #[.agg (arrMs 0 0 0 noV),.int .i64 n])
 |.ok m=>∃A n c,e=.returned (.tuple #[.agg (arrMs m.kind m.code m.word (.slice A n c)),.int .i64 0])∧SlY w' B (.slice A n c) m.body
theorem MsPost.err {x:Ans Ms} {B:Nat} {w':World} {n:Int} (h:x=.error n):MsPost x B (.returned (.tuple #[.agg (arrMs 0 0 0 noV),.int .i64 n])) w':=by subst h;rfl
theorem MsPost.ok {x:Ans Ms} {B:Nat} {w':World} {m:Ms} {A:Option Addr} {n c:Nat} (h:x=.ok m) (hs:SlY w' B (.slice A n c) m.body) :
  MsPost x B (.returned (.tuple #[.agg (arrMs m.kind m.code m.word (.slice A n c)),.int .i64 0])) w':=by subst h;exact⟨A,n,c,rfl,hs⟩
theorem icmp_any {src dst:Ad} (hsr:okA src) (hds:okA dst) {w:World} {B:Nat} {v:Value} {l:By} (h:SlY w B v l) (hb:okB l) (hl:l.length≤1000000) :
  Calls Tryz.prog 382 #[src.v,dst.v,v] w fun e w'=>MsPost (icmpS src dst l) w.heap.size e w'∧Chg [] w w':=by
 have hs:=h.less (Nat.zero_le _);have HS:=zH hs;obtain⟨A,c,rfl⟩:=hs.form;have hA:=(((Chg.refl [] w).alloc (.cells (arrA src) 24)).alloc (.cells (arrA dst) 24)).alloc (.cells (arrMs 0 0 0 noV) 36)
 have hB1:Blk (((w.alloc (.cells (arrA src) 24)).alloc (.cells (arrA dst) 24)).alloc (.cells (arrMs 0 0 0 noV) 36)) w.heap.size 24 (arrA src):=((Blk.new _ _ _).alloc _).alloc _
 have hB2:Blk (((w.alloc (.cells (arrA src) 24)).alloc (.cells (arrA dst) 24)).alloc (.cells (arrMs 0 0 0 noV) 36)) (w.heap.size+1) 24 (arrA dst):=(Blk.new' (by simp)).alloc _
 have hB6:Blk (((w.alloc (.cells (arrA src) 24)).alloc (.cells (arrA dst) 24)).alloc (.cells (arrMs 0 0 0 noV) 36)) (w.heap.size+1+1) 36 (arrMs 0 0 0 noV):=Blk.new' (by simp);have HA:=zH hA;have FF:=zH (fun (W:World) (hc:Chg [] w W)=>cfine_any hsr hds 58 (hs.chg0 hc) hb hl)
 have hg6:w.heap.size≤w.heap.size+1+1:=by omega
 by_cases h8:l.length<8
 ·have hE:Hid (icmpS src dst l=.error 3):=zH (by unfold icmpS;rw[if_pos h8]);have hI:(l.length:Int)<8:=by omega
  generalize l.length=N at *;clear h hs hb hl hA hB1 hB2 hsr hds;go_enter Tryz.func382,Tryz.ntmps382
  go_wp2_with (first
   |(refine zs (vs:=arrMs 0 0 0 noV) rfl 36 (.tmp 6) (.tmp 13) rfl rfl hB6 rfl rfl rfl infMs rfl ?_;intro w9 hB9 hc9)
   |fail)
  refine bodyPost_ret (zr rfl rfl hB9 _ Tryz.underlying36 rfl infMs) rfl ?_;exact⟨MsPost.err hE.out,HA.out.trans' hc9 (zN (by omega))⟩
 ·have hI:¬(l.length:Int)<8:=by omega
  obtain⟨b,o,c',e,hcap,_,hcell⟩:=hs.all (by omega);simp only[Value.slice.injEq]at e;obtain⟨rfl,e2,rfl⟩:=e;clear e2;have FV:=zH (fun (W:World) (hc:Chg [] w W)=>(show Calls Tryz.prog 104 #[.slice (some ⟨b,o,none⟩) l.length c,.int .i64 4] W _ from u32_any (hs.chg0 hc) hb hl (at_:=4) (by omega)))
  have HE:Hid (icmpS src dst l=if fineC src dst 58 l=false then .error 6 else .ok ⟨gB l 0,gB l 1,w4 l 4,l.drop 8⟩):=zH (by
   conv=>lhs;unfold icmpS
   rw[if_neg h8])
  have HC:Hid (∀i,i<l.length→∀W,Chg [] w W→W.cell? ⟨b,o+i,none⟩=some (.int .u8 (gB l i:Nat))):=zH (fun i hi W hc=>hc.cell (hcell i (by omega)) (by simp));obtain⟨X,hXr,hsX⟩:=cutYf hs (lo:=8) (by omega)
  have HXr:Hid (∀W:World,(Instr.slice 22 (.slice (some ⟨b,o,none⟩) l.length c) (some (.int .i64 8)) none none).run Tryz.prog W=.ok (.slice X (l.length-8) (c-8)) W):=zH hXr;have FC:=zH (fun (W:World) (hc:Chg [] w W)=>cloneY_any (hsX.chg0 hc) (by rw[List.length_drop];omega));have g0:=gB_lt hb 0
  have g1:=gB_lt hb 1;have k0:=HC.out 0 (by omega);have k1:=HC.out 1 (by omega);rw[Nat.add_zero]at k0;have i0:(0:Int)<(l.length:Int):=by omega
  have i0n:0<l.length:=by omega
  have i1:(1:Int)<(l.length:Int):=by omega
  have wz0:IntKind.i64.wrap ((gB l 0:Nat):Int)=(gB l 0:Nat):=by rw[IntKind.wrap_i64];omega
  have wz1:IntKind.i64.wrap ((gB l 1:Nat):Int)=(gB l 1:Nat):=by rw[IntKind.wrap_i64];omega
  generalize gB l 0=x0 at *;generalize gB l 1=x1 at *;generalize w4 l 4=y4 at *;generalize l.drop 8=m at *;generalize fineC src dst 58 l=fn at *;generalize l.length=N at *;clear h hs hb hl hA hsr hds hcell h8 hXr hsX;go_enter Tryz.func382,Tryz.ntmps382
  go_wp2_with (first
   |(refine zl rfl 24 (.tmp 3) rfl hB1 rfl _ Tryz.underlying24 rfl infAd ?_)
   |(refine zl rfl 24 (.tmp 4) rfl hB2 rfl _ Tryz.underlying24 rfl infAd ?_)
   |fail)
  refine (FF.out _ HA.out).mono ?_;rintro e w3 ⟨rfl,hc3⟩;have hB6':=hB6.chg hc3 (by simp);have HC3:=zH (HA.out.trans hc3);have hsz3:=hc3.size;have hg63:w.heap.size+1+1<w3.heap.size:=by have:=hB6.lt;omega
  clear hB1 hB2 hB6 hc3 FF hsz3;generalize hg:w.heap.size+1+1=g6 at *;cases fn with
  |false=>
   have hE:Hid (icmpS src dst l=.error 6):=zH (by rw[HE.out,if_pos rfl]);go_wp2_with (first
    |(refine zs (vs:=arrMs 0 0 0 noV) rfl 36 (.tmp 6) (.tmp 20) rfl rfl hB6' rfl rfl rfl infMs rfl ?_;intro w9 hB9 hc9)
    |fail)
   refine bodyPost_ret (zr rfl rfl hB9 _ Tryz.underlying36 rfl infMs) rfl ?_;exact⟨MsPost.err hE.out,HC3.out.trans' hc9 (zN (by omega))⟩
  |true=>
   have hE:Hid (icmpS src dst l=.ok ⟨x0,x1,y4,m⟩):=zH (by rw[HE.out,if_neg (by simp)]);go_upto_region 5 with fail
   have HBz:=zH hB6';have k0w:∀W:World,Chg [] w3 W→W.cell? ⟨b,o,none⟩=some (.int .u8 (x0:Nat)):=fun W hc=>k0 W (HC3.out.trans hc)
   have k1w:∀W:World,Chg [] w3 W→W.cell? ⟨b,o+1,none⟩=some (.int .u8 (x1:Nat)):=fun W hc=>k1 W (HC3.out.trans hc)
   have hXr:=HXr.out;have hS0:Chg [] w3 w3.drew:=(Chg.refl [] w3).drew;refine wp_region_held_drew (S:=Chg [] w3) (by kernel_rfl) hS0 (fun _=>?_);refine zU 0 rfl (by go_simp<;>with_reducible rfl) ?_
   try simp only[zP]
   refine zU 1 rfl (by go_simp<;>with_reducible rfl) ?_
   try simp only[zP]
   refine zT 2 rfl (zc (by rfl) 5 (.tmp 22) rfl b o rfl (.int .u8 (x0:Nat)) _ k0w Tryz.underlying5 rfl) ?_
   try simp only[zP]
   refine zU 3 rfl (by go_simp<;>with_reducible rfl) ?_
   try simp only[zP]
   refine zU 4 rfl (by go_simp<;>with_reducible rfl) ?_
   try simp only[zP]
   refine zU 5 rfl (by go_simp<;>with_reducible rfl) ?_
   try simp only[zP]
   refine zT 6 rfl (zc (by rfl) 5 (.tmp 26) rfl b (o+1) rfl (.int .u8 (x1:Nat)) _ k1w Tryz.underlying5 rfl) ?_
   try simp only[zP]
   refine zU 7 rfl (by go_simp<;>with_reducible rfl) ?_
   try simp only[zP]
   refine zU 8 rfl (by go_simp<;>with_reducible rfl) ?_
   try simp only[zP]
   refine zU 9 rfl (by go_simp<;>with_reducible rfl) ?_
   try simp only[zP]
   refine wpAnyH_ready (rs:=[10,12]) (by kernel_rfl) (by simp) (AllReadyH.cons rfl (fun K hK=>?_) (AllReadyH.cons rfl (fun K hK=>?_) AllReadyH.nil))
   ·go_simp
    refine (FC.out _ (HC3.out.trans hS0)).mono ?_;rintro e w4 ⟨v9,rfl,ho9,hc4⟩;have hS4:Chg [] w3 w4:=hS0.trans hc4;obtain⟨A9,c9,rfl⟩:=(OwY.sl ho9).form;have hlt9:=own_lt ho9;refine zB hK ?_;clear hK K
    try simp only[zP]
    refine zU 11 rfl (by go_simp<;>with_reducible rfl) ?_
    try simp only[zP]
    refine zR 12 rfl (fun K hK=>?_);refine step_run (v:=.pointer (some ⟨w4.heap.size,0,none⟩)) (w':=w4.alloc (.cells (arrMs 0 0 0 noV) 36)) rfl (by go_simp<;>rfl) ?_;have hS5:Chg [] w3 (w4.alloc (.cells (arrMs 0 0 0 noV) 36)):=hS4.alloc _
    have hB5:Blk (w4.alloc (.cells (arrMs 0 0 0 noV) 36)) w4.heap.size 36 (arrMs 0 0 0 noV):=Blk.new' rfl;have ho5:OwY (w4.alloc (.cells (arrMs 0 0 0 noV) 36)) w3.heap.size (.slice A9 m.length c9) m:=own_chg ho9 ((Chg.refl [] w4).alloc _) (by simp);have hg8:w3.heap.size≤w4.heap.size:=hS4.size
    have hap:w4.heap.size∉(Value.slice A9 m.length c9).ownBlock.toList:=fun hm=>by have:=(hlt9 _ hm).2;omega
    generalize w4.heap.size=g8 at *;generalize w4.alloc (.cells (arrMs 0 0 0 noV) 36)=w5 at *;clear hS4 hc4 ho9 hlt9;refine zB hK ?_;clear hK K
    try simp only[zP]
    refine zR 13 rfl (fun K hK=>?_);refine step_store_blk (vs:=arrMs x0 x1 0 (.slice A9 m.length c9)) rfl 36 (.tmp 8) (.tmp 32) rfl hB5 rfl rfl rfl infMs rfl ?_;intro w6 hB6 hc6;have hS6:Chg [] w3 w6:=hS5.trans' hc6 (fun y hy=>by simp at hy;subst hy;right;omega)
    have ho6:OwY w6 w3.heap.size (.slice A9 m.length c9) m:=own_chg ho5 hc6 (fun y hy hm=>hap (by simp at hm;subst hm;exact hy));refine zB hK ?_;clear hK K
    try simp only[zP]
    refine wpAnyH_done (by kernel_rfl) ?_ _;have HO6:=zH ho6;have HAP:=zH hap;have hB66:=HBz.out.chg hS6 (by simp);have HC6:=zH (HC3.out.trans hS6);clear hS6 ho6 ho5 hS5 hB5 hc6 hS0 k0w k1w hap;go_wp2_with fail;refine (FV.out _ HC6.out).mono ?_;rintro e w7 ⟨rfl,hc7⟩;have hB7:=hB6.chg hc7 (by simp)
    have hB67:=hB66.chg hc7 (by simp);have c2:w7.cell? ⟨g8,2,none⟩=some (.int .u32 0):=hB7.cell 2;have f2:=hB7.frozen 2;have hB8:Blk (w7.setCell ⟨g8,2,none⟩ (.int .u32 (y4:Nat))) g8 36 (arrMs x0 x1 y4 (.slice A9 m.length c9)):=hB7.set_ 2 _
    have hC8:Chg [g8] w7 (w7.setCell ⟨g8,2,none⟩ (.int .u32 (y4:Nat))):=(Chg.refl [g8] w7).setCell (p:=⟨g8,2,none⟩) (.inl (by simp)) _;have ho8:=own_chg (own_chg HO6.out hc7 (by simp)) hC8 (fun y hy hm=>HAP.out (by simp at hm;subst hm;exact hy))
    have HI:=zH (And.intro hB8 (And.intro (hB67.chg hC8 (by simp;omega)) (And.intro ((HC6.out.trans hc7).trans' hC8 (fun y hy=>by simp at hy;subst hy;right;omega)) ho8)));clear hB8 hC8 hB7 hB67 hB66 hB6 hc7 ho8;go_upto_region 7 with fail
    obtain⟨hB8,hB68,hC8,ho8⟩:=HI.out;generalize w7.setCell ⟨g8,2,none⟩ (.int .u32 (y4:Nat))=w8 at *;have HO8:=zH ho8;clear HI c2 f2 ho8;go_wp2_with (first
     |(refine zl rfl 36 (.tmp 8) rfl hB8 rfl _ Tryz.underlying36 rfl infMs ?_)
     |(refine zs (vs:=arrMs x0 x1 y4 (.slice A9 m.length c9)) rfl 36 (.tmp 6) (.tmp 39) rfl rfl hB68 rfl rfl rfl infMs rfl ?_;intro w9 hB9 hc9)
     |fail)
    refine bodyPost_ret (zr rfl rfl hB9 _ Tryz.underlying36 rfl infMs) rfl ?_;have hs9:SlY w9 w.heap.size (.slice A9 m.length c9) m:=SlY.less (Sl.of_own (own_chg HO8.out hc9 (fun y hy hm=>by have:=(own_lt HO8.out y hy).1;simp at hm;omega))) HC3.out.size
    exact⟨MsPost.ok (m:=⟨x0,x1,y4,m⟩) hE.out hs9,hC8.trans' hc9 (zN (by omega))⟩
   ·refine step_run (v:=.pointer (some ⟨w3.heap.size,0,none⟩)) (w':=w3.drew.alloc (.cells (arrMs 0 0 0 noV) 36)) rfl (by go_simp<;>rfl) ?_;have hS4:Chg [] w3 (w3.drew.alloc (.cells (arrMs 0 0 0 noV) 36)):=hS0.alloc _
    have hB4:Blk (w3.drew.alloc (.cells (arrMs 0 0 0 noV) 36)) w3.heap.size 36 (arrMs 0 0 0 noV):=Blk.new' rfl;have hsz4:(w3.drew.alloc (.cells (arrMs 0 0 0 noV) 36)).heap.size=w3.heap.size+1:=by simp
    generalize hw4:w3.drew.alloc (.cells (arrMs 0 0 0 noV) 36)=w4 at *;clear hw4;refine zB hK ?_;clear hK K
    try simp only[zP]
    refine zR 10 rfl (fun K hK=>?_);go_simp
    refine (FC.out _ (HC3.out.trans hS4)).mono ?_;rintro e w5 ⟨v9,rfl,ho9,hc5⟩;have hS5:Chg [] w3 w5:=hS4.trans hc5;have hB5:=hB4.chg hc5 (by simp);obtain⟨A9,c9,rfl⟩:=(OwY.sl ho9).form;have hlt9:=own_lt ho9;have ho5:OwY w5 w3.heap.size (.slice A9 m.length c9) m:=ownsRow_less ho9 (by omega)
    have hap:w3.heap.size∉(Value.slice A9 m.length c9).ownBlock.toList:=fun hm=>by have:=(hlt9 _ hm).1;omega
    have hg8:w3.heap.size≤w3.heap.size:=Nat.le_refl _;clear hS4 hc5 ho9 hlt9 hB4;refine zB hK ?_;clear hK K
    try simp only[zP]
    refine zU 11 rfl (by go_simp<;>with_reducible rfl) ?_
    try simp only[zP]
    refine zR 13 rfl (fun K hK=>?_);refine step_store_blk (vs:=arrMs x0 x1 0 (.slice A9 m.length c9)) rfl 36 (.tmp 8) (.tmp 32) rfl hB5 rfl rfl rfl infMs rfl ?_;intro w6 hB6 hc6;have hS6:Chg [] w3 w6:=hS5.trans' hc6 (fun y hy=>by simp at hy;subst hy;right;omega)
    have ho6:OwY w6 w3.heap.size (.slice A9 m.length c9) m:=own_chg ho5 hc6 (fun y hy hm=>hap (by simp at hm;subst hm;exact hy));refine zB hK ?_;clear hK K
    try simp only[zP]
    refine wpAnyH_done (by kernel_rfl) ?_ _;have HO6:=zH ho6;have HAP:=zH hap;have hB66:=HBz.out.chg hS6 (by simp);have HC6:=zH (HC3.out.trans hS6);clear hS6 ho6 ho5 hS5 hB5 hc6 hS0 k0w k1w hap;go_wp2_with fail;refine (FV.out _ HC6.out).mono ?_;rintro e w7 ⟨rfl,hc7⟩;have hB7:=hB6.chg hc7 (by simp)
    have hB67:=hB66.chg hc7 (by simp);have c2:w7.cell? ⟨w3.heap.size,2,none⟩=some (.int .u32 0):=hB7.cell 2;have f2:=hB7.frozen 2;have hB8:Blk (w7.setCell ⟨w3.heap.size,2,none⟩ (.int .u32 (y4:Nat))) w3.heap.size 36 (arrMs x0 x1 y4 (.slice A9 m.length c9)):=hB7.set_ 2 _
    have hC8:Chg [w3.heap.size] w7 (w7.setCell ⟨w3.heap.size,2,none⟩ (.int .u32 (y4:Nat))):=(Chg.refl [w3.heap.size] w7).setCell (p:=⟨w3.heap.size,2,none⟩) (.inl (by simp)) _;have ho8:=own_chg (own_chg HO6.out hc7 (by simp)) hC8 (fun y hy hm=>HAP.out (by simp at hm;subst hm;exact hy))
    have HI:=zH (And.intro hB8 (And.intro (hB67.chg hC8 (by simp;omega)) (And.intro ((HC6.out.trans hc7).trans' hC8 (fun y hy=>by simp at hy;subst hy;right;omega)) ho8)));clear hB8 hC8 hB7 hB67 hB66 hB6 hc7 ho8;go_upto_region 7 with fail
    obtain⟨hB8,hB68,hC8,ho8⟩:=HI.out;generalize w7.setCell ⟨w3.heap.size,2,none⟩ (.int .u32 (y4:Nat))=w8 at *;have HO8:=zH ho8;clear HI c2 f2 ho8;go_wp2_with (first
     |(refine zl rfl 36 (.tmp 8) rfl hB8 rfl _ Tryz.underlying36 rfl infMs ?_)
     |(refine zs (vs:=arrMs x0 x1 y4 (.slice A9 m.length c9)) rfl 36 (.tmp 6) (.tmp 39) rfl rfl hB68 rfl rfl rfl infMs rfl ?_;intro w9 hB9 hc9)
     |fail)
    refine bodyPost_ret (zr rfl rfl hB9 _ Tryz.underlying36 rfl infMs) rfl ?_;have hs9:SlY w9 w.heap.size (.slice A9 m.length c9) m:=SlY.less (Sl.of_own (own_chg HO8.out hc9 (fun y hy hm=>by have:=(own_lt HO8.out y hy).1;simp at hm;omega))) HC3.out.size
    exact⟨MsPost.ok (m:=⟨x0,x1,y4,m⟩) hE.out hs9,hC8.trans' hc9 (zN (by omega))⟩
end Go.Proofs.YtgbndaiifbogmaaGreat
namespace Go.Proofs.YtgbndaiifbogmaaGreat
open Go.RowKit Go.Maps
def KZt:KV Tryz.prog 3 Int where
 lit n:=.int .i64 n
 ok n:=(Lit.int .i64 n).wf=true
 key n _:=by simp[WideAt.IsKeyLit]
 inj a b _ _ h:=by injection h
 val n:=.int .i64 n
 law:=lawZ
 isk n h:=by simp[keyOf,Tryz.underlying3,mapKey,h]
 inv v l h:=by
  obtain⟨x,rfl,rfl,hw⟩:=Maps.keyOf_int_inv Tryz.underlying3 h;exact⟨x,hw,rfl,rfl⟩
theorem wf_t {n:Int} (h0:0≤n) (h1:n≤1000000):(Lit.int .i64 n).wf=true:=by
 simp[Lit.wf,IntKind.min,IntKind.max,IntKind.signed,IntKind.bits];omega
theorem wpList_insert {P:Program} {ops:Array Oper} {rest:List Oper} {o:Oper} {a:Act} {w w':World} {Q:Exit→Act→World→Prop} (hgd:o.guard=none) (t:TypeId) (m k x:Operand) (ho:o.op=.insert t m k x) (hd:o.dst=none) {mv kv xv:Value} (hm:a.eval m=mv) (hk:a.eval k=kv) (hx:a.eval x=xv)
  (hr:(Instr.mapUpdate t mv kv xv).run P w=.ok () w') (h:wpList P ops Q rest a w'):wpList P ops Q (o::rest) a w:=by
 refine wpList_plain hgd fun K hK=>?_
 unfold Oper.wp execOp;simp only[ho,hm,hk,hx,Sem.run_bind,Sem.run_pure,Result.andThen_ok,hr];rw[Oper.upon_skip,hd];exact hK _ _ h
def lenM:Int→Option Value:=fun y=>if y=8 then some (.int .i64 8) else if y=4 then some (.int .i64 0) else if y=3 then some (.int .i64 1) else if y=2 then some (.int .i64 2) else if y=1 then some (.int .i64 0) else none
theorem lengths_any (w:World):Calls Tryz.prog 346 #[] w fun e w'=>∃b n s,e=.returned (.map (some b))∧OM KZt w' b n lenM s∧Chg [] w w':=by
 have hmm:=@run_makeMap Tryz.prog;have hA:=(Chg.refl [] w).alloc (.map #[] 0);obtain⟨w1,r1,o1,c1⟩:=(OM.new (K:=KZt) w).put Tryz.underlying410 (by unfold maxLen;omega) (x:=(1:Int)) (wf_t (by omega) (by omega)) (.int .i64 0)
 obtain⟨w2,r2,o2,c2⟩:=o1.put Tryz.underlying410 (by unfold maxLen;omega) (x:=(2:Int)) (wf_t (by omega) (by omega)) (.int .i64 2);obtain⟨w3,r3,o3,c3⟩:=o2.put Tryz.underlying410 (by unfold maxLen;omega) (x:=(3:Int)) (wf_t (by omega) (by omega)) (.int .i64 1)
 obtain⟨w4,r4,o4,c4⟩:=o3.put Tryz.underlying410 (by unfold maxLen;omega) (x:=(4:Int)) (wf_t (by omega) (by omega)) (.int .i64 0);obtain⟨w5,r5,o5,c5⟩:=o4.put Tryz.underlying410 (by unfold maxLen;omega) (x:=(8:Int)) (wf_t (by omega) (by omega)) (.int .i64 8)
 have HO:Hid (∃n s,OM KZt w5 w.heap.size n lenM s):=zH ⟨_,_,o5⟩;have hn:∀y∈[w.heap.size],y∈([]:List Nat)∨w.heap.size≤y:=fun y hy=>by simp at hy;subst hy;right;omega
 have HC:Hid (Chg [] w w5):=zH (((((hA.trans' c1 hn).trans' c2 hn).trans' c3 hn).trans' c4 hn).trans' c5 hn);have R1:=zH r1;have R2:=zH r2;have R3:=zH r3;have R4:=zH r4;have R5:=zH r5;clear o1 o2 o3 o4 o5 c1 c2 c3 c4 c5 hA r1 r2 r3 r4 r5;go_enter Tryz.func346,Tryz.ntmps346
 go_wp2_with (first
  |(refine wpList_insert rfl 410 (.tmp 1) (.const (.int .i64 1)) (.const (.int .i64 0)) rfl rfl rfl rfl rfl R1.out ?_)
  |(refine wpList_insert rfl 410 (.tmp 1) (.const (.int .i64 2)) (.const (.int .i64 2)) rfl rfl rfl rfl rfl R2.out ?_)
  |(refine wpList_insert rfl 410 (.tmp 1) (.const (.int .i64 3)) (.const (.int .i64 1)) rfl rfl rfl rfl rfl R3.out ?_)
  |(refine wpList_insert rfl 410 (.tmp 1) (.const (.int .i64 4)) (.const (.int .i64 0)) rfl rfl rfl rfl rfl R4.out ?_)
  |(refine wpList_insert rfl 410 (.tmp 1) (.const (.int .i64 8)) (.const (.int .i64 8)) rfl rfl rfl rfl rfl R5.out ?_)
  |fail)
 go_ret
 obtain⟨n,s,ho⟩:=HO.out;exact⟨_,n,s,rfl,ho,HC.out⟩
theorem lenM_longO (k:Nat):lenM (k:Int)=(longO k).map (fun m=>Value.int .i64 (m:Nat)):=by
 unfold lenM longO;by_cases h8:k=8
 ·subst h8;rfl
 by_cases h4:k=4
 ·subst h4;rfl
 by_cases h3:k=3
 ·subst h3;rfl
 by_cases h2:k=2
 ·subst h2;rfl
 by_cases h1:k=1
 ·subst h1;rfl
 rw[if_neg (by omega),if_neg (by omega),if_neg (by omega),if_neg (by omega),if_neg (by omega),if_neg (by omega),if_neg h2,if_neg h3,if_neg h8];rfl
theorem infOp {k:Int} {v:Value}:(Tryz.prog.info? 276).map (·.size)=some (#[Value.int .i64 k,v]:Array Value).size:=by
 show _=some 2;kernel_rfl
theorem zeroI (w:World):(zeroValue 3).run Tryz.prog w=.ok (.int .i64 0) w:=by kernel_rfl
theorem fits_any {k:Nat} (hk:k<256) (A:Option Addr) (n c:Nat) (w:World) :
  Calls Tryz.prog 342 #[.agg #[.int .i64 k,.slice A n c]] w fun e w'=>e=.returned (.bool (fitsO k n))∧Chg [] w w':=by
 have hA:=(Chg.refl [] w).alloc (.cells #[.int .i64 k,.slice A n c] 276);have hB:Blk (w.alloc (.cells #[.int .i64 k,.slice A n c] 276)) w.heap.size 276 #[.int .i64 k,.slice A n c]:=Blk.new _ _ _;have HF:Hid (fitsO k n=match longO k with|none=>true|some m=>m==n):=zH rfl
 have HL:Hid (lenM (k:Int)=(longO k).map (fun m=>Value.int .i64 (m:Nat))):=zH (lenM_longO k);have hok:(Lit.int .i64 (k:Int)).wf=true:=wf_t (by omega) (by omega);have HA:=zH hA;go_enter Tryz.func342,Tryz.ntmps342
 go_upto_region 1 with fail
 generalize w.alloc (.cells #[.int .i64 k,.slice A n c] 276)=w1 at *;generalize w.heap.size=g1 at *;have hS0:Chg [] w1 w1.drew:=(Chg.refl [] w1).drew;have k0:∀W:World,Chg [] w1 W→W.cell? ⟨g1,0,none⟩=some (.int .i64 (k:Nat)):=fun W hc=>(hB.chg hc (by simp)).cell 0
 refine wp_region_held_drew (S:=Chg [] w1) (by kernel_rfl) hS0 (fun _=>?_);refine zU 1 rfl (by go_simp<;>with_reducible rfl) ?_
 try simp only[zP]
 refine zT 2 rfl (zc (by rfl) 3 (.tmp 7) rfl g1 0 rfl (.int .i64 (k:Nat)) _ k0 Tryz.underlying3 rfl) ?_
 try simp only[zP]
 refine zR 0 rfl (fun K hK=>?_);go_simp
 refine (lengths_any _).mono ?_;rintro e w2 ⟨b,nn,s,rfl,ho,hc2⟩;have hS2:Chg [] w1 w2:=hS0.trans hc2;have hlk:=OM.look2 ho Tryz.underlying410 (zeroI w2) (x:=(k:Int)) hok
 have hlk':(Instr.lookup 410 (.map (some b)) (.int .i64 (k:Int)) true).run Tryz.prog w2=.ok (.tuple #[(lenM (k:Int)).getD (.int .i64 0),.bool (lenM (k:Int)).isSome]) w2:=hlk;refine zB hK ?_;clear hK K
 try simp only[zP]
 refine zR 3 rfl (fun K hK=>?_);refine step_run (v:=.tuple #[(lenM (k:Int)).getD (.int .i64 0),.bool (lenM (k:Int)).isSome]) (w':=w2) rfl (by go_simp<;>rfl) ?_;refine zB hK ?_;clear hK K
 try simp only[zP]
 refine zU 4 rfl (by go_simp<;>with_reducible rfl) ?_
 try simp only[zP]
 refine zU 5 rfl (by go_simp<;>with_reducible rfl) ?_
 try simp only[zP]
 refine zU 6 rfl (by go_simp<;>with_reducible rfl) ?_
 try simp only[zP]
 refine zU 7 rfl (by go_simp<;>with_reducible rfl) ?_
 try simp only[zP]
 refine zU 8 rfl (by go_simp<;>with_reducible rfl) ?_
 try simp only[zP]
 refine wpAnyH_done (by kernel_rfl) ?_ _;have HC2:=zH (HA.out.trans hS2);have c1:w2.cell? ⟨g1,1,none⟩=some (.slice A n c):=(hB.chg hS2 (by simp)).cell 1;clear hlk hlk' ho hc2 hS2 hS0 k0 hB;rw[HL.out];cases hlo:longO k with
 |none=>
  have hr:Hid (fitsO k n=true):=zH (by rw[HF.out,hlo]);clear HF HL hlo;simp only[Option.map_none,Option.getD_none,Option.isSome_none];go_wp2_with fail;go_ret
  exact⟨by rw[hr.out];rfl,HC2.out⟩
 |some m=>
  have hr:Hid (fitsO k n=(((m:Nat):Int)==(n:Int))):=zH (by
   rw[HF.out,hlo];simp only
   rw[Bool.eq_iff_iff,beq_iff_eq,beq_iff_eq];omega)
  clear HF HL hlo;simp only[Option.map_some,Option.getD_some,Option.isSome_some];go_wp2_with fail;go_ret
  exact⟨by rw[hr.out];rfl,HC2.out⟩
end Go.Proofs.YtgbndaiifbogmaaGreat
namespace Go.Proofs.YtgbndaiifbogmaaGreat
open Go.RowKit Go.Maps
theorem pocan0_any (w:World):Calls Tryz.prog 337 #[.slice none 0 0] w fun e w'=>e=.returned (.int .i64 0)∧Chg [] w w':=by
 go_enter Tryz.func337,Tryz.ntmps337
 go_wp2_with fail;refine wp_loop_rounds 1 ?_;rw[rounds_succ];go_wp2_with fail;go_ret
 exact⟨rfl,Chg.refl _ _⟩
theorem poput0_any (w:World):Calls Tryz.prog 323 #[.slice none 0 0] w fun e w'=>e=.returned (.tuple #[.slice none 0 0,.int .i64 0])∧Chg [] w w':=by
 have F:=zH (pocan0_any w);go_enter Tryz.func323,Tryz.ntmps323
 go_wp2_with fail;refine F.out.mono ?_;rintro e w1 ⟨rfl,hc1⟩;go_wp2_with fail;refine wp_loop_rounds 1 ?_;rw[rounds_succ];go_wp2_with fail;refine wp_loop_rounds 1 ?_;rw[rounds_succ];go_wp2_with fail;go_ret2
 exact⟨rfl,hc1⟩
theorem ptcan0_any (w:World):Calls Tryz.prog 344 #[.slice none 0 0] w fun e w'=>e=.returned (.int .i64 0)∧Chg [] w w':=by
 go_enter Tryz.func344,Tryz.ntmps344
 go_wp2_with fail;refine wp_loop_rounds 1 ?_;rw[rounds_succ];go_wp2_with fail;go_ret
 exact⟨rfl,Chg.refl _ _⟩
theorem ppad0_any (w:World):Calls Tryz.prog 345 #[.int .i64 0] w fun e w'=>e=.returned (.slice none 0 0)∧Chg [] w w':=by
 go_enter Tryz.func345,Tryz.ntmps345
 go_wp2_with fail;go_ret
 exact⟨rfl,Chg.refl _ _⟩
theorem ptput0_any (w:World):Calls Tryz.prog 340 #[.slice none 0 0] w fun e w'=>∃v,e=.returned (.tuple #[v,.int .i64 0])∧OwY w' w.heap.size v []∧Chg [] w w':=by
 have F:=zH (ptcan0_any w);have FP:=zH ppad0_any;go_enter Tryz.func340,Tryz.ntmps340
 go_wp2_with fail;refine F.out.mono ?_;rintro e w1 ⟨rfl,hc1⟩;go_wp2_with fail;refine wp_loop_rounds 1 ?_;rw[rounds_succ];go_wp2_with fail;refine (FP.out _).mono ?_;rintro e w2 ⟨rfl,hc2⟩;have HO:Hid (w2.ownsRow w.heap.size 5 1 (.slice none 0 0) 0 (([]:By).map byV)):=zH (World.ownsRow_nil ..)
 have HS:Hid (Sl w2 0 1 (.slice none 0 0) 0 (([]:By).map byV)):=zH (SlY.nil w2 0);have HC:=zH (hc1.trans hc2);have hz:=HC.out.size;clear hc1 hc2;go_wp2_with (first
  |(at_builtin;refine wpList_app elY rfl (.tmp 33) (.tmp 39) rfl w.heap.size rfl HO.out rfl HS.out (byV_one _) (by simp[maxLen]) (by simp) hz ?_;intro v3 w3 hown3 hc3 hb3)
  |fail)
 go_ret2
 exact⟨_,rfl,by simpa[OwY]using hown3,HC.out.trans' hc3 (fun x hx=>.inr (own_lt HO.out x hx).1)⟩
end Go.Proofs.YtgbndaiifbogmaaGreat
namespace Go.Proofs.YtgbndaiifbogmaaGreat
open Go.RowKit Go.Maps
def TopSays:Prop:=∀(w:World) (v:Value) (l:By),SlY w 0 v l→okB l→l.length≤1000000 →
 Calls Tryz.prog 368 #[v] w fun e w'=>(∃A n c,e=.returned (.tuple #[.slice A n c,.int .i64 (optS l)]))∧Chg [] w w'
@[reducible] def tc0:Sg:=⟨0,0,0,0,0,0,0,0⟩
theorem and_u8 {x:Nat} (h:x<256):bits .and .u8 (x:Int) 15=((x%16:Nat):Int):=by
 have h1:(BitVec.ofInt 8 (x:Int)).toNat=x:=by
  rw[BitVec.ofInt_natCast,BitVec.toNat_ofNat];exact Nat.mod_eq_of_lt (by omega)
 have h2:(BitVec.ofInt 8 (15:Int)).toNat=2 ^ 4-1:=by decide
 show IntKind.u8.wrap ((BitVec.ofInt 8 (x:Int) &&& BitVec.ofInt 8 (15:Int)).toNat:Int)=_;rw[BitVec.toNat_and,h1,h2,Nat.and_two_pow_sub_one_eq_mod,IntKind.wrap_u8'];omega
def TpPost (x:Ans Tp) (B:Nat) (e:Ending) (w':World):Prop:=match x with
 |.error n=>e=.returned (.tuple #[.agg (arrTc tc0 noV noV),.int .i64 n])
 |.ok m=>∃A n c A2 n2 c2,e=.returned (.tuple #[.agg (arrTc m.t (.slice A2 n2 c2) (.slice A n c)),.int .i64 0])∧SlY w' B (.slice A n c) m.pay
theorem TpPost.err {x:Ans Tp} {B:Nat} {w':World} {n:Int} (h:x=.error n):TpPost x B (.returned (.tuple #[.agg (arrTc tc0 noV noV),.int .i64 n])) w':=by subst h;rfl
theorem TpPost.ok {x:Ans Tp} {B:Nat} {w':World} {m:Tp} {A A2:Option Addr} {n c n2 c2:Nat} (h:x=.ok m) (hs:SlY w' B (.slice A n c) m.pay) :
  TpPost x B (.returned (.tuple #[.agg (arrTc m.t (.slice A2 n2 c2) (.slice A n c)),.int .i64 0])) w':=by subst h;exact⟨A,n,c,A2,n2,c2,rfl,hs⟩
theorem tparse_any (HT:TopSays) {w:World} {B:Nat} {v:Value} {l:By} (h:SlY w B v l) (hb:okB l) (hl:l.length≤1000000) :
  Calls Tryz.prog 366 #[v] w fun e w'=>TpPost (tcpS l) w.heap.size e w'∧Chg [] w w':=by
 have hs:=h.less (Nat.zero_le _);obtain⟨A,c,rfl⟩:=hs.form;have hA:=(Chg.refl [] w).alloc (.cells (arrTc tc0 noV noV) 34);have hB2:Blk (w.alloc (.cells (arrTc tc0 noV noV) 34)) w.heap.size 34 (arrTc tc0 noV noV):=Blk.new _ _ _;have HA:=zH hA;by_cases h20:l.length<20
 ·have hE:Hid (tcpS l=.error 3):=zH (by unfold tcpS;rw[if_pos h20]);have hI:(l.length:Int)<20:=by omega
  generalize l.length=N at *;clear h hs hb hl hA;go_enter Tryz.func366,Tryz.ntmps366
  go_wp2_with (first
   |(refine zs (vs:=arrTc tc0 noV noV) rfl 34 (.tmp 2) (.tmp 11) rfl rfl hB2 rfl rfl rfl infTc rfl ?_;intro w9 hB9 hc9)
   |fail)
  refine bodyPost_ret (zr rfl rfl hB9 _ Tryz.underlying34 rfl infTc) rfl ?_;exact⟨TpPost.err hE.out,HA.out.trans' hc9 (zN (by omega))⟩
 ·have hI:¬(l.length:Int)<20:=by omega
  obtain⟨b,o,c',e,hcap,_,hcell⟩:=hs.all (by omega);simp only[Value.slice.injEq]at e;obtain⟨rfl,e2,rfl⟩:=e;clear e2;have HC:Hid (∀i,i<l.length→∀W,Chg [] w W→W.cell? ⟨b,o+i,none⟩=some (.int .u8 (gB l i:Nat))):=zH (fun i hi W hc=>hc.cell (hcell i (by omega)) (by simp));have g12:=gB_lt hb 12
  have g13:=gB_lt hb 13;obtain⟨hd,hhd⟩:∃hd,hd=gB l 12/16*4:=⟨_,rfl⟩;have HE:Hid (tcpS l=if gB l 12%16≠0∨hd<20 then .error 5 else if l.length<hd then .error 3
   else if optS ((l.drop 20).take (hd-20))≠0 then .error (optS ((l.drop 20).take (hd-20)))
   else .ok ⟨⟨(w2 l 0:Nat),(w2 l 2:Nat),(w4 l 4:Nat),(w4 l 8:Nat),(gB l 13:Nat),(w2 l 14:Nat),(w2 l 16:Nat),(w2 l 18:Nat)⟩,l.drop hd⟩):=zH (by
    conv=>lhs;unfold tcpS
    rw[if_neg h20,←hhd,List.drop_take])
  have k12:=HC.out 12 (by omega) _ HA.out;have i12:(12:Int)<(l.length:Int):=by omega
  have q1:((gB l 12:Nat):Int)/16=((gB l 12/16:Nat):Int):=by omega
  have q2:IntKind.i64.wrap ((gB l 12/16:Nat):Int)=((gB l 12/16:Nat):Int):=by rw[IntKind.wrap_i64];omega
  have q3:IntKind.i64.wrap (((gB l 12/16:Nat):Int)*4)=(hd:Int):=by rw[IntKind.wrap_i64];omega
  have q4:bits .and .u8 ((gB l 12:Nat):Int) 15=((gB l 12%16:Nat):Int):=and_u8 g12;have hdlt:hd≤60:=by omega
  have hx:gB l 12%16=gB l 12%16:=rfl;generalize gB l 12/16=x16 at *;generalize hm16:gB l 12%16=m16 at *;generalize gB l 12=x12 at *;clear hhd hx hm16;by_cases hbad:m16≠0∨hd<20
  ·have hE:Hid (tcpS l=.error 5):=zH (by rw[HE.out,if_pos hbad]);by_cases hm:m16=0
   ·subst hm;have hJ:(hd:Int)<20:=by omega
    generalize l.length=N at *;clear h hs hb hl hA HE HC hcell h20 hbad;go_enter Tryz.func366,Tryz.ntmps366
    go_wp2_with (first
     |(refine zs (vs:=arrTc tc0 noV noV) rfl 34 (.tmp 2) (.tmp 27) rfl rfl hB2 rfl rfl rfl infTc rfl ?_;intro w9 hB9 hc9)
     |fail)
    refine bodyPost_ret (zr rfl rfl hB9 _ Tryz.underlying34 rfl infTc) rfl ?_;exact⟨TpPost.err hE.out,HA.out.trans' hc9 (zN (by omega))⟩
   ·have hJ:(((m16:Nat):Int)==0)=false:=by rw[beq_eq_false_iff_ne];omega
    generalize l.length=N at *;clear h hs hb hl hA HE HC hcell h20 hbad;go_enter Tryz.func366,Tryz.ntmps366
    go_wp2_with (first
     |(refine zs (vs:=arrTc tc0 noV noV) rfl 34 (.tmp 2) (.tmp 27) rfl rfl hB2 rfl rfl rfl infTc rfl ?_;intro w9 hB9 hc9)
     |fail)
    refine bodyPost_ret (zr rfl rfl hB9 _ Tryz.underlying34 rfl infTc) rfl ?_;exact⟨TpPost.err hE.out,HA.out.trans' hc9 (zN (by omega))⟩
  ·rw[if_neg hbad]at HE;obtain rfl:m16=0:=by omega
   have hJ:¬(hd:Int)<20:=by omega
   by_cases hlong:l.length<hd
   ·have hE:Hid (tcpS l=.error 3):=zH (by rw[HE.out,if_pos hlong]);have hK:(l.length:Int)<(hd:Int):=by omega
    generalize l.length=N at *;clear h hs hb hl hA HE HC hcell h20 hbad;go_enter Tryz.func366,Tryz.ntmps366
    go_wp2_with (first
     |(refine zs (vs:=arrTc tc0 noV noV) rfl 34 (.tmp 2) (.tmp 32) rfl rfl hB2 rfl rfl rfl infTc rfl ?_;intro w9 hB9 hc9)
     |fail)
    refine bodyPost_ret (zr rfl rfl hB9 _ Tryz.underlying34 rfl infTc) rfl ?_;exact⟨TpPost.err hE.out,HA.out.trans' hc9 (zN (by omega))⟩
   ·rw[if_neg hlong]at HE;have hK:¬(l.length:Int)<(hd:Int):=by omega
    obtain⟨X,hXr,hsX⟩:=cutY2 hs (lo:=20) (hi:=hd) (by omega) (by omega);obtain⟨Y,hYr,hsY⟩:=cutYf hs (lo:=hd) (by omega)
    have HXr:Hid (∀W:World,(Instr.slice 22 (.slice (some ⟨b,o,none⟩) l.length c) (some (.int .i64 20)) (some (.int .i64 (hd:Int))) none).run Tryz.prog W=.ok (.slice X (hd-20) (c-20)) W):=zH hXr
    have HYr:Hid (∀W:World,(Instr.slice 22 (.slice (some ⟨b,o,none⟩) l.length c) (some (.int .i64 (hd:Int))) none none).run Tryz.prog W=.ok (.slice Y (l.length-hd) (c-hd)) W):=zH hYr
    have FT:=zH (fun (W:World) (hc:Chg [] w W)=>HT W _ _ (hsX.chg0 hc) ((hb.drop _).take _) (by rw[List.length_take,List.length_drop];omega));have FC:=zH (fun (W:World) (hc:Chg [] w W)=>cloneY_any (hsY.chg0 hc) (by rw[List.length_drop];omega))
    have FV4:=zH (fun (W:World) (hc:Chg [] w W)=>(show Calls Tryz.prog 104 #[.slice (some ⟨b,o,none⟩) l.length c,.int .i64 4] W _ from u32_any (hs.chg0 hc) hb hl (at_:=4) (by omega)))
    have FV8:=zH (fun (W:World) (hc:Chg [] w W)=>(show Calls Tryz.prog 104 #[.slice (some ⟨b,o,none⟩) l.length c,.int .i64 8] W _ from u32_any (hs.chg0 hc) hb hl (at_:=8) (by omega)))
    have FF:=zH (fun (W:World) (gT:Nat) (t:Sg) (oo p:Value) (hc:Chg [] w W) (hg:w.heap.size≤gT) (hB:Blk W gT 34 (arrTc t oo p))=>tfields_any (hs.chg0 hc) hb hl (by omega) hB (fun W' hc'=>hs.chg0 (hc.trans' hc' (fun y hy=>by simp at hy;subst hy;exact .inr hg))));have k13:=HC.out 13 (by omega)
    have i13:(13:Int)<(l.length:Int):=by omega
    have wz:IntKind.i64.wrap ((gB l 13:Nat):Int)=(gB l 13:Nat):=by rw[IntKind.wrap_i64];omega
    generalize gB l 13=x13 at *;generalize w4 l 4=y4 at *;generalize w4 l 8=y8 at *;generalize w2 l 0=z0 at *;generalize w2 l 2=z2 at *;generalize w2 l 14=z14 at *;generalize w2 l 16=z16 at *;generalize w2 l 18=z18 at *;generalize l.drop hd=m at *;generalize optS ((l.drop 20).take (hd-20))=oe at *
    generalize l.length=N at *;have HXr':=HXr.out;clear h hs hb hl hA HC hcell h20 hbad hXr hsX hYr hsY hlong;go_enter Tryz.func366,Tryz.ntmps366
    go_wp2_with fail;refine (FT.out _ HA.out).mono ?_;rintro e w3 ⟨⟨A5,n5,c5,rfl⟩,hc3⟩;have hB6':=hB2.chg hc3 (by simp);have HC3:=zH (HA.out.trans hc3);have hgz:w.heap.size<w3.heap.size:=hB6'.lt;clear hB2 hc3 FT HXr' HXr;by_cases ho:oe=0
    ·subst ho;have hE:Hid (tcpS l=.ok ⟨⟨z0,z2,y4,y8,x13,z14,z16,z18⟩,m⟩):=zH (by rw[HE.out,if_neg (by simp)]);clear HE;go_upto_region 11 with fail
     have HBz:=zH hB6';have k13w:∀W:World,Chg [] w3 W→W.cell? ⟨b,o+13,none⟩=some (.int .u8 (x13:Nat)):=fun W hc=>k13 W (HC3.out.trans hc)
     have hYr:=HYr.out;have hS0:Chg [] w3 w3.drew:=(Chg.refl [] w3).drew;refine wp_region_held_drew (S:=Chg [] w3) (by kernel_rfl) hS0 (fun _=>?_);refine zU 0 rfl (by go_simp<;>with_reducible rfl) ?_
     try simp only[zP]
     refine zU 1 rfl (by go_simp<;>with_reducible rfl) ?_
     try simp only[zP]
     refine zT 2 rfl (zc (by rfl) 5 (.tmp 45) rfl b (o+13) rfl (.int .u8 (x13:Nat)) _ k13w Tryz.underlying5 rfl) ?_
     try simp only[zP]
     refine zU 3 rfl (by go_simp<;>with_reducible rfl) ?_
     try simp only[zP]
     refine zU 4 rfl (by go_simp<;>with_reducible rfl) ?_
     try simp only[zP]
     refine zU 5 rfl (by go_simp<;>with_reducible rfl) ?_
     try simp only[zP]
     refine zU 6 rfl (by go_simp<;>with_reducible rfl) ?_
     try simp only[zP]
     refine zU 7 rfl (by go_simp<;>with_reducible rfl) ?_
     try simp only[zP]
     refine wpAnyH_ready (rs:=[8,10]) (by kernel_rfl) (by simp) (AllReadyH.cons rfl (fun K hK=>?_) (AllReadyH.cons rfl (fun K hK=>?_) AllReadyH.nil))
     ·go_simp
      refine (FC.out _ (HC3.out.trans hS0)).mono ?_;rintro e w4 ⟨v9,rfl,ho9,hc4⟩;have hS4:Chg [] w3 w4:=hS0.trans hc4;obtain⟨A9,c9,rfl⟩:=(OwY.sl ho9).form;have hlt9:=own_lt ho9;refine zB hK ?_;clear hK K
      try simp only[zP]
      refine zU 9 rfl (by go_simp<;>with_reducible rfl) ?_
      try simp only[zP]
      refine zR 10 rfl (fun K hK=>?_);refine step_run (v:=.pointer (some ⟨w4.heap.size,0,none⟩)) (w':=w4.alloc (.cells (arrTc tc0 noV noV) 34)) rfl (by go_simp<;>rfl) ?_;have hS5:Chg [] w3 (w4.alloc (.cells (arrTc tc0 noV noV) 34)):=hS4.alloc _
      have hB5:Blk (w4.alloc (.cells (arrTc tc0 noV noV) 34)) w4.heap.size 34 (arrTc tc0 noV noV):=Blk.new' rfl;have ho5:OwY (w4.alloc (.cells (arrTc tc0 noV noV) 34)) w3.heap.size (.slice A9 m.length c9) m:=own_chg ho9 ((Chg.refl [] w4).alloc _) (by simp)
      have hg8:w3.heap.size≤w4.heap.size:=hS4.size;have hap:w4.heap.size∉(Value.slice A9 m.length c9).ownBlock.toList:=fun hm=>by have:=(hlt9 _ hm).2;omega
      generalize w4.heap.size=g8 at *;generalize w4.alloc (.cells (arrTc tc0 noV noV) 34)=w5 at *;clear hS4 hc4 ho9 hlt9;refine zB hK ?_;clear hK K
      try simp only[zP]
      refine zR 11 rfl (fun K hK=>?_);refine step_store_blk (vs:=arrTc ⟨0,0,0,0,x13,0,0,0⟩ (.slice A5 n5 c5) (.slice A9 m.length c9)) rfl 34 (.tmp 7) (.tmp 53) rfl hB5 rfl rfl rfl infTc rfl ?_;intro w6 hB6 hc6;have hS6:Chg [] w3 w6:=hS5.trans' hc6 (fun y hy=>by simp at hy;subst hy;right;omega)
      have ho6:OwY w6 w3.heap.size (.slice A9 m.length c9) m:=own_chg ho5 hc6 (fun y hy hm=>hap (by simp at hm;subst hm;exact hy));refine zB hK ?_;clear hK K
      try simp only[zP]
      refine wpAnyH_done (by kernel_rfl) ?_ _;have HO6:=zH ho6;have HAP:=zH hap;have hB66:=HBz.out.chg hS6 (by simp);have HC6:=zH (HC3.out.trans hS6);have HG8:Hid (w.heap.size<g8):=zH (by omega);clear hS6 ho6 ho5 hS5 hB5 hc6 hS0 k13w hap;go_wp2_with fail;refine (FV4.out _ HC6.out).mono ?_
      rintro e w7 ⟨rfl,hc7⟩;have hB7:=hB6.chg hc7 (by simp);have hB67:=hB66.chg hc7 (by simp);have c2:w7.cell? ⟨g8,2,none⟩=some (.int .u32 0):=hB7.cell 2;have f2:=hB7.frozen 2
      have hB8:Blk (w7.setCell ⟨g8,2,none⟩ (.int .u32 (y4:Nat))) g8 34 (arrTc ⟨0,0,y4,0,x13,0,0,0⟩ (.slice A5 n5 c5) (.slice A9 m.length c9)):=hB7.set_ 2 _;have hC8:Chg [g8] w7 (w7.setCell ⟨g8,2,none⟩ (.int .u32 (y4:Nat))):=(Chg.refl [g8] w7).setCell (p:=⟨g8,2,none⟩) (.inl (by simp)) _
      have ho8:=own_chg (own_chg HO6.out hc7 (by simp)) hC8 (fun y hy hm=>HAP.out (by simp at hm;subst hm;exact hy))
      have HI:=zH (And.intro hB8 (And.intro (hB67.chg hC8 (by simp;have:=HG8.out;omega)) (And.intro ((HC6.out.trans hc7).trans' hC8 (fun y hy=>by simp at hy;subst hy;right;have:=HG8.out;omega)) ho8)));clear hB8 hC8 hB7 hB67 hB66 hB6 hc7 ho8;go_upto_region 13 with fail
      obtain⟨hB8,hB68,hC8,ho8⟩:=HI.out;generalize w7.setCell ⟨g8,2,none⟩ (.int .u32 (y4:Nat))=w8 at *;have HC8:=zH hC8;have HO8:=zH ho8;clear HI c2 f2 ho8 hC8;go_wp2_with fail;refine (FV8.out _ HC8.out).mono ?_;rintro e w9 ⟨rfl,hc9⟩;have hB9:=hB8.chg hc9 (by simp);have hB69:=hB68.chg hc9 (by simp)
      have c3:w9.cell? ⟨g8,3,none⟩=some (.int .u32 0):=hB9.cell 3;have f3:=hB9.frozen 3;have hB10:Blk (w9.setCell ⟨g8,3,none⟩ (.int .u32 (y8:Nat))) g8 34 (arrTc ⟨0,0,y4,y8,x13,0,0,0⟩ (.slice A5 n5 c5) (.slice A9 m.length c9)):=hB9.set_ 3 _
      have hC10:Chg [g8] w9 (w9.setCell ⟨g8,3,none⟩ (.int .u32 (y8:Nat))):=(Chg.refl [g8] w9).setCell (p:=⟨g8,3,none⟩) (.inl (by simp)) _;have ho10:=own_chg (own_chg HO8.out hc9 (by simp)) hC10 (fun y hy hm=>HAP.out (by simp at hm;subst hm;exact hy))
      have HI:=zH (And.intro hB10 (And.intro (hB69.chg hC10 (by simp;have:=HG8.out;omega)) (And.intro ((HC8.out.trans hc9).trans' hC10 (fun y hy=>by simp at hy;subst hy;right;have:=HG8.out;omega)) ho10)));clear hB10 hC10 hB9 hB69 hB68 hB8 hc9 ho10;go_upto_region 14 with fail
      obtain⟨hB10,hB610,hC10,ho10⟩:=HI.out;generalize w9.setCell ⟨g8,3,none⟩ (.int .u32 (y8:Nat))=w10 at *;have FF':=zH (FF.out _ _ _ _ _ hC10 (Nat.le_of_lt HG8.out) hB10);have HC10:=zH hC10;have HO10:=zH ho10;clear HI c3 f3 ho10 hC10 hB10;go_wp2_with fail;refine FF'.out.mono ?_
      rintro e w11 ⟨rfl,hB11,hc11⟩;have hB611:=hB610.chg hc11 (by simp;have:=HG8.out;omega);have HC11:=zH (HC10.out.trans' hc11 (fun y hy=>by simp at hy;subst hy;right;have:=HG8.out;omega));have HO11:=zH (own_chg HO10.out hc11 (fun y hy hm=>HAP.out (by simp at hm;subst hm;exact hy)))
      clear hc11 hB610 FF';go_wp2_with (first
       |(refine zl rfl 34 (.tmp 7) rfl hB11 rfl _ Tryz.underlying34 rfl infTc ?_)
       |(refine zs (vs:=arrTc ⟨z0,z2,y4,y8,x13,z14,z16,z18⟩ (.slice A5 n5 c5) (.slice A9 m.length c9)) rfl 34 (.tmp 2) (.tmp 68) rfl rfl hB611 rfl rfl rfl infTc rfl ?_;intro w12 hB12 hc12)
       |fail)
      refine bodyPost_ret (zr rfl rfl hB12 _ Tryz.underlying34 rfl infTc) rfl ?_;have hs12:SlY w12 w.heap.size (.slice A9 m.length c9) m:=SlY.less (Sl.of_own (own_chg HO11.out hc12 (fun y hy hm=>by have:=(own_lt HO11.out y hy).1;simp at hm;omega))) HC3.out.size
      exact⟨TpPost.ok (m:=⟨⟨z0,z2,y4,y8,x13,z14,z16,z18⟩,m⟩) hE.out hs12,HC11.out.trans' hc12 (zN (by omega))⟩
     ·refine step_run (v:=.pointer (some ⟨w3.heap.size,0,none⟩)) (w':=w3.drew.alloc (.cells (arrTc tc0 noV noV) 34)) rfl (by go_simp<;>rfl) ?_;have hS4:Chg [] w3 (w3.drew.alloc (.cells (arrTc tc0 noV noV) 34)):=hS0.alloc _
      have hB4:Blk (w3.drew.alloc (.cells (arrTc tc0 noV noV) 34)) w3.heap.size 34 (arrTc tc0 noV noV):=Blk.new' rfl;have hsz4:(w3.drew.alloc (.cells (arrTc tc0 noV noV) 34)).heap.size=w3.heap.size+1:=by simp
      generalize hw4:w3.drew.alloc (.cells (arrTc tc0 noV noV) 34)=w4 at *;clear hw4;refine zB hK ?_;clear hK K
      try simp only[zP]
      refine zR 8 rfl (fun K hK=>?_);go_simp
      refine (FC.out _ (HC3.out.trans hS4)).mono ?_;rintro e w5 ⟨v9,rfl,ho9,hc5⟩;have hS5:Chg [] w3 w5:=hS4.trans hc5;have hB5:=hB4.chg hc5 (by simp);obtain⟨A9,c9,rfl⟩:=(OwY.sl ho9).form;have hlt9:=own_lt ho9;have ho5:OwY w5 w3.heap.size (.slice A9 m.length c9) m:=ownsRow_less ho9 (by omega)
      have hap:w3.heap.size∉(Value.slice A9 m.length c9).ownBlock.toList:=fun hm=>by have:=(hlt9 _ hm).1;omega
      have hg8:w3.heap.size≤w3.heap.size:=Nat.le_refl _;clear hS4 hc5 ho9 hlt9 hB4;refine zB hK ?_;clear hK K
      try simp only[zP]
      refine zU 9 rfl (by go_simp<;>with_reducible rfl) ?_
      try simp only[zP]
      refine zR 11 rfl (fun K hK=>?_);refine step_store_blk (vs:=arrTc ⟨0,0,0,0,x13,0,0,0⟩ (.slice A5 n5 c5) (.slice A9 m.length c9)) rfl 34 (.tmp 7) (.tmp 53) rfl hB5 rfl rfl rfl infTc rfl ?_;intro w6 hB6 hc6;have hS6:Chg [] w3 w6:=hS5.trans' hc6 (fun y hy=>by simp at hy;subst hy;right;omega)
      have ho6:OwY w6 w3.heap.size (.slice A9 m.length c9) m:=own_chg ho5 hc6 (fun y hy hm=>hap (by simp at hm;subst hm;exact hy));refine zB hK ?_;clear hK K
      try simp only[zP]
      refine wpAnyH_done (by kernel_rfl) ?_ _;have HO6:=zH ho6;have HAP:=zH hap;have hB66:=HBz.out.chg hS6 (by simp);have HC6:=zH (HC3.out.trans hS6);have HG8:Hid (w.heap.size<w3.heap.size):=zH (by omega);clear hS6 ho6 ho5 hS5 hB5 hc6 hS0 k13w hap;go_wp2_with fail;refine (FV4.out _ HC6.out).mono ?_
      rintro e w7 ⟨rfl,hc7⟩;have hB7:=hB6.chg hc7 (by simp);have hB67:=hB66.chg hc7 (by simp);have c2:w7.cell? ⟨w3.heap.size,2,none⟩=some (.int .u32 0):=hB7.cell 2;have f2:=hB7.frozen 2
      have hB8:Blk (w7.setCell ⟨w3.heap.size,2,none⟩ (.int .u32 (y4:Nat))) w3.heap.size 34 (arrTc ⟨0,0,y4,0,x13,0,0,0⟩ (.slice A5 n5 c5) (.slice A9 m.length c9)):=hB7.set_ 2 _
      have hC8:Chg [w3.heap.size] w7 (w7.setCell ⟨w3.heap.size,2,none⟩ (.int .u32 (y4:Nat))):=(Chg.refl [w3.heap.size] w7).setCell (p:=⟨w3.heap.size,2,none⟩) (.inl (by simp)) _;have ho8:=own_chg (own_chg HO6.out hc7 (by simp)) hC8 (fun y hy hm=>HAP.out (by simp at hm;subst hm;exact hy))
      have HI:=zH (And.intro hB8 (And.intro (hB67.chg hC8 (by simp;have:=HG8.out;omega)) (And.intro ((HC6.out.trans hc7).trans' hC8 (fun y hy=>by simp at hy;subst hy;right;have:=HG8.out;omega)) ho8)));clear hB8 hC8 hB7 hB67 hB66 hB6 hc7 ho8;go_upto_region 13 with fail
      obtain⟨hB8,hB68,hC8,ho8⟩:=HI.out;generalize w7.setCell ⟨w3.heap.size,2,none⟩ (.int .u32 (y4:Nat))=w8 at *;have HC8:=zH hC8;have HO8:=zH ho8;clear HI c2 f2 ho8 hC8;go_wp2_with fail;refine (FV8.out _ HC8.out).mono ?_;rintro e w9 ⟨rfl,hc9⟩;have hB9:=hB8.chg hc9 (by simp)
      have hB69:=hB68.chg hc9 (by simp);have c3:w9.cell? ⟨w3.heap.size,3,none⟩=some (.int .u32 0):=hB9.cell 3;have f3:=hB9.frozen 3
      have hB10:Blk (w9.setCell ⟨w3.heap.size,3,none⟩ (.int .u32 (y8:Nat))) w3.heap.size 34 (arrTc ⟨0,0,y4,y8,x13,0,0,0⟩ (.slice A5 n5 c5) (.slice A9 m.length c9)):=hB9.set_ 3 _
      have hC10:Chg [w3.heap.size] w9 (w9.setCell ⟨w3.heap.size,3,none⟩ (.int .u32 (y8:Nat))):=(Chg.refl [w3.heap.size] w9).setCell (p:=⟨w3.heap.size,3,none⟩) (.inl (by simp)) _;have ho10:=own_chg (own_chg HO8.out hc9 (by simp)) hC10 (fun y hy hm=>HAP.out (by simp at hm;subst hm;exact hy))
      have HI:=zH (And.intro hB10 (And.intro (hB69.chg hC10 (by simp;have:=HG8.out;omega)) (And.intro ((HC8.out.trans hc9).trans' hC10 (fun y hy=>by simp at hy;subst hy;right;have:=HG8.out;omega)) ho10)));clear hB10 hC10 hB9 hB69 hB68 hB8 hc9 ho10;go_upto_region 14 with fail
      obtain⟨hB10,hB610,hC10,ho10⟩:=HI.out;generalize w9.setCell ⟨w3.heap.size,3,none⟩ (.int .u32 (y8:Nat))=w10 at *;have FF':=zH (FF.out _ _ _ _ _ hC10 (Nat.le_of_lt HG8.out) hB10);have HC10:=zH hC10;have HO10:=zH ho10;clear HI c3 f3 ho10 hC10 hB10;go_wp2_with fail;refine FF'.out.mono ?_
      rintro e w11 ⟨rfl,hB11,hc11⟩;have hB611:=hB610.chg hc11 (by simp;have:=HG8.out;omega);have HC11:=zH (HC10.out.trans' hc11 (fun y hy=>by simp at hy;subst hy;right;have:=HG8.out;omega));have HO11:=zH (own_chg HO10.out hc11 (fun y hy hm=>HAP.out (by simp at hm;subst hm;exact hy)))
      clear hc11 hB610 FF';go_wp2_with (first
       |(refine zl rfl 34 (.tmp 7) rfl hB11 rfl _ Tryz.underlying34 rfl infTc ?_)
       |(refine zs (vs:=arrTc ⟨z0,z2,y4,y8,x13,z14,z16,z18⟩ (.slice A5 n5 c5) (.slice A9 m.length c9)) rfl 34 (.tmp 2) (.tmp 68) rfl rfl hB611 rfl rfl rfl infTc rfl ?_;intro w12 hB12 hc12)
       |fail)
      refine bodyPost_ret (zr rfl rfl hB12 _ Tryz.underlying34 rfl infTc) rfl ?_;have hs12:SlY w12 w.heap.size (.slice A9 m.length c9) m:=SlY.less (Sl.of_own (own_chg HO11.out hc12 (fun y hy hm=>by have:=(own_lt HO11.out y hy).1;simp at hm;omega))) HC3.out.size
      exact⟨TpPost.ok (m:=⟨⟨z0,z2,y4,y8,x13,z14,z16,z18⟩,m⟩) hE.out hs12,HC11.out.trans' hc12 (zN (by omega))⟩
    ·have hE:Hid (tcpS l=.error oe):=zH (by rw[HE.out,if_pos ho]);have hoI:(oe==0)=false:=by rw[beq_eq_false_iff_ne];exact ho
     clear HE ho;go_wp2_with (first
      |(refine zs (vs:=arrTc tc0 noV noV) rfl 34 (.tmp 2) (.tmp 42) rfl rfl hB6' rfl rfl rfl infTc rfl ?_;intro w9 hB9 hc9)
      |fail)
     refine bodyPost_ret (zr rfl rfl hB9 _ Tryz.underlying34 rfl infTc) rfl ?_;exact⟨TpPost.err hE.out,HC3.out.trans' hc9 (zN (by omega))⟩
end Go.Proofs.YtgbndaiifbogmaaGreat

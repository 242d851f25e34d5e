/-
  Small laws and walks on the way to LearnReads: Ag1, Tf. Conditions: each theorem names its own.
-/
import Derived.Test.YtgbndaiifbogmaaGreatY10
import Derived.Test.YtgbndaiifbogmaaGreatY08
import Derived.Test.YtgbndaiifbogmaaGreatY01
set_option linter.unusedVariables false
set_option linter.unusedSimpArgs false
set_option maxRecDepth 100000
set_option maxHeartbeats 8000000
namespace Go.Proofs.YtgbndaiifbogmaaGreat
open Go.RowKit Go.Maps
@[reducible] def arrPo (l s a t:Int) (f:Value):Array Value:=#[.int .i64 l,.int .i64 s,.int .i64 a,.int .i64 t,f]
@[reducible] def fnAlways:Value:=.func (Fn.func 114) #[] #[]
@[reducible] def arrTy0:Array Value:=#[.int .i64 0,.int .i64 0,.int .i64 0,.int .i64 0,.int .i64 0,.int .i64 0,.int .i64 0,.int .i64 0,.int .i64 0,.int .i64 0,.int .i64 0,.int .i64 0,.int .i64 0,.int .i64 0,.int .i64 0,.int .i64 0]
@[reducible] def arrAg (node load:Int) (tb gp gt:Nat):Array Value:=#[.int .i64 node,.int .i64 load,.pointer (some ⟨tb,0,none⟩),.pointer (some ⟨gp,0,none⟩),.pointer (some ⟨gt,0,none⟩)]
theorem pnew3_any (w:World):Calls Tryz.prog 61 #[.int .i64 3,.int .i64 0,.int .i64 1] w fun e w'=>∃g,e=.returned (.pointer (some ⟨g,0,none⟩))∧Blk w' g 203 (arrPo 0 1 0 0 fnAlways)∧w.heap.size≤g∧Chg [] w w':=by
 have hB:Blk (w.alloc (.cells (arrPo 0 1 0 0 .nilFunc) 203)) w.heap.size 203 (arrPo 0 1 0 0 .nilFunc):=Blk.new _ _ _;have hA:=(Chg.refl [] w).alloc (.cells (arrPo 0 1 0 0 .nilFunc) 203);go_enter Tryz.func61,Tryz.ntmps61
 go_wp2_with (first
  |(refine wpList_store_cell (v:=fnAlways) rfl 201 (.tmp 31) _ rfl rfl hB rfl rfl rfl (by show _<5;omega) (by kernel_rfl) rfl ?_;intro w2 hB2 hc2)
  |fail)
 go_ret
 exact⟨_,rfl,hB2,Nat.le_refl _,hA.trans' hc2 (zN (by omega))⟩
theorem CtS.base {W0 W w:World} {tb K:Nat} {c:TC} {S:List Nat} (h:CtS W w tb K c S) (h0:Chg [] W0 W):CtS W0 w tb K c S:=
 ⟨h.r,h.ci,h0.trans h.chg,fun x hx=>Nat.le_trans h0.size (h.new x hx)⟩
structure AgR (W w:World) (ga:Nat) (node load:Int) (tb gp gt K:Nat) (c:TC) (S:List Nat) (pv dr:Array Value):Prop where
 blk:Blk w ga 113 (arrAg node load tb gp gt)
 ct:CtS W w tb K c S
 po:Blk w gp 203 pv
 ty:Blk w gt 146 dr
 ne:ga∉S∧gp∉S∧gt∉S∧ga≠gp∧ga≠gt∧gp≠gt
 lo:W.heap.size≤ga∧W.heap.size≤gp∧W.heap.size≤gt
theorem anew_any (node:Int) (w:World):Calls Tryz.prog 17 #[.int .i64 node,.int .i64 1,.agg #[.int .i64 3,.int .i64 0,.int .i64 1]] w fun e w'=>
  (if 1≤node∧node≤65535 then ∃ga tb gp gt S,e=.returned (.pointer (some ⟨ga,0,none⟩))∧AgR w w' ga node 0 tb gp gt 0 ⟨1,0,0,[]⟩ S (arrPo 0 1 0 0 fnAlways) arrTy0 else e=.returned (.pointer none))∧Chg [] w w':=by
 have hA:=(Chg.refl [] w).alloc (.cells #[.int .i64 3,.int .i64 0,.int .i64 1] 59);have hB:Blk (w.alloc (.cells #[.int .i64 3,.int .i64 0,.int .i64 1] 59)) w.heap.size 59 #[.int .i64 3,.int .i64 0,.int .i64 1]:=Blk.new _ _ _
 obtain⟨w0,hw0⟩:∃W,W=w.alloc (.cells #[.int .i64 3,.int .i64 0,.int .i64 1] 59):=⟨_,rfl⟩;rw[←hw0]at hA hB;go_enter Tryz.func17,Tryz.ntmps17
 go_upto_region 1 with fail
 rw[←hw0];have HA:=zH hA;have HB:=zH hB;clear hw0 hA hB;go_cut [7] (fun v wx=>∃ga,v=.pointer (some ⟨ga,0,none⟩)∧Hid (∃tb gp gt S,AgR w wx ga node 0 tb gp gt 0 ⟨1,0,0,[]⟩ S (arrPo 0 1 0 0 fnAlways) arrTy0))
 case first=>
  have S0:Hid (∀W,Chg [] w0 W→W.cell? ⟨w.heap.size,0,none⟩=some (.int .i64 3)):=zH (fun W hc=>(HB.out.chg hc (by simp)).cell 0);have S1:Hid (∀W,Chg [] w0 W→W.cell? ⟨w.heap.size,1,none⟩=some (.int .i64 0)):=zH (fun W hc=>(HB.out.chg hc (by simp)).cell 1)
  have S2:Hid (∀W,Chg [] w0 W→W.cell? ⟨w.heap.size,2,none⟩=some (.int .i64 1)):=zH (fun W hc=>(HB.out.chg hc (by simp)).cell 2);have hC0:(fun W:World=>Chg [] w0 W) w0.drew:=(Chg.refl [] w0).drew;obtain⟨u0,hu0⟩:∃u,u=w0.drew:=⟨_,rfl⟩;refine wp_region_noPanic ?_
  refine wp_region_held_drew (S:=fun W:World=>Chg [] w0 W) (by kernel_rfl) hC0 (fun _=>?_);rw[←hu0]at hC0 ⊢;refine zU 0 rfl (by go_simp<;>with_reducible rfl) ?_
  try simp only[zP]
  refine zU 1 rfl (by go_simp<;>with_reducible rfl) ?_
  try simp only[zP]
  refine zU 3 rfl (by go_simp<;>with_reducible rfl) ?_
  try simp only[zP]
  refine zU 5 rfl (by go_simp<;>with_reducible rfl) ?_
  try simp only[zP]
  refine zU 7 rfl (by go_simp<;>with_reducible rfl) ?_
  try simp only[zP]
  refine zU 10 rfl (by go_simp<;>with_reducible rfl) ?_
  try simp only[zP]
  refine zT 4 rfl (zc (by rfl) 3 (.tmp 11) rfl w.heap.size 0 rfl (.int .i64 3) _ S0.out Tryz.underlying3 rfl) ?_
  try simp only[zP]
  refine zT 6 rfl (zc (by rfl) 3 (.tmp 13) rfl w.heap.size 1 rfl (.int .i64 0) _ S1.out Tryz.underlying3 rfl) ?_
  try simp only[zP]
  refine zT 8 rfl (zc (by rfl) 3 (.tmp 15) rfl w.heap.size 2 rfl (.int .i64 1) _ S2.out Tryz.underlying3 rfl) ?_
  try simp only[zP]
  clear hu0;refine wpAnyH_ready (rs:=[2,11]) (by kernel_rfl) (by simp) (AllReadyH.cons rfl (fun K hK=>?_) (AllReadyH.cons rfl (fun K hK=>?_) AllReadyH.nil))
  ·go_simp
   refine (cnew_any (n:=1) (by omega) (by omega) _).mono ?_;rintro e u1 ⟨tb,S,rfl,hT,hcc1⟩;have hC1:(fun W:World=>Chg [] w0 W) u1:=Chg.trans hC0 hcc1;have hTb:=hT.base (W0:=w) (HA.out.trans hC0);have hTlo:∀x∈S,u0.heap.size≤x:=hT.new;have hThi:∀x∈S,x<u1.heap.size:=hT.lt;refine zB hK ?_;clear hK K
   try simp only[zP]
   refine wpAnyH_ready (rs:=[9,11]) (by kernel_rfl) (by simp) (AllReadyH.cons rfl (fun K hK=>?_) (AllReadyH.cons rfl (fun K hK=>?_) AllReadyH.nil))
   ·go_simp
    refine (pnew3_any _).mono ?_;rintro e u2 ⟨gp,rfl,hP,hgp,hcc2⟩;have hC2:(fun W:World=>Chg [] w0 W) u2:=Chg.trans hC1 hcc2;have hPhi:=hP.lt;replace hTb:=hTb.chg0 hcc2;refine zB hK ?_;clear hK K
    try simp only[zP]
    refine zR 11 rfl (fun K hK=>?_);refine step_run (v:=.pointer (some ⟨u2.heap.size,0,none⟩)) (w':=u2.alloc (.cells arrTy0 146)) rfl (by go_simp<;>rfl) ?_;have hcc3:Chg [] u2 (u2.alloc (.cells arrTy0 146)):=(Chg.refl [] u2).alloc _
    have hY:Blk (u2.alloc (.cells arrTy0 146)) u2.heap.size 146 arrTy0:=Blk.new _ _ _;obtain⟨u3,hu3⟩:∃u,u=u2.alloc (.cells arrTy0 146):=⟨_,rfl⟩;obtain⟨gt,hgt⟩:∃g,g=u2.heap.size:=⟨_,rfl⟩;rw[←hu3,←hgt]at hY;rw[←hu3]at hcc3 ⊢;rw[←hgt];have hC3:(fun W:World=>Chg [] w0 W) u3:=Chg.trans hC2 hcc3
    have hYhi:=hY.lt;clear hu3;replace hTb:=hTb.chg0 hcc3;replace hP:=hP.chg hcc3 (by simp);refine zB hK ?_;clear hK K
    try simp only[zP]
    refine zU 12 rfl (by go_simp<;>with_reducible rfl) ?_
    try simp only[zP]
    refine zR 13 rfl (fun K hK=>?_);refine step_run (v:=.pointer (some ⟨u3.heap.size,0,none⟩)) (w':=u3.alloc (.cells (arrAg node 0 tb gp gt) 113)) rfl (by go_simp<;>rfl) ?_;have hcc4:Chg [] u3 (u3.alloc (.cells (arrAg node 0 tb gp gt) 113)):=(Chg.refl [] u3).alloc _
    have hG:Blk (u3.alloc (.cells (arrAg node 0 tb gp gt) 113)) u3.heap.size 113 (arrAg node 0 tb gp gt):=Blk.new _ _ _;have hC4:(fun W:World=>Chg [] w0 W) (u3.alloc (.cells (arrAg node 0 tb gp gt) 113)):=Chg.trans hC3 hcc4;have z0:=HA.out.size;have z1:w0.heap.size≤u0.heap.size:=Chg.size hC0
    have z2:=hcc1.size;have z3:=hcc2.size;have z4:=hcc3.size
    have HF:Hid (∃tb' gp' gt' S',AgR w (u3.alloc (.cells (arrAg node 0 tb gp gt) 113)) u3.heap.size node 0 tb' gp' gt' 0 ⟨1,0,0,[]⟩ S' (arrPo 0 1 0 0 fnAlways) arrTy0):=zH ⟨tb,gp,gt,S,hG,hTb.chg0 hcc4,hP.chg hcc4 (by simp),hY.chg hcc4 (by simp),
     ⟨fun hm=>by have:=hThi _ hm;omega,fun hm=>by have h1:=hThi _ hm;have h2:=hTlo _ hm;omega,fun hm=>by have h1:=hThi _ hm;have h2:=hTlo _ hm;omega,by omega,by omega,by omega⟩,by omega,by omega,by omega⟩
    refine zB hK ?_;clear hK K
    try simp only[zP]
    refine zU 14 rfl (by go_simp<;>with_reducible rfl) ?_
    try simp only[zP]
    refine wpAnyH_done (by kernel_rfl) ?_ _;refine NoPanic.normal ?_;go_wp2_with fail;go_meet
    subst hgt;exact⟨_,rfl,HF⟩
   ·refine step_run (v:=.pointer (some ⟨u1.heap.size,0,none⟩)) (w':=u1.alloc (.cells arrTy0 146)) rfl (by go_simp<;>rfl) ?_;have hcc2:Chg [] u1 (u1.alloc (.cells arrTy0 146)):=(Chg.refl [] u1).alloc _;have hY:Blk (u1.alloc (.cells arrTy0 146)) u1.heap.size 146 arrTy0:=Blk.new _ _ _
    obtain⟨u2,hu2⟩:∃u,u=u1.alloc (.cells arrTy0 146):=⟨_,rfl⟩;obtain⟨gt,hgt⟩:∃g,g=u1.heap.size:=⟨_,rfl⟩;rw[←hu2,←hgt]at hY;rw[←hu2]at hcc2 ⊢;rw[←hgt];have hC2:(fun W:World=>Chg [] w0 W) u2:=Chg.trans hC1 hcc2;have hYhi:=hY.lt;clear hu2;replace hTb:=hTb.chg0 hcc2;refine zB hK ?_;clear hK K
    try simp only[zP]
    refine zR 9 rfl (fun K hK=>?_);go_simp
    refine (pnew3_any _).mono ?_;rintro e u3 ⟨gp,rfl,hP,hgp,hcc3⟩;have hC3:(fun W:World=>Chg [] w0 W) u3:=Chg.trans hC2 hcc3;have hPhi:=hP.lt;replace hTb:=hTb.chg0 hcc3;replace hY:=hY.chg hcc3 (by simp);refine zB hK ?_;clear hK K
    try simp only[zP]
    refine zU 12 rfl (by go_simp<;>with_reducible rfl) ?_
    try simp only[zP]
    refine zR 13 rfl (fun K hK=>?_);refine step_run (v:=.pointer (some ⟨u3.heap.size,0,none⟩)) (w':=u3.alloc (.cells (arrAg node 0 tb gp gt) 113)) rfl (by go_simp<;>rfl) ?_;have hcc4:Chg [] u3 (u3.alloc (.cells (arrAg node 0 tb gp gt) 113)):=(Chg.refl [] u3).alloc _
    have hG:Blk (u3.alloc (.cells (arrAg node 0 tb gp gt) 113)) u3.heap.size 113 (arrAg node 0 tb gp gt):=Blk.new _ _ _;have hC4:(fun W:World=>Chg [] w0 W) (u3.alloc (.cells (arrAg node 0 tb gp gt) 113)):=Chg.trans hC3 hcc4;have z0:=HA.out.size;have z1:w0.heap.size≤u0.heap.size:=Chg.size hC0
    have z2:=hcc1.size;have z3:=hcc2.size;have z4:=hcc3.size
    have HF:Hid (∃tb' gp' gt' S',AgR w (u3.alloc (.cells (arrAg node 0 tb gp gt) 113)) u3.heap.size node 0 tb' gp' gt' 0 ⟨1,0,0,[]⟩ S' (arrPo 0 1 0 0 fnAlways) arrTy0):=zH ⟨tb,gp,gt,S,hG,hTb.chg0 hcc4,hP.chg hcc4 (by simp),hY.chg hcc4 (by simp),
     ⟨fun hm=>by have:=hThi _ hm;omega,fun hm=>by have h1:=hThi _ hm;have h2:=hTlo _ hm;omega,fun hm=>by have h1:=hThi _ hm;have h2:=hTlo _ hm;omega,by omega,by omega,by omega⟩,by omega,by omega,by omega⟩
    refine zB hK ?_;clear hK K
    try simp only[zP]
    refine zU 14 rfl (by go_simp<;>with_reducible rfl) ?_
    try simp only[zP]
    refine wpAnyH_done (by kernel_rfl) ?_ _;refine NoPanic.normal ?_;go_wp2_with fail;go_meet
    subst hgt;exact⟨_,rfl,HF⟩
  ·refine step_run (v:=.pointer (some ⟨u0.heap.size,0,none⟩)) (w':=u0.alloc (.cells arrTy0 146)) rfl (by go_simp<;>rfl) ?_;have hcc1:Chg [] u0 (u0.alloc (.cells arrTy0 146)):=(Chg.refl [] u0).alloc _;have hY:Blk (u0.alloc (.cells arrTy0 146)) u0.heap.size 146 arrTy0:=Blk.new _ _ _
   obtain⟨u1,hu1⟩:∃u,u=u0.alloc (.cells arrTy0 146):=⟨_,rfl⟩;obtain⟨gt,hgt⟩:∃g,g=u0.heap.size:=⟨_,rfl⟩;rw[←hu1,←hgt]at hY;rw[←hu1]at hcc1 ⊢;rw[←hgt];have hC1:(fun W:World=>Chg [] w0 W) u1:=Chg.trans hC0 hcc1;have hYhi:=hY.lt;clear hu1;refine zB hK ?_;clear hK K
   try simp only[zP]
   refine zR 2 rfl (fun K hK=>?_);go_simp
   refine (cnew_any (n:=1) (by omega) (by omega) _).mono ?_;rintro e u2 ⟨tb,S,rfl,hT,hcc2⟩;have hC2:(fun W:World=>Chg [] w0 W) u2:=Chg.trans hC1 hcc2;have hTb:=hT.base (W0:=w) (HA.out.trans hC1);have hTlo:∀x∈S,u1.heap.size≤x:=hT.new;have hThi:∀x∈S,x<u2.heap.size:=hT.lt
   replace hY:=hY.chg hcc2 (by simp);refine zB hK ?_;clear hK K
   try simp only[zP]
   refine zR 9 rfl (fun K hK=>?_);go_simp
   refine (pnew3_any _).mono ?_;rintro e u3 ⟨gp,rfl,hP,hgp,hcc3⟩;have hC3:(fun W:World=>Chg [] w0 W) u3:=Chg.trans hC2 hcc3;have hPhi:=hP.lt;replace hY:=hY.chg hcc3 (by simp);replace hTb:=hTb.chg0 hcc3;refine zB hK ?_;clear hK K
   try simp only[zP]
   refine zU 12 rfl (by go_simp<;>with_reducible rfl) ?_
   try simp only[zP]
   refine zR 13 rfl (fun K hK=>?_);refine step_run (v:=.pointer (some ⟨u3.heap.size,0,none⟩)) (w':=u3.alloc (.cells (arrAg node 0 tb gp gt) 113)) rfl (by go_simp<;>rfl) ?_;have hcc4:Chg [] u3 (u3.alloc (.cells (arrAg node 0 tb gp gt) 113)):=(Chg.refl [] u3).alloc _
   have hG:Blk (u3.alloc (.cells (arrAg node 0 tb gp gt) 113)) u3.heap.size 113 (arrAg node 0 tb gp gt):=Blk.new _ _ _;have hC4:(fun W:World=>Chg [] w0 W) (u3.alloc (.cells (arrAg node 0 tb gp gt) 113)):=Chg.trans hC3 hcc4;have z0:=HA.out.size;have z1:w0.heap.size≤u0.heap.size:=Chg.size hC0
   have z2:=hcc1.size;have z3:=hcc2.size;have z4:=hcc3.size
   have HF:Hid (∃tb' gp' gt' S',AgR w (u3.alloc (.cells (arrAg node 0 tb gp gt) 113)) u3.heap.size node 0 tb' gp' gt' 0 ⟨1,0,0,[]⟩ S' (arrPo 0 1 0 0 fnAlways) arrTy0):=zH ⟨tb,gp,gt,S,hG,hTb.chg0 hcc4,hP.chg hcc4 (by simp),hY.chg hcc4 (by simp),
    ⟨fun hm=>by have:=hThi _ hm;omega,fun hm=>by have h1:=hThi _ hm;have h2:=hTlo _ hm;omega,fun hm=>by have h1:=hThi _ hm;have h2:=hTlo _ hm;omega,by omega,by omega,by omega⟩,by omega,by omega,by omega⟩
   refine zB hK ?_;clear hK K
   try simp only[zP]
   refine zU 14 rfl (by go_simp<;>with_reducible rfl) ?_
   try simp only[zP]
   refine wpAnyH_done (by kernel_rfl) ?_ _;refine NoPanic.normal ?_;go_wp2_with fail;go_meet
   subst hgt;exact⟨_,rfl,HF⟩
 case rest=>
 obtain⟨ga,rfl,HF⟩:=hcut;obtain⟨tb,gp,gt,S,hR⟩:=HF.out;have hG:=hR.blk;have c2:wc.cell? ⟨ga,2,none⟩=some (.pointer (some ⟨tb,0,none⟩)):=hG.cell 2;have c3:wc.cell? ⟨ga,3,none⟩=some (.pointer (some ⟨gp,0,none⟩)):=hG.cell 3;have HR:=zH hR;clear HF hR hG HA HB;by_cases h1:node<1
 ·go_wp2_with fail;go_ret
  refine⟨?_,HR.out.ct.chg⟩
  first|rfl|(rw[if_neg (by omega)];rfl)
 by_cases h2:node>65535
 ·go_wp2_with fail;go_ret
  refine⟨?_,HR.out.ct.chg⟩
  first|rfl|(rw[if_neg (by omega)];rfl)
 go_wp2_with fail;go_ret
 refine⟨?_,HR.out.ct.chg⟩
 first|exact⟨ga,tb,gp,gt,S,rfl,HR.out⟩|exact⟨ga,rfl,tb,gp,gt,S,HR.out⟩|(rw[if_pos (by omega)];exact⟨ga,tb,gp,gt,S,rfl,HR.out⟩)
theorem ais_any {w:World} {ga:Nat} {node load:Int} {tb gp gt:Nat} (h:Blk w ga 113 (arrAg node load tb gp gt)) :
  Calls Tryz.prog 68 #[.pointer (some ⟨ga,0,none⟩)] w fun e w'=>e=.returned (.bool true)∧w=w':=by
 have c4:w.cell? ⟨ga,4,none⟩=some (.pointer (some ⟨gt,0,none⟩)):=h.cell 4;clear h;go_enter Tryz.func68,Tryz.ntmps68
 go_wp2_with fail;go_ret
 exact⟨rfl,rfl⟩
end Go.Proofs.YtgbndaiifbogmaaGreat
namespace Go.Proofs.YtgbndaiifbogmaaGreat
open Go.RowKit Go.Maps
@[reducible] def arrTc (t:Sg) (o p:Value):Array Value:=#[.int .i64 t.sport,.int .i64 t.dport,.int .u32 t.seq,.int .u32 t.ack,.int .i64 t.flags,.int .i64 t.window,.int .i64 t.ck,.int .i64 t.urgent,o,p]
theorem infTc {t:Sg} {o p:Value}:(Tryz.prog.info? 34).map (·.size)=some (arrTc t o p).size:=by
 show _=some 10;kernel_rfl
theorem tf1_any {w:World} {g3 gT:Nat} {u:Value} (hc:w.cell? ⟨g3,0,none⟩=some (.pointer (some ⟨gT,0,none⟩))) (hu:w.cell? ⟨gT,0,none⟩=some u) (hf:w.frozen? ⟨gT,0,none⟩=false) (n:Int) :
  Calls Tryz.prog 372 #[.int .i64 n,.pointer (some ⟨g3,0,none⟩)] w fun e w'=>e=.returned (.tuple #[])∧w'=w.setCell ⟨gT,0,none⟩ (.int .i64 n):=by
 go_enter Tryz.func372,Tryz.ntmps372
 go_wp2_with fail;go_end0
 exact⟨rfl,rfl⟩
theorem tf2_any {w:World} {g3 gT:Nat} {u:Value} (hc:w.cell? ⟨g3,0,none⟩=some (.pointer (some ⟨gT,0,none⟩))) (hu:w.cell? ⟨gT,1,none⟩=some u) (hf:w.frozen? ⟨gT,1,none⟩=false) (n:Int) :
  Calls Tryz.prog 373 #[.int .i64 n,.pointer (some ⟨g3,0,none⟩)] w fun e w'=>e=.returned (.tuple #[])∧w'=w.setCell ⟨gT,1,none⟩ (.int .i64 n):=by
 go_enter Tryz.func373,Tryz.ntmps373
 go_wp2_with fail;go_end0
 exact⟨rfl,rfl⟩
theorem tf3_any {w:World} {g3 gT:Nat} {u:Value} (hc:w.cell? ⟨g3,0,none⟩=some (.pointer (some ⟨gT,0,none⟩))) (hu:w.cell? ⟨gT,5,none⟩=some u) (hf:w.frozen? ⟨gT,5,none⟩=false) (n:Int) :
  Calls Tryz.prog 374 #[.int .i64 n,.pointer (some ⟨g3,0,none⟩)] w fun e w'=>e=.returned (.tuple #[])∧w'=w.setCell ⟨gT,5,none⟩ (.int .i64 n):=by
 go_enter Tryz.func374,Tryz.ntmps374
 go_wp2_with fail;go_end0
 exact⟨rfl,rfl⟩
theorem tf4_any {w:World} {g3 gT:Nat} {u:Value} (hc:w.cell? ⟨g3,0,none⟩=some (.pointer (some ⟨gT,0,none⟩))) (hu:w.cell? ⟨gT,6,none⟩=some u) (hf:w.frozen? ⟨gT,6,none⟩=false) (n:Int) :
  Calls Tryz.prog 375 #[.int .i64 n,.pointer (some ⟨g3,0,none⟩)] w fun e w'=>e=.returned (.tuple #[])∧w'=w.setCell ⟨gT,6,none⟩ (.int .i64 n):=by
 go_enter Tryz.func375,Tryz.ntmps375
 go_wp2_with fail;go_end0
 exact⟨rfl,rfl⟩
theorem tf5_any {w:World} {g3 gT:Nat} {u:Value} (hc:w.cell? ⟨g3,0,none⟩=some (.pointer (some ⟨gT,0,none⟩))) (hu:w.cell? ⟨gT,7,none⟩=some u) (hf:w.frozen? ⟨gT,7,none⟩=false) (n:Int) :
  Calls Tryz.prog 376 #[.int .i64 n,.pointer (some ⟨g3,0,none⟩)] w fun e w'=>e=.returned (.tuple #[])∧w'=w.setCell ⟨gT,7,none⟩ (.int .i64 n):=by
 go_enter Tryz.func376,Tryz.ntmps376
 go_wp2_with fail;go_end0
 exact⟨rfl,rfl⟩
def tfS (t:Sg) (y1 y2 y3 y4 y5:Int):Nat→Sg
 |0=>⟨t.sport,t.dport,t.seq,t.ack,t.flags,t.window,t.ck,t.urgent⟩
 |1=>⟨y1,t.dport,t.seq,t.ack,t.flags,t.window,t.ck,t.urgent⟩
 |2=>⟨y1,y2,t.seq,t.ack,t.flags,t.window,t.ck,t.urgent⟩
 |3=>⟨y1,y2,t.seq,t.ack,t.flags,y3,t.ck,t.urgent⟩
 |4=>⟨y1,y2,t.seq,t.ack,t.flags,y3,y4,t.urgent⟩
 |_=>⟨y1,y2,t.seq,t.ack,t.flags,y3,y4,y5⟩
theorem tfields_any {w:World} {B gT:Nat} {v:Value} {l:By} {t:Sg} {o p:Value} (h:SlY w B v l) (hb:okB l) (hl:l.length≤1000000) (h20:20≤l.length)
  (hB:Blk w gT 34 (arrTc t o p)) (hgb:∀W,Chg [gT] w W→SlY W 0 v l) :
  Calls Tryz.prog 369 #[v,.pointer (some ⟨gT,0,none⟩)] w fun e w'=>e=.returned (.tuple #[])∧Blk w' gT 34 (arrTc ⟨(w2 l 0:Nat),(w2 l 2:Nat),t.seq,t.ack,t.flags,(w2 l 14:Nat),(w2 l 16:Nat),(w2 l 18:Nat)⟩ o p)∧Chg [gT] w w':=by
 have hmf:∀(fn:Fn) (first cap:Array Value) (w:World),(Instr.makeFunc fn first cap).run Tryz.prog w=.ok (.func fn first cap) w:=fun _ _ _ _=>rfl
 have F1:=zH (fun (W:World) (hc:Chg [gT] w W)=>(show Calls Tryz.prog 103 #[v,.int .i64 0] W _ from u16_any (hgb W hc) hb hl (at_:=0) (by omega)));have F2:=zH (fun (W:World) (hc:Chg [gT] w W)=>(show Calls Tryz.prog 103 #[v,.int .i64 2] W _ from u16_any (hgb W hc) hb hl (at_:=2) (by omega)))
 have F3:=zH (fun (W:World) (hc:Chg [gT] w W)=>(show Calls Tryz.prog 103 #[v,.int .i64 14] W _ from u16_any (hgb W hc) hb hl (at_:=14) (by omega)));have F4:=zH (fun (W:World) (hc:Chg [gT] w W)=>(show Calls Tryz.prog 103 #[v,.int .i64 16] W _ from u16_any (hgb W hc) hb hl (at_:=16) (by omega)))
 have F5:=zH (fun (W:World) (hc:Chg [gT] w W)=>(show Calls Tryz.prog 103 #[v,.int .i64 18] W _ from u16_any (hgb W hc) hb hl (at_:=18) (by omega)));obtain⟨A,c,rfl⟩:=h.form;have HB:=zH hB;have hgl:=hB.lt;generalize w2 l 0=y1 at *;generalize w2 l 2=y2 at *;generalize w2 l 14=y3 at *
 generalize w2 l 16=y4 at *;generalize w2 l 18=y5 at *;generalize l.length=N at *;have hA:=(Chg.refl [] w).alloc (.cells #[.pointer (some ⟨gT,0,none⟩)] 429);have hP:Blk (w.alloc (.cells #[.pointer (some ⟨gT,0,none⟩)] 429)) w.heap.size 429 #[.pointer (some ⟨gT,0,none⟩)]:=Blk.new _ _ _;have HA:=zH hA
 have HP:=zH hP;have HBA:=zH (hB.alloc (.cells #[.pointer (some ⟨gT,0,none⟩)] 429))
 have hBF:Blk ((w.alloc (.cells #[.pointer (some ⟨gT,0,none⟩)] 429)).alloc (.cells #[.int .i64 0,.nilFunc,.int .i64 0,.nilFunc,.int .i64 0,.nilFunc,.int .i64 0,.nilFunc,.int .i64 0,.nilFunc] 435)) (w.heap.size+1) 435 #[.int .i64 0,.nilFunc,.int .i64 0,.nilFunc,.int .i64 0,.nilFunc,.int .i64 0,.nilFunc,.int .i64 0,.nilFunc]:=Blk.new' (by simp)
 have hA2:=hA.alloc (.cells #[.int .i64 0,.nilFunc,.int .i64 0,.nilFunc,.int .i64 0,.nilFunc,.int .i64 0,.nilFunc,.int .i64 0,.nilFunc] 435);have HP2:=zH (hP.alloc (.cells #[.int .i64 0,.nilFunc,.int .i64 0,.nilFunc,.int .i64 0,.nilFunc,.int .i64 0,.nilFunc,.int .i64 0,.nilFunc] 435))
 have HB2:=zH ((hB.alloc (.cells #[.pointer (some ⟨gT,0,none⟩)] 429)).alloc (.cells #[.int .i64 0,.nilFunc,.int .i64 0,.nilFunc,.int .i64 0,.nilFunc,.int .i64 0,.nilFunc,.int .i64 0,.nilFunc] 435));have HA2:=zH hA2;clear h hb hl h20 hgb hB hA hP hA2 HP HBA HA;go_enter Tryz.func369,Tryz.ntmps369
 go_wp2_with (first
  |(refine zs (vs:=#[.int .i64 0,.func (.func 372) #[] #[.pointer (some ⟨w.heap.size,0,none⟩)],.int .i64 2,.func (.func 373) #[] #[.pointer (some ⟨w.heap.size,0,none⟩)],.int .i64 14,.func (.func 374) #[] #[.pointer (some ⟨w.heap.size,0,none⟩)],.int .i64 16,.func (.func 375) #[] #[.pointer (some ⟨w.heap.size,0,none⟩)],.int .i64 18,.func (.func 376) #[] #[.pointer (some ⟨w.heap.size,0,none⟩)]]) rfl 435 (.tmp 4) (.tmp 19) rfl rfl hBF rfl rfl rfl (by kernel_rfl) rfl ?_;intro w3 hB3 hc3)
  |(refine zl rfl 435 (.tmp 4) rfl hB3 rfl _ Tryz.underlying435 rfl (by kernel_rfl) ?_)
  |fail)
 have HP3:Hid (Blk w3 w.heap.size 429 #[.pointer (some ⟨gT,0,none⟩)]):=zH (HP2.out.chg hc3 (by simp));have HB3:Hid (Blk w3 gT 34 (arrTc t o p)):=zH (HB2.out.chg hc3 (by simp;omega));have HC3:Hid (Chg [] w w3):=zH (HA2.out.trans' hc3 (fun y hy=>by simp at hy;subst hy;right;omega))
 have hg3T:w.heap.size≠gT:=by omega
 have hsz3:w.heap.size<w3.heap.size:=HP3.out.lt;clear hB3 hc3 hBF HP2 HB2 HA2;go_loopw [21] (fun iv wr=>∃k:Nat,k≤5∧iv=.int .i64 k∧Hid (Blk wr gT 34 (arrTc (tfS t y1 y2 y3 y4 y5 k) o p))∧Hid (Chg [gT] w3 wr)) (fun iv _=>5-(intOf iv).toNat)
 case atStart=>exact⟨0,by omega,rfl,HB3,zH (Chg.refl _ _)⟩
 case round=>
  obtain⟨k,hk,rfl,HK,HC⟩:=hrel;have hcw:Chg [gT] w wr:=(HC3.out.more (by simp)).trans HC.out;by_cases hk5:k=5
  ·subst hk5;have HF:Hid (Blk wr gT 34 (arrTc ⟨y1,y2,t.seq,t.ack,t.flags,y3,y4,y5⟩ o p)):=zH HK.out;have HCW:=zH hcw;clear hcw HK HC;go_wp2_with fail;go_end0
   exact⟨rfl,HF.out,HCW.out⟩
  ·have hk':k=0∨k=1∨k=2∨k=3∨k=4:=by omega
   have HPr:Hid (∀W,Chg [gT] wr W→W.cell? ⟨w.heap.size,0,none⟩=some (.pointer (some ⟨gT,0,none⟩))):=zH (fun W hc=>((HP3.out.chg HC.out (by simp;omega)).chg hc (by simp;omega)).cell 0);have hB6:Blk (wr.alloc (.cells #[.int .i64 0,.nilFunc] 434)) wr.heap.size 434 #[.int .i64 0,.nilFunc]:=Blk.new _ _ _
   have HA6:Hid (Chg [] wr (wr.alloc (.cells #[.int .i64 0,.nilFunc] 434))):=zH ((Chg.refl [] wr).alloc _);have hgT6:gT<wr.heap.size:=HK.out.lt;have HCW:=zH hcw;clear hcw hk hk5;rcases hk' with rfl|rfl|rfl|rfl|rfl
   ·have hix:∀W:World,(Instr.index 435 (.agg #[.int .i64 0,.func (.func 372) #[] #[.pointer (some ⟨w.heap.size,0,none⟩)],.int .i64 2,.func (.func 373) #[] #[.pointer (some ⟨w.heap.size,0,none⟩)],.int .i64 14,.func (.func 374) #[] #[.pointer (some ⟨w.heap.size,0,none⟩)],.int .i64 16,.func (.func 375) #[] #[.pointer (some ⟨w.heap.size,0,none⟩)],.int .i64 18,.func (.func 376) #[] #[.pointer (some ⟨w.heap.size,0,none⟩)]]) (.int .i64 0)).run Tryz.prog W=.ok (.agg #[.int .i64 0,.func (.func 372) #[] #[.pointer (some ⟨w.heap.size,0,none⟩)]]) W:=fun _=>by kernel_rfl
    go_wp2_with (first
     |(refine zs (vs:=#[.int .i64 0,.func (.func 372) #[] #[.pointer (some ⟨w.heap.size,0,none⟩)]]) rfl 434 (.tmp 6) (.tmp 23) rfl rfl hB6 rfl rfl rfl (by kernel_rfl) rfl ?_;intro w5 hB5 hc5;have c60:w5.cell? ⟨wr.heap.size,0,none⟩=some (.int .i64 0):=hB5.cell 0)
     |fail)
    have hcw5:Chg [gT] wr w5:=(HA6.out.trans' hc5 (fun y hy=>by simp at hy;subst hy;right;omega)).more (by simp);refine (F1.out _ (HCW.out.trans hcw5)).mono ?_;rintro e w6 ⟨rfl,hc6⟩;have hB6':=hB5.chg hc6 (by simp)
    have c61:w6.cell? ⟨wr.heap.size,1,none⟩=some (.func (.func 372) #[] #[.pointer (some ⟨w.heap.size,0,none⟩)]):=hB6'.cell 1;have hcw6:Chg [gT] wr w6:=hcw5.trans (hc6.more (by simp))
    have hBT:Blk w6 gT 34 (arrTc (tfS t y1 y2 y3 y4 y5 0) o p):=(((HK.out.chg HA6.out (by simp)).chg hc5 (by simp;omega)).chg hc6 (by simp));have FT:=zH (tf1_any (HPr.out w6 hcw6) (hBT.cell 0) (hBT.frozen 0) y1)
    have HT:Hid (Blk (w6.setCell ⟨gT,0,none⟩ (.int .i64 y1)) gT 34 (arrTc (tfS t y1 y2 y3 y4 y5 1) o p)):=zH (hBT.set_ 0 _);have HC7:Hid (Chg [gT] w3 (w6.setCell ⟨gT,0,none⟩ (.int .i64 y1))):=zH ((HC.out.trans hcw6).setCell (p:=⟨gT,0,none⟩) (.inl (by simp)) _)
    clear hBT hcw6 hcw5 hc6 hc5 hB5 hB6' c60 hB6;go_wp2_with fail;refine FT.out.mono ?_;rintro e w7 ⟨rfl,rfl⟩;go_wp2_with fail;go_roundw
    case rel=>exact⟨1,by omega,by go_num,HT,HC7⟩
    case measure=>simp[intOf]
   ·have hix:∀W:World,(Instr.index 435 (.agg #[.int .i64 0,.func (.func 372) #[] #[.pointer (some ⟨w.heap.size,0,none⟩)],.int .i64 2,.func (.func 373) #[] #[.pointer (some ⟨w.heap.size,0,none⟩)],.int .i64 14,.func (.func 374) #[] #[.pointer (some ⟨w.heap.size,0,none⟩)],.int .i64 16,.func (.func 375) #[] #[.pointer (some ⟨w.heap.size,0,none⟩)],.int .i64 18,.func (.func 376) #[] #[.pointer (some ⟨w.heap.size,0,none⟩)]]) (.int .i64 1)).run Tryz.prog W=.ok (.agg #[.int .i64 2,.func (.func 373) #[] #[.pointer (some ⟨w.heap.size,0,none⟩)]]) W:=fun _=>by kernel_rfl
    go_wp2_with (first
     |(refine zs (vs:=#[.int .i64 2,.func (.func 373) #[] #[.pointer (some ⟨w.heap.size,0,none⟩)]]) rfl 434 (.tmp 6) (.tmp 23) rfl rfl hB6 rfl rfl rfl (by kernel_rfl) rfl ?_;intro w5 hB5 hc5;have c60:w5.cell? ⟨wr.heap.size,0,none⟩=some (.int .i64 2):=hB5.cell 0)
     |fail)
    have hcw5:Chg [gT] wr w5:=(HA6.out.trans' hc5 (fun y hy=>by simp at hy;subst hy;right;omega)).more (by simp);refine (F2.out _ (HCW.out.trans hcw5)).mono ?_;rintro e w6 ⟨rfl,hc6⟩;have hB6':=hB5.chg hc6 (by simp)
    have c61:w6.cell? ⟨wr.heap.size,1,none⟩=some (.func (.func 373) #[] #[.pointer (some ⟨w.heap.size,0,none⟩)]):=hB6'.cell 1;have hcw6:Chg [gT] wr w6:=hcw5.trans (hc6.more (by simp))
    have hBT:Blk w6 gT 34 (arrTc (tfS t y1 y2 y3 y4 y5 1) o p):=(((HK.out.chg HA6.out (by simp)).chg hc5 (by simp;omega)).chg hc6 (by simp));have FT:=zH (tf2_any (HPr.out w6 hcw6) (hBT.cell 1) (hBT.frozen 1) y2)
    have HT:Hid (Blk (w6.setCell ⟨gT,1,none⟩ (.int .i64 y2)) gT 34 (arrTc (tfS t y1 y2 y3 y4 y5 2) o p)):=zH (hBT.set_ 1 _);have HC7:Hid (Chg [gT] w3 (w6.setCell ⟨gT,1,none⟩ (.int .i64 y2))):=zH ((HC.out.trans hcw6).setCell (p:=⟨gT,1,none⟩) (.inl (by simp)) _)
    clear hBT hcw6 hcw5 hc6 hc5 hB5 hB6' c60 hB6;go_wp2_with fail;refine FT.out.mono ?_;rintro e w7 ⟨rfl,rfl⟩;go_wp2_with fail;go_roundw
    case rel=>exact⟨2,by omega,by go_num,HT,HC7⟩
    case measure=>simp[intOf]
   ·have hix:∀W:World,(Instr.index 435 (.agg #[.int .i64 0,.func (.func 372) #[] #[.pointer (some ⟨w.heap.size,0,none⟩)],.int .i64 2,.func (.func 373) #[] #[.pointer (some ⟨w.heap.size,0,none⟩)],.int .i64 14,.func (.func 374) #[] #[.pointer (some ⟨w.heap.size,0,none⟩)],.int .i64 16,.func (.func 375) #[] #[.pointer (some ⟨w.heap.size,0,none⟩)],.int .i64 18,.func (.func 376) #[] #[.pointer (some ⟨w.heap.size,0,none⟩)]]) (.int .i64 2)).run Tryz.prog W=.ok (.agg #[.int .i64 14,.func (.func 374) #[] #[.pointer (some ⟨w.heap.size,0,none⟩)]]) W:=fun _=>by kernel_rfl
    go_wp2_with (first
     |(refine zs (vs:=#[.int .i64 14,.func (.func 374) #[] #[.pointer (some ⟨w.heap.size,0,none⟩)]]) rfl 434 (.tmp 6) (.tmp 23) rfl rfl hB6 rfl rfl rfl (by kernel_rfl) rfl ?_;intro w5 hB5 hc5;have c60:w5.cell? ⟨wr.heap.size,0,none⟩=some (.int .i64 14):=hB5.cell 0)
     |fail)
    have hcw5:Chg [gT] wr w5:=(HA6.out.trans' hc5 (fun y hy=>by simp at hy;subst hy;right;omega)).more (by simp);refine (F3.out _ (HCW.out.trans hcw5)).mono ?_;rintro e w6 ⟨rfl,hc6⟩;have hB6':=hB5.chg hc6 (by simp)
    have c61:w6.cell? ⟨wr.heap.size,1,none⟩=some (.func (.func 374) #[] #[.pointer (some ⟨w.heap.size,0,none⟩)]):=hB6'.cell 1;have hcw6:Chg [gT] wr w6:=hcw5.trans (hc6.more (by simp))
    have hBT:Blk w6 gT 34 (arrTc (tfS t y1 y2 y3 y4 y5 2) o p):=(((HK.out.chg HA6.out (by simp)).chg hc5 (by simp;omega)).chg hc6 (by simp));have FT:=zH (tf3_any (HPr.out w6 hcw6) (hBT.cell 5) (hBT.frozen 5) y3)
    have HT:Hid (Blk (w6.setCell ⟨gT,5,none⟩ (.int .i64 y3)) gT 34 (arrTc (tfS t y1 y2 y3 y4 y5 3) o p)):=zH (hBT.set_ 5 _);have HC7:Hid (Chg [gT] w3 (w6.setCell ⟨gT,5,none⟩ (.int .i64 y3))):=zH ((HC.out.trans hcw6).setCell (p:=⟨gT,5,none⟩) (.inl (by simp)) _)
    clear hBT hcw6 hcw5 hc6 hc5 hB5 hB6' c60 hB6;go_wp2_with fail;refine FT.out.mono ?_;rintro e w7 ⟨rfl,rfl⟩;go_wp2_with fail;go_roundw
    case rel=>exact⟨3,by omega,by go_num,HT,HC7⟩
    case measure=>simp[intOf]
   ·have hix:∀W:World,(Instr.index 435 (.agg #[.int .i64 0,.func (.func 372) #[] #[.pointer (some ⟨w.heap.size,0,none⟩)],.int .i64 2,.func (.func 373) #[] #[.pointer (some ⟨w.heap.size,0,none⟩)],.int .i64 14,.func (.func 374) #[] #[.pointer (some ⟨w.heap.size,0,none⟩)],.int .i64 16,.func (.func 375) #[] #[.pointer (some ⟨w.heap.size,0,none⟩)],.int .i64 18,.func (.func 376) #[] #[.pointer (some ⟨w.heap.size,0,none⟩)]]) (.int .i64 3)).run Tryz.prog W=.ok (.agg #[.int .i64 16,.func (.func 375) #[] #[.pointer (some ⟨w.heap.size,0,none⟩)]]) W:=fun _=>by kernel_rfl
    go_wp2_with (first
     |(refine zs (vs:=#[.int .i64 16,.func (.func 375) #[] #[.pointer (some ⟨w.heap.size,0,none⟩)]]) rfl 434 (.tmp 6) (.tmp 23) rfl rfl hB6 rfl rfl rfl (by kernel_rfl) rfl ?_;intro w5 hB5 hc5;have c60:w5.cell? ⟨wr.heap.size,0,none⟩=some (.int .i64 16):=hB5.cell 0)
     |fail)
    have hcw5:Chg [gT] wr w5:=(HA6.out.trans' hc5 (fun y hy=>by simp at hy;subst hy;right;omega)).more (by simp);refine (F4.out _ (HCW.out.trans hcw5)).mono ?_;rintro e w6 ⟨rfl,hc6⟩;have hB6':=hB5.chg hc6 (by simp)
    have c61:w6.cell? ⟨wr.heap.size,1,none⟩=some (.func (.func 375) #[] #[.pointer (some ⟨w.heap.size,0,none⟩)]):=hB6'.cell 1;have hcw6:Chg [gT] wr w6:=hcw5.trans (hc6.more (by simp))
    have hBT:Blk w6 gT 34 (arrTc (tfS t y1 y2 y3 y4 y5 3) o p):=(((HK.out.chg HA6.out (by simp)).chg hc5 (by simp;omega)).chg hc6 (by simp));have FT:=zH (tf4_any (HPr.out w6 hcw6) (hBT.cell 6) (hBT.frozen 6) y4)
    have HT:Hid (Blk (w6.setCell ⟨gT,6,none⟩ (.int .i64 y4)) gT 34 (arrTc (tfS t y1 y2 y3 y4 y5 4) o p)):=zH (hBT.set_ 6 _);have HC7:Hid (Chg [gT] w3 (w6.setCell ⟨gT,6,none⟩ (.int .i64 y4))):=zH ((HC.out.trans hcw6).setCell (p:=⟨gT,6,none⟩) (.inl (by simp)) _)
    clear hBT hcw6 hcw5 hc6 hc5 hB5 hB6' c60 hB6;go_wp2_with fail;refine FT.out.mono ?_;rintro e w7 ⟨rfl,rfl⟩;go_wp2_with fail;go_roundw
    case rel=>exact⟨4,by omega,by go_num,HT,HC7⟩
    case measure=>simp[intOf]
   ·have hix:∀W:World,(Instr.index 435 (.agg #[.int .i64 0,.func (.func 372) #[] #[.pointer (some ⟨w.heap.size,0,none⟩)],.int .i64 2,.func (.func 373) #[] #[.pointer (some ⟨w.heap.size,0,none⟩)],.int .i64 14,.func (.func 374) #[] #[.pointer (some ⟨w.heap.size,0,none⟩)],.int .i64 16,.func (.func 375) #[] #[.pointer (some ⟨w.heap.size,0,none⟩)],.int .i64 18,.func (.func 376) #[] #[.pointer (some ⟨w.heap.size,0,none⟩)]]) (.int .i64 4)).run Tryz.prog W=.ok (.agg #[.int .i64 18,.func (.func 376) #[] #[.pointer (some ⟨w.heap.size,0,none⟩)]]) W:=fun _=>by kernel_rfl
    go_wp2_with (first
     |(refine zs (vs:=#[.int .i64 18,.func (.func 376) #[] #[.pointer (some ⟨w.heap.size,0,none⟩)]]) rfl 434 (.tmp 6) (.tmp 23) rfl rfl hB6 rfl rfl rfl (by kernel_rfl) rfl ?_;intro w5 hB5 hc5;have c60:w5.cell? ⟨wr.heap.size,0,none⟩=some (.int .i64 18):=hB5.cell 0)
     |fail)
    have hcw5:Chg [gT] wr w5:=(HA6.out.trans' hc5 (fun y hy=>by simp at hy;subst hy;right;omega)).more (by simp);refine (F5.out _ (HCW.out.trans hcw5)).mono ?_;rintro e w6 ⟨rfl,hc6⟩;have hB6':=hB5.chg hc6 (by simp)
    have c61:w6.cell? ⟨wr.heap.size,1,none⟩=some (.func (.func 376) #[] #[.pointer (some ⟨w.heap.size,0,none⟩)]):=hB6'.cell 1;have hcw6:Chg [gT] wr w6:=hcw5.trans (hc6.more (by simp))
    have hBT:Blk w6 gT 34 (arrTc (tfS t y1 y2 y3 y4 y5 4) o p):=(((HK.out.chg HA6.out (by simp)).chg hc5 (by simp;omega)).chg hc6 (by simp));have FT:=zH (tf5_any (HPr.out w6 hcw6) (hBT.cell 7) (hBT.frozen 7) y5)
    have HT:Hid (Blk (w6.setCell ⟨gT,7,none⟩ (.int .i64 y5)) gT 34 (arrTc (tfS t y1 y2 y3 y4 y5 5) o p)):=zH (hBT.set_ 7 _);have HC7:Hid (Chg [gT] w3 (w6.setCell ⟨gT,7,none⟩ (.int .i64 y5))):=zH ((HC.out.trans hcw6).setCell (p:=⟨gT,7,none⟩) (.inl (by simp)) _)
    clear hBT hcw6 hcw5 hc6 hc5 hB5 hB6' c60 hB6;go_wp2_with fail;refine FT.out.mono ?_;rintro e w7 ⟨rfl,rfl⟩;go_wp2_with fail;go_roundw
    case rel=>exact⟨5,by omega,by go_num,HT,HC7⟩
    case measure=>simp[intOf]
end Go.Proofs.YtgbndaiifbogmaaGreat

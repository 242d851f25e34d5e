/-
  Small laws and walks on the way to LearnReads: Rn7. Conditions: each theorem names its own.
-/
import Derived.Test.YtgbndaiifbogmaaGreatY23
set_option linter.unusedVariables false
set_option linter.unusedSimpArgs false
set_option maxRecDepth 100000
set_option maxHeartbeats 8000000
namespace Go.Proofs.YtgbndaiifbogmaaGreat
open Go.RowKit Go.Maps
theorem rtparse_any {w:World} {v:Value} {l:By} (h:SlY w 0 v l) (hb:okB l) (hl:l.length≤1000000) :
  Calls Tryz.prog 44 #[v] w fun e w'=>TpPost (tcpS l) w.heap.size e w'∧Chg [] w w':=by
 obtain⟨A,c,rfl⟩:=h.form;have hA:=(Chg.refl [] w).alloc (.cells (arrTc tc0 noV noV) 34);have hB2:Blk (w.alloc (.cells (arrTc tc0 noV noV) 34)) w.heap.size 34 (arrTc tc0 noV noV):=Blk.new _ _ _;have HA:=zH hA;by_cases h20:l.length<20
 ·have hE:Hid (tcpS l=.error 3):=zH (by unfold tcpS;rw[if_pos h20]);have hI:(l.length:Int)<20:=by omega
  generalize l.length=N at *;clear h hb hl hA;go_enter Tryz.func44,Tryz.ntmps44
  go_wp2_with (first
   |(refine zs (vs:=arrTc tc0 noV noV) rfl 34 (.tmp 2) (.tmp 10) rfl rfl hB2 rfl rfl rfl infTc rfl ?_;intro w9 hB9 hc9)
   |fail)
  refine bodyPost_ret (zr rfl rfl hB9 _ Tryz.underlying34 rfl infTc) rfl ?_;exact⟨TpPost.err hE.out,HA.out.trans' hc9 (zN (by omega))⟩
 have hI:¬(l.length:Int)<20:=by omega
 obtain⟨b,o,c',e,hcap,_,hcell⟩:=h.all (by omega);simp only[Value.slice.injEq]at e;obtain⟨rfl,e2,rfl⟩:=e;clear e2;have HC:Hid (∀i,i<l.length→∀W,Chg [] w W→W.cell? ⟨b,o+i,none⟩=some (.int .u8 (gB l i:Nat))):=zH (fun i hi W hc=>hc.cell (hcell i (by omega)) (by simp))
 have HBL:Hid (b<w.heap.size):=zH (World.block_lt_of_cell? w _ (hcell 0 (by omega)));have g12:=gB_lt hb 12;have g13:=gB_lt hb 13;obtain⟨hd,hhd⟩:∃hd,hd=gB l 12/16*4:=⟨_,rfl⟩;have HE:Hid (tcpS l=if gB l 12%16≠0∨hd<20 then .error 5 else if l.length<hd then .error 3
  else if optS ((l.drop 20).take (hd-20))≠0 then .error (optS ((l.drop 20).take (hd-20)))
  else .ok ⟨⟨(w2 l 0:Nat),(w2 l 2:Nat),(w4 l 4:Nat),(w4 l 8:Nat),(gB l 13:Nat),(w2 l 14:Nat),(w2 l 16:Nat),(w2 l 18:Nat)⟩,l.drop hd⟩):=zH (by
   conv=>lhs;unfold tcpS
   rw[if_neg h20,←hhd,List.drop_take])
 have k12:=HC.out 12 (by omega) _ HA.out;have i12:(12:Int)<(l.length:Int):=by omega
 have q1:((gB l 12:Nat):Int)/16=((gB l 12/16:Nat):Int):=rfl;have t1:((gB l 12:Nat):Int).tdiv 16=((gB l 12/16:Nat):Int):=rfl;have r1:((gB l 12:Nat):Int)%16=((gB l 12%16:Nat):Int):=rfl;have s1:((gB l 12:Nat):Int).tmod 16=((gB l 12%16:Nat):Int):=rfl
 have u1:IntKind.u8.wrap ((gB l 12/16:Nat):Int)=((gB l 12/16:Nat):Int):=by rw[IntKind.wrap_u8'];omega
 have u2:IntKind.u8.wrap ((gB l 12%16:Nat):Int)=((gB l 12%16:Nat):Int):=by rw[IntKind.wrap_u8'];omega
 have q2:IntKind.i64.wrap ((gB l 12/16:Nat):Int)=((gB l 12/16:Nat):Int):=by rw[IntKind.wrap_i64];omega
 have q3:IntKind.i64.wrap (((gB l 12/16:Nat):Int)*4)=(hd:Int):=by rw[IntKind.wrap_i64];omega
 have hdlt:hd≤60:=by omega
 have hd5:hd<20↔gB l 12/16<5:=by omega
 generalize gB l 12/16=x16 at *;generalize hm16:gB l 12%16=m16 at *;generalize gB l 12=x12 at *;clear hhd hm16;by_cases hm:m16≠0
 ·have hE:Hid (tcpS l=.error 5):=zH (by rw[HE.out,if_pos (.inl hm)]);have hJ:(((m16:Nat):Int) !=0)=true:=by simp;omega
  generalize l.length=N at *;clear h hb hl hA HE HC hcell h20 hm hd5;go_enter Tryz.func44,Tryz.ntmps44
  go_wp2_with (first
   |(refine zs (vs:=arrTc tc0 noV noV) rfl 34 (.tmp 2) (.tmp 23) rfl rfl hB2 rfl rfl rfl infTc rfl ?_;intro w9 hB9 hc9)
   |fail)
  refine bodyPost_ret (zr rfl rfl hB9 _ Tryz.underlying34 rfl infTc) rfl ?_;exact⟨TpPost.err hE.out,HA.out.trans' hc9 (zN (by omega))⟩
 obtain rfl:m16=0:=by omega
 by_cases hd2:hd<20
 ·have hE:Hid (tcpS l=.error 5):=zH (by rw[HE.out,if_pos (.inr hd2)]);have hJ:(x16:Int)<5:=by have:=hd5.1 hd2;omega
  generalize l.length=N at *;clear h hb hl hA HE HC hcell h20 hm hd5 hd2;go_enter Tryz.func44,Tryz.ntmps44
  go_wp2_with (first
   |(refine zs (vs:=arrTc tc0 noV noV) rfl 34 (.tmp 2) (.tmp 23) rfl rfl hB2 rfl rfl rfl infTc rfl ?_;intro w9 hB9 hc9)
   |fail)
  refine bodyPost_ret (zr rfl rfl hB9 _ Tryz.underlying34 rfl infTc) rfl ?_;exact⟨TpPost.err hE.out,HA.out.trans' hc9 (zN (by omega))⟩
 have hJ:¬(x16:Int)<5:=by have:¬x16<5:=fun h=>hd2 (hd5.2 h);omega
 rw[if_neg (by omega)]at HE;by_cases hlong:l.length<hd
 ·have hE:Hid (tcpS l=.error 3):=zH (by rw[HE.out,if_pos hlong]);have hK:(hd:Int)>(l.length:Int):=by omega
  generalize l.length=N at *;clear h hb hl hA HE HC hcell h20 hm hd5 hd2;go_enter Tryz.func44,Tryz.ntmps44
  go_wp2_with (first
   |(refine zs (vs:=arrTc tc0 noV noV) rfl 34 (.tmp 2) (.tmp 34) rfl rfl hB2 rfl rfl rfl infTc rfl ?_;intro w9 hB9 hc9)
   |fail)
  refine bodyPost_ret (zr rfl rfl hB9 _ Tryz.underlying34 rfl infTc) rfl ?_;exact⟨TpPost.err hE.out,HA.out.trans' hc9 (zN (by omega))⟩
 rw[if_neg hlong]at HE;have hK:¬(hd:Int)>(l.length:Int):=by omega
 obtain⟨X,hXr,hsX⟩:=cutY2 h (lo:=20) (hi:=hd) (by omega) (by omega);obtain⟨Y,hYr,hsY⟩:=cutYf h (lo:=hd) (by omega);have hXr':∀W:World,(Instr.slice 22 (.slice (some ⟨b,o,none⟩) l.length c) (some (.int .i64 20)) (some (.int .i64 (hd:Int))) none).run Tryz.prog W=.ok (.slice X (hd-20) (c-20)) W:=hXr
 have HYr:Hid (∀W:World,(Instr.slice 22 (.slice (some ⟨b,o,none⟩) l.length c) (some (.int .i64 (hd:Int))) none none).run Tryz.prog W=.ok (.slice Y (l.length-hd) (c-hd)) W):=zH hYr;have FT:=zH (roparse_any (hsX.chg0 HA.out) ((hb.drop 20).take (hd-20)) (by rw[List.length_take,List.length_drop];omega))
 have G0:=zH (fun (W:World) (hc:Chg [] w W)=>rtwo7_any (h.chg0 hc) hb hl (at_:=0) (by omega));have G1:=zH (fun (W:World) (hc:Chg [] w W)=>rtwo7_any (h.chg0 hc) hb hl (at_:=2) (by omega));have G2:=zH (fun (W:World) (hc:Chg [] w W)=>rfour7_any (h.chg0 hc) hb hl (at_:=4) (by omega))
 have G3:=zH (fun (W:World) (hc:Chg [] w W)=>rfour7_any (h.chg0 hc) hb hl (at_:=8) (by omega));have G4:=zH (fun (W:World) (hc:Chg [] w W)=>rtwo7_any (h.chg0 hc) hb hl (at_:=14) (by omega));have G5:=zH (fun (W:World) (hc:Chg [] w W)=>rtwo7_any (h.chg0 hc) hb hl (at_:=16) (by omega))
 have G6:=zH (fun (W:World) (hc:Chg [] w W)=>rtwo7_any (h.chg0 hc) hb hl (at_:=18) (by omega));have HYS0:=zH (fun (W:World) (hc:Chg [] w W)=>Sl.less (hsY.chg0 hc) (Nat.zero_le 0));have HDL:Hid ((l.drop hd).length=l.length-hd):=zH List.length_drop;have hldl:l.length-hd≤1000000:=by omega
 have HC13:=HC.out 13 (by omega);have HC13:=zH HC13;have i13:(13:Int)<(l.length:Int):=by omega
 have w13:IntKind.i64.wrap ((gB l 13:Nat):Int)=((gB l 13:Nat):Int):=by rw[IntKind.wrap_i64];omega
 generalize optS ((l.drop 20).take (hd-20))=os at *;have HOE:=HE;clear hcell HC h hb hA hXr hYr hsX hsY h20 hm hd5 hd2 hlong HE hl;generalize w2 l 0=a0 at *;generalize w2 l 2=a1 at *;generalize w4 l 4=a2 at *;generalize w4 l 8=a3 at *;generalize gB l 13=a4 at *;generalize w2 l 14=a5 at *
 generalize w2 l 16=a6 at *;generalize w2 l 18=a7 at *;go_enter Tryz.func44,Tryz.ntmps44
 go_wp2_with fail;refine FT.out.mono ?_;rintro e w5 ⟨⟨u,rfl,hu1,A9,n9,c9,rfl⟩,hc5⟩;have hB5:=hB2.chg hc5 (by simp);have HC5:=zH (HA.out.trans hc5);have hlt5:=hB5.lt;clear FT hB2 hc5 k12 q1 t1 r1 s1 u1 u2 q2 q3 hXr' HA;by_cases hos:os=0
 case neg=>
  have hE:Hid (tcpS l=.error os):=zH (by rw[HOE.out,if_pos hos]);have hI9:(os !=0)=true:=by simpa using hos
  clear hos HOE HYr;go_wp2_with (first
   |(refine zs (vs:=arrTc tc0 noV noV) rfl 34 (.tmp 2) (.tmp 44) rfl rfl hB5 rfl rfl rfl infTc rfl ?_;intro w9 hB9 hc9)
   |fail)
  refine bodyPost_ret (zr rfl rfl hB9 _ Tryz.underlying34 rfl infTc) rfl ?_;exact⟨TpPost.err hE.out,HC5.out.trans' hc9 (zN (by omega))⟩
 ·have hE:Hid (tcpS l=.ok ⟨⟨(a0:Nat),(a1:Nat),(a2:Nat),(a3:Nat),(a4:Nat),(a5:Nat),(a6:Nat),(a7:Nat)⟩,l.drop hd⟩):=zH (by rw[HOE.out,if_neg (by simpa using hos)]);subst hos;have F0:=zH (fun W (hc:Chg [] w5 W)=>G0.out W (HC5.out.trans hc))
  have F1:=zH (fun W (hc:Chg [] w5 W)=>G1.out W (HC5.out.trans hc));have F2:=zH (fun W (hc:Chg [] w5 W)=>G2.out W (HC5.out.trans hc));have F3:=zH (fun W (hc:Chg [] w5 W)=>G3.out W (HC5.out.trans hc));have F4:=zH (fun W (hc:Chg [] w5 W)=>G4.out W (HC5.out.trans hc))
  have F5:=zH (fun W (hc:Chg [] w5 W)=>G5.out W (HC5.out.trans hc));have F6:=zH (fun W (hc:Chg [] w5 W)=>G6.out W (HC5.out.trans hc));have HYS:=zH (fun W (hc:Chg [] w5 W)=>HYS0.out W (HC5.out.trans hc))
  have C13:Hid (∀W,Chg [w.heap.size] w5 W→W.cell? ⟨b,o+13,none⟩=some (.int .u8 (a4:Nat))):=zH (fun W hc=>hc.cell (HC13.out w5 HC5.out) (by have:=HBL.out;simp only[List.mem_singleton];omega));have HBR:=zH hB5;have HLT:=zH hlt5;have hyr:=HYr.out;clear G0 G1 G2 G3 G4 G5 G6 HYS0 HC13 HOE HYr hB5 hlt5
  go_upto_region 11 with fail
  have hD:Chg [] w5 w5.drew:=(Chg.refl [] w5).drew;have hSD:(fun W:World=>Chg [w.heap.size] w5 W) w5.drew:=hD.more (by simp);refine wp_region_noPanic ?_;refine wp_region_held_drew (S:=fun W:World=>Chg [w.heap.size] w5 W) (by kernel_rfl) hSD (fun _=>?_)
  refine zU 0 rfl (by go_simp<;>with_reducible rfl) ?_
  try simp only[zP]
  refine zU 2 rfl (by go_simp<;>with_reducible rfl) ?_
  try simp only[zP]
  refine zU 4 rfl (by go_simp<;>with_reducible rfl) ?_
  try simp only[zP]
  refine zU 6 rfl (by go_simp<;>with_reducible rfl) ?_
  try simp only[zP]
  refine zU 8 rfl (by go_simp<;>with_reducible rfl) ?_
  try simp only[zP]
  refine zU 9 rfl (by go_simp<;>with_reducible rfl) ?_
  try simp only[zP]
  refine zT 10 rfl (zc (by rfl) 5 (.tmp 55) rfl b (o+13) rfl (.int .u8 (a4:Nat)) _ C13.out Tryz.underlying5 rfl) ?_
  try simp only[zP]
  refine zU 11 rfl (by go_simp<;>with_reducible rfl) ?_
  try simp only[zP]
  refine zU 12 rfl (by go_simp<;>with_reducible rfl) ?_
  try simp only[zP]
  refine zU 14 rfl (by go_simp<;>with_reducible rfl) ?_
  try simp only[zP]
  refine zU 16 rfl (by go_simp<;>with_reducible rfl) ?_
  try simp only[zP]
  refine zU 18 rfl (by go_simp<;>with_reducible rfl) ?_
  try simp only[zP]
  refine zU 20 rfl (by go_simp<;>with_reducible rfl) ?_
  try simp only[zP]
  refine zU 21 rfl (by go_simp<;>with_reducible rfl) ?_
  try simp only[zP]
  refine zU 22 rfl (by go_simp<;>with_reducible rfl) ?_
  try simp only[zP]
  refine wpAnyH_ready (rs:=[1,19]) (by kernel_rfl) (by simp) (AllReadyH.cons rfl (fun K hK=>?_) (AllReadyH.cons rfl (fun K hK=>?_) AllReadyH.nil))
  rotate_left
  ·skip
   refine step_run (v:=.slice (some ⟨w5.drew.heap.size,0,none⟩) 0 0) (w':=w5.drew.alloc (.cells #[] 5)) rfl (by go_simp<;>rfl) ?_;have h_w_v1:Chg [] w5 (w5.drew.alloc (.cells #[] 5)):=hD.alloc _;have s_w_v1:(fun W:World=>Chg [w.heap.size] w5 W) (w5.drew.alloc (.cells #[] 5)):=h_w_v1.more (by simp)
   have ho_w_v1:(w5.drew.alloc (.cells #[] 5)).ownsRow w5.heap.size 5 1 (.slice (some ⟨w5.drew.heap.size,0,none⟩) 0 0) 0 []:=own_lit (base:=w5.heap.size) w5.drew 5 1 0 #[] hD.size (by simp[maxLen]) rfl;refine zB hK ?_;clear hK K
   try simp only[zP]
   refine zR 1 rfl (fun K hK=>?_);go_simp
   refine (F0.out _ h_w_v1).mono ?_;rintro e w_v2 ⟨rfl,c_w_v2⟩;have h_w_v2:Chg [] w5 w_v2:=h_w_v1.trans c_w_v2;have s_w_v2:(fun W:World=>Chg [w.heap.size] w5 W) w_v2:=h_w_v2.more (by simp);have ho_w_v2:=own_chg ho_w_v1 c_w_v2 (by intro x _;simp);clear c_w_v2;refine zB hK ?_;clear hK K
   try simp only[zP]
   refine zR 3 rfl (fun K hK=>?_);go_simp
   refine (F1.out _ h_w_v2).mono ?_;rintro e w_v3 ⟨rfl,c_w_v3⟩;have h_w_v3:Chg [] w5 w_v3:=h_w_v2.trans c_w_v3;have s_w_v3:(fun W:World=>Chg [w.heap.size] w5 W) w_v3:=h_w_v3.more (by simp);have ho_w_v3:=own_chg ho_w_v2 c_w_v3 (by intro x _;simp);clear c_w_v3;refine zB hK ?_;clear hK K
   try simp only[zP]
   refine zR 5 rfl (fun K hK=>?_);go_simp
   refine (F2.out _ h_w_v3).mono ?_;rintro e w_v4 ⟨rfl,c_w_v4⟩;have h_w_v4:Chg [] w5 w_v4:=h_w_v3.trans c_w_v4;have s_w_v4:(fun W:World=>Chg [w.heap.size] w5 W) w_v4:=h_w_v4.more (by simp);have ho_w_v4:=own_chg ho_w_v3 c_w_v4 (by intro x _;simp);clear c_w_v4;refine zB hK ?_;clear hK K
   try simp only[zP]
   refine zR 7 rfl (fun K hK=>?_);go_simp
   refine (F3.out _ h_w_v4).mono ?_;rintro e w_v5 ⟨rfl,c_w_v5⟩;have h_w_v5:Chg [] w5 w_v5:=h_w_v4.trans c_w_v5;have s_w_v5:(fun W:World=>Chg [w.heap.size] w5 W) w_v5:=h_w_v5.more (by simp);have ho_w_v5:=own_chg ho_w_v4 c_w_v5 (by intro x _;simp);clear c_w_v5;refine zB hK ?_;clear hK K
   try simp only[zP]
   refine zR 13 rfl (fun K hK=>?_);go_simp
   refine (F4.out _ h_w_v5).mono ?_;rintro e w_v6 ⟨rfl,c_w_v6⟩;have h_w_v6:Chg [] w5 w_v6:=h_w_v5.trans c_w_v6;have s_w_v6:(fun W:World=>Chg [w.heap.size] w5 W) w_v6:=h_w_v6.more (by simp);have ho_w_v6:=own_chg ho_w_v5 c_w_v6 (by intro x _;simp);clear c_w_v6;refine zB hK ?_;clear hK K
   try simp only[zP]
   refine zR 15 rfl (fun K hK=>?_);go_simp
   refine (F5.out _ h_w_v6).mono ?_;rintro e w_v7 ⟨rfl,c_w_v7⟩;have h_w_v7:Chg [] w5 w_v7:=h_w_v6.trans c_w_v7;have s_w_v7:(fun W:World=>Chg [w.heap.size] w5 W) w_v7:=h_w_v7.more (by simp);have ho_w_v7:=own_chg ho_w_v6 c_w_v7 (by intro x _;simp);clear c_w_v7;refine zB hK ?_;clear hK K
   try simp only[zP]
   refine zR 17 rfl (fun K hK=>?_);go_simp
   refine (F6.out _ h_w_v7).mono ?_;rintro e w_v8 ⟨rfl,c_w_v8⟩;have h_w_v8:Chg [] w5 w_v8:=h_w_v7.trans c_w_v8;have s_w_v8:(fun W:World=>Chg [w.heap.size] w5 W) w_v8:=h_w_v8.more (by simp);have ho_w_v8:=own_chg ho_w_v7 c_w_v8 (by intro x _;simp);clear c_w_v8;refine zB hK ?_;clear hK K
   try simp only[zP]
   refine zR 23 rfl (fun K hK=>?_);refine step_app elY rfl (.tmp 65) (.tmp 68) rfl w5.heap.size rfl ho_w_v8 rfl ((HYS.out _ h_w_v8)) (byV_one _) (by rw[HDL.out];unfold maxLen;omega) (by rw[HDL.out];omega) h_w_v8.size ?_;intro vz wz hownz hcz hbz
   have hDz:Chg [] w5 wz:=h_w_v8.trans' hcz (fun x hx=>.inr (own_lt ho_w_v8 x hx).1);have sz:(fun W:World=>Chg [w.heap.size] w5 W) wz:=hDz.more (by simp);have hoz:SlY wz w5.heap.size vz (l.drop hd):=by
    refine OwY.sl ?_;unfold OwY;simpa using hownz
   obtain⟨Az,cz,rfl⟩:=hoz.form;have HOZ:=zH hoz;have hBz:=HBR.out.chg hDz (by simp);generalize (l.drop hd).length=nz at *;clear hownz hcz hbz hoz;refine zB hK ?_;clear hK K
   try simp only[zP]
   refine zU 24 rfl (by go_simp<;>with_reducible rfl) ?_
   try simp only[zP]
   refine zR 25 rfl (fun K hK=>?_);refine step_store_blk (vs:=arrTc ⟨a0,a1,a2,a3,a4,a5,a6,a7⟩ (.slice A9 n9 c9) (.slice Az nz cz)) rfl 34 (.tmp 2) (.tmp 70) rfl hBz rfl rfl rfl infTc rfl ?_;intro wy hBy hcy;have sy:(fun W:World=>Chg [w.heap.size] w5 W) wy:=Chg.trans sz hcy
   have HF:=zH (Sl.less (Sl.chg HOZ.out hcy (by intro x hx;simp at hx;subst hx;exact HLT.out)) (B':=w.heap.size) (Nat.le_of_lt HLT.out));have HCF:=zH (HC5.out.trans' sy (by intro x hx;simp at hx;subst hx;right;exact Nat.le_refl _));clear sz hcy hBz;refine zB hK ?_;clear hK K
   try simp only[zP]
   refine zU 26 rfl (by go_simp<;>with_reducible rfl) ?_
   try simp only[zP]
   refine wpAnyH_done (by kernel_rfl) ?_ _;refine NoPanic.normal ?_;go_wp2_with fail;refine bodyPost_ret (zr rfl rfl hBy _ Tryz.underlying34 rfl infTc) rfl ?_;exact⟨TpPost.ok hE.out HF.out,HCF.out⟩
  go_simp
  refine (F0.out _ hD).mono ?_;rintro e w_v9 ⟨rfl,c_w_v9⟩;have h_w_v9:Chg [] w5 w_v9:=hD.trans c_w_v9;have s_w_v9:(fun W:World=>Chg [w.heap.size] w5 W) w_v9:=h_w_v9.more (by simp);clear c_w_v9;refine zB hK ?_;clear hK K
  try simp only[zP]
  refine wpAnyH_ready (rs:=[3,19]) (by kernel_rfl) (by simp) (AllReadyH.cons rfl (fun K hK=>?_) (AllReadyH.cons rfl (fun K hK=>?_) AllReadyH.nil))
  rotate_left
  ·skip
   refine step_run (v:=.slice (some ⟨w_v9.heap.size,0,none⟩) 0 0) (w':=w_v9.alloc (.cells #[] 5)) rfl (by go_simp<;>rfl) ?_;have h_w_v10:Chg [] w5 (w_v9.alloc (.cells #[] 5)):=h_w_v9.alloc _;have s_w_v10:(fun W:World=>Chg [w.heap.size] w5 W) (w_v9.alloc (.cells #[] 5)):=h_w_v10.more (by simp)
   have ho_w_v10:(w_v9.alloc (.cells #[] 5)).ownsRow w5.heap.size 5 1 (.slice (some ⟨w_v9.heap.size,0,none⟩) 0 0) 0 []:=own_lit (base:=w5.heap.size) w_v9 5 1 0 #[] h_w_v9.size (by simp[maxLen]) rfl;refine zB hK ?_;clear hK K
   try simp only[zP]
   refine zR 3 rfl (fun K hK=>?_);go_simp
   refine (F1.out _ h_w_v10).mono ?_;rintro e w_v11 ⟨rfl,c_w_v11⟩;have h_w_v11:Chg [] w5 w_v11:=h_w_v10.trans c_w_v11;have s_w_v11:(fun W:World=>Chg [w.heap.size] w5 W) w_v11:=h_w_v11.more (by simp);have ho_w_v11:=own_chg ho_w_v10 c_w_v11 (by intro x _;simp);clear c_w_v11;refine zB hK ?_;clear hK K
   try simp only[zP]
   refine zR 5 rfl (fun K hK=>?_);go_simp
   refine (F2.out _ h_w_v11).mono ?_;rintro e w_v12 ⟨rfl,c_w_v12⟩;have h_w_v12:Chg [] w5 w_v12:=h_w_v11.trans c_w_v12;have s_w_v12:(fun W:World=>Chg [w.heap.size] w5 W) w_v12:=h_w_v12.more (by simp);have ho_w_v12:=own_chg ho_w_v11 c_w_v12 (by intro x _;simp);clear c_w_v12;refine zB hK ?_;clear hK K
   try simp only[zP]
   refine zR 7 rfl (fun K hK=>?_);go_simp
   refine (F3.out _ h_w_v12).mono ?_;rintro e w_v13 ⟨rfl,c_w_v13⟩;have h_w_v13:Chg [] w5 w_v13:=h_w_v12.trans c_w_v13;have s_w_v13:(fun W:World=>Chg [w.heap.size] w5 W) w_v13:=h_w_v13.more (by simp);have ho_w_v13:=own_chg ho_w_v12 c_w_v13 (by intro x _;simp);clear c_w_v13;refine zB hK ?_;clear hK K
   try simp only[zP]
   refine zR 13 rfl (fun K hK=>?_);go_simp
   refine (F4.out _ h_w_v13).mono ?_;rintro e w_v14 ⟨rfl,c_w_v14⟩;have h_w_v14:Chg [] w5 w_v14:=h_w_v13.trans c_w_v14;have s_w_v14:(fun W:World=>Chg [w.heap.size] w5 W) w_v14:=h_w_v14.more (by simp);have ho_w_v14:=own_chg ho_w_v13 c_w_v14 (by intro x _;simp);clear c_w_v14;refine zB hK ?_;clear hK K
   try simp only[zP]
   refine zR 15 rfl (fun K hK=>?_);go_simp
   refine (F5.out _ h_w_v14).mono ?_;rintro e w_v15 ⟨rfl,c_w_v15⟩;have h_w_v15:Chg [] w5 w_v15:=h_w_v14.trans c_w_v15;have s_w_v15:(fun W:World=>Chg [w.heap.size] w5 W) w_v15:=h_w_v15.more (by simp);have ho_w_v15:=own_chg ho_w_v14 c_w_v15 (by intro x _;simp);clear c_w_v15;refine zB hK ?_;clear hK K
   try simp only[zP]
   refine zR 17 rfl (fun K hK=>?_);go_simp
   refine (F6.out _ h_w_v15).mono ?_;rintro e w_v16 ⟨rfl,c_w_v16⟩;have h_w_v16:Chg [] w5 w_v16:=h_w_v15.trans c_w_v16;have s_w_v16:(fun W:World=>Chg [w.heap.size] w5 W) w_v16:=h_w_v16.more (by simp);have ho_w_v16:=own_chg ho_w_v15 c_w_v16 (by intro x _;simp);clear c_w_v16;refine zB hK ?_;clear hK K
   try simp only[zP]
   refine zR 23 rfl (fun K hK=>?_);refine step_app elY rfl (.tmp 65) (.tmp 68) rfl w5.heap.size rfl ho_w_v16 rfl ((HYS.out _ h_w_v16)) (byV_one _) (by rw[HDL.out];unfold maxLen;omega) (by rw[HDL.out];omega) h_w_v16.size ?_;intro vz wz hownz hcz hbz
   have hDz:Chg [] w5 wz:=h_w_v16.trans' hcz (fun x hx=>.inr (own_lt ho_w_v16 x hx).1);have sz:(fun W:World=>Chg [w.heap.size] w5 W) wz:=hDz.more (by simp);have hoz:SlY wz w5.heap.size vz (l.drop hd):=by
    refine OwY.sl ?_;unfold OwY;simpa using hownz
   obtain⟨Az,cz,rfl⟩:=hoz.form;have HOZ:=zH hoz;have hBz:=HBR.out.chg hDz (by simp);generalize (l.drop hd).length=nz at *;clear hownz hcz hbz hoz;refine zB hK ?_;clear hK K
   try simp only[zP]
   refine zU 24 rfl (by go_simp<;>with_reducible rfl) ?_
   try simp only[zP]
   refine zR 25 rfl (fun K hK=>?_);refine step_store_blk (vs:=arrTc ⟨a0,a1,a2,a3,a4,a5,a6,a7⟩ (.slice A9 n9 c9) (.slice Az nz cz)) rfl 34 (.tmp 2) (.tmp 70) rfl hBz rfl rfl rfl infTc rfl ?_;intro wy hBy hcy;have sy:(fun W:World=>Chg [w.heap.size] w5 W) wy:=Chg.trans sz hcy
   have HF:=zH (Sl.less (Sl.chg HOZ.out hcy (by intro x hx;simp at hx;subst hx;exact HLT.out)) (B':=w.heap.size) (Nat.le_of_lt HLT.out));have HCF:=zH (HC5.out.trans' sy (by intro x hx;simp at hx;subst hx;right;exact Nat.le_refl _));clear sz hcy hBz;refine zB hK ?_;clear hK K
   try simp only[zP]
   refine zU 26 rfl (by go_simp<;>with_reducible rfl) ?_
   try simp only[zP]
   refine wpAnyH_done (by kernel_rfl) ?_ _;refine NoPanic.normal ?_;go_wp2_with fail;refine bodyPost_ret (zr rfl rfl hBy _ Tryz.underlying34 rfl infTc) rfl ?_;exact⟨TpPost.ok hE.out HF.out,HCF.out⟩
  go_simp
  refine (F1.out _ h_w_v9).mono ?_;rintro e w_v17 ⟨rfl,c_w_v17⟩;have h_w_v17:Chg [] w5 w_v17:=h_w_v9.trans c_w_v17;have s_w_v17:(fun W:World=>Chg [w.heap.size] w5 W) w_v17:=h_w_v17.more (by simp);clear c_w_v17;refine zB hK ?_;clear hK K
  try simp only[zP]
  refine wpAnyH_ready (rs:=[5,19]) (by kernel_rfl) (by simp) (AllReadyH.cons rfl (fun K hK=>?_) (AllReadyH.cons rfl (fun K hK=>?_) AllReadyH.nil))
  rotate_left
  ·skip
   refine step_run (v:=.slice (some ⟨w_v17.heap.size,0,none⟩) 0 0) (w':=w_v17.alloc (.cells #[] 5)) rfl (by go_simp<;>rfl) ?_;have h_w_v18:Chg [] w5 (w_v17.alloc (.cells #[] 5)):=h_w_v17.alloc _;have s_w_v18:(fun W:World=>Chg [w.heap.size] w5 W) (w_v17.alloc (.cells #[] 5)):=h_w_v18.more (by simp)
   have ho_w_v18:(w_v17.alloc (.cells #[] 5)).ownsRow w5.heap.size 5 1 (.slice (some ⟨w_v17.heap.size,0,none⟩) 0 0) 0 []:=own_lit (base:=w5.heap.size) w_v17 5 1 0 #[] h_w_v17.size (by simp[maxLen]) rfl;refine zB hK ?_;clear hK K
   try simp only[zP]
   refine zR 5 rfl (fun K hK=>?_);go_simp
   refine (F2.out _ h_w_v18).mono ?_;rintro e w_v19 ⟨rfl,c_w_v19⟩;have h_w_v19:Chg [] w5 w_v19:=h_w_v18.trans c_w_v19;have s_w_v19:(fun W:World=>Chg [w.heap.size] w5 W) w_v19:=h_w_v19.more (by simp);have ho_w_v19:=own_chg ho_w_v18 c_w_v19 (by intro x _;simp);clear c_w_v19;refine zB hK ?_;clear hK K
   try simp only[zP]
   refine zR 7 rfl (fun K hK=>?_);go_simp
   refine (F3.out _ h_w_v19).mono ?_;rintro e w_v20 ⟨rfl,c_w_v20⟩;have h_w_v20:Chg [] w5 w_v20:=h_w_v19.trans c_w_v20;have s_w_v20:(fun W:World=>Chg [w.heap.size] w5 W) w_v20:=h_w_v20.more (by simp);have ho_w_v20:=own_chg ho_w_v19 c_w_v20 (by intro x _;simp);clear c_w_v20;refine zB hK ?_;clear hK K
   try simp only[zP]
   refine zR 13 rfl (fun K hK=>?_);go_simp
   refine (F4.out _ h_w_v20).mono ?_;rintro e w_v21 ⟨rfl,c_w_v21⟩;have h_w_v21:Chg [] w5 w_v21:=h_w_v20.trans c_w_v21;have s_w_v21:(fun W:World=>Chg [w.heap.size] w5 W) w_v21:=h_w_v21.more (by simp);have ho_w_v21:=own_chg ho_w_v20 c_w_v21 (by intro x _;simp);clear c_w_v21;refine zB hK ?_;clear hK K
   try simp only[zP]
   refine zR 15 rfl (fun K hK=>?_);go_simp
   refine (F5.out _ h_w_v21).mono ?_;rintro e w_v22 ⟨rfl,c_w_v22⟩;have h_w_v22:Chg [] w5 w_v22:=h_w_v21.trans c_w_v22;have s_w_v22:(fun W:World=>Chg [w.heap.size] w5 W) w_v22:=h_w_v22.more (by simp);have ho_w_v22:=own_chg ho_w_v21 c_w_v22 (by intro x _;simp);clear c_w_v22;refine zB hK ?_;clear hK K
   try simp only[zP]
   refine zR 17 rfl (fun K hK=>?_);go_simp
   refine (F6.out _ h_w_v22).mono ?_;rintro e w_v23 ⟨rfl,c_w_v23⟩;have h_w_v23:Chg [] w5 w_v23:=h_w_v22.trans c_w_v23;have s_w_v23:(fun W:World=>Chg [w.heap.size] w5 W) w_v23:=h_w_v23.more (by simp);have ho_w_v23:=own_chg ho_w_v22 c_w_v23 (by intro x _;simp);clear c_w_v23;refine zB hK ?_;clear hK K
   try simp only[zP]
   refine zR 23 rfl (fun K hK=>?_);refine step_app elY rfl (.tmp 65) (.tmp 68) rfl w5.heap.size rfl ho_w_v23 rfl ((HYS.out _ h_w_v23)) (byV_one _) (by rw[HDL.out];unfold maxLen;omega) (by rw[HDL.out];omega) h_w_v23.size ?_;intro vz wz hownz hcz hbz
   have hDz:Chg [] w5 wz:=h_w_v23.trans' hcz (fun x hx=>.inr (own_lt ho_w_v23 x hx).1);have sz:(fun W:World=>Chg [w.heap.size] w5 W) wz:=hDz.more (by simp);have hoz:SlY wz w5.heap.size vz (l.drop hd):=by
    refine OwY.sl ?_;unfold OwY;simpa using hownz
   obtain⟨Az,cz,rfl⟩:=hoz.form;have HOZ:=zH hoz;have hBz:=HBR.out.chg hDz (by simp);generalize (l.drop hd).length=nz at *;clear hownz hcz hbz hoz;refine zB hK ?_;clear hK K
   try simp only[zP]
   refine zU 24 rfl (by go_simp<;>with_reducible rfl) ?_
   try simp only[zP]
   refine zR 25 rfl (fun K hK=>?_);refine step_store_blk (vs:=arrTc ⟨a0,a1,a2,a3,a4,a5,a6,a7⟩ (.slice A9 n9 c9) (.slice Az nz cz)) rfl 34 (.tmp 2) (.tmp 70) rfl hBz rfl rfl rfl infTc rfl ?_;intro wy hBy hcy;have sy:(fun W:World=>Chg [w.heap.size] w5 W) wy:=Chg.trans sz hcy
   have HF:=zH (Sl.less (Sl.chg HOZ.out hcy (by intro x hx;simp at hx;subst hx;exact HLT.out)) (B':=w.heap.size) (Nat.le_of_lt HLT.out));have HCF:=zH (HC5.out.trans' sy (by intro x hx;simp at hx;subst hx;right;exact Nat.le_refl _));clear sz hcy hBz;refine zB hK ?_;clear hK K
   try simp only[zP]
   refine zU 26 rfl (by go_simp<;>with_reducible rfl) ?_
   try simp only[zP]
   refine wpAnyH_done (by kernel_rfl) ?_ _;refine NoPanic.normal ?_;go_wp2_with fail;refine bodyPost_ret (zr rfl rfl hBy _ Tryz.underlying34 rfl infTc) rfl ?_;exact⟨TpPost.ok hE.out HF.out,HCF.out⟩
  go_simp
  refine (F2.out _ h_w_v17).mono ?_;rintro e w_v24 ⟨rfl,c_w_v24⟩;have h_w_v24:Chg [] w5 w_v24:=h_w_v17.trans c_w_v24;have s_w_v24:(fun W:World=>Chg [w.heap.size] w5 W) w_v24:=h_w_v24.more (by simp);clear c_w_v24;refine zB hK ?_;clear hK K
  try simp only[zP]
  refine wpAnyH_ready (rs:=[7,19]) (by kernel_rfl) (by simp) (AllReadyH.cons rfl (fun K hK=>?_) (AllReadyH.cons rfl (fun K hK=>?_) AllReadyH.nil))
  rotate_left
  ·skip
   refine step_run (v:=.slice (some ⟨w_v24.heap.size,0,none⟩) 0 0) (w':=w_v24.alloc (.cells #[] 5)) rfl (by go_simp<;>rfl) ?_;have h_w_v25:Chg [] w5 (w_v24.alloc (.cells #[] 5)):=h_w_v24.alloc _;have s_w_v25:(fun W:World=>Chg [w.heap.size] w5 W) (w_v24.alloc (.cells #[] 5)):=h_w_v25.more (by simp)
   have ho_w_v25:(w_v24.alloc (.cells #[] 5)).ownsRow w5.heap.size 5 1 (.slice (some ⟨w_v24.heap.size,0,none⟩) 0 0) 0 []:=own_lit (base:=w5.heap.size) w_v24 5 1 0 #[] h_w_v24.size (by simp[maxLen]) rfl;refine zB hK ?_;clear hK K
   try simp only[zP]
   refine zR 7 rfl (fun K hK=>?_);go_simp
   refine (F3.out _ h_w_v25).mono ?_;rintro e w_v26 ⟨rfl,c_w_v26⟩;have h_w_v26:Chg [] w5 w_v26:=h_w_v25.trans c_w_v26;have s_w_v26:(fun W:World=>Chg [w.heap.size] w5 W) w_v26:=h_w_v26.more (by simp);have ho_w_v26:=own_chg ho_w_v25 c_w_v26 (by intro x _;simp);clear c_w_v26;refine zB hK ?_;clear hK K
   try simp only[zP]
   refine zR 13 rfl (fun K hK=>?_);go_simp
   refine (F4.out _ h_w_v26).mono ?_;rintro e w_v27 ⟨rfl,c_w_v27⟩;have h_w_v27:Chg [] w5 w_v27:=h_w_v26.trans c_w_v27;have s_w_v27:(fun W:World=>Chg [w.heap.size] w5 W) w_v27:=h_w_v27.more (by simp);have ho_w_v27:=own_chg ho_w_v26 c_w_v27 (by intro x _;simp);clear c_w_v27;refine zB hK ?_;clear hK K
   try simp only[zP]
   refine zR 15 rfl (fun K hK=>?_);go_simp
   refine (F5.out _ h_w_v27).mono ?_;rintro e w_v28 ⟨rfl,c_w_v28⟩;have h_w_v28:Chg [] w5 w_v28:=h_w_v27.trans c_w_v28;have s_w_v28:(fun W:World=>Chg [w.heap.size] w5 W) w_v28:=h_w_v28.more (by simp);have ho_w_v28:=own_chg ho_w_v27 c_w_v28 (by intro x _;simp);clear c_w_v28;refine zB hK ?_;clear hK K
   try simp only[zP]
   refine zR 17 rfl (fun K hK=>?_);go_simp
   refine (F6.out _ h_w_v28).mono ?_;rintro e w_v29 ⟨rfl,c_w_v29⟩;have h_w_v29:Chg [] w5 w_v29:=h_w_v28.trans c_w_v29;have s_w_v29:(fun W:World=>Chg [w.heap.size] w5 W) w_v29:=h_w_v29.more (by simp);have ho_w_v29:=own_chg ho_w_v28 c_w_v29 (by intro x _;simp);clear c_w_v29;refine zB hK ?_;clear hK K
   try simp only[zP]
   refine zR 23 rfl (fun K hK=>?_);refine step_app elY rfl (.tmp 65) (.tmp 68) rfl w5.heap.size rfl ho_w_v29 rfl ((HYS.out _ h_w_v29)) (byV_one _) (by rw[HDL.out];unfold maxLen;omega) (by rw[HDL.out];omega) h_w_v29.size ?_;intro vz wz hownz hcz hbz
   have hDz:Chg [] w5 wz:=h_w_v29.trans' hcz (fun x hx=>.inr (own_lt ho_w_v29 x hx).1);have sz:(fun W:World=>Chg [w.heap.size] w5 W) wz:=hDz.more (by simp);have hoz:SlY wz w5.heap.size vz (l.drop hd):=by
    refine OwY.sl ?_;unfold OwY;simpa using hownz
   obtain⟨Az,cz,rfl⟩:=hoz.form;have HOZ:=zH hoz;have hBz:=HBR.out.chg hDz (by simp);generalize (l.drop hd).length=nz at *;clear hownz hcz hbz hoz;refine zB hK ?_;clear hK K
   try simp only[zP]
   refine zU 24 rfl (by go_simp<;>with_reducible rfl) ?_
   try simp only[zP]
   refine zR 25 rfl (fun K hK=>?_);refine step_store_blk (vs:=arrTc ⟨a0,a1,a2,a3,a4,a5,a6,a7⟩ (.slice A9 n9 c9) (.slice Az nz cz)) rfl 34 (.tmp 2) (.tmp 70) rfl hBz rfl rfl rfl infTc rfl ?_;intro wy hBy hcy;have sy:(fun W:World=>Chg [w.heap.size] w5 W) wy:=Chg.trans sz hcy
   have HF:=zH (Sl.less (Sl.chg HOZ.out hcy (by intro x hx;simp at hx;subst hx;exact HLT.out)) (B':=w.heap.size) (Nat.le_of_lt HLT.out));have HCF:=zH (HC5.out.trans' sy (by intro x hx;simp at hx;subst hx;right;exact Nat.le_refl _));clear sz hcy hBz;refine zB hK ?_;clear hK K
   try simp only[zP]
   refine zU 26 rfl (by go_simp<;>with_reducible rfl) ?_
   try simp only[zP]
   refine wpAnyH_done (by kernel_rfl) ?_ _;refine NoPanic.normal ?_;go_wp2_with fail;refine bodyPost_ret (zr rfl rfl hBy _ Tryz.underlying34 rfl infTc) rfl ?_;exact⟨TpPost.ok hE.out HF.out,HCF.out⟩
  go_simp
  refine (F3.out _ h_w_v24).mono ?_;rintro e w_v30 ⟨rfl,c_w_v30⟩;have h_w_v30:Chg [] w5 w_v30:=h_w_v24.trans c_w_v30;have s_w_v30:(fun W:World=>Chg [w.heap.size] w5 W) w_v30:=h_w_v30.more (by simp);clear c_w_v30;refine zB hK ?_;clear hK K
  try simp only[zP]
  refine wpAnyH_ready (rs:=[13,19]) (by kernel_rfl) (by simp) (AllReadyH.cons rfl (fun K hK=>?_) (AllReadyH.cons rfl (fun K hK=>?_) AllReadyH.nil))
  rotate_left
  ·skip
   refine step_run (v:=.slice (some ⟨w_v30.heap.size,0,none⟩) 0 0) (w':=w_v30.alloc (.cells #[] 5)) rfl (by go_simp<;>rfl) ?_;have h_w_v31:Chg [] w5 (w_v30.alloc (.cells #[] 5)):=h_w_v30.alloc _;have s_w_v31:(fun W:World=>Chg [w.heap.size] w5 W) (w_v30.alloc (.cells #[] 5)):=h_w_v31.more (by simp)
   have ho_w_v31:(w_v30.alloc (.cells #[] 5)).ownsRow w5.heap.size 5 1 (.slice (some ⟨w_v30.heap.size,0,none⟩) 0 0) 0 []:=own_lit (base:=w5.heap.size) w_v30 5 1 0 #[] h_w_v30.size (by simp[maxLen]) rfl;refine zB hK ?_;clear hK K
   try simp only[zP]
   refine zR 13 rfl (fun K hK=>?_);go_simp
   refine (F4.out _ h_w_v31).mono ?_;rintro e w_v32 ⟨rfl,c_w_v32⟩;have h_w_v32:Chg [] w5 w_v32:=h_w_v31.trans c_w_v32;have s_w_v32:(fun W:World=>Chg [w.heap.size] w5 W) w_v32:=h_w_v32.more (by simp);have ho_w_v32:=own_chg ho_w_v31 c_w_v32 (by intro x _;simp);clear c_w_v32;refine zB hK ?_;clear hK K
   try simp only[zP]
   refine zR 15 rfl (fun K hK=>?_);go_simp
   refine (F5.out _ h_w_v32).mono ?_;rintro e w_v33 ⟨rfl,c_w_v33⟩;have h_w_v33:Chg [] w5 w_v33:=h_w_v32.trans c_w_v33;have s_w_v33:(fun W:World=>Chg [w.heap.size] w5 W) w_v33:=h_w_v33.more (by simp);have ho_w_v33:=own_chg ho_w_v32 c_w_v33 (by intro x _;simp);clear c_w_v33;refine zB hK ?_;clear hK K
   try simp only[zP]
   refine zR 17 rfl (fun K hK=>?_);go_simp
   refine (F6.out _ h_w_v33).mono ?_;rintro e w_v34 ⟨rfl,c_w_v34⟩;have h_w_v34:Chg [] w5 w_v34:=h_w_v33.trans c_w_v34;have s_w_v34:(fun W:World=>Chg [w.heap.size] w5 W) w_v34:=h_w_v34.more (by simp);have ho_w_v34:=own_chg ho_w_v33 c_w_v34 (by intro x _;simp);clear c_w_v34;refine zB hK ?_;clear hK K
   try simp only[zP]
   refine zR 23 rfl (fun K hK=>?_);refine step_app elY rfl (.tmp 65) (.tmp 68) rfl w5.heap.size rfl ho_w_v34 rfl ((HYS.out _ h_w_v34)) (byV_one _) (by rw[HDL.out];unfold maxLen;omega) (by rw[HDL.out];omega) h_w_v34.size ?_;intro vz wz hownz hcz hbz
   have hDz:Chg [] w5 wz:=h_w_v34.trans' hcz (fun x hx=>.inr (own_lt ho_w_v34 x hx).1);have sz:(fun W:World=>Chg [w.heap.size] w5 W) wz:=hDz.more (by simp);have hoz:SlY wz w5.heap.size vz (l.drop hd):=by
    refine OwY.sl ?_;unfold OwY;simpa using hownz
   obtain⟨Az,cz,rfl⟩:=hoz.form;have HOZ:=zH hoz;have hBz:=HBR.out.chg hDz (by simp);generalize (l.drop hd).length=nz at *;clear hownz hcz hbz hoz;refine zB hK ?_;clear hK K
   try simp only[zP]
   refine zU 24 rfl (by go_simp<;>with_reducible rfl) ?_
   try simp only[zP]
   refine zR 25 rfl (fun K hK=>?_);refine step_store_blk (vs:=arrTc ⟨a0,a1,a2,a3,a4,a5,a6,a7⟩ (.slice A9 n9 c9) (.slice Az nz cz)) rfl 34 (.tmp 2) (.tmp 70) rfl hBz rfl rfl rfl infTc rfl ?_;intro wy hBy hcy;have sy:(fun W:World=>Chg [w.heap.size] w5 W) wy:=Chg.trans sz hcy
   have HF:=zH (Sl.less (Sl.chg HOZ.out hcy (by intro x hx;simp at hx;subst hx;exact HLT.out)) (B':=w.heap.size) (Nat.le_of_lt HLT.out));have HCF:=zH (HC5.out.trans' sy (by intro x hx;simp at hx;subst hx;right;exact Nat.le_refl _));clear sz hcy hBz;refine zB hK ?_;clear hK K
   try simp only[zP]
   refine zU 26 rfl (by go_simp<;>with_reducible rfl) ?_
   try simp only[zP]
   refine wpAnyH_done (by kernel_rfl) ?_ _;refine NoPanic.normal ?_;go_wp2_with fail;refine bodyPost_ret (zr rfl rfl hBy _ Tryz.underlying34 rfl infTc) rfl ?_;exact⟨TpPost.ok hE.out HF.out,HCF.out⟩
  go_simp
  refine (F4.out _ h_w_v30).mono ?_;rintro e w_v35 ⟨rfl,c_w_v35⟩;have h_w_v35:Chg [] w5 w_v35:=h_w_v30.trans c_w_v35;have s_w_v35:(fun W:World=>Chg [w.heap.size] w5 W) w_v35:=h_w_v35.more (by simp);clear c_w_v35;refine zB hK ?_;clear hK K
  try simp only[zP]
  refine wpAnyH_ready (rs:=[15,19]) (by kernel_rfl) (by simp) (AllReadyH.cons rfl (fun K hK=>?_) (AllReadyH.cons rfl (fun K hK=>?_) AllReadyH.nil))
  rotate_left
  ·skip
   refine step_run (v:=.slice (some ⟨w_v35.heap.size,0,none⟩) 0 0) (w':=w_v35.alloc (.cells #[] 5)) rfl (by go_simp<;>rfl) ?_;have h_w_v36:Chg [] w5 (w_v35.alloc (.cells #[] 5)):=h_w_v35.alloc _;have s_w_v36:(fun W:World=>Chg [w.heap.size] w5 W) (w_v35.alloc (.cells #[] 5)):=h_w_v36.more (by simp)
   have ho_w_v36:(w_v35.alloc (.cells #[] 5)).ownsRow w5.heap.size 5 1 (.slice (some ⟨w_v35.heap.size,0,none⟩) 0 0) 0 []:=own_lit (base:=w5.heap.size) w_v35 5 1 0 #[] h_w_v35.size (by simp[maxLen]) rfl;refine zB hK ?_;clear hK K
   try simp only[zP]
   refine zR 15 rfl (fun K hK=>?_);go_simp
   refine (F5.out _ h_w_v36).mono ?_;rintro e w_v37 ⟨rfl,c_w_v37⟩;have h_w_v37:Chg [] w5 w_v37:=h_w_v36.trans c_w_v37;have s_w_v37:(fun W:World=>Chg [w.heap.size] w5 W) w_v37:=h_w_v37.more (by simp);have ho_w_v37:=own_chg ho_w_v36 c_w_v37 (by intro x _;simp);clear c_w_v37;refine zB hK ?_;clear hK K
   try simp only[zP]
   refine zR 17 rfl (fun K hK=>?_);go_simp
   refine (F6.out _ h_w_v37).mono ?_;rintro e w_v38 ⟨rfl,c_w_v38⟩;have h_w_v38:Chg [] w5 w_v38:=h_w_v37.trans c_w_v38;have s_w_v38:(fun W:World=>Chg [w.heap.size] w5 W) w_v38:=h_w_v38.more (by simp);have ho_w_v38:=own_chg ho_w_v37 c_w_v38 (by intro x _;simp);clear c_w_v38;refine zB hK ?_;clear hK K
   try simp only[zP]
   refine zR 23 rfl (fun K hK=>?_);refine step_app elY rfl (.tmp 65) (.tmp 68) rfl w5.heap.size rfl ho_w_v38 rfl ((HYS.out _ h_w_v38)) (byV_one _) (by rw[HDL.out];unfold maxLen;omega) (by rw[HDL.out];omega) h_w_v38.size ?_;intro vz wz hownz hcz hbz
   have hDz:Chg [] w5 wz:=h_w_v38.trans' hcz (fun x hx=>.inr (own_lt ho_w_v38 x hx).1);have sz:(fun W:World=>Chg [w.heap.size] w5 W) wz:=hDz.more (by simp);have hoz:SlY wz w5.heap.size vz (l.drop hd):=by
    refine OwY.sl ?_;unfold OwY;simpa using hownz
   obtain⟨Az,cz,rfl⟩:=hoz.form;have HOZ:=zH hoz;have hBz:=HBR.out.chg hDz (by simp);generalize (l.drop hd).length=nz at *;clear hownz hcz hbz hoz;refine zB hK ?_;clear hK K
   try simp only[zP]
   refine zU 24 rfl (by go_simp<;>with_reducible rfl) ?_
   try simp only[zP]
   refine zR 25 rfl (fun K hK=>?_);refine step_store_blk (vs:=arrTc ⟨a0,a1,a2,a3,a4,a5,a6,a7⟩ (.slice A9 n9 c9) (.slice Az nz cz)) rfl 34 (.tmp 2) (.tmp 70) rfl hBz rfl rfl rfl infTc rfl ?_;intro wy hBy hcy;have sy:(fun W:World=>Chg [w.heap.size] w5 W) wy:=Chg.trans sz hcy
   have HF:=zH (Sl.less (Sl.chg HOZ.out hcy (by intro x hx;simp at hx;subst hx;exact HLT.out)) (B':=w.heap.size) (Nat.le_of_lt HLT.out));have HCF:=zH (HC5.out.trans' sy (by intro x hx;simp at hx;subst hx;right;exact Nat.le_refl _));clear sz hcy hBz;refine zB hK ?_;clear hK K
   try simp only[zP]
   refine zU 26 rfl (by go_simp<;>with_reducible rfl) ?_
   try simp only[zP]
   refine wpAnyH_done (by kernel_rfl) ?_ _;refine NoPanic.normal ?_;go_wp2_with fail;refine bodyPost_ret (zr rfl rfl hBy _ Tryz.underlying34 rfl infTc) rfl ?_;exact⟨TpPost.ok hE.out HF.out,HCF.out⟩
  go_simp
  refine (F5.out _ h_w_v35).mono ?_;rintro e w_v39 ⟨rfl,c_w_v39⟩;have h_w_v39:Chg [] w5 w_v39:=h_w_v35.trans c_w_v39;have s_w_v39:(fun W:World=>Chg [w.heap.size] w5 W) w_v39:=h_w_v39.more (by simp);clear c_w_v39;refine zB hK ?_;clear hK K
  try simp only[zP]
  refine wpAnyH_ready (rs:=[17,19]) (by kernel_rfl) (by simp) (AllReadyH.cons rfl (fun K hK=>?_) (AllReadyH.cons rfl (fun K hK=>?_) AllReadyH.nil))
  rotate_left
  ·skip
   refine step_run (v:=.slice (some ⟨w_v39.heap.size,0,none⟩) 0 0) (w':=w_v39.alloc (.cells #[] 5)) rfl (by go_simp<;>rfl) ?_;have h_w_v40:Chg [] w5 (w_v39.alloc (.cells #[] 5)):=h_w_v39.alloc _;have s_w_v40:(fun W:World=>Chg [w.heap.size] w5 W) (w_v39.alloc (.cells #[] 5)):=h_w_v40.more (by simp)
   have ho_w_v40:(w_v39.alloc (.cells #[] 5)).ownsRow w5.heap.size 5 1 (.slice (some ⟨w_v39.heap.size,0,none⟩) 0 0) 0 []:=own_lit (base:=w5.heap.size) w_v39 5 1 0 #[] h_w_v39.size (by simp[maxLen]) rfl;refine zB hK ?_;clear hK K
   try simp only[zP]
   refine zR 17 rfl (fun K hK=>?_);go_simp
   refine (F6.out _ h_w_v40).mono ?_;rintro e w_v41 ⟨rfl,c_w_v41⟩;have h_w_v41:Chg [] w5 w_v41:=h_w_v40.trans c_w_v41;have s_w_v41:(fun W:World=>Chg [w.heap.size] w5 W) w_v41:=h_w_v41.more (by simp);have ho_w_v41:=own_chg ho_w_v40 c_w_v41 (by intro x _;simp);clear c_w_v41;refine zB hK ?_;clear hK K
   try simp only[zP]
   refine zR 23 rfl (fun K hK=>?_);refine step_app elY rfl (.tmp 65) (.tmp 68) rfl w5.heap.size rfl ho_w_v41 rfl ((HYS.out _ h_w_v41)) (byV_one _) (by rw[HDL.out];unfold maxLen;omega) (by rw[HDL.out];omega) h_w_v41.size ?_;intro vz wz hownz hcz hbz
   have hDz:Chg [] w5 wz:=h_w_v41.trans' hcz (fun x hx=>.inr (own_lt ho_w_v41 x hx).1);have sz:(fun W:World=>Chg [w.heap.size] w5 W) wz:=hDz.more (by simp);have hoz:SlY wz w5.heap.size vz (l.drop hd):=by
    refine OwY.sl ?_;unfold OwY;simpa using hownz
   obtain⟨Az,cz,rfl⟩:=hoz.form;have HOZ:=zH hoz;have hBz:=HBR.out.chg hDz (by simp);generalize (l.drop hd).length=nz at *;clear hownz hcz hbz hoz;refine zB hK ?_;clear hK K
   try simp only[zP]
   refine zU 24 rfl (by go_simp<;>with_reducible rfl) ?_
   try simp only[zP]
   refine zR 25 rfl (fun K hK=>?_);refine step_store_blk (vs:=arrTc ⟨a0,a1,a2,a3,a4,a5,a6,a7⟩ (.slice A9 n9 c9) (.slice Az nz cz)) rfl 34 (.tmp 2) (.tmp 70) rfl hBz rfl rfl rfl infTc rfl ?_;intro wy hBy hcy;have sy:(fun W:World=>Chg [w.heap.size] w5 W) wy:=Chg.trans sz hcy
   have HF:=zH (Sl.less (Sl.chg HOZ.out hcy (by intro x hx;simp at hx;subst hx;exact HLT.out)) (B':=w.heap.size) (Nat.le_of_lt HLT.out));have HCF:=zH (HC5.out.trans' sy (by intro x hx;simp at hx;subst hx;right;exact Nat.le_refl _));clear sz hcy hBz;refine zB hK ?_;clear hK K
   try simp only[zP]
   refine zU 26 rfl (by go_simp<;>with_reducible rfl) ?_
   try simp only[zP]
   refine wpAnyH_done (by kernel_rfl) ?_ _;refine NoPanic.normal ?_;go_wp2_with fail;refine bodyPost_ret (zr rfl rfl hBy _ Tryz.underlying34 rfl infTc) rfl ?_;exact⟨TpPost.ok hE.out HF.out,HCF.out⟩
  go_simp
  refine (F6.out _ h_w_v39).mono ?_;rintro e w_v42 ⟨rfl,c_w_v42⟩;have h_w_v42:Chg [] w5 w_v42:=h_w_v39.trans c_w_v42;have s_w_v42:(fun W:World=>Chg [w.heap.size] w5 W) w_v42:=h_w_v42.more (by simp);clear c_w_v42;refine zB hK ?_;clear hK K
  try simp only[zP]
  refine zR 19 rfl (fun K hK=>?_);refine step_run (v:=.slice (some ⟨w_v42.heap.size,0,none⟩) 0 0) (w':=w_v42.alloc (.cells #[] 5)) rfl (by go_simp<;>rfl) ?_;have h_w_v43:Chg [] w5 (w_v42.alloc (.cells #[] 5)):=h_w_v42.alloc _
  have s_w_v43:(fun W:World=>Chg [w.heap.size] w5 W) (w_v42.alloc (.cells #[] 5)):=h_w_v43.more (by simp)
  have ho_w_v43:(w_v42.alloc (.cells #[] 5)).ownsRow w5.heap.size 5 1 (.slice (some ⟨w_v42.heap.size,0,none⟩) 0 0) 0 []:=own_lit (base:=w5.heap.size) w_v42 5 1 0 #[] h_w_v42.size (by simp[maxLen]) rfl;refine zB hK ?_;clear hK K
  try simp only[zP]
  refine zR 23 rfl (fun K hK=>?_);refine step_app elY rfl (.tmp 65) (.tmp 68) rfl w5.heap.size rfl ho_w_v43 rfl ((HYS.out _ h_w_v43)) (byV_one _) (by rw[HDL.out];unfold maxLen;omega) (by rw[HDL.out];omega) h_w_v43.size ?_;intro vz wz hownz hcz hbz
  have hDz:Chg [] w5 wz:=h_w_v43.trans' hcz (fun x hx=>.inr (own_lt ho_w_v43 x hx).1);have sz:(fun W:World=>Chg [w.heap.size] w5 W) wz:=hDz.more (by simp);have hoz:SlY wz w5.heap.size vz (l.drop hd):=by
   refine OwY.sl ?_;unfold OwY;simpa using hownz
  obtain⟨Az,cz,rfl⟩:=hoz.form;have HOZ:=zH hoz;have hBz:=HBR.out.chg hDz (by simp);generalize (l.drop hd).length=nz at *;clear hownz hcz hbz hoz;refine zB hK ?_;clear hK K
  try simp only[zP]
  refine zU 24 rfl (by go_simp<;>with_reducible rfl) ?_
  try simp only[zP]
  refine zR 25 rfl (fun K hK=>?_);refine step_store_blk (vs:=arrTc ⟨a0,a1,a2,a3,a4,a5,a6,a7⟩ (.slice A9 n9 c9) (.slice Az nz cz)) rfl 34 (.tmp 2) (.tmp 70) rfl hBz rfl rfl rfl infTc rfl ?_;intro wy hBy hcy;have sy:(fun W:World=>Chg [w.heap.size] w5 W) wy:=Chg.trans sz hcy
  have HF:=zH (Sl.less (Sl.chg HOZ.out hcy (by intro x hx;simp at hx;subst hx;exact HLT.out)) (B':=w.heap.size) (Nat.le_of_lt HLT.out));have HCF:=zH (HC5.out.trans' sy (by intro x hx;simp at hx;subst hx;right;exact Nat.le_refl _));clear sz hcy hBz;refine zB hK ?_;clear hK K
  try simp only[zP]
  refine zU 26 rfl (by go_simp<;>with_reducible rfl) ?_
  try simp only[zP]
  refine wpAnyH_done (by kernel_rfl) ?_ _;refine NoPanic.normal ?_;go_wp2_with fail;refine bodyPost_ret (zr rfl rfl hBy _ Tryz.underlying34 rfl infTc) rfl ?_;exact⟨TpPost.ok hE.out HF.out,HCF.out⟩
end Go.Proofs.YtgbndaiifbogmaaGreat

/-
  Small laws and walks on the way to LearnReads: Ri8, Rs10, Ro10. Conditions: each theorem names its own.
-/
import Derived.Test.YtgbndaiifbogmaaGreatY23
import Derived.Test.YtgbndaiifbogmaaGreatY10
import Derived.Test.YtgbndaiifbogmaaGreatY20
set_option linter.unusedVariables false
set_option linter.unusedSimpArgs false
set_option maxRecDepth 100000
set_option maxHeartbeats 8000000
namespace Go.Proofs.YtgbndaiifbogmaaGreat
open Go.RowKit Go.Maps
theorem ricmp_any {src dst:Ad} (hsr:okA src) (hds:okA dst) {w:World} {v:Value} {l:By} (h:SlY w 0 v l) (hb:okB l) (hl:l.length≤900000) :
  Calls Tryz.prog 46 #[.agg (arrA src),.agg (arrA dst),v] w fun e w'=>MsPost (icmpS src dst l) w.heap.size e w'∧Chg [] w w':=by
 obtain⟨A,c,rfl⟩:=h.form;have hA:=(((Chg.refl [] w).alloc (.cells (arrA src) 24)).alloc (.cells (arrA dst) 24)).alloc (.cells (arrMs 0 0 0 noV) 36)
 have hB1:Blk (((w.alloc (.cells (arrA src) 24)).alloc (.cells (arrA dst) 24)).alloc (.cells (arrMs 0 0 0 noV) 36)) w.heap.size 24 (arrA src):=((Blk.new _ _ _).alloc _).alloc _
 have hB2:Blk (((w.alloc (.cells (arrA src) 24)).alloc (.cells (arrA dst) 24)).alloc (.cells (arrMs 0 0 0 noV) 36)) (w.heap.size+1) 24 (arrA dst):=(Blk.new' (by simp)).alloc _
 have hB6:Blk (((w.alloc (.cells (arrA src) 24)).alloc (.cells (arrA dst) 24)).alloc (.cells (arrMs 0 0 0 noV) 36)) (w.heap.size+1+1) 36 (arrMs 0 0 0 noV):=Blk.new' (by simp);have HA:=zH hA;have FF:=zH (rfine_any hsr hds 58 (h.chg0 hA) hb hl)
 have hnot:∀(x:Bool) (w:World),(Op.unary .not (.bool x)).run Tryz.prog w=.ok (.bool (!x)) w:=fun _ _=>rfl
 by_cases h8:l.length<8
 ·have hE:Hid (icmpS src dst l=.error 3):=zH (by unfold icmpS;rw[if_pos h8]);have hI:(l.length:Int)<8:=by omega
  generalize l.length=N at *;clear h hb hl hA hB1 hB2 hsr hds FF;go_enter Tryz.func46,Tryz.ntmps46
  go_wp2_with (first
   |(refine zs (vs:=arrMs 0 0 0 noV) rfl 36 (.tmp 6) (.tmp 13) rfl rfl hB6 rfl rfl rfl infMs rfl ?_;intro w9 hB9 hc9)
   |fail)
  refine bodyPost_ret (zr rfl rfl hB9 _ Tryz.underlying36 rfl infMs) rfl ?_;exact⟨MsPost.err hE.out,HA.out.trans' hc9 (zN (by omega))⟩
 have hI:¬(l.length:Int)<8:=by omega
 obtain⟨b,o,c',e,hcap,_,hcell⟩:=h.all (by omega);simp only[Value.slice.injEq]at e;obtain⟨rfl,e2,rfl⟩:=e;clear e2;have HE:Hid (icmpS src dst l=if fineC src dst 58 l=false then .error 6 else .ok ⟨gB l 0,gB l 1,w4 l 4,l.drop 8⟩):=zH (by
  conv=>lhs;unfold icmpS
  rw[if_neg h8])
 have HC:Hid (∀i,i<l.length→∀W,Chg [] w W→W.cell? ⟨b,o+i,none⟩=some (.int .u8 (gB l i:Nat))):=zH (fun i hi W hc=>hc.cell (hcell i (by omega)) (by simp));have HBL:Hid (b<w.heap.size):=zH (World.block_lt_of_cell? w _ (hcell 0 (by omega)));have HS:=zH (fun (W:World) (hc:Chg [] w W)=>h.chg0 hc)
 have HOK:=zH hb;generalize fineC src dst 58 l=fi at *;cases fi with
 |false=>
  have hE:Hid (icmpS src dst l=.error 6):=zH (by rw[HE.out,if_pos rfl]);clear h hb hl hA hsr hds HE HC hcell HS HOK h8;go_enter Tryz.func46,Tryz.ntmps46
  go_wp2_with (first
   |(refine zl rfl 24 (.tmp 3) rfl hB1 rfl _ Tryz.underlying24 rfl infAd ?_)
   |(refine zl rfl 24 (.tmp 4) rfl hB2 rfl _ Tryz.underlying24 rfl infAd ?_)
   |fail)
  refine FF.out.mono ?_;rintro e w1 ⟨rfl,hc1⟩;have hB61:=hB6.chg hc1 (by simp);have HC1:=zH (HA.out.trans hc1);clear hB1 hB2 hB6 FF hc1;go_wp2_with (first
   |(refine zs (vs:=arrMs 0 0 0 noV) rfl 36 (.tmp 6) (.tmp 19) rfl rfl hB61 rfl rfl rfl infMs rfl ?_;intro w9 hB9 hc9)
   |fail)
  refine bodyPost_ret (zr rfl rfl hB9 _ Tryz.underlying36 rfl infMs) rfl ?_;exact⟨MsPost.err hE.out,HC1.out.trans' hc9 (zN (by omega))⟩
 |true=>
  have hE:Hid (icmpS src dst l=.ok ⟨gB l 0,gB l 1,w4 l 4,l.drop 8⟩):=zH (by rw[HE.out,if_neg (by simp)]);have FV:=zH (fun (W:World) (hc:Chg [] w W)=>r32_any (HS.out W hc) HOK.out (by omega) (at_:=4) (by omega))
  have C0:Hid (∀W,Chg [] w W→W.cell? ⟨b,o,none⟩=some (.int .u8 (gB l 0:Nat))):=zH (fun W hc=>HC.out 0 (by omega) W hc);have C1:Hid (∀W,Chg [] w W→W.cell? ⟨b,o+1,none⟩=some (.int .u8 (gB l 1:Nat))):=zH (fun W hc=>HC.out 1 (by omega) W hc);obtain⟨Y,hYr,hsY⟩:=cutYf h (lo:=8) (by omega)
  have hYr':∀W:World,(Instr.slice 22 (.slice (some ⟨b,o,none⟩) l.length c) (some (.int .i64 8)) none none).run Tryz.prog W=.ok (.slice Y (l.length-8) (c-8)) W:=hYr;have HYS:=zH (fun (W:World) (hc:Chg [] w W)=>Sl.less (hsY.chg0 hc) (Nat.zero_le 0))
  have HDL:Hid ((l.drop 8).length=l.length-8):=zH List.length_drop;have hldl:l.length-8≤1000000:=by omega
  have i0:0<l.length:=by omega
  have i1:(1:Int)<(l.length:Int):=by omega
  have g0:=gB_lt hb 0;have g1:=gB_lt hb 1;have z0:IntKind.i64.wrap ((gB l 0:Nat):Int)=((gB l 0:Nat):Int):=by rw[IntKind.wrap_i64];omega
  have z1:IntKind.i64.wrap ((gB l 1:Nat):Int)=((gB l 1:Nat):Int):=by rw[IntKind.wrap_i64];omega
  clear h hb hl hA hsr hds HE HC hcell HS HOK h8 hYr hsY;generalize gB l 0=x0 at *;generalize gB l 1=x1 at *;generalize w4 l 4=x4 at *;go_enter Tryz.func46,Tryz.ntmps46
  go_wp2_with (first
   |(refine zl rfl 24 (.tmp 3) rfl hB1 rfl _ Tryz.underlying24 rfl infAd ?_)
   |(refine zl rfl 24 (.tmp 4) rfl hB2 rfl _ Tryz.underlying24 rfl infAd ?_)
   |fail)
  refine FF.out.mono ?_;rintro e w1 ⟨rfl,hc1⟩;have hB61:=hB6.chg hc1 (by simp);have HC1:=zH (HA.out.trans hc1);clear hB1 hB2 hB6 FF hc1;go_wp2_with fail;refine (FV.out _ HC1.out).mono ?_;rintro e w2 ⟨rfl,hc2⟩;have hB62:=hB61.chg hc2 (by simp);have HC2:=zH (HC1.out.trans hc2);have HB6:=zH hB62
  have hlt:=hB62.lt;clear FV hc2 hB61 HC1 hB62;have D0:Hid (∀W,Chg [w.heap.size+1+1] w2 W→W.cell? ⟨b,o,none⟩=some (.int .u8 (x0:Nat))):=zH (fun W hc=>hc.cell (C0.out w2 HC2.out) (by have:=HBL.out;simp only[List.mem_singleton];omega))
  have D1:Hid (∀W,Chg [w.heap.size+1+1] w2 W→W.cell? ⟨b,o+1,none⟩=some (.int .u8 (x1:Nat))):=zH (fun W hc=>hc.cell (C1.out w2 HC2.out) (by have:=HBL.out;simp only[List.mem_singleton];omega));go_upto_region 6 with fail
  have hD:Chg [] w2 w2.drew:=(Chg.refl [] w2).drew;have hSD:(fun W:World=>Chg [w.heap.size+1+1] w2 W) w2.drew:=hD.more (by simp);refine wp_region_noPanic ?_;refine wp_region_held_drew (S:=fun W:World=>Chg [w.heap.size+1+1] w2 W) (by kernel_rfl) hSD (fun _=>?_)
  refine zU 0 rfl (by go_simp<;>with_reducible rfl) ?_
  try simp only[zP]
  refine zU 1 rfl (by go_simp<;>with_reducible rfl) ?_
  try simp only[zP]
  refine zT 2 rfl (zc (by rfl) 5 (.tmp 26) rfl b o rfl (.int .u8 (x0:Nat)) _ D0.out Tryz.underlying5 rfl) ?_
  try simp only[zP]
  refine zU 3 rfl (by go_simp<;>with_reducible rfl) ?_
  try simp only[zP]
  refine zU 4 rfl (by go_simp<;>with_reducible rfl) ?_
  try simp only[zP]
  refine zU 5 rfl (by go_simp<;>with_reducible rfl) ?_
  try simp only[zP]
  refine zT 6 rfl (zc (by rfl) 5 (.tmp 30) rfl b (o+1) rfl (.int .u8 (x1:Nat)) _ D1.out Tryz.underlying5 rfl) ?_
  try simp only[zP]
  refine zU 7 rfl (by go_simp<;>with_reducible rfl) ?_
  try simp only[zP]
  refine zU 8 rfl (by go_simp<;>with_reducible rfl) ?_
  try simp only[zP]
  refine zU 10 rfl (by go_simp<;>with_reducible rfl) ?_
  try simp only[zP]
  refine zU 11 rfl (by go_simp<;>with_reducible rfl) ?_
  try simp only[zP]
  refine zR 9 rfl (fun K hK=>?_);refine step_run (v:=.slice (some ⟨w2.heap.size,0,none⟩) 0 0) (w':=w2.drew.alloc (.cells #[] 5)) rfl (by go_simp<;>rfl) ?_;have hD3:Chg [] w2 (w2.drew.alloc (.cells #[] 5)):=hD.alloc _
  have hS3:(fun W:World=>Chg [w.heap.size+1+1] w2 W) (w2.drew.alloc (.cells #[] 5)):=hD3.more (by simp)
  have hO3:(w2.drew.alloc (.cells #[] 5)).ownsRow w2.heap.size 5 1 (.slice (some ⟨w2.heap.size,0,none⟩) 0 0) 0 []:=own_lit (base:=w2.heap.size) w2.drew 5 1 0 #[] (Nat.le_refl _) (by simp[maxLen]) rfl;refine zB hK ?_;clear hK K
  try simp only[zP]
  refine zR 12 rfl (fun K hK=>?_);refine step_app elY rfl (.tmp 34) (.tmp 36) rfl w2.heap.size rfl hO3 rfl (HYS.out _ (HC2.out.trans hD3)) (byV_one _) (by rw[HDL.out];unfold maxLen;omega) (by rw[HDL.out];omega) hD3.size ?_;intro v4 w4 hown4 hc4 hb4
  have hD4:Chg [] w2 w4:=hD3.trans' hc4 (fun x hx=>.inr (own_lt hO3 x hx).1);have hS4:(fun W:World=>Chg [w.heap.size+1+1] w2 W) w4:=hD4.more (by simp);have ho4:SlY w4 w2.heap.size v4 (l.drop 8):=by
   refine OwY.sl ?_;unfold OwY;simpa using hown4
  obtain⟨A4,c4,rfl⟩:=ho4.form;have HO4:=zH ho4;have hB4:=HB6.out.chg hD4 (by simp);generalize (l.drop 8).length=n4 at *;clear hown4 hc4 hb4 ho4;refine zB hK ?_;clear hK K
  try simp only[zP]
  refine zU 13 rfl (by go_simp<;>with_reducible rfl) ?_
  try simp only[zP]
  refine zR 14 rfl (fun K hK=>?_);refine step_store_blk (vs:=arrMs x0 x1 x4 (.slice A4 n4 c4)) rfl 36 (.tmp 6) (.tmp 38) rfl hB4 rfl rfl rfl infMs rfl ?_;intro w9 hB9 hc9;have hS9:(fun W:World=>Chg [w.heap.size+1+1] w2 W) w9:=Chg.trans hS4 hc9
  have HF:=zH (Sl.less (Sl.chg HO4.out hc9 (by intro x hx;simp at hx;omega)) (B':=w.heap.size) (by omega));have HCF:=zH (HC2.out.trans' hS9 (by intro x hx;simp at hx;right;omega));clear hc9 hS4 hB4;refine zB hK ?_;clear hK K
  try simp only[zP]
  refine zU 15 rfl (by go_simp<;>with_reducible rfl) ?_
  try simp only[zP]
  refine wpAnyH_done (by kernel_rfl) ?_ _;refine NoPanic.normal ?_;clear hS9 hD3 hS3 hO3 hD4 hD hSD;go_wp2_with fail;refine bodyPost_ret (zr rfl rfl hB9 _ Tryz.underlying36 rfl infMs) rfl ?_;exact⟨MsPost.ok hE.out HF.out,HCF.out⟩
end Go.Proofs.YtgbndaiifbogmaaGreat
namespace Go.Proofs.YtgbndaiifbogmaaGreat
open Go.RowKit Go.Maps
def fillA (l:By) (p:Nat):Nat→Array Value
 |0=>arrA ad0
 |i+1=>(fillA l p i).setIfInBounds i (byV (gB l (p+i)))
theorem fillA_size (l:By) (p:Nat):∀i,(fillA l p i).size=16
 |0=>rfl
 |i+1=>by simp[fillA,fillA_size l p i]
theorem fillA_zero (l:By) (p:Nat):∀i j,i≤j→j<16→(fillA l p i)[j]?=some (.int .u8 0)
 |0,j,_,hj=>by
  have:j=0∨j=1∨j=2∨j=3∨j=4∨j=5∨j=6∨j=7∨j=8∨j=9∨j=10∨j=11∨j=12∨j=13∨j=14∨j=15:=by omega
  rcases this with rfl|rfl|rfl|rfl|rfl|rfl|rfl|rfl|rfl|rfl|rfl|rfl|rfl|rfl|rfl|rfl<;>rfl
 |i+1,j,h,hj=>by
  unfold fillA;rw[Array.getElem?_setIfInBounds_ne (by omega)];exact fillA_zero l p i j (by omega) hj
theorem fillA_all (l:By) (p:Nat):fillA l p 16=arrA (adAt l p):=by kernel_rfl
theorem rsrh_any {w:World} {B:Nat} {v:Value} {l:By} (h:SlY w B v l) (hb:okB l) (hl:l.length≤1000000) :
  Calls Tryz.prog 78 #[v] w fun e w'=>SrPost (srhS l) w.heap.size e w'∧Chg [] w w':=by
 obtain⟨A,c,rfl⟩:=h.form;have hs:=h.less (Nat.zero_le _);have hA:=(Chg.refl [] w).alloc (.cells arrS0 30);have hB0:Blk (w.alloc (.cells arrS0 30)) w.heap.size 30 arrS0:=Blk.new _ _ _;have HA:=zH hA;obtain⟨N,hN⟩:∃N,N=l.length:=⟨_,rfl⟩;have HN:=zH hN;rw[←hN]at hs hl ⊢;by_cases h8:N<8
 ·have hE:Hid (srhS l=.error 3):=zH (by unfold srhS;rw[←hN,if_pos h8]);have hI:(N:Int)<8:=by omega
  generalize srhS l=x at *;clear h hs hb hl hA hN HN;go_enter Tryz.func78,Tryz.ntmps78
  go_wp2_with (first
   |(refine zs (vs:=arrS0) rfl 30 (.tmp 2) (.tmp 27) rfl rfl hB0 rfl rfl rfl infS0 rfl ?_;intro w9 hB9 hc9)
   |fail)
  refine bodyPost_ret (results_blk3 rfl rfl hB9 _ Tryz.underlying30 rfl infS0) rfl ?_;exact⟨SrPost.err hE.out,HA.out.trans' hc9 (zN (by omega))⟩
 have hI:¬(N:Int)<8:=by omega
 have HE1:Hid (srhS l=if N<8*gB l 1+8 then .error 3 else if gB l 2≠4 then .error 7
  else if 10<gB l 4+1 then .error 8 else if 8*gB l 1+8<8+16*(gB l 4+1) then .error 5 else if gB l 4+1≤gB l 3 then .error 5
  else if tlvS ((l.drop (8+16*(gB l 4+1))).take (8*gB l 1+8-(8+16*(gB l 4+1))))≠0 then .error (tlvS ((l.drop (8+16*(gB l 4+1))).take (8*gB l 1+8-(8+16*(gB l 4+1)))))
  else .ok (⟨(gB l 0:Nat),(gB l 3:Nat),(gB l 5:Nat),(w2 l 6:Nat),segsOf l (gB l 4+1)⟩,8*gB l 1+8)):=zH (by
   conv=>lhs;unfold srhS
   rw[←hN,if_neg h8,List.drop_take])
 obtain⟨b,o,c',e,hcap,_,hcell⟩:=hs.all (by omega);simp only[Value.slice.injEq]at e;obtain⟨rfl,e2,rfl⟩:=e;clear e2;have HC:Hid (∀i,i<N→∀W,Chg [] w W→W.cell? ⟨b,o+i,none⟩=some (.int .u8 (gB l i:Nat))):=zH (fun i hi W hc=>hc.cell (hcell i (by omega)) (by simp))
 have HBW:Hid (b<w.heap.size):=zH (World.block_lt_of_cell? w _ (hcell 0 (by omega)));have HS:=zH hs;have HB:=zH hb;have g0:=gB_lt hb 0;have g1:=gB_lt hb 1;have g2:=gB_lt hb 2;have g3:=gB_lt hb 3;have g4:=gB_lt hb 4;have g5:=gB_lt hb 5;have g6:=gB_lt hb 6;have g7:=gB_lt hb 7
 have k1:=HC.out 1 (by omega) _ HA.out;have i1:(1:Int)<(N:Int):=by omega
 have wx1:IntKind.i64.wrap ((gB l 1:Nat):Int)=((gB l 1:Nat):Int):=by rw[IntKind.wrap_i64];omega
 have wl1:IntKind.i64.wrap (8*((gB l 1:Nat):Int))=8*((gB l 1:Nat):Int):=by rw[IntKind.wrap_i64];omega
 obtain⟨lg,hlg⟩:∃lg,lg=8*gB l 1+8:=⟨_,rfl⟩;have wl2:IntKind.i64.wrap (8*((gB l 1:Nat):Int)+8)=(lg:Int):=by rw[IntKind.wrap_i64];omega
 rw[←hlg]at HE1;have hlg1:8≤lg:=by omega
 have hlg2:lg≤3000:=by omega
 clear h hs hb hcap hcell hA hN hlg;by_cases hlong:N<lg
 ·have hE:Hid (srhS l=.error 3):=zH (by rw[HE1.out,if_pos hlong]);have hJ:(N:Int)<(lg:Int):=by omega
  generalize gB l 1=x1 at *;generalize srhS l=x at *;clear HE1 HC HS HB hlong HBW HN hl;go_enter Tryz.func78,Tryz.ntmps78
  go_wp2_with (first
   |(refine zs (vs:=arrS0) rfl 30 (.tmp 2) (.tmp 27) rfl rfl hB0 rfl rfl rfl infS0 rfl ?_;intro w9 hB9 hc9)
   |fail)
  refine bodyPost_ret (results_blk3 rfl rfl hB9 _ Tryz.underlying30 rfl infS0) rfl ?_;exact⟨SrPost.err hE.out,HA.out.trans' hc9 (zN (by omega))⟩
 have hJ:¬(N:Int)<(lg:Int):=by omega
 have hlgN:lg≤N:=by omega
 rw[if_neg hlong]at HE1;have k4:=HC.out 4 (by omega) _ HA.out;have i4:(4:Int)<(N:Int):=by omega
 have wx4:IntKind.i64.wrap ((gB l 4:Nat):Int)=((gB l 4:Nat):Int):=by rw[IntKind.wrap_i64];omega
 obtain⟨n,hn⟩:∃n,n=gB l 4+1:=⟨_,rfl⟩;have wn:IntKind.i64.wrap (((gB l 4:Nat):Int)+1)=(n:Int):=by rw[IntKind.wrap_i64];omega
 rw[←hn]at HE1;have hn1:1≤n∧n≤256:=by omega
 have k2:=HC.out 2 (by omega) _ HA.out;have i2:(2:Int)<(N:Int):=by omega
 clear hlong hn;by_cases h4:gB l 2=4
 case neg=>
  have hE:Hid (srhS l=.error 7):=zH (by rw[HE1.out,if_pos h4]);have hK:(((gB l 2:Nat):Int) !=4)=true:=by simp;omega
  generalize gB l 1=x1 at *;generalize gB l 2=x2 at *;generalize gB l 4=x4 at *;generalize srhS l=x at *;clear HE1 HC HS HB h4 HBW HN hl;go_enter Tryz.func78,Tryz.ntmps78
  go_wp2_with (first
   |(refine zs (vs:=arrS0) rfl 30 (.tmp 2) (.tmp 43) rfl rfl hB0 rfl rfl rfl infS0 rfl ?_;intro w9 hB9 hc9)
   |fail)
  refine bodyPost_ret (results_blk3 rfl rfl hB9 _ Tryz.underlying30 rfl infS0) rfl ?_;exact⟨SrPost.err hE.out,HA.out.trans' hc9 (zN (by omega))⟩
 rw[if_neg (by simpa using h4)]at HE1;rw[h4]at k2;clear h4;by_cases h10:10<n
 ·have hE:Hid (srhS l=.error 8):=zH (by rw[HE1.out,if_pos h10]);have hK:(n:Int)>10:=by omega
  generalize gB l 1=x1 at *;generalize gB l 4=x4 at *;generalize srhS l=x at *;clear HE1 HC HS HB h10 HBW HN hl;go_enter Tryz.func78,Tryz.ntmps78
  go_wp2_with (first
   |(refine zs (vs:=arrS0) rfl 30 (.tmp 2) (.tmp 46) rfl rfl hB0 rfl rfl rfl infS0 rfl ?_;intro w9 hB9 hc9)
   |fail)
  refine bodyPost_ret (results_blk3 rfl rfl hB9 _ Tryz.underlying30 rfl infS0) rfl ?_;exact⟨SrPost.err hE.out,HA.out.trans' hc9 (zN (by omega))⟩
 rw[if_neg h10]at HE1;have hK:¬(n:Int)>10:=by omega
 have wz1:IntKind.i64.wrap (16*(n:Int))=16*(n:Int):=by rw[IntKind.wrap_i64];omega
 obtain⟨z,hz⟩:∃z,z=8+16*n:=⟨_,rfl⟩;have wz2:IntKind.i64.wrap (8+16*(n:Int))=(z:Int):=by rw[IntKind.wrap_i64];omega
 rw[←hz]at HE1;have HZ:=zH hz;have hz3:z≤168:=by omega
 clear hz;by_cases hzl:lg<z
 ·have hE:Hid (srhS l=.error 5):=zH (by rw[HE1.out,if_pos hzl]);have hL:(z:Int)>(lg:Int):=by omega
  generalize gB l 1=x1 at *;generalize gB l 4=x4 at *;generalize srhS l=x at *;clear HE1 HC HS HB h10 HBW HN hl hzl HZ;go_enter Tryz.func78,Tryz.ntmps78
  go_wp2_with (first
   |(refine zs (vs:=arrS0) rfl 30 (.tmp 2) (.tmp 60) rfl rfl hB0 rfl rfl rfl infS0 rfl ?_;intro w9 hB9 hc9)
   |fail)
  refine bodyPost_ret (results_blk3 rfl rfl hB9 _ Tryz.underlying30 rfl infS0) rfl ?_;exact⟨SrPost.err hE.out,HA.out.trans' hc9 (zN (by omega))⟩
 rw[if_neg hzl]at HE1;have hL:¬(z:Int)>(lg:Int):=by omega
 have k3:=HC.out 3 (by omega) _ HA.out;have i3:(3:Int)<(N:Int):=by omega
 have wx3:IntKind.i64.wrap ((gB l 3:Nat):Int)=((gB l 3:Nat):Int):=by rw[IntKind.wrap_i64];omega
 by_cases hlf:n≤gB l 3
 ·have hE:Hid (srhS l=.error 5):=zH (by rw[HE1.out,if_pos hlf]);have hM:((gB l 3:Nat):Int)≥(n:Int):=by omega
  generalize gB l 1=x1 at *;generalize gB l 3=x3 at *;generalize gB l 4=x4 at *;generalize srhS l=x at *;clear HE1 HC HS HB h10 HBW HN hl hzl HZ hlf;go_enter Tryz.func78,Tryz.ntmps78
  go_wp2_with (first
   |(refine zs (vs:=arrS0) rfl 30 (.tmp 2) (.tmp 60) rfl rfl hB0 rfl rfl rfl infS0 rfl ?_;intro w9 hB9 hc9)
   |fail)
  refine bodyPost_ret (results_blk3 rfl rfl hB9 _ Tryz.underlying30 rfl infS0) rfl ?_;exact⟨SrPost.err hE.out,HA.out.trans' hc9 (zN (by omega))⟩
 rw[if_neg hlf]at HE1;have hM:¬((gB l 3:Nat):Int)≥(n:Int):=by omega
 obtain⟨X,hXr,hXs⟩:=cutY2 HS.out (lo:=z) (hi:=lg) (by omega) (by have:=HN.out;omega);have FT:=zH (rtlv_any (hXs.chg0 HA.out) ((HB.out.drop z).take (lg-z)) (by rw[List.length_take,List.length_drop];omega));generalize tlvS ((l.drop z).take (lg-z))=ts at *;have K0:=zH (HC.out 0 (by omega))
 have K3:=zH (HC.out 3 (by omega));have K5:=zH (HC.out 5 (by omega));have K6:=zH (HC.out 6 (by omega));have K7:=zH (HC.out 7 (by omega));have HY:Hid (w2 l 6=gB l 6*256+gB l 7):=zH rfl
 have HWX:Hid (IntKind.i64.wrap ((gB l 0:Nat):Int)=((gB l 0:Nat):Int)∧IntKind.i64.wrap ((gB l 5:Nat):Int)=((gB l 5:Nat):Int)∧IntKind.i64.wrap ((gB l 6:Nat):Int)=((gB l 6:Nat):Int)∧IntKind.i64.wrap ((gB l 7:Nat):Int)=((gB l 7:Nat):Int) ∧
   IntKind.i64.wrap (((gB l 6:Nat):Int)*256)=((gB l 6:Nat):Int)*256∧IntKind.i64.wrap (((gB l 6:Nat):Int)*256+((gB l 7:Nat):Int))=((w2 l 6:Nat):Int)):=zH (by
  have:=HY.out;refine⟨?_,?_,?_,?_,?_,?_⟩<;>rw[IntKind.wrap_i64]<;>omega)
 have HP0:=zH (fun p=>fillA_all l p);have HPZ:=zH (fun p i j h1 h2=>fillA_zero l p i j h1 h2);have HPS:=zH (fun p i=>fillA_size l p i);have HPN:Hid (∀p i,fillA l p (i+1)=(fillA l p i).setIfInBounds i (.int .u8 (gB l (p+i):Nat))):=zH (fun p i=>rfl)
 have HPO:Hid (∀p,fillA l p 0=arrA ad0):=zH (fun p=>rfl);have HSG:Hid (∀k,segsOf l (k+1)=segsOf l k ++ [adAt l (8+16*k)]):=zH (fun k=>rfl);have HSL:Hid (∀k,(segsOf l k).length=k):=zH (fun k=>segsOf_len l k);have HS00:Hid (segsOf l 0=[]):=zH rfl;have i0:0<N:=by omega
 have i5:(5:Int)<(N:Int):=by omega
 have i6:(6:Int)<(N:Int):=by omega
 have i7:(7:Int)<(N:Int):=by omega
 generalize gB l 0=x0 at *;generalize gB l 1=x1 at *;generalize gB l 3=x3 at *;generalize gB l 4=x4 at *;generalize gB l 5=x5 at *;generalize gB l 6=x6 at *;generalize gB l 7=x7 at *;generalize w2 l 6=y6 at *;generalize gB l 2=x2 at *;have HNN:Hid (z≤N∧lg≤N):=zH (by omega)
 have HN10:Hid (n≤10):=zH (by omega);have hn10:n≤10:=by omega
 clear hXs HS HB h10 hlf hzl HY HN g0 g1 g2 g3 g4 g5 g6 g7 hn1;go_enter Tryz.func78,Tryz.ntmps78
 go_wp2_with fail;refine FT.out.mono ?_;rintro e wa ⟨⟨A9,n9,c9,rfl⟩,hca⟩;have hBa:=hB0.chg hca (by simp);have HCa:=zH (HA.out.trans hca);clear FT hca hB0 HA k1 k2 k3 k4 wx1 wl1 wl2 wx4 wn wz1 wz2 wx3 hXr;by_cases hts:ts=0
 case neg=>
  have hE:Hid (srhS l=.error ts):=zH (by rw[HE1.out,if_pos hts]);have hI9:(ts !=0)=true:=by simpa using hts
  clear HE1 HC hts HBW hl HZ K0 K3 K5 K6 K7 HWX HP0 HPZ HPS HPN HPO HSG HSL HS00;go_wp2_with (first
   |(refine zs (vs:=arrS0) rfl 30 (.tmp 2) (.tmp 73) rfl rfl hBa rfl rfl rfl infS0 rfl ?_;intro w9 hB9 hc9)
   |fail)
  refine bodyPost_ret (results_blk3 rfl rfl hB9 _ Tryz.underlying30 rfl infS0) rfl ?_;exact⟨SrPost.err hE.out,HCa.out.trans' hc9 (zN (by omega))⟩
 have hE:Hid (srhS l=.ok (⟨(x0:Nat),(x3:Nat),(x5:Nat),(y6:Nat),segsOf l n⟩,lg)):=zH (by rw[HE1.out,if_neg (by simpa using hts)]);subst hts;have C0:∀W,Chg [] wa W→W.cell? ⟨b,o,none⟩=some (.int .u8 (x0:Nat)):=fun W hc=>K0.out W (HCa.out.trans hc)
 have C3:∀W,Chg [] wa W→W.cell? ⟨b,o+3,none⟩=some (.int .u8 (x3:Nat)):=fun W hc=>K3.out W (HCa.out.trans hc)
 have C5:∀W,Chg [] wa W→W.cell? ⟨b,o+5,none⟩=some (.int .u8 (x5:Nat)):=fun W hc=>K5.out W (HCa.out.trans hc)
 have C6:∀W,Chg [] wa W→W.cell? ⟨b,o+6,none⟩=some (.int .u8 (x6:Nat)):=fun W hc=>K6.out W (HCa.out.trans hc)
 have C7:∀W,Chg [] wa W→W.cell? ⟨b,o+7,none⟩=some (.int .u8 (x7:Nat)):=fun W hc=>K7.out W (HCa.out.trans hc)
 have HCC:Hid (∀i,i<N→∀W,Chg [] w W→W.cell? ⟨b,o+i,none⟩=some (.int .u8 (gB l i:Nat))):=HC;clear HE1 HC K0 K3 K5 K6 K7;go_upto_region 14 with fail
 obtain⟨wx0,wx5,wx6,wx7,wy1,wy2⟩:=HWX.out;have hD:Chg [] wa wa.drew:=(Chg.refl [] wa).drew;have wx3:IntKind.i64.wrap (x3:Int)=(x3:Int):=by rw[IntKind.wrap_i64];omega
 clear HWX;refine wp_region_noPanic ?_;refine wp_region_held_drew (S:=fun W:World=>Chg [] wa W) (by kernel_rfl) hD (fun _=>?_);refine zU 0 rfl (by go_simp<;>with_reducible rfl) ?_
 try simp only[zP]
 refine zU 1 rfl (by go_simp<;>with_reducible rfl) ?_
 try simp only[zP]
 refine zT 2 rfl (zc (by rfl) 5 (.tmp 76) rfl b o rfl (.int .u8 (x0:Nat)) _ C0 Tryz.underlying5 rfl) ?_
 try simp only[zP]
 refine zU 3 rfl (by go_simp<;>with_reducible rfl) ?_
 try simp only[zP]
 refine zU 4 rfl (by go_simp<;>with_reducible rfl) ?_
 try simp only[zP]
 refine zU 5 rfl (by go_simp<;>with_reducible rfl) ?_
 try simp only[zP]
 refine zT 6 rfl (zc (by rfl) 5 (.tmp 80) rfl b (o+3) rfl (.int .u8 (x3:Nat)) _ C3 Tryz.underlying5 rfl) ?_
 try simp only[zP]
 refine zU 7 rfl (by go_simp<;>with_reducible rfl) ?_
 try simp only[zP]
 refine zU 8 rfl (by go_simp<;>with_reducible rfl) ?_
 try simp only[zP]
 refine zU 9 rfl (by go_simp<;>with_reducible rfl) ?_
 try simp only[zP]
 refine zT 10 rfl (zc (by rfl) 5 (.tmp 84) rfl b (o+5) rfl (.int .u8 (x5:Nat)) _ C5 Tryz.underlying5 rfl) ?_
 try simp only[zP]
 refine zU 11 rfl (by go_simp<;>with_reducible rfl) ?_
 try simp only[zP]
 refine zU 12 rfl (by go_simp<;>with_reducible rfl) ?_
 try simp only[zP]
 refine zU 13 rfl (by go_simp<;>with_reducible rfl) ?_
 try simp only[zP]
 refine zT 14 rfl (zc (by rfl) 5 (.tmp 88) rfl b (o+6) rfl (.int .u8 (x6:Nat)) _ C6 Tryz.underlying5 rfl) ?_
 try simp only[zP]
 refine zU 15 rfl (by go_simp<;>with_reducible rfl) ?_
 try simp only[zP]
 refine zU 16 rfl (by go_simp<;>with_reducible rfl) ?_
 try simp only[zP]
 refine zU 17 rfl (by go_simp<;>with_reducible rfl) ?_
 try simp only[zP]
 refine zU 18 rfl (by go_simp<;>with_reducible rfl) ?_
 try simp only[zP]
 refine zT 19 rfl (zc (by rfl) 5 (.tmp 93) rfl b (o+7) rfl (.int .u8 (x7:Nat)) _ C7 Tryz.underlying5 rfl) ?_
 try simp only[zP]
 refine zU 20 rfl (by go_simp<;>with_reducible rfl) ?_
 try simp only[zP]
 refine zU 21 rfl (by go_simp<;>with_reducible rfl) ?_
 try simp only[zP]
 refine zU 22 rfl (by go_simp<;>with_reducible rfl) ?_
 try simp only[zP]
 refine zU 23 rfl (by go_simp<;>with_reducible rfl) ?_
 try simp only[zP]
 refine zR 24 rfl (fun K hK=>?_);refine step_run (v:=.pointer (some ⟨wa.heap.size,0,none⟩)) (w':=wa.drew.alloc (.cells arrS0 30)) rfl (by go_simp<;>rfl) ?_;have hS2:(fun W:World=>Chg [] wa W) (wa.drew.alloc (.cells arrS0 30)):=hD.alloc _
 have hB2:Blk (wa.drew.alloc (.cells arrS0 30)) wa.heap.size 30 arrS0:=Blk.new' rfl;refine zB hK ?_;clear hK K
 try simp only[zP]
 refine zR 25 rfl (fun K hK=>?_);refine step_store_blk (vs:=arrSr ⟨x0,x3,x5,y6,[]⟩ noV (.slice A9 n9 c9)) rfl 30 (.tmp 9) (.tmp 98) rfl hB2 rfl rfl rfl infSr rfl ?_;intro wb hB3 hc3;have hS3:(fun W:World=>Chg [] wa W) wb:=Chg.trans' hS2 hc3 (zN (by omega));have hlt3:wa.heap.size<wb.heap.size:=hB3.lt
 refine zB hK ?_;clear hK K
 try simp only[zP]
 refine wpAnyH_done (by kernel_rfl) ?_ _;refine NoPanic.normal ?_;have HCb:Hid (Chg [] w wb):=zH (HCa.out.trans hS3);have HB3:=zH hB3;have HBb:=zH (hBa.chg hS3 (by simp));have HGW:Hid (w.heap.size<wa.heap.size):=zH hBa.lt;obtain⟨gh,hgh⟩:∃g,g=wa.heap.size:=⟨_,rfl⟩;rw[←hgh]at HB3 HGW hlt3;rw[←hgh]
 have HLT:=zH hlt3;clear hgh hB3 hc3 hS2 hB2 hS3 hD C0 C3 C5 C6 C7 wx0 wx3 wx5 wx6 wx7 wy1 wy2 hBa HCa hlt3;go_wp2_with fail
 go_loopw [10] (fun kv wr=>∃k:Nat,k≤n∧kv=.int .i64 k∧Hid (∃sv,Blk wr gh 30 (arrSr ⟨x0,x3,x5,y6,[]⟩ sv (.slice A9 n9 c9))∧OwD wr wb.heap.size sv (segsOf l k))∧Hid (Chg [gh] wb wr)) (fun kv _=>n-(intOf kv).toNat)
 case atStart=>exact⟨0,by omega,rfl,zH ⟨_,HB3.out,by rw[HS00.out];exact World.ownsRow_nil ..⟩,zH (Chg.refl _ _)⟩
 case round=>
  obtain⟨k,hk,rfl,HK,HR⟩:=hrel;by_cases hkn:k<n
  ·have kI:(k:Int)<(n:Int):=by omega
   have ek:IntKind.i64.wrap ((k:Int)+1)=(k:Int)+1:=by rw[IntKind.wrap_i64];omega
   have e16:IntKind.i64.wrap (16*(k:Int))=16*(k:Int):=by rw[IntKind.wrap_i64];omega
   obtain⟨p,hp⟩:∃p,p=8+16*k:=⟨_,rfl⟩;have ep:IntKind.i64.wrap (8+16*(k:Int))=(p:Int):=by rw[IntKind.wrap_i64];omega
   have HPP:Hid (p+16≤N):=zH (by have:=HNN.out;have:=HZ.out;omega);have hp3:p≤168:=by have:=HZ.out;omega
   have HSN:Hid (segsOf l (k+1)=segsOf l k ++ [adAt l p]):=zH (by rw[hp];exact HSG.out k);have HAL:=zH ((Chg.refl [] wr).alloc (.cells (arrA ad0) 24));have HBA:Hid (Blk (wr.alloc (.cells (arrA ad0) 24)) wr.heap.size 24 (fillA l p 0)):=zH (by rw[HPO.out];exact Blk.new _ _ _);clear hp
   have hzr:=HR.out.size;obtain⟨wo,hwo⟩:∃W,W=wr:=⟨_,rfl⟩;subst hwo;go_wp2_with fail;go_loopw [12] (fun jv wr=>∃j:Nat,j≤16∧jv=.int .i64 j∧Hid (Blk wr wo.heap.size 24 (fillA l p j))∧Hid (Chg [] wo wr)) (fun jv _=>16-(intOf jv).toNat)
   case atStart=>exact⟨0,by omega,rfl,HBA,HAL⟩
   case round=>
    obtain⟨j,hj,rfl,HBJ,HJ⟩:=hrel;by_cases hj16:j<16
    ·have jI:(j:Int)<16:=by omega
     have ej:IntKind.i64.wrap ((j:Int)+1)=(j:Int)+1:=by rw[IntKind.wrap_i64];omega
     obtain⟨q,hq⟩:∃q,q=p+j:=⟨_,rfl⟩;have eq:IntKind.i64.wrap ((p:Int)+(j:Int))=(q:Int):=by rw[IntKind.wrap_i64];omega
     have qI:(q:Int)<(N:Int):=by have:=HPP.out;omega
     have cq:wr.cell? ⟨b,o+q,none⟩=some (.int .u8 (gB l q:Nat)):=by
      have h1:=HCC.out q (by omega) wb HCb.out;have h2:=HR.out.cell h1 (by have:=HBW.out;have:=HGW.out;simp only[List.mem_singleton];omega);exact HJ.out.cell h2 (by simp)
     have cj:wr.cell? ⟨wo.heap.size,j,none⟩=some (.int .u8 0):=by
      rw[HBJ.out.cell,HPZ.out p j j (Nat.le_refl _) hj16]
     have fj:=HBJ.out.frozen j;have HBN:Hid (Blk (wr.setCell ⟨wo.heap.size,j,none⟩ (.int .u8 (gB l q:Nat))) wo.heap.size 24 (fillA l p (j+1))):=zH (by
      rw[HPN.out,←hq];exact HBJ.out.set_ j _)
     have HCN:Hid (Chg [] wo (wr.setCell ⟨wo.heap.size,j,none⟩ (.int .u8 (gB l q:Nat)))):=zH (HJ.out.trans' ((Chg.refl [wo.heap.size] wr).setCell (p:=⟨wo.heap.size,j,none⟩) (.inl (by simp)) _) (fun y hy=>by simp at hy;subst hy;right;exact Nat.le_refl _));generalize gB l q=xq at *
     generalize hgr:wo.heap.size=gr at *;clear hq HBJ HJ hgr hzr;go_wp2_with fail;go_roundw
     case rel=>exact⟨j+1,by omega,by go_num,HBN,HCN⟩
     case measure=>simp[intOf];omega
    ·have jI:¬(j:Int)<16:=by omega
     have ej:j=16:=by omega
     rw[ej]at HBJ;rw[HP0.out]at HBJ;have hB16:=HBJ.out;obtain⟨sv,hBk,hOk⟩:=HK.out;have hBh:=hBk.chg HJ.out (by simp);have hOh:=own_chg hOk HJ.out (by simp);have hl5:=HSL.out k;obtain⟨A4,cp4,rfl⟩:=Sl.form (Sl.of_own hOk);rw[hl5]at hBh hOh hBk
     have c4:wr.cell? ⟨gh,4,none⟩=some (.slice A4 k cp4):=hBh.cell 4;have hAL2:=(Chg.refl [] wr).alloc (.cells (arrA (adAt l p)) 24);have HO4:Hid ((wr.alloc (.cells (arrA (adAt l p)) 24)).ownsRow wb.heap.size 24 16 (.slice A4 k cp4) k ((segsOf l k).flatMap encA)):=zH (own_chg hOh hAL2 (by simp))
     have HX4:=zH (litD wr (adAt l p));have HB4:=zH (hBh.chg hAL2 (by simp));have HC4:Hid (Chg [gh] wb (wr.alloc (.cells (arrA (adAt l p)) 24))):=zH (HR.out.trans ((HJ.out.trans hAL2).more (by simp)))
     have HGO:Hid (gh∉(Value.slice A4 k cp4).ownBlock.toList):=zH (fun hm=>by have:=(own_lt hOh gh hm).1;have:=HLT.out;omega);have hz4:=HC4.out.size;have hk1:k+1≤11:=by omega
     generalize adAt l p=x at *;clear ej HBJ HJ HK hBk hOk hBh hOh hl5 hAL2 HBA HAL;go_wp2_with (first
      |(refine zl rfl 24 (.tmp 11) rfl hB16 rfl _ Tryz.underlying24 rfl infAd ?_)
      |(at_builtin;refine wpList_app elD rfl (.tmp 119) (.tmp 121) rfl wb.heap.size rfl HO4.out rfl HX4.out (encA_one _) (by unfold maxLen;omega) (by omega) hz4 ?_;intro v9 w9 hown9 hc9 hb9;obtain⟨A5,cp5,rfl⟩:=Sl.form (Sl.of_own hown9);have hB9:=HB4.out.chg hc9 HGO.out;have kc9:=hB9.cell 4;have kf9:=hB9.frozen 4)
      |fail)
     have hgo9:=own_lt hown9;have HC10:=(Chg.refl [gh] w9).setCell (p:=⟨gh,4,none⟩) (.inl (by simp)) (.slice A5 (k+1) cp5)
     have HK2:Hid (∃sv,Blk (w9.setCell ⟨gh,4,none⟩ (.slice A5 (k+1) cp5)) gh 30 (arrSr ⟨x0,x3,x5,y6,[]⟩ sv (.slice A9 n9 c9))∧OwD (w9.setCell ⟨gh,4,none⟩ (.slice A5 (k+1) cp5)) wb.heap.size sv (segsOf l (k+1))):=zH ⟨_,hB9.set_ 4 _,by
      rw[HSN.out];unfold OwD;rw[List.length_append,HSL.out,←flat_snoc];exact own_chg hown9 HC10 (fun y hy hm=>by simp at hm;subst hm;have:=(hgo9 _ hy).1;have:=HLT.out;omega)⟩
     have HR2:Hid (Chg [gh] wb (w9.setCell ⟨gh,4,none⟩ (.slice A5 (k+1) cp5))):=zH ((HC4.out.trans' hc9 (fun y hy=>.inr (own_lt HO4.out y hy).1)).trans HC10);clear HC10 hgo9 hown9 hc9 hb9 HO4 HX4 HB4 HC4 HR;go_wp2_with fail;go_roundw
     case rel=>exact⟨k+1,by omega,by go_num,HK2,HR2⟩
     case measure=>simp[intOf];omega
  ·have kI:¬(k:Int)<(n:Int):=by omega
   obtain rfl:k=n:=by omega
   obtain⟨sv,hBk,hOk⟩:=HK.out;have hBs:=HBb.out.chg HR.out (by simp;have:=HGW.out;omega);have HCR:=zH (HCb.out.trans' HR.out (by intro x hx;simp at hx;subst hx;right;have:=HGW.out;omega));obtain⟨A4,cp4,rfl⟩:=Sl.form (Sl.of_own hOk);have HOk:=zH hOk;generalize hm8:(segsOf l k).length=m8 at hBk HOk
   have HLS:Hid (w.heap.size<wb.heap.size):=zH (by have:=HGW.out;have:=HLT.out;omega);clear hm8 HK hOk HBb HR HP0 HPZ HPS HPN HPO HSG HSL HS00;go_wp2_with (first
    |(refine zl rfl 30 (.tmp 9) rfl hBk rfl _ Tryz.underlying30 rfl infSr ?_)
    |(refine zs (vs:=arrSr ⟨x0,x3,x5,y6,[]⟩ (.slice A4 m8 cp4) (.slice A9 n9 c9)) rfl 30 (.tmp 2) (.tmp 124) rfl rfl hBs rfl rfl rfl infSr rfl ?_;intro w11 hB11 hc11)
    |fail)
   refine bodyPost_ret (results_blk3 rfl rfl hB11 _ Tryz.underlying30 rfl infSr) rfl ?_;have hsd:=(Sl.chg (Sl.of_own HOk.out) hc11 (fun y hy=>by simp at hy;subst hy;exact HLS.out)).less (Nat.le_of_lt HLS.out)
   exact⟨SrPost.ok (s:=⟨x0,x3,x5,y6,segsOf l k⟩) hE.out hsd,HCR.out.trans' hc11 (zN (by omega))⟩
end Go.Proofs.YtgbndaiifbogmaaGreat
namespace Go.Proofs.YtgbndaiifbogmaaGreat
open Go.RowKit Go.Maps
theorem tpad0_any (w:World):Calls Tryz.prog 219 #[.int .i64 0] w fun e w'=>e=.returned (.slice none 0 0)∧Chg [] w w':=by
 go_enter Tryz.func219,Tryz.ntmps219
 go_wp2_with fail;go_ret
 exact⟨rfl,Chg.refl _ _⟩
theorem tput0_any (w:World):Calls Tryz.prog 174 #[.slice none 0 0] w fun e w'=>∃v,e=.returned (.tuple #[v,.int .i64 0])∧OwY w' w.heap.size v []∧Chg [] w w':=by
 have F:=zH (tcan0_any w);have FP:=zH tpad0_any;go_enter Tryz.func174,Tryz.ntmps174
 go_wp2_with fail;refine F.out.mono ?_;rintro e w1 ⟨rfl,hc1⟩;go_wp2_with fail;refine wp_loop_rounds 1 ?_;rw[rounds_succ];go_wp2_with fail;refine wp_loop_rounds 1 ?_;rw[rounds_succ];go_wp2_with fail;refine (FP.out _).mono ?_;rintro e w2 ⟨rfl,hc2⟩
 have HO:Hid (w2.ownsRow w.heap.size 5 1 (.slice none 0 0) 0 (([]:By).map byV)):=zH (World.ownsRow_nil ..);have HS:Hid (Sl w2 0 1 (.slice none 0 0) 0 (([]:By).map byV)):=zH (SlY.nil w2 0);have HC:=zH (hc1.trans hc2);have hz:=HC.out.size;clear hc1 hc2;go_wp2_with (first
  |(at_builtin;refine wpList_app elY rfl (.tmp 50) (.tmp 52) rfl w.heap.size rfl HO.out rfl HS.out (byV_one _) (by simp[maxLen]) (by simp) hz ?_;intro v3 w3 hown3 hc3 hb3)
  |fail)
 go_ret2
 exact⟨_,rfl,by simpa[OwY]using hown3,HC.out.trans' hc3 (fun x hx=>.inr (own_lt HO.out x hx).1)⟩
@[reducible] def arr4 (a b c d:Int):Array Value:=#[.int .i64 a,.int .i64 b,.int .i64 c,.int .i64 d]
theorem inf4 {a b c d:Int}:(Tryz.prog.info? 261).map (·.size)=some (arr4 a b c d).size:=by
 show _=some 4;kernel_rfl
structure okS (n m:Int) (L:List Ad):Prop where
 nxt:0≤n∧n≤255
 left:0≤m∧m<L.length
 many:L.length≤10
 ads:∀a∈L,okA a
def fourN (n m:Int):Nat→Int
 |0=>n
 |1=>m
 |_=>0
theorem fourN_cell {n m:Int} {i:Nat} (hi:i<4):(arr4 n m 0 0)[i]?=some (.int .i64 (fourN n m i)):=by
 rcases (show i=0∨i=1∨i=2∨i=3 by omega) with rfl|rfl|rfl|rfl
 all_goals rfl
theorem fourN_ok {n m:Int} {L:List Ad} (k:okS n m L) (i:Nat):0≤fourN n m i∧fourN n m i≤255:=by
 have h1:=k.nxt;have h2:=k.left;have h3:=k.many;unfold fourN;split<;>omega
theorem rcanS_any {n m:Int} {L:List Ad} (k:okS n m L) (A:Option Addr) (c:Nat) (w:World) :
  Calls Tryz.prog 173 #[.agg (arrSr ⟨n,m,0,0,[]⟩ (.slice A L.length c) noV)] w fun e w'=>e=.returned (.int .i64 0)∧Chg [] w w':=by
 have hB:Blk (w.alloc (.cells (arrSr ⟨n,m,0,0,[]⟩ (.slice A L.length c) noV) 30)) w.heap.size 30 (arrSr ⟨n,m,0,0,[]⟩ (.slice A L.length c) noV):=Blk.new _ _ _;have hA1:=((Chg.refl [] w).alloc (.cells (arrSr ⟨n,m,0,0,[]⟩ (.slice A L.length c) noV) 30)).alloc (.cells (arr4 0 0 0 0) 261)
 have hB1:Blk ((w.alloc (.cells (arrSr ⟨n,m,0,0,[]⟩ (.slice A L.length c) noV) 30)).alloc (.cells (arr4 0 0 0 0) 261)) (w.heap.size+1) 261 (arr4 0 0 0 0):=Blk.new' (by simp);have HBB:=zH (hB.alloc (.cells (arr4 0 0 0 0) 261));have c0:=hB.cell 0;have c1:=hB.cell 1;have c2:=hB.cell 2
 have c3:=hB.cell 3;have HA:=zH hA1;have HCELL:=zH (fun i (hi:i<4)=>fourN_cell (n:=n) (m:=m) hi);have HOK:=zH (fun i=>fourN_ok k i);have FO:=zH tcan0_any;have hL1:0<L.length:=by have:=k.left;omega
 have hL2:=k.many;have hm2:=k.left.2;clear hA1 hB k;generalize L.length=N at *;go_enter Tryz.func173,Tryz.ntmps173
 go_upto_region 2 with (first
  |(refine zs (vs:=arr4 n m 0 0) rfl 261 (.tmp 3) (.tmp 13) rfl rfl hB1 rfl rfl rfl inf4 rfl ?_;intro w2 hB2 hc2)
  |fail)
 have HC2:=zH (HA.out.trans' hc2 (zN (by omega)));have HB2:=zH hB2;have HBT:=zH (HBB.out.chg hc2 (by simp));clear hB1 hB2 hc2 HA HBB c0 c1 c2 c3;go_wp2_with fail;go_loopw [4] (fun iv wr=>∃i:Nat,i≤4∧iv=.int .i64 i∧Hid (wr=w2)) (fun iv _=>4-(intOf iv).toNat)
 case atStart=>exact⟨0,by omega,rfl,zH rfl⟩
 case round=>
  obtain⟨i,hi,rfl,HW⟩:=hrel;obtain rfl:wr=_:=HW.out;by_cases h4:i<4
  ·have iI:(i:Int)<4:=by omega
   have ei:IntKind.i64.wrap ((i:Int)+1)=(i:Int)+1:=by rw[IntKind.wrap_i64];omega
   have ci:wr.cell? ⟨w.heap.size+1,i,none⟩=some (.int .i64 (fourN n m i)):=by
    rw[HB2.out.cell];exact HCELL.out i h4
   obtain⟨x0,x1⟩:=HOK.out i;generalize fourN n m i=x at *;have n0:¬x<0:=by omega
   have n1:¬x>65535:=by omega
   have n2:¬x>255:=by omega
   clear x0 x1;by_cases h3:(i:Int)<3
   ·go_wp2_with fail;go_roundw
    case rel=>exact⟨i+1,by omega,by go_num,zH trivial⟩
    case measure=>simp[intOf];omega
   ·go_wp2_with fail;go_roundw
    case rel=>exact⟨i+1,by omega,by go_num,zH trivial⟩
    case measure=>simp[intOf];omega
  ·have iI:¬(i:Int)<4:=by omega
   obtain rfl:i=4:=by omega
   have k4:wr.cell? ⟨w.heap.size,4,none⟩=some (.slice A N c):=HBT.out.cell 4;have k1:wr.cell? ⟨w.heap.size,1,none⟩=some (.int .i64 m):=HBT.out.cell 1;have k5:wr.cell? ⟨w.heap.size,5,none⟩=some noV:=HBT.out.cell 5;have i0:((N:Int)==0)=false:=by rw[beq_eq_false_iff_ne];omega
   have i1:¬(N:Int)>10:=by omega
   have i2:¬m≥(N:Int):=by omega
   clear HB2 HBT HW HCELL HOK hL1 hL2 hm2;go_wp2_with fail;refine (FO.out _).mono ?_;rintro e w3 ⟨rfl,hc3⟩;go_wp2_with fail;go_ret
   exact⟨rfl,HC2.out.trans hc3⟩
theorem range_ad {w:World} {b o:Nat} {A:Ad} (h:w.rangeAt b o (arrA A).toList) (hA:okA A) {i:Nat} (hi:i<16):w.cell? ⟨b,o+i,none⟩=some (.int .u8 (gB (adB A) i:Nat)):=by
 refine h i _ ?_;rw[adB_arr hA,List.getElem?_map,gB_some (by rw[adB_len];exact hi)];rfl
theorem segsB_snoc {L:List Ad} {i:Nat} {a:Ad} (h:L[i]?=some a):segsB (L.take (i+1))=segsB (L.take i)++adB a:=by
 unfold segsB;rw[List.take_add_one,h];simp
theorem rputS_any {n m:Int} {L:List Ad} (k:okS n m L) {w:World} {sv:Value} (hs:SlD w 0 sv L) :
  Calls Tryz.prog 118 #[.agg (arrSr ⟨n,m,0,0,[]⟩ sv noV)] w fun e w'=>∃v,e=.returned (.tuple #[v,.int .i64 0])∧OwY w' w.heap.size v (srhB n m L)∧Chg [] w w':=by
 obtain⟨A,c,rfl⟩:=Sl.form hs;have hB:Blk (w.alloc (.cells (arrSr ⟨n,m,0,0,[]⟩ (.slice A L.length c) noV) 30)) w.heap.size 30 (arrSr ⟨n,m,0,0,[]⟩ (.slice A L.length c) noV):=Blk.new _ _ _;have HA:=zH ((Chg.refl [] w).alloc (.cells (arrSr ⟨n,m,0,0,[]⟩ (.slice A L.length c) noV) 30))
 have FC:=zH (fun W=>rcanS_any k A c W);have FO:=zH tput0_any;have F2:=zH (two01_any 0 (by omega));have hN0:0<L.length:=by have:=k.left;omega
 have hN10:=k.many;have HSE:Hid (∀i,i<L.length→∃a b o,L[i]?=some a∧okA a∧A=some ⟨b,o,none⟩∧∀W,Chg [] w W→W.rangeAt b (o+i*16) (arrA a).toList):=zH (fun i hi=>by
  have ha:L[i]?=some L[i]:=List.getElem?_eq_getElem hi;obtain⟨_,b,o,e1,_⟩:=SlD.rec hs ha;refine⟨L[i],b,o,ha,k.ads _ (List.getElem_mem hi),e1,fun W hc=>?_⟩;obtain⟨_,b',o',e2,hr⟩:=SlD.rec (Sl.chg0 hs hc) ha;have e:=e1.symm.trans e2;simp only[Option.some.injEq,Addr.mk.injEq,and_true]at e
  obtain⟨rfl,rfl⟩:=e;exact hr)
 have HSB:Hid (srhB n m L=[loB n,loB (2*(L.length:Int)),4,loB m,loB ((L.length:Int)-1),0]++twoS 0++segsB L):=zH rfl;have HSN:=zH (fun i a (h:L[i]?=some a)=>segsB_snoc h);have HS0:Hid (segsB (L.take 0)=[]):=zH rfl;have HSA:Hid (segsB (L.take L.length)=segsB L):=zH (by rw[List.take_length])
 have HSL:=zH (fun i=>segsB_len (L.take i));have u1:=loB_eq n;have u2:=loB_eq (2*(L.length:Int));have u3:=loB_eq m;have u4:=loB_eq ((L.length:Int)-1);have v2:IntKind.i64.wrap (2*(L.length:Int))=2*(L.length:Int):=by rw[IntKind.wrap_i64];omega
 have v4:IntKind.i64.wrap ((L.length:Int)-1)=(L.length:Int)-1:=by rw[IntKind.wrap_i64];omega
 have HU:=zH (And.intro u1 (And.intro u2 (And.intro u3 (And.intro u4 (And.intro v2 v4)))));have HTL:Hid (∀i,(L.take i).length=min i L.length):=zH (fun i=>List.length_take);generalize srhB n m L=tb at *;generalize L.length=N at *;clear hs k u1 u2 u3 u4 v2 v4;go_enter Tryz.func118,Tryz.ntmps118
 go_wp2_with (first
  |(refine zl rfl 30 (.tmp 1) rfl hB rfl _ Tryz.underlying30 rfl infSr ?_)
  |fail)
 refine (FC.out _).mono ?_;rintro e w1 ⟨rfl,hc1⟩;have hB1:=hB.chg hc1 (by simp);have HC1:=zH (HA.out.trans hc1);have c5:w1.cell? ⟨w.heap.size,5,none⟩=some noV:=hB1.cell 5;clear FC hB hc1 HA;go_wp2_with fail;refine (FO.out _).mono ?_;rintro e wz ⟨vz,rfl,hoz,hcz⟩
 obtain⟨Az,cz,rfl⟩:=Sl.form (Sl.of_own hoz);have HOZ:=zH (Sl.less (B':=0) (Sl.of_own hoz) (Nat.zero_le _));have HBz:=zH (hB1.chg hcz (by simp));have HCz:=zH (HC1.out.trans hcz);have hlt:=HBz.out.lt;have HX:=zH (fun W (hc:Chg [] wz W) i=>(HBz.out.chg hc (by simp)).cell i);clear FO hB1 hcz HC1 c5 hoz
 have x0:wz.cell? ⟨w.heap.size,0,none⟩=some (.int .i64 n):=HBz.out.cell 0;have x1:wz.cell? ⟨w.heap.size,1,none⟩=some (.int .i64 m):=HBz.out.cell 1;have x2:wz.cell? ⟨w.heap.size,2,none⟩=some (.int .i64 0):=HBz.out.cell 2;have x4:wz.cell? ⟨w.heap.size,4,none⟩=some (.slice A N c):=HBz.out.cell 4
 obtain⟨u1,u2,u3,u4,v2,v4⟩:=HU.out;go_upto_region 6 with fail
 have hAl:=(Chg.refl [] wz).alloc (.cells #[byV (loB n),byV (loB (2*(N:Int))),byV 4,byV (loB m),byV (loB ((N:Int)-1)),byV 0] 5)
 have HO0:Hid (OwY (wz.alloc (.cells #[byV (loB n),byV (loB (2*(N:Int))),byV 4,byV (loB m),byV (loB ((N:Int)-1)),byV 0] 5)) wz.heap.size (.slice (some ⟨wz.heap.size,0,none⟩) 6 6) [loB n,loB (2*(N:Int)),4,loB m,loB ((N:Int)-1),0]):=
  zH (own_lit (base:=wz.heap.size) wz 5 1 6 #[byV (loB n),byV (loB (2*(N:Int))),byV 4,byV (loB m),byV (loB ((N:Int)-1)),byV 0] (Nat.le_refl _) (by simp[maxLen]) rfl)
 have HDl:=zH hAl;have x3:(wz.alloc (.cells #[.int .u8 (loB n:Nat),.int .u8 (loB (2*(N:Int)):Nat),.int .u8 4,.int .u8 (loB m:Nat),.int .u8 (loB ((N:Int)-1):Nat),.int .u8 0] 5)).cell? ⟨w.heap.size,3,none⟩=some (.int .i64 0):=HX.out _ hAl 3;generalize loB n=b0 at *;generalize loB (2*(N:Int))=b1 at *
 generalize loB m=b2 at *;generalize loB ((N:Int)-1)=b3 at *;clear u1 u2 u3 u4 v2 v4 HU x0 x1 x2 x4 hAl;go_wp2_with fail;refine (F2.out _).mono ?_;rintro e wb ⟨vb,rfl,hob,hcb⟩;have HO1:=zH (own_chg HO0.out hcb (by simp));have HT1:=zH (Sl.less (B':=0) (Sl.of_own hob) (Nat.zero_le _))
 have HD1:=zH (HDl.out.trans hcb);have hz1:=HD1.out.size;have hl1:=zH (own_lt HO1.out);clear F2 hob hcb HO0 HDl x3;go_upto_region 7 with (first
  |(at_builtin;refine wpList_app elY rfl (.tmp 45) (.tmp 48) rfl wz.heap.size rfl HO1.out rfl HT1.out (byV_one _) (by simp[maxLen,twoS]) (by simp[twoS]) hz1 ?_;intro v2 wc hown2 hc2 hb2)
  |fail)
 have HDc:=zH (HD1.out.trans' hc2 (fun x hx=>.inr (hl1.out x hx).1));have HOc:=zH (OwY.snoc (l:=[b0,b1,4,b2,b3,0]) (m:=twoS 0) rfl hown2);have HHL:Hid (([b0,b1,4,b2,b3,0]++twoS 0:By).length=8):=zH rfl;have HSB2:=zH HSB.out;generalize ([b0,b1,4,b2,b3,0]++twoS 0:By)=hd8 at *
 clear HO1 HT1 HD1 hl1 hz1 hown2 hc2 hb2 HSB;go_wp2_with fail;go_loopw [7,8] (fun bv iv wr=>∃i:Nat,i≤N∧iv=.int .i64 i∧Hid (OwY wr wz.heap.size bv (hd8++segsB (L.take i)))∧Hid (Chg [] wz wr)) (fun _ iv _=>N-(intOf iv).toNat)
 case atStart=>exact⟨0,by omega,rfl,zH (by rw[HS0.out,List.append_nil];exact HOc.out),HDc⟩
 case round=>
  obtain⟨i,hi,rfl,HO,HC⟩:=hrel;have x4:wr.cell? ⟨w.heap.size,4,none⟩=some (.slice A N c):=HX.out wr HC.out 4;by_cases hiN:i<N
  ·have iI:(i:Int)<(N:Int):=by omega
   have ei:IntKind.i64.wrap ((i:Int)+1)=(i:Int)+1:=by rw[IntKind.wrap_i64];omega
   obtain⟨a,b,o,ha,hka,rfl,hra⟩:=HSE.out i hiN;have HRA:=zH (fun W (hc:Chg [] wz W) k (hk:k<16)=>range_ad (hra W (HCz.out.trans hc)) hka hk);have HNX:=zH (HSN.out i a ha);have hlen:(hd8++segsB (L.take i)).length≤200:=by
    have h1:=HSL.out i;have h2:=HHL.out;have h3:=HTL.out i;rw[List.length_append];omega
   have HPR:Hid (hd8++segsB (L.take (i+1))=(hd8++segsB (L.take i))++adB a):=zH (by rw[HNX.out,List.append_assoc]);generalize hd8++segsB (L.take i)=pre at *;obtain⟨q,hq⟩:∃q,q=o+i*16:=⟨_,rfl⟩;clear hra hka ha HNX HSE HSN HSA HS0 HSL HTL HSB2 HHL HOc HDc;go_wp2_with fail
   go_loopw [7,9] (fun bv kv wr=>∃k:Nat,k≤16∧kv=.int .i64 k∧Hid (OwY wr wz.heap.size bv (pre++(adB a).take k))∧Hid (Chg [] wz wr)) (fun _ kv _=>16-(intOf kv).toNat)
   case atStart=>exact⟨0,by omega,rfl,zH (by rw[List.take_zero,List.append_nil];exact HO.out),HC⟩
   case round=>
    obtain⟨k,hk,rfl,HOk,HCk⟩:=hrel;by_cases hk16:k<16
    ·have kI:(k:Int)<16:=by omega
     have ek:IntKind.i64.wrap ((k:Int)+1)=(k:Int)+1:=by rw[IntKind.wrap_i64];omega
     have x4:wr.cell? ⟨w.heap.size,4,none⟩=some (.slice (some ⟨b,o,none⟩) N c):=HX.out wr HCk.out 4;have hcell:=HRA.out wr HCk.out k hk16;have HTS:=zH (take_snoc (l:=adB a) (i:=k) (by rw[adB_len];exact hk16))
     have hlen2:(pre++(adB a).take k).length≤216:=by rw[List.length_append,List.length_take,adB_len];omega
     have HAp:Hid (∀x,pre++((adB a).take k ++ [x])=(pre++(adB a).take k) ++ [x]):=zH (fun x=>by rw[List.append_assoc]);generalize gB (adB a) k=x at *;generalize pre++(adB a).take k=mm at *;have hA3:=(Chg.refl [] wr).alloc (.cells #[byV x] 5);have HA3:=zH hA3
     have HO3:=zH (own_chg HOk.out hA3 (by simp));have HT3:Hid (Sl (wr.alloc (.cells #[byV x] 5)) 0 1 (.slice (some ⟨wr.heap.size,0,none⟩) 1 1) 1 ([x].map byV)):=zH (Sl.of_own (own_lit (base:=0) wr 5 1 1 #[byV x] (Nat.zero_le _) (by simp[maxLen]) rfl))
     have hz3:wz.heap.size≤(wr.alloc (.cells #[byV x] 5)).heap.size:=by have:=HCk.out.size;simp;omega
     have hl3:=zH (own_lt HOk.out);clear hA3;go_wp2_with (first
      |(at_builtin;refine wpList_app elY rfl (.tmp 61) (.tmp 69) rfl wz.heap.size rfl HO3.out rfl HT3.out (byV_one _) (by unfold maxLen;omega) (by omega) hz3 ?_;intro v4 wd hown4 hc4 hb4)
      |fail)
     go_roundw
     case rel=>exact⟨k+1,by omega,by go_num,zH (by rw[HTS.out,HAp.out];exact OwY.snoc (m:=[x]) rfl hown4),zH ((HCk.out.trans HA3.out).trans' hc4 (fun y hy=>.inr (hl3.out y hy).1))⟩
     case measure=>simp[intOf];omega
    ·have kI:¬(k:Int)<16:=by omega
     have e16:(adB a).take k=adB a:=List.take_of_length_le (by rw[adB_len];omega);have HO5:=HOk.out;rw[e16,←HPR.out]at HO5;replace HO5:=zH HO5;clear HRA HPR HOk e16 HO;go_wp2_with fail;go_roundw
     case rel=>exact⟨i+1,by omega,by go_num,HO5,HCk⟩
     case measure=>simp[intOf];omega
  ·have iI:¬(i:Int)<(N:Int):=by omega
   obtain rfl:i=N:=by omega
   have HO5:=HO.out;rw[HSA.out,←HSB2.out]at HO5;replace HO5:=zH HO5;have HT5:=zH (Sl.chg0 HOZ.out HC.out);have hz5:=HC.out.size;have hl5:=zH (own_lt HO5.out);have htb:tb.length≤200:=by
    have h1:=HSL.out i;have h2:=HHL.out;have h3:=HTL.out i;have h4:=HSA.out;rw[HSB2.out,List.length_append,←h4];omega
   have HZ0:=zH (HCz.out.size);clear HO HSE HSN HSA HS0 HSL HTL HSB2 HHL HOc HDc HOZ;go_wp2_with (first
    |(at_builtin;refine wpList_app elY rfl (.tmp 71) (.tmp 72) rfl wz.heap.size rfl HO5.out rfl HT5.out (byV_one _) (by unfold maxLen;simp;omega) (by simp;omega) hz5 ?_;intro v6 w6 hown6 hc6 hb6)
    |fail)
   go_ret2
   refine⟨v6,rfl,ownsRow_less (?_:OwY w6 wz.heap.size v6 tb) HZ0.out,(HCz.out.trans HC.out).trans' hc6 (fun x hx=>.inr (Nat.le_trans HZ0.out (hl5.out x hx).1))⟩;have:=OwY.snoc (m:=([]:By)) rfl hown6
   rwa [List.append_nil]at this
end Go.Proofs.YtgbndaiifbogmaaGreat

/-
  Small laws and walks on the way to LearnReads: Ws, Ww, Wx. Conditions: each theorem names its own.
-/
import Derived.Test.YtgbndaiifbogmaaGreatY25
import Derived.Test.YtgbndaiifbogmaaGreatY29
import Derived.Test.YtgbndaiifbogmaaGreatY02
set_option linter.unusedVariables false
set_option linter.unusedSimpArgs false
set_option maxRecDepth 100000
set_option maxHeartbeats 8000000
namespace Go.Proofs.YtgbndaiifbogmaaGreat
open Go.RowKit Go.Maps
theorem byteful3_any {w:World} {g:Nat} {x y z:Int} (hb:Blk w g 3 #[.int .i64 x,.int .i64 y,.int .i64 z]) (hx:0≤x∧x≤255) (hy:0≤y∧y≤255) (hz:0≤z∧z≤255) :
  Calls Tryz.prog 343 #[.slice (some ⟨g,0,none⟩) 3 3] w fun e w'=>e=.returned (.bool true)∧w=w':=by
 have c0:w.cell? ⟨g,0,none⟩=some (.int .i64 x):=hb.cell 0;have c1:w.cell? ⟨g,1,none⟩=some (.int .i64 y):=hb.cell 1;have c2:w.cell? ⟨g,2,none⟩=some (.int .i64 z):=hb.cell 2;have x0:¬x<0:=by omega
 have x1:¬x>255:=by omega
 have y0:¬y<0:=by omega
 have y1:¬y>255:=by omega
 have z0:¬z<0:=by omega
 have z1:¬z>255:=by omega
 clear hx hy hz hb;go_enter Tryz.func343,Tryz.ntmps343
 go_wp2_with fail;refine wp_loop_rounds 4 ?_;rw[rounds_succ];go_wp2_with fail;rw[rounds_succ];go_wp2_with fail;rw[rounds_succ];go_wp2_with fail;rw[rounds_succ];go_wp2_with fail;go_ret
 exact⟨rfl,rfl⟩
theorem swhas_any {w:World} {g:Nat} {n m:Int} {A:Option Addr} {N c:Nat} {tv tl:Value} (hb:Blk w g 308 (arrWi ⟨n,m,0,0,[]⟩ (.slice A N c) tv tl)) (hm:0≤m∧m<(N:Int)) :
  Calls Tryz.prog 263 #[.pointer (some ⟨g,0,none⟩),.int .i64 m] w fun e w'=>e=.returned (.bool true)∧w=w':=by
 have c4:w.cell? ⟨g,4,none⟩=some (.slice A N c):=hb.cell 4;have m0:m≥0:=hm.1;have m1:m<(N:Int):=hm.2;clear hm hb;go_enter Tryz.func263,Tryz.ntmps263
 go_wp2_with fail;go_ret
 exact⟨rfl,rfl⟩
theorem scanS_any {n m:Int} {L:List Ad} (k:okS n m L) {w:World} {g:Nat} {A:Option Addr} {c:Nat} {tl:Value} (hb:Blk w g 308 (arrWi ⟨n,m,0,0,[]⟩ (.slice A L.length c) noV tl)) :
  Calls Tryz.prog 339 #[.pointer (some ⟨g,0,none⟩)] w fun e w'=>e=.returned (.int .i64 0)∧Chg [] w w':=by
 have hn:=k.nxt;have hm:=k.left;have hN:=k.many;have c4:w.cell? ⟨g,4,none⟩=some (.slice A L.length c):=hb.cell 4;have HB:=zH (fun W (hc:Chg [] w W)=>hb.chg hc (by simp));have S0:Hid (∀W,Chg [] w W→W.cell? ⟨g,0,none⟩=some (.int .i64 n)):=zH (fun W hc=>(HB.out W hc).cell 0)
 have S1:Hid (∀W,Chg [] w W→W.cell? ⟨g,1,none⟩=some (.int .i64 m)):=zH (fun W hc=>(HB.out W hc).cell 1);have S2:Hid (∀W,Chg [] w W→W.cell? ⟨g,2,none⟩=some (.int .i64 0)):=zH (fun W hc=>(HB.out W hc).cell 2)
 have S3:Hid (∀W,Chg [] w W→W.cell? ⟨g,3,none⟩=some (.int .i64 0)):=zH (fun W hc=>(HB.out W hc).cell 3);have FB:=zH (fun (W:World) (g':Nat) (h:Blk W g' 3 #[.int .i64 n,.int .i64 m,.int .i64 0])=>byteful3_any h hn (by omega) (by omega));have FH:=zH (fun W (hc:Chg [] w W)=>swhas_any (HB.out W hc) hm)
 have FT:=zH ptcan0_any;have hD:Chg [] w w.drew:=(Chg.refl [] w).drew;have n1:¬(L.length:Int)<1:=by omega
 have n2:¬(L.length:Int)>10:=by omega
 generalize L.length=N at *;clear hn hm hN hb k;go_enter Tryz.func339,Tryz.ntmps339
 go_upto_region 2 with fail
 clear c4;refine wp_region_noPanic ?_;refine wp_region_held_drew (S:=fun W:World=>Chg [] w W) (by kernel_rfl) hD (fun _=>?_);refine zU 0 rfl (by go_simp<;>with_reducible rfl) ?_
 try simp only[zP]
 refine zU 1 rfl (by go_simp<;>with_reducible rfl) ?_
 try simp only[zP]
 refine zU 2 rfl (by go_simp<;>with_reducible rfl) ?_
 try simp only[zP]
 refine zU 3 rfl (by go_simp<;>with_reducible rfl) ?_
 try simp only[zP]
 refine zT 4 rfl (zc (by rfl) 3 (.tmp 14) rfl g 0 rfl (.int .i64 n) _ S0.out Tryz.underlying3 rfl) ?_
 try simp only[zP]
 refine zU 5 rfl (by go_simp<;>with_reducible rfl) ?_
 try simp only[zP]
 refine zU 6 rfl (by go_simp<;>with_reducible rfl) ?_
 try simp only[zP]
 refine zU 7 rfl (by go_simp<;>with_reducible rfl) ?_
 try simp only[zP]
 refine zU 8 rfl (by go_simp<;>with_reducible rfl) ?_
 try simp only[zP]
 refine zT 9 rfl (zc (by rfl) 3 (.tmp 19) rfl g 1 rfl (.int .i64 m) _ S1.out Tryz.underlying3 rfl) ?_
 try simp only[zP]
 refine zU 10 rfl (by go_simp<;>with_reducible rfl) ?_
 try simp only[zP]
 refine zU 11 rfl (by go_simp<;>with_reducible rfl) ?_
 try simp only[zP]
 refine zU 12 rfl (by go_simp<;>with_reducible rfl) ?_
 try simp only[zP]
 refine zU 13 rfl (by go_simp<;>with_reducible rfl) ?_
 try simp only[zP]
 refine zT 14 rfl (zc (by rfl) 3 (.tmp 24) rfl g 2 rfl (.int .i64 0) _ S2.out Tryz.underlying3 rfl) ?_
 try simp only[zP]
 refine zR 15 rfl (fun K hK=>?_);refine step_run (v:=.slice (some ⟨w.heap.size,0,none⟩) 3 3) (w':=(w.alloc (.cells #[.int .i64 n,.int .i64 m,.int .i64 0] 3)).drew) rfl (by go_simp<;>rfl) ?_
 have hS1:(fun W:World=>Chg [] w W) (w.alloc (.cells #[.int .i64 n,.int .i64 m,.int .i64 0] 3)).drew:=((Chg.refl [] w).alloc _).drew;refine zB hK ?_;clear hK K
 try simp only[zP]
 refine zR 16 rfl (fun K hK=>?_);go_simp
 refine (FB.out _ w.heap.size (Blk.new _ _ _).drew).mono ?_;rintro e w2 ⟨rfl,rfl⟩;refine zB hK ?_;clear hK K
 try simp only[zP]
 refine zU 17 rfl (by go_simp<;>with_reducible rfl) ?_
 try simp only[zP]
 refine zU 18 rfl (by go_simp<;>with_reducible rfl) ?_
 try simp only[zP]
 refine zU 19 rfl (by go_simp<;>with_reducible rfl) ?_
 try simp only[zP]
 refine zU 20 rfl (by go_simp<;>with_reducible rfl) ?_
 try simp only[zP]
 refine zU 21 rfl (by go_simp<;>with_reducible rfl) ?_
 try simp only[zP]
 refine zU 22 rfl (by go_simp<;>with_reducible rfl) ?_
 try simp only[zP]
 refine zT 23 rfl (zc (by rfl) 3 (.tmp 33) rfl g 3 rfl (.int .i64 0) _ S3.out Tryz.underlying3 rfl) ?_
 try simp only[zP]
 refine zU 24 rfl (by go_simp<;>with_reducible rfl) ?_
 try simp only[zP]
 refine zU 25 rfl (by go_simp<;>with_reducible rfl) ?_
 try simp only[zP]
 refine zU 26 rfl (by go_simp<;>with_reducible rfl) ?_
 try simp only[zP]
 refine zU 27 rfl (by go_simp<;>with_reducible rfl) ?_
 try simp only[zP]
 refine zU 28 rfl (by go_simp<;>with_reducible rfl) ?_
 try simp only[zP]
 refine zU 29 rfl (by go_simp<;>with_reducible rfl) ?_
 try simp only[zP]
 refine zU 30 rfl (by go_simp<;>with_reducible rfl) ?_
 try simp only[zP]
 refine zT 31 rfl (zc (by rfl) 3 (.tmp 41) rfl g 3 rfl (.int .i64 0) _ S3.out Tryz.underlying3 rfl) ?_
 try simp only[zP]
 refine zU 32 rfl (by go_simp<;>with_reducible rfl) ?_
 try simp only[zP]
 refine zU 33 rfl (by go_simp<;>with_reducible rfl) ?_
 try simp only[zP]
 refine zU 34 rfl (by go_simp<;>with_reducible rfl) ?_
 try simp only[zP]
 refine wpAnyH_done (by kernel_rfl) ?_ _;refine NoPanic.normal ?_;have HS1:=zH hS1;generalize (w.alloc (.cells #[.int .i64 n,.int .i64 m,.int .i64 0] 3)).drew=w3 at *;have k1:=S1.out w3 HS1.out;have k5:w3.cell? ⟨g,5,none⟩=some noV:=(HB.out w3 HS1.out).cell 5;clear hS1 hD S0 S1 S2 S3;go_wp2_with fail
 refine (FH.out w3 HS1.out).mono ?_;rintro e w4' ⟨rfl,rfl⟩;go_wp2_with fail;refine (FT.out _).mono ?_;rintro e w5 ⟨rfl,hc5⟩;go_wp2_with fail;go_ret
 exact⟨rfl,HS1.out.trans hc5⟩
theorem wi_tail (s:Sr) (sv tv tl v:Value):(arrWi s sv tv tl).setIfInBounds 6 v=arrWi s sv tv v:=by kernel_rfl
theorem sputS_any {n m:Int} {L:List Ad} (k:okS n m L) {w:World} {sv:Value} (hs:SlD w 0 sv L) :
  Calls Tryz.prog 327 #[.agg (arrSr ⟨n,m,0,0,[]⟩ sv noV)] w fun e w'=>∃v,e=.returned (.tuple #[v,.int .i64 0])∧OwY w' w.heap.size v (srhB n m L)∧Chg [] w w':=by
 obtain⟨A,c,rfl⟩:=Sl.form hs;have hB:Blk (w.alloc (.cells (arrSr ⟨n,m,0,0,[]⟩ (.slice A L.length c) noV) 30)) w.heap.size 30 (arrSr ⟨n,m,0,0,[]⟩ (.slice A L.length c) noV):=Blk.new _ _ _
 have hA2:=((Chg.refl [] w).alloc (.cells (arrSr ⟨n,m,0,0,[]⟩ (.slice A L.length c) noV) 30)).alloc (.cells (arrWi ⟨n,m,0,0,[]⟩ (.slice A L.length c) noV noV) 308)
 have hW:Blk ((w.alloc (.cells (arrSr ⟨n,m,0,0,[]⟩ (.slice A L.length c) noV) 30)).alloc (.cells (arrWi ⟨n,m,0,0,[]⟩ (.slice A L.length c) noV noV) 308)) (w.heap.size+1) 308 (arrWi ⟨n,m,0,0,[]⟩ (.slice A L.length c) noV noV):=Blk.new' (by simp);have HA:=zH hA2
 have FC:=zH (fun (W:World) (h:Blk W (w.heap.size+1) 308 (arrWi ⟨n,m,0,0,[]⟩ (.slice A L.length c) noV noV))=>scanS_any k h);have FO:=zH ptput0_any;have hN0:0<L.length:=by have:=k.left;omega
 have hN10:=k.many;have HSE:Hid (∀i,i<L.length→∃a b o,L[i]?=some a∧okA a∧A=some ⟨b,o,none⟩∧∀W,Chg [] w W→W.rangeAt b (o+i*16) (arrA a).toList):=zH (fun i hi=>by
  have ha:L[i]?=some L[i]:=List.getElem?_eq_getElem hi;obtain⟨_,b,o,e1,_⟩:=SlD.rec hs ha;refine⟨L[i],b,o,ha,k.ads _ (List.getElem_mem hi),e1,fun W hc=>?_⟩;obtain⟨_,b',o',e2,hr⟩:=SlD.rec (Sl.chg0 hs hc) ha;have e:=e1.symm.trans e2;simp only[Option.some.injEq,Addr.mk.injEq,and_true]at e
  obtain⟨rfl,rfl⟩:=e;exact hr)
 have HSB:Hid (srhB n m L=[loB n,loB (2*(L.length:Int)),4,loB m,loB ((L.length:Int)-1),0]++twoS 0++segsB L):=zH rfl;have HSN:=zH (fun i a (h:L[i]?=some a)=>segsB_snoc h);have HS0:Hid (segsB (L.take 0)=[]):=zH rfl;have HSA:Hid (segsB (L.take L.length)=segsB L):=zH (by rw[List.take_length])
 have HSL:=zH (fun i=>segsB_len (L.take i));obtain⟨lg,hlg⟩:∃lg:Nat,lg=8+16*L.length:=⟨_,rfl⟩;have u1:=loB_eq n;have u2:=loB_eq (2*(L.length:Int));have u3:=loB_eq m;have u4:=loB_eq ((L.length:Int)-1);have v1:IntKind.i64.wrap (16*(L.length:Int))=16*(L.length:Int):=by rw[IntKind.wrap_i64];omega
 have v2:IntKind.i64.wrap (8+16*(L.length:Int))=(lg:Int):=by rw[IntKind.wrap_i64];omega
 have v3:IntKind.i64.wrap (lg:Int)=(lg:Int):=by rw[IntKind.wrap_i64];omega
 obtain⟨K2,hK2⟩:∃K:Nat,K=2*L.length+1:=⟨_,rfl⟩;have v5:(lg:Int).tdiv 8=(K2:Int):=by
  have:(lg:Int).tdiv 8=((lg/8:Nat):Int):=rfl;rw[this];omega
 have v6:IntKind.i64.wrap (K2:Int)=(K2:Int):=by rw[IntKind.wrap_i64];omega
 have v7:IntKind.i64.wrap ((K2:Int)-1)=2*(L.length:Int):=by rw[IntKind.wrap_i64];omega
 have v4:IntKind.i64.wrap ((L.length:Int)-1)=(L.length:Int)-1:=by rw[IntKind.wrap_i64];omega
 have HU1:=zH (And.intro v1 (And.intro v2 v3));have HU2:=zH (And.intro u1 (And.intro u2 (And.intro u3 (And.intro u4 (And.intro v5 (And.intro v6 (And.intro v7 v4)))))));have HTL:Hid (∀i,(L.take i).length=min i L.length):=zH (fun i=>List.length_take);generalize srhB n m L=tb at *
 generalize L.length=N at *;clear hs k u1 u2 u3 u4 v1 v2 v3 v4 v5 v6 v7 hlg hK2;go_enter Tryz.func327,Tryz.ntmps327
 go_wp2_with (first
  |(refine zl rfl 30 (.tmp 1) rfl hB rfl _ Tryz.underlying30 rfl infSr ?_)
  |fail)
 refine (FC.out _ hW).mono ?_;rintro e w1 ⟨rfl,hc1⟩;have hW1:=hW.chg hc1 (by simp);have HC1:=zH (HA.out.trans hc1);have c5:w1.cell? ⟨w.heap.size+1,5,none⟩=some noV:=hW1.cell 5;clear FC hB hW hc1 HA hA2;go_wp2_with fail;refine (FO.out _).mono ?_;rintro e wy ⟨vy,rfl,hoy,hcy⟩
 obtain⟨Ay,cy,rfl⟩:=Sl.form (Sl.of_own hoy);have hWy:=hW1.chg hcy (by simp);have HCy:=zH (HC1.out.trans hcy);have HOYB:Hid (w.heap.size+1<w1.heap.size):=zH hW1.lt;have HOY:=zH (Sl.of_own hoy);clear FO hW1 hcy HC1 c5 hoy;go_upto_region 6 with (first
  |(refine wpList_store_cell (v:=.slice Ay 0 cy) rfl 22 (.tmp 29) (.tmp 26) rfl rfl hWy rfl rfl rfl (by show _<7;omega) (by kernel_rfl) rfl ?_;intro wz hWz hcz)
  |fail)
 rw[wi_tail]at hWz;have HCz:=zH (HCy.out.trans' hcz (zN (by omega)));have HOZ:=zH (Sl.less (B':=0) (Sl.chg HOY.out hcz (by have:=HOYB.out;simp;omega)) (Nat.zero_le _));have hlt:=hWz.lt;have HX:=zH (fun W (hc:Chg [] wz W) i=>(hWz.chg hc (by simp)).cell i);clear hWy hcz HCy HOY hWz
 have S0:Hid (∀W,Chg [] wz W→W.cell? ⟨w.heap.size+1,0,none⟩=some (.int .i64 n)):=zH (fun W hc=>HX.out W hc 0);have S1:Hid (∀W,Chg [] wz W→W.cell? ⟨w.heap.size+1,1,none⟩=some (.int .i64 m)):=zH (fun W hc=>HX.out W hc 1)
 have S2:Hid (∀W,Chg [] wz W→W.cell? ⟨w.heap.size+1,2,none⟩=some (.int .i64 0)):=zH (fun W hc=>HX.out W hc 2);have S4:Hid (∀W,Chg [] wz W→W.cell? ⟨w.heap.size+1,4,none⟩=some (.slice A N c)):=zH (fun W hc=>HX.out W hc 4)
 have S6:Hid (∀W,Chg [] wz W→W.cell? ⟨w.heap.size+1,6,none⟩=some (.slice Ay 0 cy)):=zH (fun W hc=>HX.out W hc 6);obtain⟨v1,v2,v3⟩:=HU1.out;have hD:Chg [] wz wz.drew:=(Chg.refl [] wz).drew;refine wp_region_noPanic ?_
 refine wp_region_held_drew (S:=fun W:World=>Chg [] wz W) (by kernel_rfl) hD (fun _=>?_);refine zU 0 rfl (by go_simp<;>with_reducible rfl) ?_
 try simp only[zP]
 refine zU 1 rfl (by go_simp<;>with_reducible rfl) ?_
 try simp only[zP]
 refine zU 2 rfl (by go_simp<;>with_reducible rfl) ?_
 try simp only[zP]
 refine zU 3 rfl (by go_simp<;>with_reducible rfl) ?_
 try simp only[zP]
 refine zT 4 rfl (zc (by rfl) 27 (.tmp 33) rfl (w.heap.size+1) 4 rfl (.slice A N c) _ S4.out Tryz.underlying27 rfl) ?_
 try simp only[zP]
 refine zU 5 rfl (by go_simp<;>with_reducible rfl) ?_
 try simp only[zP]
 refine zU 6 rfl (by go_simp<;>with_reducible rfl) ?_
 try simp only[zP]
 refine zU 7 rfl (by go_simp<;>with_reducible rfl) ?_
 try simp only[zP]
 refine zU 8 rfl (by go_simp<;>with_reducible rfl) ?_
 try simp only[zP]
 refine zU 9 rfl (by go_simp<;>with_reducible rfl) ?_
 try simp only[zP]
 refine zU 10 rfl (by go_simp<;>with_reducible rfl) ?_
 try simp only[zP]
 refine zT 11 rfl (zc (by rfl) 22 (.tmp 40) rfl (w.heap.size+1) 6 rfl (.slice Ay 0 cy) _ S6.out Tryz.underlying22 rfl) ?_
 try simp only[zP]
 refine zU 12 rfl (by go_simp<;>with_reducible rfl) ?_
 try simp only[zP]
 refine zU 13 rfl (by go_simp<;>with_reducible rfl) ?_
 try simp only[zP]
 refine zU 14 rfl (by go_simp<;>with_reducible rfl) ?_
 try simp only[zP]
 refine wpAnyH_done (by kernel_rfl) ?_ _;refine NoPanic.normal ?_;obtain⟨u1,u2,u3,u4,v5,v6,v7,v4⟩:=HU2.out;clear v1 v2 v3 HU1 HU2 S6;have uw0:IntKind.u8.wrap 0=0:=rfl;go_upto_region 7 with fail
 have hD2:Chg [] wz wz.drew.drew:=hD.drew;refine wp_region_noPanic ?_;refine wp_region_held_drew (S:=fun W:World=>Chg [] wz W) (by kernel_rfl) hD2 (fun _=>?_);refine zU 0 rfl (by go_simp<;>with_reducible rfl) ?_
 try simp only[zP]
 refine zU 1 rfl (by go_simp<;>with_reducible rfl) ?_
 try simp only[zP]
 refine zU 2 rfl (by go_simp<;>with_reducible rfl) ?_
 try simp only[zP]
 refine zU 3 rfl (by go_simp<;>with_reducible rfl) ?_
 try simp only[zP]
 refine zT 4 rfl (zc (by rfl) 3 (.tmp 47) rfl (w.heap.size+1) 0 rfl (.int .i64 n) _ S0.out Tryz.underlying3 rfl) ?_
 try simp only[zP]
 refine zU 5 rfl (by go_simp<;>with_reducible rfl) ?_
 try simp only[zP]
 refine zU 6 rfl (by go_simp<;>with_reducible rfl) ?_
 try simp only[zP]
 refine zU 7 rfl (by go_simp<;>with_reducible rfl) ?_
 try simp only[zP]
 refine zU 8 rfl (by go_simp<;>with_reducible rfl) ?_
 try simp only[zP]
 refine zU 9 rfl (by go_simp<;>with_reducible rfl) ?_
 try simp only[zP]
 refine zU 10 rfl (by go_simp<;>with_reducible rfl) ?_
 try simp only[zP]
 refine zU 11 rfl (by go_simp<;>with_reducible rfl) ?_
 try simp only[zP]
 refine zU 12 rfl (by go_simp<;>with_reducible rfl) ?_
 try simp only[zP]
 refine zU 13 rfl (by go_simp<;>with_reducible rfl) ?_
 try simp only[zP]
 refine zT 14 rfl (zc (by rfl) 3 (.tmp 57) rfl (w.heap.size+1) 1 rfl (.int .i64 m) _ S1.out Tryz.underlying3 rfl) ?_
 try simp only[zP]
 refine zU 15 rfl (by go_simp<;>with_reducible rfl) ?_
 try simp only[zP]
 refine zU 16 rfl (by go_simp<;>with_reducible rfl) ?_
 try simp only[zP]
 refine zU 17 rfl (by go_simp<;>with_reducible rfl) ?_
 try simp only[zP]
 refine zU 18 rfl (by go_simp<;>with_reducible rfl) ?_
 try simp only[zP]
 refine zU 19 rfl (by go_simp<;>with_reducible rfl) ?_
 try simp only[zP]
 refine zT 20 rfl (zc (by rfl) 27 (.tmp 63) rfl (w.heap.size+1) 4 rfl (.slice A N c) _ S4.out Tryz.underlying27 rfl) ?_
 try simp only[zP]
 refine zU 21 rfl (by go_simp<;>with_reducible rfl) ?_
 try simp only[zP]
 refine zU 22 rfl (by go_simp<;>with_reducible rfl) ?_
 try simp only[zP]
 refine zU 23 rfl (by go_simp<;>with_reducible rfl) ?_
 try simp only[zP]
 refine zU 24 rfl (by go_simp<;>with_reducible rfl) ?_
 try simp only[zP]
 refine zU 25 rfl (by go_simp<;>with_reducible rfl) ?_
 try simp only[zP]
 refine zU 26 rfl (by go_simp<;>with_reducible rfl) ?_
 try simp only[zP]
 refine zU 27 rfl (by go_simp<;>with_reducible rfl) ?_
 try simp only[zP]
 refine zT 28 rfl (zc (by rfl) 3 (.tmp 71) rfl (w.heap.size+1) 2 rfl (.int .i64 0) _ S2.out Tryz.underlying3 rfl) ?_
 try simp only[zP]
 refine zU 29 rfl (by go_simp<;>with_reducible rfl) ?_
 try simp only[zP]
 try simp only[uw0]
 refine zR 30 rfl (fun K hK=>?_);refine step_run (v:=.slice (some ⟨wz.heap.size,0,none⟩) 6 6) (w':=((wz.alloc (.cells #[byV (loB n),byV (loB (2*(N:Int))),byV 4,byV (loB m),byV (loB ((N:Int)-1)),byV 0] 5)).drew).drew) rfl (by go_simp<;>rfl) ?_
 have hAl:(fun W:World=>Chg [] wz W) ((wz.alloc (.cells #[byV (loB n),byV (loB (2*(N:Int))),byV 4,byV (loB m),byV (loB ((N:Int)-1)),byV 0] 5)).drew).drew:=(((Chg.refl [] wz).alloc _).drew).drew;refine zB hK ?_;clear hK K
 try simp only[zP]
 refine zU 31 rfl (by go_simp<;>with_reducible rfl) ?_
 try simp only[zP]
 refine wpAnyH_done (by kernel_rfl) ?_ _;refine NoPanic.normal ?_
 have HO0:Hid (OwY ((wz.alloc (.cells #[byV (loB n),byV (loB (2*(N:Int))),byV 4,byV (loB m),byV (loB ((N:Int)-1)),byV 0] 5)).drew).drew wz.heap.size (.slice (some ⟨wz.heap.size,0,none⟩) 6 6) [loB n,loB (2*(N:Int)),4,loB m,loB ((N:Int)-1),0]):=
  zH (own_lit (base:=wz.heap.size) wz 5 1 6 #[byV (loB n),byV (loB (2*(N:Int))),byV 4,byV (loB m),byV (loB ((N:Int)-1)),byV 0] (Nat.le_refl _) (by simp[maxLen]) rfl)
 have HDl:=zH hAl;generalize ((wz.alloc (.cells #[byV (loB n),byV (loB (2*(N:Int))),byV 4,byV (loB m),byV (loB ((N:Int)-1)),byV 0] 5)).drew).drew=wa at *;clear u1 u2 u3 u4 v5 v6 v7 v4 S0 S1 S2 S4 hD hD2 hAl;have FP:=zH (put16_N HO0.out (by simp) HDl.out.size (n:=0) (by omega))
 have hlo:=zH (own_lt HO0.out);generalize loB n=b0 at *;generalize loB (2*(N:Int))=b1 at *;generalize loB m=b2 at *;generalize loB ((N:Int)-1)=b3 at *;have x3:wa.cell? ⟨w.heap.size+1,3,none⟩=some (.int .i64 0):=HX.out _ HDl.out 3;go_wp2_with fail;refine FP.out.mono ?_;rintro e wb ⟨vb,rfl,hob,hcb⟩
 have HDc:=zH (HDl.out.trans' hcb (fun x hx=>.inr (hlo.out x hx).1));have HOc:=zH hob;have HHL:Hid (([b0,b1,4,b2,b3,0]++twoS 0:By).length=8):=zH rfl;have HSB2:=zH HSB.out;generalize ([b0,b1,4,b2,b3,0]++twoS 0:By)=hd8 at *
 have x4:wb.cell? ⟨w.heap.size+1,4,none⟩=some (.slice A N c):=HX.out _ HDc.out 4;clear hob hcb HO0 HDl FP hlo x3 HSB;go_wp2_with fail;clear x4
 go_loopw [7,88] (fun bv iv wr=>∃i:Nat,i≤N∧iv=.int .i64 i∧Hid (OwY wr wz.heap.size bv (hd8++segsB (L.take i)))∧Hid (Chg [] wz wr)) (fun _ iv _=>N-(intOf iv).toNat)
 case atStart=>exact⟨0,by omega,rfl,zH (by rw[HS0.out,List.append_nil];exact HOc.out),HDc⟩
 case round=>
  obtain⟨i,hi,rfl,HO,HC⟩:=hrel;by_cases hiN:i<N
  ·have iI:(i:Int)<(N:Int):=by omega
   have ei:IntKind.i64.wrap ((i:Int)+1)=(i:Int)+1:=by rw[IntKind.wrap_i64];omega
   obtain⟨a,b,o,ha,hka,rfl,hra⟩:=HSE.out i hiN;have hrow:=hra wr (HCz.out.trans HC.out);have HNX:=zH (HSN.out i a ha);have HAB:=zH (adB_arr hka);have hlen:(hd8++segsB (L.take i)).length≤200:=by
    have h1:=HSL.out i;have h2:=HHL.out;have h3:=HTL.out i;rw[List.length_append];omega
   have HPR:Hid (hd8++segsB (L.take (i+1))=(hd8++segsB (L.take i))++adB a):=zH (by rw[HNX.out,List.append_assoc]);generalize hd8++segsB (L.take i)=pre at *;have hB9:Blk (wr.alloc (.cells (arrA ad0) 24)) wr.heap.size 24 (arrA ad0):=Blk.new _ _ _
   have HA9:=zH ((Chg.refl [] wr).alloc (.cells (arrA ad0) 24));clear hra hka ha HNX HSE HSN HSA HS0 HSL HTL HSB2 HHL HOc HDc;go_upto_region 12 with (first
    |(refine wpList_load_mid rfl 24 (.tmp 90) rfl b (o+i*16) rfl (arrA a).toList _ hrow Tryz.underlying24 rfl infAd ?_)
    |(refine zs (vs:=arrA a) rfl 24 (.tmp 9) (.tmp 91) rfl rfl hB9 rfl rfl rfl infAd rfl ?_;intro wd hBd hcd)
    |fail)
   have HC3:=zH ((HC.out.trans HA9.out).trans' hcd (by intro x hx;simp at hx;subst hx;right;exact HC.out.size));have HO3:=zH (own_chg (own_chg HO.out HA9.out (by simp)) hcd (by intro y hy hm;have:=(own_lt HO.out y hy).2;simp at hm;omega))
   have HS3:=zH (sly_part (o:=0) (l:=adB a) hBd (by rw[List.drop_zero,HAB.out,←List.length_map (f:=byV),List.take_length]));have hz3:=HC3.out.size;have hl3:=zH (own_lt HO3.out);clear hB9 HA9 hrow HO HC hcd HAB;go_wp2_with (first
    |(at_builtin;refine wpList_app elY rfl (.tmp 92) (.tmp 93) rfl wz.heap.size rfl HO3.out rfl HS3.out (byV_one _) (by unfold maxLen;rw[adB_len];omega) (by rw[adB_len];omega) hz3 ?_;intro v4 we hown4 hc4 hb4)
    |fail)
   go_round
   case rel=>exact⟨i+1,by omega,by go_num,zH (by rw[HPR.out];exact OwY.snoc (m:=adB a) rfl hown4),zH (HC3.out.trans' hc4 (fun y hy=>.inr (hl3.out y hy).1))⟩
   case measure=>simp[intOf];omega
  ·have iI:¬(i:Int)<(N:Int):=by omega
   obtain rfl:i=N:=by omega
   have HO5:=HO.out;rw[HSA.out,←HSB2.out]at HO5;replace HO5:=zH HO5;have HT5:=zH (Sl.chg0 HOZ.out HC.out);have hz5:=HC.out.size;have hl5:=zH (own_lt HO5.out);have htb:tb.length≤200:=by
    have h1:=HSL.out i;have h2:=HHL.out;have h3:=HTL.out i;have h4:=HSA.out;rw[HSB2.out,List.length_append,←h4];omega
   have HZ0:=zH (HCz.out.size);have x6:wr.cell? ⟨w.heap.size+1,6,none⟩=some (.slice Ay 0 cy):=HX.out _ HC.out 6;clear HO HSE HSN HSA HS0 HSL HTL HSB2 HHL HOc HDc HOZ;go_wp2_with (first
    |(at_builtin;refine wpList_app elY rfl (.tmp 96) (.tmp 100) rfl wz.heap.size rfl HO5.out rfl HT5.out (byV_one _) (by unfold maxLen;simp;omega) (by simp;omega) hz5 ?_;intro v6 w6 hown6 hc6 hb6)
    |fail)
   go_ret2
   refine⟨v6,rfl,ownsRow_less (?_:OwY w6 wz.heap.size v6 tb) HZ0.out,(HCz.out.trans HC.out).trans' hc6 (fun x hx=>.inr (Nat.le_trans HZ0.out (hl5.out x hx).1))⟩;have:=OwY.snoc (m:=([]:By)) rfl hown6
   rwa [List.append_nil]at this
end Go.Proofs.YtgbndaiifbogmaaGreat
namespace Go.Proofs.YtgbndaiifbogmaaGreat
open Go.RowKit Go.Maps
theorem canT_zero {t:Sg} {n:Nat} (h:numsT t=true) (hn:n≤65515):canT t n=0:=by
 unfold canT;rw[if_neg (by rw[h];simp),if_neg (by omega)]
theorem ptseal_any {src dst:Ad} (hs:okA src) (hd:okA dst) {t:Sg} (hnum:numsT t=true) (k:okW t) {w:World} {pv:Value} {p:By} (hp:SlY w 0 pv p) (hb:okB p) (hl:p.length≤65515) :
  Calls Tryz.prog 300 #[.agg (arrA src),.agg (arrA dst),.agg (arrTc t noV pv)] w fun e w'=>e=.returned (.agg (arrTc (sealT src dst t p) noV pv))∧Chg [] w w':=by
 obtain⟨A,c,rfl⟩:=hp.form;have hA:=((((Chg.refl [] w).alloc (.cells (arrA src) 24)).alloc (.cells (arrA dst) 24)).alloc (.cells (arrTc t noV (.slice A p.length c)) 34)).alloc (.cells (arrTc tc0 noV noV) 34)
 have hS:Blk ((((w.alloc (.cells (arrA src) 24)).alloc (.cells (arrA dst) 24)).alloc (.cells (arrTc t noV (.slice A p.length c)) 34)).alloc (.cells (arrTc tc0 noV noV) 34)) w.heap.size 24 (arrA src):=(((Blk.new _ _ _).alloc _).alloc _).alloc _
 have hDs:Blk ((((w.alloc (.cells (arrA src) 24)).alloc (.cells (arrA dst) 24)).alloc (.cells (arrTc t noV (.slice A p.length c)) 34)).alloc (.cells (arrTc tc0 noV noV) 34)) (w.heap.size+1) 24 (arrA dst):=((Blk.new' (by simp)).alloc _).alloc _
 have hT:Blk ((((w.alloc (.cells (arrA src) 24)).alloc (.cells (arrA dst) 24)).alloc (.cells (arrTc t noV (.slice A p.length c)) 34)).alloc (.cells (arrTc tc0 noV noV) 34)) (w.heap.size+1+1) 34 (arrTc t noV (.slice A p.length c)):=(Blk.new' (by simp)).alloc _
 have hZ:Blk ((((w.alloc (.cells (arrA src) 24)).alloc (.cells (arrA dst) 24)).alloc (.cells (arrTc t noV (.slice A p.length c)) 34)).alloc (.cells (arrTc tc0 noV noV) 34)) (w.heap.size+1+1+1) 34 (arrTc tc0 noV noV):=Blk.new' (by simp)
 have HB4:=zH (And.intro (hS.alloc (.cells (arrTc tc0 noV noV) 34)) (And.intro (hDs.alloc (.cells (arrTc tc0 noV noV) 34)) (And.intro (hT.alloc (.cells (arrTc tc0 noV noV) 34)) (hZ.alloc (.cells (arrTc tc0 noV noV) 34)))))
 have hO:Blk (((((w.alloc (.cells (arrA src) 24)).alloc (.cells (arrA dst) 24)).alloc (.cells (arrTc t noV (.slice A p.length c)) 34)).alloc (.cells (arrTc tc0 noV noV) 34)).alloc (.cells (arrTc tc0 noV noV) 34)) (w.heap.size+1+1+1+1) 34 (arrTc tc0 noV noV):=Blk.new' (by simp)
 have HA:=zH (hA.alloc (.cells (arrTc tc0 noV noV) 34));have hcan:=canT_zero (n:=p.length) hnum hl;have HX:Hid (sealT src dst t p={t with ck:=(checkC src dst 6 (tcpB {t with ck:=0} p):Nat)}):=zH (by
  unfold sealT;rw[if_neg (by rw[hcan];omega)])
 have HPV:=zH (fun W (hc:Chg [] w W)=>hp.chg0 hc);have FC:=zH (fun W=>ptcan_any hnum A (c:=c) hl W);have FP:=zH (fun W (hc:Chg [] w W)=>ptput_any (t:={t with ck:=0}) (numsT_ck hnum (by omega)) ⟨k.seq,k.ack⟩ (HPV.out W hc) hb hl);have HTL:=zH (tcpB_len {t with ck:=0} p)
 have HTO:=zH (tcpB_ok (t:={t with ck:=0}) hb);have FK:=zH (fun W v (h:SlY W 0 v (tcpB {t with ck:=0} p))=>ccheck_any hs hd 6 h HTO.out (by rw[HTL.out];omega));generalize sealT src dst t p=y at *;generalize tcpB {t with ck:=0} p=tb at *;generalize checkC src dst 6 tb=ck at *
 clear hA hp hb hs hd hcan hnum k HTO HTL hS hDs hZ;go_enter Tryz.func300,Tryz.ntmps300
 go_upto_region 2 with (first
  |(refine zl rfl 34 (.tmp 5) rfl hT rfl _ Tryz.underlying34 rfl infTc ?_)
  |(refine zs (vs:=arrTc t noV (.slice A p.length c)) rfl 34 (.tmp 7) (.tmp 10) rfl rfl hO rfl rfl rfl infTc rfl ?_;intro w1 hO1 hc1)
  |fail)
 obtain⟨hS1,hD1,hT1,hZ1⟩:=HB4.out;replace hS1:=hS1.chg hc1 (by simp;omega);replace hD1:=hD1.chg hc1 (by simp);replace hT1:=hT1.chg hc1 (by simp);replace hZ1:=hZ1.chg hc1 (by simp);have HC1:=zH (HA.out.trans' hc1 (zN (by omega)));clear HB4 hT hO hc1 HA;go_upto_region 3 with (first
  |(refine wpList_store_cell (v:=.int .i64 0) rfl 3 (.tmp 11) _ rfl rfl hO1 rfl rfl rfl (by show _<10;omega) (by kernel_rfl) rfl ?_;intro w2 hO2 hc2)
  |fail)
 rw[tc_ck]at hO2;have hS2:=hS1.chg hc2 (by simp;omega);have hD2:=hD1.chg hc2 (by simp);have hT2:=hT1.chg hc2 (by simp);have hZ2:=hZ1.chg hc2 (by simp);have HC2:=zH (HC1.out.trans' hc2 (zN (by omega)));clear hS1 hD1 hT1 hZ1 hO1 hc2 HC1;go_wp2_with (first
  |(refine zl rfl 34 (.tmp 7) rfl hO2 rfl _ Tryz.underlying34 rfl infTc ?_)
  |fail)
 refine (FP.out _ HC2.out).mono ?_;rintro e w3 ⟨⟨v3,rfl,ho3⟩,hc3⟩;have hS3:=hS2.chg hc3 (by simp);have hD3:=hD2.chg hc3 (by simp);have hT3:=hT2.chg hc3 (by simp);have hZ3:=hZ2.chg hc3 (by simp);have hO3:=hO2.chg hc3 (by simp);have HC3:=zH (HC2.out.trans hc3)
 have HS3:=zH ((OwY.sl ho3).less (Nat.zero_le _));clear hS2 hD2 hT2 hZ2 hO2 hc3 HC2 FP ho3;go_wp2_with (first
  |(refine zl rfl 34 (.tmp 5) rfl hT3 rfl _ Tryz.underlying34 rfl infTc ?_)
  |fail)
 refine (FC.out _).mono ?_;rintro e w4 ⟨rfl,hc4⟩;have hS4:=hS3.chg hc4 (by simp);have hD4:=hD3.chg hc4 (by simp);have hZ4:=hZ3.chg hc4 (by simp);have hO4:=hO3.chg hc4 (by simp);have HC4:=zH (HC3.out.trans hc4);have HS4:=zH (Sl.chg0 HS3.out hc4);clear hS3 hD3 hT3 hZ3 hO3 hc4 HC3 FC HS3
 go_wp2_with (first
  |(refine zl rfl 24 (.tmp 3) rfl hS4 rfl _ Tryz.underlying24 rfl infAd ?_)
  |(refine zl rfl 24 (.tmp 4) rfl hD4 rfl _ Tryz.underlying24 rfl infAd ?_)
  |fail)
 refine (FK.out _ _ HS4.out).mono ?_;rintro e w5 ⟨rfl,hc5⟩;have hO5:=hO4.chg hc5 (by simp);have hZ5:=hZ4.chg hc5 (by simp);have HC5:=zH (HC4.out.trans hc5);clear hS4 hD4 hZ4 hO4 hc5 HC4 FK HS4;go_upto_region 7 with (first
  |(refine wpList_store_cell (v:=.int .i64 ck) rfl 3 (.tmp 29) (.tmp 28) rfl rfl hO5 rfl rfl rfl (by show _<10;omega) (by kernel_rfl) rfl ?_;intro w6 hO6 hc6)
  |fail)
 rw[tc_ck]at hO6;have hZ6:=hZ5.chg hc6 (by simp);have HC6:=zH (HC5.out.trans' hc6 (zN (by omega)));clear hO5 hZ5 hc6 HC5;have hX:=HX.out;subst hX;go_wp2_with (first
  |(refine zl rfl 34 (.tmp 7) rfl hO6 rfl _ Tryz.underlying34 rfl infTc ?_)
  |(refine zs (vs:=arrTc {t with ck:=(ck:Nat)} noV (.slice A p.length c)) rfl 34 (.tmp 6) (.tmp 30) rfl rfl hZ6 rfl rfl rfl infTc rfl ?_;intro w9 hB9 hc9)
  |fail)
 refine bodyPost_ret (results_blk rfl rfl hB9 _ Tryz.underlying34 rfl infTc) rfl ?_;exact⟨rfl,HC6.out.trans' hc9 (zN (by omega))⟩
theorem pmade_any {src dst:Ad} (hs:okA src) (hd:okA dst) {kind:Int} (hk:0≤kind∧kind≤255) {w:World} {v:Value} {b:By} (h:SlY w 0 v b) (hl:b.length≤1000000) :
  Calls Tryz.prog 188 #[.agg (arrA src),.agg (arrA dst),.int .i64 kind,v] w fun e w'=>RvPost (madeP src dst kind b) w.heap.size e w'∧Chg [] w w':=by
 obtain⟨A,c,rfl⟩:=h.form;have hA:=((Chg.refl [] w).alloc (.cells (arrA src) 24)).alloc (.cells (arrA dst) 24);have hS:Blk ((w.alloc (.cells (arrA src) 24)).alloc (.cells (arrA dst) 24)) w.heap.size 24 (arrA src):=(Blk.new _ _ _).alloc _
 have hDs:Blk ((w.alloc (.cells (arrA src) 24)).alloc (.cells (arrA dst) 24)) (w.heap.size+1) 24 (arrA dst):=Blk.new' (by simp);have HA:=zH hA;have HPV:=zH (fun W (hc:Chg [] w W)=>h.chg0 hc)
 have HX:Hid (madeP src dst kind b=if 1460<b.length then .error 4 else .ok (putH ⟨0,0,b.length,kind,64,src,dst⟩++b)):=zH rfl;generalize madeP src dst kind b=y at *;clear hA h;by_cases hlong:1460<b.length
 ·have hX:=HX.out;rw[if_pos hlong]at hX;replace HX:=zH hX;have hI:(b.length:Int)>1460:=by omega
  clear hX hlong HPV hS hDs;go_enter Tryz.func188,Tryz.ntmps188
  go_wp2_with fail;go_ret2
  exact⟨RvPost.err HX.out,HA.out⟩
 have hX:=HX.out;rw[if_neg hlong]at hX;replace HX:=zH hX;have hI:¬(b.length:Int)>1460:=by omega
 have FP:=zH (fun W=>sput_any (h:=⟨0,0,b.length,kind,64,src,dst⟩) ⟨wf64 (n:=0) (by omega),wf64 (n:=0) (by omega),wf64 (n:=(b.length:Int)) (by omega),wf64 (n:=kind) (by omega),wf64 (n:=64) (by omega),hs,hd⟩ W);have HPL:=zH (putH_le ⟨0,0,b.length,kind,64,src,dst⟩)
 generalize putH ⟨0,0,b.length,kind,64,src,dst⟩=ph at *;clear hX hlong hs hd hk;go_enter Tryz.func188,Tryz.ntmps188
 go_wp2_with (first
  |(refine zl rfl 24 (.tmp 4) rfl hS rfl _ Tryz.underlying24 rfl infAd ?_)
  |(refine zl rfl 24 (.tmp 5) rfl hDs rfl _ Tryz.underlying24 rfl infAd ?_)
  |fail)
 refine Eq.mpr (congrArg (fun z=>Calls Tryz.prog 217 #[.slice none 0 0,.agg z] _ _) (?_:_=arrH ⟨0,0,b.length,kind,64,src,dst⟩)) ?_
 ·kernel_rfl
 refine (FP.out _).mono ?_;rintro e w1 ⟨v1,rfl,ho1,hc1⟩;have HO1:=zH ho1;have HC1:=zH (HA.out.trans hc1);have HS1:=zH (HPV.out w1 HC1.out);have hz1:=hc1.size;have hl1:=zH (own_lt ho1);have hz0:=HA.out.size;clear hc1 ho1 FP HPV hS hDs HA
 generalize (w.alloc (.cells (arrA src) 24)).alloc (.cells (arrA dst) 24)=W2 at *;go_wp2_with (first
  |(at_builtin;refine wpList_app elY rfl (.tmp 19) (.tmp 20) rfl W2.heap.size rfl HO1.out rfl HS1.out (byV_one _) (by have:=HPL.out;unfold maxLen;omega) (by have:=HPL.out;omega) hz1 ?_;intro v2 w2 hown2 hc2 hb2)
  |fail)
 go_ret2
 exact⟨RvPost.ok HX.out (ownsRow_less (OwY.snoc (m:=b) rfl hown2) hz0),HC1.out.trans' hc2 (fun x hx=>by have:=(hl1.out x hx).1;right;omega)⟩
theorem sealT_nums {src dst:Ad} {t:Sg} {p:By} (h:numsT t=true):numsT (sealT src dst t p)=true:=by
 unfold sealT;split
 ·exact h
 ·exact numsT_ck h (by have:=checkC_lt src dst 6 (tcpB {t with ck:=0} p);omega)
theorem ptcp_any {src dst:Ad} (hs:okA src) (hd:okA dst) {t:Sg} (hnum:numsT t=true) (k:okW t) {w:World} {pv:Value} {p:By} (hp:SlY w 0 pv p) (hb:okB p) (hl:p.length≤65515) :
  Calls Tryz.prog 271 #[.agg (arrA src),.agg (arrA dst),.agg (arrTc t noV pv)] w fun e w'=>RvPost (tcpP src dst t p) w.heap.size e w'∧Chg [] w w':=by
 obtain⟨A,c,rfl⟩:=hp.form;have hA:=(((Chg.refl [] w).alloc (.cells (arrA src) 24)).alloc (.cells (arrA dst) 24)).alloc (.cells (arrTc t noV (.slice A p.length c)) 34)
 have hS:Blk (((w.alloc (.cells (arrA src) 24)).alloc (.cells (arrA dst) 24)).alloc (.cells (arrTc t noV (.slice A p.length c)) 34)) w.heap.size 24 (arrA src):=((Blk.new _ _ _).alloc _).alloc _
 have hDs:Blk (((w.alloc (.cells (arrA src) 24)).alloc (.cells (arrA dst) 24)).alloc (.cells (arrTc t noV (.slice A p.length c)) 34)) (w.heap.size+1) 24 (arrA dst):=(Blk.new' (by simp)).alloc _
 have hT:Blk (((w.alloc (.cells (arrA src) 24)).alloc (.cells (arrA dst) 24)).alloc (.cells (arrTc t noV (.slice A p.length c)) 34)) (w.heap.size+1+1) 34 (arrTc t noV (.slice A p.length c)):=Blk.new' (by simp);have HA:=zH hA;have hputv:putT (sealT src dst t p) p=.ok (tcpB (sealT src dst t p) p):=by
  unfold putT;rw[if_neg (by rw[canT_zero (sealT_nums hnum) hl];omega)]
 have HX:Hid (tcpP src dst t p=madeP src dst 6 (tcpB (sealT src dst t p) p)):=zH (by
  rw[tcpP_eq,hputv])
 have FS:=zH (fun W (hc:Chg [] w W)=>ptseal_any hs hd hnum k (hp.chg0 hc) hb hl);have FP:=zH (fun W (hc:Chg [] w W)=>ptput_any (t:=sealT src dst t p) (sealT_nums hnum) (sealT_w k) (hp.chg0 hc) hb hl);have HLN:=zH (tcpB_len (sealT src dst t p) p)
 have FM:=zH (fun W v b (h:SlY W 0 v b) (hl:b.length≤1000000)=>pmade_any hs hd (kind:=6) (by omega) h hl);generalize tcpP src dst t p=x at *;generalize tcpB (sealT src dst t p) p=b at *;clear hA hp hb k hs hd hputv hnum;go_enter Tryz.func271,Tryz.ntmps271
 go_wp2_with (first
  |(refine zl rfl 24 (.tmp 3) rfl hS rfl _ Tryz.underlying24 rfl infAd ?_)
  |(refine zl rfl 24 (.tmp 4) rfl hDs rfl _ Tryz.underlying24 rfl infAd ?_)
  |(refine zl rfl 34 (.tmp 5) rfl hT rfl _ Tryz.underlying34 rfl infTc ?_)
  |fail)
 refine (FS.out _ HA.out).mono ?_;rintro e w1 ⟨rfl,hc1⟩;have hS1:=hS.chg hc1 (by simp);have hD1:=hDs.chg hc1 (by simp);have HC1:=zH (HA.out.trans hc1);clear FS hc1 hS hDs hT HA;go_wp2_with fail;refine (FP.out _ HC1.out).mono ?_;rintro e w2 ⟨⟨v2,rfl,ho2⟩,hc2⟩;have hS2:=hS1.chg hc2 (by simp)
 have hD2:=hD1.chg hc2 (by simp);have HC2:=zH (HC1.out.trans hc2);have HS2:=zH ((OwY.sl ho2).less (Nat.zero_le _));have hz2:=HC2.out.size;clear FP hc2 hS1 hD1 HC1 ho2;go_wp2_with (first
  |(refine zl rfl 24 (.tmp 3) rfl hS2 rfl _ Tryz.underlying24 rfl infAd ?_)
  |(refine zl rfl 24 (.tmp 4) rfl hD2 rfl _ Tryz.underlying24 rfl infAd ?_)
  |fail)
 refine (FM.out _ _ _ HS2.out (by have:=HLN.out;omega)).mono ?_;rintro e w3 ⟨hp3,hc3⟩;rw[←HX.out]at hp3;have HC3:=zH (HC2.out.trans hc3);clear FM HX HS2 hc3 hS2 hD2;cases x with
 |error n=>
  obtain rfl:e=_:=hp3;go_wp2_with fail;go_ret2
  exact⟨RvPost.err rfl,HC3.out⟩
 |ok z=>
  obtain⟨v3,rfl,ho3⟩:=hp3;have HO3:=zH (ownsRow_less (B':=w.heap.size) ho3 hz2);clear ho3;go_wp2_with fail;go_ret2
  exact⟨RvPost.ok rfl HO3.out,HC3.out⟩
end Go.Proofs.YtgbndaiifbogmaaGreat
namespace Go.Proofs.YtgbndaiifbogmaaGreat
open Go.RowKit Go.Maps
theorem own_rowB {w:World} {B g n c:Nat} {L:List Ad} (h:OwD w B (.slice (some ⟨g,0,none⟩) n c) L):n=L.length∧B≤g∧L.length≤c∧c≤maxLen∧RowB encA 16 w g 24 (c*16) L:=by
 obtain⟨hl,h2⟩:=h;rcases h2 with ⟨h0,_⟩ | ⟨g',cap',cur,hv,hg,hh,hn,hcap,hsz,htake⟩
 ·cases h0
 ·cases hv;exact⟨rfl,hg,hn,hcap,cur,hh,hsz,htake⟩
theorem rowB_own {w:World} {B g c:Nat} {L:List Ad} (hg:B≤g) (hn:L.length≤c) (hcap:c≤maxLen) (h:RowB encA 16 w g 24 (c*16) L):OwD w B (.slice (some ⟨g,0,none⟩) L.length c) L:=by
 obtain⟨cur,hh,hsz,htake⟩:=h;exact⟨by rw[flat_len encA_len],.inr ⟨g,c,cur,rfl,hg,hh,hn,hcap,hsz,htake⟩⟩
theorem rev2_any {w:World} {B g c:Nat} {x y:Ad} (h:OwD w B (.slice (some ⟨g,0,none⟩) 2 c) [x,y]) :
  Calls Tryz.prog 326 #[.slice (some ⟨g,0,none⟩) 2 c] w fun e w'=>e=.returned (.tuple #[])∧OwD w' B (.slice (some ⟨g,0,none⟩) 2 c) [y,x]∧Chg [g] w w':=by
 obtain⟨hl,hg,hn,hcap,hR⟩:=own_rowB h;have HN:=zH (And.intro hn hcap);have HR:=zH (hR.chg ((Chg.refl [] w).drew) (by simp));have hsz:([x,y]:List Ad).length*16≤c*16:=by simp at hn ⊢;omega
 have hsz2:([y,y]:List Ad).length*16≤c*16:=by simp at hn ⊢;omega
 have HX:Hid (w.drew.rangeAt g 0 (arrA x).toList):=zH (fun j v hv=>by
  have:=(HR.out.at_ encA_len (i:=0) (x:=x) rfl (j:=j) (v:=v) hv).1;simpa using this)
 have HY:Hid (w.drew.rangeAt g 16 (arrA y).toList):=zH (fun j v hv=>(HR.out.at_ encA_len (i:=1) (x:=y) rfl (j:=j) (v:=v) hv).1);have hD:Chg [g] w w.drew:=(Chg.refl _ w).drew;clear h hR hn hcap hl;go_enter Tryz.func326,Tryz.ntmps326
 go_wp2_with fail;refine wp_loop_rounds 2 ?_;rw[rounds_succ];go_upto_region 3 with fail
 refine wp_region_noPanic ?_;refine wp_region_held_drew (S:=fun W:World=>Chg [g] w W) (by kernel_rfl) hD (fun _=>?_);refine zU 0 rfl (by go_simp<;>with_reducible rfl) ?_
 try simp only[zP]
 refine zU 1 rfl (by go_simp<;>with_reducible rfl) ?_
 try simp only[zP]
 refine zU 2 rfl (by go_simp<;>with_reducible rfl) ?_
 try simp only[zP]
 refine zU 3 rfl (by go_simp<;>with_reducible rfl) ?_
 try simp only[zP]
 refine zU 4 rfl (by go_simp<;>with_reducible rfl) ?_
 try simp only[zP]
 refine zU 5 rfl (by go_simp<;>with_reducible rfl) ?_
 try simp only[zP]
 refine zU 6 rfl (by go_simp<;>with_reducible rfl) ?_
 try simp only[zP]
 refine zU 8 rfl (by go_simp<;>with_reducible rfl) ?_
 try simp only[zP]
 refine zU 9 rfl (by go_simp<;>with_reducible rfl) ?_
 try simp only[zP]
 refine zU 10 rfl (by go_simp<;>with_reducible rfl) ?_
 try simp only[zP]
 refine wpAnyH_ready (rs:=[7,11]) (by kernel_rfl) (by simp) (AllReadyH.cons rfl (fun K hK=>?_) (AllReadyH.cons rfl (fun K hK=>?_) AllReadyH.nil))
 ·refine Fs.step_load_row rfl 24 (.tmp 20) rfl g 16 rfl (arrA y) _ HY.out Tryz.underlying24 rfl infAd ?_;refine zB hK ?_;clear hK K
  try simp only[zP]
  refine zR 11 rfl (fun K hK=>?_);refine Fs.step_load_row rfl 24 (.tmp 24) rfl g 0 rfl (arrA x) _ HX.out Tryz.underlying24 rfl infAd ?_;refine zB hK ?_;clear hK K
  try simp only[zP]
  refine zU 12 rfl (by go_simp<;>with_reducible rfl) ?_
  try simp only[zP]
  refine zR 13 rfl (fun K hK=>?_);refine Fs.step_store_row encA_len rfl 24 (.tmp 26) (.tmp 21) rfl HR.out (i:=0) (by simp) hsz y rfl rfl (infAd (A:=x)) (fun v hv=>encA_one y v hv) ?_;intro wa hRa hca;have hCa:(fun W:World=>Chg [g] w W) wa:=hD.trans hca;refine zB hK ?_;clear hK K
  try simp only[zP]
  refine zU 14 rfl (by go_simp<;>with_reducible rfl) ?_
  try simp only[zP]
  refine zR 15 rfl (fun K hK=>?_);refine Fs.step_store_row encA_len rfl 24 (.tmp 27) (.tmp 25) rfl hRa (i:=1) (by simp) hsz2 x rfl rfl (infAd (A:=x)) (fun v hv=>encA_one x v hv) ?_;intro wb hRb hcb;have hCb:(fun W:World=>Chg [g] w W) wb:=Chg.trans hCa hcb;refine zB hK ?_;clear hK K
  try simp only[zP]
  refine wpAnyH_done (by kernel_rfl) ?_ _;refine NoPanic.normal ?_;have HF:Hid (OwD wb B (.slice (some ⟨g,0,none⟩) 2 c) [y,x]):=zH (rowB_own hg HN.out.1 HN.out.2 hRb);have HC:=zH hCb;clear hRa hca hCa hRb hcb hCb hD HX HY HR;go_wp2_with fail;rw[rounds_succ];go_wp2_with fail;go_end0
  exact⟨rfl,HF.out,HC.out⟩
 ·refine Fs.step_load_row rfl 24 (.tmp 24) rfl g 0 rfl (arrA x) _ HX.out Tryz.underlying24 rfl infAd ?_;refine zB hK ?_;clear hK K
  try simp only[zP]
  refine zR 7 rfl (fun K hK=>?_);refine Fs.step_load_row rfl 24 (.tmp 20) rfl g 16 rfl (arrA y) _ HY.out Tryz.underlying24 rfl infAd ?_;refine zB hK ?_;clear hK K
  try simp only[zP]
  refine zU 12 rfl (by go_simp<;>with_reducible rfl) ?_
  try simp only[zP]
  refine zR 13 rfl (fun K hK=>?_);refine Fs.step_store_row encA_len rfl 24 (.tmp 26) (.tmp 21) rfl HR.out (i:=0) (by simp) hsz y rfl rfl (infAd (A:=x)) (fun v hv=>encA_one y v hv) ?_;intro wa hRa hca;have hCa:(fun W:World=>Chg [g] w W) wa:=hD.trans hca;refine zB hK ?_;clear hK K
  try simp only[zP]
  refine zU 14 rfl (by go_simp<;>with_reducible rfl) ?_
  try simp only[zP]
  refine zR 15 rfl (fun K hK=>?_);refine Fs.step_store_row encA_len rfl 24 (.tmp 27) (.tmp 25) rfl hRa (i:=1) (by simp) hsz2 x rfl rfl (infAd (A:=x)) (fun v hv=>encA_one x v hv) ?_;intro wb hRb hcb;have hCb:(fun W:World=>Chg [g] w W) wb:=Chg.trans hCa hcb;refine zB hK ?_;clear hK K
  try simp only[zP]
  refine wpAnyH_done (by kernel_rfl) ?_ _;refine NoPanic.normal ?_;have HF:Hid (OwD wb B (.slice (some ⟨g,0,none⟩) 2 c) [y,x]):=zH (rowB_own hg HN.out.1 HN.out.2 hRb);have HC:=zH hCb;clear hRa hca hCa hRb hcb hCb hD HX HY HR;go_wp2_with fail;rw[rounds_succ];go_wp2_with fail;go_end0
  exact⟨rfl,HF.out,HC.out⟩
end Go.Proofs.YtgbndaiifbogmaaGreat

/-
  Small laws and walks on the way to LearnReads: Ro8, Rk11, Ro9. Conditions: each theorem names its own.
-/
import Derived.Test.YtgbndaiifbogmaaGreatY21
import Derived.Test.YtgbndaiifbogmaaGreatY26
import Derived.Test.YtgbndaiifbogmaaGreatY05
import Derived.Test.YtgbndaiifbogmaaGreatY11
set_option linter.unusedVariables false
set_option linter.unusedSimpArgs false
set_option maxRecDepth 100000
set_option maxHeartbeats 8000000
namespace Go.Proofs.YtgbndaiifbogmaaGreat
open Go.RowKit Go.Maps
theorem canT_nums {t:Sg} {n:Nat} (h:canT t n=0):numsT t=true∧n≤65515:=by
 unfold canT at h;by_cases hn:numsT t=false
 ·rw[if_pos hn]at h;omega
 ·rw[if_neg hn]at h;by_cases hl:65515<n
  ·rw[if_pos hl]at h;omega
  ·exact⟨by simpa using hn,by omega⟩
structure okW (t:Sg):Prop where
 seq:0≤t.seq∧t.seq≤4294967295
 ack:0≤t.ack∧t.ack≤4294967295
theorem rputT_any {t:Sg} (k:okW t) {w:World} {pv:Value} {p:By} (hp:SlY w 0 pv p) (hl:p.length≤1000000) :
  Calls Tryz.prog 64 #[.agg (arrTc t noV pv)] w fun e w'=>RvPost (putT t p) w.heap.size e w'∧Chg [] w w':=by
 obtain⟨A,c,rfl⟩:=hp.form;have hB:Blk (w.alloc (.cells (arrTc t noV (.slice A p.length c)) 34)) w.heap.size 34 (arrTc t noV (.slice A p.length c)):=Blk.new _ _ _;have HA:=zH ((Chg.refl [] w).alloc (.cells (arrTc t noV (.slice A p.length c)) 34));have FC:=zH (fun W=>rcanT_any t A p.length c hl W)
 have FO:=zH oput0_any;have HX:Hid (putT t p=if canT t p.length≠0 then .error (canT t p.length) else .ok (tcpB t p)):=zH rfl;have HPV:=zH (fun W (hc:Chg [] w W)=>hp.chg0 hc);generalize putT t p=x at *;clear hp;by_cases hcan:canT t p.length=0
 case neg=>
  have hX:=HX.out;rw[if_pos hcan]at hX;have HE:=zH hX;generalize canT t p.length=n at *;have hn:(n !=0)=true:=by simpa using hcan
  clear hX HX HPV hcan FO k;go_enter Tryz.func64,Tryz.ntmps64
  go_wp2_with (first
   |(refine zl rfl 34 (.tmp 1) rfl hB rfl _ Tryz.underlying34 rfl infTc ?_)
   |fail)
  refine (FC.out _).mono ?_;rintro e w1 ⟨rfl,hc1⟩;go_wp2_with fail;go_ret2
  exact⟨RvPost.err HE.out,HA.out.trans hc1⟩
 have hX:=HX.out;rw[if_neg (by simpa using hcan)]at hX;obtain⟨hnum,hpl⟩:=canT_nums hcan;obtain⟨⟨a1,a2⟩,⟨b1,b2⟩,⟨d1,d2⟩,⟨e1,e2⟩,⟨f1,f2⟩,g1,g2⟩:=numsT.at hnum;rw[hcan]at FC;obtain⟨⟨s1,s2⟩,r1,r2⟩:=k;obtain⟨sport,dport,seq,ack,flags,window,ck,urgent⟩:=t
 simp only at a1 a2 b1 b2 d1 d2 e1 e2 f1 f2 g1 g2 s1 s2 r1 r2;obtain⟨sport,rfl⟩:∃x:Nat,sport=(x:Int):=⟨sport.toNat,by omega⟩;obtain⟨dport,rfl⟩:∃x:Nat,dport=(x:Int):=⟨dport.toNat,by omega⟩;obtain⟨seq,rfl⟩:∃x:Nat,seq=(x:Int):=⟨seq.toNat,by omega⟩
 obtain⟨ack,rfl⟩:∃x:Nat,ack=(x:Int):=⟨ack.toNat,by omega⟩;obtain⟨window,rfl⟩:∃x:Nat,window=(x:Int):=⟨window.toNat,by omega⟩;obtain⟨ck,rfl⟩:∃x:Nat,ck=(x:Int):=⟨ck.toNat,by omega⟩;obtain⟨urgent,rfl⟩:∃x:Nat,urgent=(x:Int):=⟨urgent.toNat,by omega⟩;have HE:=zH hX
 have HTB:Hid (tcpB ⟨(sport:Int),(dport:Int),(seq:Int),(ack:Int),flags,(window:Int),(ck:Int),(urgent:Int)⟩ p=twoS sport++twoS dport++fourS seq++fourS ack ++ [80,loB flags]++twoS window++twoS ck++twoS urgent++p):=zH (by
  unfold tcpB;simp only[Int.toNat_natCast];rw[twoS_B (n:=sport) (by omega),twoS_B (n:=dport) (by omega),twoS_B (n:=window) (by omega),twoS_B (n:=ck) (by omega),twoS_B (n:=urgent) (by omega)])
 have Fsport:=zH (fun W=>two01_any sport (by omega) W);have Fdport:=zH (fun W=>two01_any dport (by omega) W);have Fseq:=zH (fun W=>four01_any seq (by omega) W);have Fack:=zH (fun W=>four01_any ack (by omega) W);have Fwindow:=zH (fun W=>two01_any window (by omega) W)
 have Fck:=zH (fun W=>two01_any ck (by omega) W);have Furgent:=zH (fun W=>two01_any urgent (by omega) W);have HLF:=zH (loB_eq flags);clear hX HX a1 a2 b1 b2 d1 d2 e1 e2 f1 f2 g1 g2 s1 s2 r1 r2 hcan hnum
 generalize tcpB ⟨(sport:Int),(dport:Int),(seq:Int),(ack:Int),flags,(window:Int),(ck:Int),(urgent:Int)⟩ p=tb at *;go_enter Tryz.func64,Tryz.ntmps64
 go_wp2_with (first
  |(refine zl rfl 34 (.tmp 1) rfl hB rfl _ Tryz.underlying34 rfl infTc ?_)
  |fail)
 refine (FC.out _).mono ?_;rintro e w1 ⟨rfl,hc1⟩;have hB1:=hB.chg hc1 (by simp);have HC1:=zH (HA.out.trans hc1);have c8:w1.cell? ⟨w.heap.size,8,none⟩=some noV:=hB1.cell 8;clear FC hB hc1 HA;go_wp2_with fail;refine (FO.out _).mono ?_;rintro e wz ⟨rfl,hcz⟩;have HBz:=zH (hB1.chg hcz (by simp))
 have HCz:=zH (HC1.out.trans hcz);have hlt:=HBz.out.lt;clear FO hB1 hcz HC1 c8;go_upto_region 5 with fail
 have S0:Hid (∀W,Chg [] wz W→W.cell? ⟨w.heap.size,0,none⟩=some (.int .i64 sport)):=zH (fun W hc=>(HBz.out.chg hc (by simp)).cell 0);have S1:Hid (∀W,Chg [] wz W→W.cell? ⟨w.heap.size,1,none⟩=some (.int .i64 dport)):=zH (fun W hc=>(HBz.out.chg hc (by simp)).cell 1)
 have hD:Chg [] wz wz.drew:=(Chg.refl [] wz).drew;refine wp_region_noPanic ?_;refine wp_region_held_drew (S:=fun W:World=>Chg [] wz W) (by kernel_rfl) hD (fun _=>?_);refine zU 0 rfl (by go_simp<;>with_reducible rfl) ?_
 try simp only[zP]
 refine zT 1 rfl (zc (by rfl) 3 (.tmp 19) rfl w.heap.size 0 rfl (.int .i64 sport) _ S0.out Tryz.underlying3 rfl) ?_
 try simp only[zP]
 refine zU 3 rfl (by go_simp<;>with_reducible rfl) ?_
 try simp only[zP]
 refine zT 4 rfl (zc (by rfl) 3 (.tmp 22) rfl w.heap.size 1 rfl (.int .i64 dport) _ S1.out Tryz.underlying3 rfl) ?_
 try simp only[zP]
 refine zR 2 rfl (fun K hK=>?_);go_simp
 refine (Fsport.out _).mono ?_;rintro e wa ⟨va,rfl,hoa,hca⟩;have hCa:(fun W:World=>Chg [] wz W) wa:=hD.trans hca;have hza:=hca.size;clear hca;refine zB hK ?_;clear hK K
 try simp only[zP]
 refine zR 5 rfl (fun K hK=>?_);go_simp
 refine (Fdport.out _).mono ?_;rintro e wb ⟨vb,rfl,hob,hcb⟩;have hCb:(fun W:World=>Chg [] wz W) wb:=Chg.trans hCa hcb;have hOa:=own_chg hoa hcb (by simp);have hSb:=OwY.sl (B:=wa.heap.size) hob;have hzz:wz.drew.heap.size≤wb.heap.size:=Nat.le_trans hza hcb.size;clear hcb hoa hob;refine zB hK ?_
 clear hK K
 try simp only[zP]
 refine zR 6 rfl (fun K hK=>?_);refine step_app elY rfl (.tmp 21) (.tmp 24) rfl wz.drew.heap.size rfl hOa rfl hSb (byV_one _) (by simp[maxLen,twoS]) (by simp[twoS]) hzz ?_;intro v0 w0 hown0 hc0 hb0;have hC0:(fun W:World=>Chg [] wz W) w0:=Chg.trans' hCb hc0 (fun x hx=>.inr (own_lt hOa x hx).1)
 refine zB hK ?_;clear hK K
 try simp only[zP]
 refine zU 7 rfl (by go_simp<;>with_reducible rfl) ?_
 try simp only[zP]
 refine wpAnyH_done (by kernel_rfl) ?_ _;refine NoPanic.normal ?_;have HO0:Hid (OwY w0 wz.heap.size v0 (twoS sport++twoS dport)):=zH (OwY.snoc (m:=twoS dport) rfl hown0);have HB0:=zH (HBz.out.chg hC0 (by simp));have HD0:=zH hC0;clear hown0 hc0 hb0 hC0 hCb hCa hOa hSb hzz hD S0 S1 Fsport Fdport HBz
 have d1:w0.cell? ⟨w.heap.size,2,none⟩=some (.int .u32 seq):=HB0.out.cell 2;go_wp2_with fail;refine (Fseq.out _).mono ?_;rintro e wa1 ⟨va1,rfl,hoa1,hca1⟩;have HOa1:=zH (own_chg HO0.out hca1 (by simp));have HTa1:=zH (OwY.sl (B:=w0.heap.size) hoa1);have HBa1:=zH (HB0.out.chg hca1 (by simp))
 have HDa1:=zH (HD0.out.trans hca1);have hza1:=HDa1.out.size;have hla1:=zH (own_lt HOa1.out);clear Fseq hoa1 hca1 HO0 HB0 HD0 d1;go_upto_region 7 with (first
  |(at_builtin;refine wpList_app elY rfl (.tmp 26) (.tmp 29) rfl wz.heap.size rfl HOa1.out rfl HTa1.out (byV_one _) (by simp[maxLen,twoS,fourS]) (by simp[twoS,fourS]) hza1 ?_;intro vb1 wb1 hownb1 hcb1 hbb1)
  |fail)
 have HBb1:=zH (HBa1.out.chg hcb1 (fun hm=>by have:=(hla1.out _ hm).1;omega));have HDb1:=zH (HDa1.out.trans' hcb1 (fun x hx=>.inr (hla1.out x hx).1));have HOb1:=zH (OwY.snoc (m:=fourS seq) rfl hownb1);clear HOa1 HTa1 HBa1 HDa1 hla1 hza1 hownb1 hcb1 hbb1
 have d2:wb1.cell? ⟨w.heap.size,3,none⟩=some (.int .u32 ack):=HBb1.out.cell 3;go_wp2_with fail;refine (Fack.out _).mono ?_;rintro e wa2 ⟨va2,rfl,hoa2,hca2⟩;have HOa2:=zH (own_chg HOb1.out hca2 (by simp));have HTa2:=zH (OwY.sl (B:=wb1.heap.size) hoa2);have HBa2:=zH (HBb1.out.chg hca2 (by simp))
 have HDa2:=zH (HDb1.out.trans hca2);have hza2:=HDa2.out.size;have hla2:=zH (own_lt HOa2.out);clear Fack hoa2 hca2 HOb1 HBb1 HDb1 d2;go_upto_region 8 with (first
  |(at_builtin;refine wpList_app elY rfl (.tmp 31) (.tmp 34) rfl wz.heap.size rfl HOa2.out rfl HTa2.out (byV_one _) (by simp[maxLen,twoS,fourS]) (by simp[twoS,fourS]) hza2 ?_;intro vb2 wb2 hownb2 hcb2 hbb2)
  |fail)
 have HBb2:=zH (HBa2.out.chg hcb2 (fun hm=>by have:=(hla2.out _ hm).1;omega));have HDb2:=zH (HDa2.out.trans' hcb2 (fun x hx=>.inr (hla2.out x hx).1));have HOb2:=zH (OwY.snoc (m:=fourS ack) rfl hownb2);clear HOa2 HTa2 HBa2 HDa2 hla2 hza2 hownb2 hcb2 hbb2
 have d8:wb2.cell? ⟨w.heap.size,4,none⟩=some (.int .i64 flags):=HBb2.out.cell 4;have hlf:=HLF.out;have hAl:=(Chg.refl [] wb2).alloc (.cells #[byV 80,byV (loB flags)] 5);have HBl:=zH (HBb2.out.chg hAl (by simp));have HOl:=zH (own_chg HOb2.out hAl (by simp))
 have HTl:Hid (Sl (wb2.alloc (.cells #[byV 80,byV (loB flags)] 5)) 0 1 (.slice (some ⟨wb2.heap.size,0,none⟩) 2 2) 2 ([80,loB flags].map byV)):=
  zH (Sl.of_own (own_lit (base:=0) wb2 5 1 2 #[byV 80,byV (loB flags)] (Nat.zero_le _) (by simp[maxLen]) rfl))
 have HDl:=zH (HDb2.out.trans hAl);have hzl:=HDl.out.size;have hll:=zH (own_lt HOl.out);clear hAl HBb2 HOb2 HDb2 HLF;go_upto_region 9 with (first
  |(at_builtin;refine wpList_app elY rfl (.tmp 36) (.tmp 46) rfl wz.heap.size rfl HOl.out rfl HTl.out (byV_one _) (by simp[maxLen,twoS,fourS]) (by simp[twoS,fourS]) hzl ?_;intro vm wm hownm hcm hbm)
  |fail)
 have HBm:=zH (HBl.out.chg hcm (fun hm=>by have:=(hll.out _ hm).1;omega));have HDm:=zH (HDl.out.trans' hcm (fun x hx=>.inr (hll.out x hx).1));have HOm:=zH (OwY.snoc (m:=[80,loB flags]) rfl hownm);clear HOl HTl HBl HDl hll hzl hownm hcm hbm d8 hlf
 have d3:wm.cell? ⟨w.heap.size,5,none⟩=some (.int .i64 window):=HBm.out.cell 5;go_wp2_with fail;refine (Fwindow.out _).mono ?_;rintro e wa3 ⟨va3,rfl,hoa3,hca3⟩;have HOa3:=zH (own_chg HOm.out hca3 (by simp));have HTa3:=zH (OwY.sl (B:=wm.heap.size) hoa3);have HBa3:=zH (HBm.out.chg hca3 (by simp))
 have HDa3:=zH (HDm.out.trans hca3);have hza3:=HDa3.out.size;have hla3:=zH (own_lt HOa3.out);clear Fwindow hoa3 hca3 HOm HBm HDm d3;go_upto_region 10 with (first
  |(at_builtin;refine wpList_app elY rfl (.tmp 48) (.tmp 51) rfl wz.heap.size rfl HOa3.out rfl HTa3.out (byV_one _) (by simp[maxLen,twoS,fourS]) (by simp[twoS,fourS]) hza3 ?_;intro vb3 wb3 hownb3 hcb3 hbb3)
  |fail)
 have HBb3:=zH (HBa3.out.chg hcb3 (fun hm=>by have:=(hla3.out _ hm).1;omega));have HDb3:=zH (HDa3.out.trans' hcb3 (fun x hx=>.inr (hla3.out x hx).1));have HOb3:=zH (OwY.snoc (m:=twoS window) rfl hownb3);clear HOa3 HTa3 HBa3 HDa3 hla3 hza3 hownb3 hcb3 hbb3
 have d4:wb3.cell? ⟨w.heap.size,6,none⟩=some (.int .i64 ck):=HBb3.out.cell 6;go_wp2_with fail;refine (Fck.out _).mono ?_;rintro e wa4 ⟨va4,rfl,hoa4,hca4⟩;have HOa4:=zH (own_chg HOb3.out hca4 (by simp));have HTa4:=zH (OwY.sl (B:=wb3.heap.size) hoa4);have HBa4:=zH (HBb3.out.chg hca4 (by simp))
 have HDa4:=zH (HDb3.out.trans hca4);have hza4:=HDa4.out.size;have hla4:=zH (own_lt HOa4.out);clear Fck hoa4 hca4 HOb3 HBb3 HDb3 d4;go_upto_region 11 with (first
  |(at_builtin;refine wpList_app elY rfl (.tmp 53) (.tmp 56) rfl wz.heap.size rfl HOa4.out rfl HTa4.out (byV_one _) (by simp[maxLen,twoS,fourS]) (by simp[twoS,fourS]) hza4 ?_;intro vb4 wb4 hownb4 hcb4 hbb4)
  |fail)
 have HBb4:=zH (HBa4.out.chg hcb4 (fun hm=>by have:=(hla4.out _ hm).1;omega));have HDb4:=zH (HDa4.out.trans' hcb4 (fun x hx=>.inr (hla4.out x hx).1));have HOb4:=zH (OwY.snoc (m:=twoS ck) rfl hownb4);clear HOa4 HTa4 HBa4 HDa4 hla4 hza4 hownb4 hcb4 hbb4
 have d5:wb4.cell? ⟨w.heap.size,7,none⟩=some (.int .i64 urgent):=HBb4.out.cell 7;go_wp2_with fail;refine (Furgent.out _).mono ?_;rintro e wa5 ⟨va5,rfl,hoa5,hca5⟩;have HOa5:=zH (own_chg HOb4.out hca5 (by simp));have HTa5:=zH (OwY.sl (B:=wb4.heap.size) hoa5);have HBa5:=zH (HBb4.out.chg hca5 (by simp))
 have HDa5:=zH (HDb4.out.trans hca5);have hza5:=HDa5.out.size;have hla5:=zH (own_lt HOa5.out);clear Furgent hoa5 hca5 HOb4 HBb4 HDb4 d5;go_upto_region 12 with (first
  |(at_builtin;refine wpList_app elY rfl (.tmp 58) (.tmp 61) rfl wz.heap.size rfl HOa5.out rfl HTa5.out (byV_one _) (by simp[maxLen,twoS,fourS]) (by simp[twoS,fourS]) hza5 ?_;intro vb5 wb5 hownb5 hcb5 hbb5)
  |fail)
 have HBb5:=zH (HBa5.out.chg hcb5 (fun hm=>by have:=(hla5.out _ hm).1;omega));have HDb5:=zH (HDa5.out.trans' hcb5 (fun x hx=>.inr (hla5.out x hx).1));have HOb5:=zH (OwY.snoc (m:=twoS urgent) rfl hownb5);clear HOa5 HTa5 HBa5 HDa5 hla5 hza5 hownb5 hcb5 hbb5
 have HT6:Hid (Sl wb5 0 1 (.slice none 0 0) 0 (([]:By).map byV)):=zH (SlY.nil wb5 0);have hz6:=HDb5.out.size;have hl6:=zH (own_lt HOb5.out);go_upto_region 13 with (first
  |(at_builtin;refine wpList_app elY rfl (.tmp 63) (.tmp 64) rfl wz.heap.size rfl HOb5.out rfl HT6.out (byV_one _) (by simp[maxLen,twoS,fourS]) (by simp[twoS,fourS]) hz6 ?_;intro vn wn hownn hcn hbn)
  |fail)
 have HBn:=zH (HBb5.out.chg hcn (fun hm=>by have:=(hl6.out _ hm).1;omega));have HDn:=zH (HDb5.out.trans' hcn (fun x hx=>.inr (hl6.out x hx).1));have HOn:Hid (OwY wn wz.heap.size vn (twoS sport++twoS dport++fourS seq++fourS ack ++ [80,loB flags]++twoS window++twoS ck++twoS urgent)):=zH (by
  have:=OwY.snoc (m:=([]:By)) rfl hownn
  rwa [List.append_nil]at this)
 have HSn:=zH (HPV.out wn (HCz.out.trans HDn.out));have d9:wn.cell? ⟨w.heap.size,9,none⟩=some (.slice A p.length c):=HBn.out.cell 9;have hzn:=HDn.out.size;have hln:=zH (own_lt HOn.out);clear HOb5 HBb5 HDb5 HT6 hz6 hl6 hownn hcn hbn;go_wp2_with (first
  |(at_builtin;refine wpList_app elY rfl (.tmp 66) (.tmp 68) rfl wz.heap.size rfl HOn.out rfl HSn.out (byV_one _) (by simp[maxLen,twoS,fourS];omega) (by simp[twoS,fourS];omega) hzn ?_;intro vq wq hownq hcq hbq)
  |fail)
 go_ret2
 have ho:=OwY.snoc (m:=p) rfl hownq;rw[←HTB.out]at ho;exact⟨RvPost.ok HE.out (ownsRow_less ho (by have:=HCz.out.size;omega)),HCz.out.trans (HDn.out.trans' hcq (fun x hx=>.inr (hln.out x hx).1))⟩
end Go.Proofs.YtgbndaiifbogmaaGreat
namespace Go.Proofs.YtgbndaiifbogmaaGreat
open Go.RowKit Go.Maps
theorem radvance_big {w:World} {v:Value} {l:By} (h:SlY w 0 v l) (hb:okB l) (hl:l.length≤9223372036854775807) :
  Calls Tryz.prog 58 #[v] w fun e w'=>RvPost (advS l) w.heap.size e w'∧Chg [] w w':=by
 obtain⟨A,c,rfl⟩:=h.form;have FR:=zH (rheader_big h hb hl)
 have HX:Hid (advS l=match routedS l with | .error e=>.error e | .ok (h,s,_)=>if s.left≤0 then .error 10 else if h.hop≤1 then .error 13 else .ok ((joinS {h with hop:=h.hop-1,dst:=s.segs.getD (s.left.toNat-1) ad0} (l.drop 40)).set 43 (gB l 43-1))):=zH rfl
 have HF:=zH (fun h s n (k:routedS l=.ok (h,s,n))=>routedS_fine k hb);have HLF:=zH (fun h s n (k:routedS l=.ok (h,s,n))=>routedS_left k);have HE:=zH (fun n (k:routedS l=.error n)=>routedS_err k);have HHD:=zH (fun h s n (k:routedS l=.ok (h,s,n))=>routedS_head k)
 have FH:=zH (fun W (hc:Chg [] w W)=>rhead_big (h.chg0 hc) hb hl);have HS:=zH (fun W (hc:Chg [] w W)=>h.chg0 hc);have HOK:=zH hb;generalize advS l=x at *;generalize routedS l=y at *;clear h hb;go_enter Tryz.func58,Tryz.ntmps58
 go_wp2_with fail;refine FR.out.mono ?_;rintro e w1 ⟨hp,hc1⟩;have hB1:Blk (w1.alloc (.cells arrS0 30)) w1.heap.size 30 arrS0:=Blk.new _ _ _;have hz1:=hc1.size;have HC1:=zH hc1;have HD1:=zH ((Chg.refl [w1.heap.size] w1).alloc (.cells arrS0 30));clear FR hc1;cases y with
 |error n=>
  obtain rfl:e=_:=hp;have hn:=HE.out n rfl;have hX:=zH HX.out;simp only at hX;have hI:(n !=0)=true:=by simpa using hn
  clear HX HE HF HHD FH HS HOK hn HLF;go_wp2_with (first
   |(refine zs (vs:=arrS0) rfl 30 (.tmp 4) (.tmp 13) rfl rfl hB1 rfl rfl rfl infS0 rfl ?_;intro wc hBc hcc)
   |fail)
  go_ret2
  exact⟨RvPost.err hX.out,HC1.out.trans' (HD1.out.trans hcc) (zN (by omega))⟩
 |ok r=>
  obtain⟨h,s,n⟩:=r;obtain⟨sv,A5,m5,c5,rfl,hsd⟩:=hp;have hf:=HF.out h s n rfl;have hl:l.length≤1000000:=by have h1:=(canH.at hf.can).2.2.1;have h2:=hf.hl;omega
  have hhd:=HHD.out h s n rfl;rw[hhd]at FH;unfold headV at FH;simp only at FH;obtain⟨A6,c6,rfl⟩:=Sl.form hsd;obtain⟨i0,hli,hi0⟩:=hf.fine.left;have hsi:s.segs[i0-1]?=some (s.segs.getD (i0-1) ad0):=by
   rw[List.getD_eq_getElem?_getD,List.getElem?_eq_getElem (show i0-1<s.segs.length by omega)];rfl
  have hokx:=hf.ok _ (List.mem_of_getElem? hsi);have hsl:0<s.segs.length:=by omega
  have HSEG:=zH (fun g7 (hg7:w1.heap.size≤g7) W (hc:Chg [w1.heap.size,g7] w1 W)=>(SlD.rec (Sl.new hsd hc (by intro x hx;simp at hx;omega)) hsi).2);have hn40:=hf.len;have h43:Hid (gB l 43=i0):=zH (by have:=HLF.out h s n rfl;omega);have hlt0:i0≤255:=by have:=gB_lt HOK.out 43;rw[h43.out]at this;omega
  have HIX:=HX.out;simp only at HIX;rw[hli,Int.toNat_natCast]at HIX;have HX9:=zH HIX;have HCAN:=zH (And.intro (canH.at hf.can) hf.hl);have hop1:0≤h.hop∧h.hop≤255:=(canH.at hf.can).2.2.2.2;have HWF:=zH hf.wf;clear HIX;generalize s.segs.getD (i0-1) ad0=x0 at *;have HLI:Hid (s.left=(i0:Int)):=zH hli
  clear HX HF HHD hf hsi hsd HE hhd HLF hli;generalize s.segs.length=sn at *;go_wp2_with (first
   |(refine zs (vs:=arrSr s (.slice A6 sn c6) (.slice A5 m5 c5)) rfl 30 (.tmp 4) (.tmp 13) rfl rfl hB1 rfl rfl rfl infSr rfl ?_;intro wc hBc hcc)
   |fail)
  have hdc:=HD1.out.trans hcc;have HCc:=zH (HC1.out.trans' hdc (zN (by omega)));refine (FH.out wc HCc.out).mono ?_;rintro e wd ⟨rfl,hcd⟩;have hBd:=(hBc.chg hcd (by simp)).alloc (.cells arrH0 26);have hBh:Blk (wd.alloc (.cells arrH0 26)) wd.heap.size 26 arrH0:=Blk.new _ _ _
  have hlt:w1.heap.size<wd.heap.size:=(hBc.chg hcd (by simp)).lt;have HDd:=zH ((hdc.trans (hcd.more (by simp))).alloc (.cells arrH0 26));clear FH hcd hcc hdc HCc hBc hB1 HD1;obtain⟨g7,hg7⟩:∃g,g=wd.heap.size:=⟨_,rfl⟩;go_upto_region 5 with (first
   |(refine zs (vs:=arrH h) rfl 26 (.tmp 7) (.tmp 22) rfl rfl hBh rfl rfl rfl infH rfl ?_;intro we hBe hce)
   |fail)
  rw[←hg7]at hBe hce hlt;rw[←hg7];have hS3:=hBd.chg hce (by simp;omega);have HD3:Hid (Chg [w1.heap.size,g7] w1 we):=zH ((HDd.out.more (by simp)).trans (hce.more (by simp)));have HCe:=zH (HC1.out.trans' HD3.out (by intro x hx;simp at hx;right;omega));clear hBd hBh HDd hce hg7
  have q1:we.cell? ⟨w1.heap.size,1,none⟩=some (.int .i64 (i0:Int)):=by have:=hS3.cell 1;rw[show ((arrSr s (.slice A6 sn c6) (.slice A5 m5 c5))[1]?)=some (.int .i64 s.left) from rfl,HLI.out]at this;exact this
  have q4:we.cell? ⟨g7,4,none⟩=some (.int .i64 h.hop):=hBe.cell 4;by_cases hz:i0=0
  ·subst hz;have hX:=HX9.out;rw[if_pos (by omega)]at hX;replace hX:=zH hX;clear HX9 hS3 HSEG hBe;go_wp2_with fail;go_ret2
   exact⟨RvPost.err hX.out,HCe.out⟩
  have hX:=HX9.out;rw[if_neg (by omega)]at hX;replace HX9:=zH hX;have hI:(((i0:Nat):Int)==0)=false:=by rw[beq_eq_false_iff_ne];omega
  clear hX;by_cases hh:h.hop≤1
  ·have hX:=HX9.out;rw[if_pos hh]at hX;replace hX:=zH hX;have hI2:h.hop<2:=by omega
   clear HX9 hS3 HSEG hh hz hBe;go_wp2_with fail;go_ret2
   exact⟨RvPost.err hX.out,HCe.out⟩
  have hX:=HX9.out;rw[if_neg hh]at hX;replace HX9:=zH hX;have hI2:¬h.hop<2:=by omega
  have hwh:IntKind.i64.wrap (h.hop-1)=h.hop-1:=by rw[IntKind.wrap_i64];omega
  have hwi:IntKind.i64.wrap ((i0:Int)-1)=((i0-1:Nat):Int):=by rw[IntKind.wrap_i64];omega
  have hI1:((i0-1:Nat):Int)<(sn:Int):=by omega
  clear hX;go_upto_region 9 with fail
  obtain⟨b,o,rfl,_⟩:=HSEG.out g7 (by omega) we HD3.out;have HSG:=zH (fun W (hc:Chg [w1.heap.size,g7] w1 W)=>by
   obtain⟨b',o',e',hr⟩:=HSEG.out g7 (by omega) W hc;simp only[Option.some.injEq,Addr.mk.injEq,and_true]at e';obtain⟨rfl,rfl⟩:=e';exact hr)
  have S1:Hid (∀W,Chg [g7] we W→W.cell? ⟨w1.heap.size,1,none⟩=some (.int .i64 (i0:Int))):=zH (fun W hc=>hc.cell q1 (by simp;omega));have S4:=zH (fun W (hc:Chg [g7] we W)=>(hS3.chg hc (by simp;omega)).cell 4);have R5:=zH (fun W (hc:Chg [g7] we W)=>HSG.out W (HD3.out.trans (hc.more (by simp))))
  have S1F:Hid (∀W,Chg [] we W→W.cell? ⟨w1.heap.size,1,none⟩=some (.int .i64 (i0:Int))):=zH (fun W hc=>S1.out W (hc.more (by simp)));have hD:Chg [g7] we we.drew:=(Chg.refl _ we).drew;have HB3:=zH hBe;clear HSEG HSG hS3 hBe;refine wp_region_noPanic ?_
  refine wp_region_held_drew (S:=fun W:World=>Chg [g7] we W) (by kernel_rfl) hD (fun _=>?_);refine zU 0 rfl (by go_simp<;>with_reducible rfl) ?_
  try simp only[zP]
  refine zU 3 rfl (by go_simp<;>with_reducible rfl) ?_
  try simp only[zP]
  refine zT 4 rfl (zc (by rfl) 27 (.tmp 33) rfl w1.heap.size 4 rfl (.slice (some ⟨b,o,none⟩) sn c6) _ S4.out Tryz.underlying27 rfl) ?_
  try simp only[zP]
  refine zU 5 rfl (by go_simp<;>with_reducible rfl) ?_
  try simp only[zP]
  refine zT 6 rfl (zc (by rfl) 3 (.tmp 35) rfl w1.heap.size 1 rfl (.int .i64 (i0:Int)) _ S1.out Tryz.underlying3 rfl) ?_
  try simp only[zP]
  refine zU 7 rfl (by go_simp<;>with_reducible rfl) ?_
  try simp only[zP]
  refine zU 8 rfl (by go_simp<;>with_reducible rfl) ?_
  try simp only[zP]
  refine zT 9 rfl (yields_row (by rfl) 24 (.tmp 38) rfl b (o+(i0-1)*16) rfl (arrA x0) _ R5.out Tryz.underlying24 rfl infAd) ?_
  try simp only[zP]
  refine zR 1 rfl (fun K hK=>?_);refine step_run (v:=.int .i64 h.hop) (w':=we.drew) rfl (by go_simp) ?_;refine zB hK ?_;clear hK K
  try simp only[zP]
  refine zU 2 rfl (by go_simp<;>with_reducible rfl) ?_
  try simp only[zP]
  refine zU 10 rfl (by go_simp<;>with_reducible rfl) ?_
  try simp only[zP]
  refine zR 11 rfl (fun K hK=>?_);refine step_store_cell (v:=.int .i64 (h.hop-1)) rfl 3 (.tmp 40) (.tmp 32) rfl HB3.out.drew rfl rfl rfl (by show _<37;omega) (by kernel_rfl) rfl ?_;intro wf hB4 hc4;have hC4:(fun W:World=>Chg [g7] we W) wf:=hD.trans hc4;clear hc4;refine zB hK ?_;clear hK K
  try simp only[zP]
  refine zU 12 rfl (by go_simp<;>with_reducible rfl) ?_
  try simp only[zP]
  refine zR 13 rfl (fun K hK=>?_);refine step_store_part (vs:=arrA x0) rfl 24 (.tmp 41) (.tmp 39) rfl hB4 21 rfl rfl (by show 21+16≤37;omega) infAd rfl (h_dst {h with hop:=h.hop-1} x0) ?_;intro wg hB5 hc5;have hC5:(fun W:World=>Chg [g7] we W) wg:=Chg.trans hC4 hc5;clear hc5;refine zB hK ?_
  clear hK K
  try simp only[zP]
  refine wpAnyH_done (by kernel_rfl) ?_ _;refine NoPanic.normal ?_;have hBf:Blk wg g7 26 (arrH {h with hop:=h.hop-1,dst:=x0}):=hB5;have HC6:=zH (HC1.out.trans' (HD3.out.trans (Chg.more hC5 (T:=[w1.heap.size,g7]) (by simp))) (by intro x hx;simp at hx;right;omega));have S1g:=zH (S1.out wg hC5)
  obtain⟨hcan,hHl⟩:=HCAN.out;have HWJ:Hid (wfH {h with hop:=h.hop-1,dst:=x0}):=zH ⟨HWF.out.cls,HWF.out.lab,HWF.out.len,HWF.out.nxt,wf64 (n:=h.hop-1) (by omega),HWF.out.src,hokx⟩
  have hcn:canH {h with hop:=h.hop-1,dst:=x0,len:=(l.drop 40).length} = true:=canH_of (by omega) (by omega) (by rw[List.length_drop];omega) (by omega) (by omega);have HJL:=zH (joinS_len (h:={h with hop:=h.hop-1,dst:=x0}) (r:=l.drop 40) hcn)
  have HJG:=zH (gB_joinS (h:={h with hop:=h.hop-1,dst:=x0}) (r:=l.drop 40) hcn 3);have HPJ:Hid (putH {h with hop:=h.hop-1,dst:=x0} ++ l.drop 40=joinS {h with hop:=h.hop-1,dst:=x0} (l.drop 40)):=zH (by
   rw[putH_join (by rw[List.length_drop];simp only;omega)])
  clear hC4 hC5 hB4 hB5 hD HB3 S1 S1F S4 R5 HD3 HC1 q1 q4 hcan hHl hcn HCe;obtain⟨X,hXr,hXs⟩:=cutYf (HS.out wg HC6.out) (lo:=40) (by omega);have hXr':∀W:World,(Instr.slice 22 (.slice A l.length c) (some (.int .i64 40)) none none).run Tryz.prog W=.ok (.slice X (l.length-40) (c-40)) W:=hXr
  have HXS:=zH (fun W (hc:Chg [] wg W)=>hXs.chg0 hc);have R0:=zH (fun W (hc:Chg [] wg W)=>(hBf.chg hc (by simp)).rangeQ);have hD:Chg [] wg wg.drew:=(Chg.refl _ wg).drew;have FJ:=zH (rput_any HWJ.out wg.drew);have HPL:=zH (putH_le {h with hop:=h.hop-1,dst:=x0})
  have HDL:Hid ((l.drop 40).length=l.length-40):=zH (by rw[List.length_drop]);clear hXr hXs;go_upto_region 10 with fail
  refine wp_region_noPanic ?_;refine wp_region_held_drew (S:=fun W:World=>Chg [] wg W) (by kernel_rfl) hD (fun _=>?_);refine zT 0 rfl (yields_row (by rfl) 26 (.tmp 7) rfl g7 0 rfl (arrH {h with hop:=h.hop-1,dst:=x0}) _ R0.out Tryz.underlying26 rfl infH) ?_
  try simp only[zP]
  refine zU 2 rfl (by go_simp<;>with_reducible rfl) ?_
  try simp only[zP]
  refine zU 3 rfl (by go_simp<;>with_reducible rfl) ?_
  try simp only[zP]
  refine zR 1 rfl (fun K hK=>?_);go_simp
  refine FJ.out.mono ?_;rintro e wi ⟨v7,rfl,ho7,hc7⟩;have hC7:(fun W:World=>Chg [] wg W) wi:=hD.trans hc7;generalize putH {h with hop:=h.hop-1,dst:=x0} = ph at *;obtain⟨A7,c7,rfl⟩:=Sl.form (Sl.of_own ho7);have hz7:=hc7.size;clear hc7;refine zB hK ?_;clear hK K
  try simp only[zP]
  refine zR 4 rfl (fun K hK=>?_);refine step_app elY rfl (.tmp 43) (.tmp 45) rfl wg.drew.heap.size rfl ho7 rfl (HXS.out _ hC7) (byV_one _) (by have:=HPL.out;rw[HDL.out];unfold maxLen;omega) (by have:=HPL.out;rw[HDL.out];omega) hz7 ?_;intro v9 wj hown8 hc8 hb8
  have hC8:(fun W:World=>Chg [] wg W) wj:=Chg.trans' hC7 hc8 (fun x hx=>.inr (own_lt ho7 x hx).1);have HO9:Hid (OwY wj w.heap.size v9 (joinS {h with hop:=h.hop-1,dst:=x0} (l.drop 40))):=zH (by
   have:=ownsRow_less (B':=w.heap.size) hown8 (by have:=HC6.out.size;simp;omega);rw[←HPJ.out];unfold OwY;simpa using this)
  have HC9:=zH (HC6.out.trans hC8);have S1j:=zH (hC8.cell S1g.out (by simp));clear hown8 hc8 hb8 S1g;refine zB hK ?_;clear hK K
  try simp only[zP]
  refine zU 5 rfl (by go_simp<;>with_reducible rfl) ?_
  try simp only[zP]
  refine wpAnyH_done (by kernel_rfl) ?_ _;refine NoPanic.normal ?_;clear hC7 hC8 hD FJ R0 ho7;have hlen:(joinS {h with hop:=h.hop-1,dst:=x0} (l.drop 40)).length=40+(l.length-40):=by rw[HJL.out,HDL.out]
  have hg43:gB (joinS {h with hop:=h.hop-1,dst:=x0} (l.drop 40)) 43=i0:=by rw[HJG.out,gB_drop,h43.out]
  have h44:43<l.length:=by
   rcases Nat.lt_or_ge 43 l.length with hx|hx
   ·exact hx
   ·exfalso;have:=h43.out;rw[gB,List.getD_eq_getElem?_getD,List.getElem?_eq_none hx]at this;simp at this;omega
  have hX:=HX9.out;rw[h43.out]at hX;replace hX:=zH hX;have HO:Hid (OwY wj w.heap.size v9 (joinS {h with hop:=h.hop-1,dst:=x0} (l.drop 40))):=HO9;generalize joinS {h with hop:=h.hop-1,dst:=x0} (l.drop 40)=jb at *;clear HX9 HO9 HJL HJG HPJ
  obtain⟨g,c9,rfl,hg9⟩:∃g c9,v9=.slice (some ⟨g,0,none⟩) jb.length c9∧w.heap.size≤g:=by
   obtain⟨hl0,h2⟩:=HO.out;rcases h2 with ⟨_,h0⟩ | ⟨g,cap,cur,hv,hg,_⟩
   ·omega
   ·exact⟨g,cap,hv,hg⟩
  obtain⟨b9,o9,c9',e9,_,hcell⟩:=(OwY.sl HO.out).at_ (i:=43) (by omega);simp only[Value.slice.injEq,Option.some.injEq,Addr.mk.injEq,and_true,true_and]at e9;obtain⟨⟨rfl,rfl⟩,-⟩:=e9;rw[hg43,Nat.zero_add]at hcell;have hfz:=own_frozenY HO.out 43;have hi43:(43:Int)<(jb.length:Int):=by omega
  have hw8:IntKind.u8.wrap ((i0-1:Nat):Int)=((i0-1:Nat):Int):=by rw[IntKind.wrap_u8'];omega
  have HF:=zH (And.intro (own_set1Y HO.out (i:=43) (by omega) (i0-1)) (HC9.out.setCell (p:=⟨g,43,none⟩) (.inr hg9) (byV (i0-1))));have q1:=S1j.out;unfold byV at hcell;clear HO HC9 hlen hg43 HDL S1j;generalize jb.length=m at *;go_wp2_with fail;go_ret2
  exact⟨RvPost.ok hX.out HF.out.1,HF.out.2⟩
end Go.Proofs.YtgbndaiifbogmaaGreat
namespace Go.Proofs.YtgbndaiifbogmaaGreat
open Go.RowKit Go.Maps
theorem tc_ck (t:Sg) (o p:Value) (c:Int):(arrTc t o p).setIfInBounds 6 (.int .i64 c)=arrTc {t with ck:=c} o p:=by kernel_rfl
theorem canT_ck {t:Sg} {n:Nat} (h:canT t n=0) {c:Int} (hc:0≤c∧c≤65535):canT {t with ck:=c} n=0:=by
 obtain⟨h1,h2⟩:=canT_nums h;unfold canT;rw[if_neg (by rw[numsT_ck h1 hc];simp),if_neg (by omega)]
theorem rseal_any {src dst:Ad} (hs:okA src) (hd:okA dst) {t:Sg} (k:okW t) {w:World} {pv:Value} {p:By} (hp:SlY w 0 pv p) (hb:okB p) (hl:p.length≤800000) :
  Calls Tryz.prog 65 #[.agg (arrA src),.agg (arrA dst),.agg (arrTc t noV pv)] w fun e w'=>e=.returned (.agg (arrTc (sealT src dst t p) noV pv))∧Chg [] w w':=by
 obtain⟨A,c,rfl⟩:=hp.form;have hA:=((((Chg.refl [] w).alloc (.cells (arrA src) 24)).alloc (.cells (arrA dst) 24)).alloc (.cells (arrTc t noV (.slice A p.length c)) 34)).alloc (.cells (arrTc tc0 noV noV) 34)
 have hS:Blk ((((w.alloc (.cells (arrA src) 24)).alloc (.cells (arrA dst) 24)).alloc (.cells (arrTc t noV (.slice A p.length c)) 34)).alloc (.cells (arrTc tc0 noV noV) 34)) w.heap.size 24 (arrA src):=(((Blk.new _ _ _).alloc _).alloc _).alloc _
 have hDs:Blk ((((w.alloc (.cells (arrA src) 24)).alloc (.cells (arrA dst) 24)).alloc (.cells (arrTc t noV (.slice A p.length c)) 34)).alloc (.cells (arrTc tc0 noV noV) 34)) (w.heap.size+1) 24 (arrA dst):=((Blk.new' (by simp)).alloc _).alloc _
 have hT:Blk ((((w.alloc (.cells (arrA src) 24)).alloc (.cells (arrA dst) 24)).alloc (.cells (arrTc t noV (.slice A p.length c)) 34)).alloc (.cells (arrTc tc0 noV noV) 34)) (w.heap.size+1+1) 34 (arrTc t noV (.slice A p.length c)):=(Blk.new' (by simp)).alloc _
 have hZ:Blk ((((w.alloc (.cells (arrA src) 24)).alloc (.cells (arrA dst) 24)).alloc (.cells (arrTc t noV (.slice A p.length c)) 34)).alloc (.cells (arrTc tc0 noV noV) 34)) (w.heap.size+1+1+1) 34 (arrTc tc0 noV noV):=Blk.new' (by simp);have HA:=zH hA;have HPV:=zH (fun W (hc:Chg [] w W)=>hp.chg0 hc)
 have FC:=zH (fun W=>rcanT_any t A p.length c (by omega) W);have HX:Hid (sealT src dst t p=if canT t p.length≠0 then t else {t with ck:=(checkC src dst 6 (tcpB {t with ck:=0} p):Nat)}):=zH rfl;have HOB:=zH hb;generalize sealT src dst t p=y at *;clear hA hp hb;by_cases hcan:canT t p.length=0
 case neg=>
  have hX:=HX.out;rw[if_pos hcan]at hX;have hn:(canT t p.length !=0)=true:=by simpa using hcan
  generalize canT t p.length=n at *;clear HX;subst hX;clear hcan k HPV hS hDs HOB;go_enter Tryz.func65,Tryz.ntmps65
  go_wp2_with (first
   |(refine zl rfl 34 (.tmp 5) rfl hT rfl _ Tryz.underlying34 rfl infTc ?_)
   |fail)
  refine (FC.out _).mono ?_;rintro e w1 ⟨rfl,hc1⟩;have hT1:=hT.chg hc1 (by simp);have hZ1:=hZ.chg hc1 (by simp);have HC1:=zH (HA.out.trans hc1);clear hT hZ FC hc1 HA;go_wp2_with (first
   |(refine zl rfl 34 (.tmp 5) rfl hT1 rfl _ Tryz.underlying34 rfl infTc ?_)
   |(refine zs (vs:=arrTc y noV (.slice A p.length c)) rfl 34 (.tmp 6) (.tmp 12) rfl rfl hZ1 rfl rfl rfl infTc rfl ?_;intro w9 hB9 hc9)
   |fail)
  refine bodyPost_ret (results_blk rfl rfl hB9 _ Tryz.underlying34 rfl infTc) rfl ?_;exact⟨rfl,HC1.out.trans' hc9 (zN (by omega))⟩
 have hX:=HX.out;rw[if_neg (by simpa using hcan)]at hX;replace HX:=zH hX;have hputv:putT {t with ck:=0} p=.ok (tcpB {t with ck:=0} p):=by
  unfold putT;rw[if_neg (by simpa using canT_ck hcan (c:=0) (by omega))]
 have hl5:p.length≤65515:=(canT_nums hcan).2;have FP:=zH (fun W (hc:Chg [] w W)=>rputT_any (t:={t with ck:=0}) ⟨k.seq,k.ack⟩ (HPV.out W hc) (by omega));rw[hputv]at FP;have HTL:=zH (tcpB_len {t with ck:=0} p);have HTO:=zH (tcpB_ok (t:={t with ck:=0}) HOB.out)
 have FK:=zH (fun W v (h:SlY W 0 v (tcpB {t with ck:=0} p))=>rcheck_any hs hd 6 h HTO.out (by rw[HTL.out];omega));generalize tcpB {t with ck:=0} p=tb at *;rw[hcan]at FC;generalize checkC src dst 6 tb=ck at *;clear hX hcan hputv k HPV HOB HTO;go_enter Tryz.func65,Tryz.ntmps65
 go_wp2_with (first
  |(refine zl rfl 34 (.tmp 5) rfl hT rfl _ Tryz.underlying34 rfl infTc ?_)
  |fail)
 refine (FC.out _).mono ?_;rintro e w1 ⟨rfl,hc1⟩;have hT1:=hT.chg hc1 (by simp);have hZ1:=hZ.chg hc1 (by simp);have hS1:=hS.chg hc1 (by simp);have hD1:=hDs.chg hc1 (by simp);have HC1:=zH (HA.out.trans hc1);clear hT hZ FC hc1 HA hS hDs;go_upto_region 4 with (first
  |(refine wpList_store_cell (v:=.int .i64 0) rfl 3 (.tmp 13) _ rfl rfl hT1 rfl rfl rfl (by show _<10;omega) (by kernel_rfl) rfl ?_;intro w2 hT2 hc2)
  |fail)
 rw[tc_ck]at hT2;have hZ2:=hZ1.chg hc2 (by simp);have hS2:=hS1.chg hc2 (by simp;omega);have hD2:=hD1.chg hc2 (by simp);have HC2:=zH (HC1.out.trans' hc2 (zN (by omega)));clear hT1 hZ1 hS1 hD1 hc2 HC1;go_wp2_with (first
  |(refine zl rfl 34 (.tmp 5) rfl hT2 rfl _ Tryz.underlying34 rfl infTc ?_)
  |fail)
 refine (FP.out _ HC2.out).mono ?_;rintro e w3 ⟨⟨v3,rfl,ho3⟩,hc3⟩;have hT3:=hT2.chg hc3 (by simp);have hZ3:=hZ2.chg hc3 (by simp);have hS3:=hS2.chg hc3 (by simp);have hD3:=hD2.chg hc3 (by simp);have HC3:=zH (HC2.out.trans hc3);have HS3:=zH ((OwY.sl ho3).less (Nat.zero_le _))
 clear hT2 hZ2 hS2 hD2 hc3 HC2 FP ho3;go_wp2_with (first
  |(refine zl rfl 24 (.tmp 3) rfl hS3 rfl _ Tryz.underlying24 rfl infAd ?_)
  |(refine zl rfl 24 (.tmp 4) rfl hD3 rfl _ Tryz.underlying24 rfl infAd ?_)
  |fail)
 refine (FK.out _ _ HS3.out).mono ?_;rintro e w4 ⟨rfl,hc4⟩;have hT4:=hT3.chg hc4 (by simp);have hZ4:=hZ3.chg hc4 (by simp);have HC4:=zH (HC3.out.trans hc4);clear hT3 hZ3 hS3 hD3 hc4 HC3 FK HS3;go_upto_region 6 with (first
  |(refine wpList_store_cell (v:=.int .i64 ck) rfl 3 (.tmp 23) (.tmp 22) rfl rfl hT4 rfl rfl rfl (by show _<10;omega) (by kernel_rfl) rfl ?_;intro w5 hT5 hc5)
  |fail)
 rw[tc_ck]at hT5;have hZ5:=hZ4.chg hc5 (by simp);have HC5:=zH (HC4.out.trans' hc5 (zN (by omega)));clear hT4 hZ4 hc5 HC4;have hX:=HX.out;subst hX;go_wp2_with (first
  |(refine zl rfl 34 (.tmp 5) rfl hT5 rfl _ Tryz.underlying34 rfl infTc ?_)
  |(refine zs (vs:=arrTc {t with ck:=(ck:Nat)} noV (.slice A p.length c)) rfl 34 (.tmp 6) (.tmp 24) rfl rfl hZ5 rfl rfl rfl infTc rfl ?_;intro w9 hB9 hc9)
  |fail)
 refine bodyPost_ret (results_blk rfl rfl hB9 _ Tryz.underlying34 rfl infTc) rfl ?_;exact⟨rfl,HC5.out.trans' hc9 (zN (by omega))⟩
theorem rmade_any {src dst:Ad} (hs:okA src) (hd:okA dst) {kind:Int} (hk:0≤kind∧kind≤255) {w:World} {v:Value} {b:By} (h:SlY w 0 v b) (hl:b.length≤1000000) :
  Calls Tryz.prog 66 #[.agg (arrA src),.agg (arrA dst),.int .i64 kind,v] w fun e w'=>RvPost (madeP src dst kind b) w.heap.size e w'∧Chg [] w w':=by
 obtain⟨A,c,rfl⟩:=h.form;have hA:=((Chg.refl [] w).alloc (.cells (arrA src) 24)).alloc (.cells (arrA dst) 24);have hS:Blk ((w.alloc (.cells (arrA src) 24)).alloc (.cells (arrA dst) 24)) w.heap.size 24 (arrA src):=(Blk.new _ _ _).alloc _
 have hDs:Blk ((w.alloc (.cells (arrA src) 24)).alloc (.cells (arrA dst) 24)) (w.heap.size+1) 24 (arrA dst):=Blk.new' (by simp);have HA:=zH hA;have HPV:=zH (fun W (hc:Chg [] w W)=>h.chg0 hc)
 have HX:Hid (madeP src dst kind b=if 1460<b.length then .error 4 else .ok (putH ⟨0,0,b.length,kind,64,src,dst⟩++b)):=zH rfl;generalize madeP src dst kind b=y at *;clear hA h;by_cases hlong:1460<b.length
 ·have hX:=HX.out;rw[if_pos hlong]at hX;replace HX:=zH hX;have hI:(b.length:Int)>1460:=by omega
  clear hX hlong HPV hS hDs;go_enter Tryz.func66,Tryz.ntmps66
  go_wp2_with fail;go_ret2
  exact⟨RvPost.err HX.out,HA.out⟩
 have hX:=HX.out;rw[if_neg hlong]at hX;replace HX:=zH hX;have hI:¬(b.length:Int)>1460:=by omega
 have FP:=zH (fun W=>rput_any (h:=⟨0,0,b.length,kind,64,src,dst⟩) ⟨wf64 (n:=0) (by omega),wf64 (n:=0) (by omega),wf64 (n:=(b.length:Int)) (by omega),wf64 (n:=kind) (by omega),wf64 (n:=64) (by omega),hs,hd⟩ W);have HPL:=zH (putH_le ⟨0,0,b.length,kind,64,src,dst⟩)
 generalize putH ⟨0,0,b.length,kind,64,src,dst⟩=ph at *;clear hX hlong hs hd hk;go_enter Tryz.func66,Tryz.ntmps66
 go_wp2_with (first
  |(refine zl rfl 24 (.tmp 4) rfl hS rfl _ Tryz.underlying24 rfl infAd ?_)
  |(refine zl rfl 24 (.tmp 5) rfl hDs rfl _ Tryz.underlying24 rfl infAd ?_)
  |fail)
 refine Eq.mpr (congrArg (fun z=>Calls Tryz.prog 76 #[.agg z] _ _) (?_:_=arrH ⟨0,0,b.length,kind,64,src,dst⟩)) ?_
 ·kernel_rfl
 refine (FP.out _).mono ?_;rintro e w1 ⟨v1,rfl,ho1,hc1⟩;have HO1:=zH ho1;have HC1:=zH (HA.out.trans hc1);have HS1:=zH (HPV.out w1 HC1.out);have hz1:=hc1.size;have hl1:=zH (own_lt ho1);have hz0:=HA.out.size;clear hc1 ho1 FP HPV hS hDs HA
 generalize (w.alloc (.cells (arrA src) 24)).alloc (.cells (arrA dst) 24)=W2 at *;go_wp2_with (first
  |(at_builtin;refine wpList_app elY rfl (.tmp 19) (.tmp 20) rfl W2.heap.size rfl HO1.out rfl HS1.out (byV_one _) (by have:=HPL.out;unfold maxLen;omega) (by have:=HPL.out;omega) hz1 ?_;intro v2 w2 hown2 hc2 hb2)
  |fail)
 go_ret2
 exact⟨RvPost.ok HX.out (ownsRow_less (OwY.snoc (m:=b) rfl hown2) hz0),HC1.out.trans' hc2 (fun x hx=>by have:=(hl1.out x hx).1;right;omega)⟩
theorem tcpP_eq (src dst:Ad) (t:Sg) (p:By):tcpP src dst t p=match putT (sealT src dst t p) p with | .error e=>.error e | .ok b=>madeP src dst 6 b:=rfl
theorem sealT_w {src dst:Ad} {t:Sg} {p:By} (k:okW t):okW (sealT src dst t p):=by
 unfold sealT;split
 ·exact k
 ·exact⟨k.seq,k.ack⟩
theorem putT_len {t:Sg} {p b:By} (h:putT t p=.ok b):b.length=20+p.length:=by
 unfold putT at h;split at h
 ·cases h
 ·injection h with h
  rw[←h,tcpB_len]
theorem putT_nz {t:Sg} {p:By} {n:Int} (h:putT t p=.error n):n≠0:=by
 unfold putT at h;split at h
 ·injection h with h;omega
 ·cases h
theorem rtcp_any {src dst:Ad} (hs:okA src) (hd:okA dst) {t:Sg} (k:okW t) {w:World} {pv:Value} {p:By} (hp:SlY w 0 pv p) (hb:okB p) (hl:p.length≤800000) :
  Calls Tryz.prog 19 #[.agg (arrA src),.agg (arrA dst),.agg (arrTc t noV pv)] w fun e w'=>RvPost (tcpP src dst t p) w.heap.size e w'∧Chg [] w w':=by
 obtain⟨A,c,rfl⟩:=hp.form;have hA:=(((Chg.refl [] w).alloc (.cells (arrA src) 24)).alloc (.cells (arrA dst) 24)).alloc (.cells (arrTc t noV (.slice A p.length c)) 34)
 have hS:Blk (((w.alloc (.cells (arrA src) 24)).alloc (.cells (arrA dst) 24)).alloc (.cells (arrTc t noV (.slice A p.length c)) 34)) w.heap.size 24 (arrA src):=((Blk.new _ _ _).alloc _).alloc _
 have hDs:Blk (((w.alloc (.cells (arrA src) 24)).alloc (.cells (arrA dst) 24)).alloc (.cells (arrTc t noV (.slice A p.length c)) 34)) (w.heap.size+1) 24 (arrA dst):=(Blk.new' (by simp)).alloc _
 have hT:Blk (((w.alloc (.cells (arrA src) 24)).alloc (.cells (arrA dst) 24)).alloc (.cells (arrTc t noV (.slice A p.length c)) 34)) (w.heap.size+1+1) 34 (arrTc t noV (.slice A p.length c)):=Blk.new' (by simp);have HA:=zH hA;have HX:=zH (tcpP_eq src dst t p)
 have FS:=zH (fun W (hc:Chg [] w W)=>rseal_any hs hd k (hp.chg0 hc) hb hl);have FP:=zH (fun W (hc:Chg [] w W)=>rputT_any (t:=sealT src dst t p) (sealT_w k) (hp.chg0 hc) (by omega));have HLN:=zH (fun b (h:putT (sealT src dst t p) p=.ok b)=>putT_len h)
 have HNZ:=zH (fun n (h:putT (sealT src dst t p) p=.error n)=>putT_nz h);have FM:=zH (fun W v b (h:SlY W 0 v b) (hl:b.length≤1000000)=>rmade_any hs hd (kind:=6) (by omega) h hl);generalize tcpP src dst t p=x at *;generalize putT (sealT src dst t p) p=y at *;clear hA hp hb k hs hd
 go_enter Tryz.func19,Tryz.ntmps19
 go_wp2_with (first
  |(refine zl rfl 24 (.tmp 3) rfl hS rfl _ Tryz.underlying24 rfl infAd ?_)
  |(refine zl rfl 24 (.tmp 4) rfl hDs rfl _ Tryz.underlying24 rfl infAd ?_)
  |(refine zl rfl 34 (.tmp 5) rfl hT rfl _ Tryz.underlying34 rfl infTc ?_)
  |fail)
 refine (FS.out _ HA.out).mono ?_;rintro e w1 ⟨rfl,hc1⟩;have hS1:=hS.chg hc1 (by simp);have hD1:=hDs.chg hc1 (by simp);have HC1:=zH (HA.out.trans hc1);clear FS hc1 hS hDs hT HA;go_wp2_with fail;refine (FP.out _ HC1.out).mono ?_;rintro e w2 ⟨hp2,hc2⟩;have hS2:=hS1.chg hc2 (by simp)
 have hD2:=hD1.chg hc2 (by simp);have HC2:=zH (HC1.out.trans hc2);have hz1:=HC1.out.size;clear FP hc2 hS1 hD1 HC1;cases y with
 |error n=>
  obtain rfl:e=_:=hp2;have hn:=HNZ.out n rfl;have hX:=HX.out;simp only at hX;replace HX:=zH hX;have hJ:(n !=0)=true:=by simpa using hn
  clear hX hn HNZ HLN FM hS2 hD2;go_wp2_with fail;go_ret2
  exact⟨RvPost.err HX.out,HC2.out⟩
 |ok b=>
  obtain⟨v2,rfl,ho2⟩:=hp2;have hX:=HX.out;simp only at hX;replace HX:=zH hX;have hbl:=HLN.out b rfl;have HS2:=zH ((OwY.sl ho2).less (Nat.zero_le _));clear hX HNZ HLN ho2;go_wp2_with (first
   |(refine zl rfl 24 (.tmp 3) rfl hS2 rfl _ Tryz.underlying24 rfl infAd ?_)
   |(refine zl rfl 24 (.tmp 4) rfl hD2 rfl _ Tryz.underlying24 rfl infAd ?_)
   |fail)
  refine (FM.out _ _ _ HS2.out (by omega)).mono ?_;rintro e w3 ⟨hp3,hc3⟩;rw[←HX.out]at hp3;have HC3:=zH (HC2.out.trans hc3);have hz2:=HC2.out.size;clear FM HX HS2 hc3 hS2 hD2;cases x with
  |error n=>
   obtain rfl:e=_:=hp3;go_wp2_with fail;go_ret2
   exact⟨RvPost.err rfl,HC3.out⟩
  |ok z=>
   obtain⟨v3,rfl,ho3⟩:=hp3;have HO3:=zH (ownsRow_less (B':=w.heap.size) ho3 hz2);clear ho3;go_wp2_with fail;go_ret2
   exact⟨RvPost.ok rfl HO3.out,HC3.out⟩
end Go.Proofs.YtgbndaiifbogmaaGreat

/-
  Small laws and walks on the way to LearnReads: Re4, Rg4, Rw. Conditions: each theorem names its own.
-/
import Derived.Test.YtgbndaiifbogmaaGreatY21
set_option linter.unusedVariables false
set_option linter.unusedSimpArgs false
set_option maxRecDepth 100000
set_option maxHeartbeats 8000000
namespace Go.Proofs.YtgbndaiifbogmaaGreat
open Go.RowKit Go.Maps
theorem four_word {x1 x2:Nat} (h1:x1≤255) (h2:x2≤1048575):fourS (1610612736+x1*1048576+x2)=[96+x1/16,x1%16*16+x2/65536]++twoS (x2%65536):=by
 simp only[fourS,twoS,List.cons_append,List.nil_append];congr 1
 ·omega
 ·congr 1
  ·omega
  ·congr 1
   ·omega
   ·congr 1;omega
theorem rput_any {h:Hd} (k:wfH h) (w:World):Calls Tryz.prog 76 #[.agg (arrH h)] w fun e w'=>∃v,e=.returned v∧OwY w' w.heap.size v (putH h)∧Chg [] w w':=by
 have hA:=(Chg.refl [] w).alloc (.cells (arrH h) 26);have hB:Blk (w.alloc (.cells (arrH h) 26)) w.heap.size 26 (arrH h):=Blk.new _ _ _;have HA:=zH hA;have FC:=zH (fun W=>rcan_any h W)
 have HP:Hid (putH h=if canH h=true then fourS (1610612736+h.cls*1048576+h.lab).toNat++twoB h.len ++ [loB h.nxt,loB h.hop]++adB h.src++adB h.dst else []):=zH rfl;generalize putH h=pb at *;clear hA;by_cases hc:canH h=true
 ·have hp:=HP.out;rw[if_pos hc]at hp;have hce:canE h=0:=by unfold canE;rw[if_pos hc]
  rw[hce]at FC;obtain⟨c1,c2,c3,c4,c5⟩:=canH.at hc;have HPs:Hid (((arrH h).toList.drop 5).take (adB h.src).length=(adB h.src).map byV):=zH (adB_of k.src);have HPd:Hid (((arrH h).toList.drop 21).take (adB h.dst).length=(adB h.dst).map byV):=zH (adB_of k.dst);obtain⟨cls,lab,len,nxt,hop,src,dst⟩:=h
  simp only at c1 c2 c3 c4 c5 hp;obtain⟨x1,rfl⟩:∃x:Nat,cls=(x:Int):=⟨cls.toNat,by omega⟩;obtain⟨x2,rfl⟩:∃x:Nat,lab=(x:Int):=⟨lab.toNat,by omega⟩;obtain⟨x3,rfl⟩:∃x:Nat,len=(x:Int):=⟨len.toNat,by omega⟩
  rw[show ((1610612736:Int)+(x1:Int)*1048576+(x2:Int)).toNat=1610612736+x1*1048576+x2 by omega,four_word (by omega) (by omega),←twoS_B (n:=x3) (by omega)]at hp;replace HP:=zH hp;have q1:(x1:Int)/16=((x1/16:Nat):Int):=rfl;have q2:(x1:Int)%16=((x1%16:Nat):Int):=rfl
  have q3:(x2:Int)/65536=((x2/65536:Nat):Int):=rfl;have q4:(x2:Int)%65536=((x2%65536:Nat):Int):=rfl;have t1:(x1:Int).tdiv 16=((x1/16:Nat):Int):=rfl;have t2:(x1:Int).tmod 16=((x1%16:Nat):Int):=rfl;have t3:(x2:Int).tdiv 65536=((x2/65536:Nat):Int):=rfl
  have t4:(x2:Int).tmod 65536=((x2%65536:Nat):Int):=rfl;have b1:x1/16<16:=by omega
  have b2:x1%16<16:=by omega
  have b3:x2/65536<16:=by omega
  have b4:x2%65536<65536:=by omega
  generalize x1/16=a1 at *;generalize x1%16=a2 at *;generalize x2/65536=a3 at *;generalize x2%65536=a4 at *;obtain⟨y1,hy1⟩:∃y,y=96+a1:=⟨_,rfl⟩;obtain⟨y2,hy2⟩:∃y,y=a2*16+a3:=⟨_,rfl⟩;rw[←hy1,←hy2]at HP;have v1:IntKind.i64.wrap (a1:Int)=(a1:Int):=by rw[IntKind.wrap_i64];omega
  have v3:IntKind.i64.wrap (a3:Int)=(a3:Int):=by rw[IntKind.wrap_i64];omega
  have u1:IntKind.i64.wrap (96+(a1:Int))=96+(a1:Int):=by rw[IntKind.wrap_i64];omega
  have u2:IntKind.u8.wrap (96+(a1:Int))=(y1:Int):=by rw[IntKind.wrap_u8'];omega
  have u3:IntKind.i64.wrap ((a2:Int)*16)=(a2:Int)*16:=by rw[IntKind.wrap_i64];omega
  have u4:IntKind.i64.wrap ((a2:Int)*16+(a3:Int))=(a2:Int)*16+(a3:Int):=by rw[IntKind.wrap_i64];omega
  have u5:IntKind.u8.wrap ((a2:Int)*16+(a3:Int))=(y2:Int):=by rw[IntKind.wrap_u8'];omega
  have HQ:=zH (And.intro q1 (And.intro q2 (And.intro q3 (And.intro t1 (And.intro t2 t3)))));have HU:=zH (And.intro v1 (And.intro v3 (And.intro u1 (And.intro u2 (And.intro u3 (And.intro u4 u5))))));have HQ4:=zH (And.intro q4 t4);have F4:=zH (fun W=>two01_any a4 b4 W)
  have F3:=zH (fun W=>two01_any x3 (by omega) W);have e1:=loB_eq nxt;have e2:=loB_eq hop;clear hp hce hc k q1 q2 q3 q4 t1 t2 t3 t4 v1 v3 u1 u2 u3 u4 u5 c1 c2 c3 c4 c5 b1 b2 b3 b4 hy1 hy2;go_enter Tryz.func76,Tryz.ntmps76
  go_wp2_with (first
   |(refine zl rfl 26 (.tmp 1) rfl hB rfl _ Tryz.underlying26 rfl infH ?_)
   |fail)
  refine (FC.out _).mono ?_;rintro e w1 ⟨rfl,hc1⟩;have hB1:=hB.chg hc1 (by simp);have HC1:=zH (HA.out.trans hc1);have hlt:=hB1.lt;have p0:w1.cell? ⟨w.heap.size,0,none⟩=some (.int .i64 (x1:Int)):=hB1.cell 0;have p1:w1.cell? ⟨w.heap.size,1,none⟩=some (.int .i64 (x2:Int)):=hB1.cell 1
  obtain⟨q1,q2,q3,t1,t2,t3⟩:=HQ.out;obtain⟨v1,v3,u1,u2,u3,u4,u5⟩:=HU.out;clear FC hB hc1 HA HQ HU;go_upto_region 4 with fail
  have hA2:=(Chg.refl [] w1).alloc (.cells #[byV y1,byV y2] 5);have HD2:=zH hA2;have HO2:Hid (OwY (w1.alloc (.cells #[byV y1,byV y2] 5)) w1.heap.size (.slice (some ⟨w1.heap.size,0,none⟩) 2 2) [y1,y2]):=zH (own_lit (base:=w1.heap.size) w1 5 1 2 #[byV y1,byV y2] (Nat.le_refl _) (by simp[maxLen]) rfl)
  have HB2:=zH (hB1.chg hA2 (by simp));have d1:(w1.alloc (.cells #[.int .u8 (y1:Int),.int .u8 (y2:Int)] 5)).cell? ⟨w.heap.size,1,none⟩=some (.int .i64 (x2:Int)):=HB2.out.cell 1;obtain⟨q4,t4⟩:=HQ4.out;clear p0 p1 q1 q2 q3 t1 t2 t3 v1 v3 u1 u2 u3 u4 u5 hA2 hB1;go_wp2_with fail
  refine (F4.out _).mono ?_;rintro e w3 ⟨v3,rfl,ho3,hc3⟩;have HO3:=zH (own_chg HO2.out hc3 (by simp));have HT3:=zH (OwY.sl (B:=(w1.alloc (.cells #[byV y1,byV y2] 5)).heap.size) ho3);have HB3:=zH (HB2.out.chg hc3 (by simp));have HD3:=zH (HD2.out.trans hc3);have hz3:=HD3.out.size
  have hl3:=zH (own_lt HO3.out);clear F4 ho3 hc3 HO2 HB2 HD2 d1 q4 t4 HQ4;go_upto_region 5 with (first
   |(at_builtin;refine wpList_app elY rfl (.tmp 22) (.tmp 26) rfl w1.heap.size rfl HO3.out rfl HT3.out (byV_one _) (by simp[maxLen,twoS]) (by simp[twoS]) hz3 ?_;intro v4 w4 hown4 hc4 hb4)
   |fail)
  have HB4:=zH (HB3.out.chg hc4 (fun hm=>by have:=(hl3.out _ hm).1;omega));have HD4:=zH (HD3.out.trans' hc4 (fun x hx=>.inr (hl3.out x hx).1));have HO4:=zH (OwY.snoc (l:=[y1,y2]) (m:=twoS a4) rfl hown4);have d2:w4.cell? ⟨w.heap.size,2,none⟩=some (.int .i64 (x3:Int)):=HB4.out.cell 2
  clear HO3 HT3 HB3 HD3 hl3 hown4 hc4 hb4;go_wp2_with fail;refine (F3.out _).mono ?_;rintro e w5 ⟨v5,rfl,ho5,hc5⟩;have HO5:=zH (own_chg HO4.out hc5 (by simp));have HT5:=zH (OwY.sl (B:=w4.heap.size) ho5);have HB5:=zH (HB4.out.chg hc5 (by simp));have HD5:=zH (HD4.out.trans hc5);have hz5:=HD5.out.size
  have hl5:=zH (own_lt HO5.out);clear F3 ho5 hc5 HO4 HB4 HD4 d2;go_upto_region 6 with (first
   |(at_builtin;refine wpList_app elY rfl (.tmp 28) (.tmp 31) rfl w1.heap.size rfl HO5.out rfl HT5.out (byV_one _) (by simp[maxLen,twoS]) (by simp[twoS]) hz5 ?_;intro v6 w6 hown6 hc6 hb6)
   |fail)
  have hB6:=HB5.out.chg hc6 (fun hm=>by have:=(hl5.out _ hm).1;omega);have HD6:=zH (HD5.out.trans' hc6 (fun x hx=>.inr (hl5.out x hx).1));have HO6:=zH (OwY.snoc (m:=twoS x3) rfl hown6);have e3:w6.cell? ⟨w.heap.size,3,none⟩=some (.int .i64 nxt):=hB6.cell 3
  have e4:w6.cell? ⟨w.heap.size,4,none⟩=some (.int .i64 hop):=hB6.cell 4;have hA7:=(Chg.refl [] w6).alloc (.cells #[byV (loB nxt),byV (loB hop)] 5);have HB7:=zH (hB6.chg hA7 (by simp));have HO7:=zH (own_chg HO6.out hA7 (by simp))
  have HT7:Hid (Sl (w6.alloc (.cells #[byV (loB nxt),byV (loB hop)] 5)) 0 1 (.slice (some ⟨w6.heap.size,0,none⟩) 2 2) 2 ([loB nxt,loB hop].map byV)):=
   zH (Sl.of_own (own_lit (base:=0) w6 5 1 2 #[byV (loB nxt),byV (loB hop)] (Nat.zero_le _) (by simp[maxLen]) rfl))
  have HD7:=zH (HD6.out.trans hA7);have hz7:=HD7.out.size;have hl7:=zH (own_lt HO7.out);clear HO5 HT5 HB5 HD5 hl5 hown6 hc6 hb6 hA7 HO6 HD6 hB6;go_upto_region 7 with (first
   |(at_builtin;refine wpList_app elY rfl (.tmp 33) (.tmp 40) rfl w1.heap.size rfl HO7.out rfl HT7.out (byV_one _) (by simp[maxLen,twoS]) (by simp[twoS]) hz7 ?_;intro v8 w8 hown8 hc8 hb8)
   |fail)
  have hB8:=HB7.out.chg hc8 (fun hm=>by have:=(hl7.out _ hm).1;omega);have HD8:=zH (HD7.out.trans' hc8 (fun x hx=>.inr (hl7.out x hx).1));have hz8:=HD8.out.size;have HO8:=zH (OwY.snoc (m:=[loB nxt,loB hop]) rfl hown8);have HS8:=zH (sly_part hB8 HPs.out);have hl8:=zH (own_lt HO8.out)
  clear HO7 HT7 HB7 HD7 hl7 hown8 hc8 hb8 e1 e2 e3 e4;go_upto_region 8 with (first
   |(at_builtin;refine wpList_app elY rfl (.tmp 42) (.tmp 44) rfl w1.heap.size rfl HO8.out rfl HS8.out (byV_one _) (by simp[maxLen,twoS,adB_len]) (by simp[twoS,adB_len]) hz8 ?_;intro v9 w9 hown9 hc9 hb9)
   |fail)
  have hB9:=hB8.chg hc9 (fun hm=>by have:=(hl8.out _ hm).1;omega);have HD9:=zH (HD8.out.trans' hc9 (fun x hx=>.inr (hl8.out x hx).1));have hz9:=HD9.out.size;have HO9:=zH (OwY.snoc (m:=adB src) rfl hown9);have HS9:=zH (sly_part hB9 HPd.out);have hl9:=zH (own_lt HO9.out)
  clear HO8 HS8 HD8 hl8 hB8 hown9 hc9 hb9;go_wp2_with (first
   |(at_builtin;refine wpList_app elY rfl (.tmp 46) (.tmp 48) rfl w1.heap.size rfl HO9.out rfl HS9.out (byV_one _) (by simp[maxLen,twoS,adB_len]) (by simp[twoS,adB_len]) hz9 ?_;intro va wa howna hca hba)
   |fail)
  go_ret
  refine⟨va,rfl,?_,HC1.out.trans (HD9.out.trans' hca (fun x hx=>.inr (hl9.out x hx).1))⟩;rw[HP.out];exact ownsRow_less (OwY.snoc (m:=adB dst) rfl howna) HC1.out.size
 ·have hp:=HP.out;rw[if_neg hc]at hp;have hce:canE h=2:=by unfold canE;rw[if_neg hc]
  rw[hce]at FC;replace HP:=zH hp;clear hp hce hc;go_enter Tryz.func76,Tryz.ntmps76
  go_wp2_with (first
   |(refine zl rfl 26 (.tmp 1) rfl hB rfl _ Tryz.underlying26 rfl infH ?_)
   |fail)
  refine (FC.out _).mono ?_;rintro e w1 ⟨rfl,hc1⟩;go_wp2_with fail;go_ret
  exact⟨_,rfl,by rw[HP.out];exact OwY.nil _ _,HA.out.trans hc1⟩
end Go.Proofs.YtgbndaiifbogmaaGreat
namespace Go.Proofs.YtgbndaiifbogmaaGreat
open Go.RowKit Go.Maps
def fillH (l:By) (cs:Array Value):Nat→Array Value
 |0=>cs
 |i+1=>((fillH l cs i).setIfInBounds (5+i) (byV (gB l (8+i)))).setIfInBounds (21+i) (byV (gB l (24+i)))
theorem fillH_size (l:By) (cs:Array Value):∀i,(fillH l cs i).size=cs.size
 |0=>rfl
 |i+1=>by simp[fillH,fillH_size l cs i]
theorem fillH_all (l:By) (a b c d e:Int):fillH l (arrH ⟨a,b,c,d,e,ad0,ad0⟩) 16=arrH ⟨a,b,c,d,e,adAt l 8,adAt l 24⟩:=by kernel_rfl
theorem rget_big {w:World} {v:Value} {l:By} (h:SlY w 0 v l) (hb:okB l) (hl:l.length≤9223372036854775807) :
  Calls Tryz.prog 41 #[v] w fun e w'=>e=.returned (getV l)∧Chg [] w w':=by
 obtain⟨A,c,rfl⟩:=h.form;have hA:=(Chg.refl [] w).alloc (.cells arrH0 26);have hB0:Blk (w.alloc (.cells arrH0 26)) w.heap.size 26 arrH0:=Blk.new _ _ _;have HA:=zH hA;by_cases h40:l.length<40
 ·have hR:Hid (getV l=.tuple #[.agg arrH0,.int .i64 3]):=zH (by unfold getV getH;rw[if_pos h40]);have hI:(l.length:Int)<40:=by omega
  clear hA h hb hl h40;go_enter Tryz.func41,Tryz.ntmps41
  go_wp2_with (first
   |(refine zs (vs:=arrH0) rfl 26 (.tmp 2) (.tmp 9) rfl rfl hB0 rfl rfl rfl infH0 rfl ?_;intro w9 hB9 hc9)
   |fail)
  refine bodyPost_ret (zr rfl rfl hB9 _ Tryz.underlying26 rfl infH0) rfl ?_;exact⟨by rw[hR.out];rfl,HA.out.trans' hc9 (zN (by omega))⟩
 have hI:¬(l.length:Int)<40:=by omega
 obtain⟨b,o,c',e,_,_,hcell⟩:=(h.chg0 hA).all (by omega);simp only[Value.slice.injEq,true_and]at e;obtain⟨rfl,rfl⟩:=e;have g0:=gB_lt hb 0;have hc0:=hcell 0 (by omega);rw[Nat.add_zero]at hc0;simp only[byV]at hc0;by_cases h6:gB l 0/16=6
 case neg=>
  have hR:Hid (getV l=.tuple #[.agg arrH0,.int .i64 5]):=zH (by unfold getV getH;rw[if_neg h40,if_pos h6]);have q1:((gB l 0:Nat):Int)/16=((gB l 0/16:Nat):Int):=rfl;have t1:((gB l 0:Nat):Int).tdiv 16=((gB l 0/16:Nat):Int):=rfl;have hx:gB l 0/16<256:=by omega
  generalize gB l 0=x0 at *;generalize x0/16=d at *;have u1:IntKind.u8.wrap (d:Int)=(d:Int):=by rw[IntKind.wrap_u8'];omega
  have hne:((d:Int) !=6)=true:=by simp;omega
  have i0:(0:Int)<(l.length:Int):=by omega
  clear hA h hb hl h40 hcell h6 g0 hx;go_enter Tryz.func41,Tryz.ntmps41
  go_wp2_with (first
   |(refine zs (vs:=arrH0) rfl 26 (.tmp 2) (.tmp 15) rfl rfl hB0 rfl rfl rfl infH0 rfl ?_;intro w9 hB9 hc9)
   |fail)
  refine bodyPost_ret (zr rfl rfl hB9 _ Tryz.underlying26 rfl infH0) rfl ?_;exact⟨by rw[hR.out];rfl,HA.out.trans' hc9 (zN (by omega))⟩
 have hR:Hid (getV l=.tuple #[.agg (arrH (headOf l)),.int .i64 0]):=zH (by unfold getV getH;rw[if_neg h40,if_neg (by simpa using h6)]);have HFa:=zH (fun a b c d e=>fillH_all l a b c d e)
 have HH:Hid (headOf l=⟨(gB l 0%16*16+gB l 1/16:Nat),(gB l 1%16*65536+gB l 2*256+gB l 3:Nat),(gB l 4*256+gB l 5:Nat),(gB l 6:Nat),(gB l 7:Nat),adAt l 8,adAt l 24⟩):=zH rfl
 have HCell:Hid (∀W,Chg [] (w.alloc (.cells arrH0 26)) W→∀i,i<l.length→W.cell? ⟨b,o+i,none⟩=some (.int .u8 (gB l i:Nat))):=zH (fun W hc i hi=>hc.cell (hcell i hi) (by simp))
 have C0:Hid (∀W,Chg [] (w.alloc (.cells arrH0 26)) W→W.cell? ⟨b,o,none⟩=some (.int .u8 (gB l 0:Nat))):=zH (fun W hc=>HCell.out W hc 0 (by omega));have C1:Hid (∀W,Chg [] (w.alloc (.cells arrH0 26)) W→W.cell? ⟨b,o+1,none⟩=some (.int .u8 (gB l 1:Nat))):=zH (fun W hc=>HCell.out W hc 1 (by omega))
 have C2:Hid (∀W,Chg [] (w.alloc (.cells arrH0 26)) W→W.cell? ⟨b,o+2,none⟩=some (.int .u8 (gB l 2:Nat))):=zH (fun W hc=>HCell.out W hc 2 (by omega));have C3:Hid (∀W,Chg [] (w.alloc (.cells arrH0 26)) W→W.cell? ⟨b,o+3,none⟩=some (.int .u8 (gB l 3:Nat))):=zH (fun W hc=>HCell.out W hc 3 (by omega))
 have C4:Hid (∀W,Chg [] (w.alloc (.cells arrH0 26)) W→W.cell? ⟨b,o+4,none⟩=some (.int .u8 (gB l 4:Nat))):=zH (fun W hc=>HCell.out W hc 4 (by omega));have C5:Hid (∀W,Chg [] (w.alloc (.cells arrH0 26)) W→W.cell? ⟨b,o+5,none⟩=some (.int .u8 (gB l 5:Nat))):=zH (fun W hc=>HCell.out W hc 5 (by omega))
 have C6:Hid (∀W,Chg [] (w.alloc (.cells arrH0 26)) W→W.cell? ⟨b,o+6,none⟩=some (.int .u8 (gB l 6:Nat))):=zH (fun W hc=>HCell.out W hc 6 (by omega));have C7:Hid (∀W,Chg [] (w.alloc (.cells arrH0 26)) W→W.cell? ⟨b,o+7,none⟩=some (.int .u8 (gB l 7:Nat))):=zH (fun W hc=>HCell.out W hc 7 (by omega))
 have g1:=gB_lt hb 1;have g2:=gB_lt hb 2;have g3:=gB_lt hb 3;have g4:=gB_lt hb 4;have g5:=gB_lt hb 5;have g6:=gB_lt hb 6;have g7:=gB_lt hb 7;generalize gB l 0=x0 at *;generalize gB l 1=x1 at *;generalize gB l 2=x2 at *;generalize gB l 3=x3 at *;generalize gB l 4=x4 at *;generalize gB l 5=x5 at *
 generalize gB l 6=x6 at *;generalize gB l 7=x7 at *;have q0:((x0:Nat):Int)/16=((x0/16:Nat):Int):=rfl;have t0:((x0:Nat):Int).tdiv 16=((x0/16:Nat):Int):=rfl;rw[h6]at q0 t0;have q1:((x0:Nat):Int)%16=((x0%16:Nat):Int):=rfl;have t1:((x0:Nat):Int).tmod 16=((x0%16:Nat):Int):=rfl
 have q2:((x1:Nat):Int)/16=((x1/16:Nat):Int):=rfl;have t2:((x1:Nat):Int).tdiv 16=((x1/16:Nat):Int):=rfl;have q3:((x1:Nat):Int)%16=((x1%16:Nat):Int):=rfl;have t3:((x1:Nat):Int).tmod 16=((x1%16:Nat):Int):=rfl;obtain⟨Y1,hY1⟩:∃Y,Y=x0%16*16+x1/16:=⟨_,rfl⟩
 obtain⟨Y2,hY2⟩:∃Y,Y=x1%16*65536+x2*256+x3:=⟨_,rfl⟩;obtain⟨Y3,hY3⟩:∃Y,Y=x4*256+x5:=⟨_,rfl⟩;rw[←hY1,←hY2,←hY3]at HH;have b1:x0%16<16:=by omega
 have b2:x1/16<16:=by omega
 have b3:x1%16<16:=by omega
 generalize x0%16=a0 at *;generalize x1/16=d1 at *;generalize x1%16=a1 at *;have u0:IntKind.u8.wrap ((6:Nat):Int)=((6:Nat):Int):=by decide
 have u1:IntKind.u8.wrap (a0:Int)=(a0:Int):=by rw[IntKind.wrap_u8'];omega
 have u2:IntKind.u8.wrap (d1:Int)=(d1:Int):=by rw[IntKind.wrap_u8'];omega
 have u3:IntKind.u8.wrap (a1:Int)=(a1:Int):=by rw[IntKind.wrap_u8'];omega
 have v0:IntKind.i64.wrap (a0:Int)=(a0:Int):=by rw[IntKind.wrap_i64];omega
 have v1:IntKind.i64.wrap (d1:Int)=(d1:Int):=by rw[IntKind.wrap_i64];omega
 have v2:IntKind.i64.wrap (a1:Int)=(a1:Int):=by rw[IntKind.wrap_i64];omega
 have z2:IntKind.i64.wrap (x2:Int)=(x2:Int):=by rw[IntKind.wrap_i64];omega
 have z3:IntKind.i64.wrap (x3:Int)=(x3:Int):=by rw[IntKind.wrap_i64];omega
 have z4:IntKind.i64.wrap (x4:Int)=(x4:Int):=by rw[IntKind.wrap_i64];omega
 have z5:IntKind.i64.wrap (x5:Int)=(x5:Int):=by rw[IntKind.wrap_i64];omega
 have z6:IntKind.i64.wrap (x6:Int)=(x6:Int):=by rw[IntKind.wrap_i64];omega
 have z7:IntKind.i64.wrap (x7:Int)=(x7:Int):=by rw[IntKind.wrap_i64];omega
 have m1:IntKind.i64.wrap ((a0:Int)*16)=(a0:Int)*16:=by rw[IntKind.wrap_i64];omega
 have m2:IntKind.i64.wrap ((a0:Int)*16+(d1:Int))=(Y1:Int):=by rw[IntKind.wrap_i64];omega
 have m3:IntKind.i64.wrap ((a1:Int)*65536)=(a1:Int)*65536:=by rw[IntKind.wrap_i64];omega
 have m4:IntKind.i64.wrap ((x2:Int)*256)=(x2:Int)*256:=by rw[IntKind.wrap_i64];omega
 have m5:IntKind.i64.wrap ((a1:Int)*65536+(x2:Int)*256)=(a1:Int)*65536+(x2:Int)*256:=by rw[IntKind.wrap_i64];omega
 have m6:IntKind.i64.wrap ((a1:Int)*65536+(x2:Int)*256+(x3:Int))=(Y2:Int):=by rw[IntKind.wrap_i64];omega
 have m7:IntKind.i64.wrap ((x4:Int)*256)=(x4:Int)*256:=by rw[IntKind.wrap_i64];omega
 have m8:IntKind.i64.wrap ((x4:Int)*256+(x5:Int))=(Y3:Int):=by rw[IntKind.wrap_i64];omega
 have HQ:=zH (And.intro q1 (And.intro t1 (And.intro q2 (And.intro t2 (And.intro q3 t3)))));have HU:=zH (And.intro u1 (And.intro u2 (And.intro u3 (And.intro v0 (And.intro v1 v2)))));have HZ:=zH (And.intro z2 (And.intro z3 (And.intro z4 (And.intro z5 (And.intro z6 z7)))))
 have HM:=zH (And.intro m1 (And.intro m2 (And.intro m3 (And.intro m4 (And.intro m5 (And.intro m6 (And.intro m7 m8)))))));have i0:0<l.length:=by omega
 have i1:(1:Int)<(l.length:Int):=by omega
 have i2:(2:Int)<(l.length:Int):=by omega
 have i3:(3:Int)<(l.length:Int):=by omega
 have i4:(4:Int)<(l.length:Int):=by omega
 have i5:(5:Int)<(l.length:Int):=by omega
 have i6:(6:Int)<(l.length:Int):=by omega
 have i7:(7:Int)<(l.length:Int):=by omega
 have HI40:Hid (40≤l.length):=zH (by omega);generalize l.length=n at *;clear q1 q2 q3 t1 t2 t3 u1 u2 u3 v0 v1 v2 z2 z3 z4 z5 z6 z7 m1 m2 m3 m4 m5 m6 m7 m8 hY1 hY2 hY3 b1 b2 b3 g0 g1 g2 g3 g4 g5 g6 g7 h6 hcell hb hl h h40 hA;go_enter Tryz.func41,Tryz.ntmps41
 go_upto_region 5 with fail
 obtain⟨q1,t1,q2,t2,q3,t3⟩:=HQ.out;obtain⟨u1,u2,u3,v0,v1,v2⟩:=HU.out;obtain⟨z2,z3,z4,z5,z6,z7⟩:=HZ.out;obtain⟨m1,m2,m3,m4,m5,m6,m7,m8⟩:=HM.out;clear q0 t0 u0 hc0 HQ HU HZ HM;obtain⟨w1,hw1⟩:∃W,W=w.alloc (.cells arrH0 26):=⟨_,rfl⟩;have hwz:w1.heap.size=w.heap.size+1:=by rw[hw1];simp
 rw[←hw1]at C0 C1 C2 C3 C4 C5 C6 C7 HCell hB0 HA;change Code.wp _ _ _ _ (w.alloc (.cells arrH0 26));rw[←hw1];have HWZ:=zH hwz;have HCB:Hid (b<w1.heap.size):=zH (by have:=World.block_lt_of_cell? w1 _ (C0.out w1 (Chg.refl _ _));exact this);have hD:Chg [] w1 w1.drew:=(Chg.refl [] w1).drew;clear hw1 hwz
 refine wp_region_noPanic ?_;refine wp_region_held_drew (S:=fun W:World=>Chg [] w1 W) (by kernel_rfl) hD (fun _=>?_);refine zU 0 rfl (by go_simp<;>with_reducible rfl) ?_
 try simp only[zP]
 refine zU 1 rfl (by go_simp<;>with_reducible rfl) ?_
 try simp only[zP]
 refine zT 2 rfl (zc (by rfl) 5 (.tmp 17) rfl b o rfl (.int .u8 (x0:Nat)) _ C0.out Tryz.underlying5 rfl) ?_
 try simp only[zP]
 refine zU 3 rfl (by go_simp<;>with_reducible rfl) ?_
 try simp only[zP]
 refine zU 4 rfl (by go_simp<;>with_reducible rfl) ?_
 try simp only[zP]
 refine zU 5 rfl (by go_simp<;>with_reducible rfl) ?_
 try simp only[zP]
 refine zU 6 rfl (by go_simp<;>with_reducible rfl) ?_
 try simp only[zP]
 refine zU 7 rfl (by go_simp<;>with_reducible rfl) ?_
 try simp only[zP]
 refine zT 8 rfl (zc (by rfl) 5 (.tmp 23) rfl b (o+1) rfl (.int .u8 (x1:Nat)) _ C1.out Tryz.underlying5 rfl) ?_
 try simp only[zP]
 refine zU 9 rfl (by go_simp<;>with_reducible rfl) ?_
 try simp only[zP]
 refine zU 10 rfl (by go_simp<;>with_reducible rfl) ?_
 try simp only[zP]
 refine zU 11 rfl (by go_simp<;>with_reducible rfl) ?_
 try simp only[zP]
 refine zU 12 rfl (by go_simp<;>with_reducible rfl) ?_
 try simp only[zP]
 refine zU 13 rfl (by go_simp<;>with_reducible rfl) ?_
 try simp only[zP]
 refine zT 14 rfl (zc (by rfl) 5 (.tmp 29) rfl b (o+1) rfl (.int .u8 (x1:Nat)) _ C1.out Tryz.underlying5 rfl) ?_
 try simp only[zP]
 refine zU 15 rfl (by go_simp<;>with_reducible rfl) ?_
 try simp only[zP]
 refine zU 16 rfl (by go_simp<;>with_reducible rfl) ?_
 try simp only[zP]
 refine zU 17 rfl (by go_simp<;>with_reducible rfl) ?_
 try simp only[zP]
 refine zU 18 rfl (by go_simp<;>with_reducible rfl) ?_
 try simp only[zP]
 refine zU 19 rfl (by go_simp<;>with_reducible rfl) ?_
 try simp only[zP]
 refine zT 20 rfl (zc (by rfl) 5 (.tmp 35) rfl b (o+2) rfl (.int .u8 (x2:Nat)) _ C2.out Tryz.underlying5 rfl) ?_
 try simp only[zP]
 refine zU 21 rfl (by go_simp<;>with_reducible rfl) ?_
 try simp only[zP]
 refine zU 22 rfl (by go_simp<;>with_reducible rfl) ?_
 try simp only[zP]
 refine zU 23 rfl (by go_simp<;>with_reducible rfl) ?_
 try simp only[zP]
 refine zU 24 rfl (by go_simp<;>with_reducible rfl) ?_
 try simp only[zP]
 refine zU 25 rfl (by go_simp<;>with_reducible rfl) ?_
 try simp only[zP]
 refine zT 26 rfl (zc (by rfl) 5 (.tmp 41) rfl b (o+3) rfl (.int .u8 (x3:Nat)) _ C3.out Tryz.underlying5 rfl) ?_
 try simp only[zP]
 refine zU 27 rfl (by go_simp<;>with_reducible rfl) ?_
 try simp only[zP]
 refine zU 28 rfl (by go_simp<;>with_reducible rfl) ?_
 try simp only[zP]
 refine zU 29 rfl (by go_simp<;>with_reducible rfl) ?_
 try simp only[zP]
 refine zU 30 rfl (by go_simp<;>with_reducible rfl) ?_
 try simp only[zP]
 refine zT 31 rfl (zc (by rfl) 5 (.tmp 46) rfl b (o+4) rfl (.int .u8 (x4:Nat)) _ C4.out Tryz.underlying5 rfl) ?_
 try simp only[zP]
 refine zU 32 rfl (by go_simp<;>with_reducible rfl) ?_
 try simp only[zP]
 refine zU 33 rfl (by go_simp<;>with_reducible rfl) ?_
 try simp only[zP]
 refine zU 34 rfl (by go_simp<;>with_reducible rfl) ?_
 try simp only[zP]
 refine zU 35 rfl (by go_simp<;>with_reducible rfl) ?_
 try simp only[zP]
 refine zT 36 rfl (zc (by rfl) 5 (.tmp 51) rfl b (o+5) rfl (.int .u8 (x5:Nat)) _ C5.out Tryz.underlying5 rfl) ?_
 try simp only[zP]
 refine zU 37 rfl (by go_simp<;>with_reducible rfl) ?_
 try simp only[zP]
 refine zU 38 rfl (by go_simp<;>with_reducible rfl) ?_
 try simp only[zP]
 refine zU 39 rfl (by go_simp<;>with_reducible rfl) ?_
 try simp only[zP]
 refine zU 40 rfl (by go_simp<;>with_reducible rfl) ?_
 try simp only[zP]
 refine zT 41 rfl (zc (by rfl) 5 (.tmp 56) rfl b (o+6) rfl (.int .u8 (x6:Nat)) _ C6.out Tryz.underlying5 rfl) ?_
 try simp only[zP]
 refine zU 42 rfl (by go_simp<;>with_reducible rfl) ?_
 try simp only[zP]
 refine zU 43 rfl (by go_simp<;>with_reducible rfl) ?_
 try simp only[zP]
 refine zU 44 rfl (by go_simp<;>with_reducible rfl) ?_
 try simp only[zP]
 refine zT 45 rfl (zc (by rfl) 5 (.tmp 60) rfl b (o+7) rfl (.int .u8 (x7:Nat)) _ C7.out Tryz.underlying5 rfl) ?_
 try simp only[zP]
 refine zU 46 rfl (by go_simp<;>with_reducible rfl) ?_
 try simp only[zP]
 refine zU 47 rfl (by go_simp<;>with_reducible rfl) ?_
 try simp only[zP]
 refine zR 48 rfl (fun K hK=>?_);refine step_run (v:=.pointer (some ⟨w1.heap.size,0,none⟩)) (w':=w1.drew.alloc (.cells arrH0 26)) rfl (by go_simp<;>rfl) ?_;have hS2:(fun W:World=>Chg [] w1 W) (w1.drew.alloc (.cells arrH0 26)):=hD.alloc _
 have hB2:Blk (w1.drew.alloc (.cells arrH0 26)) w1.heap.size 26 arrH0:=Blk.new' rfl;refine zB hK ?_;clear hK K
 try simp only[zP]
 refine zR 49 rfl (fun K hK=>?_);refine step_store_blk (vs:=arrH ⟨Y1,Y2,Y3,x6,x7,ad0,ad0⟩) rfl 26 (.tmp 4) (.tmp 63) rfl hB2 rfl rfl rfl infH (arrH_one _) ?_;intro w3 hB3 hc3;have hS3:(fun W:World=>Chg [] w1 W) w3:=Chg.trans' hS2 hc3 (zN (by omega));have hlt3:w1.heap.size<w3.heap.size:=hB3.lt
 refine zB hK ?_;clear hK K
 try simp only[zP]
 refine wpAnyH_done (by kernel_rfl) ?_ _;refine NoPanic.normal ?_;have HB3:Hid (Blk w3 w1.heap.size 26 (fillH l (arrH ⟨Y1,Y2,Y3,x6,x7,ad0,ad0⟩) 0)):=zH hB3;have HS3:=zH hS3;have HSZ:Hid (∀i,(fillH l (arrH ⟨Y1,Y2,Y3,x6,x7,ad0,ad0⟩) i).size=37):=zH (fun i=>by rw[fillH_size];rfl)
 have HFN:Hid (fillH l (arrH ⟨Y1,Y2,Y3,x6,x7,ad0,ad0⟩) 16=arrH (headOf l)):=zH (by rw[HFa.out,HH.out])
 have HFS:Hid (∀i,fillH l (arrH ⟨Y1,Y2,Y3,x6,x7,ad0,ad0⟩) (i+1)=((fillH l (arrH ⟨Y1,Y2,Y3,x6,x7,ad0,ad0⟩) i).setIfInBounds (5+i) (.int .u8 (gB l (8+i):Nat))).setIfInBounds (21+i) (.int .u8 (gB l (24+i):Nat))):=zH (fun i=>rfl)
 obtain⟨FH,hFH⟩:∃F:Nat→Array Value,∀i,F i=fillH l (arrH ⟨Y1,Y2,Y3,x6,x7,ad0,ad0⟩) i:=⟨_,fun _=>rfl⟩;simp only[←hFH]at HB3 HSZ HFN HFS;obtain⟨GG,hGG⟩:∃F:Nat→Nat,∀i,F i=gB l i:=⟨_,fun _=>rfl⟩;simp only[←hGG]at HCell HFS;have HG3:Hid (w1.heap.size≤w1.heap.size):=zH (Nat.le_refl _)
 obtain⟨g3,hg3⟩:∃g,g=w1.heap.size:=⟨_,rfl⟩;have HG3:Hid (w1.heap.size≤g3):=zH (by omega);have HGW:Hid (w.heap.size<g3):=zH (by have:=HWZ.out;omega);have HCB2:Hid (b<g3):=zH (by have:=HCB.out;omega);rw[←hg3]at HB3 hlt3;rw[←hg3];clear hg3 HCB hB3 hc3 hS2 hB2
 clear hFH hGG hS3 hD HFa HH C0 C1 C2 C3 C4 C5 C6 C7 q1 t1 q2 t2 q3 t3 u1 u2 u3 v0 v1 v2 z2 z3 z4 z5 z6 z7 m1 m2 m3 m4 m5 m6 m7 m8;go_wp2_with fail;go_loopw [5] (fun iv wr=>∃i:Nat,i≤16∧iv=.int .i64 i∧Hid (Blk wr g3 26 (FH i))∧Hid (Chg [] w1 wr)) (fun iv _=>16-(intOf iv).toNat)
 case atStart=>exact⟨0,by omega,rfl,HB3,HS3⟩
 case round=>
  obtain⟨i,hi,rfl,HB,HC⟩:=hrel;by_cases hlt:i<16
  ·have hI:(i:Int)<16:=by omega
   have h40':=HI40.out;have e8:IntKind.i64.wrap (8+(i:Int))=8+(i:Int):=by rw[IntKind.wrap_i64];omega
   have e24:IntKind.i64.wrap (24+(i:Int))=24+(i:Int):=by rw[IntKind.wrap_i64];omega
   have ei:IntKind.i64.wrap ((i:Int)+1)=(i:Int)+1:=by rw[IntKind.wrap_i64];omega
   have j8:8+(i:Int)<(n:Int):=by omega
   have j24:24+(i:Int)<(n:Int):=by omega
   have k8:0≤8+(i:Int):=by omega
   have k24:0≤24+(i:Int):=by omega
   have l8:(8+(i:Int)).toNat=8+i:=by omega
   have l24:(24+(i:Int)).toNat=24+i:=by omega
   have S6:Hid (∀W,Chg [g3] wr W→W.cell? ⟨b,o+(8+i),none⟩=some (.int .u8 (GG (8+i):Nat))):=zH (fun W hc=>by
    have h1:=HCell.out wr HC.out (8+i) (by omega);have hb:=HCB2.out;exact hc.cell h1 (by simp only[List.mem_singleton];omega))
   have S11:Hid (∀W,Chg [g3] wr W→W.cell? ⟨b,o+(24+i),none⟩=some (.int .u8 (GG (24+i):Nat))):=zH (fun W hc=>by
    have h1:=HCell.out wr HC.out (24+i) (by omega);have hb:=HCB2.out;exact hc.cell h1 (by simp only[List.mem_singleton];omega))
   have HF1:=zH (HFS.out i);have HSi:=zH (HSZ.out i);generalize GG (8+i)=y8 at *;generalize GG (24+i)=y24 at *;have hD:Chg [g3] wr wr.drew:=(Chg.refl _ wr).drew;have HBD:=zH HB.out.drew;clear h40';go_upto_region 9 with fail
   refine wp_region_noPanic ?_;refine wp_region_held_drew (S:=fun W:World=>Chg [g3] wr W) (by kernel_rfl) hD (fun _=>?_);refine zU 0 rfl (by go_simp<;>with_reducible rfl) ?_
   try simp only[zP]
   refine zU 1 rfl (by go_simp<;>with_reducible rfl) ?_
   try simp only[zP]
   refine zU 2 rfl (by go_simp<;>with_reducible rfl) ?_
   try simp only[zP]
   refine zU 3 rfl (by go_simp<;>with_reducible rfl) ?_
   try simp only[zP]
   refine zU 4 rfl (by go_simp<;>with_reducible rfl) ?_
   try simp only[zP]
   refine zU 5 rfl (by go_simp<;>with_reducible rfl) ?_
   try simp only[zP]
   refine zT 6 rfl (zc (by rfl) 5 (.tmp 73) rfl b (o+(8+i)) rfl (.int .u8 (y8:Nat)) _ S6.out Tryz.underlying5 rfl) ?_
   try simp only[zP]
   refine zU 7 rfl (by go_simp<;>with_reducible rfl) ?_
   try simp only[zP]
   refine zU 8 rfl (by go_simp<;>with_reducible rfl) ?_
   try simp only[zP]
   refine zU 9 rfl (by go_simp<;>with_reducible rfl) ?_
   try simp only[zP]
   refine zU 10 rfl (by go_simp<;>with_reducible rfl) ?_
   try simp only[zP]
   refine zT 11 rfl (zc (by rfl) 5 (.tmp 78) rfl b (o+(24+i)) rfl (.int .u8 (y24:Nat)) _ S11.out Tryz.underlying5 rfl) ?_
   try simp only[zP]
   refine zU 12 rfl (by go_simp<;>with_reducible rfl) ?_
   try simp only[zP]
   refine zU 13 rfl (by go_simp<;>with_reducible rfl) ?_
   try simp only[zP]
   refine zU 15 rfl (by go_simp<;>with_reducible rfl) ?_
   try simp only[zP]
   refine zR 14 rfl (fun K hK=>?_);refine step_store_cell (v:=.int .u8 (y8:Nat)) rfl 5 (.tmp 81) (.tmp 74) rfl HBD.out rfl rfl rfl (by rw[HSi.out];omega) (by kernel_rfl) rfl ?_;intro w4 hB4 hc4;have hC4:(fun W:World=>Chg [g3] wr W) w4:=hD.trans hc4;clear hc4;refine zB hK ?_;clear hK K
   try simp only[zP]
   refine zU 16 rfl (by go_simp<;>with_reducible rfl) ?_
   try simp only[zP]
   refine zR 17 rfl (fun K hK=>?_);refine step_store_cell (v:=.int .u8 (y24:Nat)) rfl 5 (.tmp 83) (.tmp 79) rfl hB4 rfl rfl rfl (by rw[Array.size_setIfInBounds,HSi.out];omega) (by kernel_rfl) rfl ?_;intro w5 hB5 hc5;have hC5:(fun W:World=>Chg [g3] wr W) w5:=Chg.trans hC4 hc5;clear hc5
   refine zB hK ?_;clear hK K
   try simp only[zP]
   refine wpAnyH_done (by kernel_rfl) ?_ _;refine NoPanic.normal ?_;rw[←HF1.out]at hB5;have HB5:=zH hB5;have HC5:=zH (HC.out.trans' hC5 (by intro x hx;simp at hx;subst hx;right;exact HG3.out));clear hC4 hC5 hB4 hB5 hD HBD S6 S11 HF1 HSi HB HC;go_wp2_with fail;go_round
   case rel=>exact⟨i+1,by omega,by go_num,HB5,HC5⟩
   case measure=>simp[intOf];omega
  ·have e16:(i:Int)=16:=by omega
   have ei:i=16:=by omega
   rw[ei]at HB;rw[HFN.out]at HB;simp only[e16];have hB9:=HB.out;have hB10:=hB0.chg HC.out (by simp);have hg3:=HG3.out;have hgw:=HGW.out;have HCC:=zH (HA.out.trans HC.out);clear e16 ei HC HB HFN HFS HSZ HCell hlt hi hB0 HA;go_wp2_with (first
    |(refine zl rfl 26 (.tmp 4) rfl hB9 rfl _ Tryz.underlying26 rfl infH ?_)
    |(refine zs (vs:=arrH (headOf l)) rfl 26 (.tmp 2) (.tmp 84) rfl rfl hB10 rfl rfl rfl infH (arrH_one _) ?_;intro w11 hB11 hc11)
    |fail)
   refine bodyPost_ret (zr rfl rfl hB11 _ Tryz.underlying26 rfl infH) rfl ?_;exact⟨by rw[hR.out];rfl,HCC.out.trans' hc11 (zN (by omega))⟩
theorem rget_any {w:World} {v:Value} {l:By} (h:SlY w 0 v l) (hb:okB l) (hl:l.length≤1000000):Calls Tryz.prog 41 #[v] w fun e w'=>e=.returned (getV l)∧Chg [] w w':=rget_big h hb (by omega)
end Go.Proofs.YtgbndaiifbogmaaGreat
namespace Go.Proofs.YtgbndaiifbogmaaGreat
open Go.RowKit Go.Maps
def OwP5 (w:World) (B:Nat) (v:Value) (L:List Pt):Prop:=w.ownsRow B 128 3 v L.length (L.flatMap encP)
theorem elP5:El Tryz.prog 123 128 (.agg #[.int .i64 0,.int .i64 0,.int .i64 0]) 3 24:=⟨Tryz.underlying123,by kernel_rfl,rfl,by omega⟩
def WkPost5 (x:Ans (List Pt)) (B:Nat) (e:Ending) (w':World):Prop:=match x with
 |.error n=>e=.returned (.tuple #[.slice none 0 0,.int .i64 n])
 |.ok r=>∃v',e=.returned (.tuple #[v',.int .i64 0])∧OwP5 w' B v' r
theorem WkPost5.err {x:Ans (List Pt)} {B:Nat} {w':World} {n:Int} (h:x=.error n):WkPost5 x B (.returned (.tuple #[.slice none 0 0,.int .i64 n])) w':=by
 subst h;rfl
theorem WkPost5.ok {x:Ans (List Pt)} {B:Nat} {w':World} {v':Value} {r:List Pt} (h:x=.ok r) (ho:OwP5 w' B v' r):WkPost5 x B (.returned (.tuple #[v',.int .i64 0])) w':=by
 subst h;exact⟨v',rfl,ho⟩
def Walk5 (l:By) (f many:Nat):Prop:=∀(w:World) (v:Value) (next:Int) (at_:Nat),SlY w 0 v l→at_≤l.length →
 Calls Tryz.prog 42 #[v,.int .i64 next,.int .i64 at_,.int .i64 many] w fun e w'=>WkPost5 (walkW l f next at_ many) w.heap.size e w'∧Chg [] w w'
theorem rwalk_step {l:By} (hb:okB l) (hl:l.length≤1000000) {f many:Nat} (hf:many+(f+1)=9) (REC:Hid (many≠8→Walk5 l f (many+1))):Walk5 l (f+1) many:=by
 intro w v next at_ h ha;obtain⟨A,c,rfl⟩:=h.form;have HX:Hid (walkW l (f+1) next at_ many=if mayW next many≠0 then .error (mayW next many)
  else if extW next=false then .ok [⟨next,at_,l.length-at_⟩]
  else if l.length<at_+2∨l.length<at_+(8*gB l (at_+1)+8) then .error 3
  else match walkW l f (gB l at_) (at_+(8*gB l (at_+1)+8)) (many+1) with
   |.error e=>.error e
   |.ok r=>.ok (⟨next,at_,8*gB l (at_+1)+8⟩::r)):=zH rfl
 generalize walkW l (f+1) next at_ many=x at *;have hI0:¬((at_:Int)<0):=by omega
 have hI1:¬((at_:Int)>(l.length:Int)):=by omega
 have HB:=zH hb;have HS:=zH h;clear hb h;by_cases h44:next=44
 ·subst h44;have hX:=HX.out;rw[show mayW 44 many=7 from rfl,if_pos (by omega)]at hX;replace hX:=zH hX;clear HX;go_enter Tryz.func42,Tryz.ntmps42
  go_wp2_with fail;go_ret2
  exact⟨WkPost5.err hX.out,Chg.refl _ _⟩
 have k44:(next==44)=false:=by simpa using h44
 by_cases h0m:next=0∧0<many
 ·obtain⟨h0,hm⟩:=h0m;subst h0;have hX:=HX.out;rw[show mayW 0 many=5 from by unfold mayW;rw[if_neg (by omega),if_pos ⟨rfl,hm⟩],if_pos (by omega)]at hX;replace hX:=zH hX;have hI2:0<many:=hm;clear HX;go_enter Tryz.func42,Tryz.ntmps42
  go_wp2_with fail;go_ret2
  exact⟨WkPost5.err hX.out,Chg.refl _ _⟩
 by_cases hext:next≠0∧next≠43∧next≠60
 ·obtain⟨e0,e43,e60⟩:=hext;have hX:=HX.out;have hxe:extW next=false:=by unfold extW;exact decide_eq_false (by omega)
  rw[show mayW next many=0 from by unfold mayW;rw[if_neg h44,if_neg (by omega),if_neg (by rw[hxe];simp)],if_neg (by omega),if_pos hxe]at hX;replace hX:=zH hX;have k0:(next==0)=false:=by simpa using e0
  have n0:(next !=0)=true:=by simpa using e0
  have n43:(next !=43)=true:=by simpa using e43
  have n60:(next !=60)=true:=by simpa using e60
  have hw:IntKind.i64.wrap ((l.length:Int)-(at_:Int))=((l.length-at_:Nat):Int):=by rw[IntKind.wrap_i64];omega
  have HO:=zH (own_lit (base:=w.heap.size) w 128 3 1 #[.int .i64 next,.int .i64 (at_:Nat),.int .i64 (l.length-at_:Nat)] (Nat.le_refl _) (by simp[maxLen]) rfl);have HA:=zH ((Chg.refl [] w).alloc (.cells #[.int .i64 next,.int .i64 (at_:Nat),.int .i64 (l.length-at_:Nat)] 128))
  generalize l.length-at_=d at *;clear HX e0 e43 e60 hxe h0m h44 REC;go_enter Tryz.func42,Tryz.ntmps42
  go_wp2_with fail;go_ret2
  exact⟨WkPost5.ok hX.out HO.out,HA.out⟩
 have hx:next=0∧¬0<many∨next=43∨next=60:=by omega
 have hxe:extW next=true:=by unfold extW;exact decide_eq_true (by omega)
 have hX:=HX.out;by_cases h8:many=8
 ·rw[show mayW next many=8 from by unfold mayW;rw[if_neg h44,if_neg h0m,if_pos ⟨hxe,by omega⟩],if_pos (by omega)]at hX;replace hX:=zH hX;subst h8;clear HX hxe hext h0m h44 REC;rcases hx with ⟨_,h⟩|rfl|rfl
  ·omega
  all_goals
   go_enter Tryz.func42,Tryz.ntmps42
   go_wp2_with fail;go_ret2
   exact⟨WkPost5.err hX.out,Chg.refl _ _⟩
 rw[show mayW next many=0 from by unfold mayW;rw[if_neg h44,if_neg h0m,if_neg (by omega)],if_neg (by omega),if_neg (by rw[hxe];simp)]at hX;replace HX:=zH hX;have k8:((many:Int)==8)=false:=by simp;omega
 have hm8:many<8:=by omega
 have HREC:=zH (REC.out h8);clear hX REC h8 h44;have hwn:IntKind.i64.wrap ((l.length:Int)-2)=(l.length:Int)-2:=by rw[IntKind.wrap_i64];omega
 have hww:IntKind.i64.wrap ((l.length:Int)-(at_:Int))=(l.length:Int)-(at_:Int):=by rw[IntKind.wrap_i64];omega
 by_cases hs:l.length<at_+2
 ·have hX:=HX.out;rw[if_pos (.inl hs)]at hX;replace hX:=zH hX;have hI2:(at_:Int)>(l.length:Int)-2:=by omega
  clear HX hxe hext h0m HREC;rcases hx with ⟨rfl,hq⟩|rfl|rfl
  all_goals
   go_enter Tryz.func42,Tryz.ntmps42
   go_wp2_with fail;go_ret2
   exact⟨WkPost5.err hX.out,Chg.refl _ _⟩
 have hI2:¬((at_:Int)>(l.length:Int)-2):=by omega
 obtain⟨b,o,c',e,_,_,hcell⟩:=HS.out.all (by omega);simp only[Value.slice.injEq,true_and]at e;obtain⟨rfl,rfl⟩:=e;have c0:=hcell at_ (by omega);have c1:=hcell (at_+1) (by omega);have g0:=gB_lt HB.out at_;have g1:=gB_lt HB.out (at_+1);simp only[byV]at c0 c1;generalize gB l at_=x0 at *
 generalize gB l (at_+1)=x1 at *;have a1:IntKind.i64.wrap ((at_:Int)+1)=(at_:Int)+1:=by rw[IntKind.wrap_i64];omega
 have j1:(at_:Int)+1<(l.length:Int):=by omega
 have j0:(at_:Int)<(l.length:Int):=by omega
 have v0:IntKind.i64.wrap (x0:Int)=(x0:Int):=by rw[IntKind.wrap_i64];omega
 have v1:IntKind.i64.wrap (x1:Int)=(x1:Int):=by rw[IntKind.wrap_i64];omega
 have v2:IntKind.i64.wrap (8*(x1:Int))=8*(x1:Int):=by rw[IntKind.wrap_i64];omega
 obtain⟨d,hd⟩:∃d,d=8*x1+8:=⟨_,rfl⟩;have v3:IntKind.i64.wrap (8*(x1:Int)+8)=(d:Int):=by rw[IntKind.wrap_i64];omega
 rw[←hd]at HX;clear hcell;by_cases hs2:l.length<at_+d
 ·have hX:=HX.out;rw[if_pos (.inr hs2)]at hX;replace hX:=zH hX;have hI3:(d:Int)>(l.length:Int)-(at_:Int):=by omega
  clear HX hxe hext h0m HREC hd;rcases hx with ⟨rfl,hq⟩|rfl|rfl
  all_goals
   go_enter Tryz.func42,Tryz.ntmps42
   go_wp2_with fail;go_ret2
   exact⟨WkPost5.err hX.out,Chg.refl _ _⟩
 have hI3:¬((d:Int)>(l.length:Int)-(at_:Int)):=by omega
 have hX:=HX.out;rw[if_neg (by omega)]at hX;replace HX:=zH hX;have v4:IntKind.i64.wrap ((at_:Int)+(d:Int))=((at_+d:Nat):Int):=by rw[IntKind.wrap_i64];omega
 have v5:IntKind.i64.wrap ((many:Int)+1)=((many+1:Nat):Int):=by rw[IntKind.wrap_i64];omega
 have FW:=zH (HREC.out w (.slice (some ⟨b,o,none⟩) l.length c) (x0:Int) (at_+d) HS.out (by omega));have HE:=zH (fun n (k:walkW l f (x0:Int) (at_+d) (many+1)=.error n)=>walkW_err _ _ _ _ k);have HLen:=zH (fun L (k:walkW l f (x0:Int) (at_+d) (many+1)=.ok L)=>(walkW_len _ _ _ _ (by omega) k).2.1)
 generalize walkW l f (x0:Int) (at_+d) (many+1)=y at *;obtain⟨ad,had⟩:∃ad,ad=at_+d:=⟨_,rfl⟩;obtain⟨mm,hmm⟩:∃mm,mm=many+1:=⟨_,rfl⟩;rw[←had]at FW v4;rw[←hmm]at FW v5;have HF:Hid (f≤9):=zH (by omega);clear hX hxe hext h0m HREC hd HS HB hs hs2 had hmm hf;rcases hx with ⟨rfl,hq⟩|rfl|rfl
 ·go_enter Tryz.func42,Tryz.ntmps42
  go_wp2_with fail;refine FW.out.mono ?_;rintro e w1 ⟨hp,hc1⟩;have HC1:=zH hc1;cases y with
  |error n=>
   obtain rfl:e=_:=hp;have hn:=HE.out n rfl;have hI9:(n !=0)=true:=by simpa using hn
   have hX:=HX.out;simp only at hX;replace hX:=zH hX;clear HX HE HLen hn hc1 FW;go_wp2_with fail;go_ret2
   exact⟨WkPost5.err hX.out,HC1.out⟩
  |ok L=>
   obtain⟨v',rfl,ho⟩:=hp;have hLn:=HLen.out L rfl;have hf9:=HF.out;have hX:=HX.out;simp only at hX;replace hX:=zH hX;obtain⟨A9,c9,rfl⟩:=Sl.form (Sl.of_own ho);have hA2:=(Chg.refl [] w1).alloc (.cells #[.int .i64 0,.int .i64 (at_:Nat),.int .i64 (d:Nat)] 128);have HT:=zH (Sl.chg0 (Sl.of_own ho) hA2)
   have HO:=zH (own_lit (base:=w1.heap.size) w1 128 3 1 #[.int .i64 0,.int .i64 (at_:Nat),.int .i64 (d:Nat)] (Nat.le_refl _) (by simp[maxLen]) rfl);have HC2:=zH (HC1.out.trans hA2);have hz:=HC2.out.size;have HON:=zH (fun u (hu:u∈L.flatMap encP)=>flat_one encP_one L u hu);have hzw:=hc1.size
   clear HX HE HLen hc1 FW ho hA2;go_wp2_with (first
    |(at_builtin;refine wpList_app elP5 rfl (.tmp 99) (.tmp 100) rfl w1.heap.size rfl HO.out rfl HT.out HON.out (by unfold maxLen;omega) (by omega) (by simp) ?_;intro v3 w3 hown3 hc3 hb3)
    |fail)
   go_ret2
   refine⟨WkPost5.ok hX.out ?_,HC2.out.trans' hc3 (fun x hx=>.inr (by have:=(own_lt HO.out x hx).1;omega))⟩;have h9:=ownsRow_less hown3 (show w.heap.size≤w1.heap.size from hzw);unfold OwP5;rw[show 1+L.length=L.length+1 by omega]at h9;rw[List.length_cons,List.flatMap_cons];exact h9
 ·go_enter Tryz.func42,Tryz.ntmps42
  go_wp2_with fail;refine FW.out.mono ?_;rintro e w1 ⟨hp,hc1⟩;have HC1:=zH hc1;cases y with
  |error n=>
   obtain rfl:e=_:=hp;have hn:=HE.out n rfl;have hI9:(n !=0)=true:=by simpa using hn
   have hX:=HX.out;simp only at hX;replace hX:=zH hX;clear HX HE HLen hn hc1 FW;go_wp2_with fail;go_ret2
   exact⟨WkPost5.err hX.out,HC1.out⟩
  |ok L=>
   obtain⟨v',rfl,ho⟩:=hp;have hLn:=HLen.out L rfl;have hf9:=HF.out;have hX:=HX.out;simp only at hX;replace hX:=zH hX;obtain⟨A9,c9,rfl⟩:=Sl.form (Sl.of_own ho);have hA2:=(Chg.refl [] w1).alloc (.cells #[.int .i64 43,.int .i64 (at_:Nat),.int .i64 (d:Nat)] 128);have HT:=zH (Sl.chg0 (Sl.of_own ho) hA2)
   have HO:=zH (own_lit (base:=w1.heap.size) w1 128 3 1 #[.int .i64 43,.int .i64 (at_:Nat),.int .i64 (d:Nat)] (Nat.le_refl _) (by simp[maxLen]) rfl);have HC2:=zH (HC1.out.trans hA2);have hz:=HC2.out.size;have HON:=zH (fun u (hu:u∈L.flatMap encP)=>flat_one encP_one L u hu);have hzw:=hc1.size
   clear HX HE HLen hc1 FW ho hA2;go_wp2_with (first
    |(at_builtin;refine wpList_app elP5 rfl (.tmp 99) (.tmp 100) rfl w1.heap.size rfl HO.out rfl HT.out HON.out (by unfold maxLen;omega) (by omega) (by simp) ?_;intro v3 w3 hown3 hc3 hb3)
    |fail)
   go_ret2
   refine⟨WkPost5.ok hX.out ?_,HC2.out.trans' hc3 (fun x hx=>.inr (by have:=(own_lt HO.out x hx).1;omega))⟩;have h9:=ownsRow_less hown3 (show w.heap.size≤w1.heap.size from hzw);unfold OwP5;rw[show 1+L.length=L.length+1 by omega]at h9;rw[List.length_cons,List.flatMap_cons];exact h9
 ·go_enter Tryz.func42,Tryz.ntmps42
  go_wp2_with fail;refine FW.out.mono ?_;rintro e w1 ⟨hp,hc1⟩;have HC1:=zH hc1;cases y with
  |error n=>
   obtain rfl:e=_:=hp;have hn:=HE.out n rfl;have hI9:(n !=0)=true:=by simpa using hn
   have hX:=HX.out;simp only at hX;replace hX:=zH hX;clear HX HE HLen hn hc1 FW;go_wp2_with fail;go_ret2
   exact⟨WkPost5.err hX.out,HC1.out⟩
  |ok L=>
   obtain⟨v',rfl,ho⟩:=hp;have hLn:=HLen.out L rfl;have hf9:=HF.out;have hX:=HX.out;simp only at hX;replace hX:=zH hX;obtain⟨A9,c9,rfl⟩:=Sl.form (Sl.of_own ho);have hA2:=(Chg.refl [] w1).alloc (.cells #[.int .i64 60,.int .i64 (at_:Nat),.int .i64 (d:Nat)] 128);have HT:=zH (Sl.chg0 (Sl.of_own ho) hA2)
   have HO:=zH (own_lit (base:=w1.heap.size) w1 128 3 1 #[.int .i64 60,.int .i64 (at_:Nat),.int .i64 (d:Nat)] (Nat.le_refl _) (by simp[maxLen]) rfl);have HC2:=zH (HC1.out.trans hA2);have hz:=HC2.out.size;have HON:=zH (fun u (hu:u∈L.flatMap encP)=>flat_one encP_one L u hu);have hzw:=hc1.size
   clear HX HE HLen hc1 FW ho hA2;go_wp2_with (first
    |(at_builtin;refine wpList_app elP5 rfl (.tmp 99) (.tmp 100) rfl w1.heap.size rfl HO.out rfl HT.out HON.out (by unfold maxLen;omega) (by omega) (by simp) ?_;intro v3 w3 hown3 hc3 hb3)
    |fail)
   go_ret2
   refine⟨WkPost5.ok hX.out ?_,HC2.out.trans' hc3 (fun x hx=>.inr (by have:=(own_lt HO.out x hx).1;omega))⟩;have h9:=ownsRow_less hown3 (show w.heap.size≤w1.heap.size from hzw);unfold OwP5;rw[show 1+L.length=L.length+1 by omega]at h9;rw[List.length_cons,List.flatMap_cons];exact h9
theorem rwalk_all {l:By} (hb:okB l) (hl:l.length≤1000000):∀(f many:Nat),many+(f+1)=9→Walk5 l (f+1) many
 |0,many,h=>rwalk_step hb hl h (zH (fun h8=>absurd (by omega) h8))
 |f+1,many,h=>rwalk_step hb hl h (zH (fun _=>rwalk_all hb hl f (many+1) (by omega)))
theorem rwalk_any {w:World} {v:Value} {l:By} (h:SlY w 0 v l) (hb:okB l) (hl:l.length≤1000000) (next:Int) (h40:40≤l.length) :
  Calls Tryz.prog 42 #[v,.int .i64 next,.int .i64 40,.int .i64 0] w fun e w'=>WkPost5 (walkS l next 40) w.heap.size e w'∧Chg [] w w':=by
 unfold walkS;rw[if_neg (by omega)];exact rwalk_all hb hl 8 0 rfl w v next 40 h h40
end Go.Proofs.YtgbndaiifbogmaaGreat

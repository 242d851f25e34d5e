/-
  Small laws and walks on the way to LearnSaid: Ra, Rz, Ro6, Rb, Rm12, Rc. Conditions: each theorem names its own.
-/
import Derived.Test.YtgbndaiifbogmaaGreatZ19
import Derived.Test.YtgbndaiifbogmaaGreatZ10
import Derived.Test.YtgbndaiifbogmaaGreatZ17
set_option linter.unusedVariables false
set_option linter.unusedSimpArgs false
set_option maxRecDepth 100000
set_option maxHeartbeats 8000000
namespace Go.Proofs.YtgbndaiifbogmaaGreat
open Go.RowKit Go.Maps
theorem r16_any {w:World} {v:Value} {B:Nat} {l:By} (h:SlY w B v l) (hb:okB l) (hn:l.length≤1000000) {at_:Nat} (ha:at_+2≤l.length) :
  Calls Tryz.prog 160 #[v,.int .i64 at_] w fun e w'=>e=.returned (.tuple #[.int .i64 (w2 l at_),.bool true])∧Chg [] w w':=by
 obtain⟨A,c,rfl⟩:=h.form;obtain⟨b,o,c',e,_,_,hc⟩:=h.all (by omega);simp only[Value.slice.injEq,true_and]at e;obtain⟨rfl,rfl⟩:=e;have c0:=hc at_ (by omega);have c1:=hc (at_+1) (by omega);have h0:=gB_lt hb at_;have h1:=gB_lt hb (at_+1)
 have hw:IntKind.i64.wrap ((gB l at_:Int)*256)=(gB l at_:Int)*256:=by rw[IntKind.wrap_i64];omega
 have hw2:IntKind.i64.wrap ((gB l at_:Int)*256+(gB l (at_+1):Int))=(w2 l at_:Nat):=by rw[IntKind.wrap_i64];unfold w2;omega
 simp only[byV]at c0 c1;generalize gB l at_=x0 at *;generalize gB l (at_+1)=x1 at *;generalize w2 l at_=y at *;generalize l.length=n at *;have hI0:¬((at_:Int)<0):=by omega
 have hwn:IntKind.i64.wrap ((n:Int)-1)=(n:Int)-1:=by rw[IntKind.wrap_i64];omega
 have hwa:IntKind.i64.wrap ((at_:Int)+1)=(at_:Int)+1:=by rw[IntKind.wrap_i64];omega
 have hI1:¬((at_:Int)≥(n:Int)-1):=by omega
 have i0:(at_:Int)<(n:Int):=by omega
 have i1:(at_:Int)+1<(n:Int):=by omega
 have wx0:IntKind.i64.wrap (x0:Int)=(x0:Int):=by rw[IntKind.wrap_i64];omega
 have wx1:IntKind.i64.wrap (x1:Int)=(x1:Int):=by rw[IntKind.wrap_i64];omega
 clear hc hb h;go_enter Tryz.func160,Tryz.ntmps160
 go_upto_region 3 with fail
 go_quiet (fail)
 go_wp2_with fail;go_ret2
 exact⟨rfl,(Chg.refl _ _).drewN _⟩
theorem r32_any {w:World} {v:Value} {B:Nat} {l:By} (h:SlY w B v l) (hb:okB l) (hn:l.length≤1000000) {at_:Nat} (ha:at_+4≤l.length) :
  Calls Tryz.prog 102 #[v,.int .i64 at_] w fun e w'=>e=.returned (.tuple #[.int .u32 (w4 l at_),.bool true])∧Chg [] w w':=by
 obtain⟨A,c,rfl⟩:=h.form;have F1:=zH (r16_any h hb hn (at_:=at_) (by omega));have F2:=zH (fun W (hc:Chg [] w W)=>r16_any (h.chg0 hc) hb hn (at_:=at_+2) (by omega));have k1:=w2_lt hb at_;have k2:=w2_lt hb (at_+2);have u1:IntKind.u32.wrap (w2 l at_:Int)=(w2 l at_:Int):=by rw[IntKind.wrap_u32'];omega
 have u2:IntKind.u32.wrap (w2 l (at_+2):Int)=(w2 l (at_+2):Int):=by rw[IntKind.wrap_u32'];omega
 have u3:IntKind.u32.wrap ((w2 l at_:Int)*65536)=(w2 l at_:Int)*65536:=by rw[IntKind.wrap_u32'];omega
 have u4:IntKind.u32.wrap ((w2 l at_:Int)*65536+(w2 l (at_+2):Int))=(w4 l at_:Nat):=by rw[IntKind.wrap_u32'];unfold w4;omega
 have HU:=zH (And.intro u1 (And.intro u2 (And.intro u3 u4)));have hwn:IntKind.i64.wrap ((l.length:Int)-3)=(l.length:Int)-3:=by rw[IntKind.wrap_i64];omega
 have hwa:IntKind.i64.wrap ((at_:Int)+2)=(at_:Int)+2:=by rw[IntKind.wrap_i64];omega
 have hI0:¬((at_:Int)<0):=by omega
 have hI1:¬((at_:Int)≥(l.length:Int)-3):=by omega
 generalize w2 l at_=x0 at *;generalize w2 l (at_+2)=x1 at *;generalize w4 l at_=y at *;generalize l.length=n at *;clear hb h u1 u2 u3 u4 k1 k2;go_enter Tryz.func102,Tryz.ntmps102
 go_wp2_with fail;refine F1.out.mono ?_;rintro e w1 ⟨rfl,hc1⟩;go_wp2_with fail;refine (F2.out _ hc1).mono ?_;rintro e w2 ⟨rfl,hc2⟩;obtain⟨u1,u2,u3,u4⟩:=HU.out;go_wp2_with fail;go_ret2
 exact⟨rfl,hc1.trans hc2⟩
theorem rmod_any {n:Nat} (h:n<4294967296) (w:World):Calls Tryz.prog 161 #[.int .i64 n] w fun e w'=>e=.returned (.int .i64 (n%65536:Nat))∧w=w':=by
 have hb:=and_word h;generalize n%65536=m at *;clear h;go_enter Tryz.func161,Tryz.ntmps161
 go_wp2
 go_ret
 exact⟨rfl,rfl⟩
theorem rjoin_any {a b:Nat} (ha:a<4294967296) (hb:b<4294967296) (w:World):Calls Tryz.prog 99 #[.int .i64 a,.int .i64 b] w fun e w'=>e=.returned (.int .i64 (joinC a b:Nat))∧w=w':=by
 have F1:=zH (rmod_any ha w);have F2:=zH (rmod_any hb w);have HJ:Hid (joinC a b=if a%65536+b%65536>65535 then a%65536+b%65536-65535 else a%65536+b%65536):=zH rfl;have l1:a%65536<65536:=Nat.mod_lt _ (by omega);have l2:b%65536<65536:=Nat.mod_lt _ (by omega);generalize joinC a b=r at *
 generalize a%65536=x at *;generalize b%65536=y at *;have hw:IntKind.i64.wrap ((x:Int)+(y:Int))=(x:Int)+(y:Int):=by rw[IntKind.wrap_i64];omega
 by_cases hk:x+y>65535
 ·have hr:=HJ.out;rw[if_pos hk]at hr;have hI:(x:Int)+(y:Int)>65535:=by omega
  have hw2:IntKind.i64.wrap ((x:Int)+(y:Int)-65535)=(r:Nat):=by rw[IntKind.wrap_i64];omega
  clear HJ hr hk ha hb;go_enter Tryz.func99,Tryz.ntmps99
  go_wp2_with fail;refine F1.out.mono ?_;rintro e w1 ⟨rfl,rfl⟩;go_wp2_with fail;refine F2.out.mono ?_;rintro e w1 ⟨rfl,rfl⟩;go_wp2_with fail;go_ret
  exact⟨rfl,rfl⟩
 ·have hr:=HJ.out;rw[if_neg hk]at hr;have hI:¬((x:Int)+(y:Int)>65535):=by omega
  have HR:Hid ((r:Int)=(x:Int)+(y:Int)):=zH (by omega);clear HJ hr hk ha hb;go_enter Tryz.func99,Tryz.ntmps99
  go_wp2_with fail;refine F1.out.mono ?_;rintro e w1 ⟨rfl,rfl⟩;go_wp2_with fail;refine F2.out.mono ?_;rintro e w1 ⟨rfl,rfl⟩;go_wp2_with fail;go_ret
  exact⟨by rw[HR.out];rfl,rfl⟩
theorem sumC_pad:∀(s:Nat) (l:By),l.length%2=1→sumC s (l ++ [0])=sumC s l
 |s,[],h=>by simp at h
 |s,[x],h=>by
  show joinC s (x*256+0)=joinC s (x*256);rw[Nat.add_zero]
 |s,x::y::r,h=>by
  show sumC (joinC s (x*256+y)) (r ++ [0])=sumC (joinC s (x*256+y)) r;exact sumC_pad _ r (by simp only[List.length_cons]at h;omega)
theorem rsum_any {w:World} {v:Value} {l:By} (h:SlY w 0 v l) (hb:okB l) (hn:l.length≤900000) :
  Calls Tryz.prog 101 #[v] w fun e w'=>e=.returned (.int .i64 (sumC 0 l:Nat))∧Chg [] w w':=by
 obtain⟨A,c,rfl⟩:=h.form;obtain⟨S,hS⟩:∃S,S=sumC 0 l:=⟨_,rfl⟩;rw[←hS];have HS0:=zH hS;clear hS;have hrem:(l.length:Int).tmod 2=((l.length%2:Nat):Int):=rfl;by_cases he:l.length%2=1
 ·rw[he]at hrem;have hp:=sumC_pad 0 l he;have H0:Hid (w.drew=w.drew):=zH rfl;have HA1:=zH ((Chg.refl [] w).alloc (.cells #[] 5))
  have HO1:Hid ((w.alloc (.cells #[] 5)).ownsRow w.heap.size 5 1 (.slice (some ⟨w.heap.size,0,none⟩) 0 0) 0 []):=zH (own_lit (base:=w.heap.size) w 5 1 0 #[] (Nat.le_refl _) (by simp[maxLen]) rfl);have HSl:=zH (h.chg0 HA1.out);have HBB:=zH (And.intro hb h);clear hb h
  go_enter Tryz.func101,Tryz.ntmps101
  go_upto_region 3 with (first
   |(at_builtin;refine wpList_app elY rfl (.tmp 11) (.tmp 12) rfl w.heap.size rfl HO1.out rfl HSl.out (byV_one _) (by unfold maxLen;omega) (by omega) (by simp) ?_;intro v2 wa hown2 hc2 hb2;have HA3:=zH ((Chg.refl [] wa).alloc (.cells #[byV 0] 5));have HO3:=zH (own_chg hown2 HA3.out (by simp));have HT3:Hid (Sl (wa.alloc (.cells #[byV 0] 5)) 0 1 (.slice (some ⟨wa.heap.size,0,none⟩) 1 1) 1 ([0].map byV)):=zH (Sl.of_own (own_lit (base:=0) wa 5 1 1 #[byV 0] (Nat.zero_le _) (by simp[maxLen]) rfl));have hz3:w.heap.size≤(wa.alloc (.cells #[byV 0] 5)).heap.size:=(by have:=hc2.size;simp at this ⊢;omega))
   |(at_builtin;refine wpList_app elY rfl (.tmp 13) (.tmp 14) rfl w.heap.size rfl HO3.out rfl HT3.out (byV_one _) (by unfold maxLen;omega) (by omega) hz3 ?_;intro v4 w4 hown4 hc4 hb4)
   |fail)
  have HC4:Hid (Chg [] w w4):=zH (((HA1.out.trans' hc2 (fun x hx=>.inr (own_lt HO1.out x hx).1)).trans HA3.out).trans' hc4 (fun x hx=>.inr (own_lt HO3.out x hx).1));have ho4:SlY w4 0 v4 (l ++ [0]):=by
   refine Sl.less (OwY.sl (B:=w.heap.size) ?_) (Nat.zero_le _);unfold OwY;rw[List.length_append,List.map_append];simpa using hown4
  have hbm:okB (l ++ [0]):=HBB.out.1.app (by intro x hx;simp at hx;omega);have hm2:(l ++ [0]).length%2=0:=by rw[List.length_append,List.length_singleton];omega
  have hml:(l ++ [0]).length≤900001:=by rw[List.length_append,List.length_singleton];omega
  have HSum:Hid (sumC 0 (l ++ [0])=sumC 0 l):=zH hp;clear hown2 hown4 hc2 hc4 hb2 hb4 HA1 HO1 HSl HBB HA3 HO3 HT3 hz3 hp he hrem;generalize l ++ [0]=m at *;obtain⟨A4,c4,rfl⟩:=ho4.form;have HM:=zH (And.intro ho4 hbm);clear ho4 hbm hn;have HMl:Hid (m.length≤900001∧m.length%2=0):=zH ⟨hml,hm2⟩
  have hml':m.length≤900001:=hml;have HS2:Hid (sumC 0 m=S):=zH (HSum.out.trans HS0.out.symm);clear HSum hm2 hml HS0;go_wp2_with fail
  go_loopw [3,4,5,6] (fun sv iv _ _ wr=>∃i s:Nat,i≤m.length∧i%2=0∧s<65536∧iv=.int .i64 i∧sv=.int .i64 (s:Nat)∧Hid (sumC s (m.drop i)=S)∧Hid (Chg [] w4 wr)) (fun _ iv _ _ _=>m.length-(intOf iv).toNat)
  case atStart=>exact⟨0,0,by omega,by omega,by omega,rfl,rfl,HS2,zH (Chg.refl _ _)⟩
  case round=>
   obtain⟨i,s,hi,hi2,hs,rfl,rfl,HJ,HC⟩:=hrel;by_cases hlt:i<m.length
   ·have hev:=HMl.out.2;have hi1:i+2≤m.length:=by omega
    have HJ':Hid (sumC (joinC s (w2 m i)) (m.drop (i+2))=S):=zH (by rw[←HJ.out];exact (sumC_two (by omega)).symm);have F1:=zH (r16_any (HM.out.1.chg0 HC.out) HM.out.2 (by omega) (at_:=i) hi1);have hwl:=w2_lt HM.out.2 i;have F2:=zH (fun W=>rjoin_any (a:=s) (b:=w2 m i) (by omega) (by omega) W)
    have hj:=joinC_lt s (w2 m i);have hI:(i:Int)<(m.length:Int):=by omega
    have hw:IntKind.i64.wrap ((i:Int)+2)=(i:Int)+2:=by rw[IntKind.wrap_i64];omega
    generalize joinC s (w2 m i)=s2 at *;generalize w2 m i=y at *;clear hev hwl HJ HM;go_wp2_with fail;refine F1.out.mono ?_;rintro e w5 ⟨rfl,hc5⟩;go_wp2_with fail;refine (F2.out _).mono ?_;rintro e w6 ⟨rfl,hw6⟩;rw[hw6]at hc5;have HC6:=zH (HC.out.trans hc5);clear hc5 F1 F2 hw6 HC;go_wp2_with fail
    go_round
    case rel=>exact⟨i+2,s2,by omega,by omega,hj,by go_num,rfl,HJ',HC6⟩
    case measure=>simp[intOf];omega
   ·obtain rfl:i=m.length:=by omega
    have hq:=HJ.out;rw[List.drop_length]at hq;have hq':Hid (s=S):=zH hq;have hI:¬((m.length:Int)<(m.length:Int)):=by omega
    clear HJ HM hq;go_wp2_with fail;go_ret
    exact⟨by rw[←hq'.out];rfl,HC4.out.trans HC.out⟩
 ·have he2:l.length%2=0:=by omega
  rw[he2]at hrem;have HSum:Hid (sumC 0 l=sumC 0 l):=zH rfl;have HM:=zH (And.intro h hb);have hm2:l.length%2=0:=he2;have hml:l.length≤900001:=by omega
  clear hb h he he2;go_enter Tryz.func101,Tryz.ntmps101
  go_upto_region 3 with fail
  clear hrem hn;have HMl:Hid (l.length≤900001∧l.length%2=0):=zH ⟨hml,hm2⟩;have hml':l.length≤900001:=hml;have HS2:Hid (sumC 0 l=S):=zH (HSum.out.trans HS0.out.symm);clear HSum hm2 hml HS0;go_wp2_with fail
  go_loopw [3,4,5,6] (fun sv iv _ _ wr=>∃i s:Nat,i≤l.length∧i%2=0∧s<65536∧iv=.int .i64 i∧sv=.int .i64 (s:Nat)∧Hid (sumC s (l.drop i)=S)∧Hid (Chg [] w wr)) (fun _ iv _ _ _=>l.length-(intOf iv).toNat)
  case atStart=>exact⟨0,0,by omega,by omega,by omega,rfl,rfl,HS2,zH (Chg.refl _ _)⟩
  case round=>
   obtain⟨i,s,hi,hi2,hs,rfl,rfl,HJ,HC⟩:=hrel;by_cases hlt:i<l.length
   ·have hev:=HMl.out.2;have hi1:i+2≤l.length:=by omega
    have HJ':Hid (sumC (joinC s (w2 l i)) (l.drop (i+2))=S):=zH (by rw[←HJ.out];exact (sumC_two (by omega)).symm);have F1:=zH (r16_any (HM.out.1.chg0 HC.out) HM.out.2 (by omega) (at_:=i) hi1);have hwl:=w2_lt HM.out.2 i;have F2:=zH (fun W=>rjoin_any (a:=s) (b:=w2 l i) (by omega) (by omega) W)
    have hj:=joinC_lt s (w2 l i);have hI:(i:Int)<(l.length:Int):=by omega
    have hw:IntKind.i64.wrap ((i:Int)+2)=(i:Int)+2:=by rw[IntKind.wrap_i64];omega
    generalize joinC s (w2 l i)=s2 at *;generalize w2 l i=y at *;clear hev hwl HJ HM;go_wp2_with fail;refine F1.out.mono ?_;rintro e w5 ⟨rfl,hc5⟩;go_wp2_with fail;refine (F2.out _).mono ?_;rintro e w6 ⟨rfl,hw6⟩;rw[hw6]at hc5;have HC6:=zH (HC.out.trans hc5);clear hc5 F1 F2 hw6 HC;go_wp2_with fail
    go_round
    case rel=>exact⟨i+2,s2,by omega,by omega,hj,by go_num,rfl,HJ',HC6⟩
    case measure=>simp[intOf];omega
   ·obtain rfl:i=l.length:=by omega
    have hq:=HJ.out;rw[List.drop_length]at hq;have hq':Hid (s=S):=zH hq;have hI:¬((l.length:Int)<(l.length:Int)):=by omega
    clear HJ HM hq;go_wp2_with fail;go_ret
    exact⟨by rw[←hq'.out];rfl,HC.out⟩
end Go.Proofs.YtgbndaiifbogmaaGreat
namespace Go.Proofs.YtgbndaiifbogmaaGreat
open Go.RowKit
def twoS (n:Nat):List Nat:=[n/256%256,n%256]
theorem two01_any (n:Nat) (hn:n<65536) (w:World) :
  Calls Tryz.prog 62 #[.int .i64 n] w fun e w'=>∃v',e=.returned v'∧w'.ownsRow w.heap.size 5 1 v' (twoS n).length ((twoS n).map byV)∧Chg [] w w':=by
 have h1:bits .and .i64 (n:Int) 65535=(n:Int):=by
  unfold bits;show IntKind.i64.wrap ((BitVec.ofInt 64 (n:Int) &&& BitVec.ofInt 64 65535).toNat:Int)=(n:Int);have e1:(BitVec.ofInt 64 (n:Int))=BitVec.ofNat 64 n:=by simp
  have e2:(BitVec.ofInt 64 65535)=BitVec.ofNat 64 65535:=by decide
  rw[e1,e2,BitVec.toNat_and,BitVec.toNat_ofNat,BitVec.toNat_ofNat,Nat.mod_eq_of_lt (by omega:n<2 ^ 64),Nat.mod_eq_of_lt (by omega:65535<2 ^ 64),show (65535:Nat)=2 ^ 16-1 by rfl,Nat.and_two_pow_sub_one_eq_mod,Nat.mod_eq_of_lt (by omega)];rw[IntKind.wrap_i64];omega
 have HT:Hid (twoS n=[n/256%256,n%256]):=zH rfl;have q1:(n:Int)/256=((n/256:Nat):Int):=rfl;have q2:(n:Int)%256=((n%256:Nat):Int):=rfl;have t1:(n:Int).tdiv 256=((n/256:Nat):Int):=rfl;have t2:(n:Int).tmod 256=((n%256:Nat):Int):=rfl
 have e1:IntKind.u8.wrap ((n/256:Nat):Int)=((n/256%256:Nat):Int):=wrap8 _;have e2:IntKind.u8.wrap ((n%256:Nat):Int)=((n%256:Nat):Int):=by rw[wrap8,Nat.mod_mod]
 have HO:=zH (own_lit (base:=w.heap.size) w 5 1 2 #[byV (n/256%256),byV (n%256)] (Nat.le_refl _) (by simp[maxLen]) rfl);have HA:=zH ((Chg.refl [] w).alloc (.cells #[byV (n/256%256),byV (n%256)] 5));have hb:n/256<256:=by omega
 generalize n/256%256=c at *;generalize n/256=a at *;generalize n%256=b at *;go_enter Tryz.func62,Tryz.ntmps62
 go_wp2_with fail;go_ret
 rw[HT.out];exact⟨_,rfl,HO.out,HA.out⟩
theorem two_four (n:Nat) (hn:n<4294967296):twoS (n/65536)++twoS (n%65536)=fourS n:=by
 simp only[twoS,fourS,List.cons_append,List.nil_append];congr 1
 ·omega
 ·congr 1;congr 1
  ·omega
  ·congr 1;omega
theorem four01_any (n:Nat) (hn:n<4294967296) (w:World) :
  Calls Tryz.prog 63 #[.int .u32 n] w fun e w'=>∃v',e=.returned v'∧w'.ownsRow w.heap.size 5 1 v' (fourS n).length ((fourS n).map byV)∧Chg [] w w':=by
 have HF:=zH (two_four n hn);have q1:(n:Int)/65536=((n/65536:Nat):Int):=rfl;have q2:(n:Int)%65536=((n%65536:Nat):Int):=rfl;have t1:(n:Int).tdiv 65536=((n/65536:Nat):Int):=rfl;have t2:(n:Int).tmod 65536=((n%65536:Nat):Int):=rfl;have hb:n/65536<65536:=by omega
 have hb2:n%65536<65536:=by omega
 generalize n/65536=a at *;generalize n%65536=b at *;have e1:IntKind.i64.wrap (a:Int)=(a:Int):=by rw[IntKind.wrap_i64];omega
 have e2:IntKind.i64.wrap (b:Int)=(b:Int):=by rw[IntKind.wrap_i64];omega
 have F1:=zH (two01_any a hb w);go_enter Tryz.func63,Tryz.ntmps63
 go_wp2_with fail;refine F1.out.mono ?_;rintro e w1 ⟨v1,rfl,hown1,hc1⟩;have F2:=zH (two01_any b hb2 w1);clear F1;go_wp2_with fail;refine F2.out.mono ?_;rintro e w2 ⟨v2,rfl,hown2,hc2⟩;have hown1':=own_chg hown1 hc2 (by simp);have hs2:=Sl.of_own hown2
 have HC:=zH (And.intro (hc1.trans hc2) (own_lt hown1));have hsz:=(hc1.trans hc2).size;clear F2 hown1 hown2 hc1 hc2;go_wp2_with (first
  |(at_builtin;refine wpList_app elY rfl (.tmp 6) (.tmp 10) rfl w.heap.size rfl hown1' rfl hs2 (byV_one _) (by simp[twoS,maxLen]) (by simp[twoS]) hsz ?_;intro v3 w3 hown3 hc3 hb3)
  |fail)
 go_ret
 refine⟨v3,rfl,?_,HC.out.1.trans' hc3 (fun x hx=>.inr (HC.out.2 x hx).1)⟩;rw[←HF.out,List.map_append,List.length_append];exact hown3
theorem twoS_B {n:Nat} (h:n<65536):twoS n=twoB (n:Int):=by
 have e1:((loB ((n:Int)/256):Nat):Int)=(n/256%256:Nat):=by rw[←loB_eq,show ∀n:Int,IntKind.u8.wrap n=n%256 from fun n=>by simp[IntKind.wrap,IntKind.signed,IntKind.bits]];omega
 have e2:((loB (n:Int):Nat):Int)=(n%256:Nat):=by rw[←loB_eq,show ∀n:Int,IntKind.u8.wrap n=n%256 from fun n=>by simp[IntKind.wrap,IntKind.signed,IntKind.bits]];omega
 unfold twoS twoB;rw[show n/256%256=loB ((n:Int)/256) by omega,show n%256=loB (n:Int) by omega]
end Go.Proofs.YtgbndaiifbogmaaGreat
namespace Go.Proofs.YtgbndaiifbogmaaGreat
open Go.RowKit Go.Maps
theorem ocan0_any (w:World):Calls Tryz.prog 171 #[.slice none 0 0] w fun e w'=>e=.returned (.int .i64 0)∧Chg [] w w':=by
 go_enter Tryz.func171,Tryz.ntmps171
 go_wp2_with fail;refine wp_loop_rounds 1 ?_;rw[rounds_succ];go_wp2_with fail;go_ret
 exact⟨rfl,Chg.refl _ _⟩
theorem oput0_any (w:World):Calls Tryz.prog 116 #[.slice none 0 0] w fun e w'=>e=.returned (.tuple #[.slice none 0 0,.int .i64 0])∧Chg [] w w':=by
 have F:=zH (ocan0_any w);go_enter Tryz.func116,Tryz.ntmps116
 go_wp2_with fail;refine F.out.mono ?_;rintro e w1 ⟨rfl,hc1⟩;go_wp2_with fail;refine wp_loop_rounds 1 ?_;rw[rounds_succ];go_wp2_with fail;refine wp_loop_rounds 1 ?_;rw[rounds_succ];go_wp2_with fail;go_ret2
 exact⟨rfl,hc1⟩
theorem tcan0_any (w:World):Calls Tryz.prog 218 #[.slice none 0 0] w fun e w'=>e=.returned (.int .i64 0)∧Chg [] w w':=by
 go_enter Tryz.func218,Tryz.ntmps218
 go_wp2_with fail;refine wp_loop_rounds 1 ?_;rw[rounds_succ];go_wp2_with fail;go_ret
 exact⟨rfl,Chg.refl _ _⟩
end Go.Proofs.YtgbndaiifbogmaaGreat
namespace Go.Proofs.YtgbndaiifbogmaaGreat
open Go.RowKit Go.Maps
theorem cell_ad {w:World} {g:Nat} {t:TypeId} {A:Ad} (h:Blk w g t (arrA A)) (hA:okA A) {i:Nat} (hi:i<16):w.cell? ⟨g,i,none⟩=some (.int .u8 (gB (adB A) i:Nat)):=by
 rw[h.cell,←Array.getElem?_toList,adB_arr hA,List.getElem?_map,gB_some (by rw[adB_len];exact hi)];rfl
theorem take_snoc {l:By} {i:Nat} (hi:i<l.length):l.take (i+1)=l.take i ++ [gB l i]:=by
 rw[List.take_add_one,gB_some hi];rfl
theorem rpseudo_any {src dst:Ad} (hs:okA src) (hd:okA dst) (len next:Int) (w:World) :
  Calls Tryz.prog 100 #[.agg (arrA src),.agg (arrA dst),.int .i64 len,.int .i64 next] w fun e w'=>e=.returned (.int .i64 (sumC 0 (pseudoB src dst len next):Nat))∧Chg [] w w':=by
 have hA:=((Chg.refl [] w).alloc (.cells (arrA src) 24)).alloc (.cells (arrA dst) 24);have hB1:Blk ((w.alloc (.cells (arrA src) 24)).alloc (.cells (arrA dst) 24)) w.heap.size 24 (arrA src):=(Blk.new _ _ _).alloc _
 have hB2:Blk ((w.alloc (.cells (arrA src) 24)).alloc (.cells (arrA dst) 24)) (w.heap.size+1) 24 (arrA dst):=Blk.new' (by simp);have HA:=zH hA;have HPB:Hid (pseudoB src dst len next=adB src++adB dst++fourS (IntKind.u32.wrap len).toNat ++ [0,0,0,loB next]):=zH rfl
 have HPO:=zH (pseudoB_ok hs hd len next);obtain⟨S,hS⟩:∃S,S=sumC 0 (pseudoB src dst len next):=⟨_,rfl⟩;rw[←hS];have HS:=zH hS;obtain⟨W2,hW2⟩:∃W,W=(w.alloc (.cells (arrA src) 24)).alloc (.cells (arrA dst) 24):=⟨_,rfl⟩;rw[←hW2]at HA hB1 hB2;have HW2:=zH hW2
 have HC1:=zH (fun W (hc:Chg [] W2 W) i (hi:i<16)=>cell_ad (hB1.chg hc (by simp)) hs hi);have HC2:=zH (fun W (hc:Chg [] W2 W) i (hi:i<16)=>cell_ad (hB2.chg hc (by simp)) hd hi);have hz2:w.heap.size+2=W2.heap.size:=by rw[hW2];simp
 have HZ2:=zH hz2;clear hS hA hB1 hB2 hW2 hz2;go_enter Tryz.func100,Tryz.ntmps100
 go_wp2_with fail;rw[←HW2.out];go_loopw [9,10] (fun bv iv wr=>∃i:Nat,i≤16∧iv=.int .i64 i∧Hid (OwY wr W2.heap.size bv ((adB src).take i))∧Hid (Chg [] W2 wr)) (fun _ iv _=>16-(intOf iv).toNat)
 case atStart=>exact⟨0,by omega,rfl,zH (OwY.nil _ _),zH (Chg.refl _ _)⟩
 case round=>
  obtain⟨i,hi,rfl,HO,HC⟩:=hrel;by_cases hlt:i<16
  ·have hI:(i:Int)<16:=by omega
   have hcell:=HC1.out wr HC.out i hlt;have HTS:=zH (take_snoc (l:=adB src) (i:=i) (by rw[adB_len];exact hlt));have hlen:((adB src).take i).length=i:=by rw[List.length_take,adB_len];omega
   have hw:IntKind.i64.wrap ((i:Int)+1)=(i:Int)+1:=by rw[IntKind.wrap_i64];omega
   generalize gB (adB src) i=x at *;generalize (adB src).take i=m at *;have hA3:=(Chg.refl [] wr).alloc (.cells #[byV x] 5);have HA3:=zH hA3;have HO3:=zH (own_chg HO.out hA3 (by simp))
   have HT3:Hid (Sl (wr.alloc (.cells #[byV x] 5)) 0 1 (.slice (some ⟨wr.heap.size,0,none⟩) 1 1) 1 ([x].map byV)):=zH (Sl.of_own (own_lit (base:=0) wr 5 1 1 #[byV x] (Nat.zero_le _) (by simp[maxLen]) rfl))
   have hz3:W2.heap.size≤(wr.alloc (.cells #[byV x] 5)).heap.size:=by have:=HC.out.size;simp;omega
   have hl3:=zH (own_lt HO.out);clear hA3;go_wp2_with (first
    |(at_builtin;refine wpList_app elY rfl (.tmp 16) (.tmp 20) rfl W2.heap.size rfl HO3.out rfl HT3.out (byV_one _) (by unfold maxLen;omega) (by omega) hz3 ?_;intro v4 w4 hown4 hc4 hb4)
    |fail)
   go_round
   case rel=>exact⟨i+1,by omega,by go_num,zH (by rw[HTS.out];exact OwY.snoc (m:=[x]) rfl hown4),zH ((HC.out.trans HA3.out).trans' hc4 (fun y hy=>.inr (hl3.out y hy).1))⟩
   case measure=>simp[intOf];omega
  ·have e16:(i:Int)=16:=by omega
   rw[show (adB src).take i=adB src from List.take_of_length_le (by rw[adB_len];omega)]at HO;simp only[e16];clear hlt HC1 e16;go_wp2_with fail
   go_loopw [9,11] (fun bv iv wr=>∃i:Nat,i≤16∧iv=.int .i64 i∧Hid (OwY wr W2.heap.size bv (adB src++(adB dst).take i))∧Hid (Chg [] W2 wr)) (fun _ iv _=>16-(intOf iv).toNat)
   case atStart=>exact⟨0,by omega,rfl,zH (by rw[List.take_zero,List.append_nil];exact HO.out),HC⟩
   case round=>
    obtain⟨i,hi,rfl,HO,HC⟩:=hrel;by_cases hlt:i<16
    ·have hI:(i:Int)<16:=by omega
     have hcell:=HC2.out wr HC.out i hlt;have HTS:=zH (take_snoc (l:=adB dst) (i:=i) (by rw[adB_len];exact hlt));have hlen:(adB src++(adB dst).take i).length=16+i:=by rw[List.length_append,List.length_take,adB_len,adB_len];omega
     have hw:IntKind.i64.wrap ((i:Int)+1)=(i:Int)+1:=by rw[IntKind.wrap_i64];omega
     have HAp:Hid (∀x,adB src++((adB dst).take i ++ [x])=(adB src++(adB dst).take i) ++ [x]):=zH (fun x=>by rw[List.append_assoc]);generalize gB (adB dst) i=x at *;generalize hmm:adB src++(adB dst).take i=m at *;have hA3:=(Chg.refl [] wr).alloc (.cells #[byV x] 5);have HA3:=zH hA3
     have HO3:=zH (own_chg HO.out hA3 (by simp));have HT3:Hid (Sl (wr.alloc (.cells #[byV x] 5)) 0 1 (.slice (some ⟨wr.heap.size,0,none⟩) 1 1) 1 ([x].map byV)):=zH (Sl.of_own (own_lit (base:=0) wr 5 1 1 #[byV x] (Nat.zero_le _) (by simp[maxLen]) rfl))
     have hz3:W2.heap.size≤(wr.alloc (.cells #[byV x] 5)).heap.size:=by have:=HC.out.size;simp;omega
     have hl3:=zH (own_lt HO.out);clear hA3 hmm;go_wp2_with (first
      |(at_builtin;refine wpList_app elY rfl (.tmp 26) (.tmp 30) rfl W2.heap.size rfl HO3.out rfl HT3.out (byV_one _) (by unfold maxLen;omega) (by omega) hz3 ?_;intro v4 w4 hown4 hc4 hb4)
      |fail)
     go_round
     case rel=>exact⟨i+1,by omega,by go_num,zH (by rw[HTS.out,HAp.out];exact OwY.snoc (m:=[x]) rfl hown4),zH ((HC.out.trans HA3.out).trans' hc4 (fun y hy=>.inr (hl3.out y hy).1))⟩
     case measure=>simp[intOf];omega
    ·have e16:(i:Int)=16:=by omega
     rw[show (adB dst).take i=adB dst from List.take_of_length_le (by rw[adB_len];omega)]at HO;simp only[e16];have e1:=loB_eq next;have hN:∃N:Nat,(IntKind.u32.wrap len).toNat=N∧IntKind.u32.wrap len=(N:Int)∧N<4294967296:=⟨_,rfl,wrap32_nat len,by rw[IntKind.wrap_u32'];omega⟩;obtain⟨N,hN1,hN2,hN3⟩:=hN
     have HPB2:=HPB.out;rw[hN1]at HPB2;have HP:=zH HPB2;have F4:=zH (four01_any N hN3 wr);clear hlt HC2 hN1 hN3 HPB2 HPB e16;go_wp2_with fail;refine F4.out.mono ?_;rintro e w5 ⟨v5,rfl,ho5,hc5⟩;have hO5:=own_chg HO.out hc5 (by simp);have HO5:=zH hO5;have HT5:=zH (OwY.sl ho5)
     have HC5:=zH (HC.out.trans hc5);have hl5:=zH (own_lt hO5);have hz5:W2.heap.size≤w5.heap.size:=HC5.out.size;clear F4 ho5 hc5 HO HC hO5;go_upto_region 11 with (first
      |(at_builtin;refine wpList_app elY rfl (.tmp 32) (.tmp 35) rfl W2.heap.size rfl HO5.out rfl HT5.out (byV_one _) (by simp[maxLen,fourS,adB_len]) (by simp[fourS,adB_len]) hz5 ?_;intro v6 w6 hown6 hc6 hb6)
      |fail)
     have HC6:=zH (HC5.out.trans' hc6 (fun y hy=>.inr (hl5.out y hy).1));have hA7:=(Chg.refl [] w6).alloc (.cells #[byV 0,byV 0,byV 0,byV (loB next)] 5);have HO7:=zH (own_chg (OwY.snoc (m:=fourS N) rfl hown6) hA7 (by simp))
     have HT7:Hid (Sl (w6.alloc (.cells #[byV 0,byV 0,byV 0,byV (loB next)] 5)) 0 1 (.slice (some ⟨w6.heap.size,0,none⟩) 4 4) 4 ([0,0,0,loB next].map byV)):=zH (Sl.of_own (own_lit (base:=0) w6 5 1 4 #[byV 0,byV 0,byV 0,byV (loB next)] (Nat.zero_le _) (by simp[maxLen]) rfl))
     have HC7:=zH (HC6.out.trans hA7);have hz7:=HC7.out.size;have hl7:=zH (own_lt HO7.out);clear hown6 hc6 hb6 hA7 HO5 HT5 HC5 hl5 HC6;go_wp2_with (first
      |(at_builtin;refine wpList_app elY rfl (.tmp 37) (.tmp 40) rfl W2.heap.size rfl HO7.out rfl HT7.out (byV_one _) (by simp[maxLen,fourS,adB_len]) (by simp[fourS,adB_len]) hz7 ?_;intro v8 w8 hown8 hc8 hb8)
      |fail)
     have HC8:=zH (HC7.out.trans' hc8 (fun y hy=>.inr (hl7.out y hy).1));have hO8:=OwY.snoc (m:=[0,0,0,loB next]) rfl hown8;rw[←HP.out]at hO8;have FS:=zH (rsum_any (Sl.less (OwY.sl hO8) (Nat.zero_le _)) HPO.out (by rw[HP.out];simp[fourS,adB_len]));rw[←HS.out]at FS;clear hown8 hc8 hO8 HO7 HT7 HC7 hl7
     refine FS.out.mono ?_;rintro e w9 ⟨rfl,hc9⟩;go_wp2_with fail;go_ret
     exact⟨rfl,HA.out.trans (HC8.out.trans hc9)⟩
end Go.Proofs.YtgbndaiifbogmaaGreat
namespace Go.Proofs.YtgbndaiifbogmaaGreat
open Go.RowKit Go.Maps
@[reducible] def arrSi (n d r:Int):Array Value:=#[.int .i64 n,.int .i64 d,.int .u32 r]
theorem infSi {n d r:Int}:(Tryz.prog.info? 63).map (·.size)=some (arrSi n d r).size:=by
 show _=some 3;kernel_rfl
def sidI (n d r:Nat) (i:Nat):Ad:=⟨253,108,0,98,0,0,0,0,(n/256%256:Nat),(n%256:Nat),d,0,if 0<i then (r/16777216%256:Nat) else 0,if 1<i then (r/65536%256:Nat) else 0,if 2<i then (r/256%256:Nat) else 0,if 3<i then (r%256:Nat) else 0⟩
theorem sidI_all {n d r:Nat} (hn:n≤65535) (hd:d≤255) (hr:r≤4294967295):sidI n d r 4=sidA n d r:=by
 have e0:((n:Int)/256)=((n/256:Nat):Int):=rfl;have e1:((loB ((n/256:Nat):Int):Nat):Int)=((n/256%256:Nat):Int):=by rw[loB_small (by omega)];omega
 have e2:((loB (n:Int):Nat):Int)=((n%256:Nat):Int):=by rw[←loB_eq,u8w_eq];omega
 have e3:((loB (d:Int):Nat):Int)=(d:Int):=loB_small (by omega);unfold sidA sidI;rw[e0,e1,e2,e3];simp
theorem sidI_next {n d r i:Nat} (hi:i<4):(arrA (sidI n d r i)).setIfInBounds (12+i) (.int .u8 (gB (fourS r) i:Nat))=arrA (sidI n d r (i+1)):=by
 rcases (show i=0∨i=1∨i=2∨i=3 by omega) with rfl|rfl|rfl|rfl
 all_goals rfl
theorem rmake_err {n d r:Int} (hd:0≤d∧d≤255) (h:n<0∨65535<n) (w:World) :
  Calls Tryz.prog 18 #[.agg (arrSi n d r)] w fun e w'=>e=.returned (.tuple #[.agg (arrA ad0),.int .i64 2])∧Chg [] w w':=by
 have hA:=zH (((Chg.refl [] w).alloc (.cells (arrSi n d r) 63)).alloc (.cells (arrA ad0) 24));have hB:Blk ((w.alloc (.cells (arrSi n d r) 63)).alloc (.cells (arrA ad0) 24)) w.heap.size 63 (arrSi n d r):=(Blk.new _ _ _).alloc _
 have hZ:Blk ((w.alloc (.cells (arrSi n d r) 63)).alloc (.cells (arrA ad0) 24)) (w.heap.size+1) 24 (arrA ad0):=Blk.new' (by simp);have c0:=hB.cell 0;have c1:=hB.cell 1;have d1:¬d<0:=by omega
 have d2:¬d>255:=by omega
 clear hd;rcases h with h|h
 ·go_enter Tryz.func18,Tryz.ntmps18
  go_wp2_with (first
   |(refine zs (vs:=arrA ad0) rfl 24 (.tmp 2) (.tmp 26) rfl rfl hZ rfl rfl rfl infAd rfl ?_;intro w9 hB9 hc9)
   |fail)
  refine bodyPost_ret (zr rfl rfl hB9 _ Tryz.underlying24 rfl infAd) rfl ?_;exact⟨rfl,hA.out.trans' hc9 (zN (by omega))⟩
 ·have h1:¬n<0:=by omega
  have h2:n>65535:=by omega
  clear h;go_enter Tryz.func18,Tryz.ntmps18
  go_wp2_with (first
   |(refine zs (vs:=arrA ad0) rfl 24 (.tmp 2) (.tmp 26) rfl rfl hZ rfl rfl rfl infAd rfl ?_;intro w9 hB9 hc9)
   |fail)
  refine bodyPost_ret (zr rfl rfl hB9 _ Tryz.underlying24 rfl infAd) rfl ?_;exact⟨rfl,hA.out.trans' hc9 (zN (by omega))⟩
theorem rmake_any {n d r:Nat} (hn:n≤65535) (hd:d≤255) (hr:r≤4294967295) (w:World) :
  Calls Tryz.prog 18 #[.agg (arrSi n d r)] w fun e w'=>e=.returned (.tuple #[.agg (arrA (sidA n d r)),.int .i64 0])∧Chg [] w w':=by
 have hA:=((Chg.refl [] w).alloc (.cells (arrSi n d r) 63)).alloc (.cells (arrA ad0) 24);have hB:Blk ((w.alloc (.cells (arrSi n d r) 63)).alloc (.cells (arrA ad0) 24)) w.heap.size 63 (arrSi n d r):=(Blk.new _ _ _).alloc _
 have hZ:Blk ((w.alloc (.cells (arrSi n d r) 63)).alloc (.cells (arrA ad0) 24)) (w.heap.size+1) 24 (arrA ad0):=Blk.new' (by simp);have c0:=hB.cell 0;have c1:=hB.cell 1;have hB':=hB.alloc (.cells (arrA ad0) 24);have hZ':=hZ.alloc (.cells (arrA ad0) 24)
 have h4:Blk (((w.alloc (.cells (arrSi n d r) 63)).alloc (.cells (arrA ad0) 24)).alloc (.cells (arrA ad0) 24)) (w.heap.size+1+1) 24 (arrA ad0):=Blk.new' (by simp);have HA:=zH (hA.alloc (.cells (arrA ad0) 24));have n1:¬(n:Int)<0:=by omega
 have n2:¬(n:Int)>65535:=by omega
 have d1:¬(d:Int)<0:=by omega
 have d2:¬(d:Int)>255:=by omega
 have HALL:=zH (sidI_all hn hd hr);have HNX:=zH (fun i (hi:i<4)=>sidI_next (n:=n) (d:=d) (r:=r) hi);have FT:=zH (two01_any n (by omega));have FF:=zH (four01_any r (by omega));have hwd:IntKind.u8.wrap (d:Int)=(d:Int):=by rw[IntKind.wrap_u8'];omega
 have HF4:Hid (∀i,i<4→((fourS r).map byV)[i]?=some (.int .u8 (gB (fourS r) i:Nat))):=zH (fun i hi=>by
  rcases (show i=0∨i=1∨i=2∨i=3 by omega) with rfl|rfl|rfl|rfl
  all_goals rfl)
 have HT2:Hid ((twoS n).map byV=[byV (n/256%256),byV (n%256)]):=zH rfl;clear hA hB hZ hn hd hr;go_enter Tryz.func18,Tryz.ntmps18
 go_upto_region 5 with (first
  |(refine wpList_store_cell (v:=.int .u8 253) rfl 5 (.tmp 27) _ rfl rfl h4 rfl rfl rfl (by show _<16;omega) (by kernel_rfl) rfl ?_;intro wa hBa hca)
  |(refine wpList_store_cell (v:=.int .u8 108) rfl 5 (.tmp 28) _ rfl rfl hBa rfl rfl rfl (by show _<16;omega) (by kernel_rfl) rfl ?_;intro wb hBb hcb)
  |(refine wpList_store_cell (v:=.int .u8 98) rfl 5 (.tmp 29) _ rfl rfl hBb rfl rfl rfl (by show _<16;omega) (by kernel_rfl) rfl ?_;intro wc hBc hcc)
  |fail)
 have hB4:Blk wc (w.heap.size+1+1) 24 (arrA ⟨253,108,0,98,0,0,0,0,0,0,0,0,0,0,0,0⟩):=hBc;have hS:=hB'.chg ((hca.trans hcb).trans hcc) (by simp;omega);have hZc:=hZ'.chg ((hca.trans hcb).trans hcc) (by simp);have HC:=zH (HA.out.trans' ((hca.trans hcb).trans hcc) (zN (by omega)))
 clear hBa hBb hBc hca hcb hcc h4 hB' hZ' c0 c1 HA n1 n2 d1 d2;have S0:Hid (∀W,Chg [] wc W→W.cell? ⟨w.heap.size,0,none⟩=some (.int .i64 n)):=zH (fun W hc=>(hS.chg hc (by simp)).cell 0)
 have S2:Hid (∀W,Chg [] wc W→W.cell? ⟨w.heap.size,2,none⟩=some (.int .u32 r)):=zH (fun W hc=>(hS.chg hc (by simp)).cell 2);have hD:Chg [] wc wc.drew:=(Chg.refl [] wc).drew;refine wp_region_noPanic ?_;refine wp_region_held_drew (S:=fun W:World=>Chg [] wc W) (by kernel_rfl) hD (fun _=>?_)
 refine zU 0 rfl (by go_simp<;>with_reducible rfl) ?_
 try simp only[zP]
 refine zT 1 rfl (zc (by rfl) 3 (.tmp 30) rfl w.heap.size 0 rfl (.int .i64 n) _ S0.out Tryz.underlying3 rfl) ?_
 try simp only[zP]
 refine zU 3 rfl (by go_simp<;>with_reducible rfl) ?_
 try simp only[zP]
 refine zT 4 rfl (zc (by rfl) 31 (.tmp 33) rfl w.heap.size 2 rfl (.int .u32 r) _ S2.out Tryz.underlying31 rfl) ?_
 try simp only[zP]
 refine zR 2 rfl (fun K hK=>?_);go_simp
 refine (FT.out _).mono ?_;rintro e wd ⟨vn,rfl,hon,hcd⟩;have hCd:(fun W:World=>Chg [] wc W) wd:=hD.trans hcd;have hzd:wc.heap.size≤wd.heap.size:=hcd.size;clear hcd;refine zB hK ?_;clear hK K
 try simp only[zP]
 refine zR 5 rfl (fun K hK=>?_);go_simp
 refine (FF.out _).mono ?_;rintro e we ⟨vu,rfl,hou,hce⟩;have hCe:(fun W:World=>Chg [] wc W) we:=Chg.trans hCd hce;have hOn:=own_chg hon hce (by simp);clear hce hon;refine zB hK ?_;clear hK K
 try simp only[zP]
 refine zU 6 rfl (by go_simp<;>with_reducible rfl) ?_
 try simp only[zP]
 refine zU 7 rfl (by go_simp<;>with_reducible rfl) ?_
 try simp only[zP]
 refine wpAnyH_done (by kernel_rfl) ?_ _;refine NoPanic.normal ?_;have hOu:we.ownsRow wd.heap.size 5 1 vu (fourS r).length ((fourS r).map byV):=hou;have hSe:=hS.chg hCe (by simp);have hZe:=hZc.chg hCe (by simp);have hBe:=hB4.chg hCe (by simp);have HCe:=zH (HC.out.trans hCe);have hgt:=hBe.lt
 have hOn1:we.ownsRow wc.heap.size 5 1 vn (twoS n).length ((twoS n).map byV):=hOn;obtain⟨gn,cn,rfl,hgn,hgnl⟩:=own_form hOn1 (by simp[twoS]);obtain⟨gu,cu,rfl,hgu,hgul⟩:=own_form hOu (by simp[fourS]);have hbz:w.heap.size+1+1<wc.heap.size:=hB4.lt
 have hOn2:OwY we wc.heap.size (.slice (some ⟨gn,0,none⟩) (twoS n).length cn) (twoS n):=hOn;have hOu2:OwY we wd.heap.size (.slice (some ⟨gu,0,none⟩) (fourS r).length cu) (fourS r):=hOu
 have SN0:Hid (∀W,Chg [w.heap.size+1+1] we W→W.cell? ⟨gn,0,none⟩=some (.int .u8 (n/256%256:Nat))):=zH (fun W hc=>hc.cell (by
  obtain⟨b9,o9,c9,e9,_,hcell⟩:=(OwY.sl hOn2).at_ (i:=0) (by simp[twoS]);simp only[Value.slice.injEq,Option.some.injEq,Addr.mk.injEq,and_true,true_and]at e9;obtain⟨⟨rfl,rfl⟩,-⟩:=e9;exact hcell) (by simp;omega))
 have SN1:Hid (∀W,Chg [w.heap.size+1+1] we W→W.cell? ⟨gn,1,none⟩=some (.int .u8 (n%256:Nat))):=zH (fun W hc=>hc.cell (by
  obtain⟨b9,o9,c9,e9,_,hcell⟩:=(OwY.sl hOn2).at_ (i:=1) (by simp[twoS]);simp only[Value.slice.injEq,Option.some.injEq,Addr.mk.injEq,and_true,true_and]at e9;obtain⟨⟨rfl,rfl⟩,-⟩:=e9;exact hcell) (by simp;omega))
 have SU:Hid (∀i,i<4→∀W,Chg [w.heap.size+1+1] we W→W.cell? ⟨gu,i,none⟩=some (.int .u8 (gB (fourS r) i:Nat))):=zH (fun i hi W hc=>hc.cell (by
  obtain⟨b9,o9,c9,e9,_,hcell⟩:=(OwY.sl hOu2).at_ (i:=i) (by simp[fourS];omega);simp only[Value.slice.injEq,Option.some.injEq,Addr.mk.injEq,and_true,true_and]at e9;obtain⟨⟨rfl,rfl⟩,-⟩:=e9;rw[Nat.zero_add]at hcell;exact hcell) (by simp;omega))
 have S1:Hid (∀W,Chg [w.heap.size+1+1] we W→W.cell? ⟨w.heap.size,1,none⟩=some (.int .i64 d)):=zH (fun W hc=>(hSe.chg hc (by simp;omega)).cell 1);have hL2:(twoS n).length=2:=rfl;have hL4:(fourS r).length=4:=rfl;rw[hL2];rw[hL4];have hD:Chg [w.heap.size+1+1] we we.drew:=(Chg.refl _ we).drew
 have HBe:=zH hBe;have HZe:=zH hZe;clear hOn hOn1 hOu hOn2 hOu2 hou hCe hCd hS hZc hB4 S0 S2 hSe hZe HC FT FF;go_upto_region 6 with fail
 refine wp_region_noPanic ?_;refine wp_region_held_drew (S:=fun W:World=>Chg [w.heap.size+1+1] we W) (by kernel_rfl) hD (fun _=>?_);refine zU 0 rfl (by go_simp<;>with_reducible rfl) ?_
 try simp only[zP]
 refine zU 1 rfl (by go_simp<;>with_reducible rfl) ?_
 try simp only[zP]
 refine zT 2 rfl (zc (by rfl) 5 (.tmp 37) rfl gn 0 rfl (.int .u8 (n/256%256:Nat)) _ SN0.out Tryz.underlying5 rfl) ?_
 try simp only[zP]
 refine zU 3 rfl (by go_simp<;>with_reducible rfl) ?_
 try simp only[zP]
 refine zU 4 rfl (by go_simp<;>with_reducible rfl) ?_
 try simp only[zP]
 refine zT 5 rfl (zc (by rfl) 5 (.tmp 40) rfl gn 1 rfl (.int .u8 (n%256:Nat)) _ SN1.out Tryz.underlying5 rfl) ?_
 try simp only[zP]
 refine zU 6 rfl (by go_simp<;>with_reducible rfl) ?_
 try simp only[zP]
 refine zT 7 rfl (zc (by rfl) 3 (.tmp 42) rfl w.heap.size 1 rfl (.int .i64 d) _ S1.out Tryz.underlying3 rfl) ?_
 try simp only[zP]
 refine zU 8 rfl (by go_simp<;>with_reducible rfl) ?_
 try simp only[zP]
 refine zU 9 rfl (by go_simp<;>with_reducible rfl) ?_
 try simp only[zP]
 refine zR 10 rfl (fun K hK=>?_);refine step_store_cell (v:=.int .u8 (n/256%256:Nat)) rfl 5 (.tmp 45) (.tmp 38) rfl HBe.out.drew rfl rfl rfl (by show _<16;omega) (by kernel_rfl) rfl ?_;intro wf hBf hcf;have hCf:(fun W:World=>Chg [w.heap.size+1+1] we W) wf:=hD.trans hcf;refine zB hK ?_;clear hK K
 try simp only[zP]
 refine zU 11 rfl (by go_simp<;>with_reducible rfl) ?_
 try simp only[zP]
 refine zR 12 rfl (fun K hK=>?_);refine step_store_cell (v:=.int .u8 (n%256:Nat)) rfl 5 (.tmp 46) (.tmp 41) rfl hBf rfl rfl rfl (by show _<16;omega) (by kernel_rfl) rfl ?_;intro wg hBg hcg;have hCg:(fun W:World=>Chg [w.heap.size+1+1] we W) wg:=Chg.trans hCf hcg;refine zB hK ?_;clear hK K
 try simp only[zP]
 refine zU 13 rfl (by go_simp<;>with_reducible rfl) ?_
 try simp only[zP]
 refine zR 14 rfl (fun K hK=>?_);refine step_store_cell (v:=.int .u8 d) rfl 5 (.tmp 47) (.tmp 44) rfl hBg rfl rfl rfl (by show _<16;omega) (by kernel_rfl) rfl ?_;intro wh hBh hch;have hCh:(fun W:World=>Chg [w.heap.size+1+1] we W) wh:=Chg.trans hCg hch;refine zB hK ?_;clear hK K
 try simp only[zP]
 refine wpAnyH_done (by kernel_rfl) ?_ _;refine NoPanic.normal ?_;have HBI:Hid (Blk wh (w.heap.size+1+1) 24 (arrA (sidI n d r 0))):=zH hBh;have HCH:=zH hCh;clear hBf hcf hCf hBg hcg hCg hBh hch hCh hD HBe SN0 SN1 S1 hwd;go_wp2_with fail
 go_loopw [7] (fun iv wr=>∃i:Nat,i≤4∧iv=.int .i64 i∧Hid (Blk wr (w.heap.size+1+1) 24 (arrA (sidI n d r i)))∧Hid (Chg [w.heap.size+1+1] we wr)) (fun iv _=>4-(intOf iv).toNat)
 case atStart=>exact⟨0,by omega,rfl,HBI,HCH⟩
 case round=>
  obtain⟨i,hi,rfl,HB,HR⟩:=hrel;by_cases h4:i<4
  ·have iI:(i:Int)<4:=by omega
   have ei:IntKind.i64.wrap ((i:Int)+1)=(i:Int)+1:=by rw[IntKind.wrap_i64];omega
   have e12:IntKind.i64.wrap (12+(i:Int))=((12+i:Nat):Int):=by rw[IntKind.wrap_i64];omega
   have i16:((12+i:Nat):Int)<16:=by omega
   have cu:=SU.out i h4 wr HR.out;have hb:=HB.out;have hnx:=HNX.out i h4;generalize gB (fourS r) i=x at *;clear HB SU HNX;go_wp2_with (first
    |(refine wpList_store_cell (v:=.int .u8 x) rfl 5 (.tmp 58) (.tmp 57) rfl rfl hb rfl rfl rfl (by show _<16;omega) (by kernel_rfl) rfl ?_;intro wk hbk hck)
    |fail)
   rw[hnx]at hbk;have HRK:=zH (HR.out.trans hck);have HBK:=zH hbk;clear hb hbk hck HR hnx;go_wp2_with fail;go_roundw
   case rel=>exact⟨i+1,by omega,by go_num,HBK,HRK⟩
   case measure=>simp[intOf];omega
  ·have iI:¬(i:Int)<4:=by omega
   obtain rfl:i=4:=by omega
   have hb:=HB.out;rw[HALL.out]at hb;have hz:=HZe.out.chg HR.out (by simp);have HC:=zH (HCe.out.trans' HR.out (zN (by omega)));clear HB HR SU HNX HALL HZe HCe HBI HCH;go_wp2_with (first
    |(refine zl rfl 24 (.tmp 4) rfl hb rfl _ Tryz.underlying24 rfl infAd ?_)
    |(refine zs (vs:=arrA (sidA n d r)) rfl 24 (.tmp 2) (.tmp 59) rfl rfl hz rfl rfl rfl infAd rfl ?_;intro w9 hB9 hc9)
    |fail)
   refine bodyPost_ret (zr rfl rfl hB9 _ Tryz.underlying24 rfl infAd) rfl ?_;exact⟨rfl,HC.out.trans' hc9 (zN (by omega))⟩
end Go.Proofs.YtgbndaiifbogmaaGreat
namespace Go.Proofs.YtgbndaiifbogmaaGreat
open Go.RowKit Go.Maps
theorem rnot_any {s:Nat} (h:s<4294967296) (w:World):Calls Tryz.prog 172 #[.int .i64 s] w fun e w'=>e=.returned (.int .i64 (notC s:Nat))∧w=w':=by
 have F:=zH (rmod_any h w);have HN:Hid (notC s=65535-s%65536):=zH rfl;have l1:s%65536<65536:=Nat.mod_lt _ (by omega);generalize notC s=r at *;generalize s%65536=m at *;have hw:IntKind.i64.wrap (65535-(m:Int))=(r:Nat):=by have:=HN.out;rw[IntKind.wrap_i64];omega
 clear HN h;go_enter Tryz.func172,Tryz.ntmps172
 go_wp2_with fail;refine F.out.mono ?_;rintro e w1 ⟨rfl,rfl⟩;go_wp2_with fail;go_ret
 exact⟨rfl,rfl⟩
theorem rfine_any {src dst:Ad} (hs:okA src) (hd:okA dst) (next:Int) {w:World} {v:Value} {l:By} (h:SlY w 0 v l) (hb:okB l) (hl:l.length≤900000) :
  Calls Tryz.prog 45 #[.agg (arrA src),.agg (arrA dst),.int .i64 next,v] w fun e w'=>e=.returned (.bool (fineC src dst next l))∧Chg [] w w':=by
 obtain⟨A,c,rfl⟩:=h.form;have hA:=((Chg.refl [] w).alloc (.cells (arrA src) 24)).alloc (.cells (arrA dst) 24);have hB1:Blk ((w.alloc (.cells (arrA src) 24)).alloc (.cells (arrA dst) 24)) w.heap.size 24 (arrA src):=(Blk.new _ _ _).alloc _
 have hB2:Blk ((w.alloc (.cells (arrA src) 24)).alloc (.cells (arrA dst) 24)) (w.heap.size+1) 24 (arrA dst):=Blk.new' (by simp);have FP:=zH (fun W=>rpseudo_any hs hd (l.length:Int) next W);have FS:=zH (fun W (hc:Chg [] w W)=>rsum_any (h.chg0 hc) hb hl)
 have HF:Hid (fineC src dst next l=(joinC (sumC 0 (pseudoB src dst l.length next)) (sumC 0 l)==65535)):=zH rfl;have k1:=sumC_lt 0 (pseudoB src dst l.length next) (by omega);have k2:=sumC_lt 0 l (by omega);have HA:=zH hA;generalize fineC src dst next l=r at *
 generalize sumC 0 (pseudoB src dst l.length next)=x at *;generalize sumC 0 l=y at *;have FJ:=zH (fun W=>rjoin_any (a:=x) (b:=y) (by omega) (by omega) W);have hbq:(((joinC x y:Nat):Int)==65535)=(joinC x y==65535):=by
  by_cases hq:joinC x y=65535
  ·rw[hq];rfl
  ·have e1:(joinC x y==65535)=false:=by simpa using hq
   rw[e1,beq_eq_false_iff_ne];omega
 have HBQ:=zH hbq;generalize joinC x y=z at *;generalize l.length=n at *;clear hA h hb hl k1 k2 hbq;go_enter Tryz.func45,Tryz.ntmps45
 go_wp2_with (first
  |(refine zl rfl 24 (.tmp 4) rfl hB1 rfl _ Tryz.underlying24 rfl infAd ?_)
  |(refine zl rfl 24 (.tmp 5) rfl hB2 rfl _ Tryz.underlying24 rfl infAd ?_)
  |fail)
 refine (FP.out _).mono ?_;rintro e w1 ⟨rfl,hc1⟩;have HC1:=zH (HA.out.trans hc1);clear FP hB1 hB2 hc1;go_wp2_with fail;refine (FS.out _ HC1.out).mono ?_;rintro e w2 ⟨rfl,hc2⟩;have HC2:=zH (HC1.out.trans hc2);clear FS hc2;go_wp2_with fail;refine (FJ.out _).mono ?_;rintro e w3 ⟨rfl,hw3⟩;rw[hw3]at HC2
 go_wp2_with fail;go_ret
 refine⟨?_,HC2.out⟩;rw[HF.out,←HBQ.out];rfl
theorem rcheck_any {src dst:Ad} (hs:okA src) (hd:okA dst) (next:Int) {w:World} {v:Value} {l:By} (h:SlY w 0 v l) (hb:okB l) (hl:l.length≤900000) :
  Calls Tryz.prog 117 #[.agg (arrA src),.agg (arrA dst),.int .i64 next,v] w fun e w'=>e=.returned (.int .i64 (checkC src dst next l:Nat))∧Chg [] w w':=by
 obtain⟨A,c,rfl⟩:=h.form;have hA:=((Chg.refl [] w).alloc (.cells (arrA src) 24)).alloc (.cells (arrA dst) 24);have hB1:Blk ((w.alloc (.cells (arrA src) 24)).alloc (.cells (arrA dst) 24)) w.heap.size 24 (arrA src):=(Blk.new _ _ _).alloc _
 have hB2:Blk ((w.alloc (.cells (arrA src) 24)).alloc (.cells (arrA dst) 24)) (w.heap.size+1) 24 (arrA dst):=Blk.new' (by simp);have FP:=zH (fun W=>rpseudo_any hs hd (l.length:Int) next W);have FS:=zH (fun W (hc:Chg [] w W)=>rsum_any (h.chg0 hc) hb hl)
 have HF:Hid (checkC src dst next l=notC (joinC (sumC 0 (pseudoB src dst l.length next)) (sumC 0 l))):=zH rfl;have k1:=sumC_lt 0 (pseudoB src dst l.length next) (by omega);have k2:=sumC_lt 0 l (by omega);have HA:=zH hA;generalize checkC src dst next l=r at *
 generalize sumC 0 (pseudoB src dst l.length next)=x at *;generalize sumC 0 l=y at *;have FJ:=zH (fun W=>rjoin_any (a:=x) (b:=y) (by omega) (by omega) W);have hjl:=joinC_lt x y;have FN:=zH (fun W=>rnot_any (s:=joinC x y) (by omega) W);rw[←HF.out]at FN;generalize joinC x y=z at *
 generalize l.length=n at *;clear hA h hb hl k1 k2;go_enter Tryz.func117,Tryz.ntmps117
 go_wp2_with (first
  |(refine zl rfl 24 (.tmp 4) rfl hB1 rfl _ Tryz.underlying24 rfl infAd ?_)
  |(refine zl rfl 24 (.tmp 5) rfl hB2 rfl _ Tryz.underlying24 rfl infAd ?_)
  |fail)
 refine (FP.out _).mono ?_;rintro e w1 ⟨rfl,hc1⟩;have HC1:=zH (HA.out.trans hc1);clear FP hB1 hB2 hc1;go_wp2_with fail;refine (FS.out _ HC1.out).mono ?_;rintro e w2 ⟨rfl,hc2⟩;have HC2:=zH (HC1.out.trans hc2);clear FS hc2;go_wp2_with fail;refine (FJ.out _).mono ?_;rintro e w3 ⟨rfl,hw3⟩;rw[hw3]at HC2
 go_wp2_with fail;refine (FN.out _).mono ?_;rintro e w4 ⟨rfl,hw4⟩;rw[hw4]at HC2;go_wp2_with fail;go_ret
 exact⟨rfl,HC2.out⟩
end Go.Proofs.YtgbndaiifbogmaaGreat

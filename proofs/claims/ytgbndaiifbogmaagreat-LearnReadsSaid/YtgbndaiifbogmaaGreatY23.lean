/-
  Small laws and walks on the way to LearnReads: Rl6, Rm6, Rp9. Conditions: each theorem names its own.
-/
import Derived.Test.YtgbndaiifbogmaaGreatY22
import Derived.Test.YtgbndaiifbogmaaGreatY09
set_option linter.unusedVariables false
set_option linter.unusedSimpArgs false
set_option maxRecDepth 100000
set_option maxHeartbeats 8000000
namespace Go.Proofs.YtgbndaiifbogmaaGreat
open Go.RowKit Go.Maps
def longV (k:Int):Int:=if k=1∨k=4 then 0 else if k=2 then 2 else if k=3 then 1 else if k=8 then 8 else -1
theorem rlong_any (k:Int) (w:World):Calls Tryz.prog 212 #[.int .i64 k] w fun e w'=>e=.returned (.int .i64 (longV k))∧w=w':=by
 have HL:Hid (longV k=if k=1∨k=4 then 0 else if k=2 then 2 else if k=3 then 1 else if k=8 then 8 else -1):=zH rfl;by_cases h:k=1∨k=4∨k=2∨k=3∨k=8
 ·rcases h with rfl|rfl|rfl|rfl|rfl
  all_goals
   go_enter Tryz.func212,Tryz.ntmps212
   go_wp2
   go_ret
   exact⟨rfl,rfl⟩
 ·have hv:Hid (longV k=-1):=zH (by rw[HL.out,if_neg (by omega),if_neg (by omega),if_neg (by omega),if_neg (by omega)]);have k1:(k==1)=false:=by rw[beq_eq_false_iff_ne];omega
  have k4:(k==4)=false:=by rw[beq_eq_false_iff_ne];omega
  have k2:(k==2)=false:=by rw[beq_eq_false_iff_ne];omega
  have k3:(k==3)=false:=by rw[beq_eq_false_iff_ne];omega
  have k8:(k==8)=false:=by rw[beq_eq_false_iff_ne];omega
  generalize longV k=r at *;clear h HL;go_enter Tryz.func212,Tryz.ntmps212
  go_wp2
  go_ret
  exact⟨by rw[hv.out];rfl,rfl⟩
theorem longV_fits (x n:Nat):fitsO x n=decide (¬(0≤longV x∧longV x≠n)):=by
 have key:∀m:Nat,(m==n)=decide (¬(0≤(m:Int)∧(m:Int)≠(n:Int))):=fun m=>by
  by_cases e:m=n
  ·subst e;rw[decide_eq_true (by omega)];simp
  ·rw[decide_eq_false (by omega)];simpa using e
 by_cases h:x=1∨x=4∨x=2∨x=3∨x=8
 ·rcases h with rfl|rfl|rfl|rfl|rfl
  ·exact key 0
  ·exact key 0
  ·exact key 2
  ·exact key 1
  ·exact key 8
 ·have h1:longO x=none:=by unfold longO;rw[if_neg (by omega),if_neg (by omega),if_neg (by omega),if_neg (by omega)]
  have h2:longV (x:Int)=-1:=by unfold longV;rw[if_neg (by omega),if_neg (by omega),if_neg (by omega),if_neg (by omega)]
  unfold fitsO;rw[h1,h2,decide_eq_true (by omega)]
def RestPost (n:Int) (m B:Nat) (e:Ending) (w':World):Prop:=
 (n≠0∧e=.returned (.tuple #[.slice none 0 0,.int .i64 n])) ∨
 (n=0∧∃v k xs,e=.returned (.tuple #[v,.int .i64 0])∧w'.ownsRow B 276 2 v k xs∧(∀u∈xs,u.oneCell'=true)∧k≤m)
def Rest6 (l:By) (f:Nat):Prop:=∀(w:World) (v:Value) (at_:Nat),SlY w 0 v l→at_≤l.length→(l.drop at_).length<f →
 Calls Tryz.prog 159 #[v,.int .i64 at_] w fun e w'=>RestPost (optW f (l.drop at_)) (l.length-at_) w.heap.size e w'∧Chg [] w w'
theorem infO {k:Int} {v:Value}:(Tryz.prog.info? 276).map (·.size)=some (#[Value.int .i64 k,v]).size:=by
 show _=some 2;kernel_rfl
theorem rrest_step {l:By} (hb:okB l) (hl:l.length≤1000) {f:Nat} (REC:Hid (Rest6 l f)):Rest6 l (f+1):=by
 intro w v at_ h ha hf;obtain⟨A,c,rfl⟩:=h.form;by_cases hend:at_=l.length
 ·have hX:Hid (optW (f+1) (l.drop at_)=0):=zH (optW_0 hf (by rw[List.length_drop];omega));have hI:(at_:Int)≥(l.length:Int):=by omega
  clear REC hb h hf;generalize optW (f+1) (l.drop at_)=r at *;go_enter Tryz.func159,Tryz.ntmps159
  go_wp2_with fail;go_ret2
  exact⟨.inr ⟨hX.out,_,0,[],rfl,World.ownsRow_nil ..,by simp,Nat.zero_le _⟩,Chg.refl _ _⟩
 have hlt:at_<l.length:=by omega
 have hI:¬((at_:Int)≥(l.length:Int)):=by omega
 obtain⟨b,o,c',e,_,_,hcell⟩:=h.all (by omega);simp only[Value.slice.injEq,true_and]at e;obtain⟨rfl,rfl⟩:=e;have HCell:Hid (∀W,Chg [] w W→∀i,i<l.length→W.cell? ⟨b,o+i,none⟩=some (.int .u8 (gB l i:Nat))):=zH (fun W hc i hi=>hc.cell (hcell i hi) (by simp));have c0:=HCell.out w (Chg.refl _ _) at_ hlt
 have j0:(at_:Int)<(l.length:Int):=by omega
 have hm0:gB (l.drop at_) 0=gB l at_:=by rw[gB_drop,Nat.add_zero]
 have hm1:gB (l.drop at_) 1=gB l (at_+1):=by rw[gB_drop]
 have hml:(l.drop at_).length=l.length-at_:=List.length_drop;have g0:=gB_lt hb at_;have HS:=zH (fun W (hc:Chg [] w W)=>h.chg0 hc);clear hcell h;by_cases hz:gB l at_=0
 ·have hX:Hid (optW (f+1) (l.drop at_)=if zerosB (l.drop at_)=true then 0 else 5):=zH (optW_end hf (by omega) (by rw[hm0];exact hz));rw[hz]at c0;have HZ:Hid (∀i,at_≤i→i<l.length→gB l i≠0→zerosB (l.drop at_)=false):=zH (fun i h1 h2 h3=>by
   rw[Bool.eq_false_iff];intro ht;unfold zerosB at ht;rw[List.all_eq_true]at ht;have:=ht (gB l i) (by
    refine List.mem_of_getElem? (i:=i-at_) ?_;rw[List.getElem?_drop,show at_+(i-at_)=i by omega];exact gB_some h2)
   simp at this;exact h3 this)
  have HZ2:Hid ((∀i,at_≤i→i<l.length→gB l i=0)→zerosB (l.drop at_)=true):=zH (fun hall=>by
   unfold zerosB;rw[List.all_eq_true];intro x hx;obtain⟨i,hi⟩:=List.mem_iff_getElem?.1 hx;have hi2:at_+i<l.length:=by
    rw[List.getElem?_drop]at hi;exact (List.getElem?_eq_some_iff.1 hi).1
   rw[List.getElem?_drop,gB_some hi2]at hi;injection hi with hi
   have:=hall (at_+i) (by omega) hi2;simp;omega)
  generalize optW (f+1) (l.drop at_)=r at *;generalize zerosB (l.drop at_)=z at *;have hG:∀i,gB l i<256:=fun i=>gB_lt hb i
  have HG:=zH hG;clear REC hf hm0 hm1 hml hz g0 hb hG;generalize l.length=n at *;go_enter Tryz.func159,Tryz.ntmps159
  go_wp2_with fail;go_loop [6] (fun iv=>∃i:Nat,at_≤i∧i≤n∧iv=.int .i64 i∧Hid (∀j,at_≤j→j<i→gB l j=0)) (fun iv=>n-(intOf iv).toNat)
  case atStart=>exact⟨at_,by omega,by omega,rfl,zH (fun j h1 h2=>by omega)⟩
  case round=>
   obtain⟨i,h1,h2,rfl,HJ⟩:=hrel;by_cases hi:i<n
   ·have hc:=HCell.out w (Chg.refl _ _) i hi;have k0:(i:Int)<(n:Int):=by omega
    have hw:IntKind.i64.wrap ((i:Int)+1)=(i:Int)+1:=by rw[IntKind.wrap_i64];omega
    by_cases hx:gB l i=0
    ·have HJ2:Hid (∀j,at_≤j→j<i+1→gB l j=0):=zH (fun j a1 a2=>by
      rcases Nat.lt_or_ge j i with q|q
      ·exact HJ.out j a1 q
      ·obtain rfl:j=i:=by omega
       exact hx)
     rw[hx]at hc;clear HJ hx HZ HZ2 HCell HS;go_wp2_with fail;go_round
     case rel=>exact⟨i+1,by omega,by omega,by go_num,HJ2⟩
     case measure=>simp[intOf];omega
    ·have hr:Hid (r=5):=zH (by rw[hX.out,HZ.out i h1 hi hx];rfl);have hne:(((gB l i:Nat):Int) !=0)=true:=by simp;omega
     generalize gB l i=y at *;clear HJ hx HZ HZ2 HCell HS hX HG;go_wp2_with fail;go_ret2
     exact⟨.inl ⟨by rw[hr.out];omega,by rw[hr.out];rfl⟩,Chg.refl _ _⟩
   ·obtain rfl:i=n:=by omega
    have hr:Hid (r=0):=zH (by rw[hX.out,HZ2.out (fun j a1 a2=>HJ.out j a1 a2)];rfl);have k0:¬(i:Int)<(i:Int):=by omega
    clear HJ HZ HZ2 HCell HS hX HG;go_wp2_with fail;go_ret2
    exact⟨.inr ⟨hr.out,_,0,[],rfl,World.ownsRow_nil ..,by simp,Nat.zero_le _⟩,Chg.refl _ _⟩
 have HO1:Hid (optW (f+1) (l.drop at_)=match oneO (l.drop at_) with | .error e=>e | .ok k=>optW f ((l.drop at_).drop k)):=zH (by
  conv=>lhs;unfold optW
  rw[if_neg (by omega),if_neg (by rw[hm0];exact hz)];cases oneO (l.drop at_)<;>rfl)
 have HON:Hid (oneO (l.drop at_)=if gB l at_=1 then .ok 1
  else if l.length-at_<2 then .error 3
  else if gB l (at_+1)<2 then .error 5
  else if l.length-at_<gB l (at_+1) then .error 3
  else if fitsO (gB l at_) (gB l (at_+1)-2)=false then .error 5
  else .ok (gB l (at_+1))):=zH (by unfold oneO;rw[hm0,hm1,hml])
 have HDD:Hid (∀k,(l.drop at_).drop k=l.drop (at_+k)):=zH (fun k=>by rw[List.drop_drop]);obtain⟨r,hr⟩:∃r,r=optW (f+1) (l.drop at_):=⟨_,rfl⟩;rw[←hr]at HO1;rw[←hr];clear hr hm0 hm1 hml;have HCA:=zH ((Chg.refl [] w).alloc (.cells #[.int .i64 0,.slice none 0 0] 276))
 have hBN:Blk (w.alloc (.cells #[.int .i64 0,.slice none 0 0] 276)) w.heap.size 276 #[.int .i64 0,.slice none 0 0]:=Blk.new _ _ _;have hzI:(((gB l at_:Nat):Int)==0)=false:=by simp;omega
 have hwx:IntKind.i64.wrap ((gB l at_:Nat):Int)=((gB l at_:Nat):Int):=by rw[IntKind.wrap_i64];omega
 have g1:=gB_lt hb (at_+1);have hwa:IntKind.i64.wrap ((at_:Int)+1)=(at_:Int)+1:=by rw[IntKind.wrap_i64];omega
 have hX0:∃x0,x0=gB l at_:=⟨_,rfl⟩;obtain⟨x0,hx0⟩:=hX0;rw[←hx0]at c0 hzI hwx HON hz g0;have HX0:=zH hx0;clear hx0;by_cases h1:x0=1
 ·have hon:=HON.out;rw[if_pos h1]at hon;have hrr:=HO1.out;rw[hon]at hrr;simp only at hrr;rw[HDD.out]at hrr;obtain⟨ad,had⟩:∃ad,ad=at_+1:=⟨_,rfl⟩;rw[←had]at hrr;have HRR:=zH hrr;have hadl:ad≤l.length:=by omega
  have HK1:Hid ((l.drop ad).length<f):=zH (by rw[List.length_drop];rw[List.length_drop]at hf;omega);have HAD:Hid (at_+1≤ad):=zH (by omega);have hv:IntKind.i64.wrap ((at_:Int)+1)=(ad:Int):=by rw[IntKind.wrap_i64];omega
  clear hon hrr HON HO1 HDD hwa hzI hwx hz g0 had hf hb hend;subst h1;replace c0:w.cell? ⟨b,o+at_,none⟩=some (.int .u8 1):=c0;go_enter Tryz.func159,Tryz.ntmps159
  go_upto_region 11 with (first
   |(refine zs (vs:=#[.int .i64 1,.slice none 0 0]) rfl 276 (.tmp 7) (.tmp 38) rfl rfl hBN rfl rfl rfl infO rfl ?_;intro w3 hBO hc3)
   |fail)
  have HC:=zH (HCA.out.trans' hc3 (zN (by omega)));have k0:w3.cell? ⟨w.heap.size,0,none⟩=some (.int .i64 1):=hBO.cell 0;clear hc3 hBN HCA c0;go_upto_region 23 with fail
  clear k0;have FR:=zH (REC.out w3 (.slice (some ⟨b,o,none⟩) l.length c) ad (HS.out w3 HC.out) hadl HK1.out);have hBW:=hBO.lt;clear REC HS HCell;generalize optW f (l.drop ad)=r2 at *;go_wp2_with fail;refine FR.out.mono ?_;rintro e w5 ⟨hp,hc5⟩;have HC5:=zH (HC.out.trans hc5)
  rcases hp with ⟨hn,rfl⟩ | ⟨hn0,v5,k5,xs5,rfl,ho5,h15,hk5⟩
  ·have hI9:(r2 !=0)=true:=by simpa using hn
   have hres:Hid (r≠0∧r=r2):=zH ⟨by rw[HRR.out];exact hn,HRR.out⟩;clear FR hc5 hn HRR;go_wp2_with fail;go_ret2
   exact⟨.inl ⟨hres.out.1,by rw[hres.out.2];rfl⟩,HC5.out⟩
  ·have hB5:=hBO.chg hc5 (by simp);have hres:Hid (r=0):=zH (by rw[HRR.out];exact hn0);obtain⟨A9,c9,rfl⟩:=Sl.form (Sl.of_own ho5);have hA2:=(Chg.refl [] w5).alloc (.cells #[.int .i64 1,.slice none 0 0] 276);have HT:=zH (Sl.chg0 (Sl.of_own ho5) hA2)
   have HO:=zH (own_lit (base:=w5.heap.size) w5 276 2 1 #[.int .i64 1,.slice none 0 0] (Nat.le_refl _) (by simp[maxLen]) rfl);have HC6:=zH (HC5.out.trans hA2);have hz5:=HC5.out.size;have H15:=zH h15;have HK5:=zH hk5;have hk1000:k5≤1000:=by omega
   clear FR hc5 hn0 HRR ho5 hA2 h15 hk5;go_wp2_with (first
    |(refine zl rfl 276 (.tmp 7) rfl hB5 rfl _ Tryz.underlying276 rfl infO ?_)
    |(at_builtin;refine wpList_app elO rfl (.tmp 95) (.tmp 96) rfl w5.heap.size rfl HO.out rfl HT.out H15.out (by unfold maxLen;omega) (by omega) (by simp) ?_;intro v7 w7 hown7 hc7 hb7)
    |fail)
   go_ret2
   refine⟨.inr ⟨hres.out,_,_,_,rfl,ownsRow_less hown7 hz5,?_,by have:=HK5.out;have:=HAD.out;omega⟩,HC6.out.trans' hc7 (fun x hx=>.inr (by have:=(own_lt HO.out x hx).1;omega))⟩;intro u hu;rcases List.mem_append.1 hu with h1|h1
   ·simp at h1;rcases h1 with rfl|rfl<;>rfl
   ·exact H15.out u h1
 have hne:((x0:Int) !=1)=true:=by simp;omega
 have hwl:IntKind.i64.wrap ((l.length:Int)-1)=(l.length:Int)-1:=by rw[IntKind.wrap_i64];omega
 by_cases h2:at_+1=l.length
 ·have hon:=HON.out;rw[if_neg h1,if_pos (by omega)]at hon;have hrr:=HO1.out;rw[hon]at hrr;simp only at hrr;replace hrr:=zH hrr;have hI2:((at_:Int)==(l.length:Int)-1)=true:=by simp;omega
  clear hon HON HO1 HDD h2 REC hb hf hend HS HCell h1 hz;go_enter Tryz.func159,Tryz.ntmps159
  go_upto_region 11 with (first
   |(refine zs (vs:=#[.int .i64 (x0:Int),.slice none 0 0]) rfl 276 (.tmp 7) (.tmp 38) rfl rfl hBN rfl rfl rfl infO rfl ?_;intro w3 hBO hc3)
   |fail)
  have HC:=zH (HCA.out.trans' hc3 (zN (by omega)));have k0:w3.cell? ⟨w.heap.size,0,none⟩=some (.int .i64 (x0:Int)):=hBO.cell 0;clear hc3 hBN HCA c0;go_wp2_with fail;go_ret2
  exact⟨.inl ⟨by rw[hrr.out];omega,by rw[hrr.out];rfl⟩,HC.out⟩
 have hI2:((at_:Int)==(l.length:Int)-1)=false:=by rw[beq_eq_false_iff_ne];omega
 have j1:(at_:Int)+1<(l.length:Int):=by omega
 have HC1b:Hid (∀W,Chg [] w W→W.cell? ⟨b,o+(at_+1),none⟩=some (.int .u8 (gB l (at_+1):Nat))):=zH (fun W hc=>HCell.out W hc _ (by omega));have hX1:∃y,y=gB l (at_+1):=⟨_,rfl⟩;obtain⟨y,hy⟩:=hX1;rw[←hy]at HC1b HON g1;clear hy;have hwy:IntKind.i64.wrap (y:Int)=(y:Int):=by rw[IntKind.wrap_i64];omega
 have hwla:IntKind.i64.wrap ((l.length:Int)-(at_:Int))=(l.length:Int)-(at_:Int):=by rw[IntKind.wrap_i64];omega
 by_cases h3:y<2
 ·have hon:=HON.out;rw[if_neg h1,if_neg (by omega),if_pos h3]at hon;have hrr:=HO1.out;rw[hon]at hrr;simp only at hrr;replace hrr:=zH hrr;have hI3:(y:Int)<2:=by omega
  clear hon HON HO1 HDD h2 REC hb hf hend HS HCell h1 hz;go_enter Tryz.func159,Tryz.ntmps159
  go_upto_region 11 with (first
   |(refine zs (vs:=#[.int .i64 (x0:Int),.slice none 0 0]) rfl 276 (.tmp 7) (.tmp 38) rfl rfl hBN rfl rfl rfl infO rfl ?_;intro w3 hBO hc3)
   |fail)
  have HC:=zH (HCA.out.trans' hc3 (zN (by omega)));have k0:w3.cell? ⟨w.heap.size,0,none⟩=some (.int .i64 (x0:Int)):=hBO.cell 0;clear hc3 hBN HCA c0;have q1:=HC1b.out w3 HC.out;go_wp2_with fail;go_ret2
  exact⟨.inl ⟨by rw[hrr.out];omega,by rw[hrr.out];rfl⟩,HC.out⟩
 have hI3:¬(y:Int)<2:=by omega
 by_cases h4:l.length-at_<y
 ·have hon:=HON.out;rw[if_neg h1,if_neg (by omega),if_neg h3,if_pos h4]at hon;have hrr:=HO1.out;rw[hon]at hrr;simp only at hrr;replace hrr:=zH hrr;have hI4:(y:Int)>(l.length:Int)-(at_:Int):=by omega
  clear hon HON HO1 HDD h2 REC hb hf hend HS HCell h1 hz;go_enter Tryz.func159,Tryz.ntmps159
  go_upto_region 11 with (first
   |(refine zs (vs:=#[.int .i64 (x0:Int),.slice none 0 0]) rfl 276 (.tmp 7) (.tmp 38) rfl rfl hBN rfl rfl rfl infO rfl ?_;intro w3 hBO hc3)
   |fail)
  have HC:=zH (HCA.out.trans' hc3 (zN (by omega)));have k0:w3.cell? ⟨w.heap.size,0,none⟩=some (.int .i64 (x0:Int)):=hBO.cell 0;clear hc3 hBN HCA c0;have q1:=HC1b.out w3 HC.out;go_wp2_with fail;go_ret2
  exact⟨.inl ⟨by rw[hrr.out];omega,by rw[hrr.out];rfl⟩,HC.out⟩
 have hI4:¬(y:Int)>(l.length:Int)-(at_:Int):=by omega
 obtain⟨ad,had⟩:∃ad,ad=at_+y:=⟨_,rfl⟩;obtain⟨a2,ha2⟩:∃a2,a2=at_+2:=⟨_,rfl⟩;have hv2:IntKind.i64.wrap ((at_:Int)+2)=(a2:Int):=by rw[IntKind.wrap_i64];omega
 have hvd:IntKind.i64.wrap ((at_:Int)+(y:Int))=(ad:Int):=by rw[IntKind.wrap_i64];omega
 have hadl:ad≤l.length:=by omega
 have ha2d:a2≤ad:=by omega
 have hwy2:IntKind.i64.wrap ((y:Int)-2)=((y-2:Nat):Int):=by rw[IntKind.wrap_i64];omega
 obtain⟨X,hXr,hXs⟩:=cutY2 (HS.out w (Chg.refl _ _)) ha2d hadl;have HXs:=zH (fun W (hc:Chg [] w W)=>hXs.chg0 hc);have HK1:Hid ((l.drop ad).length<f):=zH (by rw[List.length_drop];rw[List.length_drop]at hf;omega);have HAD:Hid (at_+1≤ad):=zH (by omega);have HLG:=zH (longV_fits x0 (y-2))
 have HDL:Hid (((l.drop a2).take (ad-a2)).length=ad-a2):=zH (by rw[List.length_take,List.length_drop];omega);have hdl:ad-a2≤1000:=by omega
 have HFA:Hid (fitsO x0 (y-2)=false→r=5):=zH (fun hq=>by
  have hon:=HON.out;rw[if_neg h1,if_neg (by omega),if_neg h3,if_neg h4,if_pos hq]at hon;have hrr:=HO1.out;rw[hon]at hrr;exact hrr)
 have HTR:Hid (fitsO x0 (y-2)=true→r=optW f (l.drop ad)):=zH (fun hq=>by
  have hon:=HON.out;rw[if_neg h1,if_neg (by omega),if_neg h3,if_neg h4,if_neg (by rw[hq];simp)]at hon;have hrr:=HO1.out;rw[hon]at hrr;simp only at hrr;rw[HDD.out,←had]at hrr;exact hrr)
 have FL:=zH (fun W=>rlong_any (x0:Int) W);generalize y-2=y2 at *;generalize longV (x0:Int)=lv at *;have hlvI:lv≥0∨¬lv≥0:=by omega
 clear hXs HON HO1 HDD h2 h3 h4 had ha2 hb hf hend hz g0 g1;go_enter Tryz.func159,Tryz.ntmps159
 go_upto_region 11 with (first
  |(refine zs (vs:=#[.int .i64 (x0:Int),.slice none 0 0]) rfl 276 (.tmp 7) (.tmp 38) rfl rfl hBN rfl rfl rfl infO rfl ?_;intro w3 hBO hc3)
  |fail)
 have HC:=zH (HCA.out.trans' hc3 (zN (by omega)));have k0:w3.cell? ⟨w.heap.size,0,none⟩=some (.int .i64 (x0:Int)):=hBO.cell 0;clear hc3 hBN HCA c0;have q1:=HC1b.out w3 HC.out;go_upto_region 19 with fail
 have HSX:=zH (HXs.out w3 HC.out);have hD:Chg [w.heap.size] w3 w3.drew:=(Chg.refl _ w3).drew;have k1:w3.cell? ⟨w.heap.size,1,none⟩=some (.slice none 0 0):=hBO.cell 1;have HBO:=zH hBO;have hBlt:=hBO.lt;clear q1 k0 hBO;refine wp_region_noPanic ?_
 refine wp_region_held_drew (S:=fun W:World=>Chg [w.heap.size] w3 W) (by kernel_rfl) hD (fun _=>?_);refine zU 0 rfl (by go_simp<;>with_reducible rfl) ?_
 try simp only[zP]
 refine zU 2 rfl (by go_simp<;>with_reducible rfl) ?_
 try simp only[zP]
 refine zU 3 rfl (by go_simp<;>with_reducible rfl) ?_
 try simp only[zP]
 refine zU 4 rfl (by go_simp<;>with_reducible rfl) ?_
 try simp only[zP]
 refine zU 5 rfl (by go_simp<;>with_reducible rfl) ?_
 try simp only[zP]
 refine zU 6 rfl (by go_simp<;>with_reducible rfl) ?_
 try simp only[zP]
 refine zU 7 rfl (by go_simp<;>with_reducible rfl) ?_
 try simp only[zP]
 refine zU 8 rfl (by go_simp<;>with_reducible rfl) ?_
 try simp only[zP]
 refine zR 1 rfl (fun K hK=>?_);refine step_run (v:=.slice none 0 0) (w':=w3.drew) rfl (by go_simp) ?_;refine zB hK ?_;clear hK K
 try simp only[zP]
 refine zR 9 rfl (fun K hK=>?_);refine step_app elY rfl (.tmp 62) (.tmp 69) rfl w3.heap.size rfl (World.ownsRow_nil w3.drew w3.heap.size 5 1) rfl (Sl.chg0 HSX.out ((Chg.refl [] w3).drew)) (byV_one _) (by rw[HDL.out];unfold maxLen;omega) (by rw[HDL.out];omega) (by simp) ?_;intro v7 w7 hown7 hc7 hb7
 replace hc7:Chg [] w3.drew w7:=hc7;have hC7:(fun W:World=>Chg [w.heap.size] w3 W) w7:=hD.trans (hc7.more (by simp));obtain⟨A7,c7,rfl⟩:=Sl.form (Sl.of_own hown7);have hB7:=HBO.out.drew.chg hc7 (by simp);clear hc7 hown7 hb7;generalize 0+((l.drop a2).take (ad-a2)).length=n7 at *;refine zB hK ?_
 clear hK K
 try simp only[zP]
 refine zU 10 rfl (by go_simp<;>with_reducible rfl) ?_
 try simp only[zP]
 refine zR 11 rfl (fun K hK=>?_);refine step_store_cell (v:=.slice A7 n7 c7) rfl 22 (.tmp 71) (.tmp 70) rfl hB7 rfl rfl rfl (by show 1<2;omega) (by kernel_rfl) rfl ?_;intro w8 hB8 hc8;have hC8:(fun W:World=>Chg [w.heap.size] w3 W) w8:=Chg.trans hC7 hc8;clear hc8;refine zB hK ?_;clear hK K
 try simp only[zP]
 refine wpAnyH_done (by kernel_rfl) ?_ _;refine NoPanic.normal ?_;have hBO:Blk w8 w.heap.size 276 #[.int .i64 (x0:Int),.slice A7 n7 c7]:=hB8;replace HC:=zH (HC.out.trans' hC8 (zN (by omega)));have k0:w8.cell? ⟨w.heap.size,0,none⟩=some (.int .i64 (x0:Int)):=hBO.cell 0
 clear hB8 hC8 hC7 hB7 HBO hD k1 HSX HXs hXr;go_wp2_with fail;refine (FL.out _).mono ?_;rintro e w9 ⟨rfl,rfl⟩;clear k0 FL;by_cases hft:fitsO x0 y2=true
 case neg=>
  have hff:fitsO x0 y2=false:=by simpa using hft
  have hr5:=zH (HFA.out hff);have hlg:=HLG.out;rw[hff]at hlg;have hlg2:0≤lv∧lv≠(y2:Int):=by
   have:=of_decide_eq_false hlg.symm;exact Classical.not_not.1 this
  have hA1:lv≥0:=hlg2.1;have hA2:(lv !=(y2:Int))=true:=by simpa using hlg2.2
  clear hff hft hlg hlg2 HLG HFA HTR REC HS HCell;go_wp2_with fail;go_ret2
  exact⟨.inl ⟨by rw[hr5.out];omega,by rw[hr5.out];rfl⟩,HC.out⟩
 have HRR:=zH (HTR.out hft);have hlg:=HLG.out;rw[hft]at hlg;have hlg2:¬(0≤lv∧lv≠(y2:Int)):=of_decide_eq_true hlg.symm;have hcs:¬lv≥0∨(lv≥0∧(lv !=(y2:Int))=false):=by
  rcases hlvI with h|h
  ·exact .inr ⟨h,by rw[bne_eq_false_iff_eq];omega⟩
  ·exact .inl (by omega)
 clear hft hlg hlg2 HLG HFA HTR hlvI;rcases hcs with hA1 | ⟨hA1,hA2⟩
 all_goals
  go_upto_region 23 with fail
  have FR:=zH (REC.out w8 (.slice (some ⟨b,o,none⟩) l.length c) ad (HS.out w8 HC.out) hadl HK1.out);have hBW:=hBO.lt;clear REC HS HCell;generalize optW f (l.drop ad)=r2 at *;go_wp2_with fail;refine FR.out.mono ?_;rintro e w5 ⟨hp,hc5⟩;have HC5:=zH (HC.out.trans hc5)
  rcases hp with ⟨hn,rfl⟩ | ⟨hn0,v5,k5,xs5,rfl,ho5,h15,hk5⟩
  ·have hI9:(r2 !=0)=true:=by simpa using hn
   have hres:Hid (r≠0∧r=r2):=zH ⟨by rw[HRR.out];exact hn,HRR.out⟩;clear FR hc5 hn HRR;go_wp2_with fail;go_ret2
   exact⟨.inl ⟨hres.out.1,by rw[hres.out.2];rfl⟩,HC5.out⟩
  ·have hB5:=hBO.chg hc5 (by simp);have hres:Hid (r=0):=zH (by rw[HRR.out];exact hn0);obtain⟨A9,c9,rfl⟩:=Sl.form (Sl.of_own ho5);have hA2:=(Chg.refl [] w5).alloc (.cells #[.int .i64 (x0:Int),.slice A7 n7 c7] 276);have HT:=zH (Sl.chg0 (Sl.of_own ho5) hA2)
   have HO:=zH (own_lit (base:=w5.heap.size) w5 276 2 1 #[.int .i64 (x0:Int),.slice A7 n7 c7] (Nat.le_refl _) (by simp[maxLen]) rfl);have HC6:=zH (HC5.out.trans hA2);have hz5:=HC5.out.size;have H15:=zH h15;have HK5:=zH hk5;have hk1000:k5≤1000:=by omega
   clear FR hc5 hn0 HRR ho5 hA2 h15 hk5;go_wp2_with (first
    |(refine zl rfl 276 (.tmp 7) rfl hB5 rfl _ Tryz.underlying276 rfl infO ?_)
    |(at_builtin;refine wpList_app elO rfl (.tmp 95) (.tmp 96) rfl w5.heap.size rfl HO.out rfl HT.out H15.out (by unfold maxLen;omega) (by omega) (by simp) ?_;intro v7 w7 hown7 hc7 hb7)
    |fail)
   go_ret2
   refine⟨.inr ⟨hres.out,_,_,_,rfl,ownsRow_less hown7 hz5,?_,by have:=HK5.out;have:=HAD.out;omega⟩,HC6.out.trans' hc7 (fun x hx=>.inr (by have:=(own_lt HO.out x hx).1;omega))⟩;intro u hu;rcases List.mem_append.1 hu with h1|h1
   ·simp at h1;rcases h1 with rfl|rfl<;>rfl
   ·exact H15.out u h1
end Go.Proofs.YtgbndaiifbogmaaGreat
namespace Go.Proofs.YtgbndaiifbogmaaGreat
open Go.RowKit Go.Maps
theorem rrest_all {l:By} (hb:okB l) (hl:l.length≤1000):∀f:Nat,Rest6 l f
 |0=>fun w v at_ h ha hf=>absurd hf (by omega)
 |f+1=>rrest_step hb hl (zH (rrest_all hb hl f))
theorem roparse_any {w:World} {v:Value} {l:By} (h:SlY w 0 v l) (hb:okB l) (hl:l.length≤1000000) :
  Calls Tryz.prog 96 #[v] w fun e w'=>(∃u,e=.returned (.tuple #[u,.int .i64 (optS l)])∧u.oneCell'=true∧∃A n c,u=.slice A n c)∧Chg [] w w':=by
 obtain⟨A,c,rfl⟩:=h.form;have HX:Hid (optS l=if 40<l.length then 4 else optW (l.length+1) l):=zH rfl;generalize optS l=r at *;by_cases h40:40<l.length
 ·have hr:=HX.out;rw[if_pos h40]at hr;replace hr:=zH hr;have hI:(l.length:Int)>40:=by omega
  clear HX h hb h40;go_enter Tryz.func96,Tryz.ntmps96
  go_wp2_with fail;go_ret2
  exact⟨⟨.slice none 0 0,by rw[hr.out];rfl,rfl,_,_,_,rfl⟩,Chg.refl _ _⟩
 ·have hr:=HX.out;rw[if_neg h40]at hr;have hI:¬(l.length:Int)>40:=by omega
  have FR:=zH (rrest_all hb (by omega) (l.length+1) w (.slice A l.length c) 0 h (by omega) (by rw[List.drop_zero];omega));rw[List.drop_zero,←hr]at FR;clear HX h hb h40 hr;go_enter Tryz.func96,Tryz.ntmps96
  go_wp2_with fail;refine FR.out.mono ?_;rintro e w1 ⟨hp,hc1⟩;rcases hp with ⟨hn,rfl⟩ | ⟨hn0,v5,k5,xs5,rfl,ho5,h15,hk5⟩
  ·clear FR;go_wp2_with fail;go_ret2
   exact⟨⟨_,rfl,rfl,_,_,_,rfl⟩,hc1⟩
  ·obtain⟨A9,c9,rfl⟩:=Sl.form (Sl.of_own ho5);have HR0:=zH hn0;clear FR ho5 hn0;go_wp2_with fail;go_ret2
   exact⟨⟨_,by rw[HR0.out];rfl,rfl,_,_,_,rfl⟩,hc1⟩
theorem rtwo7_any {w:World} {v:Value} {l:By} (h:SlY w 0 v l) (hb:okB l) (hl:l.length≤1000000) {at_:Nat} (ha:at_+2≤l.length) :
  Calls Tryz.prog 97 #[v,.int .i64 at_] w fun e w'=>e=.returned (.int .i64 (w2 l at_))∧Chg [] w w':=by
 obtain⟨A,c,rfl⟩:=h.form;have F:=zH (r16_any h hb hl ha);generalize w2 l at_=y at *;clear h hb;go_enter Tryz.func97,Tryz.ntmps97
 go_wp2_with fail;refine F.out.mono ?_;rintro e w1 ⟨rfl,hc⟩;go_wp2_with fail;go_ret
 exact⟨rfl,hc⟩
theorem rfour7_any {w:World} {v:Value} {l:By} (h:SlY w 0 v l) (hb:okB l) (hl:l.length≤1000000) {at_:Nat} (ha:at_+4≤l.length) :
  Calls Tryz.prog 98 #[v,.int .i64 at_] w fun e w'=>e=.returned (.int .u32 (w4 l at_))∧Chg [] w w':=by
 obtain⟨A,c,rfl⟩:=h.form;have F:=zH (r32_any h hb hl ha);generalize w4 l at_=y at *;clear h hb;go_enter Tryz.func98,Tryz.ntmps98
 go_wp2_with fail;refine F.out.mono ?_;rintro e w1 ⟨rfl,hc⟩;go_wp2_with fail;go_ret
 exact⟨rfl,hc⟩
end Go.Proofs.YtgbndaiifbogmaaGreat
namespace Go.Proofs.YtgbndaiifbogmaaGreat
open Go.RowKit Go.Maps
theorem rtlv_any {w:World} {B:Nat} {v:Value} {l:By} (h:SlY w B v l) (hb:okB l) (hl:l.length≤1000000) :
  Calls Tryz.prog 131 #[v] w fun e w'=>(∃A n c,e=.returned (.tuple #[.slice A n c,.int .i64 (tlvS l)]))∧Chg [] w w':=by
 obtain⟨A0,c0,rfl⟩:=h.form;have hx:Hid (tlvW (l.length+1) l=tlvS l):=zH rfl;generalize tlvS l=x at *;have HB:=zH hb;have HS0:=zH (h.less (Nat.zero_le _));clear h hb;obtain⟨N,hN⟩:∃N,N=l.length:=⟨_,rfl⟩;rw[←hN]at hx hl HS0 ⊢;have HN:=zH hN;clear hN;go_enter Tryz.func131,Tryz.ntmps131
 go_wp2_with fail;go_loopw [4,5] (fun ov iv wr=>∃(i:Nat) (ow:Value),ow=ov∧i≤N∧iv=.int .i64 i∧Hid (OwT wr w.heap.size ow (N-i))∧Hid (∃f,N-i<f∧tlvW f (l.drop i)=x)∧Hid (Chg [] w wr)) (fun _ iv _=>N-(intOf iv).toNat)
 case atStart=>exact⟨0,_,rfl,by omega,rfl,zH ⟨0,[],by omega,World.ownsRow_nil ..⟩,zH ⟨N+1,by omega,by simpa using hx.out⟩,zH (Chg.refl _ _)⟩
 case round=>
  obtain⟨i,ov,rfl,hi,rfl,HO,HF,HC⟩:=hrel;obtain⟨f,hf,hX⟩:=HF.out;have hml:(l.drop i).length=N-i:=by rw[List.length_drop,←HN.out]
  clear HF hx;by_cases hend:i=N
  ·subst hend;rw[tlvW_0 (by omega) (by omega)]at hX;subst hX;obtain⟨k,xs,hk,ho⟩:=HO.out;obtain⟨A2,c2,rfl⟩:=Sl.form (Sl.of_own ho);have k0:¬(i:Int)<(i:Int):=by omega
   clear HO ho hf hml hk HS0 HB HN;go_wp2_with fail;go_ret2
   exact⟨⟨_,_,_,rfl⟩,HC.out⟩
  have hiN:i<N:=by omega
  have j0:(i:Int)<(N:Int):=by omega
  obtain⟨b,o,c',e,hcap,_,hcell⟩:=HS0.out.all (by have:=HN.out;omega);simp only[Value.slice.injEq,true_and]at e;obtain⟨rfl,e2,rfl⟩:=e;clear e2
  have HCell:Hid (∀W,Chg [] w W→∀i,i<N→W.cell? ⟨b,o+i,none⟩=some (.int .u8 (gB l i:Nat))):=zH (fun W hc i hi=>hc.cell (hcell i (by have:=HN.out;omega)) (by simp));have HBW:Hid (b<w.heap.size):=zH (World.block_lt_of_cell? w _ (hcell 0 (by have:=HN.out;omega)));have c0:=HCell.out wr HC.out i hiN
  have hm0:gB (l.drop i) 0=gB l i:=by rw[gB_drop,Nat.add_zero]
  have hm1:gB (l.drop i) 1=gB l (i+1):=by rw[gB_drop]
  have hdd:∀k,(l.drop i).drop k=l.drop (i+k):=fun k=>by rw[List.drop_drop]
  have g0:=gB_lt HB.out i;have g1:=gB_lt HB.out (i+1);have hwi:IntKind.i64.wrap ((i:Int)+1)=(i:Int)+1:=by rw[IntKind.wrap_i64];omega
  clear hcell hcap;by_cases hz:gB l i=0
  ·obtain⟨f',hX2,hf'⟩:=tlvW_pad (f:=f) (m:=l.drop i) (by omega) (by omega) (by rw[hm0];exact hz);rw[hX2,hdd]at hX;have HF:Hid (∃f,N-(i+1)<f∧tlvW f (l.drop (i+1))=x):=zH ⟨f',by rw[List.length_drop]at hf';omega,hX⟩
   have HO':Hid (OwT wr w.heap.size ov (N-(i+1))):=zH (by obtain⟨k,xs,hk,ho⟩:=HO.out;exact⟨k,xs,by omega,ho⟩);rw[hz]at c0;clear hX hX2 hf hf' hm0 hm1 hdd hml HO hz HS0 HB HN HCell HBW g0 g1;go_wp2_with fail;go_roundw
   case rel=>exact⟨i+1,_,rfl,by omega,by go_num,HO',HF,HC⟩
   case measure=>simp[intOf];omega
  have hzI:(((gB l i:Nat):Int)==0)=false:=by rw[beq_eq_false_iff_ne];omega
  have hwn:IntKind.i64.wrap ((N:Int)-1)=(N:Int)-1:=by rw[IntKind.wrap_i64];omega
  by_cases h2:i+1=N
  ·have h3:=tlvW_bad (f:=f) (m:=l.drop i) (by omega) (by omega) (by rw[hm0];exact hz) (.inl (by omega));rw[hX]at h3;subst h3;have hI2:((i:Int)==(N:Int)-1)=true:=by simp;omega
   generalize gB l i=x0 at *;clear hX hf hm0 hm1 hdd hml HO hz HS0 HB HN HCell HBW g0 g1 h2 hend hi;go_wp2_with fail;go_ret2
   exact⟨⟨_,_,_,rfl⟩,HC.out⟩
  have hI2:((i:Int)==(N:Int)-1)=false:=by rw[beq_eq_false_iff_ne];omega
  have j1:(i:Int)+1<(N:Int):=by omega
  have c1:=HCell.out wr HC.out (i+1) (by omega);have hw1:IntKind.i64.wrap ((gB l (i+1):Nat):Int)=((gB l (i+1):Nat):Int):=by rw[IntKind.wrap_i64];omega
  have hwa:IntKind.i64.wrap ((N:Int)-(i:Int))=(N:Int)-(i:Int):=by rw[IntKind.wrap_i64];omega
  have hwb:IntKind.i64.wrap ((N:Int)-(i:Int)-2)=(N:Int)-(i:Int)-2:=by rw[IntKind.wrap_i64];omega
  by_cases h3:N-i<2+gB l (i+1)
  ·have h4:=tlvW_bad (f:=f) (m:=l.drop i) (by omega) (by omega) (by rw[hm0];exact hz) (.inr (by omega));rw[hX]at h4;subst h4;have hI3:((gB l (i+1):Nat):Int)>(N:Int)-(i:Int)-2:=by omega
   generalize gB l i=x0 at *;generalize gB l (i+1)=x1 at *;clear hX hf hm0 hm1 hdd hml HO hz HS0 HB HN HCell HBW g0 g1 h2 hend hi h3;go_wp2_with fail;go_ret2
   exact⟨⟨_,_,_,rfl⟩,HC.out⟩
  have hI3:¬((gB l (i+1):Nat):Int)>(N:Int)-(i:Int)-2:=by omega
  obtain⟨f',hX2,hf'⟩:=tlvW_on (f:=f) (m:=l.drop i) (by omega) (by omega) (by rw[hm0];exact hz) (by omega);rw[hX2,hm1,hdd]at hX;rw[hm1,hdd,List.length_drop,←HN.out]at hf';obtain⟨z,hzd⟩:∃z,z=i+(2+gB l (i+1)):=⟨_,rfl⟩;obtain⟨a2,ha2⟩:∃a2,a2=i+2:=⟨_,rfl⟩;rw[←hzd]at hX hf'
  have HF:Hid (∃f,N-z<f∧tlvW f (l.drop z)=x):=zH ⟨f',hf',hX⟩;have hv2:IntKind.i64.wrap ((i:Int)+2)=(a2:Int):=by rw[IntKind.wrap_i64];omega
  have hvd:IntKind.i64.wrap ((a2:Int)+((gB l (i+1):Nat):Int))=(z:Int):=by rw[IntKind.wrap_i64];omega
  have hzN:z≤N:=by omega
  have ha2z:a2≤z:=by omega
  have hiz:i<z:=by omega
  have HIZ:=zH hiz;obtain⟨X,hXr,hXs⟩:=cutY2 (HS0.out) (lo:=a2) (hi:=z) ha2z (by rw[←HN.out];exact hzN);have HXs:=zH (fun W (hc:Chg [] w W)=>hXs.chg0 hc);have HDL:Hid (((l.drop a2).take (z-a2)).length=z-a2):=zH (by have:=HN.out;rw[List.length_take,List.length_drop];omega)
  have hdl:z-a2≤1000000:=by omega
  have HM:Hid (N-z<N-i):=zH (by omega);generalize gB l (i+1)=x1 at *;generalize gB l i=x0 at *;clear hX hX2 hf hf' hm0 hm1 hdd hml HB hz hzd ha2 hXs h3 h2 hend;by_cases h4:x0=4
  ·have HO':Hid (OwT wr w.heap.size ov (N-z)):=zH (by obtain⟨k,xs,hk,ho⟩:=HO.out;exact⟨k,xs,by have:=HM.out;omega,ho⟩);subst h4;replace c0:wr.cell? ⟨b,o+i,none⟩=some (.int .u8 4):=c0;clear HO HS0 HXs hXr HDL HN HCell HBW;go_wp2_with fail;go_roundw
   case rel=>exact⟨z,_,rfl,hzN,by go_num,HO',HF,HC⟩
   case measure=>simp[intOf];have:=HM.out;omega
  have h4I:((x0:Int) !=4)=true:=by simp;omega
  have hwx:IntKind.i64.wrap (x0:Int)=(x0:Int):=by rw[IntKind.wrap_i64];omega
  have hbo:Hid (b∉ov.ownBlock.toList):=zH (fun hm=>by
   obtain⟨k,xs,hk,ho⟩:=HO.out;have:=(own_lt ho b hm).1;have:=HBW.out;omega)
  have hc0w:∀W:World,Chg ov.ownBlock.toList wr W→W.cell? ⟨b,o+i,none⟩=some (.int .u8 (x0:Nat)):=fun W hc=>hc.cell c0 hbo.out
  have HXW:=zH (fun W (hc:Chg [] wr W)=>HXs.out W (HC.out.trans hc));clear h4 HXs HS0 HN HCell HBW hbo;go_upto_region 10 with fail
  have hS0:Chg [] wr wr.drew:=(Chg.refl [] wr).drew;have hS0':(fun W:World=>Chg ov.ownBlock.toList wr W) wr.drew:=hS0.more (by simp);refine wp_region_noPanic ?_;refine wp_region_held_drew (S:=fun W:World=>Chg ov.ownBlock.toList wr W) (by kernel_rfl) hS0' (fun _=>?_)
  refine zU 0 rfl (by go_simp<;>with_reducible rfl) ?_
  try simp only[zP]
  refine zU 1 rfl (by go_simp<;>with_reducible rfl) ?_
  try simp only[zP]
  refine zU 2 rfl (by go_simp<;>with_reducible rfl) ?_
  try simp only[zP]
  refine zU 3 rfl (by go_simp<;>with_reducible rfl) ?_
  try simp only[zP]
  refine zT 4 rfl (zc (by rfl) 5 (.tmp 54) rfl b (o+i) rfl (.int .u8 (x0:Nat)) _ hc0w Tryz.underlying5 rfl) ?_
  try simp only[zP]
  refine zU 5 rfl (by go_simp<;>with_reducible rfl) ?_
  try simp only[zP]
  refine zU 7 rfl (by go_simp<;>with_reducible rfl) ?_
  try simp only[zP]
  refine zU 8 rfl (by go_simp<;>with_reducible rfl) ?_
  try simp only[zP]
  refine zU 9 rfl (by go_simp<;>with_reducible rfl) ?_
  try simp only[zP]
  refine zU 10 rfl (by go_simp<;>with_reducible rfl) ?_
  try simp only[zP]
  refine zU 11 rfl (by go_simp<;>with_reducible rfl) ?_
  try simp only[zP]
  refine zR 6 rfl (fun K hK=>?_);refine step_run (v:=.slice (some ⟨wr.drew.heap.size,0,none⟩) 0 0) (w':=wr.drew.alloc (.cells #[] 5)) rfl (by go_simp<;>rfl) ?_;have hS1:Chg [] wr (wr.drew.alloc (.cells #[] 5)):=hS0.alloc _
  have hS1':(fun W:World=>Chg ov.ownBlock.toList wr W) (wr.drew.alloc (.cells #[] 5)):=hS1.more (by simp)
  have ho1:(wr.drew.alloc (.cells #[] 5)).ownsRow wr.heap.size 5 1 (.slice (some ⟨wr.drew.heap.size,0,none⟩) 0 0) 0 []:=own_lit (base:=wr.heap.size) wr.drew 5 1 0 #[] hS0.size (by simp[maxLen]) rfl;refine zB hK ?_;clear hK K
  try simp only[zP]
  refine zR 12 rfl (fun K hK=>?_);refine step_app elY rfl (.tmp 57) (.tmp 62) rfl wr.heap.size rfl ho1 rfl (HXW.out _ hS1) (byV_one _) (by rw[HDL.out];unfold maxLen;omega) (by rw[HDL.out];omega) hS1.size ?_;intro v3 w3 hown3 hc3 hb3
  have hS3:Chg [] wr w3:=hS1.trans' hc3 (fun x hx=>.inr (own_lt ho1 x hx).1);have hS3':(fun W:World=>Chg ov.ownBlock.toList wr W) w3:=hS3.more (by simp);obtain⟨A3,c3,rfl⟩:=Sl.form (Sl.of_own hown3);clear hown3 hc3 hb3 ho1 hS1 hS1';generalize 0+((l.drop a2).take (z-a2)).length=n3 at *;refine zB hK ?_
  clear hK K
  try simp only[zP]
  refine zU 13 rfl (by go_simp<;>with_reducible rfl) ?_
  try simp only[zP]
  refine zR 14 rfl (fun K hK=>?_);refine step_run (v:=.slice (some ⟨w3.heap.size,0,none⟩) 1 1) (w':=w3.alloc (.cells #[.int .i64 (x0:Nat),.slice A3 n3 c3] 283)) rfl (by go_simp<;>rfl) ?_;have hS4:Chg [] wr (w3.alloc (.cells #[.int .i64 (x0:Nat),.slice A3 n3 c3] 283)):=hS3.alloc _
  have hS4':(fun W:World=>Chg ov.ownBlock.toList wr W) (w3.alloc (.cells #[.int .i64 (x0:Nat),.slice A3 n3 c3] 283)):=hS4.more (by simp);have hs4:Sl (w3.alloc (.cells #[.int .i64 (x0:Nat),.slice A3 n3 c3] 283)) 0 2 (.slice (some ⟨w3.heap.size,0,none⟩) 1 1) 1 [.int .i64 (x0:Nat),.slice A3 n3 c3]:=
   Sl.of_own (own_lit (base:=0) w3 283 2 1 #[.int .i64 (x0:Nat),.slice A3 n3 c3] (Nat.zero_le _) (by simp[maxLen]) rfl)
  generalize w3.heap.size=g4 at *;generalize w3.alloc (.cells #[.int .i64 (x0:Nat),.slice A3 n3 c3] 283)=w4 at *;obtain⟨k,xs,hk,ho⟩:=HO.out;have hlt4:=own_lt ho;have ho4:=own_chg ho hS4 (by simp);refine zB hK ?_;clear hK K
  try simp only[zP]
  refine zR 15 rfl (fun K hK=>?_);refine step_app elT rfl (.tmp 51) (.tmp 65) rfl w.heap.size rfl ho4 rfl hs4 (by intro u hu;simp at hu;rcases hu with rfl|rfl<;>rfl) (by unfold maxLen;omega) (by omega) (Nat.le_trans HC.out.size hS4.size) ?_;intro v5 w5 hown5 hc5 hb5
  have HO':Hid (OwT w5 w.heap.size v5 (N-z)):=zH ⟨k+1,_,by have:=HM.out;omega,hown5⟩;have HC5:Hid (Chg [] w w5):=zH ((HC.out.trans hS4).trans' hc5 (fun y hy=>.inr (hlt4 y hy).1));have hS5':(fun W:World=>Chg ov.ownBlock.toList wr W) w5:=Chg.trans hS4' hc5;refine zB hK ?_;clear hK K
  try simp only[zP]
  refine zU 16 rfl (by go_simp<;>with_reducible rfl) ?_
  try simp only[zP]
  refine wpAnyH_done (by kernel_rfl) ?_ _;refine NoPanic.normal ?_;clear hS0 hS0' hS3 hS3' hS4 hS4' hS5' hc5 hb5 hown5 ho4 hlt4 ho hs4 hc0w c0 c1 HXW hk;go_wp2_with fail;go_roundw
  case rel=>exact⟨z,_,rfl,hzN,by go_num,HO',HF,HC5⟩
  case measure=>simp[intOf];have:=HM.out;omega
end Go.Proofs.YtgbndaiifbogmaaGreat

/-
  PROVED: LearnSaid returns true for every input, and its arguments read as before. No condition.
-/
import Derived.Test.YtgbndaiifbogmaaGreatZ32
import Derived.Test.YtgbndaiifbogmaaGreatZ18
import Derived.Test.YtgbndaiifbogmaaGreatZ19
import Derived.Test.YtgbndaiifbogmaaGreatZ27
import Derived.Test.YtgbndaiifbogmaaGreatZ00
import Derived.Test.YtgbndaiifbogmaaGreatZ04
set_option linter.unusedVariables false
set_option linter.unusedSimpArgs false
set_option maxRecDepth 100000
set_option maxHeartbeats 8000000
namespace Go.Proofs.YtgbndaiifbogmaaGreat
open Go.RowKit Go.Maps
theorem said_more {node:Int} {f:Fl} {seq own:Int} (hn:1≤node∧node≤65535) (hf:PortsF f) (ho:0≤own∧own≤4294967295) :
  ∃y pk z q t,answerS node f seq own=.ok y∧(okB y∧y.length≤1000000)∧parseS y=.ok pk∧tellS (.ok pk)=.ok (f,node)∧okA pk.head.dst∧stripS y=.ok z∧(okB z∧z.length=60)∧parseS z=.ok q∧q.srh=none∧q.head.src=f.dst∧q.final=f.src∧q.up=.tcp t ∧
   t.t.dport=f.sport∧t.t.ack=u32w (seq+1):=by
 obtain⟨ht,hc⟩:=greetT_ok (f:=f) hf (seq:=seq) ho;have hs:=hf.ok.1;have hd:=hf.ok.2.2.1;have hg:=sidA_ok 0 6 node;have htt:=sealT_num (src:=f.dst) (dst:=f.src) (p:=[]) hc ht;have hfine:=seal_fine (p:=[]) hd hs hc (by intro x hx;simp at hx)
 have hsl:=tcpB_len (sealT f.dst f.src (greetT f seq own) []) [];have hk:∀(n x p:Int) (d:Ad),okA d→0≤n∧n≤65535→0≤x∧x≤255→0≤p∧p≤255→okHd ⟨0,0,n,x,p,f.dst,d⟩:=fun n x p d h1 h2 h3 h4=>⟨canH_of (by omega) (by omega) h2 h3 h4,hd,h1⟩
 have e1:=tcpP_ok (src:=f.dst) (dst:=f.src) (t:=greetT f seq own) (p:=[]) hc (by simp);have e2:insS (joinS ⟨0,0,0,6,64,f.dst,f.src⟩ (tcpB (sealT f.dst f.src (greetT f seq own) []) [])) [sidA 0 6 node] =
   .ok (joinS ⟨0,0,0,43,64,f.dst,sidA 0 6 node⟩ (srhB 6 1 [f.src,sidA 0 6 node]++tcpB (sealT f.dst f.src (greetT f seq own) []) [])):=
  ins_plain (h:=⟨0,0,0,6,64,f.dst,f.src⟩) (hk (tcpB (sealT f.dst f.src (greetT f seq own) []) []).length 6 64 f.src hs (by rw[hsl];simp) (by omega) (by omega)) rfl (by rw[hsl];simp)
 have okl:∀a∈[f.src,sidA 0 6 node],okA a:=by
  intro a ha;simp at ha;rcases ha with rfl|rfl
  ·exact hs
  ·exact hg
 have hlen:(srhB 6 1 [f.src,sidA 0 6 node]++tcpB (sealT f.dst f.src (greetT f seq own) []) []).length=60:=by rw[List.length_append,srhB_len,hsl];rfl
 have hk1:okHd { (⟨0,0,0,43,64,f.dst,sidA 0 6 node⟩:Hd) with len:=(srhB 6 1 [f.src,sidA 0 6 node]++tcpB (sealT f.dst f.src (greetT f seq own) []) []).length}:=hk (srhB 6 1 [f.src,sidA 0 6 node]++tcpB (sealT f.dst f.src (greetT f seq own) []) []).length 43 64 (sidA 0 6 node) hg (by rw[hlen];simp) (by omega) (by omega)
 have e3:=parse_routed (h:=⟨0,0,0,43,64,f.dst,sidA 0 6 node⟩) (left:=1) (l:=[f.src,sidA 0 6 node]) (p:=[]) hk1 rfl htt (by simp) (by simp) okl rfl hfine (by simp);have e4:=strip_routed (h:=⟨0,0,0,43,64,f.dst,sidA 0 6 node⟩) (l:=[f.src,sidA 0 6 node]) hk1 rfl (by simp) (by simp) (by simp) okl
 have e5:=parse_plain (h:=⟨0,0,0,6,63,f.dst,f.src⟩) (p:=[]) (hk (tcpB (sealT f.dst f.src (greetT f seq own) []) []).length 6 63 f.src hs (by rw[hsl];simp) (by omega) (by omega)) rfl htt hfine (by simp)
 have hob:okB (tcpB (sealT f.dst f.src (greetT f seq own) []) []):=tcpB_ok (by intro x hx;simp at hx);have hk2:=hk (tcpB (sealT f.dst f.src (greetT f seq own) []) []).length 6 63 f.src hs (by rw[hsl];simp) (by omega) (by omega)
 refine⟨_,_,_,_,_,?_,⟨joinS_ok hk1 (okB.app (srhB_ok1 okl) hob),?_⟩,e3,?_,hg,e4,⟨joinS_ok hk2 hob,?_⟩,e5,rfl,rfl,rfl,rfl,?_,?_⟩
 rotate_left
 ·have h1:=joinS_len (h:=⟨0,0,0,43,64,f.dst,sidA 0 6 node⟩) (r:=srhB 6 1 [f.src,sidA 0 6 node]++tcpB (sealT f.dst f.src (greetT f seq own) []) []) hk1.can;rw[hlen]at h1;omega
 rotate_left
 ·have h1:=joinS_len (h:=⟨0,0,0,6,63,f.dst,f.src⟩) (r:=tcpB (sealT f.dst f.src (greetT f seq own) []) []) hk2.can;rw[hsl]at h1;simp only[List.length_nil]at h1;exact h1
 rotate_left
 rotate_left
 ·unfold answerS;rw[e1];exact e2
 ·unfold tellS;simp only
  rw[split_sid (by omega) (by omega) (by omega)];simp only
  rw[if_neg (by omega)];have h1:(sealT f.dst f.src (greetT f seq own) []).dport=f.sport:=by unfold sealT;rw[if_neg (by rw[List.length_nil,hc];simp)];rfl
  have h2:(sealT f.dst f.src (greetT f seq own) []).sport=f.dport:=by unfold sealT;rw[if_neg (by rw[List.length_nil,hc];simp)];rfl
  simp only[h1,h2];rfl
 ·unfold sealT;rw[if_neg (by rw[List.length_nil,hc];simp)];rfl
 ·unfold sealT;rw[if_neg (by rw[List.length_nil,hc];simp)];rfl
theorem tell_note {w:World} {B:Nat} {p:Pm} {m:Pk} {f:Fl} {n:Int} (h:PkR w B p m) (ht:tellS (.ok m)=.ok (f,n)):noteV p=.tuple #[.agg (arrNo f n),.int .i64 0]:=by
 have h1:=h.head;have h2:=h.rt;have h3:=h.fin;have h4:=h.srh;have h5:=h.up;unfold tellS at ht;simp only at ht;cases hs:m.srh with
 |none=>rw[hs]at ht;cases ht
 |some s=>
  rw[hs]at h2 h4;cases hu:m.up with
  |msg u=>rw[hs,hu]at ht;cases ht
  |tcp t=>
   rw[hu]at h5;rw[hs,hu]at ht;simp only at ht;rw[←h1,←h3]at ht;cases hq:splitA p.h.dst with
   |none=>rw[hq]at ht;cases ht
   |some x=>
    obtain⟨a,b,c⟩:=x;rw[hq]at ht;simp only at ht;split at ht
    ·cases ht
    ·rename_i hc;injection ht with ht
     injection ht with e1 e2
     subst e1 e2;have e:errP p=0:=by
      unfold errP;rw[hq,h4.1,h5.1,h2];have k0:kindE ((some s:Option Sr).isSome) 6=0:=rfl;have f0:formE (okSp (some (a,b,c))) (numSp (some (a,b,c))).1 (numSp (some (a,b,c))).2.1 (numSp (some (a,b,c))).2.2=0:=if_pos ⟨rfl,by show a=0;omega,by show b=6;omega,by show 1≤c;omega,by show c≤65535;omega⟩
      have l0:leftE s.left=0:=if_pos (by omega);rw[k0,f0,l0];rfl
     unfold noteV;rw[if_neg (by rw[e];simp),hq,←h5.2.1];rfl
structure SaidF (node:Int) (f:Fl) (seq:Int) (y z:By) (m q:Pk):Prop where
 y1:okB y
 y2:y.length≤1000000
 y3:parseS y=.ok m
 z0:stripS y=.ok z
 z1:okB z
 z2:z.length=60
 z3:parseS z=.ok q
 note:∀(w:World) (B:Nat) (p:Pm),PkR w B p m→okA p.h.dst∧noteV p=.tuple #[.agg (arrNo f node),.int .i64 0]
 last:∀(w:World) (B:Nat) (p:Pm),PkR w B p q→p.rt=false∧p.h.src=f.dst∧p.f=f.src∧p.t.dport=f.sport∧p.t.ack=u32w (seq+1)
theorem said_full {node:Int} {f:Fl} {seq own:Int} (hn:1≤node∧node≤65535) (hf:PortsF f) (ho:0≤own∧own≤4294967295) :
  ∃y z m q,answerS node f seq own=.ok y∧SaidF node f seq y z m q:=by
 obtain⟨y,m,z,q,t,h1,h2,h3,h4,h5,h6,h7,h8,h9,h10,h11,h12,h13,h14⟩:=said_more (seq:=seq) hn hf ho;refine⟨y,z,m,q,h1,h2.1,h2.2,h3,h6,h7.1,h7.2,h8,fun w B p hp=>⟨?_,tell_note hp h4⟩,fun w B p hp=>?_⟩
 ·rw[hp.head];exact h5
 ·have hu:=hp.up;rw[h12]at hu;refine⟨?_,?_,?_,?_,?_⟩
  ·rw[hp.rt,h9];rfl
  ·rw[hp.head];exact h10
  ·rw[hp.fin];exact h11
  ·rw[hu.2.1];exact h13
  ·rw[hu.2.1];exact h14
theorem note0:noteV pm0=.tuple #[.agg (arrNo fl0 0),.int .i64 7]:=by kernel_rfl
end Go.Proofs.YtgbndaiifbogmaaGreat
namespace Go.Proofs.YtgbndaiifbogmaaGreat
open Go.RowKit Go.Maps
theorem lives_any (w:World):Calls Tryz.prog 16 #[] w fun e w'=>e=.returned (.bool true)∧Chg [] w w':=by
 have ho:0≤hashA 3 0 flS∧hashA 3 0 flS≤4294967295:=by unfold hashA;rw[IntKind.wrap_u32'];omega
 obtain⟨y,z,m,q,hy,hf⟩:=said_full (node:=3) (f:=flS) (seq:=0) (by omega) ports_S ho;have FS:Hid (∀U,Calls Tryz.prog 59 #[.int .i64 3] U fun e w'=>∃v,e=.returned v∧OwY w' U.heap.size v y∧Chg [] U w'):=zH fun U=>by
  obtain⟨y',h1,_,_,h2⟩:=lsignal_any U;rw[hy]at h1;injection h1 with h1
  subst h1;exact h2
 have FP:=zH (fun U v (h:SlY U 0 v y)=>pparse_any h hf.y1 hf.y2);have FT:=zH (fun U v (h:SlY U 0 v y)=>lstrip_any h hf.y1 hf.y2);rw[hf.y3]at FP;rw[hf.z0]at FT;have FR:=zH (fun (W:World) B p (h:PkR W B p m) U=>lread_any (hf.note W B p h).1 h.one U)
 have HV:=zH (fun (W:World) B p (h:PkR W B p m)=>(hf.note W B p h).2);have FR0:Hid (∀U,Calls Tryz.prog 12 #[.agg (arrPk pm0)] U fun e w'=>e=.returned (.tuple #[.agg (arrNo fl0 0),.int .i64 7])∧Chg [] U w'):=zH (fun U=>by
  have:=lread_any (p:=pm0) okA_0 (by kernel_rfl) U;rw[note0]at this;exact this)
 have hz60:=hf.z2;clear hf hy ho;go_enter Tryz.func16,Tryz.ntmps16
 go_wp2_with fail;refine (FS.out _).mono ?_;rintro e w1 ⟨v1,rfl,ho1,hc1⟩;have HS1:=zH (Sl.less (B':=0) (OwY.sl ho1) (Nat.zero_le _));have HC1:=zH hc1;clear hc1 ho1;go_wp2_with fail;refine (FP.out _ _ HS1.out).mono ?_;rintro e w2 ⟨⟨p,rfl,hp⟩,hc2⟩
 have hB2:Blk (w2.alloc (.cells (arrPk pm0) 38)) w2.heap.size 38 (arrPk pm0):=Blk.new _ _ _;have HC2:=zH ((HC1.out.trans hc2).alloc (.cells (arrPk pm0) 38));have hz2:=(HC1.out.trans hc2).size;have HP:=zH hp;clear HC1 HS1 hc2 hp;go_upto_region 2 with (first
  |(refine zs (vs:=arrPk p) rfl 38 (.tmp 1) (.tmp 12) rfl rfl hB2 rfl rfl rfl infPk HP.out.one ?_;intro w3 hB3 hc3)
  |fail)
 have HC3:Hid (Chg [] w w3):=zH (HC2.out.trans' hc3 (zN (by omega)));have HPR:=zH (FR.out _ _ _ HP.out);have hv:=HV.out _ _ _ HP.out;clear HC2 hB2 hc3 FR HV;go_wp2_with (first
  |(refine zl rfl 38 (.tmp 1) rfl hB3 rfl _ Tryz.underlying38 rfl infPk ?_)
  |fail)
 refine (HPR.out _).mono ?_;rintro e w4 ⟨rfl,hc4⟩;rw[hv];clear hv HPR;have hB4:Blk (w4.alloc (.cells (arrNo fl0 0) 48)) w4.heap.size 48 (arrNo fl0 0):=Blk.new _ _ _;have hz4:=(HC3.out.trans hc4).size;have HC4:=zH ((HC3.out.trans hc4).alloc (.cells (arrNo fl0 0) 48));clear hc4 hB3 HC3 HP
 go_upto_region 3 with (first
  |(refine zs (vs:=arrNo flS 3) rfl 48 (.tmp 3) (.tmp 17) rfl rfl hB4 rfl rfl rfl infNo rfl ?_;intro w5 hB5 hc5)
  |fail)
 have HC5:Hid (Chg [] w w5):=zH (HC4.out.trans' hc5 (zN (by omega)));have hl5:=hB5.lt;clear HC4 hB4 hc5;go_wp2_with fail;refine (FS.out _).mono ?_;rintro e w6 ⟨v6,rfl,ho6,hc6⟩;have HS6:=zH (Sl.less (B':=0) (OwY.sl ho6) (Nat.zero_le _));have HC6:=zH (HC5.out.trans hc6);have hB6:=hB5.chg hc6 (by simp)
 clear hc6 ho6 hB5 HC5 FS FP;go_wp2_with fail;refine (FT.out _ _ HS6.out).mono ?_;rintro e w7 ⟨⟨v7,rfl,ho7⟩,hc7⟩;have HC7:=zH (HC6.out.trans hc7);have hB7:=hB6.chg hc7 (by simp);obtain⟨A7,c7,rfl⟩:=(OwY.sl ho7).form;rw[hz60];clear hc7 ho7 hB6 HC6 FT HS6;go_wp2_with fail;refine (FR0.out _).mono ?_
 rintro e w8 ⟨rfl,hc8⟩;have hB8:Blk (w8.alloc (.cells (arrNo fl0 0) 48)) w8.heap.size 48 (arrNo fl0 0):=Blk.new _ _ _;have hz8:=(HC7.out.trans hc8).size;have hN8:=(hB7.chg hc8 (by simp)).alloc (.cells (arrNo fl0 0) 48);have HC8:=zH ((HC7.out.trans hc8).alloc (.cells (arrNo fl0 0) 48))
 have hl8:=(hB7.chg hc8 (by simp)).lt;clear hc8 hB7 HC7 FR0;go_upto_region 5 with (first
  |(refine zs (vs:=arrNo fl0 0) rfl 48 (.tmp 7) (.tmp 27) rfl rfl hB8 rfl rfl rfl infNo rfl ?_;intro w9 hB9 hc9)
  |fail)
 have HC9:Hid (Chg [] w w9):=zH (HC8.out.trans' hc9 (zN (by omega)));have hN9:=hN8.chg hc9 (by simp;omega);have q34:=hN9.cell 34;have q16:=hN9.cell 16;have q33:=hN9.cell 33;clear hc9 hB9 hB8 hN8 hN9 HC8;go_wp2_with fail;go_ret
 exact⟨rfl,HC9.out⟩
end Go.Proofs.YtgbndaiifbogmaaGreat
namespace Go.Proofs.YtgbndaiifbogmaaGreat
open Go.RowKit Go.Maps Go.WideMaps Go.WideShapes
def litsN (f:Fl):List Lit:=litsA f.src++(.int .i64 f.sport::(litsA f.dst ++ [.int .i64 f.dport]))
theorem keyLits_fn {d:Nat} {f:Fl} (h:okF f):Tryz.prog.keyLits (d+3) 46 (encF f)=some (litsN f):=by
 have hcA:Tryz.prog.cellsOf 24=16:=by kernel_rfl
 have hcI:Tryz.prog.cellsOf 3=1:=by kernel_rfl
 have hcF:Tryz.prog.cellsOf 46=34:=by kernel_rfl
 unfold Program.keyLits;simp only[Tryz.underlying46];rw[if_pos ⟨by rw[hcF];rfl,by simp⟩];have g0:((encF f).drop 0).take 16=encA f.src:=rfl;have g1:((encF f).drop 16).take 1=[.int .i64 f.sport]:=rfl;have g2:((encF f).drop 17).take 16=encA f.dst:=rfl
 have g3:((encF f).drop 33).take 1=[.int .i64 f.dport]:=rfl;have k0:=keyLits_ad (d:=d) h.1;have k1:=keyLits_int (d:=d+1) h.2.1;have k2:=keyLits_ad (d:=d) h.2.2.1;have k3:=keyLits_int (d:=d+1) h.2.2.2;simp only[List.mapM_cons,List.mapM_nil,hcA,hcI,g0,g1,g2,g3];rw[show d+2=d+1+1 from rfl]at *
 rw[k0,k1,k2,k3];simp[litsN]
theorem typesFor4:∃d,Tryz.prog.types.size+1=d+4:=⟨Tryz.prog.types.size-3,by have:3≤Tryz.prog.types.size:=of_decide_eq_true (by kernel_rfl);omega⟩
def encNo (f:Fl) (n:Int):List Value:=encF f ++ [.int .i64 n]
def keyNo (f:Fl) (n:Int):Lit:=.string (keyBytes (litsN f ++ [.int .i64 n]))
theorem key_no {f:Fl} {n:Int} (h:okF f) (hn:(Lit.int .i64 n).wf=true):keyOf Tryz.prog 48 (.agg (arrNo f n))=some (keyNo f n):=by
 have hcF:Tryz.prog.cellsOf 46=34:=by kernel_rfl
 have hcI:Tryz.prog.cellsOf 3=1:=by kernel_rfl
 have hcE:Tryz.prog.cellsOf 48=35:=by kernel_rfl
 have hkE:Tryz.prog.keyType 48=true:=by kernel_rfl
 obtain⟨d,hd⟩:=typesFor4;unfold keyOf;simp only[Tryz.underlying48];rw[if_pos (by simp[hkE,Value.formed,Tryz.underlying48,hcE]),hd];have e1:(Value.agg (arrNo f n)).cells.toList=encNo f n:=rfl;rw[e1];unfold Program.keyLits;simp only[Tryz.underlying48];rw[if_pos ⟨by rw[hcE];rfl,by simp⟩]
 have g0:((encNo f n).drop 0).take 34=encF f:=rfl;have g1:((encNo f n).drop 34).take 1=[.int .i64 n]:=rfl;simp only[List.mapM_cons,List.mapM_nil,hcF,hcI,g0,g1];rw[keyLits_fn (d:=d) h,keyLits_int (d:=d+2) hn];simp[keyNo]
theorem same_no (w:World) {f:Fl} {n:Int} (h:okF f) (hn:(Lit.int .i64 n).wf=true):(Op.equalIn 10000 48 (.agg (arrNo f n)) (.agg (arrNo f n))).run Tryz.prog w=.ok true w:=by
 obtain⟨r,hr,hi⟩:=run_equal_deep w (m:=5) (by omega) (k:=48) (by kernel_rfl) (by kernel_rfl) (key_no h hn) (key_no h hn);rw[←hi.2 rfl];exact hr
end Go.Proofs.YtgbndaiifbogmaaGreat
namespace Go.Proofs.YtgbndaiifbogmaaGreat
open Go.RowKit Go.Maps
theorem wf_u32 {n:Int} (h:(Lit.int .u32 n).wf=true):0≤n∧n≤4294967295:=by
 simp[Lit.wf,IntKind.min,IntKind.max,IntKind.signed,IntKind.bits]at h;omega
theorem canT_ports {f:Fl} {seq:Int} (h:canT (reqT f seq) 0=0) (hf:okF f):PortsF f:=by
 unfold canT at h;split at h
 ·omega
 ·rename_i hn;have hn':numsT (reqT f seq)=true:=by simpa using hn
  have:=of_decide_eq_true hn';exact⟨hf,this.1,this.2.1⟩
def SidPost (node:Int) (e:Ending):Prop:=∃la er,e=.returned (.tuple #[.agg (arrA la),.int .i64 er])∧okA la∧(1≤node∧node≤65535→la=sidA node 3 1∧er=0)
theorem sid_post (node:Int) (w:World):Calls Tryz.prog 18 #[.agg (arrSi node 3 1)] w fun e w'=>SidPost node e∧Chg [] w w':=by
 by_cases h:node<0∨65535<node
 ·refine (rmake_err (n:=node) (d:=3) (r:=1) (by omega) h w).mono ?_;rintro e w' ⟨rfl,hc⟩;exact⟨⟨_,_,rfl,okA_0,fun h1=>by omega⟩,hc⟩
 ·obtain⟨n,rfl⟩:∃n:Nat,node=n:=⟨node.toNat,by omega⟩;refine (rmake_any (n:=n) (d:=3) (r:=1) (by omega) (by omega) (by omega) w).mono ?_;rintro e w' ⟨rfl,hc⟩;exact⟨⟨_,_,rfl,sidA_ok _ _ _,fun _=>⟨rfl,rfl⟩⟩,hc⟩
def AskPost (f:Fl) (seq:Int) (B:Nat) (e:Ending) (w':World):Prop:=∃v er,e=.returned (.tuple #[v,.int .i64 er])∧(er=0→canT (reqT f seq) 0=0∧∃b0,tcpP f.src f.dst (reqT f seq) []=.ok b0∧SlY w' 0 v b0)
theorem ask_post {f:Fl} (hf:okF f) {seq:Int} (hq:0≤seq∧seq≤4294967295) (w:World) :
  Calls Tryz.prog 19 #[.agg (arrA f.src),.agg (arrA f.dst),.agg (arrTc (reqT f seq) noV noV)] w fun e w'=>AskPost f seq w.heap.size e w'∧Chg [] w w':=by
 refine (rtcp_any hf.1 hf.2.2.1 (t:=reqT f seq) ⟨hq,(by decide:(0:Int)≤0∧(0:Int)≤4294967295)⟩ (w:=w) (SlY.nil w 0) (by intro z hz;simp at hz) (by simp)).mono ?_;rintro e w' ⟨hp,hc⟩;refine⟨?_,hc⟩;by_cases h:canT (reqT f seq) 0=0
 ·have e1:=tcpP_ok (src:=f.src) (dst:=f.dst) (t:=reqT f seq) (p:=[]) h (by simp);rw[e1]at hp;obtain⟨v,rfl,ho⟩:=hp;exact⟨_,_,rfl,fun _=>⟨h,_,e1,Sl.less (OwY.sl ho) (Nat.zero_le _)⟩⟩
 ·have e1:tcpP f.src f.dst (reqT f seq) []=.error (canT (reqT f seq) 0):=by
   have es:sealT f.src f.dst (reqT f seq) []=reqT f seq:=if_pos h;unfold tcpP putT;rw[es];rw[if_pos (by simpa using h)];rfl
  rw[e1]at hp;obtain rfl:e=_:=hp;exact⟨_,_,rfl,fun h1=>absurd h1 h⟩
theorem said_pack {node:Int} (hn:1≤node∧node≤65535) {f:Fl} (hf:PortsF f) {seq:Int} (hq:0≤seq∧seq≤4294967295) {b0:By} (hb:tcpP f.src f.dst (reqT f seq) []=.ok b0) :
  ∃x y z m q,okB b0∧b0.length≤1000000∧insS b0 [sidA node 3 1]=.ok x∧SaidF node f seq y z m q ∧
   ∀(W U:World) (ga tb gp gt:Nat) (S:List Nat) (v:Value),AgR W U ga node 0 tb gp gt 0 ⟨1,0,0,[]⟩ S (arrPo 0 1 0 0 fnAlways) arrTy0→SlY U 0 v x →
    Calls Tryz.prog 21 #[.pointer (some ⟨ga,0,none⟩),v] U fun e w'=>OneR U e w' y∧Chg S U w':=by
 have ho:0≤hashA node seq f∧hashA node seq f≤4294967295:=by unfold hashA;rw[IntKind.wrap_u32'];omega
 obtain⟨r1,r2⟩:=reqT_ok hf hq;obtain⟨b0',x,q1,q2,q3,q4,q5,q6,q7⟩:=via_plain hf.ok.1 hf.ok.2.2.1 (sidA_ok node 3 1) r1 r2;obtain rfl:b0=b0':=by rw[hb]at q1;exact Except.ok.inj q1
 obtain⟨g1,g2⟩:=greetT_ok hf (seq:=seq) ho;obtain⟨y1,y2,p1,p2,p3,p4,p5,p6,_⟩:=via_plain hf.ok.2.2.1 hf.ok.1 (sidA_ok 0 6 node) g1 g2;have hans:answerS node f seq (hashA node seq f)=.ok y2:=by
  unfold answerS;rw[p1];exact p4
 obtain⟨y,z,m,q,e1,e2⟩:=said_full (seq:=seq) hn hf ho;obtain rfl:y2=y:=by rw[hans]at e1;exact Except.ok.inj e1
 exact⟨x,y2,z,m,q,q2,q3,q4,e2,fun W U ga tb gp gt S v hg h=>asked hg hn hf h q5 q6 q7 p1 p2 p3 p4⟩
end Go.Proofs.YtgbndaiifbogmaaGreat
namespace Go.Proofs.YtgbndaiifbogmaaGreat
open Go.RowKit Go.Maps
theorem wpList_want {P:Program} {ops:Array Oper} {rest:List Oper} {op:Oper} {a:Act} {w:World} {Q:Exit→Act→World→Prop} (hw:Region.wanted op (yielded ops a.tmps)=true)
  (h:wpList P ops Q ({op with guard:=none} :: rest) a w):wpList P ops Q (op::rest) a w:=by
 unfold wpList at h ⊢;rw[if_pos (by simp[Region.wanted])]at h;rw[if_pos hw];exact h
theorem lsaid_any {node:Int} (hn:(Lit.int .i64 node).wf=true) {f:Fl} (hf:okF f) {seq:Int} (hq:0≤seq∧seq≤4294967295) (w:World) :
  Calls Tryz.prog 4 #[.int .i64 node,f.v,.int .u32 seq] w fun e w'=>e=.returned (.bool true)∧Chg [] w w':=by
 have FL:=zH (fun U=>lives_any U);have FN:=zH (anew_any node);have FM:=zH (sid_post node);have FT:=zH (fun U=>ask_post hf hq U);have HOK:=zH hf;have HN:=zH hn;have HQ:=zH hq;clear hf hn hq;have hB:Blk (w.alloc (.cells (arrF f) 46)) w.heap.size 46 (arrF f):=Blk.new _ _ _
 have HA:=zH ((Chg.refl [] w).alloc (.cells (arrF f) 46));go_enter Tryz.func4,Tryz.ntmps4
 go_wp2_with fail;refine (FN.out _).mono ?_;rintro e w1 ⟨hp1,hc1⟩;obtain⟨pa,HPA,rfl⟩:∃pa,Hid (1≤node∧node≤65535→∃ga tb gp gt S,pa=.pointer (some ⟨ga,0,none⟩)∧AgR (w.alloc (.cells (arrF f) 46)) w1 ga node 0 tb gp gt 0 ⟨1,0,0,[]⟩ S (arrPo 0 1 0 0 fnAlways) arrTy0)∧e=.returned pa:=by
  split at hp1
  ·obtain⟨ga,tb,gp,gt,S,rfl,hR⟩:=hp1;exact⟨_,zH fun _=>⟨ga,tb,gp,gt,S,rfl,hR⟩,rfl⟩
  ·obtain rfl:e=_:=hp1;exact⟨_,zH fun h=>by omega,rfl⟩
 have HC1:=zH (HA.out.trans hc1);have hB1:=hB.chg hc1 (by simp);clear hp1 hc1 FN HA hB;go_wp2_with fail;refine (FM.out _).mono ?_;rintro e w2 ⟨⟨la,er,rfl,hla,hgd⟩,hc2⟩;have HLA:=zH hla;have HGD:=zH hgd;have hc2':=hc2.alloc (.cells (arrA ad0) 24)
 have hB2:Blk (w2.alloc (.cells (arrA ad0) 24)) w2.heap.size 24 (arrA ad0):=Blk.new _ _ _;have HC2:=zH hc2';have hBf2:=hB1.chg hc2' (by simp);have hz2:=hc2.size;have hl1:=hB1.lt;clear hc2 hc2' FM hla hgd hB1;go_upto_region 3 with (first
  |(refine zs (vs:=arrA la) rfl 24 (.tmp 8) (.tmp 30) rfl rfl hB2 rfl rfl rfl infAd rfl ?_;intro w3 hB3 hc3)
  |fail)
 have HC3:Hid (Chg [] w1 w3):=zH (HC2.out.trans' hc3 (zN (by omega)));have hBf3:=hBf2.chg hc3 (by simp;omega);have q16:=hBf3.cell 16;have q33:=hBf3.cell 33;clear HC2 hB2 hc3 hBf2;go_wp2_with (first
  |(refine wpList_load_part (vs:=arrA f.src) rfl 24 (.tmp 33) rfl hBf3 0 rfl _ Tryz.underlying24 rfl infAd (bf_src f) ?_)
  |(refine wpList_load_part (vs:=arrA f.dst) rfl 24 (.tmp 35) rfl hBf3 17 rfl _ Tryz.underlying24 rfl infAd (bf_dst f) ?_)
  |fail)
 refine (FT.out _).mono ?_;rintro e w4 ⟨⟨v4,eg,rfl,hb0⟩,hc4⟩;have HB0:=zH hb0;have hB4:=hB3.chg hc4 (by simp);have hBf4:=hBf3.chg hc4 (by simp);have HC4:Hid (Chg [] w1 w4):=zH (HC3.out.trans hc4);clear hb0 hc4 q16 q33 hB3 hBf3 HC3 FT;by_cases hlo:node<1
 ·have hI:decide (node<1)=true:=decide_eq_true hlo;have HC5:Hid (Chg [] w w4):=zH (HC1.out.trans HC4.out);clear hlo HB0 HGD HLA HPA hB4 hBf4 HC1 HC4;go_wp2_with fail;refine (FL.out _).mono ?_;rintro e w5 ⟨rfl,hc5⟩;go_wp2_with fail;go_ret
  exact⟨rfl,HC5.out.trans hc5⟩
 by_cases hhi:65535<node
 ·have hI:decide (node<1)=false:=decide_eq_false hlo;have hI2:decide (65535<node)=true:=decide_eq_true hhi;have HC5:Hid (Chg [] w w4):=zH (HC1.out.trans HC4.out);clear hlo hhi HB0 HGD HLA HPA hB4 hBf4 HC1 HC4;go_wp2_with fail;refine (FL.out _).mono ?_;rintro e w5 ⟨rfl,hc5⟩;go_wp2_with fail;go_ret
  exact⟨rfl,HC5.out.trans hc5⟩
 have hI:decide (node<1)=false:=decide_eq_false hlo;have hI2:decide (65535<node)=false:=decide_eq_false hhi;by_cases hge:eg=0
 case neg=>
  have hI3:(eg !=0)=true:=by simpa using hge
  have HC5:Hid (Chg [] w w4):=zH (HC1.out.trans HC4.out);clear hlo hhi hge HB0 HGD HLA HPA hB4 hBf4 HC1 HC4;go_wp2_with fail;refine (FL.out _).mono ?_;rintro e w5 ⟨rfl,hc5⟩;go_wp2_with fail;go_ret
  exact⟨rfl,HC5.out.trans hc5⟩
 subst hge;have HNN:Hid (1≤node∧node≤65535):=zH (by omega);clear hlo hhi;obtain⟨hcan,b0,q1,hs0⟩:=HB0.out rfl;obtain⟨rfl,rfl⟩:=HGD.out HNN.out;obtain⟨ga,tb,gp,gt,S,rfl,hR⟩:=HPA.out HNN.out;have hports:=canT_ports hcan HOK.out;obtain⟨x,y,z,m,q,k1,k2,k3,hsd,hask⟩:=said_pack HNN.out hports HQ.out q1
 have FI:=zH (fun U v (h:SlY U 0 v b0)=>linsert_any h k1 k2 (sidA_ok node 3 1));rw[k3]at FI;have FH:=zH (fun U v (hg:AgR (w.alloc (.cells (arrF f) 46)) U ga node 0 tb gp gt 0 ⟨1,0,0,[]⟩ S (arrPo 0 1 0 0 fnAlways) arrTy0) (h:SlY U 0 v x)=>hask _ U ga tb gp gt S v hg h)
 have FP:=zH (fun U v (h:SlY U 0 v y)=>pparse_any h hsd.y1 hsd.y2);have FS:=zH (fun U v (h:SlY U 0 v y)=>lstrip_any h hsd.y1 hsd.y2);have FQ:=zH (fun U v (h:SlY U 0 v z)=>rparse_any h hsd.z1 (by have:=hsd.z2;omega));rw[hsd.y3]at FP;rw[hsd.z0]at FS;rw[hsd.z3]at FQ
 have FR:=zH (fun (W:World) B p (h:PkR W B p m) U=>lread_any (hsd.note W B p h).1 h.one U);have HV:=zH (fun (W:World) B p (h:PkR W B p m)=>(hsd.note W B p h).2);have HLast:=zH hsd.last;have HR:=zH (hR.chg0 HC4.out);have HS:=zH hs0
 have HNW:Hid (∀W:World,(Op.equalIn 10000 48 (.agg (arrNo f node)) (.agg (arrNo f node))).run Tryz.prog W=.ok true W):=zH (fun W=>same_no W HOK.out HN.out)
 have HE1:Hid (∀W:World,(Op.equalIn 10000 24 (.agg (arrA f.dst)) (.agg (arrA f.dst))).run Tryz.prog W=.ok true W):=zH (fun W=>by have:=eq_ad W HOK.out.2.2.1 HOK.out.2.2.1;rw[decide_eq_true rfl]at this;exact this)
 have HE2:Hid (∀W:World,(Op.equalIn 10000 24 (.agg (arrA f.src)) (.agg (arrA f.src))).run Tryz.prog W=.ok true W):=zH (fun W=>by have:=eq_ad W HOK.out.1 HOK.out.1;rw[decide_eq_true rfl]at this;exact this);clear HB0 HGD HPA hcan q1 hs0 hR hports k1 k2 k3 hsd hask HLA HNN
 generalize sidA node 3 1=sa at *;go_upto_region 6 with fail
 go_wp2_with (first
  |(refine zl rfl 24 (.tmp 8) rfl hB4 rfl _ Tryz.underlying24 rfl infAd ?_)
  |fail)
 refine (FI.out _ _ HS.out).mono ?_;rintro e w5 ⟨⟨v5,rfl,ho5⟩,hc5⟩;have HS5:=zH (Sl.less (B':=0) (OwY.sl ho5) (Nat.zero_le _));have HR5:=zH (HR.out.chg0 hc5);have HC5:=zH (HC4.out.trans hc5);have hBf5:=hBf4.chg hc5 (by simp);have hz5:=HC5.out.size;clear hI hI2 ho5 hc5 HS HR HC4 hBf4 hB4 FI
 go_wp2_with fail;refine (FH.out _ _ HR5.out HS5.out).mono ?_;rintro e w6 ⟨⟨go,cg,vb,ge,rfl,hk,hoy,hgo⟩,hc6⟩;have hB6:Blk (w6.alloc (.cells arrR0 69)) w6.heap.size 69 arrR0:=Blk.new _ _ _
 have HC6:Hid (Chg [] w w6):=zH ((HC1.out.trans HC5.out).trans' hc6 (fun z hz=>by have:=HR5.out.ct.new z hz;simp at this;right;omega));have hBf6:=hBf5.chg hc6 (fun hm=>by have h2:w.heap.size+1≤w.heap.size:=(by (have h3:=HR5.out.ct.new w.heap.size hm;simpa using h3));omega);have HC6':=HC6.out.size
 have hlg:w.heap.size<w6.heap.size:=hBf6.lt;have hgl:go<w6.heap.size:=World.block_lt_of_cell? w6 ⟨go,0,none⟩ hk;have hBf6':=hBf6.alloc (.cells arrR0 69);have hk':(w6.alloc (.cells arrR0 69)).cell? ⟨go,0,none⟩=some vb:=((Chg.refl [] w6).alloc (.cells arrR0 69)).cell hk (by simp)
 have HY:=zH (own_chg hoy ((Chg.refl [] w6).alloc (.cells arrR0 69)) (by simp));have HYlt:Hid (∀hc7:∃w7,Chg [w6.heap.size] (w6.alloc (.cells arrR0 69)) w7,True):=zH (fun _=>trivial);have HOL:=zH (own_lt hoy);clear FH hk hoy hc6 HC1 HC5 HS5 HR5 hBf5 hBf6;go_upto_region 8 with (first
  |(refine zs (vs:=arrRe go cg ge) rfl 69 (.tmp 14) (.tmp 65) rfl rfl hB6 rfl rfl rfl infRe rfl ?_;intro w7 hB7 hc7)
  |fail)
 have HY7:Hid (SlY w7 0 vb y):=zH (Sl.less (B':=0) (OwY.sl (own_chg HY.out hc7 (fun z hz hm=>by have h1:=(HOL.out z hz).2;have h2:=List.mem_singleton.1 hm;omega))) (Nat.zero_le _))
 have hk7:w7.cell? ⟨go,0,none⟩=some vb:=hc7.cell hk' (by intro hm;have h2:=List.mem_singleton.1 hm;simp only[]at h2;omega);have q70:w7.cell? ⟨w6.heap.size,0,none⟩=some (.slice (some ⟨go,0,none⟩) 1 cg):=hB7.cell 0;have hBf7:=hBf6'.chg hc7 (by intro hm;have h2:=List.mem_singleton.1 hm;omega)
 have HC7:Hid (Chg [] w w7):=zH ((HC6.out.alloc (.cells arrR0 69)).trans' hc7 (zN (by omega)));have hg7:w6.heap.size<w7.heap.size:=hB7.lt;have HK7:=zH (And.intro hk7 (And.intro q70 hBf7));clear hB6 hB7 hc7 hk' hBf6' HY HOL HYlt HC6 hBf7;go_wp2_with fail;clear hk7 q70
 refine (FP.out _ _ HY7.out).mono ?_;rintro e w8 ⟨⟨p,rfl,hp⟩,hc8⟩;have hB8:Blk (w8.alloc (.cells (arrPk pm0) 38)) w8.heap.size 38 (arrPk pm0):=Blk.new _ _ _;have HX8:=zH (hc8.alloc (.cells (arrPk pm0) 38));have hz8:=hc8.size;have HP:=zH hp;clear hc8 hp FP;go_upto_region 11 with (first
  |(refine zs (vs:=arrPk p) rfl 38 (.tmp 15) (.tmp 84) rfl rfl hB8 rfl rfl rfl infPk HP.out.one ?_;intro w9 hB9 hc9)
  |fail)
 have HX9:Hid (Chg [] w7 w9):=zH (HX8.out.trans' hc9 (zN (by omega)));have HPR:=zH (FR.out _ _ _ HP.out);have hv:=HV.out _ _ _ HP.out;clear HX8 hB8 hc9 FR HV HP;go_wp2_with (first
  |(refine zl rfl 38 (.tmp 15) rfl hB9 rfl _ Tryz.underlying38 rfl infPk ?_)
  |fail)
 refine (HPR.out _).mono ?_;rintro e w10 ⟨rfl,hc10⟩;rw[hv];clear hv HPR;have hB10:Blk (w10.alloc (.cells (arrNo fl0 0) 48)) w10.heap.size 48 (arrNo fl0 0):=Blk.new _ _ _;have hz10:=(HX9.out.trans hc10).size;have HX10:=zH ((HX9.out.trans hc10).alloc (.cells (arrNo fl0 0) 48));clear hc10 hB9 HX9
 go_upto_region 12 with (first
  |(refine zs (vs:=arrNo f node) rfl 48 (.tmp 17) (.tmp 89) rfl rfl hB10 rfl rfl rfl infNo rfl ?_;intro w11 hB11 hc11)
  |fail)
 have HX11:Hid (Chg [] w7 w11):=zH (HX10.out.trans' hc11 (zN (by omega)));have hl11:=hB11.lt;have hk11:=HX11.out.cell HK7.out.1 (by simp);have q110:=HX11.out.cell HK7.out.2.1 (by simp);clear HX10 hB10 hc11;go_wp2_with fail;clear hk11 q110
 refine (FS.out _ _ (Sl.chg HY7.out HX11.out (by simp))).mono ?_;rintro e w12 ⟨⟨v12,rfl,ho12⟩,hc12⟩;have HS12:=zH (Sl.less (B':=0) (OwY.sl ho12) (Nat.zero_le _));have HX12:=zH (HX11.out.trans hc12);have hB12:=hB11.chg hc12 (by simp);clear hc12 ho12 hB11 HX11 FS;go_wp2_with fail
 refine (FQ.out _ _ HS12.out).mono ?_;rintro e w13 ⟨⟨pq,rfl,hpq⟩,hc13⟩;have hB13:Blk (w13.alloc (.cells (arrPk pm0) 42)) w13.heap.size 42 (arrPk pm0):=Blk.new _ _ _;have hz13:=(HX12.out.trans hc13).size;have HX13:=zH ((HX12.out.trans hc13).alloc (.cells (arrPk pm0) 42))
 have hN13:=(hB12.chg hc13 (by simp)).alloc (.cells (arrPk pm0) 42);have hl13:=(hB12.chg hc13 (by simp)).lt;have hone:=hpq.one;have HL:=zH (HLast.out _ _ _ hpq);clear hc13 hB12 HX12 FQ HS12 hpq HLast;go_upto_region 14 with (first
  |(refine zs (vs:=arrPk pq) rfl 42 (.tmp 21) (.tmp 102) rfl rfl hB13 rfl rfl rfl infPk hone ?_;intro w14 hB14 hc14)
  |fail)
 have HX14:Hid (Chg [] w7 w14):=zH (HX13.out.trans' hc14 (zN (by omega)));have hN14:=hN13.chg hc14 (by simp;omega);have hF14:=HK7.out.2.2.chg HX14.out (by simp);have HC14:=zH (HC7.out.trans HX14.out);obtain⟨l1,l2,l3,l4,l5⟩:=HL.out;clear HX13 HX14 hB13 hN13 hc14 hone HK7 HY7 HL HC7
 have hb14s:((arrPk pq).toList.drop 5).take (arrA f.dst).toList.length=(arrA f.dst).toList:=by rw[←l2];exact pk_src pq
 have hb14f:((arrPk pq).toList.drop 44).take (arrA f.src).toList.length=(arrA f.src).toList:=by rw[←l3];exact pk_f pq
 have q16:=hF14.cell 16;have b37:w14.cell? ⟨w13.heap.size,37,none⟩=some (.bool false):=(show _=some (Value.bool pq.rt) from hB14.cell 37).trans (by rw[l1])
 have b62:w14.cell? ⟨w13.heap.size,62,none⟩=some (.int .i64 f.sport):=(show _=some (Value.int .i64 pq.t.dport) from hB14.cell 62).trans (by rw[l4]);have b64:w14.cell? ⟨w13.heap.size,64,none⟩=some (.int .u32 (u32w (seq+1))):=(show _=some (Value.int .u32 pq.t.ack) from hB14.cell 64).trans (by rw[l5])
 have hu:u32w (seq+1)=(seq+1)%4294967296:=rfl;rw[hu]at b64;have hE0:=HNW.out;have hE1:=HE1.out;have hE2:=HE2.out;clear l1 l2 l3 l4 l5 HNW HE1 HE2 hu;go_wp2_with (first
  |(refine wpList_want rfl ?_;refine zl (cs:=arrNo f node) rfl 48 (.tmp 17) rfl hN14 rfl _ Tryz.underlying48 rfl infNo ?_)
  |(refine wpList_want rfl ?_;refine zl (cs:=arrF f) rfl 46 (.tmp 4) rfl hF14 rfl _ Tryz.underlying46 rfl infF ?_)
  |(refine wpList_want rfl ?_;refine wpList_load_part (vs:=arrA f.dst) rfl 24 (.tmp 132) rfl hB14 5 rfl _ Tryz.underlying24 rfl infAd hb14s ?_)
  |(refine wpList_want rfl ?_;refine wpList_load_part (vs:=arrA f.dst) rfl 24 (.tmp 134) rfl hF14 17 rfl _ Tryz.underlying24 rfl infAd (bf_dst f) ?_)
  |(refine wpList_want rfl ?_;refine wpList_load_part (vs:=arrA f.src) rfl 24 (.tmp 139) rfl hB14 44 rfl _ Tryz.underlying24 rfl infAd hb14f ?_)
  |(refine wpList_want rfl ?_;refine wpList_load_part (vs:=arrA f.src) rfl 24 (.tmp 141) rfl hF14 0 rfl _ Tryz.underlying24 rfl infAd (bf_src f) ?_)
  |fail)
 refine (FL.out _).mono ?_;rintro e w15 ⟨rfl,hc15⟩;clear q16 b37 b62 b64 hE0 hE1 hE2 hB14 hN14 hF14;go_wp2_with fail;go_ret
 exact⟨rfl,HC14.out.trans hc15⟩
end Go.Proofs.YtgbndaiifbogmaaGreat
namespace Go.Proofs.YtgbndaiifbogmaaGreat.learnSaid
open Go.ChangeShapes Go.WideShapes Go.ChangeAt Go.RowKit Go.Deep
theorem lifted (os:Os) (started:os.Started) (H:Type) (enc:TypeId×Value→H) :
  ReturnsInHanded {} Tryz.checked os 4 .any (Rows.learnSaidSpec.pre6 enc Tryz.prog Tryz.f4 Rows.learnSaidRow.domain false) (Rows.learnSaidSpec.post enc Tryz.prog Tryz.f4 false true false false):=by
 refine returnsInHanded_of_change (C:=Tryz.checked) own started (by kernel_rfl) Tryz.func4
  (ChangeSpec.witness6 (enc:=enc) (C:=Tryz.checked) false ⟨#[],#[.int .i64 0,.agg #[.int .u8 0,.int .u8 0,.int .u8 0,.int .u8 0,.int .u8 0,.int .u8 0,.int .u8 0,.int .u8 0,.int .u8 0,.int .u8 0,.int .u8 0,.int .u8 0,.int .u8 0,.int .u8 0,.int .u8 0,.int .u8 0,.int .i64 0,.int .u8 0,.int .u8 0,.int .u8 0,.int .u8 0,.int .u8 0,.int .u8 0,.int .u8 0,.int .u8 0,.int .u8 0,.int .u8 0,.int .u8 0,.int .u8 0,.int .u8 0,.int .u8 0,.int .u8 0,.int .u8 0,.int .i64 0],.int .u32 0],[]⟩ 8 (by kernel_rfl) (by kernel_rfl) (by kernel_rfl) (by kernel_rfl)) ?_
 intro W base args ds gs before hval0 hW hcnd _;have hval:∀(j:Nat) t v,Tryz.f4.params[j]?=some t→args[j]?=some v→Value.okWide Tryz.prog W .any base t v:=hval0;have hW':=hW;obtain⟨p,q,hA0,hV,rfl,hfz,hnd⟩:=hW
 have hA:DataW.TrodAll enc Tryz.prog W 0 (fun _=>true) true Tryz.f4.params.toList args.toList ds p:=hA0;rw[Tryz.params4]at hA hval;obtain⟨v0,vs0,d0,ds0,p0,q0,hargs,rfl,rfl,h0,r0⟩:=trodAll_cons hA;obtain⟨v1,vs1,d1,ds1,p1,q1,rfl,rfl,rfl,h1,r1⟩:=trodAll_cons r0
 obtain⟨v2,vs2,d2,ds2,p2,q2,rfl,rfl,rfl,h2,r2⟩:=trodAll_cons r1;obtain⟨rfl,rfl,rfl⟩:=trodAll_nil r2;obtain rfl:args=#[v0,v1,v2]:=by cases args;simp_all
 obtain⟨rfl,rfl⟩:=trodVars_none hV;obtain⟨a0,rfl,rfl,rfl,w0⟩:=open_int Tryz.underlying3 (hval 0 3 v0 rfl rfl) h0;obtain⟨f1,rfl,hk1⟩:=open_fl (hval 1 46 v1 rfl rfl) h1;obtain⟨a2,rfl,rfl,rfl,w2⟩:=open_int Tryz.underlying31 (hval 2 31 v2 rfl rfl) h2
 refine (lsaid_any w0 hk1 (wf_u32 w2) W).mono fun e W' ⟨he,hg⟩=>?_
 subst he;exact⟨_,rfl,law_post laidOut rfl Tryz.underlying4 (by kernel_rfl) rfl hW' rfl hg⟩
theorem and2 {a b:Bool} (x:a=true) (y:b=true):(a&&b)=true:=by rw[x,y];rfl
theorem j0:(Rows.learnSaidRow.wf (OpenSpec.ofChange Rows.learnSaidSpec))=true:=by kernel_rfl
theorem j1:(laidOutB Tryz.prog)=true:=by kernel_rfl
theorem j2:(mapsRowed Tryz.prog)=true:=by kernel_rfl
theorem j3:(Tryz.f4.params.all (Tryz.prog.readableRec ·))=true:=by kernel_rfl
theorem j4:(namedTie Tryz.prog Rows.learnSaidRow.named Rows.learnSaidSpec.vars)=true:=by kernel_rfl
theorem j5:((Rows.learnSaidRow.stops==[]))=true:=by kernel_rfl
theorem j6:((Tryz.prog.stops==[]))=true:=by kernel_rfl
theorem j7:((Rows.learnSaidRow.knobs==[]))=true:=by kernel_rfl
theorem j8:((Tryz.prog.stopKnobs==[]))=true:=by kernel_rfl
theorem j9:((Rows.learnSaidRow.inPlace==Tryz.prog.inPlace 4))=true:=by kernel_rfl
theorem j10:((Rows.learnSaidRow.unfollowed==Tryz.prog.unfollowed 4))=true:=by kernel_rfl
theorem j11:((Rows.learnSaidRow.recurses==Tryz.prog.recurses 4))=true:=by kernel_rfl
theorem j12:((Rows.learnSaidRow.named==Tryz.prog.varsNamed 4))=true:=by kernel_rfl
theorem j13:((Rows.learnSaidRow.maps==(Tryz.f4.params.toList++Rows.learnSaidSpec.plain.varTypes Tryz.prog).any (Tryz.prog.mapsRec ·)))=true:=by kernel_rfl
theorem j14:((Rows.learnSaidRow.ifaces==(Tryz.f4.params.toList++Rows.learnSaidSpec.plain.varTypes Tryz.prog).any (Tryz.prog.ifacesRec ·)))=true:=by kernel_rfl
theorem j15:((Rows.learnSaidRow.mapsOut==Tryz.prog.mapsAmong Tryz.f4.resultTypes.toList))=true:=by kernel_rfl
theorem j16:((Rows.learnSaidRow.loops==(Tryz.f4.params.toList++Rows.learnSaidSpec.plain.varTypes Tryz.prog).any (Tryz.prog.loopsFrom ·)))=true:=by kernel_rfl
theorem j17:((Rows.learnSaidRow.wideKeys==(Tryz.f4.params.toList++Rows.learnSaidSpec.plain.varTypes Tryz.prog++Tryz.f4.resultTypes.toList).any (Tryz.prog.wideKeysFrom ·)))=true:=by kernel_rfl
theorem j18:(Rows.learnSaidSpec.vars.all (Tryz.prog.varReadable ·))=true:=by kernel_rfl
theorem j19:(Tryz.f4.resultTypes.all (fun t=>Tryz.prog.readableRec t&&decide (t<Tryz.prog.types.size)))=true:=by kernel_rfl
theorem j20:((Rows.learnSaidRow.ifacesOut==Tryz.f4.resultTypes.toList.any (Tryz.prog.ifacesRec ·)))=true:=by kernel_rfl
theorem j21:((Rows.learnSaidRow.loopsOut==Tryz.f4.resultTypes.toList.any (Tryz.prog.loopsFrom ·)))=true:=by kernel_rfl
theorem j22:((Rows.learnSaidRow.plainKeys==Tryz.prog.plainKeys))=true:=by kernel_rfl
theorem j23:(Rows.learnSaidRow.shortTexts.isNone)=true:=by kernel_rfl
theorem j24:(Tryz.prog.stopsHeard)=true:=by kernel_rfl
theorem j25:(Tryz.prog.mayEnter)=true:=by kernel_rfl
theorem j26:((Rows.learnSaidRow.lifted==Tryz.prog.liftsFinal))=true:=by kernel_rfl
theorem j27:((Tryz.prog.make==some Rows.learnSaidRow.make))=true:=by kernel_rfl
theorem j28:((Rows.learnSaidRow.kinds==(if Rows.learnSaidRow.domain.isEmpty then [] else Tryz.f4.params.toList.map fun t=>match Tryz.prog.underlying t with|some (.int k)=>some k|_=>none)))=true:=by kernel_rfl
theorem j29:((Rows.learnSaidRow.pinned==Rows.learnSaidRow.pinnedBy))=true:=by kernel_rfl
theorem j30:((Rows.learnSaidRow.veiled==(Tryz.f4.params.toList++Rows.learnSaidSpec.plain.varTypes Tryz.prog++Tryz.f4.resultTypes.toList).any (Tryz.prog.veiledRec ·)))=true:=by kernel_rfl
theorem j31:(Rows.learnSaidRow.veiledFits Tryz.prog Tryz.f4.params.toList (Tryz.f4.params.toList++Rows.learnSaidSpec.plain.varTypes Tryz.prog++Tryz.f4.resultTypes.toList))=true:=by kernel_rfl
theorem hfn:Tryz.pinned.checked.prog.funcNamed Rows.learnSaidRow.func=some 4:=by kernel_rfl
theorem hinst:(Tryz.f4).isInstance Tryz.pinned.checked.prog Rows.learnSaidRow.origin Rows.learnSaidRow.targs:=
 of_decide_eq_true (by kernel_rfl)
theorem hwrap:(Tryz.f4).isWrapper Tryz.pinned.checked.prog Rows.learnSaidRow.wrapper Rows.learnSaidRow.mainSum:=by
 unfold Func.isWrapper;first|(rw[if_pos (by decide +kernel)];kernel_rfl)|(rw[if_neg (by decide +kernel)];exact⟨rfl,rfl⟩)
theorem closed:joinedFacts Tryz.pinned.checked.prog 4 Tryz.f4 Rows.learnSaidSpec Rows.learnSaidRow=true:=
 (and2 (and2 (and2 (and2 (and2 (and2 (and2 (and2 (and2 (and2 (and2 (and2 (and2 (and2 (and2 (and2 (and2 (and2 (and2 (and2 (and2 (and2 (and2 (and2 (and2 (and2 (and2 (and2 (and2 (and2 (and2 j0 j1) j2) j3) j4) j5) j6) j7) j8) j9) j10) j11) j12) j13) j14) j15) j16) j17) j18) j19) j20) j21) j22) j23) j24) j25) j26) j27) j28) j29) j30) j31)
theorem over:Rows.learnSaidRow.holds Tryz.pinned (OpenSpec.ofChange Rows.learnSaidSpec):=
 OpenClaim.holds_of_wide 4 Tryz.f4 rfl rfl rfl rfl rfl rfl rfl ⟨rfl,rfl,rfl,rfl,rfl⟩ rfl rfl rfl rfl rfl hfn Tryz.func4 closed
  hinst hwrap
  (fun os started H enc _=>lifted os started H enc)
theorem proved:Rows.LearnSaidSaid:=
 over
#print axioms proved
end Go.Proofs.YtgbndaiifbogmaaGreat.learnSaid

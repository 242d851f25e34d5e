/-
  PROVED: LearnReads returns true for every input, and its arguments read as before. No condition.
-/
import Derived.Test.YtgbndaiifbogmaaGreatY32
import Derived.Test.YtgbndaiifbogmaaGreatY18
import Derived.Test.YtgbndaiifbogmaaGreatY20
import Derived.Test.YtgbndaiifbogmaaGreatY27
import Derived.Test.YtgbndaiifbogmaaGreatY29
import Derived.Test.YtgbndaiifbogmaaGreatY00
import Derived.Test.YtgbndaiifbogmaaGreatY05
set_option linter.unusedVariables false
set_option linter.unusedSimpArgs false
set_option maxRecDepth 100000
set_option maxHeartbeats 8000000
namespace Go.Proofs.YtgbndaiifbogmaaGreat
open Go.RowKit Go.Maps
theorem said_more {node:Int} {f:Fl} {seq own:Int} (hn:1≤node∧node≤65535) (hf:PortsF f) (ho:0≤own∧own≤4294967295) :
  ∃y pk z q t,answerS node f seq own=.ok y∧(okB y∧y.length≤1000000)∧parseS y=.ok pk∧tellS (.ok pk)=.ok (f,node)∧okA pk.head.dst∧stripS y=.ok z∧(okB z∧z.length=60)∧parseS z=.ok q∧q.srh=none∧q.head.src=f.dst∧q.final=f.src∧q.up=.tcp t ∧
   t.t.dport=f.sport∧t.t.ack=u32w (seq+1):=by
 obtain⟨ht,hc⟩:=greetT_ok (f:=f) hf (seq:=seq) ho;have hs:=hf.ok.1;have hd:=hf.ok.2.2.1;have hg:=sidA_ok 0 6 node;have htt:=sealT_num (src:=f.dst) (dst:=f.src) (p:=[]) hc ht;have hfine:=seal_fine (p:=[]) hd hs hc (by intro x hx;simp at hx)
 have hsl:=tcpB_len (sealT f.dst f.src (greetT f seq own) []) [];have hk:∀(n x p:Int) (d:Ad),okA d→0≤n∧n≤65535→0≤x∧x≤255→0≤p∧p≤255→okHd ⟨0,0,n,x,p,f.dst,d⟩:=fun n x p d h1 h2 h3 h4=>⟨canH_of (by omega) (by omega) h2 h3 h4,hd,h1⟩
 have e1:=tcpP_ok (src:=f.dst) (dst:=f.src) (t:=greetT f seq own) (p:=[]) hc (by simp);have e2:insS (joinS ⟨0,0,0,6,64,f.dst,f.src⟩ (tcpB (sealT f.dst f.src (greetT f seq own) []) [])) [sidA 0 6 node] =
   .ok (joinS ⟨0,0,0,43,64,f.dst,sidA 0 6 node⟩ (srhB 6 1 [f.src,sidA 0 6 node]++tcpB (sealT f.dst f.src (greetT f seq own) []) [])):=
  ins_plain (h:=⟨0,0,0,6,64,f.dst,f.src⟩) (hk (tcpB (sealT f.dst f.src (greetT f seq own) []) []).length 6 64 f.src hs (by rw[hsl];simp) (by omega) (by omega)) rfl (by rw[hsl];simp)
 have okl:∀a∈[f.src,sidA 0 6 node],okA a:=by
  intro a ha;simp at ha;rcases ha with rfl|rfl
  ·exact hs
  ·exact hg
 have hlen:(srhB 6 1 [f.src,sidA 0 6 node]++tcpB (sealT f.dst f.src (greetT f seq own) []) []).length=60:=by rw[List.length_append,srhB_len,hsl];rfl
 have hk1:okHd { (⟨0,0,0,43,64,f.dst,sidA 0 6 node⟩:Hd) with len:=(srhB 6 1 [f.src,sidA 0 6 node]++tcpB (sealT f.dst f.src (greetT f seq own) []) []).length}:=hk (srhB 6 1 [f.src,sidA 0 6 node]++tcpB (sealT f.dst f.src (greetT f seq own) []) []).length 43 64 (sidA 0 6 node) hg (by rw[hlen];simp) (by omega) (by omega)
 have e3:=parse_routed (h:=⟨0,0,0,43,64,f.dst,sidA 0 6 node⟩) (left:=1) (l:=[f.src,sidA 0 6 node]) (p:=[]) hk1 rfl htt (by simp) (by simp) okl rfl hfine (by simp);have e4:=strip_routed (h:=⟨0,0,0,43,64,f.dst,sidA 0 6 node⟩) (l:=[f.src,sidA 0 6 node]) hk1 rfl (by simp) (by simp) (by simp) okl
 have e5:=parse_plain (h:=⟨0,0,0,6,63,f.dst,f.src⟩) (p:=[]) (hk (tcpB (sealT f.dst f.src (greetT f seq own) []) []).length 6 63 f.src hs (by rw[hsl];simp) (by omega) (by omega)) rfl htt hfine (by simp)
 have hob:okB (tcpB (sealT f.dst f.src (greetT f seq own) []) []):=tcpB_ok (by intro x hx;simp at hx);have hk2:=hk (tcpB (sealT f.dst f.src (greetT f seq own) []) []).length 6 63 f.src hs (by rw[hsl];simp) (by omega) (by omega)
 refine⟨_,_,_,_,_,?_,⟨joinS_ok hk1 (okB.app (srhB_ok1 okl) hob),?_⟩,e3,?_,hg,e4,⟨joinS_ok hk2 hob,?_⟩,e5,rfl,rfl,rfl,rfl,?_,?_⟩
 rotate_left
 ·have h1:=joinS_len (h:=⟨0,0,0,43,64,f.dst,sidA 0 6 node⟩) (r:=srhB 6 1 [f.src,sidA 0 6 node]++tcpB (sealT f.dst f.src (greetT f seq own) []) []) hk1.can;rw[hlen]at h1;omega
 rotate_left
 ·have h1:=joinS_len (h:=⟨0,0,0,6,63,f.dst,f.src⟩) (r:=tcpB (sealT f.dst f.src (greetT f seq own) []) []) hk2.can;rw[hsl]at h1;simp only[List.length_nil]at h1;exact h1
 rotate_left
 rotate_left
 ·unfold answerS;rw[e1];exact e2
 ·unfold tellS;simp only
  rw[split_sid (by omega) (by omega) (by omega)];simp only
  rw[if_neg (by omega)];have h1:(sealT f.dst f.src (greetT f seq own) []).dport=f.sport:=by unfold sealT;rw[if_neg (by rw[List.length_nil,hc];simp)];rfl
  have h2:(sealT f.dst f.src (greetT f seq own) []).sport=f.dport:=by unfold sealT;rw[if_neg (by rw[List.length_nil,hc];simp)];rfl
  simp only[h1,h2];rfl
 ·unfold sealT;rw[if_neg (by rw[List.length_nil,hc];simp)];rfl
 ·unfold sealT;rw[if_neg (by rw[List.length_nil,hc];simp)];rfl
theorem tell_note {w:World} {B:Nat} {p:Pm} {m:Pk} {f:Fl} {n:Int} (h:PkR w B p m) (ht:tellS (.ok m)=.ok (f,n)):noteV p=.tuple #[.agg (arrNo f n),.int .i64 0]:=by
 have h1:=h.head;have h2:=h.rt;have h3:=h.fin;have h4:=h.srh;have h5:=h.up;unfold tellS at ht;simp only at ht;cases hs:m.srh with
 |none=>rw[hs]at ht;cases ht
 |some s=>
  rw[hs]at h2 h4;cases hu:m.up with
  |msg u=>rw[hs,hu]at ht;cases ht
  |tcp t=>
   rw[hu]at h5;rw[hs,hu]at ht;simp only at ht;rw[←h1,←h3]at ht;cases hq:splitA p.h.dst with
   |none=>rw[hq]at ht;cases ht
   |some x=>
    obtain⟨a,b,c⟩:=x;rw[hq]at ht;simp only at ht;split at ht
    ·cases ht
    ·rename_i hc;injection ht with ht
     injection ht with e1 e2
     subst e1 e2;have e:errP p=0:=by
      unfold errP;rw[hq,h4.1,h5.1,h2];have k0:kindE ((some s:Option Sr).isSome) 6=0:=rfl;have f0:formE (okSp (some (a,b,c))) (numSp (some (a,b,c))).1 (numSp (some (a,b,c))).2.1 (numSp (some (a,b,c))).2.2=0:=if_pos ⟨rfl,by show a=0;omega,by show b=6;omega,by show 1≤c;omega,by show c≤65535;omega⟩
      have l0:leftE s.left=0:=if_pos (by omega);rw[k0,f0,l0];rfl
     unfold noteV;rw[if_neg (by rw[e];simp),hq,←h5.2.1];rfl
structure SaidF (node:Int) (f:Fl) (seq:Int) (y z:By) (m q:Pk):Prop where
 y1:okB y
 y2:y.length≤1000000
 y3:parseS y=.ok m
 z0:stripS y=.ok z
 z1:okB z
 z2:z.length=60
 z3:parseS z=.ok q
 note:∀(w:World) (B:Nat) (p:Pm),PkR w B p m→okA p.h.dst∧noteV p=.tuple #[.agg (arrNo f node),.int .i64 0]
 last:∀(w:World) (B:Nat) (p:Pm),PkR w B p q→p.rt=false∧p.h.src=f.dst∧p.f=f.src∧p.t.dport=f.sport∧p.t.ack=u32w (seq+1)
theorem said_full {node:Int} {f:Fl} {seq own:Int} (hn:1≤node∧node≤65535) (hf:PortsF f) (ho:0≤own∧own≤4294967295) :
  ∃y z m q,answerS node f seq own=.ok y∧SaidF node f seq y z m q:=by
 obtain⟨y,m,z,q,t,h1,h2,h3,h4,h5,h6,h7,h8,h9,h10,h11,h12,h13,h14⟩:=said_more (seq:=seq) hn hf ho;refine⟨y,z,m,q,h1,h2.1,h2.2,h3,h6,h7.1,h7.2,h8,fun w B p hp=>⟨?_,tell_note hp h4⟩,fun w B p hp=>?_⟩
 ·rw[hp.head];exact h5
 ·have hu:=hp.up;rw[h12]at hu;refine⟨?_,?_,?_,?_,?_⟩
  ·rw[hp.rt,h9];rfl
  ·rw[hp.head];exact h10
  ·rw[hp.fin];exact h11
  ·rw[hu.2.1];exact h13
  ·rw[hu.2.1];exact h14
theorem note0:noteV pm0=.tuple #[.agg (arrNo fl0 0),.int .i64 7]:=by kernel_rfl
end Go.Proofs.YtgbndaiifbogmaaGreat
namespace Go.Proofs.YtgbndaiifbogmaaGreat
open Go.RowKit Go.Maps
theorem lives_any (w:World):Calls Tryz.prog 16 #[] w fun e w'=>e=.returned (.bool true)∧Chg [] w w':=by
 have ho:0≤hashA 3 0 flS∧hashA 3 0 flS≤4294967295:=by unfold hashA;rw[IntKind.wrap_u32'];omega
 obtain⟨y,z,m,q,hy,hf⟩:=said_full (node:=3) (f:=flS) (seq:=0) (by omega) ports_S ho;have FS:Hid (∀U,Calls Tryz.prog 59 #[.int .i64 3] U fun e w'=>∃v,e=.returned v∧OwY w' U.heap.size v y∧Chg [] U w'):=zH fun U=>by
  obtain⟨y',h1,_,_,h2⟩:=lsignal_any U;rw[hy]at h1;injection h1 with h1
  subst h1;exact h2
 have FP:=zH (fun U v (h:SlY U 0 v y)=>pparse_any h hf.y1 hf.y2);have FT:=zH (fun U v (h:SlY U 0 v y)=>lstrip_any h hf.y1 hf.y2);rw[hf.y3]at FP;rw[hf.z0]at FT;have FR:=zH (fun (W:World) B p (h:PkR W B p m) U=>lread_any (hf.note W B p h).1 h.one U)
 have HV:=zH (fun (W:World) B p (h:PkR W B p m)=>(hf.note W B p h).2);have FR0:Hid (∀U,Calls Tryz.prog 12 #[.agg (arrPk pm0)] U fun e w'=>e=.returned (.tuple #[.agg (arrNo fl0 0),.int .i64 7])∧Chg [] U w'):=zH (fun U=>by
  have:=lread_any (p:=pm0) okA_0 (by kernel_rfl) U;rw[note0]at this;exact this)
 have hz60:=hf.z2;clear hf hy ho;go_enter Tryz.func16,Tryz.ntmps16
 go_wp2_with fail;refine (FS.out _).mono ?_;rintro e w1 ⟨v1,rfl,ho1,hc1⟩;have HS1:=zH (Sl.less (B':=0) (OwY.sl ho1) (Nat.zero_le _));have HC1:=zH hc1;clear hc1 ho1;go_wp2_with fail;refine (FP.out _ _ HS1.out).mono ?_;rintro e w2 ⟨⟨p,rfl,hp⟩,hc2⟩
 have hB2:Blk (w2.alloc (.cells (arrPk pm0) 38)) w2.heap.size 38 (arrPk pm0):=Blk.new _ _ _;have HC2:=zH ((HC1.out.trans hc2).alloc (.cells (arrPk pm0) 38));have hz2:=(HC1.out.trans hc2).size;have HP:=zH hp;clear HC1 HS1 hc2 hp;go_upto_region 2 with (first
  |(refine zs (vs:=arrPk p) rfl 38 (.tmp 1) (.tmp 12) rfl rfl hB2 rfl rfl rfl infPk HP.out.one ?_;intro w3 hB3 hc3)
  |fail)
 have HC3:Hid (Chg [] w w3):=zH (HC2.out.trans' hc3 (zN (by omega)));have HPR:=zH (FR.out _ _ _ HP.out);have hv:=HV.out _ _ _ HP.out;clear HC2 hB2 hc3 FR HV;go_wp2_with (first
  |(refine zl rfl 38 (.tmp 1) rfl hB3 rfl _ Tryz.underlying38 rfl infPk ?_)
  |fail)
 refine (HPR.out _).mono ?_;rintro e w4 ⟨rfl,hc4⟩;rw[hv];clear hv HPR;have hB4:Blk (w4.alloc (.cells (arrNo fl0 0) 48)) w4.heap.size 48 (arrNo fl0 0):=Blk.new _ _ _;have hz4:=(HC3.out.trans hc4).size;have HC4:=zH ((HC3.out.trans hc4).alloc (.cells (arrNo fl0 0) 48));clear hc4 hB3 HC3 HP
 go_upto_region 3 with (first
  |(refine zs (vs:=arrNo flS 3) rfl 48 (.tmp 3) (.tmp 17) rfl rfl hB4 rfl rfl rfl infNo rfl ?_;intro w5 hB5 hc5)
  |fail)
 have HC5:Hid (Chg [] w w5):=zH (HC4.out.trans' hc5 (zN (by omega)));have hl5:=hB5.lt;clear HC4 hB4 hc5;go_wp2_with fail;refine (FS.out _).mono ?_;rintro e w6 ⟨v6,rfl,ho6,hc6⟩;have HS6:=zH (Sl.less (B':=0) (OwY.sl ho6) (Nat.zero_le _));have HC6:=zH (HC5.out.trans hc6);have hB6:=hB5.chg hc6 (by simp)
 clear hc6 ho6 hB5 HC5 FS FP;go_wp2_with fail;refine (FT.out _ _ HS6.out).mono ?_;rintro e w7 ⟨⟨v7,rfl,ho7⟩,hc7⟩;have HC7:=zH (HC6.out.trans hc7);have hB7:=hB6.chg hc7 (by simp);obtain⟨A7,c7,rfl⟩:=(OwY.sl ho7).form;rw[hz60];clear hc7 ho7 hB6 HC6 FT HS6;go_wp2_with fail;refine (FR0.out _).mono ?_
 rintro e w8 ⟨rfl,hc8⟩;have hB8:Blk (w8.alloc (.cells (arrNo fl0 0) 48)) w8.heap.size 48 (arrNo fl0 0):=Blk.new _ _ _;have hz8:=(HC7.out.trans hc8).size;have hN8:=(hB7.chg hc8 (by simp)).alloc (.cells (arrNo fl0 0) 48);have HC8:=zH ((HC7.out.trans hc8).alloc (.cells (arrNo fl0 0) 48))
 have hl8:=(hB7.chg hc8 (by simp)).lt;clear hc8 hB7 HC7 FR0;go_upto_region 5 with (first
  |(refine zs (vs:=arrNo fl0 0) rfl 48 (.tmp 7) (.tmp 27) rfl rfl hB8 rfl rfl rfl infNo rfl ?_;intro w9 hB9 hc9)
  |fail)
 have HC9:Hid (Chg [] w w9):=zH (HC8.out.trans' hc9 (zN (by omega)));have hN9:=hN8.chg hc9 (by simp;omega);have q34:=hN9.cell 34;have q16:=hN9.cell 16;have q33:=hN9.cell 33;clear hc9 hB9 hB8 hN8 hN9 HC8;go_wp2_with fail;go_ret
 exact⟨rfl,HC9.out⟩
end Go.Proofs.YtgbndaiifbogmaaGreat
namespace Go.Proofs.YtgbndaiifbogmaaGreat
open Go.RowKit Go.Maps Go.WideMaps Go.WideShapes
def litsN (f:Fl):List Lit:=litsA f.src++(.int .i64 f.sport::(litsA f.dst ++ [.int .i64 f.dport]))
theorem keyLits_fn {d:Nat} {f:Fl} (h:okF f):Tryz.prog.keyLits (d+3) 46 (encF f)=some (litsN f):=by
 have hcA:Tryz.prog.cellsOf 24=16:=by kernel_rfl
 have hcI:Tryz.prog.cellsOf 3=1:=by kernel_rfl
 have hcF:Tryz.prog.cellsOf 46=34:=by kernel_rfl
 unfold Program.keyLits;simp only[Tryz.underlying46];rw[if_pos ⟨by rw[hcF];rfl,by simp⟩];have g0:((encF f).drop 0).take 16=encA f.src:=rfl;have g1:((encF f).drop 16).take 1=[.int .i64 f.sport]:=rfl;have g2:((encF f).drop 17).take 16=encA f.dst:=rfl
 have g3:((encF f).drop 33).take 1=[.int .i64 f.dport]:=rfl;have k0:=keyLits_ad (d:=d) h.1;have k1:=keyLits_int (d:=d+1) h.2.1;have k2:=keyLits_ad (d:=d) h.2.2.1;have k3:=keyLits_int (d:=d+1) h.2.2.2;simp only[List.mapM_cons,List.mapM_nil,hcA,hcI,g0,g1,g2,g3];rw[show d+2=d+1+1 from rfl]at *
 rw[k0,k1,k2,k3];simp[litsN]
theorem typesFor4:∃d,Tryz.prog.types.size+1=d+4:=⟨Tryz.prog.types.size-3,by have:3≤Tryz.prog.types.size:=of_decide_eq_true (by kernel_rfl);omega⟩
def encNo (f:Fl) (n:Int):List Value:=encF f ++ [.int .i64 n]
def keyNo (f:Fl) (n:Int):Lit:=.string (keyBytes (litsN f ++ [.int .i64 n]))
theorem key_no {f:Fl} {n:Int} (h:okF f) (hn:(Lit.int .i64 n).wf=true):keyOf Tryz.prog 48 (.agg (arrNo f n))=some (keyNo f n):=by
 have hcF:Tryz.prog.cellsOf 46=34:=by kernel_rfl
 have hcI:Tryz.prog.cellsOf 3=1:=by kernel_rfl
 have hcE:Tryz.prog.cellsOf 48=35:=by kernel_rfl
 have hkE:Tryz.prog.keyType 48=true:=by kernel_rfl
 obtain⟨d,hd⟩:=typesFor4;unfold keyOf;simp only[Tryz.underlying48];rw[if_pos (by simp[hkE,Value.formed,Tryz.underlying48,hcE]),hd];have e1:(Value.agg (arrNo f n)).cells.toList=encNo f n:=rfl;rw[e1];unfold Program.keyLits;simp only[Tryz.underlying48];rw[if_pos ⟨by rw[hcE];rfl,by simp⟩]
 have g0:((encNo f n).drop 0).take 34=encF f:=rfl;have g1:((encNo f n).drop 34).take 1=[.int .i64 n]:=rfl;simp only[List.mapM_cons,List.mapM_nil,hcF,hcI,g0,g1];rw[keyLits_fn (d:=d) h,keyLits_int (d:=d+2) hn];simp[keyNo]
theorem same_no (w:World) {f:Fl} {n:Int} (h:okF f) (hn:(Lit.int .i64 n).wf=true):(Op.equalIn 10000 48 (.agg (arrNo f n)) (.agg (arrNo f n))).run Tryz.prog w=.ok true w:=by
 obtain⟨r,hr,hi⟩:=run_equal_deep w (m:=5) (by omega) (k:=48) (by kernel_rfl) (by kernel_rfl) (key_no h hn) (key_no h hn);rw[←hi.2 rfl];exact hr
end Go.Proofs.YtgbndaiifbogmaaGreat
namespace Go.Proofs.YtgbndaiifbogmaaGreat
open Go.RowKit Go.Maps
def strY (l:By):Value:=.string ⟨(l.map UInt8.ofNat).toArray⟩
theorem run_strY {w:World} {B:Nat} {v:Value} {l:By} (h:SlY w B v l) (hb:okB l):(convert 22 9 v).run Tryz.prog w=.ok (strY l) w:=by
 rcases Nat.eq_zero_or_pos l.length with h0|h0
 ·obtain⟨_,A,c,rfl,_,_⟩:=h;have hl:l=[]:=List.eq_nil_of_length_eq_zero h0;subst hl;cases A with
  |none=>
   rw[run_convert_bytes_string (P:=Tryz.prog) w 22 9 5 none _ c Tryz.underlying22 Tryz.underlying5 Tryz.underlying9];rfl
  |some a=>exact run_convert_bytes_back w 22 9 5 a c [] Tryz.underlying22 Tryz.underlying5 Tryz.underlying9 (fun j hj=>absurd hj (by simp))
 ·obtain⟨b,o,c,rfl,_,_,hc⟩:=h.all h0;have:=run_convert_bytes_back w 22 9 5 ⟨b,o,none⟩ c (l.map UInt8.ofNat) Tryz.underlying22 Tryz.underlying5 Tryz.underlying9 (fun j hj=>by
   have hj':j<l.length:=by simpa using hj
   have h1:=hc j hj';have h2:=gB_lt hb j;have e:(l.map UInt8.ofNat)[j].toNat=gB l j:=by
    rw[List.getElem_map];have e2:gB l j=l[j]:=by have:=gB_some hj';rw[List.getElem?_eq_getElem hj']at this;exact (Option.some.inj this).symm
    rw[←e2,UInt8.toNat_ofNat'];omega
   rw[e];have h3:w.cell? ⟨b,o+j,none⟩=some (.int .u8 ((gB l j:Nat):Int)):=h1;by_cases h0:j=0
   ·subst h0;simpa[Addr.add]using h3
   ·simpa[Addr.add,h0]using h3)
  have e:(l.map UInt8.ofNat).length=l.length:=List.length_map _;rw[e]at this;exact this
structure PkF (m:Pk):Prop where
 src:okA m.head.src
 dst:okA m.head.dst
 fin:okA m.final
 tcp:∀t,m.up=.tcp t→(0≤t.t.sport∧t.t.sport≤65535)∧0≤t.t.dport∧t.t.dport≤65535
theorem parseS_fine {l:By} {m:Pk} (h:parseS l=.ok m) (hb:okB l):PkF m:=by
 rw[parseS_eq]at h;split at h
 ·cases h
 ·split at h
  ·cases h
  ·rename_i hd hg;split at h
   ·cases h
   ·split at h
    ·cases h
    ·rename_i r hr;split at h
     ·cases h
     ·rename_i q hq;split at h
      ·cases h
      ·rename_i u hu;injection h with h
       subst h;obtain⟨a,b,_⟩:=getH_fine hg hb;refine⟨a,b,(routeS_fine hq hb b).1,fun t ht=>?_⟩;simp only at ht;subst ht;unfold upS at hu;split at hu
       ·split at hu
        ·cases hu
        ·rename_i t' ht';split at hu
         ·cases hu
         ·injection hu with hu
          injection hu with hu
          subst hu;unfold tcpS at ht'
          repeat (first|(split at ht';· cases ht'))
          injection ht' with ht'
          subst ht';have h1:=w2_lt (hb.drop r.1.at_) 0;have h2:=w2_lt (hb.drop r.1.at_) 2;exact⟨⟨by simp only[];omega,by simp only[];omega⟩,by simp only[];omega,by simp only[];omega⟩
       ·split at hu
        ·split at hu
         ·cases hu
         ·injection hu with hu
          cases hu
        ·cases hu
structure TellF (p q:Pm) (f:Fl) (n e:Int):Prop where
 ok:okF f
 wf:(Lit.int .i64 n).wf=true
 note:noteV p=.tuple #[.agg (arrNo f n),.int .i64 e]
 gist:gistV q=.tuple #[.agg (arrF f),.int .i64 n,.int .i64 e]
theorem tell_same {w w':World} {B B':Nat} {p q:Pm} {m:Pk} (hp:PkR w B p m) (hq:PkR w' B' q m) (hf:PkF m):∃f n e,TellF p q f n e:=by
 have h1:p.h=q.h:=hp.head.trans hq.head.symm;have h2:p.rt=q.rt:=hp.rt.trans hq.rt.symm;have h3:p.f=q.f:=hp.fin.trans hq.fin.symm;have hkd:p.k=q.k∧(p.k=6→p.t=q.t∧(0≤p.t.sport∧p.t.sport≤65535)∧0≤p.t.dport∧p.t.dport≤65535):=by
  have a:=hp.up;have b:=hq.up;cases hu:m.up with
  |tcp t=>
   rw[hu]at a b;refine⟨a.1.trans b.1.symm,fun _=>⟨a.2.1.trans b.2.1.symm,?_⟩⟩;rw[a.2.1];exact hf.tcp t hu
  |msg u=>
   rw[hu]at a b;refine⟨a.1.trans b.1.symm,fun h=>?_⟩;rw[a.1]at h;cases h
 have h4:p.s.left=q.s.left:=by
  have a:=hp.srh;have b:=hq.srh;cases hs:m.srh with
  |none=>rw[hs]at a b;rw[a.1,b.1]
  |some s=>rw[hs]at a b;rw[a.1,b.1]
 have he:errP p=errP q:=by unfold errP;rw[h1,h2,hkd.1,h4]
 by_cases hz:errP p=0
 ·obtain⟨k6,n1,n2⟩:=errP_zero hz;obtain⟨e1,e2,e3,e4⟩:=hkd.2 k6;have ef:backF (flP p)=backF (flP q):=by unfold flP;rw[h1,h3,e1]
  refine⟨backF (flP p),(numSp (splitA p.h.dst)).2.2,0,⟨?_,wf64 (by show _≤p.t.dport∧p.t.dport≤_;omega),?_,wf64 (by show _≤p.t.sport∧p.t.sport≤_;omega)⟩,wf64 (by omega),?_,?_⟩
  ·show okA p.f;rw[hp.fin];exact hf.fin
  ·show okA p.h.src;rw[hp.head];exact hf.src
  ·unfold noteV;rw[if_neg (by simpa using hz)]
  ·unfold gistV;rw[if_neg (by rw[←he];simpa using hz),ef,h1]
 ·refine⟨fl0,0,errP p,⟨okA_0,by decide,okA_0,by decide⟩,by decide,?_,?_⟩
  ·unfold noteV;rw[if_pos hz]
  ·unfold gistV;rw[if_pos (by rw[←he];exact hz),he]
theorem tell_none:TellF pm0 pm0 fl0 0 7:=⟨⟨okA_0,by decide,okA_0,by decide⟩,by decide,by kernel_rfl,by kernel_rfl⟩
end Go.Proofs.YtgbndaiifbogmaaGreat
namespace Go.Proofs.YtgbndaiifbogmaaGreat
open Go.RowKit Go.Maps
def GivP (l:By) (p:Pm):Prop:=(p=pm0∧∃n,parseS l=.error n)∨∃m w B,parseS l=.ok m∧PkR w B p m
theorem given_pk {l:By} {w':World} {B:Nat} {e:Ending} (h:PkPost (parseS l) B e w'):∃p n,e=.returned (.tuple #[.agg (arrPk p),.int .i64 n])∧GivP l p:=by
 cases hx:parseS l with
 |error n=>rw[hx]at h;exact⟨pm0,n,h,.inl ⟨rfl,n,hx⟩⟩
 |ok m=>rw[hx]at h;obtain⟨p,he,hp⟩:=h;exact⟨p,0,he,.inr ⟨m,_,_,hx,hp⟩⟩
theorem GivP.fits {l:By} {p:Pm} (h:GivP l p) (hb:okB l):okA p.h.dst∧(arrPk p).toList.all (·.oneCell')=true:=by
 rcases h with ⟨rfl,_⟩ | ⟨m,w,B,hx,hp⟩
 ·exact⟨okA_0,by kernel_rfl⟩
 ·exact⟨by rw[hp.head];exact (parseS_fine hx hb).dst,hp.one⟩
theorem GivP.tell {l:By} {p q:Pm} (h:GivP l p) (k:GivP l q) (hb:okB l):∃f n e,TellF p q f n e:=by
 rcases h with ⟨rfl,n,hx⟩ | ⟨m,w,B,hx,hp⟩
 ·rcases k with ⟨rfl,_⟩ | ⟨m,w,B,hy,hp⟩
  ·exact⟨_,_,_,tell_none⟩
  ·rw[hx]at hy;cases hy
 ·rcases k with ⟨rfl,n,hy⟩ | ⟨m',w',B',hy,hq⟩
  ·rw[hx]at hy;cases hy
  ·rw[hx]at hy;cases hy;exact tell_same hp hq (parseS_fine hx hb)
def ansB (x:Ans By):By:=match x with | .error _=>[] | .ok y=>y
def ansE (x:Ans By):Int:=match x with | .error n=>n | .ok _=>0
theorem given_dn {x:Ans By} {w':World} {B:Nat} {e:Ending} (h:DonePost x B e w'):∃v,e=.returned (.tuple #[v,.int .i64 (ansE x)])∧SlY w' 0 v (ansB x):=by
 cases x with
 |error n=>exact⟨_,h,Sl.nil _ _ _⟩
 |ok y=>obtain⟨v,he,ho⟩:=h;exact⟨v,he,Sl.less (B':=0) (OwY.sl ho) (Nat.zero_le _)⟩
theorem given_rv {x:Ans By} {w':World} {B:Nat} {e:Ending} (h:RvPost x B e w'):∃v,e=.returned (.tuple #[v,.int .i64 (ansE x)])∧SlY w' 0 v (ansB x):=by
 cases x with
 |error n=>exact⟨_,h,Sl.nil _ _ _⟩
 |ok y=>obtain⟨v,he,ho⟩:=h;exact⟨v,he,Sl.less (B':=0) (OwY.sl ho) (Nat.zero_le _)⟩
theorem ansB_ok {l:By} (hb:okB l):okB (ansB (stripS l)):=by
 cases hx:stripS l with
 |error n=>intro x hx;simp[ansB]at hx
 |ok y=>
  unfold stripS at hx;split at hx
  ·cases hx
  ·rename_i z hz;exact (remS_fine hx (advS_fine hz hb).2).2
theorem lreads_any {w:World} {v:Value} {l:By} (h:SlY w 0 v l) (hb:okB l) (hl:l.length≤9223372036854775807) :
  Calls Tryz.prog 3 #[v] w fun e w'=>e=.returned (.bool true)∧Chg [] w w':=by
 obtain⟨A,c,rfl⟩:=h.form;have F1:=zH (fun (W:World) (hc:Chg [] w W)=>pparse_big (h.chg0 hc) hb hl);have F2:=zH (fun (W:World) (hc:Chg [] w W)=>rparse_big (h.chg0 hc) hb hl);have F3:=zH (fun (W:World) (hc:Chg [] w W)=>lstrip_big (h.chg0 hc) hb hl)
 have F4:=zH (fun (W:World) (hc:Chg [] w W)=>rstrip_big (h.chg0 hc) hb hl);have FL:=zH (fun U=>lives_any U);have HB:=zH hb;have HC:=zH (Chg.refl [] w);clear hl h hb;go_enter Tryz.func3,Tryz.ntmps3
 go_wp2_with fail;refine (F1.out _ HC.out).mono ?_;rintro e w1 ⟨hp1,hc1⟩;obtain⟨p,n1,rfl,hg1⟩:=given_pk hp1;have HG1:=zH hg1;have hone1:=(hg1.fits HB.out).2;have hB1:Blk (w1.alloc (.cells (arrPk pm0) 38)) w1.heap.size 38 (arrPk pm0):=Blk.new _ _ _;have HC1:=zH (hc1.alloc (.cells (arrPk pm0) 38))
 have hz1:=hc1.size;clear hp1 hc1 hg1 HC F1;go_upto_region 2 with (first
  |(refine zs (vs:=arrPk p) rfl 38 (.tmp 3) (.tmp 19) rfl rfl hB1 rfl rfl rfl infPk hone1 ?_;intro w2 hB2 hc2)
  |fail)
 have HC2:Hid (Chg [] w w2):=zH (HC1.out.trans' hc2 (zN (by omega)));clear HC1 hB1 hc2 hone1;go_wp2_with fail;refine (F2.out _ HC2.out).mono ?_;rintro e w3 ⟨hp3,hc3⟩;obtain⟨q,n3,rfl,hg3⟩:=given_pk hp3;have hone3:=(hg3.fits HB.out).2;obtain⟨f,nd,er,ht⟩:=HG1.out.tell hg3 HB.out;have HT:=zH ht
 have FR:=zH (fun U=>lread_any (HG1.out.fits HB.out).1 (HG1.out.fits HB.out).2 U);have FG:=zH (fun U=>rread_any (hg3.fits HB.out).1 (hg3.fits HB.out).2 U);rw[ht.note]at FR;rw[ht.gist]at FG;have hB3:Blk (w3.alloc (.cells (arrPk pm0) 42)) w3.heap.size 42 (arrPk pm0):=Blk.new _ _ _
 have hP3:=(hB2.chg hc3 (by simp)).alloc (.cells (arrPk pm0) 42);have HC3:=zH ((HC2.out.trans hc3).alloc (.cells (arrPk pm0) 42));have hz3:=(HC2.out.trans hc3).size;have hl3:=(hB2.chg hc3 (by simp)).lt;clear hp3 hc3 hg3 HC2 F2 ht HG1 hB2;go_upto_region 3 with (first
  |(refine zs (vs:=arrPk q) rfl 42 (.tmp 5) (.tmp 24) rfl rfl hB3 rfl rfl rfl infPk hone3 ?_;intro w4 hB4 hc4)
  |fail)
 have HC4:Hid (Chg [] w w4):=zH (HC3.out.trans' hc4 (zN (by omega)));have hP4:=hP3.chg hc4 (by simp;omega);clear HC3 hB3 hc4 hone3 hP3;go_wp2_with (first
  |(refine zl rfl 38 (.tmp 3) rfl hP4 rfl _ Tryz.underlying38 rfl infPk ?_)
  |fail)
 refine (FR.out _).mono ?_;rintro e w5 ⟨rfl,hc5⟩;have hB5:Blk (w5.alloc (.cells (arrNo fl0 0) 48)) w5.heap.size 48 (arrNo fl0 0):=Blk.new _ _ _;have hQ5:=(hB4.chg hc5 (by simp)).alloc (.cells (arrNo fl0 0) 48);have hl5:=(hB4.chg hc5 (by simp)).lt
 have HC5:=zH ((HC4.out.trans hc5).alloc (.cells (arrNo fl0 0) 48));have hz5:=(HC4.out.trans hc5).size;clear FR hc5 hP4 HC4 hB4;go_upto_region 4 with (first
  |(refine zs (vs:=arrNo f nd) rfl 48 (.tmp 7) (.tmp 29) rfl rfl hB5 rfl rfl rfl infNo rfl ?_;intro w6 hB6 hc6)
  |fail)
 have HC6:Hid (Chg [] w w6):=zH (HC5.out.trans' hc6 (zN (by omega)));have hQ6:=hQ5.chg hc6 (by simp;omega);clear HC5 hB5 hc6 hQ5;go_wp2_with (first
  |(refine zl rfl 42 (.tmp 5) rfl hQ6 rfl _ Tryz.underlying42 rfl infPk ?_)
  |fail)
 refine (FG.out _).mono ?_;rintro e w7 ⟨rfl,hc7⟩;have hB7:Blk (w7.alloc (.cells (arrF fl0) 46)) w7.heap.size 46 (arrF fl0):=Blk.new _ _ _;have hN7:=(hB6.chg hc7 (by simp)).alloc (.cells (arrF fl0) 46);have hl7:=(hB6.chg hc7 (by simp)).lt
 have HC7:=zH ((HC6.out.trans hc7).alloc (.cells (arrF fl0) 46));have hz7:=(HC6.out.trans hc7).size;clear FG hc7 hQ6 HC6 hB6;go_upto_region 5 with (first
  |(refine zs (vs:=arrF f) rfl 46 (.tmp 9) (.tmp 34) rfl rfl hB7 rfl rfl rfl infF rfl ?_;intro w8 hB8 hc8)
  |fail)
 have HC8:Hid (Chg [] w w8):=zH (HC7.out.trans' hc8 (zN (by omega)));have hN8:=hN7.chg hc8 (by simp;omega);clear HC7 hB7 hc8 hN7;go_wp2_with fail;refine (F3.out _ HC8.out).mono ?_;rintro e w9 ⟨hp9,hc9⟩;obtain⟨vx,rfl,hx9⟩:=given_dn hp9;have hB9:=hB8.chg hc9 (by simp);have hN9:=hN8.chg hc9 (by simp)
 have HC9:=zH (HC8.out.trans hc9);have HX9:=zH hx9;clear hp9 hc9 hx9 HC8 hB8 hN8 F3;go_wp2_with fail;refine (F4.out _ HC9.out).mono ?_;rintro e w10 ⟨hp10,hc10⟩;obtain⟨vy,rfl,hy10⟩:=given_rv hp10;have hB10:=hB9.chg hc10 (by simp);have hN10:=hN9.chg hc10 (by simp);have HC10:=zH (HC9.out.trans hc10)
 have hsx:=run_strY (HX9.out.chg0 hc10) (ansB_ok HB.out);have hsy:=run_strY hy10 (ansB_ok HB.out);have HNW:Hid (∀W:World,(Op.equalIn 10000 48 (.agg (arrNo f nd)) (.agg (arrNo f nd))).run Tryz.prog W=.ok true W):=zH (fun W=>same_no W HT.out.ok HT.out.wf);have hE0:=HNW.out
 obtain⟨sb,hsb⟩:∃b,strY (ansB (stripS l))=.string b:=⟨_,rfl⟩;rw[hsb]at hsx hsy;clear hsb;generalize ansE (stripS l)=en at *;clear hp10 hc10 hy10 HC9 hB9 hN9 F4 HX9 HT;go_wp2_with (first
  |(refine zl rfl 48 (.tmp 7) rfl hN10 rfl _ Tryz.underlying48 rfl infNo ?_)
  |(refine zl rfl 46 (.tmp 9) rfl hB10 rfl _ Tryz.underlying46 rfl infF ?_)
  |fail)
 refine (FL.out _).mono ?_;rintro e w11 ⟨rfl,hc11⟩;clear hE0 hN10 hB10 hsx hsy;go_wp2_with fail;go_ret
 exact⟨rfl,HC10.out.trans hc11⟩
end Go.Proofs.YtgbndaiifbogmaaGreat
namespace Go.Proofs.YtgbndaiifbogmaaGreat.learnReads
open Go.ChangeShapes Go.WideShapes Go.ChangeAt Go.RowKit Go.Deep
theorem lifted (os:Os) (started:os.Started) (H:Type) (enc:TypeId×Value→H) :
  ReturnsInHanded {} Tryz.checked os 3 .any (Rows.learnReadsSpec.pre6 enc Tryz.prog Tryz.f3 Rows.learnReadsRow.domain false) (Rows.learnReadsSpec.post enc Tryz.prog Tryz.f3 false true false false):=by
 refine returnsInHanded_of_change (C:=Tryz.checked) own started (by kernel_rfl) Tryz.func3
  (ChangeSpec.witness6 (enc:=enc) (C:=Tryz.checked) false ⟨#[],#[.slice none 0 0],[]⟩ 8 (by kernel_rfl) (by kernel_rfl) (by kernel_rfl) (by kernel_rfl)) ?_
 intro W base args ds gs before hval0 hW hcnd _;have hval:∀(j:Nat) t v,Tryz.f3.params[j]?=some t→args[j]?=some v→Value.okWide Tryz.prog W .any base t v:=hval0;have hW':=hW;obtain⟨p,q,hA0,hV,rfl,hfz,hnd⟩:=hW
 have hA:DataW.TrodAll enc Tryz.prog W 0 (fun _=>true) true Tryz.f3.params.toList args.toList ds p:=hA0;rw[Tryz.params3]at hA hval;obtain⟨v0,vs0,d0,ds0,p0,q0,hargs,rfl,rfl,h0,r0⟩:=trodAll_cons hA;obtain⟨rfl,rfl,rfl⟩:=trodAll_nil r0;obtain rfl:args=#[v0]:=by cases args;simp_all
 obtain⟨rfl,rfl⟩:=trodVars_none hV;obtain⟨l0,hs0,hb0,hm0⟩:=bytes_in (hval 0 22 v0 rfl rfl) h0;refine (lreads_any hs0 hb0 hm0).mono fun e W' ⟨he,hg⟩=>?_
 subst he;exact⟨_,rfl,law_post laidOut rfl Tryz.underlying4 (by kernel_rfl) rfl hW' rfl hg⟩
theorem and2 {a b:Bool} (x:a=true) (y:b=true):(a&&b)=true:=by rw[x,y];rfl
theorem j0:(Rows.learnReadsRow.wf (OpenSpec.ofChange Rows.learnReadsSpec))=true:=by kernel_rfl
theorem j1:(laidOutB Tryz.prog)=true:=by kernel_rfl
theorem j2:(mapsRowed Tryz.prog)=true:=by kernel_rfl
theorem j3:(Tryz.f3.params.all (Tryz.prog.readableRec ·))=true:=by kernel_rfl
theorem j4:(namedTie Tryz.prog Rows.learnReadsRow.named Rows.learnReadsSpec.vars)=true:=by kernel_rfl
theorem j5:((Rows.learnReadsRow.stops==[]))=true:=by kernel_rfl
theorem j6:((Tryz.prog.stops==[]))=true:=by kernel_rfl
theorem j7:((Rows.learnReadsRow.knobs==[]))=true:=by kernel_rfl
theorem j8:((Tryz.prog.stopKnobs==[]))=true:=by kernel_rfl
theorem j9:((Rows.learnReadsRow.inPlace==Tryz.prog.inPlace 3))=true:=by kernel_rfl
theorem j10:((Rows.learnReadsRow.unfollowed==Tryz.prog.unfollowed 3))=true:=by kernel_rfl
theorem j11:((Rows.learnReadsRow.recurses==Tryz.prog.recurses 3))=true:=by kernel_rfl
theorem j12:((Rows.learnReadsRow.named==Tryz.prog.varsNamed 3))=true:=by kernel_rfl
theorem j13:((Rows.learnReadsRow.maps==(Tryz.f3.params.toList++Rows.learnReadsSpec.plain.varTypes Tryz.prog).any (Tryz.prog.mapsRec ·)))=true:=by kernel_rfl
theorem j14:((Rows.learnReadsRow.ifaces==(Tryz.f3.params.toList++Rows.learnReadsSpec.plain.varTypes Tryz.prog).any (Tryz.prog.ifacesRec ·)))=true:=by kernel_rfl
theorem j15:((Rows.learnReadsRow.mapsOut==Tryz.prog.mapsAmong Tryz.f3.resultTypes.toList))=true:=by kernel_rfl
theorem j16:((Rows.learnReadsRow.loops==(Tryz.f3.params.toList++Rows.learnReadsSpec.plain.varTypes Tryz.prog).any (Tryz.prog.loopsFrom ·)))=true:=by kernel_rfl
theorem j17:((Rows.learnReadsRow.wideKeys==(Tryz.f3.params.toList++Rows.learnReadsSpec.plain.varTypes Tryz.prog++Tryz.f3.resultTypes.toList).any (Tryz.prog.wideKeysFrom ·)))=true:=by kernel_rfl
theorem j18:(Rows.learnReadsSpec.vars.all (Tryz.prog.varReadable ·))=true:=by kernel_rfl
theorem j19:(Tryz.f3.resultTypes.all (fun t=>Tryz.prog.readableRec t&&decide (t<Tryz.prog.types.size)))=true:=by kernel_rfl
theorem j20:((Rows.learnReadsRow.ifacesOut==Tryz.f3.resultTypes.toList.any (Tryz.prog.ifacesRec ·)))=true:=by kernel_rfl
theorem j21:((Rows.learnReadsRow.loopsOut==Tryz.f3.resultTypes.toList.any (Tryz.prog.loopsFrom ·)))=true:=by kernel_rfl
theorem j22:((Rows.learnReadsRow.plainKeys==Tryz.prog.plainKeys))=true:=by kernel_rfl
theorem j23:(Rows.learnReadsRow.shortTexts.isNone)=true:=by kernel_rfl
theorem j24:(Tryz.prog.stopsHeard)=true:=by kernel_rfl
theorem j25:(Tryz.prog.mayEnter)=true:=by kernel_rfl
theorem j26:((Rows.learnReadsRow.lifted==Tryz.prog.liftsFinal))=true:=by kernel_rfl
theorem j27:((Tryz.prog.make==some Rows.learnReadsRow.make))=true:=by kernel_rfl
theorem j28:((Rows.learnReadsRow.kinds==(if Rows.learnReadsRow.domain.isEmpty then [] else Tryz.f3.params.toList.map fun t=>match Tryz.prog.underlying t with|some (.int k)=>some k|_=>none)))=true:=by kernel_rfl
theorem j29:((Rows.learnReadsRow.pinned==Rows.learnReadsRow.pinnedBy))=true:=by kernel_rfl
theorem j30:((Rows.learnReadsRow.veiled==(Tryz.f3.params.toList++Rows.learnReadsSpec.plain.varTypes Tryz.prog++Tryz.f3.resultTypes.toList).any (Tryz.prog.veiledRec ·)))=true:=by kernel_rfl
theorem j31:(Rows.learnReadsRow.veiledFits Tryz.prog Tryz.f3.params.toList (Tryz.f3.params.toList++Rows.learnReadsSpec.plain.varTypes Tryz.prog++Tryz.f3.resultTypes.toList))=true:=by kernel_rfl
theorem hfn:Tryz.pinned.checked.prog.funcNamed Rows.learnReadsRow.func=some 3:=by kernel_rfl
theorem hinst:(Tryz.f3).isInstance Tryz.pinned.checked.prog Rows.learnReadsRow.origin Rows.learnReadsRow.targs:=
 of_decide_eq_true (by kernel_rfl)
theorem hwrap:(Tryz.f3).isWrapper Tryz.pinned.checked.prog Rows.learnReadsRow.wrapper Rows.learnReadsRow.mainSum:=by
 unfold Func.isWrapper;first|(rw[if_pos (by decide +kernel)];kernel_rfl)|(rw[if_neg (by decide +kernel)];exact⟨rfl,rfl⟩)
theorem closed:joinedFacts Tryz.pinned.checked.prog 3 Tryz.f3 Rows.learnReadsSpec Rows.learnReadsRow=true:=
 (and2 (and2 (and2 (and2 (and2 (and2 (and2 (and2 (and2 (and2 (and2 (and2 (and2 (and2 (and2 (and2 (and2 (and2 (and2 (and2 (and2 (and2 (and2 (and2 (and2 (and2 (and2 (and2 (and2 (and2 (and2 j0 j1) j2) j3) j4) j5) j6) j7) j8) j9) j10) j11) j12) j13) j14) j15) j16) j17) j18) j19) j20) j21) j22) j23) j24) j25) j26) j27) j28) j29) j30) j31)
theorem over:Rows.learnReadsRow.holds Tryz.pinned (OpenSpec.ofChange Rows.learnReadsSpec):=
 OpenClaim.holds_of_wide 3 Tryz.f3 rfl rfl rfl rfl rfl rfl rfl ⟨rfl,rfl,rfl,rfl,rfl⟩ rfl rfl rfl rfl rfl hfn Tryz.func3 closed
  hinst hwrap
  (fun os started H enc _=>lifted os started H enc)
theorem proved:Rows.LearnReadsSaid:=
 over
#print axioms proved
end Go.Proofs.YtgbndaiifbogmaaGreat.learnReads

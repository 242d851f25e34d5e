/-
  Small laws and walks on the way to LearnReads: PkL, ConnR, Ck, ConnW, AgP. Conditions: each theorem names its own.
-/
import Derived.Test.YtgbndaiifbogmaaGreatY05
import Derived.Test.YtgbndaiifbogmaaGreatY04
import Derived.Test.YtgbndaiifbogmaaGreatY03
import Derived.Test.YtgbndaiifbogmaaGreatY01
import Derived.Deep.DeepCutAuto
import Derived.Deep.CutBlock
set_option linter.unusedVariables false
set_option linter.unusedSimpArgs false
set_option maxRecDepth 100000
set_option maxHeartbeats 8000000
namespace Go.Proofs.YtgbndaiifbogmaaGreat
theorem gB_joinS {h:Hd} {r:By} (k:canH {h with len:=r.length} = true) (i:Nat):gB (joinS h r) (40+i)=gB r i:=by
 unfold joinS;have hl:=putH_len k;rw[gB_app2 (by omega),hl,Nat.add_sub_cancel_left]
theorem joinS_len {h:Hd} {r:By} (k:canH {h with len:=r.length} = true):(joinS h r).length=40+r.length:=by
 unfold joinS;rw[List.length_append,putH_len k]
theorem joinS_drop {h:Hd} {r:By} (k:canH {h with len:=r.length} = true) (n:Nat):(joinS h r).drop (40+n)=r.drop n:=by
 unfold joinS;have hl:=putH_len k;rw[List.drop_append,List.drop_eq_nil_of_le (by omega),hl,Nat.add_sub_cancel_left];rfl
theorem headS_join {h:Hd} {r:By} (k:okHd {h with len:=r.length}):headS (joinS h r)=.ok {h with len:=r.length}:=by
 have hg:getH (joinS h r)=.ok {h with len:=r.length}:=getH_put k r;have hl:=joinS_len (h:=h) (r:=r) k.can;unfold headS;rw[hg];simp only
 rw[if_neg (by rw[hl];simp only[ne_eq,Decidable.not_not];omega)]
theorem mayW_up {k:Int} (h:k≠44) (n:Nat) (hx:extW k=false):mayW k n=0:=by
 have:k≠0:=by intro e;subst e;simp[extW]at hx
 simp[mayW,h,this,hx]
theorem walk_plain {b:By} {k:Int} {at_:Nat} (h:at_≤b.length) (hk:k≠44) (hx:extW k=false):walkS b k at_=.ok [⟨k,at_,b.length-at_⟩]:=by
 unfold walkS;rw[if_neg (by omega)];unfold walkW;rw[mayW_up hk 0 hx];simp[hx]
theorem walk_routed {b:By} {k:Nat} {n:Nat} (h8:42≤b.length) (hn:8*gB b 41+8=n) (hb:40+n≤b.length) (h0:gB b 40=k) (hk:(k:Int)≠44) (hx:extW k=false) :
  walkS b 43 40=.ok [⟨43,40,n⟩,⟨k,40+n,b.length-(40+n)⟩]:=by
 unfold walkS;rw[if_neg (by omega)];unfold walkW;have e:mayW 43 0=0:=rfl;have e2:extW 43=true:=rfl;rw[e,e2,hn,h0];rw[if_neg (by simp),if_neg (by simp),if_neg (by omega)];unfold walkW;rw[mayW_up hk _ hx];simp[hx]
theorem parse_plain {h:Hd} {t:Sg} {p:By} (k:okHd {h with len:=(tcpB t p).length}) (h6:h.nxt=6) (ht:okT t) (hf:fineC h.src h.dst 6 (tcpB t p)=true) (hl:p.length≤1440) :
  parseS (joinS h (tcpB t p))=.ok ⟨{h with len:=(tcpB t p).length},none,h.dst,.tcp ⟨t,p⟩,tcpB t p⟩:=by
 have hg:getH (joinS h (tcpB t p))=.ok {h with len:=(tcpB t p).length}:=getH_put k _;have hlen:=joinS_len (h:=h) (r:=tcpB t p) k.can;have htl:=tcpB_len t p;have hd:(joinS h (tcpB t p)).drop 40=tcpB t p:=joinS_drop (h:=h) (r:=tcpB t p) k.can 0;unfold parseS;rw[if_neg (by omega),hg];simp only
 rw[if_neg (by simp only[ne_eq,Decidable.not_not];omega),h6,walk_plain (by omega) (by omega) rfl];simp only
 rw[if_neg (by simp[lateW])];have e1:firstW [(⟨6,40,(joinS h (tcpB t p)).length-40⟩:Pt)]=false:=rfl;rw[e1];simp only[routeS,if_true,List.getLastD_cons,List.getLastD_nil];simp only[List.getLastD,List.getLast?_singleton,Option.getD_some,hd];unfold upS;rw[if_pos rfl,tcpS_put ht];simp only
 rw[if_neg (by rw[hf];simp)]
theorem parse_routed {h:Hd} {t:Sg} {p:By} {left:Nat} {l:List Ad} (k:okHd {h with len:=(srhB 6 left l++tcpB t p).length}) (h43:h.nxt=43) (ht:okT t)
  (hleft:left<l.length) (h10:l.length≤10) (ok:∀a∈l,okA a) (hdst:l.getD left ad0=h.dst) (hf:fineC h.src (l.getD 0 ad0) 6 (tcpB t p)=true) (hl:p.length≤1200) :
  parseS (joinS h (srhB 6 left l++tcpB t p))=.ok ⟨{h with len:=(srhB 6 left l++tcpB t p).length},some ⟨6,left,0,0,l⟩,l.getD 0 ad0,.tcp ⟨t,p⟩,tcpB t p⟩:=by
 have hg:getH (joinS h (srhB 6 left l++tcpB t p))=.ok {h with len:=(srhB 6 left l++tcpB t p).length}:=getH_put k _;have hlen:=joinS_len (h:=h) (r:=srhB 6 left l++tcpB t p) k.can;have htl:=tcpB_len t p;have hsl:=srhB_len 6 left l
 have hrl:(srhB 6 left l++tcpB t p).length=8+16*l.length+(20+p.length):=by rw[List.length_append,hsl,htl]
 have hd:(joinS h (srhB 6 left l++tcpB t p)).drop 40=srhB 6 left l++tcpB t p:=joinS_drop (h:=h) (r:=srhB 6 left l++tcpB t p) k.can 0;have hd2:(joinS h (srhB 6 left l++tcpB t p)).drop (40+(8+16*l.length))=tcpB t p:=by
  rw[joinS_drop (h:=h) (r:=srhB 6 left l++tcpB t p) k.can,List.drop_append_of_le_length (by omega),List.drop_eq_nil_of_le (by omega)];rfl
 have q0:gB (joinS h (srhB 6 left l++tcpB t p)) 40=6:=by
  have:=gB_joinS (h:=h) (r:=srhB 6 left l++tcpB t p) k.can 0;rw[Nat.add_zero]at this;rw[this,gB_app1 (by omega)];rfl
 have q1:8*gB (joinS h (srhB 6 left l++tcpB t p)) 41+8=8+16*l.length:=by
  have:=gB_joinS (h:=h) (r:=srhB 6 left l++tcpB t p) k.can 1;rw[this,gB_app1 (by omega)];have e:gB (srhB 6 left l) 1=loB (2*l.length):=rfl;have:=loB_small (n:=2*l.length) (by omega);rw[e];omega
 have hsr:=srhS_put (nxt:=6) (left:=left) (l:=l) (by omega) (by omega) (by omega) h10 ok (tcpB t p);unfold parseS;rw[if_neg (by omega),hg];simp only
 rw[if_neg (by simp only[ne_eq,Decidable.not_not];omega),h43,walk_routed (by omega) q1 (by omega) q0 (by omega) rfl];simp only
 rw[if_neg (by simp[lateW])];have e1:∀x:Pt,firstW [(⟨43,40,8+16*l.length⟩:Pt),x]=true:=fun _=>rfl
 rw[e1];unfold routeS;rw[if_neg (by simp),hd,hsr];simp only[Int.toNat_natCast];rw[if_neg (by rw[hdst];simp)];have e2:∀x y:Pt,[x,y].getLastD default=y:=fun _ _=>rfl
 simp only[e2,hd2];unfold upS;rw[if_pos (by rfl),tcpS_put ht];simp only
 rw[if_neg (by rw[hf];simp)]
theorem routedS_join {h:Hd} {left:Nat} {l:List Ad} {nx:Int} {r:By} (k:okHd {h with len:=(srhB nx left l++r).length}) (h43:h.nxt=43) (h1:0≤nx∧nx≤255)
  (hleft:left<l.length) (h10:l.length≤10) (ok:∀a∈l,okA a) :
  routedS (joinS h (srhB nx left l++r))=.ok ({h with len:=(srhB nx left l++r).length},⟨nx,left,0,0,l⟩,8+16*l.length):=by
 unfold routedS;rw[headS_join k];simp only
 rw[if_neg (by rw[h43];simp)];have hd:(joinS h (srhB nx left l++r)).drop 40=srhB nx left l++r:=joinS_drop (h:=h) (r:=srhB nx left l++r) k.can 0;rw[hd,srhS_put h1 (by omega) (by omega) h10 ok]
def greetT (f:Fl) (seq own:Int):Sg:={greetF (startF seq own) with sport:=f.dport,dport:=f.sport}
def answerS (node:Int) (f:Fl) (seq own:Int):Ans By:=match tcpP f.dst f.src (greetT f seq own) [] with
 |.error e=>.error e
 |.ok b=>insS b [sidA 0 6 node]
theorem putH_join {h:Hd} {r:By} (e:h.len=r.length):putH h++r=joinS h r:=by
 unfold joinS;rw[←e]
theorem tcpP_ok {src dst:Ad} {t:Sg} {p:By} (h:canT t p.length=0) (hl:p.length≤1440):tcpP src dst t p=.ok (joinS ⟨0,0,0,6,64,src,dst⟩ (tcpB (sealT src dst t p) p)):=by
 have hs:=seal_can (src:=src) (dst:=dst) h;have e:=tcpB_len (sealT src dst t p) p;unfold tcpP putT;rw[if_neg (by rw[hs];simp)];simp only
 unfold madeP;rw[if_neg (by omega)];rfl
theorem sealT_num {src dst:Ad} {t:Sg} {p:By} (h:canT t p.length=0) (ht:okT t):okT (sealT src dst t p):=by
 unfold sealT;rw[if_neg (by rw[h];simp)];have:=checkC_lt src dst 6 (tcpB {t with ck:=0} p);exact⟨numsT_ck ht.nums ⟨by omega,by omega⟩,ht.seq,ht.ack⟩
theorem ins_plain {h:Hd} {r:By} {s:Ad} (k:okHd {h with len:=r.length}) (h6:h.nxt=6) (hl:r.length≤1400) :
  insS (joinS h r) [s]=.ok (joinS {h with nxt:=43,dst:=s} (srhB 6 1 [h.dst,s]++r)):=by
 have hlen:=joinS_len (h:=h) (r:=r) k.can;have hd:(joinS h r).drop 40=r:=joinS_drop (h:=h) (r:=r) k.can 0;unfold insS;rw[headS_join k];simp only[h6];rw[if_neg (by omega),if_neg (by simp),walk_plain (by omega) (by omega) rfl];rw[if_neg (by simp[manyW]),if_neg (by simp;omega),hd];rfl
theorem sidA_ok (n d r:Int):okA (sidA n d r):=by
 intro x hx;have hg:∀j:Nat,j<256→(Lit.int .u8 (j:Int)).wf=true:=fun j hj=>by
  simp[Lit.wf,IntKind.min,IntKind.max,IntKind.signed,IntKind.bits];omega
 simp only[sidA,Ad.l,List.mem_cons,List.not_mem_nil,or_false]at hx;rcases hx with rfl|rfl|rfl|rfl|rfl|rfl|rfl|rfl|rfl|rfl|rfl|rfl|rfl|rfl|rfl|rfl
 all_goals first|rfl|exact hg _ (loB_lt _)|exact hg _ (by omega)
theorem split_sid {n d r:Int} (h1:0≤n∧n≤65535) (h2:0≤d∧d≤255) (h3:0≤r∧r≤4294967295):splitA (sidA n d r)=some (n,d,r):=by
 unfold splitA sidA;simp only[and_self,if_true];have e1:=twoB_val h1;have e2:=loB_small h2;have hr:(((((r.toNat/16777216%256:Nat):Int)*256+(r.toNat/65536%256:Nat))*256+(r.toNat/256%256:Nat))*256+(r.toNat%256:Nat))=r:=by omega
 rw[e2,hr];rw[show ((loB (n/256):Nat):Int)*256+(loB n:Nat)=n by omega]
theorem canH_of {c l n x p:Int} {s d:Ad} (h1:0≤c∧c≤255) (h2:0≤l∧l≤1048575) (h3:0≤n∧n≤65535) (h4:0≤x∧x≤255) (h5:0≤p∧p≤255):canH ⟨c,l,n,x,p,s,d⟩=true:=by
 unfold canH;simp only[decide_eq_true_eq];omega
theorem srhB_set (nx:Int) (l:List Ad) (m r:By) (h:m.length=40):(m++(srhB nx 1 l++r)).set 43 0=m++(srhB nx 0 l++r):=by
 rw[List.set_append_right _ _ (by omega),h];rfl
theorem strip_routed {h:Hd} {l:List Ad} {r:By} (k:okHd {h with len:=(srhB 6 1 l++r).length}) (h43:h.nxt=43) (hhop:2≤h.hop) (h2:2≤l.length) (h10:l.length≤10) (ok:∀a∈l,okA a) :
  stripS (joinS h (srhB 6 1 l++r))=.ok (joinS {h with hop:=h.hop-1,nxt:=6,dst:=l.getD 0 ad0} r):=by
 have kc:=canH.at k.can;have hd:(joinS h (srhB 6 1 l++r)).drop 40=srhB 6 1 l++r:=joinS_drop (h:=h) (r:=srhB 6 1 l++r) k.can 0;have hsl:=srhB_len 6 1 l;have g43:gB (joinS h (srhB 6 1 l++r)) 43=1:=by
  have:=gB_joinS (h:=h) (r:=srhB 6 1 l++r) k.can 3;rw[this,gB_app1 (by omega)];rfl
 have ok0:okA (l.getD 0 ad0):=ok _ (by
  rw[List.getD_eq_getElem?_getD,List.getElem?_eq_getElem (by omega)];exact List.getElem_mem _)
 have k2:okHd {h with hop:=h.hop-1,dst:=l.getD 0 ad0,len:=(srhB 6 0 l++r).length}:=
  ⟨canH_of kc.1 kc.2.1 (by have:=kc.2.2.1;simp only[List.length_append,srhB_len]at this ⊢;exact this) kc.2.2.2.1 (by have:=kc.2.2.2.2;simp only at this;omega),k.src,ok0⟩
 have ha:advS (joinS h (srhB 6 1 l++r))=.ok (joinS {h with hop:=h.hop-1,dst:=l.getD 0 ad0} (srhB 6 0 l++r)):=by
  have hrj:routedS (joinS h (srhB 6 1 l++r))=.ok ({h with len:=(srhB 6 1 l++r).length},⟨6,1,0,0,l⟩,8+16*l.length):=routedS_join (left:=1) k h43 (by omega) (by omega) h10 ok;unfold advS;rw[hrj];simp only
  rw[if_neg (by omega),if_neg (by omega),g43,hd];congr 1;have hl:({h with hop:=h.hop-1,dst:=l.getD 0 ad0,len:=(srhB 6 1 l++r).length}:Hd)={h with hop:=h.hop-1,dst:=l.getD 0 ad0,len:=(srhB 6 0 l++r).length}:=by
   simp only[List.length_append,srhB_len]
  have e1:joinS {h with hop:=h.hop-1,dst:=l.getD 0 ad0} (srhB 6 1 l++r)=putH {h with hop:=h.hop-1,dst:=l.getD 0 ad0,len:=(srhB 6 0 l++r).length} ++ (srhB 6 1 l++r):=by
   unfold joinS;simp only[List.length_append,srhB_len]
  show (joinS {h with hop:=h.hop-1,dst:=l.getD 0 ad0} (srhB 6 1 l++r)).set 43 0=_;rw[e1,srhB_set _ _ _ _ (putH_len k2.can)];rfl
 have hd2:(joinS {h with hop:=h.hop-1,dst:=l.getD 0 ad0} (srhB 6 0 l++r)).drop (40+(8+16*l.length))=r:=by
  rw[joinS_drop (h:={h with hop:=h.hop-1,dst:=l.getD 0 ad0}) (r:=srhB 6 0 l++r) k2.can,List.drop_append_of_le_length (by rw[srhB_len];omega),List.drop_eq_nil_of_le (by rw[srhB_len];omega)];rfl
 unfold stripS;rw[ha];simp only
 have hrj:routedS (joinS {h with hop:=h.hop-1,dst:=l.getD 0 ad0} (srhB 6 0 l++r))=.ok ({h with hop:=h.hop-1,dst:=l.getD 0 ad0,len:=(srhB 6 0 l++r).length},⟨6,0,0,0,l⟩,8+16*l.length):=routedS_join (left:=0) k2 h43 (by omega) (by omega) h10 ok;unfold remS;rw[hrj];simp only[hd2];rfl
structure PortsF (f:Fl):Prop where
 ok:okF f
 sp:0≤f.sport∧f.sport≤65535
 dp:0≤f.dport∧f.dport≤65535
theorem u32w_lt (n:Int):0≤u32w n∧u32w n≤4294967295:=by unfold u32w;omega
theorem greetT_ok {f:Fl} (hf:PortsF f) {seq own:Int} (ho:0≤own∧own≤4294967295):okT (greetT f seq own)∧canT (greetT f seq own) 0=0:=by
 have hn:numsT (greetT f seq own)=true:=by
  refine decide_eq_true ?_;exact⟨hf.dp,hf.sp,(by decide:(0:Int)≤4096∧(4096:Int)≤65535),(by decide:(0:Int)≤0∧(0:Int)≤65535),(by decide:(0:Int)≤0∧(0:Int)≤65535),(by decide:(0:Int)≤18∧(18:Int)≤255)⟩
 refine⟨⟨hn,ho,u32w_lt _⟩,?_⟩;unfold canT;rw[hn];rfl
end Go.Proofs.YtgbndaiifbogmaaGreat
namespace Go.Proofs.YtgbndaiifbogmaaGreat
open Go.RowKit Go.Maps
def SrtE (L:List En):Prop:=L.Pairwise fun a b=>lessF a.fl b.fl=true
structure RC (c:TC) (L:List En):Prop where
 srt:SrtE L
 pm:L.Perm (c.l.map (·.1))
end Go.Proofs.YtgbndaiifbogmaaGreat
namespace Go.Proofs.YtgbndaiifbogmaaGreat
open Go.RowKit Go.Maps
theorem and_word {n:Nat} (h:n<4294967296):bits .and .i64 (n:Int) 65535=((n%65536:Nat):Int):=by
 have h1:(BitVec.ofInt 64 (n:Int)).toNat=n:=by
  rw[BitVec.ofInt_natCast,BitVec.toNat_ofNat];exact Nat.mod_eq_of_lt (by omega)
 have h2:(BitVec.ofInt 64 (65535:Int)).toNat=2 ^ 16-1:=by decide
 show IntKind.i64.wrap ((BitVec.ofInt 64 (n:Int) &&& BitVec.ofInt 64 (65535:Int)).toNat:Int)=_;rw[BitVec.toNat_and,h1,h2,Nat.and_two_pow_sub_one_eq_mod,IntKind.wrap_i64];omega
theorem clow_any {n:Nat} (h:n<4294967296) (w:World):Calls Tryz.prog 306 #[.int .i64 n] w fun e w'=>e=.returned (.int .i64 (n%65536:Nat))∧w=w':=by
 have ha:=and_word h;generalize n%65536=m at *;clear h;go_enter Tryz.func306,Tryz.ntmps306
 go_wp2_with fail;go_ret
 exact⟨rfl,rfl⟩
theorem cjoin_any {a b:Nat} (ha:a<4294967296) (hb:b<4294967296) (w:World):Calls Tryz.prog 307 #[.int .i64 a,.int .i64 b] w fun e w'=>e=.returned (.int .i64 (joinC a b:Nat))∧w=w':=by
 have F1:=zH (clow_any ha w);have F2:=zH (clow_any hb w);have HJ:Hid (joinC a b=if a%65536+b%65536>65535 then a%65536+b%65536-65535 else a%65536+b%65536):=zH rfl;have h1:a%65536<65536:=by omega
 have h2:b%65536<65536:=by omega
 generalize joinC a b=r at *;generalize a%65536=x at *;generalize b%65536=y at *;clear ha hb;have hw:IntKind.i64.wrap ((x:Int)+(y:Int))=((x+y:Nat):Int):=by rw[IntKind.wrap_i64];omega
 have HR:Hid (∀z:Nat,65535<z→IntKind.i64.wrap ((z:Int)-65535)=((z-65535:Nat):Int)∨4294967296<z):=zH (fun z hz=>by
  by_cases h:4294967296<z
  ·exact .inr h
  ·refine .inl ?_;rw[IntKind.wrap_i64];omega)
 have hlt:x+y<4294967296:=by omega
 go_enter Tryz.func307,Tryz.ntmps307
 go_wp2_with fail;refine F1.out.mono ?_;rintro e w1 ⟨rfl,rfl⟩;go_wp2_with fail;refine F2.out.mono ?_;rintro e w1 ⟨rfl,rfl⟩;clear F1 F2 h1 h2;generalize x+y=z at *;by_cases hz:65535<z
 ·have hzI:(65535:Int)<(z:Int):=by omega
  have hs:IntKind.i64.wrap ((z:Int)-65535)=((z-65535:Nat):Int):=(HR.out z hz).resolve_right (by omega);have hr:=HJ.out;rw[if_pos hz]at hr;have HR2:=zH hr;clear HJ HR hlt hr;generalize z-65535=y at *;go_wp2_with fail;go_ret
  exact⟨by rw[HR2.out];rfl,rfl⟩
 ·have hzI:¬(65535:Int)<(z:Int):=by omega
  have hr:=HJ.out;rw[if_neg hz]at hr;have HR2:=zH hr;clear HJ HR hlt hr;go_wp2_with fail;go_ret
  exact⟨by rw[HR2.out];rfl,rfl⟩
structure SlL (w:World) (B:Nat) (pv:Value) (vs:List Value) (Ls:List By):Prop where
 sl:Sl w B 1 pv vs.length vs
 len:Ls.length=vs.length
 each:∀(i:Nat) (v:Value) (l:By),vs[i]?=some v→Ls[i]?=some l→SlY w 0 v l∧okB l∧l.length≤1000000
def sumL (Ls:List By):Nat:=Ls.foldl sumC 0
theorem sumL_lt (Ls:List By):∀s,s<65536→Ls.foldl sumC s<65536:=by
 induction Ls with
 |nil=>intro s h;exact h
 |cons l r ih=>intro s h;exact ih _ (sumC_lt s l h)
theorem shl8 {x:Nat} (h:x<256):IntKind.i64.wrap ((x:Int)*256)=(x:Int)*256:=by rw[IntKind.wrap_i64];omega
theorem csum_any {w:World} {B:Nat} {pv:Value} {vs:List Value} {Ls:List By} (h:SlL w B pv vs Ls) (hn:vs.length≤1000) :
  Calls Tryz.prog 328 #[pv] w fun e w'=>e=.returned (.int .i64 (sumL Ls:Nat))∧w=w':=by
 obtain⟨A,c,rfl⟩:=h.sl.form;have HA:Hid (∀k,k<vs.length→∃b o v l,A=some ⟨b,o,none⟩∧vs[k]?=some v∧Ls[k]?=some l∧w.cell? ⟨b,o+k,none⟩=some v∧SlY w 0 v l∧okB l∧l.length≤1000000):=zH fun k hk=>by
  obtain⟨b,o,c',e,_,_,hc⟩:=Sl.at_ h.sl hk (by omega);simp only[Value.slice.injEq,true_and]at e;have hc0:=hc 0 (by omega);simp only[Nat.mul_one,Nat.add_zero]at hc0;have h1:vs[k]?=some vs[k]:=List.getElem?_eq_getElem hk;have h2:Ls[k]?=some (Ls[k]'(by rw[h.len];exact hk)):=List.getElem?_eq_getElem _
  exact⟨b,o,_,_,e.1,h1,h2,by rw[hc0,h1],h.each k _ _ h1 h2⟩
 have HS:Hid (∀k l,Ls[k]?=some l→sumL (Ls.take (k+1))=sumC (sumL (Ls.take k)) l):=zH fun k l hl=>by
  unfold sumL;rw[List.take_add_one,hl];simp
 have HE:Hid (sumL (Ls.take vs.length)=sumL Ls):=zH (by rw[←h.len,List.take_length]);generalize vs.length=n at *;clear h;go_enter Tryz.func328,Tryz.ntmps328
 go_wp2_with fail;go_loop [3,10] (fun sv iv=>∃k:Nat,k≤n∧iv=.int .i64 k∧sv=.int .i64 (sumL (Ls.take k):Nat)) (fun _ iv=>n-(intOf iv).toNat)
 case atStart=>exact⟨0,by omega,rfl,rfl⟩
 case round=>
  obtain⟨k,hk,rfl,rfl⟩:=hrel;by_cases hlt:k<n
  ·obtain⟨b,o,v,l,rfl,hv,hl,hcell,hs,hb,hlen⟩:=HA.out k hlt;have hkI:(k:Int)<(n:Int):=by omega
   have HK:=zH (HS.out k l hl);have hs0:sumL (Ls.take k)<65536:=sumL_lt _ 0 (by omega);obtain⟨A2,c2,rfl⟩:=hs.form;have HB:Hid (∀i,i<l.length→∃b o,A2=some ⟨b,o,none⟩∧w.cell? ⟨b,o+i,none⟩=some (byV (gB l i))∧gB l i<256):=zH fun i hi=>by
    obtain⟨b,o,c',e,_,hc⟩:=hs.at_ hi;simp only[Value.slice.injEq,true_and]at e;exact⟨b,o,e.1,hc,gB_lt hb i⟩
   have H2:Hid (∀s i,i+1<l.length→sumC s (l.drop i)=sumC (joinC s (w2 l i)) (l.drop (i+2))):=zH fun s i hi=>sumC_two hi
   have H1:Hid (∀s i,i+1=l.length→sumC s (l.drop i)=joinC s (gB l i*256)):=zH fun s i hi=>sumC_last hi
   have H0:Hid (∀s i,l.length≤i→sumC s (l.drop i)=s):=zH fun s i hi=>by rw[List.drop_eq_nil_of_le hi];rfl
   generalize hs1:sumL (Ls.take k)=s0 at *;generalize hm:l.length=m at *;have hw1:IntKind.i64.wrap ((m:Int)+1)=(m:Int)+1:=by rw[IntKind.wrap_i64];omega
   have hq:((m:Int)+1).tdiv 2=((m:Int)+1)/2:=by rw[Int.tdiv_eq_ediv_of_nonneg (by omega)]
   have hw2:IntKind.i64.wrap (((m:Int)+1)/2)=((m:Int)+1)/2:=by rw[IntKind.wrap_i64];omega
   clear hv hl hs hb HS HE HA hm hs1;go_wp2_with fail;go_loop [3,18] (fun sv iv=>∃j s:Nat,(j:Int)≤((m:Int)+1)/2∧s<65536∧iv=.int .i64 j∧sv=.int .i64 (s:Nat)∧Hid (sumC s (l.drop (2*j))=sumC s0 l)) (fun _ iv=>m+1-(intOf iv).toNat)
   case atStart=>exact⟨0,s0,by omega,hs0,rfl,rfl,zH rfl⟩
   case round=>
    obtain⟨j,s,hj,hsl,rfl,rfl,HJ⟩:=hrel;by_cases hjl:(j:Int)<((m:Int)+1)/2
    ·obtain⟨b0,o0,rfl,hc0,hg0⟩:=HB.out (2*j) (by omega);have m1:IntKind.i64.wrap (2*(j:Int))=2*(j:Int):=by rw[IntKind.wrap_i64];omega
     have m2:IntKind.i64.wrap (2*(j:Int)+1)=2*(j:Int)+1:=by rw[IntKind.wrap_i64];omega
     have i1:2*(j:Int)<(m:Int):=by omega
     unfold byV at hc0;by_cases h1:2*j+1<m
     ·obtain⟨b1,o1,e1,hc1,hg1⟩:=HB.out (2*j+1) h1;simp only[Option.some.injEq,Addr.mk.injEq,and_true]at e1;obtain⟨rfl,rfl⟩:=e1;unfold byV at hc1;have HJ':Hid (sumC (joinC s (w2 l (2*j))) (l.drop (2*(j+1)))=sumC s0 l):=zH (by rw[←HJ.out,H2.out _ _ h1,show 2*(j+1)=2*j+2 by omega])
      have hor:bits .or .i64 ((gB l (2*j):Int)*256) (gB l (2*j+1):Int)=(w2 l (2*j):Nat):=or_i64 (by omega) (by omega);have hwl:w2 l (2*j)<4294967296:=by unfold w2;omega
      have FJ:=zH (cjoin_any (a:=s) (b:=w2 l (2*j)) (by omega) hwl w);have hjl2:=joinC_lt s (w2 l (2*j));have h8:=shl8 hg0;have i2:2*(j:Int)+1<(m:Int):=by omega
      generalize gB l (2*j)=x0 at *;generalize gB l (2*j+1)=x1 at *;generalize joinC s (w2 l (2*j))=s2 at *;generalize w2 l (2*j)=y at *;clear HJ HB H2 H1 H0 hwl;go_wp2_with fail;refine FJ.out.mono ?_;rintro e w1 ⟨rfl,rfl⟩;go_wp2_with fail;go_round
      case rel=>exact⟨j+1,s2,by omega,hjl2,by go_num,rfl,HJ'⟩
      case measure=>simp[intOf];omega
     ·have h1':2*j+1=m:=by omega
      have HJ':Hid (sumC (joinC s (gB l (2*j)*256)) (l.drop (2*(j+1)))=sumC s0 l):=zH (by rw[H0.out _ _ (by omega),←HJ.out,H1.out _ _ h1']);have hwl:gB l (2*j)*256<4294967296:=by omega
      have FJ:=zH (cjoin_any (a:=s) (b:=gB l (2*j)*256) (by omega) hwl w);have hjl2:=joinC_lt s (gB l (2*j)*256);have h8:=shl8 hg0;have i2:¬2*(j:Int)+1<(m:Int):=by omega
      generalize joinC s (gB l (2*j)*256)=s2 at *;generalize gB l (2*j)=x0 at *;clear HJ HB H2 H1 H0 hwl h1';go_wp2_with fail;rw[Int.natCast_mul]at FJ;refine FJ.out.mono ?_;rintro e w1 ⟨rfl,rfl⟩;go_wp2_with fail;go_round
      case rel=>exact⟨j+1,s2,by omega,hjl2,by go_num,rfl,HJ'⟩
      case measure=>simp[intOf];omega
    ·have hs':s=sumL (Ls.take (k+1)):=by rw[HK.out,←HJ.out,H0.out _ _ (by omega)]
     subst hs';clear HJ HB H2 H1 H0 HK;go_wp2_with fail;go_round
     case rel=>exact⟨k+1,by omega,by go_num,rfl⟩
     case measure=>simp[intOf];omega
  ·obtain rfl:k=n:=by omega
   have he:=HE.out;clear HE HS HA;generalize sumL (Ls.take k)=s0 at *;subst he;go_wp2_with fail;go_ret
   exact⟨rfl,rfl⟩
end Go.Proofs.YtgbndaiifbogmaaGreat
namespace Go.Proofs.YtgbndaiifbogmaaGreat
open Go.RowKit Go.Maps
def KZc:KV Tryz.prog 3 Int where
 lit n:=.int .i64 n
 ok n:=(Lit.int .i64 n).wf=true
 key n _:=by simp[WideAt.IsKeyLit]
 inj a b _ _ h:=by injection h
 val n:=.int .i64 n
 law:=lawZ
 isk n h:=by simp[keyOf,Tryz.underlying3,mapKey,h]
 inv v l h:=by
  obtain⟨x,rfl,rfl,hw⟩:=Maps.keyOf_int_inv Tryz.underlying3 h;exact⟨x,hw,rfl,rfl⟩
theorem wf_c {n:Int} (h0:0≤n) (h1:n≤1000000):(Lit.int .i64 n).wf=true:=by
 simp[Lit.wf,IntKind.min,IntKind.max,IntKind.signed,IntKind.bits];omega
section
variable {P:Program} {ops:Array Oper} {o:Oper} {a:Act} {S:World→Prop}
theorem yields_look2 (hw:Region.wanted o (yielded ops a.tmps)=true) (t:TypeId) (m k:Operand) (ho:o.op=.lookup t m k true) {mv kv v:Value} (hm:a.eval m=mv) (hk:a.eval k=kv) (hS:∀w,S w→(Instr.lookup t mv kv true).run P w=.ok v w):YieldsIf P ops S o v a:=
 .inl ⟨hw,fun w hw'=>by
  unfold execOp;simp only[ho,hm,hk,Sem.run_bind,Sem.run_pure,Result.andThen_ok,hS w hw']⟩
end
def footT (tb m1 m2 m3 q:Nat) (vs:Value):List Nat:=tb::m1::m2::m3::footQ q vs
structure CtR (w:World) (tb m1 m2 m3 q nn:Nat) (vs:Value) (sq:Int) (its:List It) (c:TC):Prop where
 blk:Blk w tb 200 #[.int .i64 c.n,.int .i64 c.now,.int .i64 c.last,.map (some m1),.map (some m2),.map (some m3),.pointer (some ⟨q,0,none⟩)]
 oe:OM KF w m1 nn (mE c.l) c.l.length
 on:∃s,OM KF w m2 nn (mN c.l) s
 of:∃s,OM KZc w m3 nn (mF c.l) s
 qu:QU w q vs sq its
 d1:tb≠m1∧tb≠m2∧tb≠m3∧m1≠m2∧m1≠m3∧m2≠m3
 d2:tb∉footQ q vs∧m1∉footQ q vs∧m2∉footQ q vs∧m3∉footQ q vs
section
variable {w w':World} {tb m1 m2 m3 q nn:Nat} {vs:Value} {sq:Int} {its:List It} {c:TC} {S:List Nat}
theorem CtR.chg (h:CtR w tb m1 m2 m3 q nn vs sq its c) (hc:Chg S w w') (hS:∀x∈footT tb m1 m2 m3 q vs,x∉S):CtR w' tb m1 m2 m3 q nn vs sq its c:=by
 obtain⟨s2,h2⟩:=h.on;obtain⟨s3,h3⟩:=h.of;exact⟨h.blk.chg hc (hS tb (by simp[footT])),h.oe.chg hc (hS m1 (by simp[footT])),⟨s2,h2.chg hc (hS m2 (by simp[footT]))⟩,⟨s3,h3.chg hc (hS m3 (by simp[footT]))⟩,
  h.qu.chg hc (fun x hx=>hS x (by simp[footT];exact .inr (.inr (.inr (.inr hx))))),h.d1,h.d2⟩
theorem CtR.chg0 (h:CtR w tb m1 m2 m3 q nn vs sq its c) (hc:Chg [] w w'):CtR w' tb m1 m2 m3 q nn vs sq its c:=h.chg hc (by simp)
theorem CtR.lt (h:CtR w tb m1 m2 m3 q nn vs sq its c):∀x∈footT tb m1 m2 m3 q vs,x<w.heap.size:=by
 obtain⟨s2,h2⟩:=h.on;obtain⟨s3,h3⟩:=h.of;intro x hx;simp only[footT,List.mem_cons]at hx;rcases hx with rfl|rfl|rfl|rfl|hx
 ·exact h.blk.lt
 ·exact h.oe.lt
 ·exact h2.lt
 ·exact h3.lt
 ·exact h.qu.r.lt x hx
end
structure CtS (W w:World) (tb K:Nat) (c:TC) (S:List Nat):Prop where
 r:∃m1 m2 m3 q nn vs sq its,CtR w tb m1 m2 m3 q nn vs sq its c∧S=footT tb m1 m2 m3 q vs∧nn≤K∧0≤sq∧sq≤K∧(its.map fun x=>(x.at_,x.id)).Perm (c.l.map fun p=>(p.1.til,p.2))
 ci:CI K c
 chg:Chg [] W w
 new:∀x∈S,W.heap.size≤x
theorem CtS.chg0 {W w w':World} {tb K:Nat} {c:TC} {S:List Nat} (h:CtS W w tb K c S) (hc:Chg [] w w'):CtS W w' tb K c S:=by
 obtain⟨⟨m1,m2,m3,q,nn,vs,sq,its,h1,h2⟩,h3,h4,h5⟩:=h;exact⟨⟨m1,m2,m3,q,nn,vs,sq,its,h1.chg0 hc,h2⟩,h3,h4.trans hc,h5⟩
theorem CtS.mono {W w:World} {tb K K':Nat} {c:TC} {S:List Nat} (h:CtS W w tb K c S) (hK:K≤K'):CtS W w tb K' c S:=by
 obtain⟨⟨m1,m2,m3,q,nn,vs,sq,its,h1,h2,h6,h7,h8,h9⟩,h3,h4,h5⟩:=h;exact⟨⟨m1,m2,m3,q,nn,vs,sq,its,h1,h2,by omega,h7,by omega,h9⟩,h3.mono hK,h4,h5⟩
theorem CtS.lt {W w:World} {tb K:Nat} {c:TC} {S:List Nat} (h:CtS W w tb K c S):∀x∈S,x<w.heap.size:=by
 obtain⟨⟨m1,m2,m3,q,nn,vs,sq,its,h1,h2,_⟩,_⟩:=h;rw[h2];exact h1.lt
def CtTo (W w:World) (tb K:Nat) (c:TC) (S:List Nat) (w':World):Prop:=∃S',CtS W w' tb K c S'∧Chg S w w'∧∀x∈S',x∈S∨w.heap.size≤x
theorem CtS.same {W w w':World} {tb K K':Nat} {c:TC} {S:List Nat} (h:CtS W w tb K c S) (hK:K≤K') (hc:Chg [] w w'):CtTo W w tb K' c S w':=⟨S,(h.mono hK).chg0 hc,hc.more (by simp),fun _ hx=>.inl hx⟩
theorem zeroEn (w:World):(zeroValue 108).run Tryz.prog w=.ok (.agg (arrN eN0)) w:=by kernel_rfl
theorem zeroFl (w:World):(zeroValue 46).run Tryz.prog w=.ok eN0.fl.v w:=by kernel_rfl
section
variable {w:World} {tb m1 m2 m3 q nn:Nat} {vs:Value} {sq:Int} {its:List It} {c:TC}
theorem cis_any (h:CtR w tb m1 m2 m3 q nn vs sq its c):Calls Tryz.prog 129 #[.pointer (some ⟨tb,0,none⟩)] w fun e w'=>e=.returned (.bool true)∧w=w':=by
 have c6:w.cell? ⟨tb,6,none⟩=some (.pointer (some ⟨q,0,none⟩)):=h.blk.cell 6;clear h;go_enter Tryz.func129,Tryz.ntmps129
 go_wp2_with fail;go_ret
 exact⟨rfl,rfl⟩
theorem cnow_any (h:CtR w tb m1 m2 m3 q nn vs sq its c):Calls Tryz.prog 281 #[.pointer (some ⟨tb,0,none⟩)] w fun e w'=>e=.returned (.int .i64 c.now)∧w=w':=by
 have c1:w.cell? ⟨tb,1,none⟩=some (.int .i64 c.now):=h.blk.cell 1;have F1:=zH (cis_any h);clear h;go_enter Tryz.func281,Tryz.ntmps281
 go_wp2_with fail;refine F1.out.mono ?_;rintro e w1 ⟨rfl,rfl⟩;go_wp2_with fail;go_ret
 exact⟨rfl,rfl⟩
theorem ccap_any (h:CtR w tb m1 m2 m3 q nn vs sq its c):Calls Tryz.prog 267 #[.pointer (some ⟨tb,0,none⟩)] w fun e w'=>e=.returned (.int .i64 c.n)∧w=w':=by
 have c0:w.cell? ⟨tb,0,none⟩=some (.int .i64 c.n):=h.blk.cell 0;have F1:=zH (cis_any h);clear h;go_enter Tryz.func267,Tryz.ntmps267
 go_wp2_with fail;refine F1.out.mono ?_;rintro e w1 ⟨rfl,rfl⟩;go_wp2_with fail;go_ret
 exact⟨rfl,rfl⟩
theorem clen_any (h:CtR w tb m1 m2 m3 q nn vs sq its c):Calls Tryz.prog 266 #[.pointer (some ⟨tb,0,none⟩)] w fun e w'=>e=.returned (.int .i64 c.l.length)∧w=w':=by
 have c3:w.cell? ⟨tb,3,none⟩=some (.map (some m1)):=h.blk.cell 3;have F1:=zH (cis_any h);have hl:=fun ty=>h.oe.len Tryz.underlying194 ty
 clear h;go_enter Tryz.func266,Tryz.ntmps266
 go_wp2_with fail;refine F1.out.mono ?_;rintro e w1 ⟨rfl,rfl⟩;go_wp2_with fail;go_ret
 exact⟨rfl,rfl⟩
theorem cfind_any (h:CtR w tb m1 m2 m3 q nn vs sq its c) {f:Fl} (hf:okF f) :
  Calls Tryz.prog 73 #[.pointer (some ⟨tb,0,none⟩),f.v] w fun e w'=>e=.returned (.tuple #[.agg (arrN (((getC c f).map (·.1)).getD eN0)),.bool (hasC c f)])∧Chg [] w w':=by
 have hlt:=h.lt tb (by simp[footT]);have hcA:=((Chg.refl [] w).alloc (.cells (arrF f) 46)).alloc (.cells arrN0 108);have hBf:Blk ((w.alloc (.cells (arrF f) 46)).alloc (.cells arrN0 108)) w.heap.size 46 (arrF f):=(Blk.new _ _ _).alloc _
 have hBl:Blk ((w.alloc (.cells (arrF f) 46)).alloc (.cells arrN0 108)) (w.heap.size+1) 108 arrN0:=Blk.new' (by simp);have hsz:((w.alloc (.cells (arrF f) 46)).alloc (.cells arrN0 108)).heap.size=w.heap.size+2:=by simp
 have HI:=zH (And.intro hcA (And.intro hBf (And.intro hBl (And.intro (h.chg0 hcA) hsz))));have HL:Hid (∀W,OM KF W m1 nn (mE c.l) c.l.length→(Instr.lookup 194 (.map (some m1)) f.v true).run Tryz.prog W=.ok (.tuple #[.agg (arrN (((getC c f).map (·.1)).getD eN0)),.bool (hasC c f)]) W):=zH fun W ho=>by
  have:=ho.look2 Tryz.underlying194 (zeroEn W) (x:=f) hf;have e1:(mE c.l f).getD (.agg (arrN eN0))=.agg (arrN (((getC c f).map (·.1)).getD eN0)):=by
   unfold mE getC;cases c.l.find? (fun p=>decide (flC p=f))<;>rfl
  have e2:(mE c.l f).isSome=hasC c f:=by
   unfold mE hasC getC;cases c.l.find? (fun p=>decide (flC p=f))<;>rfl
  rw[e1,e2]at this;exact this
 clear hcA hBf hBl hsz h;generalize ((getC c f).map (·.1)).getD eN0=x at *;generalize hasC c f=bb at *;go_enter Tryz.func73,Tryz.ntmps73
 go_upto_region 1 with fail
 generalize (w.alloc (.cells (arrF f) 46)).alloc (.cells arrN0 108)=w1 at *;generalize hg:w.heap.size=gf at *;have F1:=zH (cis_any HI.out.2.2.2.1);go_wp2_with fail;refine F1.out.mono ?_;rintro e w2 ⟨rfl,rfl⟩;clear F1;go_upto_region 3 with fail
 have hS0:Chg [] w1 w1.drew:=(Chg.refl [] w1).drew;have HC0:∀W,Chg [] w1 W→W.cell? ⟨tb,3,none⟩=some (.map (some m1)):=fun W hc=>hc.cell (HI.out.2.2.2.1.blk.cell 3) (by simp)
 have HRF:∀W,Chg [] w1 W→W.rangeAt gf 0 (arrF f).toList:=fun W hc=>(HI.out.2.1.chg hc (by simp)).rangeQ
 have HLK:∀W,Chg [] w1 W→(Instr.lookup 194 (.map (some m1)) f.v true).run Tryz.prog W=.ok (.tuple #[.agg (arrN x),.bool bb]) W:=fun W hc=>HL.out W (HI.out.2.2.2.1.oe.chg0 hc)
 have hBx:Blk (w1.alloc (.cells arrN0 108)).drew w1.heap.size 108 arrN0:=(Blk.new _ _ _).drew;have hcB:=((Chg.refl [] w1).alloc (.cells arrN0 108)).drew;refine wp_region_noPanic ?_;refine wp_region_held_drew (S:=Chg [] w1) (by kernel_rfl) hS0 (fun _=>?_)
 refine zU 0 rfl (by go_simp<;>with_reducible rfl) ?_
 try simp only[zP]
 refine zU 1 rfl (by go_simp<;>with_reducible rfl) ?_
 try simp only[zP]
 refine zU 2 rfl (by go_simp<;>with_reducible rfl) ?_
 try simp only[zP]
 refine zT 3 rfl (zc (by rfl) 194 (.tmp 15) rfl tb 3 rfl (.map (some m1)) _ HC0 Tryz.underlying194 rfl) ?_
 try simp only[zP]
 refine zT 4 rfl (yields_row (by rfl) 46 (.tmp 3) rfl gf 0 rfl (arrF f) _ HRF Tryz.underlying46 rfl infF) ?_
 try simp only[zP]
 refine zT 5 rfl (yields_look2 (by rfl) 194 (.tmp 16) (.tmp 17) rfl rfl rfl (HLK)) ?_
 try simp only[zP]
 refine zU 6 rfl (by go_simp<;>with_reducible rfl) ?_
 try simp only[zP]
 refine zU 7 rfl (by go_simp<;>with_reducible rfl) ?_
 try simp only[zP]
 refine zU 8 rfl (by go_simp<;>with_reducible rfl) ?_
 try simp only[zP]
 refine zR 9 rfl (fun K hK=>?_);go_simp
 refine zB hK ?_;clear hK K
 try simp only[zP]
 refine zR 10 rfl (fun K hK=>?_);refine step_store_blk rfl 108 (.tmp 6) (.tmp 19) rfl hBx rfl rfl rfl (infN (e:=x)) rfl ?_;intro w5 hB5 hc5;have hc6:Chg [] w1 w5:=hcB.trans' hc5 (by intro y hy;simp at hy;subst hy;exact .inr (Nat.le_refl _));refine zB hK ?_;clear hK K
 try simp only[zP]
 refine zU 11 rfl (by go_simp<;>with_reducible rfl) ?_
 try simp only[zP]
 refine wpAnyH_done (by kernel_rfl) ?_ _;refine NoPanic.normal ?_;generalize hgx:w1.heap.size=gx at *;have R5:=zH hB5.rangeQ;have hBl:=HI.out.2.2.1.chg hc6 (by simp);have HC6:=zH (HI.out.1.trans hc6);clear hS0 HC0 HRF HLK hBx hcB hB5 hc5 hc6;go_wp2_with (first
  |(refine wpList_row 108 (.tmp 6) rfl rfl gx 0 rfl (arrN x) _ R5.out Tryz.underlying108 rfl infN ?_)
  |(refine zs rfl 108 _ _ rfl rfl hBl rfl rfl rfl (infN (e:=x)) rfl ?_;intro w7 hB7 hc7)
  |fail)
 exact bodyPost_ret (zr rfl rfl hB7 _ Tryz.underlying108 rfl (by kernel_rfl)) rfl ⟨rfl,HC6.out.trans' hc7 (by intro y hy;simp at hy;subst hy;exact .inr (by omega))⟩
end
theorem CI.new {n:Int} (h1:1≤n) (h2:n≤64):CI 0 ⟨n,0,0,[]⟩:=⟨by simp,by simp,by simp,by simp,by simp only[List.length_nil];omega,by simp,by simp,⟨h1,h2⟩⟩
theorem cnew_any {n:Int} (h1:1≤n) (h2:n≤64) (w:World):Calls Tryz.prog 60 #[.int .i64 n] w fun e w'=>∃tb S,e=.returned (.pointer (some ⟨tb,0,none⟩))∧CtS w w' tb 0 ⟨n,0,0,[]⟩ S∧Chg [] w w':=by
 have hmm:=@run_makeMap Tryz.prog;have b1:decide (n<1)=false:=by simp;omega
 have b2:decide (64<n)=false:=by simp;omega
 have b3:¬n<1:=by omega
 have b4:¬64<n:=by omega
 have F1:=zH (qnew_any (((w.alloc (.map #[] 0)).alloc (.map #[] 0)).alloc (.map #[] 0)));have hcm:=(((Chg.refl [] w).alloc (.map #[] 0)).alloc (.map #[] 0)).alloc (.map #[] 0)
 have o1:OM KF (((w.alloc (.map #[] 0)).alloc (.map #[] 0)).alloc (.map #[] 0)) w.heap.size 0 (fun _=>none) 0:=((OM.new (K:=KF) w).chg0 ((Chg.refl _ _).alloc _)).chg0 ((Chg.refl _ _).alloc _)
 have o2:OM KF (((w.alloc (.map #[] 0)).alloc (.map #[] 0)).alloc (.map #[] 0)) (w.heap.size+1) 0 (fun _=>none) 0:=by
  have:=(OM.new (K:=KF) (w.alloc (.map #[] 0))).chg0 ((Chg.refl _ _).alloc (.map #[] 0));simpa using this
 have o3:OM KZc (((w.alloc (.map #[] 0)).alloc (.map #[] 0)).alloc (.map #[] 0)) (w.heap.size+2) 0 (fun _=>none) 0:=by
  have:=OM.new (K:=KZc) ((w.alloc (.map #[] 0)).alloc (.map #[] 0));simpa using this
 have hsz:(((w.alloc (.map #[] 0)).alloc (.map #[] 0)).alloc (.map #[] 0)).heap.size=w.heap.size+3:=by simp
 have HI:=zH (And.intro hcm (And.intro o1 (And.intro o2 (And.intro o3 hsz))));clear hcm o1 o2 o3 hsz;go_enter Tryz.func60,Tryz.ntmps60
 go_wp2_with fail;refine F1.out.mono ?_;rintro e w1 ⟨q,rfl,hq,hc1,hq0⟩;have hq1:=hq.r.lt q (by simp[footQ]);have hz1:=hc1.size
 have hA:=(Chg.refl [] w1).alloc (.cells #[.int .i64 n,.int .i64 0,.int .i64 0,.map (some w.heap.size),.map (some (w.heap.size+1)),.map (some (w.heap.size+2)),.pointer (some ⟨q,0,none⟩)] 200);have hsz:=HI.out.2.2.2.2;rw[hsz]at hq0 hz1;have HH:=zH (And.intro hq (And.intro hc1 hA));clear hq hc1 hA F1
 go_wp2
 go_ret
 obtain⟨hq,hc1,hA⟩:=HH.out;have e1:mE []=fun _=>none:=rfl
 have e2:mN []=fun _=>none:=rfl
 have e3:mF []=fun _=>none:=rfl
 refine⟨w1.heap.size,footT w1.heap.size w.heap.size (w.heap.size+1) (w.heap.size+2) q (.slice none 0 0),rfl,⟨⟨w.heap.size,w.heap.size+1,w.heap.size+2,q,0,.slice none 0 0,0,[],⟨Blk.new _ _ _,?_,⟨0,?_⟩,⟨0,?_⟩,hq.chg0 hA,by omega,?_⟩,rfl,Nat.le_refl _,by omega,by simp,by simp⟩,CI.new h1 h2,(HI.out.1.trans hc1).trans hA,?_⟩,(HI.out.1.trans hc1).trans hA⟩
 ·exact (HI.out.2.1.chg0 hc1).chg0 hA
 ·exact (HI.out.2.2.1.chg0 hc1).chg0 hA
 ·exact (HI.out.2.2.2.1.chg0 hc1).chg0 hA
 ·simp[footQ,Value.ownBlock];omega
 ·intro x hx;simp[footT,footQ,Value.ownBlock]at hx;omega
end Go.Proofs.YtgbndaiifbogmaaGreat
namespace Go.Proofs.YtgbndaiifbogmaaGreat
structure PoS where
 (kind limit span asked taken:Int)
deriving DecidableEq,Inhabited
structure PoI (p:PoS):Prop where
 kind:1≤p.kind∧p.kind≤3
 limit:0≤p.limit∧p.limit≤100
 span:1≤p.span∧p.span≤100
 asked:0≤p.asked∧p.asked<p.span
 taken:0≤p.taken∧p.taken≤p.asked
structure Ev where
 (kind node:Int)
 (fl:Fl)
 (a b ver:Int)
deriving DecidableEq,Inhabited
structure AgS where
 (node load:Int)
 (c:TC)
 (p:PoS)
 (drops:List Int)
@[reducible] def fl0:Fl:=⟨ad0,0,ad0,0⟩
abbrev ResA:=List By×Ev
def hashA (node seq:Int) (f:Fl):Int:=IntKind.u32.wrap (hashF (IntKind.u64.wrap node) (IntKind.u64.wrap seq) f)
def entA (s:AgS) (f:Fl):Option En:=(getC s.c f).map (·.1)
def ownA (s:AgS) (f:Fl):Bool:=match entA s f with|some e=>decide (e.kind=2)|none=>false
end Go.Proofs.YtgbndaiifbogmaaGreat

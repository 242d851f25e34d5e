/-
  Small laws and walks on the way to LearnReads: PkC, ConnP, Oc, DueA, OpenBy. Conditions: each theorem names its own.
-/
import Derived.Test.YtgbndaiifbogmaaGreatY04
import Derived.Deep.DeepCutAuto
import Derived.Laws.BitsAllLaws
import Derived.Test.YtgbndaiifbogmaaGreatY01
set_option linter.unusedVariables false
set_option linter.unusedSimpArgs false
set_option maxRecDepth 100000
set_option maxHeartbeats 8000000
namespace Go.Proofs.YtgbndaiifbogmaaGreat
theorem joinC_mod {a b:Nat} (ha:a<65536) (hb:b<65536):joinC a b%65535=(a+b)%65535:=by
 unfold joinC;rw[Nat.mod_eq_of_lt ha,Nat.mod_eq_of_lt hb];split<;>omega
theorem joinC_pos {a b:Nat} (ha:a<65536) (hb:b<65536) (h:0<a∨0<b):0<joinC a b:=by
 unfold joinC;rw[Nat.mod_eq_of_lt ha,Nat.mod_eq_of_lt hb];split<;>omega
def wsum:By→Nat
 |[]=>0
 |[x]=>x*256
 |x::y::r=>x*256+y+wsum r
theorem wsum_app:∀(l m:By),l.length%2=0→wsum (l++m)=wsum l+wsum m
 |[],m,h=>by simp[wsum]
 |[x],m,h=>by simp at h
 |x::y::r,m,h=>by
  have:=wsum_app r m (by simp only[List.length_cons]at h;omega);show x*256+y+wsum (r++m)=x*256+y+wsum r+wsum m;omega
theorem sumC_mod:∀(s:Nat) (l:By),okB l→s<65536→sumC s l%65535=(s+wsum l)%65535
 |s,[],h,hs=>rfl
 |s,[x],h,hs=>by
  have:=h x (by simp);exact joinC_mod hs (by omega)
 |s,x::y::r,h,hs=>by
  have hx:=h x (by simp);have hy:=h y (by simp);have:=sumC_mod (joinC s (x*256+y)) r (fun z hz=>h z (by simp[hz])) (joinC_lt _ _);have h2:=joinC_mod (a:=s) (b:=x*256+y) hs (by omega);show sumC (joinC s (x*256+y)) r%65535=(s+(x*256+y+wsum r))%65535;omega
theorem pseudoB_ok {src dst:Ad} (hs:okA src) (hd:okA dst) (len next:Int):okB (pseudoB src dst len next):=
 okB.app (okB.app (okB.app (adB_lt hs) (adB_lt hd)) fourS_lt) (by intro x hx;simp at hx;rcases hx with rfl|rfl<;>first|omega|exact loB_lt _)
theorem pseudo_pos {src dst:Ad} (hs:okA src) (hd:okA dst) (len:Int) {next:Int} (hn:0<loB next):0<sumC 0 (pseudoB src dst len next):=by
 have ho:=pseudoB_ok hs hd len next;have e:pseudoB src dst len next=(adB src++adB dst++fourS (IntKind.u32.wrap len).toNat ++ [0,0]) ++ [0,loB next]:=by simp[pseudoB]
 rw[e,sumC_app _ _ _ (by simp[adB_len,fourS])];have hlt:=loB_lt next;have h1:okB (adB src++adB dst++fourS (IntKind.u32.wrap len).toNat ++ [0,0]):=fun x hx=>ho x (by rw[e];exact List.mem_append_left _ hx)
 show 0<joinC (sumC 0 _) (0*256+loB next);exact joinC_pos (sumC_lt _ _ (by omega)) (by omega) (.inr (by omega))
theorem fine_put {src dst:Ad} (hs:okA src) (hd:okA dst) {next:Int} (hn:0<loB next) (p q:By) (hp:p.length%2=0) (op:okB p) (oq:okB q) :
  fineC src dst next (p++(twoB (checkC src dst next (p++([0,0]++q)):Nat)++q))=true:=by
 unfold fineC checkC;rw[beq_iff_eq];generalize hT:bothC src dst next (p++([0,0]++q))=T;have hT2:=hT;unfold bothC at hT2 ⊢;have hl:(p++(twoB (notC T:Nat)++q)).length=(p++([0,0]++q)).length:=by simp[twoB]
 rw[hl];have hA:=pseudo_pos hs hd (p++([0,0]++q)).length hn;have hA2:=sumC_lt 0 (pseudoB src dst (p++([0,0]++q)).length next) (by omega);generalize sumC 0 (pseudoB src dst (p++([0,0]++q)).length next)=A at *;have hTlt:T<65536:=by rw[←hT2];exact joinC_lt _ _
 have hc:notC T=65535-T:=by unfold notC;omega
 have hv:=twoB_val (n:=(notC T:Nat)) (by omega);have ok0:okB (p++([0,0]++q)):=op.app (okB.app (by intro x hx;simp at hx;omega) oq);have ok1:okB (p++(twoB (notC T:Nat)++q)):=op.app (okB.app twoB_lt oq);have m0:=sumC_mod 0 _ ok0 (by omega);have m1:=sumC_mod 0 _ ok1 (by omega)
 have l0:=sumC_lt 0 (p++([0,0]++q)) (by omega);have l1:=sumC_lt 0 (p++(twoB (notC T:Nat)++q)) (by omega);rw[wsum_app _ _ hp,wsum_app _ _ (by simp[twoB])]at m0 m1;have w0:wsum [0,0]=0:=rfl;have w1:wsum (twoB (notC T:Nat))=notC T:=by
  show loB ((notC T:Nat)/256:Int)*256+loB (notC T:Nat)+0=notC T;omega
 rw[w0]at m0;rw[w1]at m1;have j0:=joinC_mod hA2 l0;have j1:=joinC_mod hA2 l1;have jl:=joinC_lt A (sumC 0 (p++(twoB (notC T:Nat)++q)));have jp:=joinC_pos hA2 l1 (.inl hA);rw[hT2]at j0;omega
structure okT (t:Sg):Prop where
 nums:numsT t=true
 seq:0≤t.seq∧t.seq≤4294967295
 ack:0≤t.ack∧t.ack≤4294967295
theorem numsT.at {t:Sg} (h:numsT t=true):(0≤t.sport∧t.sport≤65535)∧(0≤t.dport∧t.dport≤65535)∧(0≤t.window∧t.window≤65535)∧(0≤t.ck∧t.ck≤65535)∧(0≤t.urgent∧t.urgent≤65535)∧(0≤t.flags∧t.flags≤255):=by
 unfold numsT at h;exact of_decide_eq_true h
theorem tcpB_len (t:Sg) (p:By):(tcpB t p).length=20+p.length:=by
 unfold tcpB;simp[twoB,fourS];omega
theorem tcpB_ok {t:Sg} {p:By} (hp:okB p):okB (tcpB t p):=by
 unfold tcpB;have h2:okB [80,loB t.flags]:=by
  intro x hx;simp at hx;rcases hx with rfl|rfl
  ·omega
  ·exact loB_lt _
 exact okB.app (okB.app (okB.app (okB.app (okB.app (okB.app (okB.app (okB.app twoB_lt twoB_lt) fourS_lt) fourS_lt) h2) twoB_lt) twoB_lt) twoB_lt) hp
theorem four_val (N:Nat) (h:N≤4294967295):(N/16777216%256*256+N/65536%256)*65536+(N/256%256*256+N%256)=N:=by omega
theorem tcpS_put {t:Sg} (h:okT t) (p:By):tcpS (tcpB t p)=.ok ⟨t,p⟩:=by
 obtain⟨n1,n2,n3,n4,n5,n6⟩:=(numsT.at h.nums);have e:tcpB t p=(twoB t.sport++twoB t.dport++fourS t.seq.toNat++fourS t.ack.toNat ++ [80,loB t.flags]++twoB t.window++twoB t.ck++twoB t.urgent)++p:=rfl;have hl:=tcpB_len t p
 have g:∀i,i<20→gB (tcpB t p) i=gB (twoB t.sport++twoB t.dport++fourS t.seq.toNat++fourS t.ack.toNat ++ [80,loB t.flags]++twoB t.window++twoB t.ck++twoB t.urgent) i:=fun i hi=>by
  rw[e];exact gB_app1 (by simp[fourS,twoB];omega)
 have q12:gB (tcpB t p) 12=80:=g 12 (by omega);have q13:gB (tcpB t p) 13=loB t.flags:=g 13 (by omega);have w0:((w2 (tcpB t p) 0:Nat):Int)=t.sport:=by unfold w2;rw[g 0 (by omega),g 1 (by omega)];exact twoB_val n1
 have w2':((w2 (tcpB t p) 2:Nat):Int)=t.dport:=by unfold w2;rw[g 2 (by omega),g 3 (by omega)];exact twoB_val n2
 have w14:((w2 (tcpB t p) 14:Nat):Int)=t.window:=by unfold w2;rw[g 14 (by omega),g 15 (by omega)];exact twoB_val n3
 have w16:((w2 (tcpB t p) 16:Nat):Int)=t.ck:=by unfold w2;rw[g 16 (by omega),g 17 (by omega)];exact twoB_val n4
 have w18:((w2 (tcpB t p) 18:Nat):Int)=t.urgent:=by unfold w2;rw[g 18 (by omega),g 19 (by omega)];exact twoB_val n5
 have w4':((w4 (tcpB t p) 4:Nat):Int)=t.seq:=by
  have:w4 (tcpB t p) 4=t.seq.toNat:=by
   unfold w4 w2;rw[g 4 (by omega),g 5 (by omega),g 6 (by omega),g 7 (by omega)];exact four_val _ (by have:=h.seq;omega)
  rw[this];have:=h.seq;omega
 have w8':((w4 (tcpB t p) 8:Nat):Int)=t.ack:=by
  have:w4 (tcpB t p) 8=t.ack.toNat:=by
   unfold w4 w2;rw[g 8 (by omega),g 9 (by omega),g 10 (by omega),g 11 (by omega)];exact four_val _ (by have:=h.ack;omega)
  rw[this];have:=h.ack;omega
 have f:=loB_small n6;have ho:optS (((tcpB t p).take 20).drop 20)=0:=by rw[List.drop_eq_nil_of_le (by rw[List.length_take];omega)];rfl
 have hd:(tcpB t p).drop 20=p:=by rw[e,List.drop_append_of_le_length (by simp[fourS,twoB]),List.drop_eq_nil_of_le (by simp[fourS,twoB])];rfl
 unfold tcpS;rw[q12];simp only[show 80/16*4=20 from rfl];rw[if_neg (by omega),if_neg (by omega),if_neg (by omega),if_neg (by rw[ho];omega),q13,w0,w2',w14,w16,w18,w4',w8',f,hd]
theorem checkC_lt (src dst:Ad) (n:Int) (b:By):checkC src dst n b≤65535:=by unfold checkC notC;omega
theorem numsT_ck {t:Sg} (h:numsT t=true) {c:Int} (hc:0≤c∧c≤65535):numsT {t with ck:=c} = true:=by
 have:=numsT.at h;unfold numsT;rw[decide_eq_true_eq];exact⟨this.1,this.2.1,this.2.2.1,hc,this.2.2.2.2⟩
theorem seal_can {src dst:Ad} {t:Sg} {p:By} (h:canT t p.length=0):canT (sealT src dst t p) p.length=0:=by
 unfold sealT;rw[if_neg (by rw[h];omega)];unfold canT at h ⊢;have hn:numsT t=true:=by
  cases e:numsT t with
  |true=>rfl
  |false=>rw[e]at h;simp at h
 rw[hn]at h;rw[numsT_ck hn ⟨by omega,by have:=checkC_lt src dst 6 (tcpB {t with ck:=0} p);omega⟩];exact h
theorem sealT_bytes {src dst:Ad} {t:Sg} {p:By} (h:canT t p.length=0):tcpB (sealT src dst t p) p =
  (twoB t.sport++twoB t.dport++fourS t.seq.toNat++fourS t.ack.toNat ++ [80,loB t.flags]++twoB t.window)++(twoB (checkC src dst 6 ((twoB t.sport++twoB t.dport++fourS t.seq.toNat++fourS t.ack.toNat ++ [80,loB t.flags]++twoB t.window)++([0,0]++(twoB t.urgent++p))):Nat)++(twoB t.urgent++p)):=by
 unfold sealT;rw[if_neg (by rw[h];omega)];have e:tcpB {t with ck:=0} p=(twoB t.sport++twoB t.dport++fourS t.seq.toNat++fourS t.ack.toNat ++ [80,loB t.flags]++twoB t.window)++([0,0]++(twoB t.urgent++p)):=by
  simp only[tcpB,List.append_assoc];rfl
 rw[e];simp only[tcpB,List.append_assoc]
theorem seal_fine {src dst:Ad} (hs:okA src) (hd:okA dst) {t:Sg} {p:By} (h:canT t p.length=0) (hp:okB p):fineC src dst 6 (tcpB (sealT src dst t p) p)=true:=by
 rw[sealT_bytes h];refine fine_put hs hd (by decide) _ _ (by simp[twoB,fourS]) ?_ (okB.app twoB_lt hp);have h2:okB [80,loB t.flags]:=by
  intro x hx;simp at hx;rcases hx with rfl|rfl
  ·omega
  ·exact loB_lt _
 exact okB.app (okB.app (okB.app (okB.app (okB.app twoB_lt twoB_lt) fourS_lt) fourS_lt) h2) twoB_lt
end Go.Proofs.YtgbndaiifbogmaaGreat
namespace Go.Proofs.YtgbndaiifbogmaaGreat
open Go.RowKit Go.Maps
structure En where
 fl:Fl
 kind:Int
 first:Int
 floor:Int
 passed:Int
 til:Int
 st:Int
 cf:Int
 co:Int
 cn:Int
 cs:Int
 cg:Int
 cm:Int
deriving DecidableEq,Inhabited
@[reducible] def arrN (e:En):Array Value:=#[.int .u8 e.fl.src.a0,.int .u8 e.fl.src.a1,.int .u8 e.fl.src.a2,.int .u8 e.fl.src.a3,.int .u8 e.fl.src.a4,.int .u8 e.fl.src.a5,.int .u8 e.fl.src.a6,.int .u8 e.fl.src.a7,.int .u8 e.fl.src.a8,.int .u8 e.fl.src.a9,.int .u8 e.fl.src.a10,.int .u8 e.fl.src.a11,.int .u8 e.fl.src.a12,.int .u8 e.fl.src.a13,.int .u8 e.fl.src.a14,.int .u8 e.fl.src.a15,.int .i64 e.fl.sport,.int .u8 e.fl.dst.a0,.int .u8 e.fl.dst.a1,.int .u8 e.fl.dst.a2,.int .u8 e.fl.dst.a3,.int .u8 e.fl.dst.a4,.int .u8 e.fl.dst.a5,.int .u8 e.fl.dst.a6,.int .u8 e.fl.dst.a7,.int .u8 e.fl.dst.a8,.int .u8 e.fl.dst.a9,.int .u8 e.fl.dst.a10,.int .u8 e.fl.dst.a11,.int .u8 e.fl.dst.a12,.int .u8 e.fl.dst.a13,.int .u8 e.fl.dst.a14,.int .u8 e.fl.dst.a15,.int .i64 e.fl.dport,.int .i64 e.kind,.int .u32 e.first,.int .i64 e.floor,.int .i64 e.passed,.int .i64 e.til,.int .i64 e.st,.int .u32 e.cf,.int .u32 e.co,.int .u32 e.cn,.int .u32 e.cs,.int .i64 e.cg,.int .u32 e.cm]
@[reducible] def arrN0:Array Value:=#[.int .u8 0,.int .u8 0,.int .u8 0,.int .u8 0,.int .u8 0,.int .u8 0,.int .u8 0,.int .u8 0,.int .u8 0,.int .u8 0,.int .u8 0,.int .u8 0,.int .u8 0,.int .u8 0,.int .u8 0,.int .u8 0,.int .i64 0,.int .u8 0,.int .u8 0,.int .u8 0,.int .u8 0,.int .u8 0,.int .u8 0,.int .u8 0,.int .u8 0,.int .u8 0,.int .u8 0,.int .u8 0,.int .u8 0,.int .u8 0,.int .u8 0,.int .u8 0,.int .u8 0,.int .i64 0,.int .i64 0,.int .u32 0,.int .i64 0,.int .i64 0,.int .i64 0,.int .i64 0,.int .u32 0,.int .u32 0,.int .u32 0,.int .u32 0,.int .i64 0,.int .u32 0]
def restN (e:En):List Value:=[.int .i64 e.kind,.int .u32 e.first,.int .i64 e.floor,.int .i64 e.passed,.int .i64 e.til,.int .i64 e.st,.int .u32 e.cf,.int .u32 e.co,.int .u32 e.cn,.int .u32 e.cs,.int .i64 e.cg,.int .u32 e.cm]
def encN (e:En):List Value:=encF e.fl++restN e
theorem arrN_list (e:En):(arrN e).toList=encN e:=rfl
theorem infN {e:En}:(Tryz.prog.info? 108).map (·.size)=some (arrN e).size:=by
 show _=some 46;kernel_rfl
theorem rgN_fl {w:World} {b o:Nat} {e:En} (h:w.rangeAt b o (arrN e).toList):w.rangeAt b o (arrF e.fl).toList:=fun j u hu=>by
 have hj:j<34:=(List.getElem?_eq_some_iff.1 hu).1;refine h j u ?_;rw[arrN_list];unfold encN;rw[List.getElem?_append_left (by rw[encF_len];exact hj)];exact hu
def eN0:En:=⟨⟨⟨0,0,0,0,0,0,0,0,0,0,0,0,0,0,0,0⟩,0,⟨0,0,0,0,0,0,0,0,0,0,0,0,0,0,0,0⟩,0⟩,0,0,0,0,0,0,0,0,0,0,0,0⟩
structure TC where
 n:Int
 now:Int
 last:Int
 l:List (En×Int)
abbrev flC (p:En×Int):Fl:=p.1.fl
def getC (c:TC) (f:Fl):Option (En×Int):=c.l.find? fun p=>decide (flC p=f)
def dropL (l:List (En×Int)) (f:Fl):List (En×Int):=l.filter fun p=>!decide (flC p=f)
def dropC (c:TC) (f:Fl):TC:={c with l:=dropL c.l f}
def hasC (c:TC) (f:Fl):Bool:=(getC c f).isSome
def putC (c:TC) (e:En):TC×Bool:=
 if e.kind≠1∧e.kind≠2 then (c,false) else if hasC c e.fl=false∧c.n≤c.l.length then (c,false) else (⟨c.n,c.now,c.last+1,dropL c.l e.fl ++ [(e,c.last+1)]⟩,true)
structure CI (K:Nat) (c:TC):Prop where
 nd:(c.l.map flC).Nodup
 no:(c.l.map (·.2)).Nodup
 lo:∀p∈c.l,1≤p.2∧p.2≤c.last
 ok:∀p∈c.l,okF (flC p)
 len:(c.l.length:Int)≤c.n
 la:0≤c.last∧c.last≤K
 nw:0≤c.now∧c.now≤K
 n1:1≤c.n∧c.n≤64
theorem getC_some {c:TC} {f:Fl} {p:En×Int} (h:getC c f=some p):p∈c.l∧flC p=f:=⟨List.mem_of_find?_eq_some h,by have:=List.find?_some h;simpa using this⟩
theorem getC_none {c:TC} {f:Fl} (h:getC c f=none):∀p∈c.l,flC p≠f:=fun p hp=>by
 have:=List.find?_eq_none.1 h p hp;simpa using this
theorem find_nodup {α β:Type} [DecidableEq β] {g:α→β}:∀{l:List α},(l.map g).Nodup→∀{x:α},x∈l→∀{b:β},g x=b→l.find? (fun y=>decide (g y=b))=some x
 |[],_,x,hx,_,_=>by simp at hx
 |a::l,hn,x,hx,b,hb=>by
  rw[List.map_cons,List.nodup_cons]at hn;rw[List.find?_cons];by_cases ha:g a=b
  ·rw[decide_eq_true ha];rcases List.mem_cons.1 hx with rfl|hx
   ·rfl
   ·exact absurd (List.mem_map.2 ⟨x,hx,hb.trans ha.symm⟩) hn.1
  ·rw[decide_eq_false ha];rcases List.mem_cons.1 hx with rfl|hx
   ·exact absurd hb ha
   ·exact find_nodup hn.2 hx hb
theorem CI.get {K:Nat} {c:TC} (h:CI K c) {p:En×Int} (hp:p∈c.l):getC c (flC p)=some p:=find_nodup h.nd hp rfl
theorem CI.same {K:Nat} {c:TC} (h:CI K c) {p q:En×Int} (hp:p∈c.l) (hq:q∈c.l) (e:flC p=flC q):p=q:=by
 have h1:=h.get hp;rw[e,h.get hq]at h1;injection h1 with h1;exact h1.symm
theorem CI.mono {K K':Nat} {c:TC} (h:CI K c) (hK:K≤K'):CI K' c:=⟨h.nd,h.no,h.lo,h.ok,h.len,by have:=h.la;omega,by have:=h.nw;omega,h.n1⟩
theorem mem_dropL {l:List (En×Int)} {f:Fl} {p:En×Int}:p∈dropL l f↔p∈l∧flC p≠f:=by simp[dropL]
theorem drop_none {c:TC} {f:Fl} (h:getC c f=none):dropC c f=c:=by
 unfold dropC dropL;rw[List.filter_eq_self.2 (fun p hp=>by simpa using getC_none h p hp)]
theorem CI.filter {K:Nat} {c:TC} (h:CI K c) (P:En×Int→Bool):CI K {c with l:=c.l.filter P} where
 nd:=h.nd.sublist ((List.filter_sublist).map _)
 no:=h.no.sublist ((List.filter_sublist).map _)
 lo:=fun p hp=>h.lo p (List.mem_filter.1 hp).1
 ok:=fun p hp=>h.ok p (List.mem_filter.1 hp).1
 len:=by have:=List.length_filter_le P c.l;have:=h.len;simp only;omega
 la:=h.la
 nw:=h.nw
 n1:=h.n1
theorem CI.drop {K:Nat} {c:TC} (h:CI K c) (f:Fl):CI K (dropC c f):=h.filter _
theorem drop_len {l:List (En×Int)} (hn:(l.map flC).Nodup) (f:Fl):(dropL l f).length=if (l.find? fun p=>decide (flC p=f)).isSome then l.length-1 else l.length:=by
 induction l with
 |nil=>rfl
 |cons a l ih=>
  rw[List.map_cons,List.nodup_cons]at hn;unfold dropL at *;rw[List.filter_cons,List.find?_cons];by_cases ha:flC a=f
  ·rw[decide_eq_true ha];have:l.filter (fun p=>!decide (flC p=f))=l:=List.filter_eq_self.2 (fun p hp=>by
    have:flC p≠f:=fun e=>hn.1 (List.mem_map.2 ⟨p,hp,e.trans ha.symm⟩)
    simpa using this)
   simp[this]
  ·rw[decide_eq_false ha];have:=ih hn.2;simp only[Bool.not_false,if_true,List.length_cons];rw[this];split
   ·next hh=>
    cases l with
    |nil=>simp at hh
    |cons b l=>simp
   ·rfl
theorem CI.put {K:Nat} {c:TC} (h:CI K c) {e:En} (he:okF e.fl) (hr:hasC c e.fl=true∨(c.l.length:Int)<c.n):CI (K+1) ⟨c.n,c.now,c.last+1,dropL c.l e.fl ++ [(e,c.last+1)]⟩:=by
 have hd:=h.drop e.fl;refine⟨?_,?_,fun p hp=>?_,fun p hp=>?_,?_,by have:=h.la;simp only;omega,by have:=h.nw;simp only;omega,h.n1⟩
 ·simp only[List.map_append];refine List.nodup_append.2 ⟨hd.nd,by simp,fun a ha b hb e'=>?_⟩;simp[flC]at hb;obtain⟨p,hp,rfl⟩:=List.mem_map.1 ha;exact (mem_dropL.1 hp).2 (e'.trans hb)
 ·simp only[List.map_append];refine List.nodup_append.2 ⟨hd.no,by simp,fun a ha b hb e'=>?_⟩;simp at hb;obtain⟨p,hp,rfl⟩:=List.mem_map.1 ha;have:=(h.lo p (mem_dropL.1 hp).1).2;omega
 ·simp only at hp ⊢;rcases List.mem_append.1 hp with hp|hp
  ·have:=h.lo p (mem_dropL.1 hp).1;omega
  ·simp at hp;subst hp;have:=h.la;simp only;omega
 ·rcases List.mem_append.1 hp with hp|hp
  ·exact h.ok p (mem_dropL.1 hp).1
  ·simp at hp;subst hp;exact he
 ·simp only[List.length_append,List.length_singleton];rw[drop_len h.nd];have hl:=h.len;rcases hr with hr|hr
  ·unfold hasC getC at hr;rw[if_pos hr];have:0<c.l.length:=by
    rw[Option.isSome_iff_exists]at hr;obtain⟨p,hp⟩:=hr;exact List.length_pos_of_mem (List.mem_of_find?_eq_some hp)
   omega
  ·split<;>omega
def mE (l:List (En×Int)):Fl→Option Value:=fun f=>(l.find? fun p=>decide (flC p=f)).map fun p=>.agg (arrN p.1)
def mN (l:List (En×Int)):Fl→Option Value:=fun f=>(l.find? fun p=>decide (flC p=f)).map fun p=>.int .i64 p.2
def mF (l:List (En×Int)):Int→Option Value:=fun n=>(l.find? fun p=>decide (p.2=n)).map fun p=>p.1.fl.v
theorem find_filter {α β:Type} [DecidableEq β] (g:α→β) (b x:β) (P:α→Bool) (hP:∀a,P a=!decide (g a=b)):∀l:List α,(l.filter P).find? (fun a=>decide (g a=x))=if x=b then none else l.find? fun a=>decide (g a=x)
 |[]=>by simp
 |a::l=>by
  have ih:=find_filter g b x P hP l;rw[List.filter_cons,hP a];by_cases ha:g a=b
  ·rw[decide_eq_true ha];simp only[Bool.not_true,Bool.false_eq_true,if_false];rw[ih];by_cases hx:x=b
   ·rw[if_pos hx,if_pos hx]
   ·rw[if_neg hx,if_neg hx,List.find?_cons,decide_eq_false (fun e=>hx (e.symm.trans ha))]
  ·rw[decide_eq_false ha];simp only[Bool.not_false,if_true];rw[List.find?_cons,List.find?_cons,ih];by_cases hx:x=b
   ·rw[if_pos hx,if_pos hx,decide_eq_false (fun e=>ha (e.trans hx))]
   ·rw[if_neg hx,if_neg hx]
theorem mE_drop (l:List (En×Int)) (f:Fl):mE (dropL l f)=fun g=>if g=f then none else mE l g:=by
 funext g;unfold mE dropL;rw[find_filter flC f g _ (fun _=>rfl)];split<;>rfl
theorem mN_drop (l:List (En×Int)) (f:Fl):mN (dropL l f)=fun g=>if g=f then none else mN l g:=by
 funext g;unfold mN dropL;rw[find_filter flC f g _ (fun _=>rfl)];split<;>rfl
theorem drop_no {K:Nat} {c:TC} (h:CI K c) {p:En×Int} (hp:p∈c.l):dropL c.l (flC p)=c.l.filter fun q=>!decide (q.2=p.2):=by
 unfold dropL;refine List.filter_congr fun q hq=>?_
 congr 1;by_cases e:flC q=flC p
 ·have:=h.same hq hp e;subst this;simp
 ·have:q.2≠p.2:=fun e2=>e (by
   have h1:=find_nodup h.no hq (b:=p.2) e2;rw[find_nodup h.no hp (b:=p.2) rfl]at h1;injection h1 with h1;rw[h1])
  simp[e,this]
theorem mF_drop {K:Nat} {c:TC} (h:CI K c) {p:En×Int} (hp:p∈c.l):mF (dropL c.l (flC p))=fun n=>if n=p.2 then none else mF c.l n:=by
 funext n;rw[drop_no h hp];unfold mF;rw[find_filter (fun q:En×Int=>q.2) p.2 n _ (fun _=>rfl)];split<;>rfl
theorem find_snoc {α β:Type} [DecidableEq β] (g:α→β) (l:List α) (a:α) (hn:∀y∈l,g y≠g a) (x:β):(l ++ [a]).find? (fun y=>decide (g y=x))=if x=g a then some a else l.find? fun y=>decide (g y=x):=by
 rw[List.find?_append];by_cases hx:x=g a
 ·rw[if_pos hx];have:l.find? (fun y=>decide (g y=x))=none:=by
   rw[List.find?_eq_none];intro y hy;simpa using fun e=>hn y hy (e.trans hx)
  rw[this];simp[hx]
 ·rw[if_neg hx];have:([a]:List α).find? (fun y=>decide (g y=x))=none:=by simp[show ¬g a=x from fun e=>hx e.symm]
  rw[this];simp
theorem mE_put {c:TC} {e:En} (no:Int):mE (dropL c.l e.fl ++ [(e,no)])=fun g=>if g=e.fl then some (.agg (arrN e)) else mE (dropL c.l e.fl) g:=by
 funext g;unfold mE;rw[find_snoc flC _ (e,no) (fun y hy=>(mem_dropL.1 hy).2)];split<;>rfl
theorem mN_put {c:TC} {e:En} (no:Int):mN (dropL c.l e.fl ++ [(e,no)])=fun g=>if g=e.fl then some (.int .i64 no) else mN (dropL c.l e.fl) g:=by
 funext g;unfold mN;rw[find_snoc flC _ (e,no) (fun y hy=>(mem_dropL.1 hy).2)];split<;>rfl
theorem mF_put {K:Nat} {c:TC} (h:CI K c) {e:En}:mF (dropL c.l e.fl ++ [(e,c.last+1)])=fun n=>if n=c.last+1 then some e.fl.v else mF (dropL c.l e.fl) n:=by
 funext n;unfold mF;rw[find_snoc (fun q:En×Int=>q.2) _ (e,c.last+1) (fun y hy e'=>by have:=(h.lo y (mem_dropL.1 hy).1).2;simp only at e';omega)];split<;>rfl
end Go.Proofs.YtgbndaiifbogmaaGreat
namespace Go.Proofs.YtgbndaiifbogmaaGreat
open Go.RowKit Go.Maps
theorem is_oct_big (A:Option Addr) (n c at_ m:Nat) (w:World) (h:at_+m≤n) (hn:n≤9223372036854775807) :
  Calls Tryz.prog 162 #[.slice A n c,.int .i64 at_,.int .i64 m] w fun e w'=>e=.returned (.bool true)∧w=w':=by
 have h1:(0:Int)≤(at_:Int):=by omega
 have h2:(0:Int)≤(m:Int):=by omega
 have h3:(at_:Int)≤(n:Int):=by omega
 have h4:(m:Int)≤(n:Int)-(at_:Int):=by omega
 have hw:IntKind.i64.wrap ((n:Int)-(at_:Int))=(n:Int)-(at_:Int):=by rw[IntKind.wrap_i64];omega
 clear h hn;go_enter Tryz.func162,Tryz.ntmps162
 go_wp2
 go_ret
 exact⟨rfl,rfl⟩
theorem is_oct (A:Option Addr) (n c at_ m:Nat) (w:World) (h:at_+m≤n) (hn:n≤1000000):Calls Tryz.prog 162 #[.slice A n c,.int .i64 at_,.int .i64 m] w fun e w'=>e=.returned (.bool true)∧w=w':=is_oct_big A n c at_ m w h (by omega)
theorem piece_big {w:World} {A:Option Addr} {n c B:Nat} {l:By} (h:SlY w B (.slice A n c) l) {at_ m:Nat} (hm:at_+m≤l.length) (hn:l.length≤9223372036854775807) :
  ∃X,(∀W:World,Calls Tryz.prog 163 #[.slice A n c,.int .i64 at_,.int .i64 m] W fun e w'=>e=.returned (.slice X m m)∧W=w')∧SlY w B (.slice X m m) ((l.drop at_).take m):=by
 obtain⟨X,hX,hs⟩:=cutY3 h (lo:=at_) (hi:=at_+m) (by omega) hm;have e:at_+m-at_=m:=by omega
 rw[e]at hs;refine⟨X,fun W=>?_,hs⟩;have hr:=hX W;rw[e,Int.natCast_add]at hr;have hw:IntKind.i64.wrap ((at_:Int)+(m:Int))=(at_:Int)+(m:Int):=by rw[IntKind.wrap_i64];omega
 clear hX hs h hm hn;go_enter Tryz.func163,Tryz.ntmps163
 go_wp2_with fail;go_ret
 exact⟨rfl,rfl⟩
theorem or_i64 {x y:Nat} (hx:x≤255) (hy:y≤255):bits .or .i64 ((x:Int)*256) (y:Int)=((x*256+y:Nat):Int):=by
 have e:((x:Int)*256)=((x*256:Nat):Int):=by omega
 rw[e];have h1:(BitVec.ofInt 64 ((x*256:Nat):Int)).toNat=x*256:=by
  rw[BitVec.ofInt_natCast,BitVec.toNat_ofNat];exact Nat.mod_eq_of_lt (by omega)
 have h2:(BitVec.ofInt 64 (y:Int)).toNat=y:=by
  rw[BitVec.ofInt_natCast,BitVec.toNat_ofNat];exact Nat.mod_eq_of_lt (by omega)
 show IntKind.i64.wrap ((BitVec.ofInt 64 ((x*256:Nat):Int) ||| BitVec.ofInt 64 (y:Int)).toNat:Int)=_;rw[BitVec.toNat_or,h1,h2,nat_join 8 (x*256) y (by omega) (by omega),IntKind.wrap_i64];omega
theorem or_u32 {x y:Nat} (hx:x<16777216) (hy:y≤255):bits .or .u32 ((x:Int)*256) (y:Int)=((x*256+y:Nat):Int):=by
 have e:((x:Int)*256)=((x*256:Nat):Int):=by omega
 rw[e,u32_or_nat (x*256) y (by omega) (by omega),nat_join 8 (x*256) y (by omega) (by omega)]
theorem u16_big {w:World} {v:Value} {B:Nat} {l:By} (h:SlY w B v l) (hb:okB l) (hn:l.length≤9223372036854775807) {at_:Nat} (ha:at_+2≤l.length) :
  Calls Tryz.prog 103 #[v,.int .i64 at_] w fun e w'=>e=.returned (.tuple #[.int .i64 (w2 l at_),.bool true])∧Chg [] w w':=by
 obtain⟨A,c,rfl⟩:=h.form;have F1:=zH (is_oct_big A l.length c at_ 2 w ha hn);obtain⟨X,hF2,hs⟩:=piece_big h (m:=2) ha hn;have F2:=zH (hF2 w);have hl:((l.drop at_).take 2).length=2:=by simp;omega
 obtain⟨b,o,c',e,_,_,hc⟩:=hs.all (by omega);simp only[Value.slice.injEq]at e;obtain⟨rfl,e2,rfl⟩:=e;clear e2;have c0:=hc 0 (by omega);have c1:=hc 1 (by omega);rw[gB_take (by omega),gB_drop]at c0 c1;have h0:=gB_lt hb at_;have h1:=gB_lt hb (at_+1)
 have ho:Hid (bits .or .i64 ((gB l at_:Int)*256) (gB l (at_+1):Int)=(w2 l at_:Nat)):=zH (or_i64 (by omega) (by omega));have ho':=ho.out;have hw:IntKind.i64.wrap ((gB l at_:Int)*256)=(gB l at_:Int)*256:=by rw[IntKind.wrap_i64];omega
 simp only[byV,Nat.add_zero]at c0 c1;generalize gB l at_=x0 at *;generalize gB l (at_+1)=x1 at *;generalize w2 l at_=y at *;have HI:=zH (And.intro c0 (And.intro c1 (And.intro ho' hw)));clear hF2 hs hc ha hn hb h hl c0 c1 ho ho' hw;go_enter Tryz.func103,Tryz.ntmps103
 go_wp2_with fail;refine F1.out.mono ?_;rintro e w1 ⟨rfl,rfl⟩;go_wp2_with fail;refine F2.out.mono ?_;rintro e w1 ⟨rfl,rfl⟩;clear F1 F2;go_upto_region 4 with fail
 obtain⟨c0,c1,ho',hw⟩:=HI.out;clear HI;go_quiet (fail)
 go_wp2_with fail;go_ret2
 exact⟨rfl,(Chg.refl _ _).drewN _⟩
theorem u16_any {w:World} {v:Value} {B:Nat} {l:By} (h:SlY w B v l) (hb:okB l) (hn:l.length≤1000000) {at_:Nat} (ha:at_+2≤l.length):Calls Tryz.prog 103 #[v,.int .i64 at_] w fun e w'=>e=.returned (.tuple #[.int .i64 (w2 l at_),.bool true])∧Chg [] w w':=u16_big h hb (by omega) ha
def val32 (l:By):Nat:=l.foldl (fun n c=>n*256+c) 0
theorem val32_w4 {l:By} {i:Nat} (h:i+4≤l.length):val32 ((l.drop i).take 4)=w4 l i:=by
 have e:(l.drop i).take 4=[gB l i,gB l (i+1),gB l (i+2),gB l (i+3)]:=by
  apply List.ext_getElem?;intro j;by_cases hj:j<4
  ·rw[List.getElem?_take,if_pos hj,List.getElem?_drop,gB_some (by omega)];have:j=0∨j=1∨j=2∨j=3:=by omega
   rcases this with rfl|rfl|rfl|rfl<;>rfl
  ·rw[List.getElem?_eq_none (by simp;omega),List.getElem?_eq_none (by simp;omega)]
 rw[e];simp[val32,w4,w2,Nat.add_assoc];omega
theorem u32_big {w:World} {v:Value} {B:Nat} {l:By} (h:SlY w B v l) (hb:okB l) (hn:l.length≤9223372036854775807) {at_:Nat} (ha:at_+4≤l.length) :
  Calls Tryz.prog 104 #[v,.int .i64 at_] w fun e w'=>e=.returned (.tuple #[.int .u32 (w4 l at_),.bool true])∧Chg [] w w':=by
 obtain⟨A,c,rfl⟩:=h.form;have F1:=zH (is_oct_big A l.length c at_ 4 w ha hn);obtain⟨X,hF2,hs⟩:=piece_big h (m:=4) ha hn;have F2:=zH (hF2 w);have hl:((l.drop at_).take 4).length=4:=by simp;omega
 have hv:=val32_w4 ha;have hb4:okB ((l.drop at_).take 4):=(hb.drop _).take _;generalize (l.drop at_).take 4=m at *;obtain⟨b,o,c',e,_,_,hc⟩:=hs.all (by omega);simp only[Value.slice.injEq]at e;obtain⟨rfl,e2,rfl⟩:=e;clear e2
 have HV:Hid (∀k,k<4→val32 (m.take k)<16777216∧val32 (m.take (k+1))=val32 (m.take k)*256+gB m k∧gB m k≤255):=zH (by
  match m,hl with
  |[x0,x1,x2,x3],_=>
   have b0:=hb4 x0 (by simp);have b1:=hb4 x1 (by simp);have b2:=hb4 x2 (by simp);have b3:=hb4 x3 (by simp)
   intro k hk;have:k=0∨k=1∨k=2∨k=3:=by omega
   rcases this with rfl|rfl|rfl|rfl<;>simp[val32,gB]<;>omega)
 have HC:Hid (∀i,i<4→w.cell? ⟨b,o+i,none⟩=some (byV (gB m i))):=zH (fun i hi=>hc i (by omega));have H4:Hid (val32 (m.take 4)=w4 l at_):=zH (by rw[←hl,List.take_length,hv]);clear hF2 hs hc ha hn hb h hl hv hb4;generalize w4 l at_=r at *;go_enter Tryz.func104,Tryz.ntmps104
 go_wp2_with fail;refine F1.out.mono ?_;rintro e w1 ⟨rfl,rfl⟩;go_wp2_with fail;refine F2.out.mono ?_;rintro e w1 ⟨rfl,rfl⟩;clear F1 F2;go_wp2_with fail;go_loop [6,8,17] (fun nv cv iv=>∃k:Nat,k≤4∧iv=.int .i64 k∧nv=.int .u32 (val32 (m.take k))) (fun _ _ iv=>4-(intOf iv).toNat)
 case atStart=>exact⟨0,by omega,rfl,by simp[val32]⟩
 case round=>
  obtain⟨k,hk,rfl,rfl⟩:=hrel;by_cases hlt:k<4
  ·obtain⟨v1,v2,c1⟩:=HV.out k hlt;have hck:=HC.out k hlt;unfold byV at hck;have V2:=zH v2;clear v2 HV HC H4;generalize val32 (m.take k)=n at *;generalize gB m k=c at *;have hw1:IntKind.u32.wrap ((n:Int)*256)=(n:Int)*256:=by rw[IntKind.wrap_u32'];omega
   have hb:=or_u32 v1 c1;have hkI:(k:Int)<4:=by omega
   go_wp2_with fail;go_round
   case rel=>exact⟨k+1,by omega,by go_num,by rw[V2.out];push_cast;rfl⟩
   case measure=>simp[intOf];omega
  ·obtain rfl:k=4:=by omega
   have h4:=H4.out;clear HV HC H4;generalize val32 (m.take 4)=q at *;subst h4;go_wp2_with fail;go_ret2
   exact⟨rfl,Chg.refl _ _⟩
theorem u32_any {w:World} {v:Value} {B:Nat} {l:By} (h:SlY w B v l) (hb:okB l) (hn:l.length≤1000000) {at_:Nat} (ha:at_+4≤l.length):Calls Tryz.prog 104 #[v,.int .i64 at_] w fun e w'=>e=.returned (.tuple #[.int .u32 (w4 l at_),.bool true])∧Chg [] w w':=u32_big h hb (by omega) ha
end Go.Proofs.YtgbndaiifbogmaaGreat
namespace Go.Proofs.YtgbndaiifbogmaaGreat
open Go.RowKit
structure QU (w:World) (q:Nat) (vs:Value) (sq:Int) (l:List It):Prop where
 r:QR w q vs sq l
 ok:Heap.OK ltI l
theorem QU.chg {w w':World} {q:Nat} {vs:Value} {sq:Int} {l:List It} {S:List Nat} (h:QU w q vs sq l) (hc:Chg S w w') (hS:∀x∈footQ q vs,x∉S):QU w' q vs sq l:=⟨h.r.chg hc hS,h.ok⟩
theorem QU.chg0 {w w':World} {q:Nat} {vs:Value} {sq:Int} {l:List It} (h:QU w q vs sq l) (hc:Chg [] w w'):QU w' q vs sq l:=⟨h.r.chg0 hc,h.ok⟩
theorem QR.form {w:World} {q:Nat} {vs:Value} {sq:Int} {l:List It} (h:QR w q vs sq l):∃A c,vs=.slice A l.length c:=Sl.form (Sl.of_own h.own)
theorem qnew_any (w:World):Calls Tryz.prog 111 #[] w fun e w'=>∃q,e=.returned (.pointer (some ⟨q,0,none⟩))∧QU w' q (.slice none 0 0) 0 []∧Chg [] w w'∧w.heap.size≤q:=by
 go_enter Tryz.func111,Tryz.ntmps111
 go_wp2
 go_ret
 exact⟨_,rfl,⟨⟨Blk.new _ _ _,World.ownsRow_nil ..,by simp[Value.ownBlock]⟩,Heap.OK.nil⟩,(Chg.refl _ _).alloc _,Nat.le_refl _⟩
theorem qis_any {w:World} {q:Nat} {vs:Value} {sq:Int} {l:List It} (h:QR w q vs sq l):Calls Tryz.prog 290 #[.pointer (some ⟨q,0,none⟩)] w fun e w'=>e=.returned (.bool true)∧w=w':=by
 have c0:w.cell? ⟨q,0,none⟩=some (.bool true):=h.blk.cell 0;clear h;go_enter Tryz.func290,Tryz.ntmps290
 go_wp2
 go_ret
 exact⟨rfl,rfl⟩
theorem qlen_any {w:World} {q:Nat} {vs:Value} {sq:Int} {l:List It} (h:QR w q vs sq l):Calls Tryz.prog 256 #[.pointer (some ⟨q,0,none⟩)] w fun e w'=>e=.returned (.int .i64 l.length)∧w=w':=by
 have F1:=zH (qis_any h);obtain⟨A,c,rfl⟩:=h.form;have c1:w.cell? ⟨q,1,none⟩=some (.slice A l.length c):=h.blk.cell 1;clear h;go_enter Tryz.func256,Tryz.ntmps256
 go_wp2_with fail;refine F1.out.mono ?_;rintro e w1 ⟨rfl,rfl⟩;go_wp2_with fail;go_ret
 exact⟨rfl,rfl⟩
theorem push_any {w:World} {q:Nat} {vs:Value} {sq:Int} {l:List It} (h:QU w q vs sq l) (hl:l.length≤2900) (x:It) :
  Calls Tryz.prog 294 #[.iface 301 (.pointer (some ⟨q,1,none⟩)),x.v] w fun e w'=>e=.returned (.tuple #[])∧Turned w q vs sq (fun l'=>l'.Perm (x::l)) w':=by
 have hA:=(Chg.refl [] w).alloc (.cells (arrI x) 299);have F1:=zH (hpush_any (h.r.chg0 hA) h.ok hl x);have HA:=zH hA;clear h hA;go_enter Tryz.func294,Tryz.ntmps294
 go_wp2_with fail;refine F1.out.mono ?_;rintro e w1 ⟨rfl,vs1,l1,h1,h2,h3,h4,h5⟩;go_wp2_with fail;go_end0
 exact⟨rfl,vs1,l1,h1,h2,h3,(HA.out.more (by simp)).trans h4,fun y hy=>(h5 y hy).imp id (fun k=>Nat.le_trans HA.out.size k)⟩
theorem qadd_any {w:World} {q:Nat} {vs:Value} {sq:Int} {l:List It} (h:QU w q vs sq l) (hl:l.length≤2900) (hs0:0≤sq) (hs1:sq≤1000000) (at_ id:Int) :
  Calls Tryz.prog 268 #[.pointer (some ⟨q,0,none⟩),.int .i64 at_,.int .i64 id] w fun e w'=>e=.returned (.tuple #[])∧Turned w q vs (sq+1) (fun l'=>l'.Perm (⟨at_,id,sq+1⟩::l)) w':=by
 have F1:=zH (qis_any h.r);have c2:w.cell? ⟨q,2,none⟩=some (.int .i64 sq):=h.r.blk.cell 2;have f2:w.frozen? ⟨q,2,none⟩=false:=h.r.blk.frozen 2;have hql:=h.r.blk.lt;have hc1:Chg [q] w (w.setCell ⟨q,2,none⟩ (.int .i64 (sq+1))):=(Chg.refl _ _).setCell (.inl (by simp)) _
 have h1:QU (w.setCell ⟨q,2,none⟩ (.int .i64 (sq+1))) q vs (sq+1) l:=⟨⟨h.r.blk.set_ 2 _,own_chg h.r.own hc1 (fun y hy hm=>by simp at hm;subst hm;exact h.r.far hy),h.r.far⟩,h.ok⟩;have H1:=zH h1
 have F2:=zH (fun W (hc:Chg [] (w.setCell ⟨q,2,none⟩ (.int .i64 (sq+1))) W)=>push_any (h1.chg0 hc) hl ⟨at_,id,sq+1⟩);have k2:=fun W (hc:Chg [] (w.setCell ⟨q,2,none⟩ (.int .i64 (sq+1))) W)=>(show W.cell? ⟨q,2,none⟩=some (.int .i64 (sq+1)) from (h1.r.blk.chg hc (by simp)).cell 2)
 have K2:=zH k2;have HC1:=zH hc1;clear h h1 hc1 k2;go_enter Tryz.func268,Tryz.ntmps268
 go_wp2_with fail;refine F1.out.mono ?_;rintro e w1 ⟨rfl,rfl⟩;clear F1;go_wp2_with fail;have k3:=K2.out _ (Chg.refl _ _);generalize w.setCell ⟨q,2,none⟩ (.int .i64 (sq+1))=w1 at *;clear c2 f2 hql H1;go_still_tail 11,(by kernel_rfl)
 change wpList _ _ _ _ _ w1.drew;have F3:=zH (F2.out w1.drew (Chg.refl [] w1).drew);clear F2 K2 k3;go_wp2_with fail;refine F3.out.mono ?_;rintro e w2 ⟨rfl,vs1,l1,h1,h2,h3,h4,h5⟩;go_wp2_with fail;go_end0
 have hsz:=HC1.out.size;exact⟨rfl,vs1,l1,h1,h2,h3,(HC1.out.more (by simp[footQ])).trans ((Chg.refl _ _).drew.trans h4),fun y hy=>(h5 y hy).imp (fun k=>k) (fun k=>Nat.le_trans hsz k)⟩
def RemPost (w:World) (q:Nat) (vs:Value) (sq:Int) (l:List It) (id:Int) (e:Ending) (w':World):Prop:=(∃n:Int,e=.returned (.int .i64 n))∧Turned w q vs sq (fun l'=>l'.Perm (stayI id l)) w'
theorem qrem_any {w:World} {q:Nat} {vs:Value} {sq:Int} {l:List It} (h:QU w q vs sq l) (hl:l.length≤2900) (id:Int) :
  Calls Tryz.prog 205 #[.pointer (some ⟨q,0,none⟩),.int .i64 id] w (RemPost w q vs sq l id):=by
 have hA:=(Chg.refl [] w).alloc (.cells #[.int .i64 id] 3);have HP:Hid (∀e w',RemPost w q vs sq l id e w'=((∃n:Int,e=.returned (.int .i64 n))∧Turned w q vs sq (fun l'=>l'.Perm (stayI id l)) w')):=zH fun _ _=>rfl
 have h1:=h.chg0 hA;have F1:=zH (qlen_any h1.r);rcases Nat.eq_zero_or_pos l.length with h0|h0
 ·obtain rfl:l=[]:=List.eq_nil_of_length_eq_zero h0;have H1:=zH h1;have HA:=zH hA;clear h h1 hA h0 hl;go_enter Tryz.func205,Tryz.ntmps205
  go_wp2_with fail;refine F1.out.mono ?_;rintro e w1 ⟨rfl,rfl⟩;go_wp2_with fail;go_ret
  rw[HP.out];exact⟨⟨_,rfl⟩,vs,[],H1.out.r,H1.out.ok,List.Perm.refl _,HA.out.more (by simp),fun y hy=>.inl hy⟩
 ·have hne:l≠[]:=by intro e;subst e;simp at h0
  obtain⟨g,cap,rfl,hq⟩:=h1.r.hq hne;have hbx:(w.alloc (.cells #[.int .i64 id] 3)).cell? ⟨w.heap.size,0,none⟩=some (.int .i64 id):=(Blk.new w 3 #[.int .i64 id]).cell 0;have hgx:w.heap.size≠g:=by have:=h.r.lt g (by simp[footQ,Value.ownBlock]);omega
  have F2:=zH (deleteI_any (cap:=cap) id w.heap.size hq.row (by omega) hq.hl rfl hbx hgx);have H1:=zH hq;have HA:=zH hA;have c1:(w.alloc (.cells #[.int .i64 id] 3)).cell? ⟨q,1,none⟩=some (.slice (some ⟨g,0,none⟩) l.length cap):=hq.blk.cell 1;have hl2:=h0
  have hn1:((l.length:Int)==0)=false:=by simp;omega
  have hlb:(l.length:Int)≤3000:=by omega
  have hsl:(stayI id l).length≤l.length:=List.length_filter_le _ _;have hql:=h.r.blk.lt;clear h h1 hA hq hbx hgx hne h0;go_enter Tryz.func205,Tryz.ntmps205
  go_wp2_with fail;refine F1.out.mono ?_;rintro e w1 ⟨rfl,rfl⟩;clear F1;go_wp2_with fail;refine F2.out.mono ?_;rintro e w2 ⟨rfl,hr2,hc2⟩;have hb2:=H1.out.blk.chg hc2 (by simpa using H1.out.qg);have k1:w2.cell? ⟨q,1,none⟩=some (.slice (some ⟨g,0,none⟩) l.length cap):=hb2.cell 1
  have f1:w2.frozen? ⟨q,1,none⟩=false:=hb2.frozen 1;have hql2:=hb2.lt;have hcS:Chg [q] w2 (w2.setCell ⟨q,1,none⟩ (.slice (some ⟨g,0,none⟩) (stayI id l).length cap)):=(Chg.refl _ _).setCell (.inl (by simp)) _
  have hq3:HQ (w2.setCell ⟨q,1,none⟩ (.slice (some ⟨g,0,none⟩) (stayI id l).length cap)) q g (cap*3) cap sq (stayI id l):=
   ⟨hb2.set_ 1 _,hr2.chg hcS (by simpa using fun e=>H1.out.qg e.symm),rfl,by have:=H1.out.hl;omega,H1.out.qg,H1.out.hm⟩
  have F5:=zH (hinit_any hq3 (by omega));have HC3:=zH ((HA.out.more (T:=footQ q (.slice (some ⟨g,0,none⟩) l.length cap)) (by simp)).trans ((hc2.more (by simp[footQ,Value.ownBlock])).trans (hcS.more (by simp[footQ]))));clear F2 H1 c1 hr2 hc2 hb2 hcS hq3;generalize hst:stayI id l=st at *
  generalize hkl:st.length=kl at *;generalize hll:l.length=ll at *;have HG:=zH (And.intro hst (And.intro hkl hll));clear hst hkl hll;go_wp2_with fail;refine F5.out.mono ?_;rintro e w4 ⟨rfl,l3,hq4,hok4,hp4,hc4⟩;have c4:w4.cell? ⟨q,1,none⟩=some (.slice (some ⟨g,0,none⟩) l3.length cap):=hq4.blk.cell 1
  have HH:=zH (And.intro hq4 (And.intro hok4 (And.intro hp4 hc4)));have hl3:l3.length≤3000:=by have:=hp4.length_eq;have:=HG.out.2.1;omega
  clear F5 hq4 hok4 hp4 hc4 k1 f1;go_wp2_with fail;go_ret
  rw[HP.out];obtain⟨hq4,hok4,hp4,hc4⟩:=HH.out;refine⟨⟨_,rfl⟩,_,l3,hq4.qr,hok4,?_,HC3.out.trans (hc4.more (by simp[footQ,Value.ownBlock])),fun y hy=>.inl (by simpa[footQ,Value.ownBlock]using hy)⟩;exact hp4
end Go.Proofs.YtgbndaiifbogmaaGreat
namespace Go.Proofs.YtgbndaiifbogmaaGreat
open Go.ChangeShapes Go.WideShapes Go.ChangeAt Go.RowKit Go.Deep
theorem bytes_in {H:Type} {enc:TypeId×Value→H} {w:World} {v:Value} {d:DataW H} {ps:List MemPlace} (hr:Value.okWide Tryz.prog w .any 0 22 v)
  (h:DataW.Trod enc Tryz.prog w 0 (fun _=>true) true 22 v d ps):∃l:By,SlY w 0 v l∧okB l∧l.length≤9223372036854775807:=by
 obtain⟨A,cap,l,rfl,hs,hm,hw⟩:=open_ints' Tryz.underlying22 Tryz.underlying5 (by kernel_rfl) hr h;have hb:∀x∈l,0≤x∧x≤255:=fun x hx=>by
  have h:=hw x hx;simp[Lit.wf,IntKind.min,IntKind.max,IntKind.signed,IntKind.bits]at h;omega
 have e:(l.map Int.toNat).map byV=l.map (Value.int .u8):=by
  rw[List.map_map];apply List.map_congr_left;intro x hx;have:=hb x hx;show Value.int .u8 ((x.toNat:Nat):Int)=_;rw[Int.toNat_of_nonneg this.1]
 refine⟨l.map Int.toNat,?_,?_,?_⟩
 ·unfold SlY;rw[e,List.length_map];exact hs
 ·intro x hx;obtain⟨y,hy,rfl⟩:=List.mem_map.1 hx;have:=hb y hy;omega
 ·rw[List.length_map];exact Nat.le_trans hm (by decide)
end Go.Proofs.YtgbndaiifbogmaaGreat

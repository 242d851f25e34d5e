/-
  Small laws and walks on the way to LearnReads: PkP, DueQ, PkR, FlowOut, By, DueP. Conditions: each theorem names its own.
-/
import Derived.Test.YtgbndaiifbogmaaGreatY03
import Derived.Test.YtgbndaiifbogmaaGreatY00
import Derived.Test.YtgbndaiifbogmaaGreatY01
set_option linter.unusedVariables false
set_option linter.unusedSimpArgs false
set_option maxRecDepth 100000
set_option maxHeartbeats 8000000
namespace Go.Proofs.YtgbndaiifbogmaaGreat
abbrev By:=List Nat
def okB (l:By):Prop:=∀x∈l,x<256
abbrev Ans (α:Type):=Except Int α
def gB (l:By) (i:Nat):Nat:=l.getD i 0
def w2 (l:By) (i:Nat):Nat:=gB l i*256+gB l (i+1)
def w4 (l:By) (i:Nat):Nat:=w2 l i*65536+w2 l (i+2)
def adAt (l:By) (i:Nat):Ad:=⟨gB l i,gB l (i+1),gB l (i+2),gB l (i+3),gB l (i+4),gB l (i+5),gB l (i+6),gB l (i+7),gB l (i+8),gB l (i+9),gB l (i+10),gB l (i+11),gB l (i+12),gB l (i+13),gB l (i+14),gB l (i+15)⟩
theorem gB_lt {l:By} (h:okB l) (i:Nat):gB l i<256:=by
 unfold gB;rw[List.getD_eq_getElem?_getD];cases e:l[i]? with
 |none=>simp
 |some x=>exact h x (List.mem_of_getElem? e)
theorem gB_some {l:By} {i:Nat} (h:i<l.length):l[i]?=some (gB l i):=by
 unfold gB;rw[List.getD_eq_getElem?_getD,List.getElem?_eq_getElem h];rfl
theorem gB_drop (l:By) (k i:Nat):gB (l.drop k) i=gB l (k+i):=by simp[gB,List.getD_eq_getElem?_getD]
theorem gB_take {l:By} {k i:Nat} (h:i<k):gB (l.take k) i=gB l i:=by simp[gB,List.getD_eq_getElem?_getD,h]
theorem w2_lt {l:By} (h:okB l) (i:Nat):w2 l i<65536:=by
 have:=gB_lt h i;have:=gB_lt h (i+1);unfold w2;omega
theorem w4_lt {l:By} (h:okB l) (i:Nat):w4 l i<4294967296:=by
 have:=w2_lt h i;have:=w2_lt h (i+2);unfold w4;omega
theorem okB.drop {l:By} (h:okB l) (k:Nat):okB (l.drop k):=fun x hx=>h x (List.mem_of_mem_drop hx)
theorem okB.take {l:By} (h:okB l) (k:Nat):okB (l.take k):=fun x hx=>h x (List.mem_of_mem_take hx)
theorem okB.app {l m:By} (h:okB l) (k:okB m):okB (l++m):=fun x hx=>(List.mem_append.1 hx).elim (h x) (k x)
theorem adAt_ok {l:By} (h:okB l) (i:Nat):okA (adAt l i):=by
 intro x hx;have hg:∀j,(Lit.int .u8 (gB l j:Int)).wf=true:=fun j=>by
  have:=gB_lt h j;simp[Lit.wf,IntKind.min,IntKind.max,IntKind.signed,IntKind.bits];omega
 simp[adAt,Ad.l]at hx;rcases hx with rfl|rfl|rfl|rfl|rfl|rfl|rfl|rfl|rfl|rfl|rfl|rfl|rfl|rfl|rfl|rfl<;>exact hg _
def joinC (a b:Nat):Nat:=if a%65536+b%65536>65535 then a%65536+b%65536-65535 else a%65536+b%65536
def notC (s:Nat):Nat:=65535-s%65536
def sumC:Nat→By→Nat
 |s,[]=>s
 |s,[x]=>joinC s (x*256)
 |s,x::y::r=>sumC (joinC s (x*256+y)) r
theorem joinC_lt (a b:Nat):joinC a b<65536:=by unfold joinC;split<;>omega
theorem sumC_lt:∀(s:Nat) (l:By),s<65536→sumC s l<65536
 |s,[],h=>h
 |s,[x],h=>joinC_lt _ _
 |s,x::y::r,h=>sumC_lt _ r (joinC_lt _ _)
theorem sumC_app:∀(s:Nat) (l m:By),l.length%2=0→sumC s (l++m)=sumC (sumC s l) m
 |s,[],m,h=>rfl
 |s,[x],m,h=>by simp at h
 |s,x::y::r,m,h=>sumC_app _ r m (by simp only[List.length_cons]at h;omega)
theorem sumC_two {s:Nat} {l:By} {i:Nat} (h:i+1<l.length):sumC s (l.drop i)=sumC (joinC s (w2 l i)) (l.drop (i+2)):=by
 rw[List.drop_eq_getElem_cons (by omega:i<l.length),List.drop_eq_getElem_cons (by omega:i+1<l.length)];have e1:=gB_some (l:=l) (i:=i) (by omega);have e2:=gB_some (l:=l) (i:=i+1) h;rw[List.getElem?_eq_getElem (by omega)]at e1 e2;simp only[Option.some.injEq]at e1 e2;rw[e1,e2];rfl
theorem sumC_last {s:Nat} {l:By} {i:Nat} (h:i+1=l.length):sumC s (l.drop i)=joinC s (gB l i*256):=by
 rw[List.drop_eq_getElem_cons (by omega:i<l.length),List.drop_eq_nil_of_le (by omega:l.length≤i+1)];have e1:=gB_some (l:=l) (i:=i) (by omega);rw[List.getElem?_eq_getElem (by omega)]at e1;simp only[Option.some.injEq]at e1;rw[e1];rfl
def pseudoB (src dst:Ad) (len next:Int):By:=adB src++adB dst++fourS (IntKind.u32.wrap len).toNat ++ [0,0,0,loB next]
def bothC (src dst:Ad) (next:Int) (b:By):Nat:=joinC (sumC 0 (pseudoB src dst b.length next)) (sumC 0 b)
def checkC (src dst:Ad) (next:Int) (b:By):Nat:=notC (bothC src dst next b)
def fineC (src dst:Ad) (next:Int) (b:By):Bool:=bothC src dst next b==65535
structure Hd where
 (cls lab len nxt hop:Int)
 (src dst:Ad)
deriving DecidableEq,Inhabited
@[reducible] def ad0:Ad:=⟨0,0,0,0,0,0,0,0,0,0,0,0,0,0,0,0⟩
@[reducible] def hd0:Hd:=⟨0,0,0,0,0,ad0,ad0⟩
def canH (h:Hd):Bool:=decide (0≤h.cls∧h.cls≤255∧0≤h.lab∧h.lab≤1048575∧0≤h.len∧h.len≤65535∧0≤h.nxt∧h.nxt≤255∧0≤h.hop∧h.hop≤255)
def putH (h:Hd):By:=if canH h=true then fourS (1610612736+h.cls*1048576+h.lab).toNat++twoB h.len ++ [loB h.nxt,loB h.hop]++adB h.src++adB h.dst else []
def headOf (b:By):Hd:=⟨(gB b 0%16*16+gB b 1/16:Nat),(gB b 1%16*65536+gB b 2*256+gB b 3:Nat),(w2 b 4:Nat),(gB b 6:Nat),(gB b 7:Nat),adAt b 8,adAt b 24⟩
def getH (b:By):Ans Hd:=if b.length<40 then .error 3 else if gB b 0/16≠6 then .error 5 else .ok (headOf b)
structure Pt where
 (kind:Int)
 (at_ len:Nat)
deriving DecidableEq,Inhabited
def extW (k:Int):Bool:=decide (k=0∨k=43∨k=60)
def mayW (k:Int) (ahead:Nat):Int:=if k=44 then 7 else if k=0∧0<ahead then 5 else if extW k=true∧8≤ahead then 8 else 0
def walkW (b:By):Nat→Int→Nat→Nat→Ans (List Pt)
 |0,_,_,_=>.error 8
 |f+1,next,at_,many=>
  if mayW next many≠0 then .error (mayW next many)
  else if extW next=false then .ok [⟨next,at_,b.length-at_⟩]
  else if b.length<at_+2∨b.length<at_+(8*gB b (at_+1)+8) then .error 3
  else match walkW b f (gB b at_) (at_+(8*gB b (at_+1)+8)) (many+1) with
   |.error e=>.error e
   |.ok r=>.ok (⟨next,at_,8*gB b (at_+1)+8⟩::r)
def walkS (b:By) (next:Int) (at_:Nat):Ans (List Pt):=if b.length<at_ then .error 2 else walkW b 9 next at_ 0
def tlvW:Nat→By→Int
 |0,_=>0
 |f+1,l=>
  if l.length=0 then 0
  else if gB l 0=0 then tlvW f (l.drop 1)
  else if l.length<2∨l.length<2+gB l 1 then 3
  else tlvW f (l.drop (2+gB l 1))
def tlvS (l:By):Int:=tlvW (l.length+1) l
def longO (k:Nat):Option Nat:=if k=1∨k=4 then some 0 else if k=2 then some 2 else if k=3 then some 1 else if k=8 then some 8 else none
def fitsO (k n:Nat):Bool:=match longO k with|none=>true|some m=>m==n
def zerosB (l:By):Bool:=l.all (· == 0)
def oneO (l:By):Ans Nat:=
 if gB l 0=1 then .ok 1
 else if l.length<2 then .error 3
 else if gB l 1<2 then .error 5
 else if l.length<gB l 1 then .error 3
 else if fitsO (gB l 0) (gB l 1-2)=false then .error 5
 else .ok (gB l 1)
def optW:Nat→By→Int
 |0,_=>0
 |f+1,l=>
  if l.length=0 then 0
  else if gB l 0=0 then (if zerosB l=true then 0 else 5)
  else match oneO l with
   |.error e=>e
   |.ok n=>optW f (l.drop n)
def optS (l:By):Int:=if 40<l.length then 4 else optW (l.length+1) l
structure Sr where
 (nxt left flags tag:Int)
 (segs:List Ad)
deriving DecidableEq,Inhabited
def segsOf (b:By):Nat→List Ad
 |0=>[]
 |n+1=>segsOf b n ++ [adAt b (8+16*n)]
theorem segsOf_len (b:By):∀n,(segsOf b n).length=n
 |0=>rfl
 |n+1=>by simp[segsOf,segsOf_len b n]
def srhS (b:By):Ans (Sr×Nat):=
 if b.length<8 then .error 3
 else if b.length<8*gB b 1+8 then .error 3
 else if gB b 2≠4 then .error 7
 else if 10<gB b 4+1 then .error 8
 else if 8*gB b 1+8<8+16*(gB b 4+1) then .error 5
 else if gB b 4+1≤gB b 3 then .error 5
 else if tlvS ((b.take (8*gB b 1+8)).drop (8+16*(gB b 4+1)))≠0 then .error (tlvS ((b.take (8*gB b 1+8)).drop (8+16*(gB b 4+1))))
 else .ok (⟨(gB b 0:Nat),(gB b 3:Nat),(gB b 5:Nat),(w2 b 6:Nat),segsOf b (gB b 4+1)⟩,8*gB b 1+8)
structure Tp where
 t:Sg
 pay:By
def tcpS (b:By):Ans Tp:=
 if b.length<20 then .error 3
 else if gB b 12%16≠0∨gB b 12/16*4<20 then .error 5
 else if b.length<gB b 12/16*4 then .error 3
 else if optS ((b.take (gB b 12/16*4)).drop 20)≠0 then .error (optS ((b.take (gB b 12/16*4)).drop 20))
 else .ok ⟨⟨(w2 b 0:Nat),(w2 b 2:Nat),(w4 b 4:Nat),(w4 b 8:Nat),(gB b 13:Nat),(w2 b 14:Nat),(w2 b 16:Nat),(w2 b 18:Nat)⟩,b.drop (gB b 12/16*4)⟩
structure Ms where
 (kind code word:Nat)
 (body:By)
deriving DecidableEq,Inhabited
def icmpS (src dst:Ad) (b:By):Ans Ms:=
 if b.length<8 then .error 3
 else if fineC src dst 58 b=false then .error 6
 else .ok ⟨gB b 0,gB b 1,w4 b 4,b.drop 8⟩
inductive Up where
 |tcp (t:Tp)
 |msg (m:Ms)
structure Pk where
 head:Hd
 srh:Option Sr
 final:Ad
 up:Up
 body:By
def routeS (b:By) (h:Hd) (routed:Bool):Ans (Option Sr×Ad):=
 if routed=false then .ok (none,h.dst)
 else match srhS (b.drop 40) with
  |.error e=>.error e
  |.ok (s,_)=>if s.segs.getD s.left.toNat ad0≠h.dst then .error 5 else .ok (some s,s.segs.getD 0 ad0)
def upS (src dst:Ad) (kind:Int) (b:By):Ans Up:=
 if kind=6 then
  match tcpS b with
  |.error e=>.error e
  |.ok t=>if fineC src dst 6 b=false then .error 6 else .ok (.tcp t)
 else if kind=58 then
  match icmpS src dst b with
  |.error e=>.error e
  |.ok m=>.ok (.msg m)
 else .error 7
def lateW (l:List Pt):Bool:=(l.drop 1).any (fun p=>p.kind==43)
def firstW (l:List Pt):Bool:=(l.headD default).kind==43
def parseS (b:By):Ans Pk:=
 if 1500<b.length then .error 4
 else match getH b with
  |.error e=>.error e
  |.ok h=>
   if h.len≠(b.length:Int)-40 then .error 5
   else match walkS b h.nxt 40 with
    |.error e=>.error e
    |.ok l=>
     if lateW l=true then .error 7
     else match routeS b h (firstW l) with
      |.error e=>.error e
      |.ok (s,fin)=>match upS h.src fin (l.getLastD default).kind (b.drop (l.getLastD default).at_) with
       |.error e=>.error e
       |.ok u=>.ok ⟨h,s,fin,u,b.drop (l.getLastD default).at_⟩
def numsT (t:Sg):Bool:=decide ((0≤t.sport∧t.sport≤65535)∧(0≤t.dport∧t.dport≤65535)∧(0≤t.window∧t.window≤65535)∧(0≤t.ck∧t.ck≤65535)∧(0≤t.urgent∧t.urgent≤65535)∧(0≤t.flags∧t.flags≤255))
def canT (t:Sg) (n:Nat):Int:=if numsT t=false then 2 else if 65515<n then 4 else 0
def tcpB (t:Sg) (p:By):By:=twoB t.sport++twoB t.dport++fourS t.seq.toNat++fourS t.ack.toNat ++ [80,loB t.flags]++twoB t.window++twoB t.ck++twoB t.urgent++p
def putT (t:Sg) (p:By):Ans By:=if canT t p.length≠0 then .error (canT t p.length) else .ok (tcpB t p)
def sealT (src dst:Ad) (t:Sg) (p:By):Sg:=if canT t p.length≠0 then t else {t with ck:=(checkC src dst 6 (tcpB {t with ck:=0} p):Nat)}
def madeP (src dst:Ad) (kind:Int) (b:By):Ans By:=if 1460<b.length then .error 4 else .ok (putH ⟨0,0,b.length,kind,64,src,dst⟩++b)
def tcpP (src dst:Ad) (t:Sg) (p:By):Ans By:=match putT (sealT src dst t p) p with | .error e=>.error e | .ok b=>madeP src dst 6 b
def segsB (l:List Ad):By:=l.flatMap adB
def srhB (nxt left:Int) (l:List Ad):By:=[loB nxt,loB (2*l.length),4,loB left,loB ((l.length:Int)-1),0,0,0]++segsB l
def headS (b:By):Ans Hd:=match getH b with | .error e=>.error e | .ok h=>if h.len≠(b.length:Int)-40 then .error 5 else .ok h
def routedS (b:By):Ans (Hd×Sr×Nat):=match headS b with
 |.error e=>.error e
 |.ok h=>if h.nxt≠43 then .error 7 else match srhS (b.drop 40) with
  |.error e=>.error e
  |.ok (s,n)=>.ok (h,s,n)
def joinS (h:Hd) (r:By):By:=putH {h with len:=r.length} ++ r
def manyW (x:Ans (List Pt)):Bool:=match x with | .error _=>false | .ok l=>decide (8<l.length)
def insS (b:By) (via:List Ad):Ans By:=match headS b with
 |.error e=>.error e
 |.ok h=>
  if h.nxt=43∨h.nxt=0 then .error 7
  else if via.length=0∨9<via.length then .error 8
  else if manyW (walkS b h.nxt 40)=true then .error 8
  else if 1500<b.length+(8+16*(via.length+1)) then .error 4
  else .ok (joinS {h with nxt:=43,dst:=via.headD ad0} (srhB h.nxt via.length (h.dst::via.reverse)++b.drop 40))
def remS (b:By):Ans By:=match routedS b with
 |.error e=>.error e
 |.ok (h,s,n)=>.ok (joinS {h with nxt:=s.nxt,dst:=s.segs.getD 0 ad0} (b.drop (40+n)))
def advS (b:By):Ans By:=match routedS b with
 |.error e=>.error e
 |.ok (h,s,_)=>
  if s.left≤0 then .error 10
  else if h.hop≤1 then .error 13
  else .ok ((joinS {h with hop:=h.hop-1,dst:=s.segs.getD (s.left.toNat-1) ad0} (b.drop 40)).set 43 (gB b 43-1))
def stripS (b:By):Ans By:=match advS b with | .error e=>.error e | .ok x=>remS x
def sidA (node does arg:Int):Ad:=⟨253,108,0,98,0,0,0,0,(loB (node/256):Nat),(loB node:Nat),(loB does:Nat),0,(arg.toNat/16777216%256:Nat),(arg.toNat/65536%256:Nat),(arg.toNat/256%256:Nat),(arg.toNat%256:Nat)⟩
def splitA (A:Ad):Option (Int×Int×Int):=
 if A.a0=253∧A.a1=108∧A.a2=0∧A.a3=98∧A.a4=0∧A.a5=0∧A.a6=0∧A.a7=0∧A.a11=0 then some (A.a8*256+A.a9,A.a10,((A.a12*256+A.a13)*256+A.a14)*256+A.a15) else none
def tellS (x:Ans Pk):Ans (Fl×Int):=match x with
 |.error _=>.error 7
 |.ok p=>match p.srh,p.up with
  |some s,.tcp t=>match splitA p.head.dst with
   |none=>.error 5
   |some (n,d,a)=>if n≠0∨d≠6∨a<1∨65535<a∨s.left≠1 then .error 5 else .ok (⟨p.final,t.t.dport,p.head.src,t.t.sport⟩,a)
  |_,_=>.error 7
end Go.Proofs.YtgbndaiifbogmaaGreat
namespace Go.Proofs.YtgbndaiifbogmaaGreat
open Go.RowKit
structure QR (w:World) (q:Nat) (vs:Value) (sq:Int) (l:List It):Prop where
 blk:Blk w q 273 #[.bool true,vs,.int .i64 sq]
 own:w.ownsRow 0 299 3 vs l.length (l.flatMap encI)
 far:q∉vs.ownBlock.toList
def footQ (q:Nat) (vs:Value):List Nat:=q::vs.ownBlock.toList
section
variable {w w':World} {q:Nat} {vs:Value} {sq:Int} {l:List It} {S:List Nat}
theorem QR.chg (h:QR w q vs sq l) (hc:Chg S w w') (hS:∀x∈footQ q vs,x∉S):QR w' q vs sq l:=
 ⟨h.blk.chg hc (hS q (by simp[footQ])),own_chg h.own hc (fun x hx=>hS x (by simp[footQ]at *;exact .inr hx)),h.far⟩
theorem QR.chg0 (h:QR w q vs sq l) (hc:Chg [] w w'):QR w' q vs sq l:=h.chg hc (by simp)
theorem QR.lt (h:QR w q vs sq l):∀x∈footQ q vs,x<w.heap.size:=by
 intro x hx;rcases List.mem_cons.1 hx with rfl|hx
 ·exact h.blk.lt
 ·exact (own_lt h.own x hx).2
theorem QR.hq (h:QR w q vs sq l) (hl:l≠[]):∃g cap,vs=.slice (some ⟨g,0,none⟩) l.length cap∧HQ w q g (cap*3) cap sq l:=by
 have hb:=h.blk;have hf:=h.far;rcases h.own.2 with ⟨_,h0⟩ | ⟨g,cap,cur,hv,hg,hh,hn,hm,hs,ht⟩
 ·exact absurd (List.eq_nil_of_length_eq_zero h0) hl
 ·subst hv;exact⟨g,cap,rfl,hb,⟨cur,hh,hs,ht⟩,rfl,hn,fun e=>hf (by simp[Value.ownBlock,e]),hm⟩
theorem HQ.qr {g c cap:Nat} (h:HQ w q g c cap sq l):QR w q (.slice (some ⟨g,0,none⟩) l.length cap) sq l:=by
 obtain⟨cs,hk,hc,ht⟩:=h.row;exact⟨h.blk,⟨by rw[flat_len encI_len],.inr ⟨g,cap,cs,rfl,Nat.zero_le _,hk,h.hl,h.hm,by rw[hc,h.hc],ht⟩⟩,by simpa[Value.ownBlock]using h.qg⟩
end
theorem step_load_cell {P:Program} {ops:Array Oper} {op:Oper} {a:Act} {w:World} {K:Act→World→Prop} {Q:Exit→Act→World→Prop} {E:Prop} (hgd:op.guard=none) (ty:TypeId) (x:Operand) (ho:op.op=.load ty x) (b off:Nat) (hx:a.eval x=.pointer (some ⟨b,off,none⟩)) (v:Value) (d:TypeDesc)
  (hS:w.cell? ⟨b,off,none⟩=some v) (hu:P.underlying ty=some d) (hd:d.isRow=false) (h:K (a.put op.dst v) w):if Region.wanted op (yielded ops a.tmps)=true then Oper.wp P op a w K Q else E:=by
 rw[if_pos (by simp[Region.wanted,hgd])];unfold Oper.wp execOp;simp only[ho,hx,Instr.loadAt,Instr.sureAddr,Sem.run_bind,Sem.run_pure,Result.andThen_ok,run_loadVar_one w _ ty d v hS hu hd];exact h
theorem litI (w:World) (x:It):Sl (w.alloc (.cells (arrI x) 299)) 0 3 (.slice (some ⟨w.heap.size,0,none⟩) 1 1) 1 (encI x):=
 Sl.of_own (own_lit (base:=0) w 299 3 1 (arrI x) (Nat.zero_le _) (by simp[maxLen]) rfl)
def PushPost (w:World) (q:Nat) (vs:Value) (sq:Int) (l:List It) (w':World):Prop:=∃vs',QR w' q vs' sq l∧Chg (footQ q vs) w w'∧∀x∈footQ q vs',x∈footQ q vs∨w.heap.size≤x
theorem push_fin {w w1:World} {q:Nat} {vs:Value} {sq:Int} {l:List It} {x:It} (h:QR w q vs sq l) (hZ:Chg [] w w1) (v7:Value) (w7:World) (hown:w7.ownsRow 0 299 3 v7 (l.length+1) (l.flatMap encI++encI x)) (hc:Chg vs.ownBlock.toList w1 w7) (hb:v7.ownBlock=vs.ownBlock∨v7.ownBlock=some w1.heap.size) :
  PushPost w q vs sq (l ++ [x]) (w7.setCell ⟨q,1,none⟩ v7):=by
 have hB:=(h.chg0 hZ).blk.chg hc h.far;have hle:=hZ.size;have hfar:q∉v7.ownBlock.toList:=by
  rcases hb with hb|hb
  ·rw[hb];exact h.far
  ·rw[hb];have:=h.blk.lt;simp;omega
 have hc2:Chg [q] w7 (w7.setCell ⟨q,1,none⟩ v7):=(Chg.refl _ _).setCell (.inl (by simp)) _;refine⟨v7,⟨?_,?_,hfar⟩,?_,fun y hy=>?_⟩
 ·exact hB.set_ 1 v7
 ·rw[List.length_append,List.flatMap_append];simp only[List.length_cons,List.length_nil,List.flatMap_cons,List.flatMap_nil,List.append_nil];exact own_chg hown hc2 (fun y hy hm=>by simp at hm;subst hm;exact hfar hy)
 ·exact (hZ.more (by simp)).trans ((hc.more (T:=footQ q vs) (fun y hy=>by simp[footQ]at *;exact .inr hy)).trans (hc2.more (fun y hy=>by simp at hy;subst hy;simp[footQ])))
 ·rcases List.mem_cons.1 hy with rfl|hy
  ·exact .inl (by simp[footQ])
  ·rcases hb with hb|hb
   ·rw[hb]at hy;exact .inl (by simp[footQ]at *;exact .inr hy)
   ·rw[hb]at hy;simp at hy;subst hy;exact .inr hle
theorem ipush_any {w:World} {q:Nat} {vs:Value} {sq:Int} {l:List It} (h:QR w q vs sq l) (hl:l.length≤3000) (x:It) :
  Calls Tryz.prog 388 #[.pointer (some ⟨q,1,none⟩),.iface 299 x.v] w fun e w'=>e=.returned (.tuple #[])∧PushPost w q vs sq (l ++ [x]) w':=by
 have H0:=zH h;have c1:w.drew.cell? ⟨q,1,none⟩=some vs:=h.blk.drew.cell 1;have c2:((w.alloc (.cells (arrI x) 299)).drew).cell? ⟨q,1,none⟩=some vs:=(h.blk.alloc _).drew.cell 1;have hB1:Blk ((w.alloc (.cells (arrI x) 299)).drew) q 273 #[.bool true,vs,.int .i64 sq]:=(h.blk.alloc _).drew
 have hZ:=((Chg.refl [] w).alloc (.cells (arrI x) 299)).drew;have hown1:=own_chg h.own hZ (by simp);have hlit:=(litI w x).chg0 ((Chg.refl [] _).drew);have HF:=zH (push_fin (x:=x) h hZ);clear hZ;have hta:=fun i W=>run_assert (P:=Tryz.prog) Tryz.underlying299 rfl x.v i W
 have hA:AnyW w.drew:=trivial;have hA1:AnyW ((w.alloc (.cells (arrI x) 299)).drew):=trivial;clear h;go_enter Tryz.func388,Tryz.ntmps388
 go_wp2_with fail;refine wp_region_noPanic ?_;refine wp_region_held_drew (S:=AnyW) (by kernel_rfl) hA (fun _=>?_);refine zU 0 rfl (by go_simp<;>with_reducible rfl) ?_
 try simp only[zP]
 refine zU 1 rfl (by go_simp<;>with_reducible rfl) ?_
 try simp only[zP]
 refine zU 2 rfl (by go_simp<;>with_reducible rfl) ?_
 try simp only[zP]
 refine zU 4 rfl (by go_simp<;>with_reducible rfl) ?_
 try simp only[zP]
 refine zU 5 rfl (by go_simp<;>with_reducible rfl) ?_
 try simp only[zP]
 refine wpAnyH_ready (rs:=[3,6]) (by kernel_rfl) (by simp) (AllReadyH.cons rfl (fun K hK=>?_) (AllReadyH.cons rfl (fun K hK=>?_) AllReadyH.nil))
 ·refine step_load_cell rfl 271 (.tmp 6) rfl q 1 rfl vs _ c1 Tryz.underlying271 rfl ?_;refine zB hK ?_;clear hK K
  try simp only[zP]
  refine zR 6 rfl (fun K hK=>?_);go_simp
  refine zB hK ?_;clear hK K
  try simp only[zP]
  refine zR 7 rfl (fun K hK=>?_);refine step_app elI rfl (.tmp 7) (.tmp 10) rfl 0 rfl hown1 rfl hlit (encI_one x) (by unfold maxLen;omega) (by omega) (Nat.zero_le _) ?_;intro v7 w7 hown7 hc7 hb7;obtain⟨g7,cap7,rfl,_,_⟩:=own_form hown7 (by omega);have hB7:=hB1.chg hc7 H0.out.far;have k7:=hB7.cell 1
  have f7:=hB7.frozen 1;have hA7:AnyW w7:=trivial;have hA8:AnyW (w7.setCell ⟨q,1,none⟩ (.slice (some ⟨g7,0,none⟩) (l.length+1) cap7)):=trivial;refine zB hK ?_;clear hK K
  try simp only[zP]
  refine zU 8 rfl (by go_simp<;>with_reducible rfl) ?_
  try simp only[zP]
  refine zR 9 rfl (fun K hK=>?_);go_simp
  refine zB hK ?_;clear hK K
  try simp only[zP]
  refine wpAnyH_done (by kernel_rfl) ?_ _;refine NoPanic.normal ?_;go_end0
  exact⟨rfl,HF.out _ w7 hown7 hc7 hb7⟩
 ·go_simp
  refine zB hK ?_;clear hK K
  try simp only[zP]
  refine zR 3 rfl (fun K hK=>?_);refine step_load_cell rfl 271 (.tmp 6) rfl q 1 rfl vs _ c2 Tryz.underlying271 rfl ?_;refine zB hK ?_;clear hK K
  try simp only[zP]
  refine zR 7 rfl (fun K hK=>?_);refine step_app elI rfl (.tmp 7) (.tmp 10) rfl 0 rfl hown1 rfl hlit (encI_one x) (by unfold maxLen;omega) (by omega) (Nat.zero_le _) ?_;intro v7 w7 hown7 hc7 hb7;obtain⟨g7,cap7,rfl,_,_⟩:=own_form hown7 (by omega);have hB7:=hB1.chg hc7 H0.out.far;have k7:=hB7.cell 1
  have f7:=hB7.frozen 1;have hA7:AnyW w7:=trivial;have hA8:AnyW (w7.setCell ⟨q,1,none⟩ (.slice (some ⟨g7,0,none⟩) (l.length+1) cap7)):=trivial;refine zB hK ?_;clear hK K
  try simp only[zP]
  refine zU 8 rfl (by go_simp<;>with_reducible rfl) ?_
  try simp only[zP]
  refine zR 9 rfl (fun K hK=>?_);go_simp
  refine zB hK ?_;clear hK K
  try simp only[zP]
  refine wpAnyH_done (by kernel_rfl) ?_ _;refine NoPanic.normal ?_;go_end0
  exact⟨rfl,HF.out _ w7 hown7 hc7 hb7⟩
end Go.Proofs.YtgbndaiifbogmaaGreat
namespace Go.Proofs.YtgbndaiifbogmaaGreat
theorem gB_app1 {p q:By} {i:Nat} (h:i<p.length):gB (p++q) i=gB p i:=by simp[gB,List.getD_eq_getElem?_getD,List.getElem?_append_left h]
theorem gB_app2 {p q:By} {i:Nat} (h:p.length≤i):gB (p++q) i=gB q (i-p.length):=by simp[gB,List.getD_eq_getElem?_getD,List.getElem?_append_right h]
theorem gB_adB {A:Ad} (hA:okA A) (i:Nat) (hi:i<16):((gB (adB A) i:Nat):Int)=A.l[i]?.getD 0:=by
 have h:=hA.at i hi;unfold gB adB;rw[List.getD_eq_getElem?_getD,List.getElem?_map];have h1:A.l[i]?=some (A.l[i]'(by rw[A.l_len];exact hi)):=List.getElem?_eq_getElem _;rw[h1]at h ⊢;simp at h ⊢;omega
theorem adAt_app {A:Ad} (hA:okA A) (p q:By) {i:Nat} (hi:i=p.length):adAt (p++(adB A++q)) i=A:=by
 subst hi;have hg:∀j,j<16→((gB (p++(adB A++q)) (p.length+j):Nat):Int)=A.l[j]?.getD 0:=fun j hj=>by
  rw[gB_app2 (by omega),Nat.add_sub_cancel_left,gB_app1 (by rw[adB_len];exact hj)];exact gB_adB hA j hj
 apply Ad.ext_l;have h0:=hg 0 (by omega);rw[Nat.add_zero]at h0;simp only[adAt,Ad.l]
 rw[h0,hg 1 (by omega),hg 2 (by omega),hg 3 (by omega),hg 4 (by omega),hg 5 (by omega),hg 6 (by omega),hg 7 (by omega),hg 8 (by omega),hg 9 (by omega),hg 10 (by omega),hg 11 (by omega),hg 12 (by omega),hg 13 (by omega),hg 14 (by omega),hg 15 (by omega)];rfl
theorem loB_small {n:Int} (h:0≤n∧n≤255):(loB n:Int)=n:=by
 rw[←loB_eq];have:IntKind.u8.wrap n=n%256:=by simp[IntKind.wrap,IntKind.signed,IntKind.bits]
 rw[this];omega
theorem twoB_val {n:Int} (h:0≤n∧n≤65535):((loB (n/256)*256+loB n:Nat):Int)=n:=by
 have e:IntKind.u8.wrap n=n%256:=by simp[IntKind.wrap,IntKind.signed,IntKind.bits]
 have h1:=loB_small (n:=n/256) (by omega);have h2:=loB_eq n;rw[e]at h2;omega
structure okHd (h:Hd):Prop where
 can:canH h=true
 src:okA h.src
 dst:okA h.dst
theorem canH.at {h:Hd} (c:canH h=true):(0≤h.cls∧h.cls≤255)∧(0≤h.lab∧h.lab≤1048575)∧(0≤h.len∧h.len≤65535)∧(0≤h.nxt∧h.nxt≤255)∧(0≤h.hop∧h.hop≤255):=by
 unfold canH at c;simp only[decide_eq_true_eq]at c;omega
theorem putH_len {h:Hd} (c:canH h=true):(putH h).length=40:=by
 unfold putH;rw[if_pos c];simp[fourS,twoB,adB_len]
theorem putH_ok {h:Hd} (k:okHd h):okB (putH h):=by
 unfold putH;rw[if_pos k.can];exact (((okB.app (okB.app fourS_lt twoB_lt) (by intro x hx;simp at hx;rcases hx with rfl|rfl<;>exact loB_lt _)).app (adB_lt k.src)).app (adB_lt k.dst))
theorem getH_put {h:Hd} (k:okHd h) (r:By):getH (putH h++r)=.ok h:=by
 obtain⟨c1,c2,c3,c4,c5⟩:=canH.at k.can;have hl:=putH_len k.can;unfold getH;rw[if_neg (by rw[List.length_append,hl];omega)];have e:putH h++r=(fourS (1610612736+h.cls*1048576+h.lab).toNat++twoB h.len ++ [loB h.nxt,loB h.hop])++(adB h.src++(adB h.dst++r)):=by
  unfold putH;rw[if_pos k.can];simp[List.append_assoc]
 have es:adAt (putH h++r) 8=h.src:=by rw[e];exact adAt_app k.src _ _ rfl
 have ed:adAt (putH h++r) 24=h.dst:=by
  rw[e,←List.append_assoc];exact adAt_app k.dst _ _ (by simp[fourS,twoB,adB_len])
 have g:∀i,i<8→gB (putH h++r) i=gB (fourS (1610612736+h.cls*1048576+h.lab).toNat++twoB h.len ++ [loB h.nxt,loB h.hop]) i:=fun i hi=>by
  rw[e];exact gB_app1 (by simp[fourS,twoB];omega)
 have hN:∃N:Nat,(1610612736+h.cls*1048576+h.lab).toNat=N∧(N:Int)=1610612736+h.cls*1048576+h.lab:=⟨_,rfl,by omega⟩;obtain⟨N,hN,hNi⟩:=hN;rw[hN]at g;have q0:gB (putH h++r) 0=N/16777216%256:=g 0 (by omega);have q1:gB (putH h++r) 1=N/65536%256:=g 1 (by omega)
 have q2:gB (putH h++r) 2=N/256%256:=g 2 (by omega);have q3:gB (putH h++r) 3=N%256:=g 3 (by omega);have q4:gB (putH h++r) 4=loB (h.len/256):=g 4 (by omega);have q5:gB (putH h++r) 5=loB h.len:=g 5 (by omega);have q6:gB (putH h++r) 6=loB h.nxt:=g 6 (by omega)
 have q7:gB (putH h++r) 7=loB h.hop:=g 7 (by omega);rw[if_neg (by rw[q0];omega)];have t:=twoB_val c3;have n1:=loB_small c4;have n2:=loB_small c5;unfold headOf w2;rw[es,ed,q0,q1,q2,q3,q4,q5,q6,q7,t,n1,n2];have z1:((N/16777216%256%16*16+N/65536%256/16:Nat):Int)=h.cls:=by omega
 have z2:((N/65536%256%16*65536+N/256%256*256+N%256:Nat):Int)=h.lab:=by omega
 rw[z1,z2]
theorem segsB_len:∀l:List Ad,(segsB l).length=16*l.length
 |[]=>rfl
 |a::l=>by
  have:=segsB_len l;unfold segsB at this ⊢;rw[List.flatMap_cons,List.length_append,this,adB_len,List.length_cons];omega
theorem srhB_len (n m:Int) (l:List Ad):(srhB n m l).length=8+16*l.length:=by
 unfold srhB;rw[List.length_append,segsB_len];rfl
theorem segsOf_put:∀(l m:List Ad) (p q:By),(∀a∈l,okA a)→p.length=8+16*m.length→(∀k,k≤m.length→segsOf (p++(segsB l++q)) k=m.take k)→segsOf (p++(segsB l++q)) (m.length+l.length)=m++l
 |[],m,p,q,_,_,h=>by simpa using h m.length (Nat.le_refl _)
 |a::l,m,p,q,ok,hp,h=>by
  have e:p++(segsB (a::l)++q)=(p++adB a)++(segsB l++q):=by simp[segsB,List.append_assoc]
  have ha:segsOf (p++(segsB (a::l)++q)) (m.length+1)=m ++ [a]:=by
   show segsOf _ m.length ++ [adAt _ (8+16*m.length)]=_;rw[h m.length (Nat.le_refl _),List.take_length];congr 2;have:p++(segsB (a::l)++q)=p++(adB a++(segsB l++q)):=by simp[segsB,List.append_assoc]
   rw[this];exact adAt_app (ok a (by simp)) _ _ hp.symm
  have:=segsOf_put l (m ++ [a]) (p++adB a) q (fun b hb=>ok b (by simp[hb])) (by simp[adB_len];omega) (fun k hk=>by
   rw[←e];rw[List.length_append,List.length_singleton]at hk;rcases Nat.lt_or_ge k (m.length+1) with h1|h1
   ·rw[h k (by omega),List.take_append_of_le_length (by omega)]
   ·obtain rfl:k=m.length+1:=by omega
    rw[ha,List.take_of_length_le (by simp)])
  rw[←e]at this;rw[List.length_append,List.length_singleton]at this;rw[List.length_cons,show m.length+(l.length+1)=m.length+1+l.length by omega,this];simp
theorem srhS_put {nxt left:Int} {l:List Ad} (h1:0≤nxt∧nxt≤255) (h2:0≤left) (h3:left<l.length) (h4:l.length≤10) (ok:∀a∈l,okA a) (r:By) :
  srhS (srhB nxt left l++r)=.ok (⟨nxt,left,0,0,l⟩,8+16*l.length):=by
 have g:∀i,i<8→gB (srhB nxt left l++r) i=gB [loB nxt,loB (2*l.length),4,loB left,loB ((l.length:Int)-1),0,0,0] i:=fun i hi=>by
  rw[gB_app1 (by rw[srhB_len];omega)];exact gB_app1 (by simpa using hi)
 have q0:gB (srhB nxt left l++r) 0=loB nxt:=g 0 (by omega);have q1:gB (srhB nxt left l++r) 1=loB (2*l.length):=g 1 (by omega);have q2:gB (srhB nxt left l++r) 2=4:=g 2 (by omega);have q3:gB (srhB nxt left l++r) 3=loB left:=g 3 (by omega)
 have q4:gB (srhB nxt left l++r) 4=loB ((l.length:Int)-1):=g 4 (by omega);have q5:gB (srhB nxt left l++r) 5=0:=g 5 (by omega);have q6:w2 (srhB nxt left l++r) 6=0:=by unfold w2;rw[g 6 (by omega),g 7 (by omega)];rfl
 have n0:=loB_small h1;have n1:=loB_small (n:=2*l.length) (by omega);have n3:=loB_small (n:=left) (by omega);have n4:=loB_small (n:=(l.length:Int)-1) (by omega);have hl:=srhB_len nxt left l;have hs:segsOf (srhB nxt left l++r) l.length=l:=by
  have:=segsOf_put l [] [loB nxt,loB (2*l.length),4,loB left,loB ((l.length:Int)-1),0,0,0] r ok rfl (fun k hk=>by
   obtain rfl:k=0:=by simpa using hk
   rfl)
  simpa[srhB,List.append_assoc]using this
 have e1:8*gB (srhB nxt left l++r) 1+8=8+16*l.length:=by rw[q1];omega
 have e4:gB (srhB nxt left l++r) 4+1=l.length:=by rw[q4];omega
 have ht:tlvS (((srhB nxt left l++r).take (8+16*l.length)).drop (8+16*l.length))=0:=by
  rw[List.drop_eq_nil_of_le (by rw[List.length_take];omega)];rfl
 unfold srhS;rw[e1,e4,ht,hs,q2,q0,q3,q5,q6,n0,n3];rw[if_neg (by rw[List.length_append,hl];omega),if_neg (by rw[List.length_append,hl];omega),if_neg (by omega),if_neg (by omega),if_neg (by omega),if_neg (by omega),if_neg (by omega)];rfl
end Go.Proofs.YtgbndaiifbogmaaGreat
namespace Go.Proofs.YtgbndaiifbogmaaGreat
open Go.RowKit Go.Maps
section
variable {P:Program} {ops:Array Oper} {o:Oper} {a:Act} {S:World→Prop}
theorem yields_lookup (hw:Region.wanted o (yielded ops a.tmps)=true) (t:TypeId) (m k:Operand) (ho:o.op=.lookup t m k false) {mv kv v:Value} (hm:a.eval m=mv) (hk:a.eval k=kv) (hS:∀w,S w→(Instr.lookup t mv kv false).run P w=.ok v w):YieldsIf P ops S o v a:=
 .inl ⟨hw,fun w hw'=>by
  unfold execOp;simp only[ho,hm,hk,Sem.run_bind,Sem.run_pure,Result.andThen_ok,hS w hw']⟩
theorem step_mapEntry {w w':World} {K:Act→World→Prop} {Q:Exit→Act→World→Prop} {E:Prop} (hgd:o.guard=none) (t:TypeId) (m k:Operand) (ho:o.op=.mapEntry t m k) {mv kv v:Value} (hm:a.eval m=mv) (hk:a.eval k=kv)
  (hr:(Instr.mapEntry t mv kv).run P w=.ok v w') (h:K (a.put o.dst v) w'):if Region.wanted o (yielded ops a.tmps)=true then Oper.wp P o a w K Q else E:=by
 rw[if_pos (by simp[Region.wanted,hgd])];unfold Oper.wp execOp;simp only[ho,hm,hk,Sem.run_bind,Sem.run_pure,Result.andThen_ok,hr];exact h
theorem step_entryStore {w w':World} {K:Act→World→Prop} {Q:Exit→Act→World→Prop} {E:Prop} (hgd:o.guard=none) (t:TypeId) (m s x:Operand) (ho:o.op=.entryStore t m s x) (hd:o.dst=none) {mv sv xv:Value} (hm:a.eval m=mv) (hs:a.eval s=sv) (hx:a.eval x=xv)
  (hr:(Instr.entryStore t mv sv xv).run P w=.ok () w') (h:K a w'):if Region.wanted o (yielded ops a.tmps)=true then Oper.wp P o a w K Q else E:=by
 rw[if_pos (by simp[Region.wanted,hgd])];unfold Oper.wp execOp;simp only[ho,hm,hs,hx,Sem.run_bind,Sem.run_pure,Result.andThen_ok,hr];rw[Oper.upon_skip,hd];exact h
end
end Go.Proofs.YtgbndaiifbogmaaGreat
namespace Go.Proofs.YtgbndaiifbogmaaGreat
open Go.RowKit
def OwY (w:World) (B:Nat) (v:Value) (l:By):Prop:=w.ownsRow B 5 1 v l.length (l.map byV)
theorem OwY.sl {w:World} {B:Nat} {v:Value} {l:By} (h:OwY w B v l):SlY w B v l:=Sl.of_own h
theorem OwY.nil (w:World) (B:Nat):OwY w B (.slice none 0 0) []:=World.ownsRow_nil ..
theorem SlY.nil (w:World) (B:Nat):SlY w B (.slice none 0 0) []:=Sl.nil w B 1
theorem SlY.form {w:World} {B:Nat} {v:Value} {l:By} (h:SlY w B v l):∃A c,v=.slice A l.length c:=Sl.form h
theorem SlY.less {w:World} {B B':Nat} {v:Value} {l:By} (h:SlY w B v l) (hB:B'≤B):SlY w B' v l:=Sl.less h hB
theorem SlY.at_ {w:World} {B:Nat} {v:Value} {l:By} (h:SlY w B v l) {i:Nat} (hi:i<l.length) :
  ∃b o c,v=.slice (some ⟨b,o,none⟩) l.length c∧l.length≤c∧w.cell? ⟨b,o+i,none⟩=some (byV (gB l i)):=by
 obtain⟨b,o,c,e,_,hc,hcell⟩:=Sl.at_ h hi (by omega);have:=hcell 0 (by omega);rw[Nat.add_zero,Nat.mul_one]at this;exact⟨b,o,c,e,hc,by rw[this,List.getElem?_map,gB_some hi];rfl⟩
theorem SlY.all {w:World} {B:Nat} {v:Value} {l:By} (h:SlY w B v l) (hl:0<l.length) :
  ∃b o c,v=.slice (some ⟨b,o,none⟩) l.length c∧l.length≤c∧B≤b∧∀i,i<l.length→w.cell? ⟨b,o+i,none⟩=some (byV (gB l i)):=by
 obtain⟨_,A,c,e,hc,hx⟩:=h;obtain⟨b,o,rfl,hb,hcell⟩:=hx hl;exact⟨b,o,c,e,hc,hb,fun i hi=>hcell i _ (by rw[List.getElem?_map,gB_some hi];rfl)⟩
theorem mapDT (l:By) (a b:Nat):((l.map byV).drop a).take b=((l.drop a).take b).map byV:=by rw[List.map_take,List.map_drop]
section
variable {P:Program} {t e:TypeId} {z:Value} {size bytes:Nat} {w:World}
theorem cut_end (el:El P t e z size bytes) {A:Option Addr} {n c lo hi B:Nat} {xs:List Value} (h:Sl w B size (.slice A n c) n xs) (h1:lo≤hi) (h2:hi≤n) :
  ∃X,(∀W:World,(Instr.slice t (.slice A n c) (some (.int .i64 (lo:Int))) (some (.int .i64 (hi:Int))) (some (.int .i64 (hi:Int)))).run P W=.ok (.slice X (hi-lo) (hi-lo)) W) ∧
   Sl w B size (.slice X (hi-lo) (hi-lo)) (hi-lo) ((xs.drop (lo*size)).take ((hi-lo)*size)):=by
 obtain⟨i,hi0,hz,hs,hb⟩:=info_parts el.info;have hcap:n≤c:=by
  obtain⟨_,A',c',hv,hc,_⟩:=h;simp only[Value.slice.injEq,true_and]at hv;omega
 refine⟨if hi=lo then A else A.map (·.add (lo*size)),fun W=>?_,?_⟩
 ·have e2:hi≤c:=by omega
  simp[Instr.slice,run_underlying el.ht,Instr.sliceBounds,Instr.sliceBound,asIntOf,h1,e2,sizeOf,typeInfo,hi0,hs,go_sem]
 ·have ht:=Sl.take h (k:=hi) h2;obtain⟨hl,A',c',hv,hcap',hr⟩:=ht;simp only[Value.slice.injEq,true_and]at hv;obtain⟨rfl,rfl⟩:=hv;refine⟨?_,_,hi-lo,rfl,Nat.le_refl _,fun hn=>?_⟩
  ·rw[List.length_take,List.length_drop,h.1,←Nat.sub_mul];exact Nat.min_eq_left (Nat.mul_le_mul_right _ (by omega))
  ·obtain⟨b,o,hA,hb,hx⟩:=hr (by omega);subst hA;rw[if_neg (by omega)];refine⟨b,o+lo*size,?_,hb,fun j u hu=>?_⟩
   ·simp only[Option.map_some,Addr.add];split
    ·next h0=>simp[h0]
    ·rfl
   ·rw[List.getElem?_take]at hu;split at hu
    ·next hj=>
     rw[List.getElem?_drop]at hu;rw[Nat.add_assoc];refine hx _ _ ?_;rw[List.getElem?_take,if_pos (by rw[Nat.sub_mul]at hj;omega)];exact hu
    ·cases hu
end
theorem cutY3 {w:World} {A:Option Addr} {n c B:Nat} {l:By} (h:SlY w B (.slice A n c) l) {lo hi:Nat} (h1:lo≤hi) (h2:hi≤l.length) :
  ∃X,(∀W:World,(Instr.slice 22 (.slice A n c) (some (.int .i64 (lo:Int))) (some (.int .i64 (hi:Int))) (some (.int .i64 (hi:Int)))).run Tryz.prog W=.ok (.slice X (hi-lo) (hi-lo)) W)∧SlY w B (.slice X (hi-lo) (hi-lo)) ((l.drop lo).take (hi-lo)):=by
 obtain⟨A',c',e⟩:=h.form;simp only[Value.slice.injEq]at e;obtain⟨rfl,rfl,rfl⟩:=e;obtain⟨X,hr,hs⟩:=cut_end elY h h1 h2;refine⟨X,hr,?_⟩;unfold SlY;rw[show ((l.drop lo).take (hi-lo)).length=hi-lo by rw[List.length_take,List.length_drop];omega,←mapDT];simpa using hs
theorem cutY2 {w:World} {A:Option Addr} {n c B:Nat} {l:By} (h:SlY w B (.slice A n c) l) {lo hi:Nat} (h1:lo≤hi) (h2:hi≤l.length) :
  ∃X,(∀W:World,(Instr.slice 22 (.slice A n c) (some (.int .i64 (lo:Int))) (some (.int .i64 (hi:Int))) none).run Tryz.prog W=.ok (.slice X (hi-lo) (c-lo)) W)∧SlY w B (.slice X (hi-lo) (c-lo)) ((l.drop lo).take (hi-lo)):=by
 obtain⟨A',c',e⟩:=h.form;simp only[Value.slice.injEq]at e;obtain⟨rfl,rfl,rfl⟩:=e;obtain⟨X,hr,hs⟩:=cut_mid elY h h1 h2;refine⟨X,hr,?_⟩;unfold SlY;rw[show ((l.drop lo).take (hi-lo)).length=hi-lo by rw[List.length_take,List.length_drop];omega,←mapDT];simpa using hs
theorem cutYf {w:World} {A:Option Addr} {n c B:Nat} {l:By} (h:SlY w B (.slice A n c) l) {lo:Nat} (h1:lo≤l.length) :
  ∃X,(∀W:World,(Instr.slice 22 (.slice A n c) (some (.int .i64 (lo:Int))) none none).run Tryz.prog W=.ok (.slice X (n-lo) (c-lo)) W)∧SlY w B (.slice X (n-lo) (c-lo)) (l.drop lo):=by
 obtain⟨A',c',e⟩:=h.form;simp only[Value.slice.injEq]at e;obtain⟨rfl,rfl,rfl⟩:=e;obtain⟨X,hr,hs⟩:=cut_from elY h h1;refine⟨X,hr,?_⟩;unfold SlY;rw[List.length_drop,List.map_drop];simpa using hs
theorem cutYt {w:World} {A:Option Addr} {n c B:Nat} {l:By} (h:SlY w B (.slice A n c) l) {hi:Nat} (h2:hi≤l.length) :
  (∀W:World,(Instr.slice 22 (.slice A n c) none (some (.int .i64 (hi:Int))) none).run Tryz.prog W=.ok (.slice A hi c) W)∧SlY w B (.slice A hi c) (l.take hi):=by
 obtain⟨A',c',e⟩:=h.form;simp only[Value.slice.injEq]at e;obtain⟨rfl,rfl,rfl⟩:=e;obtain⟨hr,hs⟩:=cut_to elY h h2;refine⟨hr,?_⟩;unfold SlY;rw[show (l.take hi).length=hi by rw[List.length_take];omega,List.map_take];simpa using hs
end Go.Proofs.YtgbndaiifbogmaaGreat
namespace Go.Proofs.YtgbndaiifbogmaaGreat
open Go.RowKit
def Turned (w:World) (q:Nat) (vs:Value) (sq:Int) (P:List It→Prop) (w':World):Prop:=
 ∃vs' l',QR w' q vs' sq l'∧Heap.OK ltI l'∧P l'∧Chg (footQ q vs) w w'∧∀x∈footQ q vs',x∈footQ q vs∨w.heap.size≤x
theorem hpush_any {w:World} {q:Nat} {vs:Value} {sq:Int} {l:List It} (h:QR w q vs sq l) (hok:Heap.OK ltI l) (hl:l.length≤2900) (x:It) :
  Calls Tryz.prog 319 #[.iface 301 (.pointer (some ⟨q,1,none⟩)),.iface 299 x.v] w fun e w'=>e=.returned (.tuple #[])∧Turned w q vs sq (fun l'=>l'.Perm (x::l)) w':=by
 have F1:=zH (ipush_any h (by omega) x);have m1:=mPush q w;have HOK:=zH hok;clear h hok;go_enter Tryz.func319,Tryz.ntmps319
 go_wp2_with fail;refine F1.out.mono ?_;rintro e w1 ⟨rfl,vs1,hq1,hc1,hf1⟩;have hne:l ++ [x]≠[]:=by simp
 obtain⟨g,cap,rfl,hq⟩:=hq1.hq hne;have hu:=Heap.Up.push HOK.out x;have c1:w1.cell? ⟨q,1,none⟩=some (.slice (some ⟨g,0,none⟩) (l ++ [x]).length cap):=hq.blk.cell 1;have m2:=mLen c1;have F2:=zH (iLen_any g (l ++ [x]).length cap w1);have hlen:(l ++ [x]).length=l.length+1:=by simp
 have F3:=zH (up_any hq hu (by omega) (by omega));have H1:=zH hq;have HF:=zH (And.intro hc1 hf1);clear F1 m1 hq1 hc1 hf1 hne hq hu c1 HOK;rw[hlen]at m2 F2;have HL:=zH hlen;clear hlen;have hw1:((l.length+1:Nat):Int)-1=(l.length:Int):=by omega
 go_wp2_with fail;refine F2.out.mono ?_;rintro e w2 ⟨rfl,rfl⟩;clear F2 m2;go_wp2_with fail;refine F3.out.mono ?_;rintro e w3 ⟨rfl,l',hq3,hok3,hp3,hc3⟩;clear F3;go_wp2_with fail;go_end0
 have hq4:=hq3.qr;have hl3:l'.length=(l ++ [x]).length:=hp3.length_eq;refine⟨rfl,_,l',hq4,hok3,hp3.trans (List.perm_append_comm.trans (by simp)),HF.out.1.trans' hc3 (fun y hy=>by
  simp at hy;subst hy;exact HF.out.2 _ (by simp[footQ,Value.ownBlock])),fun y hy=>HF.out.2 y (by simpa[footQ,Value.ownBlock]using hy)⟩
theorem hinit_any {w:World} {q g c cap:Nat} {sq:Int} {l:List It} (h:HQ w q g c cap sq l) (hl:l.length≤2900) :
  Calls Tryz.prog 262 #[.iface 301 (.pointer (some ⟨q,1,none⟩))] w fun e w'=>e=.returned (.tuple #[])∧∃l',HQ w' q g c cap sq l'∧Heap.OK ltI l'∧l'.Perm l∧Chg [g] w w':=by
 have c1:w.cell? ⟨q,1,none⟩=some (.slice (some ⟨g,0,none⟩) l.length cap):=h.blk.cell 1;have m1:=mLen c1;have H0:=zH h;have F0:=zH (iLen_any g l.length cap w);have HH:=zH (Heap.HeapFrom.half (lt:=ltI) l);generalize hn:l.length=n at *;have HN:=zH hn;obtain⟨m,hm⟩:∃m,m=n/2:=⟨_,rfl⟩;have HM:=zH hm
 have hd:(n:Int)/2=(m:Int):=by omega
 have hmn:(m:Int)≤3000:=by omega
 have hm0:(0:Int)≤(m:Int):=by omega
 clear h hn hm;go_enter Tryz.func262,Tryz.ntmps262
 go_wp2_with fail;refine F0.out.mono ?_;rintro e w2 ⟨rfl,rfl⟩;clear F0 m1 c1;go_wp2_with fail
 go_loopw [3] (fun iv wr=>∃(k:Nat) (z:Int) (l':List It),iv=.int .i64 z∧Hid (z=(k:Int)-1)∧Hid (HQ wr q g c cap sq l')∧Hid (Heap.HeapFrom ltI n k l')∧k≤n∧l'.length=n∧Hid (l'.Perm l)∧Hid (Chg [g] w wr)) (fun iv _=>(intOf iv+1).toNat)
 case atStart=>exact⟨m,_,l,rfl,zH rfl,H0,by have:=HM.out;rw[this];exact HH,by omega,HN.out,zH (List.Perm.refl _),zH (Chg.refl _ _)⟩
 case round=>
  clear H0 HH HN HM hd hmn hm0;obtain⟨k,z,l',rfl,HZ,H,HF,hk,hn',HP,HC⟩:=hrel;have HN:=zH hn';clear hn';rcases Nat.eq_zero_or_pos k with hk0|hk0
  ·subst hk0;obtain rfl:z=-1:=by have:=HZ.out;omega
   go_wp2_with fail;go_end0
   exact⟨rfl,l',H.out,by have:=HF.out;unfold Heap.OK;rw[HN.out];exact this,HP.out,HC.out⟩
  ·obtain⟨j,rfl⟩:∃j,k=j+1:=⟨k-1,by omega⟩;obtain rfl:z=(j:Int):=by have:=HZ.out;omega
   have F1:=zH (down_any H.out HF.out (by have:=HN.out;omega) (by omega) (by have:=HN.out;omega));have hj0:(0:Int)≤(j:Int):=by omega
   have hj1:(j:Int)≤3000:=by omega
   clear H HF HZ hk0;go_wp2_with fail;refine F1.out.mono ?_;rintro e w2 ⟨bb,rfl,l2,hq2,hh2,hp2,hc2,_⟩;have H2:=zH hq2;have HF2:=zH hh2;have HP2:=zH (hp2.trans HP.out);have HC2:=zH (HC.out.trans hc2);have HL2:=zH (hp2.length_eq.trans HN.out);clear F1 HP HC HN hq2 hh2 hp2 hc2;go_wp2_with fail
   go_roundw
   case rel=>exact⟨j,_,l2,rfl,zH rfl,H2,HF2,by omega,HL2.out,HP2,HC2⟩
   case measure=>simp[intOf]<;>omega
end Go.Proofs.YtgbndaiifbogmaaGreat

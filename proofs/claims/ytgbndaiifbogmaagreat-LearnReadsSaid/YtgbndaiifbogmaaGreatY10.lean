/-
  Small laws and walks on the way to LearnReads: Sg, Wc, Sp. Conditions: each theorem names its own.
-/
import Derived.Test.YtgbndaiifbogmaaGreatY09
set_option linter.unusedVariables false
set_option linter.unusedSimpArgs false
set_option maxRecDepth 100000
set_option maxHeartbeats 8000000
namespace Go.Proofs.YtgbndaiifbogmaaGreat
open Go.RowKit Go.Maps
theorem litD (w:World) (x:Ad):Sl (w.alloc (.cells (arrA x) 24)) 0 16 (.slice (some ⟨w.heap.size,0,none⟩) 1 1) 1 (encA x):=
 Sl.of_own (own_lit (base:=0) w 24 16 1 (arrA x) (Nat.zero_le _) (by simp[maxLen]) rfl)
theorem step_store_cell {P:Program} {ops:Array Oper} {op:Oper} {a:Act} {w:World} {K:Act→World→Prop} {Q:Exit→Act→World→Prop} {E:Prop} {g i:Nat} {e:TypeId} {cs:Array Value} {v:Value} (hgd:op.guard=none) (ty:TypeId) (x y:Operand) (ho:op.op=.store ty x y)
  (hb:Blk w g e cs) (hx:a.eval x=.pointer (some ⟨g,i,none⟩)) (hy:a.eval y=v) (hv:v.cells=#[v]) (hi:i<cs.size) (hs:(P.info? ty).map (·.size)=some 1) (h1:v.oneCell'=true)
  (h:∀w',Blk w' g e (cs.setIfInBounds i v)→Chg [g] w w'→K (a.put op.dst undef) w'):if Region.wanted op (yielded ops a.tmps)=true then Oper.wp P op a w K Q else E:=by
 rw[if_pos (by simp[Region.wanted,hgd])];have hrun:(storeVar ty ⟨g,i,none⟩ v).run P w=.ok () (w.setCell ⟨g,i,none⟩ v):=by
  have:=run_storeCells_cells (P:=P) g i [v] 0 w (fun j hj=>by
   obtain rfl:j=0:=by simpa using hj
   rw[hb.cell];simp[hi]) (fun j hj=>by
   obtain rfl:j=0:=by simpa using hj
   exact hb.frozen i) (fun u hu=>by simp at hu;subst hu;exact h1)
  cases hq:P.info? ty with
  |none=>simp[hq]at hs
  |some inf=>
   have hsz:inf.size=1:=by simpa[hq]using hs
   simp only[Nat.add_zero]at this;simp[storeVar,sizeOf,typeInfo,hq,hv,hsz];exact this
 unfold Oper.wp execOp;simp only[ho,hx,hy,Instr.storeAt,Instr.sureAddr,Sem.run_bind,Sem.run_pure,Result.andThen_ok,hrun];exact h _ (hb.set_ i v) ((Chg.refl [g] w).setCell (p:=⟨g,i,none⟩) (.inl (by simp)) v)
structure SgTo (w w':World) (g:Nat) (s:Sr) (tv:Value) (l:By) (n:Nat):Prop where
 blk:∃sv A c,Blk w' g 308 (arrWi s sv tv (.slice A (l.length-(8+16*n)) c))∧OwD w' w.heap.size sv (segsOf l n)∧SlY w' 0 (.slice A (l.length-(8+16*n)) c) (l.drop (8+16*n))
def SgPost (w w':World) (g:Nat) (s:Sr) (tv:Value) (l:By) (n:Nat) (e:Ending):Prop:=
 (10<n∧e=.returned (.int .i64 8))∨(n≤10∧l.length<8+16*n∧e=.returned (.int .i64 5)) ∨
    (n≤10∧8+16*n≤l.length∧¬(0≤s.left∧s.left<(n:Int))∧e=.returned (.int .i64 5)) ∨
    (n≤10∧8+16*n≤l.length∧(0≤s.left∧s.left<(n:Int))∧e=.returned (.int .i64 0)∧SgTo w w' g s tv l n)
theorem wsegs_any {w0 w:World} {g:Nat} {s:Sr} {tv v:Value} {l:By} (hs:SlY w0 0 v l) (hb:okB l) (hl:l.length≤1000000) (hc0:Chg [] w0 w) (hg:w0.heap.size≤g)
  (h:Blk w g 308 (arrWi s noV tv noV)) (hv:tv.oneCell'=true) {n:Nat} (hn:1≤n) (hn2:n≤256) :
  Calls Tryz.prog 209 #[.pointer (some ⟨g,0,none⟩),v,.int .i64 n] w fun e w'=>Chg [g] w w'∧SgPost w w' g s tv l n e:=by
 obtain⟨A,c,rfl⟩:=hs.form;have HC0:=zH hc0;have HS:=zH hs;have HB:=zH hb;have hgw:=h.lt;have HBl:=zH h;generalize hln:l.length=N at *;have HLN:=zH hln;by_cases h10:10<n
 ·have hI:(10:Int)<(n:Int):=by omega
  clear hs hb hc0 h hln hl;have HPo:Hid (∀w',SgPost w w' g s tv l n (.returned (.int .i64 8))):=zH fun _=>.inl ⟨h10,rfl⟩
  go_enter Tryz.func209,Tryz.ntmps209
  go_wp2_with fail;go_ret
  exact⟨Chg.refl _ _,HPo.out _⟩
 ·have hI:¬(10:Int)<(n:Int):=by omega
  have w1:IntKind.i64.wrap (16*(n:Int))=16*(n:Int):=by rw[IntKind.wrap_i64];omega
  have w2:IntKind.i64.wrap (8+16*(n:Int))=((8+16*n:Nat):Int):=by rw[IntKind.wrap_i64];omega
  by_cases hlt:N<8+16*n
  ·have hJ:(N:Int)<((8+16*n:Nat):Int):=by omega
   generalize hz:8+16*n=z at *;have HPo:Hid (∀w',SgPost w w' g s tv l n (.returned (.int .i64 5))):=zH fun _=>.inr (.inl ⟨by omega,by omega,rfl⟩)
   clear hs hb hc0 h hln hl;go_enter Tryz.func209,Tryz.ntmps209
   go_wp2_with fail;go_ret
   exact⟨Chg.refl _ _,HPo.out _⟩
  ·have hJ:¬(N:Int)<((8+16*n:Nat):Int):=by omega
   generalize hz:8+16*n=z at *;have HZ:=zH hz;have hn10:n≤10:=by omega
   have hzN:z≤N:=by omega
   clear hs hb hc0 h hln hz hlt h10 hI;go_enter Tryz.func209,Tryz.ntmps209
   go_wp2_with fail;generalize decide ((10:Int)<(n:Int))=q1;go_loopw [8] (fun av wr=>∃(k p:Nat),k≤n∧p=8+16*k∧av=.int .i64 p∧Hid (∃sv,Blk wr g 308 (arrWi s sv tv noV)∧OwD wr w.heap.size sv (segsOf l k))∧Hid (Chg [g] w wr)) (fun av _=>1000-(intOf av).toNat)
   case atStart=>exact⟨0,8,by omega,rfl,rfl,zH ⟨_,HBl.out,World.ownsRow_nil ..⟩,zH (Chg.refl _ _)⟩
   case round=>
    obtain⟨k,p,hk,hp,rfl,HK,HC⟩:=hrel;by_cases hkn:k<n
    ·have hz':=HZ.out;have hN':=HLN.out;have hpz:(p:Int)<(z:Int):=by omega
     have hp16:p+16≤N:=by omega
     have hpz':p<1000:=by omega
     have wp:IntKind.i64.wrap ((p:Int)+16)=(p:Int)+16:=by rw[IntKind.wrap_i64];omega
     have H0:Hid (Chg [] w0 wr):=zH (HC0.out.trans' HC.out (fun y hy=>by simp at hy;subst hy;right;omega));obtain⟨X,hXr,hsX⟩:=cutY3 HS.out (lo:=p) (hi:=p+16) (by omega) (by omega);have e16:p+16-p=16:=by omega
     rw[e16]at hsX hXr;have ead:=bytes_ad (l:=l) (i:=p) (by omega);have HX:Hid (Sl w0 0 1 (.slice X 16 16) 16 (encA (adAt l p))):=zH (by
      have:=hsX;unfold SlY at this;rw[show ((l.drop p).take 16).length=16 by simp;omega,ead]at this;exact this)
     have hXr':∀W:World,(Instr.slice 22 (.slice A N c) (some (.int .i64 (p:Int))) (some (.int .i64 ((p:Int)+16))) (some (.int .i64 ((p:Int)+16)))).run Tryz.prog W=.ok (.slice X 16 16) W:=fun W=>by
      have:=hXr W;rw[Int.natCast_add]at this;exact this
     have HSG:Hid (segsOf l (k+1)=segsOf l k ++ [adAt l p]):=zH (by rw[hp];rfl);obtain⟨sv,hBk,hOk⟩:=HK.out;have hLk:Hid ((segsOf l k).length=k):=zH (segsOf_len l k);have hA:=(Chg.refl [] wr).alloc (.cells (arrA ad0) 24)
     have hB9:Blk (wr.alloc (.cells (arrA ad0) 24)) wr.heap.size 24 (arrA ad0):=Blk.new _ _ _;have hBg:=hBk.chg hA (by simp);have hO1:Hid (OwD (wr.alloc (.cells (arrA ad0) 24)) w.heap.size sv (segsOf l k)):=zH (own_chg hOk hA (by simp));have hOB:=own_lt hOk;have hgr:=hBk.lt
     have HI:=zH (And.intro hA (And.intro hB9 hBg));generalize adAt l p=x at *;generalize segsOf l k=L at *;have HPk:=zH hp;clear hXr hsX ead hB9 hBg hA HK hBk hOk hN' e16 hp hz';go_upto_region 10 with fail
     obtain⟨hA,hB9,hBg⟩:=HI.out;generalize wr.alloc (.cells (arrA ad0) 24)=w1 at *;have h01:Chg [] w0 w1:=H0.out.trans hA;generalize hg9:wr.heap.size=g9 at *;have hne9:g9≠g:=by omega
     clear HI;have hS0:Chg [g9] w1 w1.drew:=(Chg.refl [g9] w1).drew;have hX1:Sl w1.drew 0 1 (.slice X 16 16) 16 (encA x):=(HX.out.chg0 h01).chg0 (Chg.refl [] w1).drew;refine wp_region_held_drew (S:=Chg [g9] w1) (by kernel_rfl) hS0 (fun _=>?_);refine zU 0 rfl (by go_simp<;>with_reducible rfl) ?_
     try simp only[zP]
     refine zU 1 rfl (by go_simp<;>with_reducible rfl) ?_
     try simp only[zP]
     refine zU 2 rfl (by go_simp<;>with_reducible rfl) ?_
     try simp only[zP]
     refine zU 3 rfl (by go_simp<;>with_reducible rfl) ?_
     try simp only[zP]
     refine zU 4 rfl (by go_simp<;>with_reducible rfl) ?_
     try simp only[zP]
     refine zU 5 rfl (by go_simp<;>with_reducible rfl) ?_
     try simp only[zP]
     refine zU 6 rfl (by go_simp<;>with_reducible rfl) ?_
     try simp only[zP]
     refine zU 7 rfl (by go_simp<;>with_reducible rfl) ?_
     try simp only[zP]
     refine zR 8 rfl (fun K hK=>?_);refine step_copy_blk rfl (.tmp 24) (.tmp 31) 22 22 rfl 5 Tryz.underlying22 (by kernel_rfl) hB9.drew rfl rfl hX1 (by omega) (by omega) (encA_one _) (by simp) ?_;intro w2 hB2 hc2;rw[splice_all (by rfl)]at hB2;have hB2':Blk w2 g9 24 (arrA x):=hB2
     have hS2:Chg [g9] w1 w2:=hS0.trans hc2;refine zB hK ?_;clear hK K
     try simp only[zP]
     refine wpAnyH_done (by kernel_rfl) ?_ _;have hBg2:=hBg.chg hS2 (by simp;omega);have hO2:Hid (OwD w2 w.heap.size sv L):=zH (own_chg hO1.out hS2 (fun y hy=>by have:=(hOB y hy).2;simp;omega))
     have HC2:Hid (Chg [g] w w2):=zH ((HC.out.trans (hA.more (by simp))).trans' hS2 (fun y hy=>by simp at hy;subst hy;right;have:=HC.out.size;omega));have HGO:Hid (g∉sv.ownBlock.toList):=zH (fun hm=>by have:=(hOB g hm).1;omega)
     have HG9:Hid (g9∉sv.ownBlock.toList):=zH (fun hm=>by have:=(hOB g9 hm).2;omega);clear hS0 hX1 hB2 hc2 hB9 hBg hA hS2 h01 hXr' HX H0 HC hO1;go_upto_region 11 with fail
     have c4:w2.cell? ⟨g,4,none⟩=some sv:=hBg2.cell 4;have c4d:w2.drew.cell? ⟨g,4,none⟩=some sv:=c4;have hS2:w2.drew.rangeAt g9 0 (arrA x).toList:=hB2'.drew.rangeQ;have hgo:g∉sv.ownBlock.toList:=HGO.out;have hg9o:g9∉sv.ownBlock.toList:=HG9.out;obtain⟨A4,cp4,rfl⟩:=Sl.form (Sl.of_own hO2.out)
     refine wp_region_held_drew (S:=fun W:World=>W.rangeAt g9 0 (arrA x).toList) (by kernel_rfl) hS2 (fun _=>?_);refine zU 0 rfl (by go_simp<;>with_reducible rfl) ?_
     try simp only[zP]
     refine zU 1 rfl (by go_simp<;>with_reducible rfl) ?_
     try simp only[zP]
     refine zU 2 rfl (by go_simp<;>with_reducible rfl) ?_
     try simp only[zP]
     refine zU 3 rfl (by go_simp<;>with_reducible rfl) ?_
     try simp only[zP]
     refine zU 4 rfl (by go_simp<;>with_reducible rfl) ?_
     try simp only[zP]
     refine zT 6 rfl (yields_row (by rfl) 24 (.tmp 9) rfl g9 0 rfl (arrA x) _ (fun W h=>h) Tryz.underlying24 rfl infAd) ?_
     try simp only[zP]
     refine wpAnyH_ready (rs:=[5,7]) (by kernel_rfl) (by simp) (AllReadyH.cons rfl (fun K hK=>?_) (AllReadyH.cons rfl (fun K hK=>?_) AllReadyH.nil))
     ·refine step_run (v:=.slice A4 L.length cp4) (w':=w2.drew) rfl (by go_simp<;>rfl) ?_;refine zB hK ?_;clear hK K
      try simp only[zP]
      refine zR 7 rfl (fun K hK=>?_);refine step_run (v:=.slice (some ⟨w2.heap.size,0,none⟩) 1 1) (w':=w2.drew.alloc (.cells (arrA x) 24)) rfl (by go_simp<;>rfl) ?_;have hc4:Chg [] w2 (w2.drew.alloc (.cells (arrA x) 24)):=(Chg.refl [] w2).drew.alloc _
      have hS4:(w2.drew.alloc (.cells (arrA x) 24)).rangeAt g9 0 (arrA x).toList:=rangeAt_chg hB2'.rangeQ hc4 (by simp);have hO4:=own_chg hO2.out hc4 (by simp);have hBg4:=hBg2.chg hc4 (by simp)
      have hl4:Sl (w2.drew.alloc (.cells (arrA x) 24)) 0 16 (.slice (some ⟨w2.heap.size,0,none⟩) 1 1) 1 (encA x):=litD w2.drew x;have hw4:w.heap.size≤(w2.drew.alloc (.cells (arrA x) 24)).heap.size:=Nat.le_trans HC2.out.size hc4.size;have hg4:g<w2.heap.size:=hBg2.lt
      generalize hn4:w2.heap.size=n4 at *;have hn4':n4≤(w2.drew.alloc (.cells (arrA x) 24)).heap.size:=by have:=hc4.size;omega
      have hn4e:w2.drew.heap.size=n4:=hn4;generalize w2.drew.alloc (.cells (arrA x) 24)=w4 at *;refine zB hK ?_;clear hK K
      try simp only[zP]
      refine zR 8 rfl (fun K hK=>?_);refine step_app elD rfl (.tmp 38) (.tmp 40) rfl w.heap.size rfl hO4 rfl hl4 (encA_one _) (by unfold maxLen;have:=hLk.out;omega) (by have:=hLk.out;omega) hw4 ?_;intro v5 w5 hown5 hc5 hb5;have hS5:w5.rangeAt g9 0 (arrA x).toList:=rangeAt_chg hS4 hc5 hg9o
      have hBg5:=hBg4.chg hc5 hgo;have hgv5:g∉v5.ownBlock.toList:=fun hm=>by
       rcases hb5 with e|e
       ·rw[e]at hm;exact hgo hm
       ·rw[e]at hm;simp at hm;omega
      obtain⟨A5,n5,cp5,rfl⟩:∃A n c,v5=.slice A n c:=by
       obtain⟨A,c,e⟩:=Sl.form (Sl.of_own hown5);exact⟨A,_,c,e⟩
      refine zB hK ?_;clear hK K
      try simp only[zP]
      refine zU 9 rfl (by go_simp<;>with_reducible rfl) ?_
      try simp only[zP]
      refine zU 10 rfl (by go_simp<;>with_reducible rfl) ?_
      try simp only[zP]
      refine zU 11 rfl (by go_simp<;>with_reducible rfl) ?_
      try simp only[zP]
      refine zR 12 rfl (fun K hK=>?_);refine step_store_cell rfl 27 (.tmp 44) (.tmp 41) rfl hBg5 rfl rfl rfl (by simp) (by kernel_rfl) rfl ?_;intro w6 hB6 hc6;have hS6:w6.rangeAt g9 0 (arrA x).toList:=rangeAt_chg hS5 hc6 (by simp;omega);refine zB hK ?_;clear hK K
      try simp only[zP]
      refine wpAnyH_done (by kernel_rfl) ?_ _;have HK6:Hid (∃sv,Blk w6 g 308 (arrWi s sv tv noV)∧OwD w6 w.heap.size sv (segsOf l (k+1))):=zH ⟨_,hB6,by
       rw[HSG.out];unfold OwD;rw[List.length_append,←flat_snoc];exact own_chg hown5 hc6 (fun y hy hm=>hgv5 (by simp at hm;subst hm;exact hy))⟩
      have HC6:Hid (Chg [g] w w6):=zH (((HC2.out.trans (hc4.more (by simp))).trans' hc5 (fun y hy=>.inr (hOB y hy).1)).trans hc6);clear hS2 hS4 hS5 hS6 hB6 hc6 hc5 hc4 hb5 hown5 hBg4 hBg5 hO4 hl4 hw4 c4 c4d hBg2 hB2' hO2 HC2 hgv5;go_wp2_with fail;go_roundw
      case rel=>exact⟨k+1,p+16,by omega,by have:=HPk.out;omega,by go_num,HK6,HC6⟩
      case measure=>simp[intOf];omega
     ·refine step_run (v:=.slice (some ⟨w2.heap.size,0,none⟩) 1 1) (w':=w2.drew.alloc (.cells (arrA x) 24)) rfl (by go_simp<;>rfl) ?_;have hc4:Chg [] w2 (w2.drew.alloc (.cells (arrA x) 24)):=(Chg.refl [] w2).drew.alloc _
      have hS4:(w2.drew.alloc (.cells (arrA x) 24)).rangeAt g9 0 (arrA x).toList:=rangeAt_chg hB2'.rangeQ hc4 (by simp);have hO4:=own_chg hO2.out hc4 (by simp);have hBg4:=hBg2.chg hc4 (by simp)
      have hl4:Sl (w2.drew.alloc (.cells (arrA x) 24)) 0 16 (.slice (some ⟨w2.heap.size,0,none⟩) 1 1) 1 (encA x):=litD w2.drew x;have hw4:w.heap.size≤(w2.drew.alloc (.cells (arrA x) 24)).heap.size:=Nat.le_trans HC2.out.size hc4.size;have hg4:g<w2.heap.size:=hBg2.lt
      generalize hn4:w2.heap.size=n4 at *;have hn4':n4≤(w2.drew.alloc (.cells (arrA x) 24)).heap.size:=by have:=hc4.size;omega
      have hn4e:w2.drew.heap.size=n4:=hn4;have c44:(w2.drew.alloc (.cells (arrA x) 24)).cell? ⟨g,4,none⟩=some (.slice A4 L.length cp4):=hBg4.cell 4;generalize w2.drew.alloc (.cells (arrA x) 24)=w4 at *;refine zB hK ?_;clear hK K
      try simp only[zP]
      refine zR 5 rfl (fun K hK=>?_);refine step_run (v:=.slice A4 L.length cp4) (w':=w4) rfl (by go_simp<;>rfl) ?_;refine zB hK ?_;clear hK K
      try simp only[zP]
      refine zR 8 rfl (fun K hK=>?_);refine step_app elD rfl (.tmp 38) (.tmp 40) rfl w.heap.size rfl hO4 rfl hl4 (encA_one _) (by unfold maxLen;have:=hLk.out;omega) (by have:=hLk.out;omega) hw4 ?_;intro v5 w5 hown5 hc5 hb5;have hS5:w5.rangeAt g9 0 (arrA x).toList:=rangeAt_chg hS4 hc5 hg9o
      have hBg5:=hBg4.chg hc5 hgo;have hgv5:g∉v5.ownBlock.toList:=fun hm=>by
       rcases hb5 with e|e
       ·rw[e]at hm;exact hgo hm
       ·rw[e]at hm;simp at hm;omega
      obtain⟨A5,n5,cp5,rfl⟩:∃A n c,v5=.slice A n c:=by
       obtain⟨A,c,e⟩:=Sl.form (Sl.of_own hown5);exact⟨A,_,c,e⟩
      refine zB hK ?_;clear hK K
      try simp only[zP]
      refine zU 9 rfl (by go_simp<;>with_reducible rfl) ?_
      try simp only[zP]
      refine zU 10 rfl (by go_simp<;>with_reducible rfl) ?_
      try simp only[zP]
      refine zU 11 rfl (by go_simp<;>with_reducible rfl) ?_
      try simp only[zP]
      refine zR 12 rfl (fun K hK=>?_);refine step_store_cell rfl 27 (.tmp 44) (.tmp 41) rfl hBg5 rfl rfl rfl (by simp) (by kernel_rfl) rfl ?_;intro w6 hB6 hc6;have hS6:w6.rangeAt g9 0 (arrA x).toList:=rangeAt_chg hS5 hc6 (by simp;omega);refine zB hK ?_;clear hK K
      try simp only[zP]
      refine wpAnyH_done (by kernel_rfl) ?_ _;have HK6:Hid (∃sv,Blk w6 g 308 (arrWi s sv tv noV)∧OwD w6 w.heap.size sv (segsOf l (k+1))):=zH ⟨_,hB6,by
       rw[HSG.out];unfold OwD;rw[List.length_append,←flat_snoc];exact own_chg hown5 hc6 (fun y hy hm=>hgv5 (by simp at hm;subst hm;exact hy))⟩
      have HC6:Hid (Chg [g] w w6):=zH (((HC2.out.trans (hc4.more (by simp))).trans' hc5 (fun y hy=>.inr (hOB y hy).1)).trans hc6);clear hS2 hS4 hS5 hS6 hB6 hc6 hc5 hc4 hb5 hown5 hBg4 hBg5 hO4 hl4 hw4 c4 c4d c44 hBg2 hB2' hO2 HC2 hgv5;go_wp2_with fail;go_roundw
      case rel=>exact⟨k+1,p+16,by omega,by have:=HPk.out;omega,by go_num,HK6,HC6⟩
      case measure=>simp[intOf];omega
    ·obtain rfl:k=n:=by omega
     have hz':=HZ.out;have hpz:p=z:=by omega
     subst hpz;have hI2:¬(p:Int)<(p:Int):=by omega
     obtain⟨sv,hBk,hOk⟩:=HK.out;have hN':=HLN.out;have hLk:=segsOf_len l k;have H0:Chg [] w0 wr:=HC0.out.trans' HC.out (fun y hy=>by simp at hy;subst hy;right;omega);obtain⟨X,hXr,hsX⟩:=cutY3 HS.out (lo:=p) (hi:=N) (by omega) (by omega)
     have hel:(l.drop p).take (N-p)=l.drop p:=by rw[List.take_of_length_le];rw[List.length_drop];omega
     rw[hel]at hsX;obtain⟨A4,cp4,rfl⟩:=Sl.form (Sl.of_own hOk);rw[hLk]at hOk hBk;have hOk':wr.ownsRow w.heap.size 24 16 (.slice A4 k cp4) k ((segsOf l k).flatMap encA):=by
      have:=hOk;unfold OwD at this;rw[hLk]at this;exact this
     have c6:wr.cell? ⟨g,6,none⟩=some noV:=hBk.cell 6;have f6:=hBk.frozen 6;have hB9:Blk (wr.setCell ⟨g,6,none⟩ (.slice X (N-p) (N-p))) g 308 (arrWi s (.slice A4 k cp4) tv (.slice X (N-p) (N-p))):=hBk.set_ 6 _
     have hC9:Chg [g] wr (wr.setCell ⟨g,6,none⟩ (.slice X (N-p) (N-p))):=(Chg.refl [g] wr).setCell (p:=⟨g,6,none⟩) (.inl (by simp)) _;have hgo:g∉(Value.slice A4 k cp4).ownBlock.toList:=fun hm=>by have:=(own_lt hOk g hm).1;omega
     have FH:=zH (whas_any hB9 s.left);have c1:(wr.setCell ⟨g,6,none⟩ (.slice X (N-p) (N-p))).cell? ⟨g,1,none⟩=some (.int .i64 s.left):=hB9.cell 1;have HT:Hid (SgTo w (wr.setCell ⟨g,6,none⟩ (.slice X (N-p) (N-p))) g s tv l k):=zH ⟨_,X,N-p,by rw[hN',hz'];exact hB9,by
      unfold OwD;rw[hLk];exact own_chg hOk' hC9 (fun y hy hm=>hgo (by simp at hm;subst hm;exact hy)),by
      rw[hN',hz'];exact SlY.chg0 hsX (H0.trans' hC9 (fun y hy=>by simp at hy;subst hy;right;omega))⟩
     have HC9:Hid (Chg [g] w (wr.setCell ⟨g,6,none⟩ (.slice X (N-p) (N-p)))):=zH (HC.out.trans hC9);have H5:Hid (∀w',¬(0≤s.left∧s.left<(k:Int))→SgPost w w' g s tv l k (.returned (.int .i64 5))):=zH (fun w' hne=>.inr (.inr (.inl ⟨by omega,by omega,hne,rfl⟩)))
     have H0p:Hid (∀w',(0≤s.left∧s.left<(k:Int))→SgTo w w' g s tv l k→SgPost w w' g s tv l k (.returned (.int .i64 0))):=zH (fun w' hne ht=>.inr (.inr (.inr ⟨by omega,by omega,hne,rfl,ht⟩)));by_cases hhas:0≤s.left∧s.left<(k:Int)
     ·rw[decide_eq_true hhas]at FH;have HH:=zH hhas;clear hBk hOk hOk' H0 hsX hB9 hC9 hel hN' hLk hgo HK HC hz' hhas hp;go_wp2_with fail;refine FH.out.mono ?_;rintro e w3 ⟨rfl,rfl⟩;go_wp2_with fail;go_ret
      exact⟨HC9.out,H0p.out _ HH.out HT.out⟩
     ·rw[decide_eq_false hhas]at FH;have HH:=zH hhas;clear hBk hOk hOk' H0 hsX hB9 hC9 hel hN' hLk hgo HK HC hz' hhas hp;go_wp2_with fail;refine FH.out.mono ?_;rintro e w3 ⟨rfl,rfl⟩;go_wp2_with fail;go_ret
      exact⟨HC9.out,H5.out _ HH.out⟩
end Go.Proofs.YtgbndaiifbogmaaGreat
namespace Go.Proofs.YtgbndaiifbogmaaGreat
open Go.RowKit Go.Maps
theorem wpList_store_cell {P:Program} {ops:Array Oper} {rest:List Oper} {op:Oper} {a:Act} {w:World} {Q:Exit→Act→World→Prop} {g i:Nat} {e:TypeId} {cs:Array Value} {v:Value} (hgd:op.guard=none) (ty:TypeId) (x y:Operand) (ho:op.op=.store ty x y) (hd:op.dst=none)
  (hb:Blk w g e cs) (hx:a.eval x=.pointer (some ⟨g,i,none⟩)) (hy:a.eval y=v) (hv:v.cells=#[v]) (hi:i<cs.size) (hs:(P.info? ty).map (·.size)=some 1) (h1:v.oneCell'=true)
  (h:∀w',Blk w' g e (cs.setIfInBounds i v)→Chg [g] w w'→wpList P ops Q rest a w'):wpList P ops Q (op::rest) a w:=by
 refine wpList_plain hgd fun K hK=>?_
 have hrun:(storeVar ty ⟨g,i,none⟩ v).run P w=.ok () (w.setCell ⟨g,i,none⟩ v):=by
  have:=run_storeCells_cells (P:=P) g i [v] 0 w (fun j hj=>by
   obtain rfl:j=0:=by simpa using hj
   rw[hb.cell];simp[hi]) (fun j hj=>by
   obtain rfl:j=0:=by simpa using hj
   exact hb.frozen i) (fun u hu=>by simp at hu;subst hu;exact h1)
  cases hq:P.info? ty with
  |none=>simp[hq]at hs
  |some inf=>
   have hsz:inf.size=1:=by simpa[hq]using hs
   simp only[Nat.add_zero]at this;simp[storeVar,sizeOf,typeInfo,hq,hv,hsz];exact this
 unfold Oper.wp execOp;simp only[ho,hx,hy,Instr.storeAt,Instr.sureAddr,Sem.run_bind,Sem.run_pure,Result.andThen_ok,hrun];refine hK _ _ ?_;have e1:a.put op.dst undef=a:=by rw[hd];rfl
 rw[e1];exact h _ (hb.set_ i v) ((Chg.refl [g] w).setCell (p:=⟨g,i,none⟩) (.inl (by simp)) v)
end Go.Proofs.YtgbndaiifbogmaaGreat
namespace Go.Proofs.YtgbndaiifbogmaaGreat
open Go.RowKit Go.Maps
theorem wi_range {w:World} {g:Nat} {s:Sr} {sv tv tl:Value} (h:Blk w g 308 (arrWi s sv tv tl)):w.rangeAt g 0 (arrSr s sv tv).toList:=fun j u hu=>by
 have hj:j<6:=(List.getElem?_eq_some_iff.1 hu).1;rw[Nat.zero_add,h.cell,←hu];have:j=0∨j=1∨j=2∨j=3∨j=4∨j=5:=by omega
 rcases this with rfl|rfl|rfl|rfl|rfl|rfl<;>rfl
theorem adAt_take {l:By} {m i:Nat} (h:i+16≤m):adAt (l.take m) i=adAt l i:=by
 unfold adAt;rw[gB_take (by omega),gB_take (by omega),gB_take (by omega),gB_take (by omega),gB_take (by omega),gB_take (by omega),gB_take (by omega),gB_take (by omega),
  gB_take (by omega),gB_take (by omega),gB_take (by omega),gB_take (by omega),gB_take (by omega),gB_take (by omega),gB_take (by omega),gB_take (by omega)]
theorem segsOf_take {l:By} {m:Nat}:∀n,8+16*n≤m→segsOf (l.take m) n=segsOf l n
 |0,_=>rfl
 |n+1,h=>by
  unfold segsOf;rw[segsOf_take n (by omega),adAt_take (by omega)]
@[reducible] def arrS0:Array Value:=#[.int .i64 0,.int .i64 0,.int .i64 0,.int .i64 0,noV,noV]
theorem infS0:(Tryz.prog.info? 30).map (·.size)=some arrS0.size:=by
 show _=some 6;kernel_rfl
theorem results_blk3 {P:Program} {w:World} {g:Nat} {e:TypeId} {cs:Array Value} {fn:Func} {p q r:Tmp} {ty:TypeId} (h:fn.results=#[.cell p ty,.tmp q,.tmp r]) {tmps:Array Value} (hp:tmps.getD p undef=.pointer (some ⟨g,0,none⟩)) (hb:Blk w g e cs)
  (d:TypeDesc) (hu:P.underlying ty=some d) (hd:d.isRow=true) (hi:(P.info? ty).map (·.size)=some cs.size):(results fn tmps).run P w=.ok (.tuple #[.agg cs,tmps.getD q undef,tmps.getD r undef]) w:=by
 have hp':tmps[p]?.getD undef=.pointer (some ⟨g,0,none⟩):=by simpa using hp
 simp[results,h,hp',asAddr,run_loadVar_blk hb ty d hu hd hi]
def SrPost (x:Ans (Sr×Nat)) (B:Nat) (e:Ending) (w':World):Prop:=match x with
 |.error n=>e=.returned (.tuple #[.agg arrS0,.int .i64 0,.int .i64 n])
 |.ok (s,n)=>∃sv A m c,e=.returned (.tuple #[.agg (arrSr s sv (.slice A m c)),.int .i64 (n:Nat),.int .i64 0])∧SlD w' B sv s.segs
theorem SrPost.err {x:Ans (Sr×Nat)} {B:Nat} {w':World} {n:Int} (h:x=.error n):SrPost x B (.returned (.tuple #[.agg arrS0,.int .i64 0,.int .i64 n])) w':=by subst h;rfl
theorem SrPost.ok {x:Ans (Sr×Nat)} {B:Nat} {w':World} {s:Sr} {n:Nat} {sv:Value} {A:Option Addr} {m c:Nat} (h:x=.ok (s,n)) (hs:SlD w' B sv s.segs) :
  SrPost x B (.returned (.tuple #[.agg (arrSr s sv (.slice A m c)),.int .i64 (n:Nat),.int .i64 0])) w':=by subst h;exact⟨sv,A,m,c,rfl,hs⟩
theorem srhp_any {w:World} {B:Nat} {v:Value} {l:By} (h:SlY w B v l) (hb:okB l) (hl:l.length≤1000000) :
  Calls Tryz.prog 154 #[v] w fun e w'=>SrPost (srhS l) w.heap.size e w'∧Chg [] w w':=by
 obtain⟨A,c,rfl⟩:=h.form;have hs:=h.less (Nat.zero_le _);have HX:Hid (srhS l=srhS l):=zH rfl;have hA:=(Chg.refl [] w).alloc (.cells arrS0 30);have hB0:Blk (w.alloc (.cells arrS0 30)) w.heap.size 30 arrS0:=Blk.new _ _ _;have HA:=zH hA;generalize hN:l.length=N at *;have HN:=zH hN;by_cases h8:N<8
 ·have hE:Hid (srhS l=.error 3):=zH (by unfold srhS;rw[hN,if_pos h8]);have hI:(N:Int)<8:=by omega
  generalize srhS l=x at *;clear h hs hb hl hA hN;go_enter Tryz.func154,Tryz.ntmps154
  go_wp2_with (first
   |(refine zs (vs:=arrS0) rfl 30 (.tmp 2) (.tmp 13) rfl rfl hB0 rfl rfl rfl infS0 rfl ?_;intro w9 hB9 hc9)
   |fail)
  refine bodyPost_ret (results_blk3 rfl rfl hB9 _ Tryz.underlying30 rfl infS0) rfl ?_;exact⟨SrPost.err hE.out,HA.out.trans' hc9 (zN (by omega))⟩
 ·have hI:¬(N:Int)<8:=by omega
  have hE1:Hid (srhS l=if N<8*gB l 1+8 then .error 3 else if gB l 2≠4 then .error 7
   else if 10<gB l 4+1 then .error 8 else if 8*gB l 1+8<8+16*(gB l 4+1) then .error 5 else if gB l 4+1≤gB l 3 then .error 5
   else if tlvS ((l.take (8*gB l 1+8)).drop (8+16*(gB l 4+1)))≠0 then .error (tlvS ((l.take (8*gB l 1+8)).drop (8+16*(gB l 4+1))))
   else .ok (⟨(gB l 0:Nat),(gB l 3:Nat),(gB l 5:Nat),(w2 l 6:Nat),segsOf l (gB l 4+1)⟩,8*gB l 1+8)):=zH (by
    conv=>lhs;unfold srhS
    rw[hN,if_neg h8])
  obtain⟨b,o,c',e,hcap,_,hcell⟩:=hs.all (by omega);simp only[Value.slice.injEq]at e;obtain⟨rfl,e2,rfl⟩:=e;clear e2;have HC:Hid (∀i,i<N→∀W,Chg [] w W→W.cell? ⟨b,o+i,none⟩=some (.int .u8 (gB l i:Nat))):=zH (fun i hi W hc=>hc.cell (hcell i (by omega)) (by simp));have g0:=gB_lt hb 0;have g1:=gB_lt hb 1
  have g2:=gB_lt hb 2;have g3:=gB_lt hb 3;have g4:=gB_lt hb 4;have g5:=gB_lt hb 5;have k1:=HC.out 1 (by omega) _ HA.out;have i1:(1:Int)<(N:Int):=by omega
  have wl1:IntKind.i64.wrap ((gB l 1:Nat)+1:Int)=(gB l 1:Nat)+1:=by rw[IntKind.wrap_i64];omega
  have wl2:IntKind.i64.wrap (8*(((gB l 1:Nat):Int)+1))=((8*gB l 1+8:Nat):Int):=by rw[IntKind.wrap_i64];omega
  obtain⟨lg,hlg⟩:∃lg,lg=8*gB l 1+8:=⟨_,rfl⟩;rw[←hlg]at wl2 hE1;by_cases hlong:N<lg
  ·have hE:Hid (srhS l=.error 3):=zH (by rw[hE1.out,if_pos hlong]);have hJ:(N:Int)<(lg:Int):=by omega
   generalize gB l 1=x1 at *;generalize srhS l=x at *;clear h hs hb hl hA hN hlong hlg hE1 HC hcell HX;go_enter Tryz.func154,Tryz.ntmps154
   go_wp2_with (first
    |(refine zs (vs:=arrS0) rfl 30 (.tmp 2) (.tmp 24) rfl rfl hB0 rfl rfl rfl infS0 rfl ?_;intro w9 hB9 hc9)
    |fail)
   refine bodyPost_ret (results_blk3 rfl rfl hB9 _ Tryz.underlying30 rfl infS0) rfl ?_;exact⟨SrPost.err hE.out,HA.out.trans' hc9 (zN (by omega))⟩
  ·have hJ:¬(N:Int)<(lg:Int):=by omega
   rw[if_neg hlong]at hE1;have k2:=HC.out 2 (by omega) _ HA.out;have i2:(2:Int)<(N:Int):=by omega
   by_cases h4:gB l 2=4
   ·rw[if_neg (by simpa using h4)]at hE1;rw[h4]at k2;obtain⟨hXr,hsT⟩:=cutYt hs (hi:=lg) (by omega);have HsT:=zH hsT;have HbT:=zH (hb.take lg);have hlT:(l.take lg).length=lg:=by rw[List.length_take];omega
    have FV:=zH (fun (W:World) (hc:Chg [] w W)=>(show Calls Tryz.prog 103 #[.slice (some ⟨b,o,none⟩) N c,.int .i64 6] W _ from u16_any (hs.chg0 hc) hb (by omega) (at_:=6) (by omega)));have k0w:=HC.out 0 (by omega);have k3w:=HC.out 3 (by omega);have k4w:=HC.out 4 (by omega)
    have k5w:=HC.out 5 (by omega);have HS1:Hid (∀n,8+16*n≤lg→segsOf (l.take lg) n=segsOf l n):=zH (fun n hn=>segsOf_take n hn);have k3:=w2_lt hb 6;have hlg0:8≤lg:=by omega
    have hlg1:lg≤3000:=by omega
    have hlgN:lg≤N:=by omega
    have i0:(0:Int)<(N:Int):=by omega
    have i0n:0<N:=by omega
    have i3:(3:Int)<(N:Int):=by omega
    have i4:(4:Int)<(N:Int):=by omega
    have i5:(5:Int)<(N:Int):=by omega
    have wz0:IntKind.i64.wrap ((gB l 0:Nat):Int)=(gB l 0:Nat):=by rw[IntKind.wrap_i64];omega
    have wz3:IntKind.i64.wrap ((gB l 3:Nat):Int)=(gB l 3:Nat):=by rw[IntKind.wrap_i64];omega
    have wz5:IntKind.i64.wrap ((gB l 5:Nat):Int)=(gB l 5:Nat):=by rw[IntKind.wrap_i64];omega
    have wz4:IntKind.i64.wrap ((gB l 4:Nat):Int)=(gB l 4:Nat):=by rw[IntKind.wrap_i64];omega
    have wz4':IntKind.i64.wrap (((gB l 4:Nat):Int)+1)=((gB l 4+1:Nat):Int):=by rw[IntKind.wrap_i64];omega
    have hn1:1≤gB l 4+1∧gB l 4+1≤256:=by omega
    have HT:=zH (fun (W:World) (v:Value) (m:By) (h:SlY W 0 v m) (hb:okB m) (hm:m.length≤1000000)=>tlv_any h hb hm);generalize gB l 4+1=n at *;generalize gB l 0=x0 at *;generalize gB l 1=x1 at *;generalize gB l 3=x3 at *;generalize gB l 4=x4 at *;generalize gB l 5=x5 at *;generalize w2 l 6=y6 at *
    generalize gB l 2=x2 at *;rw[Nat.add_zero]at k0w;have HXr:=zH hXr;clear h hs hb hl hA hN hlong hlg HC hcell HX h4 hsT hXr;go_enter Tryz.func154,Tryz.ntmps154
    go_upto_region 8 with fail
    have hA':=HA.out;have HBz:=zH hB0;generalize hw1:w.alloc (.cells arrS0 30)=w1 at *;have hgr0:w.heap.size<w1.heap.size:=by rw[←hw1];simp
    clear hw1 hB0 k1 k2;have hS0:Chg [] w1 w1.drew:=(Chg.refl [] w1).drew;have k0:∀W:World,Chg [] w1 W→W.cell? ⟨b,o,none⟩=some (.int .u8 (x0:Nat)):=fun W hc=>k0w W (hA'.trans hc)
    have k3c:∀W:World,Chg [] w1 W→W.cell? ⟨b,o+3,none⟩=some (.int .u8 (x3:Nat)):=fun W hc=>k3w W (hA'.trans hc)
    have k5:∀W:World,Chg [] w1 W→W.cell? ⟨b,o+5,none⟩=some (.int .u8 (x5:Nat)):=fun W hc=>k5w W (hA'.trans hc)
    refine wp_region_held_drew (S:=Chg [] w1) (by kernel_rfl) hS0 (fun _=>?_);refine zU 0 rfl (by go_simp<;>with_reducible rfl) ?_
    try simp only[zP]
    refine zU 1 rfl (by go_simp<;>with_reducible rfl) ?_
    try simp only[zP]
    refine zT 2 rfl (zc (by rfl) 5 (.tmp 31) rfl b o rfl (.int .u8 (x0:Nat)) _ k0 Tryz.underlying5 rfl) ?_
    try simp only[zP]
    refine zU 3 rfl (by go_simp<;>with_reducible rfl) ?_
    try simp only[zP]
    refine zU 4 rfl (by go_simp<;>with_reducible rfl) ?_
    try simp only[zP]
    refine zU 5 rfl (by go_simp<;>with_reducible rfl) ?_
    try simp only[zP]
    refine zT 6 rfl (zc (by rfl) 5 (.tmp 35) rfl b (o+3) rfl (.int .u8 (x3:Nat)) _ k3c Tryz.underlying5 rfl) ?_
    try simp only[zP]
    refine zU 7 rfl (by go_simp<;>with_reducible rfl) ?_
    try simp only[zP]
    refine zU 8 rfl (by go_simp<;>with_reducible rfl) ?_
    try simp only[zP]
    refine zU 9 rfl (by go_simp<;>with_reducible rfl) ?_
    try simp only[zP]
    refine zT 10 rfl (zc (by rfl) 5 (.tmp 39) rfl b (o+5) rfl (.int .u8 (x5:Nat)) _ k5 Tryz.underlying5 rfl) ?_
    try simp only[zP]
    refine zU 11 rfl (by go_simp<;>with_reducible rfl) ?_
    try simp only[zP]
    refine zU 12 rfl (by go_simp<;>with_reducible rfl) ?_
    try simp only[zP]
    refine zU 13 rfl (by go_simp<;>with_reducible rfl) ?_
    try simp only[zP]
    refine zR 14 rfl (fun K hK=>?_);refine step_run (v:=.pointer (some ⟨w1.heap.size,0,none⟩)) (w':=w1.drew.alloc (.cells (arrWi ⟨x0,x3,x5,0,[]⟩ noV noV noV) 308)) rfl (by go_simp<;>rfl) ?_;have hS3:Chg [] w1 (w1.drew.alloc (.cells (arrWi ⟨x0,x3,x5,0,[]⟩ noV noV noV) 308)):=hS0.alloc _
    have hB3:Blk (w1.drew.alloc (.cells (arrWi ⟨x0,x3,x5,0,[]⟩ noV noV noV) 308)) w1.heap.size 308 (arrWi ⟨x0,x3,x5,0,[]⟩ noV noV noV):=Blk.new' rfl;refine zB hK ?_;clear hK K
    try simp only[zP]
    refine zU 15 rfl (by go_simp<;>with_reducible rfl) ?_
    try simp only[zP]
    refine wpAnyH_done (by kernel_rfl) ?_ _;have hBz3:=HBz.out.chg hS3 (by simp);have HC3:=zH (hA'.trans hS3);generalize w1.drew.alloc (.cells (arrWi ⟨x0,x3,x5,0,[]⟩ noV noV noV) 308)=w3 at *;generalize hg6:w1.heap.size=g6 at *;clear hS3 hS0 k0 k3c k5 hg6 HBz;go_wp2_with fail
    refine (FV.out _ HC3.out).mono ?_;rintro e w4 ⟨rfl,hc4⟩;have hB4:=hB3.chg hc4 (by simp);have hBz4:=hBz3.chg hc4 (by simp);have HC4:=zH (HC3.out.trans hc4);have c3:w4.cell? ⟨g6,3,none⟩=some (.int .i64 0):=hB4.cell 3;have f3:=hB4.frozen 3
    have hB5:Blk (w4.setCell ⟨g6,3,none⟩ (.int .i64 (y6:Nat))) g6 308 (arrWi ⟨x0,x3,x5,y6,[]⟩ noV noV noV):=hB4.set_ 3 _;have hC5:Chg [g6] w4 (w4.setCell ⟨g6,3,none⟩ (.int .i64 (y6:Nat))):=(Chg.refl [g6] w4).setCell (p:=⟨g6,3,none⟩) (.inl (by simp)) _
    have HI:=zH (And.intro hB5 (And.intro (hBz4.chg hC5 (by simp;omega)) (HC4.out.trans' hC5 (fun y hy=>by simp at hy;subst hy;right;omega))));clear hB5 hC5 hB4 hBz4 hB3 hBz3 hc4;go_upto_region 10 with fail
    obtain⟨hB5,hBz5,hC5⟩:=HI.out;generalize w4.setCell ⟨g6,3,none⟩ (.int .i64 (y6:Nat))=w5 at *;clear HI c3 f3 HC3 HC4;have hXr:=HXr.out;have hS0:Chg [] w5 w5.drew:=(Chg.refl [] w5).drew;have hg6n:∀y∈[g6],y∈([]:List Nat)∨w.heap.size≤y:=fun y hy=>by simp at hy;subst hy;right;omega
    have k4:∀W:World,Chg [g6] w5 W→W.cell? ⟨b,o+4,none⟩=some (.int .u8 (x4:Nat)):=fun W hc=>k4w W (hC5.trans' hc hg6n)
    have FS:=zH (wsegs_any (w0:=w) (w:=w5.drew) (n:=n) HsT.out HbT.out (by omega) hC5.drew (by omega) hB5.drew rfl hn1.1 hn1.2);refine wp_region_held_drew (S:=Chg [g6] w5) (by kernel_rfl) (hS0.more (by simp)) (fun _=>?_);refine zU 0 rfl (by go_simp<;>with_reducible rfl) ?_
    try simp only[zP]
    refine zU 1 rfl (by go_simp<;>with_reducible rfl) ?_
    try simp only[zP]
    refine zU 2 rfl (by go_simp<;>with_reducible rfl) ?_
    try simp only[zP]
    refine zU 3 rfl (by go_simp<;>with_reducible rfl) ?_
    try simp only[zP]
    refine zU 4 rfl (by go_simp<;>with_reducible rfl) ?_
    try simp only[zP]
    refine zU 5 rfl (by go_simp<;>with_reducible rfl) ?_
    try simp only[zP]
    refine zT 6 rfl (zc (by rfl) 5 (.tmp 59) rfl b (o+4) rfl (.int .u8 (x4:Nat)) _ k4 Tryz.underlying5 rfl) ?_
    try simp only[zP]
    refine zU 7 rfl (by go_simp<;>with_reducible rfl) ?_
    try simp only[zP]
    refine zU 8 rfl (by go_simp<;>with_reducible rfl) ?_
    try simp only[zP]
    refine zR 9 rfl (fun K hK=>?_);go_simp
    refine FS.out.mono ?_;rintro e w6 ⟨hcS,hpost⟩;have hS6:Chg [g6] w5 w6:=((Chg.refl [g6] w5).drew).trans hcS;have hBz6:=hBz5.chg hS6 (by simp;omega);have HC6:Hid (Chg [] w w6):=zH (hC5.trans' hS6 hg6n);have hn10:∀q:Prop,q→q:=fun _ h=>h
    have HGW:Hid (g6<w5.drew.heap.size):=zH hB5.lt;have HSZ:Hid (w.heap.size<w5.drew.heap.size):=zH hBz5.lt;clear FS hS0 k4 hBz5 hB5 hC5 hXr FV;rcases hpost with ⟨hp,rfl⟩ | ⟨hp1,hp2,rfl⟩ | ⟨hp1,hp2,hp3,rfl⟩ | ⟨hp1,hp2,hp3,rfl,hto⟩
    ·have hE:Hid (srhS l=.error 8):=zH (by rw[hE1.out,if_pos hp]);clear hE1 hp;refine zB hK ?_;clear hK K
     try simp only[zP]
     refine zU 10 rfl (by go_simp<;>with_reducible rfl) ?_
     try simp only[zP]
     refine wpAnyH_done (by kernel_rfl) ?_ _;go_wp2_with (first
      |(refine zs (vs:=arrS0) rfl 30 (.tmp 2) (.tmp 66) rfl rfl hBz6 rfl rfl rfl infS0 rfl ?_;intro w9 hB9 hc9)
      |fail)
     refine bodyPost_ret (results_blk3 rfl rfl hB9 _ Tryz.underlying30 rfl infS0) rfl ?_;exact⟨SrPost.err hE.out,HC6.out.trans' hc9 (zN (by omega))⟩
    ·have hE:Hid (srhS l=.error 5):=zH (by rw[hE1.out,if_neg (by omega),if_pos (by rw[hlT]at hp2;exact hp2)]);clear hE1 hp1 hp2;refine zB hK ?_;clear hK K
     try simp only[zP]
     refine zU 10 rfl (by go_simp<;>with_reducible rfl) ?_
     try simp only[zP]
     refine wpAnyH_done (by kernel_rfl) ?_ _;go_wp2_with (first
      |(refine zs (vs:=arrS0) rfl 30 (.tmp 2) (.tmp 66) rfl rfl hBz6 rfl rfl rfl infS0 rfl ?_;intro w9 hB9 hc9)
      |fail)
     refine bodyPost_ret (results_blk3 rfl rfl hB9 _ Tryz.underlying30 rfl infS0) rfl ?_;exact⟨SrPost.err hE.out,HC6.out.trans' hc9 (zN (by omega))⟩
    ·rw[hlT]at hp2;have hE:Hid (srhS l=.error 5):=zH (by rw[hE1.out,if_neg (by omega),if_neg (by omega),if_pos (by simp only at hp3;omega)]);clear hE1 hp1 hp2 hp3;refine zB hK ?_;clear hK K
     try simp only[zP]
     refine zU 10 rfl (by go_simp<;>with_reducible rfl) ?_
     try simp only[zP]
     refine wpAnyH_done (by kernel_rfl) ?_ _;go_wp2_with (first
      |(refine zs (vs:=arrS0) rfl 30 (.tmp 2) (.tmp 66) rfl rfl hBz6 rfl rfl rfl infS0 rfl ?_;intro w9 hB9 hc9)
      |fail)
     refine bodyPost_ret (results_blk3 rfl rfl hB9 _ Tryz.underlying30 rfl infS0) rfl ?_;exact⟨SrPost.err hE.out,HC6.out.trans' hc9 (zN (by omega))⟩
    ·rw[hlT]at hp2;rw[if_neg (by omega),if_neg (by omega),if_neg (by simp only at hp3;omega)]at hE1;obtain⟨sv,A7,c7,hB7,hO7,hT7⟩:=hto.blk;rw[hlT]at hB7 hT7;rw[HS1.out n hp2]at hO7;have HO7:=zH hO7
     have FT:=zH (fun (W:World) (hc:Chg [] w6 W)=>HT.out W _ _ (hT7.chg0 hc) (HbT.out.drop _) (by rw[List.length_drop];omega));obtain⟨A8,cp8,rfl⟩:=Sl.form (Sl.of_own hO7);generalize (segsOf l n).length=m8 at *;generalize hz:8+16*n=z at *
     have c6:w6.cell? ⟨g6,6,none⟩=some (.slice A7 (lg-z) c7):=hB7.cell 6;clear hto hO7 hT7 hcS HT;refine zB hK ?_;clear hK K
     try simp only[zP]
     refine zU 10 rfl (by go_simp<;>with_reducible rfl) ?_
     try simp only[zP]
     refine wpAnyH_done (by kernel_rfl) ?_ _;go_wp2_with fail;refine (FT.out _ (Chg.refl _ _)).mono ?_;rintro e w7 ⟨⟨A9,n9,c9,rfl⟩,hc7⟩;clear FT;have hBz7:=hBz6.chg hc7 (by simp);have hB8:=hB7.chg hc7 (by simp);have HC7:=zH (HC6.out.trans hc7);have HO8:=zH (own_chg HO7.out hc7 (by simp))
     by_cases ht:tlvS ((l.take lg).drop z)=0
     ·rw[if_neg (by simpa using ht)]at hE1;rw[ht];have hE:=hE1;have c5:w7.cell? ⟨g6,5,none⟩=some noV:=hB8.cell 5;have f5:=hB8.frozen 5;have hB9:Blk (w7.setCell ⟨g6,5,none⟩ (.slice A9 n9 c9)) g6 308 (arrWi ⟨x0,x3,x5,y6,[]⟩ (.slice A8 m8 cp8) (.slice A9 n9 c9) (.slice A7 (lg-z) c7)):=hB8.set_ 5 _
      have hC9:Chg [g6] w7 (w7.setCell ⟨g6,5,none⟩ (.slice A9 n9 c9)):=(Chg.refl [g6] w7).setCell (p:=⟨g6,5,none⟩) (.inl (by simp)) _;have hg6O:g6∉(Value.slice A8 m8 cp8).ownBlock.toList:=fun hm=>by have:=(own_lt HO8.out g6 hm).1;have:=HGW.out;omega
      have hO9:Hid (SlD (w7.setCell ⟨g6,5,none⟩ (.slice A9 n9 c9)) w5.drew.heap.size (.slice A8 m8 cp8) (segsOf l n)):=zH (by
       have:=own_chg HO8.out hC9 (fun y hy hm=>hg6O (by simp at hm;subst hm;exact hy));exact Sl.of_own this)
      have HI:=zH (And.intro hB9 (And.intro (hBz7.chg hC9 (by simp;omega)) (HC7.out.trans' hC9 hg6n)));clear hB9 hC9 hB8 hBz7 hB7 hBz6 ht hE1 HO7 HO8 hc7 hg6O;go_upto_region 17 with fail
      obtain⟨hB9,hBz9,hC9⟩:=HI.out;generalize w7.setCell ⟨g6,5,none⟩ (.slice A9 n9 c9)=w8 at *;have hR9:=wi_range hB9;clear HI c5 f5 hB9;go_wp2_with (first
       |(refine wpList_load_mid rfl 30 (.tmp 87) rfl g6 0 rfl (arrSr ⟨x0,x3,x5,y6,[]⟩ (.slice A8 m8 cp8) (.slice A9 n9 c9)).toList _ hR9 Tryz.underlying30 rfl infSr ?_)
       |(refine zs (vs:=arrSr ⟨x0,x3,x5,y6,[]⟩ (.slice A8 m8 cp8) (.slice A9 n9 c9)) rfl 30 (.tmp 2) (.tmp 88) rfl rfl hBz9 rfl rfl rfl infSr rfl ?_;intro w9 hB10 hc10)
       |fail)
      refine bodyPost_ret (results_blk3 rfl rfl hB10 _ Tryz.underlying30 rfl infSr) rfl ?_;have hsd:=(Sl.chg hO9.out hc10 (fun y hy=>by simp at hy;subst hy;exact HSZ.out)).less (Nat.le_of_lt HSZ.out);exact⟨SrPost.ok (s:=⟨x0,x3,x5,y6,segsOf l n⟩) hE.out hsd,hC9.trans' hc10 (zN (by omega))⟩
     ·rw[if_pos ht]at hE1;have hE:Hid (srhS l=.error (tlvS ((l.take lg).drop z))):=hE1;have htI:((tlvS ((l.take lg).drop z))==0)=false:=by rw[beq_eq_false_iff_ne];exact ht
      generalize tlvS ((l.take lg).drop z)=t9 at *;clear ht hE1 hBz6 hB7 hB8 HC6 hc7 HO7;go_wp2_with (first
       |(refine zs (vs:=arrS0) rfl 30 (.tmp 2) (.tmp 78) rfl rfl hBz7 rfl rfl rfl infS0 rfl ?_;intro w9 hB9 hc9)
       |fail)
      refine bodyPost_ret (results_blk3 rfl rfl hB9 _ Tryz.underlying30 rfl infS0) rfl ?_;exact⟨SrPost.err hE.out,HC7.out.trans' hc9 (zN (by omega))⟩
   ·have hE:Hid (srhS l=.error 7):=zH (by rw[hE1.out,if_pos h4]);have hK:(((gB l 2:Nat):Int)==4)=false:=by rw[beq_eq_false_iff_ne];omega
    generalize gB l 1=x1 at *;generalize gB l 2=x2 at *;generalize srhS l=x at *;clear h hs hb hl hA hN hlong hlg hE1 HC hcell HX h4;go_enter Tryz.func154,Tryz.ntmps154
    go_wp2_with (first
     |(refine zs (vs:=arrS0) rfl 30 (.tmp 2) (.tmp 29) rfl rfl hB0 rfl rfl rfl infS0 rfl ?_;intro w9 hB9 hc9)
     |fail)
    refine bodyPost_ret (results_blk3 rfl rfl hB9 _ Tryz.underlying30 rfl infS0) rfl ?_;exact⟨SrPost.err hE.out,HA.out.trans' hc9 (zN (by omega))⟩
end Go.Proofs.YtgbndaiifbogmaaGreat

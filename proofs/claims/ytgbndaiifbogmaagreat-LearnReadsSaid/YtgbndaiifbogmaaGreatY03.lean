/-
  Small laws and walks on the way to LearnReads: DueDel, FHash, FlowLess, Put32, DueD. Conditions: each theorem names its own.
-/
import Derived.Test.YtgbndaiifbogmaaGreatY02
import Derived.Test.YtgbndaiifbogmaaGreatY00
import Derived.ArgAppend
import Derived.Test.YtgbndaiifbogmaaGreatY01
set_option linter.unusedVariables false
set_option linter.unusedSimpArgs false
set_option maxRecDepth 100000
set_option maxHeartbeats 8000000
namespace Go.Proofs.YtgbndaiifbogmaaGreat
open Go.RowKit
theorem sameI_any (a b c id:Int) (x:Nat) (w:World) (hx:w.cell? ⟨x,0,none⟩=some (.int .i64 id)) :
  Calls Tryz.prog 261 #[.agg #[.int .i64 a,.int .i64 b,.int .i64 c],.pointer (some ⟨x,0,none⟩)] w fun e w'=>e=.returned (.bool (b==id))∧Chg [] w w':=by
 have hx2:=((Chg.refl [] w).alloc (.cells #[.int .i64 a,.int .i64 b,.int .i64 c] 299)).cell hx (by simp);go_enter Tryz.func261,Tryz.ntmps261
 go_wp2
 go_ret
 exact⟨rfl,(Chg.refl _ _).alloc _⟩
def idxI (o:Option Nat):Int:=match o with|none=>-1|some i=>i
def hitI (l:List It) (id:Int):Option Nat:=l.findIdx? (fun t=>t.id==id)
theorem indexI_any {w:World} {g c cap:Nat} {l:List It} (id:Int) (x:Nat) (h:RowI w g c l) (hl:l.length≤3000) (hx:w.cell? ⟨x,0,none⟩=some (.int .i64 id)) :
  Calls Tryz.prog 292 #[.slice (some ⟨g,0,none⟩) l.length cap,.func (.func 261) #[] #[.pointer (some ⟨x,0,none⟩)]] w fun e w'=>
   e=.returned (.int .i64 (idxI (hitI l id)))∧Chg [] w w':=by
 have HS:=zH (fun a b c w1 (hc:Chg [] w w1)=>sameI_any a b c id x w1 (hc.cell hx (by simp)));have HR:=zH (fun w1 (hc:Chg [] w w1)=>h.chg hc (by simp));have HH:Hid (hitI l id=l.findIdx? (fun t=>t.id==id)):=zH rfl;clear h hx;generalize hn:l.length=n at *;go_enter Tryz.func292,Tryz.ntmps292
 go_wp2_with fail;go_loopw [8] (fun iv wr=>∃k:Nat,k≤n∧iv=.int .i64 k∧Chg [] w wr∧Hid (∀i t,i<k→l[i]?=some t→¬t.id=id)) (fun iv _=>n-(intOf iv).toNat)
 case atStart=>exact⟨0,by omega,rfl,Chg.refl _ _,zH (fun i t hi=>by omega)⟩
 case round=>
  obtain⟨k,hk,rfl,hcw,HN⟩:=hrel;by_cases hlt:k<n
  ·have ht:l[k]?=some (l[k]'(by omega)):=List.getElem?_eq_getElem _;generalize l[k]'(by omega)=t at ht;obtain⟨ta,tb,tc⟩:=t;have g0:=((HR.out wr hcw).at_ encI_len ht (j:=0) rfl).1;have g1:=((HR.out wr hcw).at_ encI_len ht (j:=1) rfl).1;have g2:=((HR.out wr hcw).at_ encI_len ht (j:=2) rfl).1
   simp only[Nat.add_zero]at g0;have F1:=zH (HS.out ta tb tc wr hcw);have HT:=zH ht;clear ht;go_wp2_with fail;refine F1.out.mono ?_;rintro e w1 ⟨rfl,hc1⟩;have hcz:=hcw.trans hc1;clear F1;by_cases hid:tb=id
   ·have hb:(tb==id)=true:=by simp[hid]
    have hr:hitI l id=some k:=by
     rw[HH.out,List.findIdx?_eq_some_iff_getElem];have h1:=HT.out;obtain⟨hlk,he⟩:=List.getElem?_eq_some_iff.1 h1;refine⟨hlk,by rw[he];simpa using hid,fun j hj=>?_⟩;have:=HN.out j (l[j]'(by omega)) hj (List.getElem?_eq_getElem _);simpa using this
    have HQ:=zH hr;clear hr;go_wp2_with fail;go_ret
    exact⟨by rw[HQ.out];rfl,hcz⟩
   ·have hb:(tb==id)=false:=by simp[hid]
    go_wp2_with fail;go_roundw
    case rel=>
     refine⟨k+1,by omega,by go_num,hcz,zH fun i t hi ht=>?_⟩;rcases Nat.lt_or_ge i k with h1|h1
     ·exact HN.out i t h1 ht
     ·rw[show i=k by omega,HT.out]at ht;injection ht with ht;subst ht;exact hid
    case measure=>simp[intOf];omega
  ·obtain rfl:k=n:=by omega
   have hr:hitI l id=none:=by
    rw[HH.out,List.findIdx?_eq_none_iff];intro t ht;obtain⟨i,hi,rfl⟩:=List.mem_iff_getElem.1 ht;have:=HN.out i _ (by omega) (List.getElem?_eq_getElem hi);simpa using this
   have HQ:=zH hr;clear hr;go_wp2_with fail;go_ret
   exact⟨by rw[HQ.out];rfl,hcw⟩
theorem set_take {α:Type} {l:List α} {i:Nat} {x:α} (h:i<l.length):(l.set i x).take (i+1)=l.take i ++ [x]:=by
 apply List.ext_getElem?;intro q;rcases Nat.lt_trichotomy q i with h1|h1|h1
 ·rw[List.getElem?_take_of_lt (by omega),List.getElem?_set_ne (by omega),List.getElem?_append_left (by rw[List.length_take];omega),List.getElem?_take_of_lt h1]
 ·subst h1;rw[List.getElem?_take_of_lt (by omega),List.getElem?_set_self h,List.getElem?_append_right (by rw[List.length_take];omega),List.length_take,show q-min q l.length=0 by omega];rfl
 ·rw[List.getElem?_take_eq_none (by omega),List.getElem?_eq_none (by simp;omega)]
theorem set_drop {α:Type} {l:List α} {i j:Nat} {x:α} (h:i<j):(l.set i x).drop j=l.drop j:=by
 apply List.ext_getElem?;intro q;rw[List.getElem?_drop,List.getElem?_drop,List.getElem?_set_ne (by omega)]
theorem zeroIt (w:World):(zeroValue 299).run Tryz.prog w=.ok (.agg #[.int .i64 0,.int .i64 0,.int .i64 0]) w:=by kernel_rfl
def stayI (id:Int) (l:List It):List It:=l.filter (fun t=>!(t.id==id))
theorem deleteI_any {w:World} {g c cap:Nat} {l:List It} (id:Int) (x:Nat) (h:RowI w g c l) (hl:l.length≤3000) (hcap:l.length≤cap) (hc2:c=cap*3) (hx:w.cell? ⟨x,0,none⟩=some (.int .i64 id)) (hxg:x≠g) :
  Calls Tryz.prog 260 #[.slice (some ⟨g,0,none⟩) l.length cap,.func (.func 261) #[] #[.pointer (some ⟨x,0,none⟩)]] w fun e w'=>
   e=.returned (.slice (some ⟨g,0,none⟩) (stayI id l).length cap)∧RowI w' g c (stayI id l)∧Chg [g] w w':=by
 have HS:=zH (fun a b c w1 (hc:Chg [g] w w1)=>sameI_any a b c id x w1 (hc.cell hx (by simpa using hxg)));have F0:=zH (indexI_any (cap:=cap) id x h hl hx);have hidx:Hid (∀o,hitI l id=o→(o=none→stayI id l=l)∧(∀i,o=some i→i<l.length∧stayI id (l.take (i+1))=l.take i)):=zH fun o ho=>by
  subst ho;refine⟨fun hn=>?_,fun i hi=>?_⟩
  ·unfold hitI at hn;rw[List.findIdx?_eq_none_iff]at hn;unfold stayI;rw[List.filter_eq_self];intro t ht;simp[hn t ht]
  ·unfold hitI at hi;rw[List.findIdx?_eq_some_iff_getElem]at hi;obtain⟨hlt,h1,h2⟩:=hi;refine⟨hlt,?_⟩;rw[List.take_succ_eq_append_getElem hlt];unfold stayI;rw[List.filter_append];have e1:(l.take i).filter (fun t=>!(t.id==id))=l.take i:=by
    rw[List.filter_eq_self];intro t ht;obtain⟨j,hj,rfl⟩:=List.mem_take_iff_getElem.1 ht;have:=h2 j (by omega);simpa using this
   rw[e1];simp at h1;simp[h1]
 have HL:Hid (∀i,i<l.length→∃t,l[i]?=some t):=zH fun i hi=>⟨_,List.getElem?_eq_getElem hi⟩
 have H0:=zH h;clear h hx;generalize hn:l.length=n at *;generalize hitI l id=o at *;cases o with
 |none=>
  have e0:=(hidx.out none rfl).1 rfl;have E0:=zH e0;have e1:idxI none=-1:=rfl;rw[e1]at F0;clear HS hidx HL e0 e1;go_enter Tryz.func260,Tryz.ntmps260
  go_wp2_with fail;refine F0.out.mono ?_;rintro e w1 ⟨rfl,hc1⟩;go_wp2_with fail;go_ret
  rw[E0.out];exact⟨by rw[hn];rfl,H0.out.chg hc1 (by simp),hc1.more (by simp)⟩
 |some k0=>
  obtain⟨hk0,hst⟩:=(hidx.out _ rfl).2 k0 rfl;have e1:idxI (some k0)=(k0:Int):=rfl;rw[e1]at F0;have HST:=zH hst;have hne1:((k0:Int)==-1)=false:=beq_eq_false_iff_ne.2 (by omega);clear hidx e1 hst;go_enter Tryz.func260,Tryz.ntmps260
  go_wp2_with fail;refine F0.out.mono ?_;rintro e w1 ⟨rfl,hc1⟩;have hd1:Chg [g] w w1:=hc1.more (by simp);have H1:=zH (H0.out.chg hc1 (by simp));clear F0 hc1 H0;go_wp2_with fail
  go_loopw [5,6] (fun iv jv wr=>∃(i j:Nat) (r:List It),iv=.int .i64 i∧jv=.int .i64 j∧i<j∧j≤n∧r.length=n∧Hid (RowI wr g c r)∧Hid (r.take i=stayI id (l.take j))∧Hid (r.drop j=l.drop j)∧Chg [g] w wr) (fun _ jv _=>n-(intOf jv).toNat)
  case atStart=>exact⟨k0,k0+1,l,rfl,by go_num,by omega,by omega,hn,H1,zH HST.out.symm,zH rfl,hd1⟩
  case round=>
   obtain⟨i,j,r,rfl,rfl,hij,hj,hrl,HR,HT,HD,hcw⟩:=hrel;by_cases hlt:j<n
   ·obtain⟨t,ht⟩:=HL.out j (by omega);have hrj:r[j]?=some t:=by
     have h1:(r.drop j)[0]?=(l.drop j)[0]?:=by rw[HD.out]
     rw[List.getElem?_drop,List.getElem?_drop,Nat.add_zero]at h1;rw[h1,ht]
    have htk:l.take (j+1)=l.take j ++ [t]:=by rw[List.take_add_one,ht];rfl
    have hsk:stayI id (l.take (j+1))=stayI id (l.take j)++(if t.id=id then [] else [t]):=by
     rw[htk];unfold stayI;rw[List.filter_append];by_cases h1:t.id=id<;>simp[h1]
    have HSK:=zH hsk;have hri:r[i]?=some (r[i]'(by omega)):=List.getElem?_eq_getElem _;generalize r[i]'(by omega)=t0 at hri;obtain⟨ta,tb,tc⟩:=t;have g0:=(HR.out.at_ encI_len hrj (j:=0) rfl).1;have g1:=(HR.out.at_ encI_len hrj (j:=1) rfl).1;have g2:=(HR.out.at_ encI_len hrj (j:=2) rfl).1
    obtain⟨ua,ub,uc⟩:=t0;have f0:=HR.out.at_ encI_len hri (j:=0) rfl;have f1:=HR.out.at_ encI_len hri (j:=1) rfl;have f2:=HR.out.at_ encI_len hri (j:=2) rfl;simp only[Nat.add_zero]at g0 f0;have hal:=(Chg.refl [] wr).alloc (.cells #[.int .i64 ta,.int .i64 tb,.int .i64 tc] 299)
    have F1:=zH (HS.out ta tb tc (wr.alloc (.cells #[.int .i64 ta,.int .i64 tb,.int .i64 tc] 299)) (hcw.alloc _));clear ht hrj htk hsk hri;go_wp2_with fail;refine F1.out.mono ?_;rintro e w2 ⟨rfl,hc2⟩;have hcz:=hal.trans hc2;have hcwz:=hcw.trans' (hcz.more (T:=[g]) (by simp)) (by simp)
    have b0:=hc2.cell ((Blk.new wr 299 #[.int .i64 ta,.int .i64 tb,.int .i64 tc]).cell 0) (by simp);have b1:=hc2.cell ((Blk.new wr 299 #[.int .i64 ta,.int .i64 tb,.int .i64 tc]).cell 1) (by simp);have b2:=hc2.cell ((Blk.new wr 299 #[.int .i64 ta,.int .i64 tb,.int .i64 tc]).cell 2) (by simp)
    have HR2:=zH (HR.out.chg hcz (by simp));have q0:=hcz.cell f0.1 (by simp);have q1:=hcz.cell f1.1 (by simp);have q2:=hcz.cell f2.1 (by simp);have r0:=(hcz.frozen f0.1 (by simp)).trans f0.2;have r1:=(hcz.frozen f1.1 (by simp)).trans f1.2;have r2:=(hcz.frozen f2.1 (by simp)).trans f2.2
    clear F1 f0 f1 f2 g0 g1 g2 hc2 hal HR;by_cases hid:tb=id
    ·have hb:(tb==id)=true:=by simp[hid]
     have hs0:Hid (stayI id (l.take (j+1))=stayI id (l.take j)):=zH (by rw[HSK.out];simp[hid]);go_wp2_with fail;go_roundw
     case rel=>exact⟨i,j+1,r,rfl,by go_num,by omega,by omega,hrl,HR2,zH (by rw[hs0.out];exact HT.out),zH (by rw[←List.drop_drop,←List.drop_drop,HD.out]),hcwz⟩
     case measure=>simp[intOf];omega
    ·have hb:(tb==id)=false:=by simp[hid]
     have hs0:Hid (stayI id (l.take (j+1))=stayI id (l.take j) ++ [⟨ta,tb,tc⟩]):=zH (by rw[HSK.out];simp[hid]);go_wp2_with fail;go_roundw
     case rel=>
      refine⟨i+1,j+1,r.set i ⟨ta,tb,tc⟩,by go_num,by go_num,by omega,by omega,by simp[hrl],zH (HR2.out.put encI_len ⟨ta,tb,tc⟩ (by omega) (by omega)),zH ?_,zH ?_,Chg.setCells (encI ⟨ta,tb,tc⟩) (i*3) |> (fun k=>hcwz.trans k)⟩
      ·rw[set_take (by omega),HT.out,hs0.out]
      ·rw[set_drop (by omega),←List.drop_drop,←List.drop_drop,HD.out]
     case measure=>simp[intOf];omega
   ·obtain rfl:j=n:=by omega
    obtain⟨cs,hb,hcs,_⟩:=HR.out;obtain⟨vs,_,hcl⟩:=run_clear_all (P:=Tryz.prog) hb 271 299 (.agg #[.int .i64 0,.int .i64 0,.int .i64 0]) 3 Tryz.underlying271 (zeroIt wr) (by intro v hv;simp[Value.cells]at hv;subst hv;rfl) rfl (by omega) (i*3) (j-i) (cap-i) (by omega)
    have hlt:l.take j=l:=by rw[←hn,List.take_length]
    have hfin:Hid (stayI id l=r.take i):=zH (by rw[HT.out,hlt]);have hln:(stayI id l).length=i:=by rw[hfin.out,List.length_take];omega
    have HLn:=zH hln;have HW:=zH (HR.out.cut encI_len (k:=i) vs (by omega) (by omega));have hcz:=hcw.trans (Chg.setCells vs (i*3));clear hb hcs hlt hln HS HL HST H1 HD HT HR;go_wp2_with fail;go_ret
    rw[HLn.out,hfin.out];exact⟨rfl,HW.out,hcz⟩
end Go.Proofs.YtgbndaiifbogmaaGreat
namespace Go.Proofs.YtgbndaiifbogmaaGreat
open Go.RowKit
def loB (n:Int):Nat:=(IntKind.u8.wrap n).toNat
theorem loB_eq (n:Int):IntKind.u8.wrap n=(loB n:Int):=by
 unfold loB;have:IntKind.u8.wrap n=n%256:=by simp[IntKind.wrap,IntKind.signed,IntKind.bits]
 rw[this];omega
theorem loB_lt (n:Int):loB n<256:=by
 unfold loB;have:IntKind.u8.wrap n=n%256:=by simp[IntKind.wrap,IntKind.signed,IntKind.bits]
 rw[this];omega
theorem elPair:(Tryz.prog.info? 312).map (·.size)=some 2:=by kernel_rfl
theorem two_any (n:Int) (w:World):Calls Tryz.prog 213 #[.int .i64 n] w fun e w'=>e=.returned (.agg #[byV (loB (n/256)),byV (loB n)])∧Chg [] w w':=by
 have e1:=loB_eq (n/256);have e2:=loB_eq n;have hA:=(Chg.refl [] w).alloc (.cells #[.int .u8 0,.int .u8 0] 312);have hB:Blk (w.alloc (.cells #[.int .u8 0,.int .u8 0] 312)) w.heap.size 312 #[.int .u8 0,.int .u8 0]:=Blk.new _ _ _;have HA:=zH hA;go_enter Tryz.func213,Tryz.ntmps213
 go_wp2_with (first
  |(refine zs (vs:=#[byV (loB (n/256)),byV (loB n)]) rfl 312 (.tmp 2) (.tmp 8) rfl rfl hB rfl rfl rfl elPair rfl ?_;intro w9 hB9 hc9)
  |fail)
 refine bodyPost_ret (results_blk rfl rfl hB9 _ Tryz.underlying312 rfl elPair) rfl ?_;exact⟨rfl,HA.out.trans' hc9 (zN (by omega))⟩
def twoB (n:Int):List Nat:=[loB (n/256),loB n]
theorem twoB_lt {n:Int}:∀x∈twoB n,x<256:=by
 intro x hx;simp[twoB]at hx;rcases hx with rfl|rfl<;>exact loB_lt _
theorem put16_own {w:World} {base:Nat} {v:Value} {l:List Nat} (h:w.ownsRow base 5 1 v l.length (l.map byV)) (hl:l.length≤1000000) (hbase:base≤w.heap.size) (n:Int) :
  Calls Tryz.prog 165 #[v,.int .i64 n] w fun e w'=>∃v',e=.returned v'∧w'.ownsRow base 5 1 v' (l++twoB n).length ((l++twoB n).map byV)∧Chg v.ownBlock.toList w w':=by
 have HI:=zH h;have HL:=zH (own_lt h);clear h;go_enter Tryz.func165,Tryz.ntmps165
 go_wp2_with fail;refine (two_any n w).mono ?_;rintro e w1 ⟨rfl,hc1⟩;have HC1:=zH hc1;clear hc1;go_upto_region 2 with (first
  |(refine zs (vs:=#[byV (loB (n/256)),byV (loB n)]) rfl 312 (.tmp 5) (.tmp 7) rfl rfl (Blk.new _ _ _) rfl rfl rfl elPair rfl ?_;intro w2 hB2 hc2)
  |fail)
 have hcA:Chg [] w1 w2:=((Chg.refl [] w1).alloc _).trans' hc2 (by intro x hx;simp at hx;subst hx;exact .inr (Nat.le_refl _));have HC2:=zH (HC1.out.trans hcA);clear hcA hc2;have c0:w2.cell? ⟨w1.heap.size,0,none⟩=some (.int .u8 (loB (n/256):Nat)):=hB2.cell 0
 have c1:w2.cell? ⟨w1.heap.size,1,none⟩=some (.int .u8 (loB n:Nat)):=hB2.cell 1;have hA:=(Chg.refl [] w2).alloc (.cells #[byV (loB (n/256)),byV (loB n)] 5);have HO:=zH (own_chg (own_chg HI.out HC2.out (by simp)) hA (by simp))
 have HT:Hid (Sl (w2.alloc (.cells #[byV (loB (n/256)),byV (loB n)] 5)) 0 1 (.slice (some ⟨w2.heap.size,0,none⟩) 2 2) 2 ((twoB n).map byV)):=
  zH (Sl.of_own (own_lit (base:=0) w2 5 1 2 #[byV (loB (n/256)),byV (loB n)] (Nat.zero_le _) (by simp[maxLen]) rfl))
 have HCA:=zH (HC2.out.trans hA);have hws:base≤(w2.alloc (.cells #[byV (loB (n/256)),byV (loB n)] 5)).heap.size:=by have:=HC2.out.size;rw[World.size_alloc];omega
 clear hB2 hA HI HC1;go_wp2_with (first
  |(at_builtin;refine wpList_app elY rfl (.tmp 8) (.tmp 13) rfl base rfl HO.out rfl HT.out (byV_one _) (by unfold maxLen;omega) (by omega) hws ?_;intro v1 w3 hown1 hc3 hb1)
  |fail)
 go_ret
 refine⟨v1,rfl,?_,(HCA.out.more (by simp)).trans' hc3 (fun x hx=>.inl hx)⟩;rw[List.map_append,List.length_append];exact hown1
theorem put16_full {w:World} {b off m:Nat} {l:List Nat} (hm:l.length=m) (h:∀j u,(l.map byV)[j]?=some u→w.cell? ⟨b,off+j,none⟩=some u) (hl:l.length≤1000000) (n:Int) :
  Calls Tryz.prog 165 #[.slice (some ⟨b,off,none⟩) m m,.int .i64 n] w fun e w'=>∃v',e=.returned v'∧w'.ownsRow w.heap.size 5 1 v' (l++twoB n).length ((l++twoB n).map byV)∧Chg [] w w':=by
 obtain⟨i0,hi0,hz,hs1,hb1⟩:=info_parts elY.info;have HI:=zH h;clear h;go_enter Tryz.func165,Tryz.ntmps165
 go_wp2_with fail;refine (two_any n w).mono ?_;rintro e w1 ⟨rfl,hc1⟩;have HC1:=zH hc1;clear hc1;go_upto_region 2 with (first
  |(refine zs (vs:=#[byV (loB (n/256)),byV (loB n)]) rfl 312 (.tmp 5) (.tmp 7) rfl rfl (Blk.new _ _ _) rfl rfl rfl elPair rfl ?_;intro w2 hB2 hc2)
  |fail)
 have hcA:Chg [] w1 w2:=((Chg.refl [] w1).alloc _).trans' hc2 (by intro x hx;simp at hx;subst hx;exact .inr (Nat.le_refl _));have HC2:=zH (HC1.out.trans hcA);clear hcA hc2;have c0:w2.cell? ⟨w1.heap.size,0,none⟩=some (.int .u8 (loB (n/256):Nat)):=hB2.cell 0
 have c1:w2.cell? ⟨w1.heap.size,1,none⟩=some (.int .u8 (loB n:Nat)):=hB2.cell 1;have hA:=(Chg.refl [] w2).alloc (.cells #[byV (loB (n/256)),byV (loB n)] 5);have HCA:=zH (HC2.out.trans hA)
 have HO:Hid (∀j u,(l.map byV)[j]?=some u→(w2.alloc (.cells #[byV (loB (n/256)),byV (loB n)] 5)).cell? ⟨b,off+j,none⟩=some u):=zH fun j u hu=>HCA.out.cell (HI.out j u hu) (by simp)
 have HT:Hid (∀j u,((twoB n).map byV)[j]?=some u→(w2.alloc (.cells #[byV (loB (n/256)),byV (loB n)] 5)).cell? ((⟨w2.heap.size,0,none⟩:Addr).add j)=some u):=zH fun j u hu=>by
  rw[Addr.add_lit,Nat.zero_add,(Blk.new w2 5 #[byV (loB (n/256)),byV (loB n)]).cell]
  match j with
  |0=>exact hu
  |1=>exact hu
  |j+2=>simp[twoB]at hu
 have hsz:=HCA.out.size;clear hB2 hA HI HC1 HC2;go_wp2_with (first
  |(at_builtin;refine wpList_append_arg _ rfl (.tmp 8) (.tmp 13) 22 rfl 5 i0 (.int .u8 0) 1 1 Tryz.underlying22 hi0 hz hs1 hb1 rfl (by decide) b off m m (l.map byV) rfl (by simp[hm]) HO.out ⟨w2.heap.size,0,none⟩ 2 2 ((twoB n).map byV) rfl (by simp[twoB]) HT.out (byV_one _) (fun h=>absurd h (by omega)) (by unfold maxLen;omega) (by omega) (fun h=>absurd h (by omega)) ?_;intro hlt v1 w3 hown1 hc3)
  |fail)
 go_ret
 refine⟨v1,rfl,?_,HCA.out.grown hc3 (fun k hk=>by cases hk)⟩;have h5:(l++twoB n).length=m+2:=by simp[twoB,hm]
 rw[h5,List.map_append];obtain⟨e1,e2⟩:=hown1;refine⟨e1,?_⟩;rcases e2 with e2 | ⟨g,cap,cur,hv,hB,r⟩
 ·exact .inl e2
 ·exact .inr ⟨g,cap,cur,hv,Nat.le_trans hsz hB,r⟩
def adB (A:Ad):List Nat:=A.l.map Int.toNat
def flowB (f:Fl):List Nat:=adB f.src++twoB f.sport++adB f.dst++twoB f.dport
theorem adB_lt {A:Ad} (h:okA A):∀x∈adB A,x<256:=by
 intro x hx;obtain⟨y,hy,rfl⟩:=List.mem_map.1 hx;have:=h y hy;simp[Lit.wf,IntKind.min,IntKind.max,IntKind.signed,IntKind.bits]at this;omega
theorem flowB_lt {f:Fl} (h:okF f):∀x∈flowB f,x<256:=by
 intro x hx;simp only[flowB,List.mem_append]at hx;rcases hx with ((hx|hx)|hx)|hx
 ·exact adB_lt h.1 x hx
 ·exact twoB_lt x hx
 ·exact adB_lt h.2.2.1 x hx
 ·exact twoB_lt x hx
theorem adB_len (A:Ad):(adB A).length=16:=rfl
theorem flowB_len (f:Fl):(flowB f).length=36:=rfl
theorem byV_nat {y:Int} (h:(Lit.int .u8 y).wf=true):byV y.toNat=.int .u8 y:=by
 simp[Lit.wf,IntKind.min,IntKind.max,IntKind.signed,IntKind.bits]at h;unfold byV;congr 1;omega
theorem adB_enc {A:Ad} (h:okA A):(adB A).map byV=encA A:=by
 unfold adB encA;rw[List.map_map];exact List.map_congr_left fun y hy=>byV_nat (h y hy)
theorem bytes_any {f:Fl} (hf:okF f) (w:World):Calls Tryz.prog 270 #[f.v] w fun e w'=>∃v',e=.returned v'∧w'.ownsRow w.heap.size 5 1 v' (flowB f).length ((flowB f).map byV)∧Chg [] w w':=by
 have hA:=(Chg.refl [] w).alloc (.cells (arrF f) 46);have hB:Blk (w.alloc (.cells (arrF f) 46)) w.heap.size 46 (arrF f):=Blk.new _ _ _;have HI:=zH (And.intro hA hB);have HF:=zH hf;clear hA hB hf;go_enter Tryz.func270,Tryz.ntmps270
 go_upto_region 1 with fail
 obtain⟨hA,hB⟩:=HI.out;generalize hw1:(w.alloc (.cells (arrF f) 46))=w1 at *;clear hw1;have hlt:=hB.lt;generalize hgg:w.heap.size=g at *;have hS0:(fun W:World=>Blk W g 46 (arrF f)∧Chg [] w W) w1.drew:=⟨hB.drew,hA.drew⟩
 have HS1:∀W:World,(fun W:World=>Blk W g 46 (arrF f)∧Chg [] w W) W→W.cell? ⟨g,16,none⟩=some (.int .i64 f.sport):=fun W h=>h.1.cell 16
 have HS2:∀W:World,(fun W:World=>Blk W g 46 (arrF f)∧Chg [] w W) W→W.cell? ⟨g,33,none⟩=some (.int .i64 f.dport):=fun W h=>h.1.cell 33
 refine wp_region_noPanic ?_;refine wp_region_held_drew (S:=fun W:World=>Blk W g 46 (arrF f)∧Chg [] w W) (by kernel_rfl) hS0 (fun _=>?_);refine zU 0 rfl (by go_simp<;>with_reducible rfl) ?_
 try simp only[zP]
 refine zU 1 rfl (by go_simp<;>with_reducible rfl) ?_
 try simp only[zP]
 refine zU 2 rfl (by go_simp<;>with_reducible rfl) ?_
 try simp only[zP]
 refine zT 3 rfl (zc (by rfl) 3 (.tmp 6) rfl g 16 rfl (.int .i64 f.sport) _ HS1 Tryz.underlying3 rfl) ?_
 try simp only[zP]
 refine zR 4 rfl (fun K hK=>?_);have hsrc:∀j u,((adB f.src).map byV)[j]?=some u→w1.drew.cell? ⟨g,0+j,none⟩=some u:=fun j u hu=>by
  have hj:j<16:=by have:=(List.getElem?_eq_some_iff.1 hu).1;simpa[adB_len]using this
  rw[Nat.zero_add,hB.drew.cell,←hu,adB_enc HF.out.1];have e:(arrF f)[j]?=(encF f)[j]?:=by rw[←Array.getElem?_toList];rfl
  rw[e,encF,List.getElem?_append_left (by show j<16;exact hj)]
 have F1:=zH (put16_full (adB_len f.src) hsrc (by rw[adB_len];omega) f.sport);go_simp
 refine F1.out.mono ?_;rintro e w2 ⟨v2,rfl,hown2,hc2⟩;have hC2:Chg [] w1 w2:=(Chg.refl [] w1).drew.trans hc2;have hS2:(fun W:World=>Blk W g 46 (arrF f)∧Chg [] w W) w2:=⟨hB.chg hC2 (by simp),hA.trans hC2⟩;refine zB hK ?_;clear hK K
 try simp only[zP]
 refine zU 5 rfl (by go_simp<;>with_reducible rfl) ?_
 try simp only[zP]
 refine wpAnyH_done (by kernel_rfl) ?_ _;refine NoPanic.normal ?_;go_upto_region 2 with fail
 have hsz12:=hc2.size;have hb1:w1.heap.size≤w2.heap.size:=hsz12;have hS3:(fun W:World=>Blk W g 46 (arrF f)∧Chg [] w W) w2.drew:=⟨hS2.1.drew,hS2.2.drew⟩;have hown2':w2.drew.ownsRow w1.heap.size 5 1 v2 (adB f.src++twoB f.sport).length ((adB f.src++twoB f.sport).map byV):=hown2
 have hsl:Sl w2.drew 0 1 (.slice (some ⟨g,17,none⟩) 16 16) 16 ((adB f.dst).map byV):=by
  refine⟨by simp[adB_len],some ⟨g,17,none⟩,16,rfl,Nat.le_refl _,fun _=>⟨g,17,rfl,Nat.zero_le _,fun j u hu=>?_⟩⟩;rw[adB_enc HF.out.2.2.1]at hu;have hj:j<16:=(List.getElem?_eq_some_iff.1 hu).1;rw[hS3.1.cell,←hu,←Array.getElem?_toList];show (encF f)[17+j]?=_
  rw[encF,List.getElem?_append_right (by show 16≤17+j;omega)];show ((Value.int .i64 f.sport::(encA f.dst ++ [.int .i64 f.dport])))[17+j-16]?=_;rw[show 17+j-16=j+1 by omega,List.getElem?_cons_succ,List.getElem?_append_left (by show j<16;omega)]
 refine wp_region_noPanic ?_;refine wp_region_held_drew (S:=fun W:World=>Blk W g 46 (arrF f)∧Chg [] w W) (by kernel_rfl) hS3 (fun _=>?_);refine zU 0 rfl (by go_simp<;>with_reducible rfl) ?_
 try simp only[zP]
 refine zU 1 rfl (by go_simp<;>with_reducible rfl) ?_
 try simp only[zP]
 refine zU 2 rfl (by go_simp<;>with_reducible rfl) ?_
 try simp only[zP]
 refine zU 4 rfl (by go_simp<;>with_reducible rfl) ?_
 try simp only[zP]
 refine zT 5 rfl (zc (by rfl) 3 (.tmp 13) rfl g 33 rfl (.int .i64 f.dport) _ HS2 Tryz.underlying3 rfl) ?_
 try simp only[zP]
 refine zR 3 rfl (fun K hK=>?_);refine step_app elY rfl (.tmp 9) (.tmp 11) rfl w1.heap.size rfl hown2' rfl hsl (byV_one _) (by simp[adB_len,twoB,maxLen]) (by simp[adB_len,twoB]) hb1 ?_;intro v5 w5 hown5 hc5 hb5
 have hown6:w5.ownsRow w1.heap.size 5 1 v5 (adB f.src++twoB f.sport++adB f.dst).length ((adB f.src++twoB f.sport++adB f.dst).map byV):=by
  rw[List.map_append,List.length_append];exact hown5
 have hC5:Chg [] w1 w5:=hC2.drew.trans' hc5 (fun x hx=>.inr (own_lt hown2' x hx).1);have hS5:(fun W:World=>Blk W g 46 (arrF f)∧Chg [] w W) w5:=⟨hB.chg hC5 (by simp),hA.trans hC5⟩;refine zB hK ?_;clear hK K
 try simp only[zP]
 refine zR 6 rfl (fun K hK=>?_);have F6:=zH (put16_own hown6 (by simp[adB_len,twoB]) hC5.size f.dport);go_simp
 refine F6.out.mono ?_;rintro e w6 ⟨v6,rfl,hown7,hc6⟩;have hC6:Chg [] w1 w6:=hC5.trans' hc6 (fun x hx=>.inr (own_lt hown6 x hx).1);have hS6:(fun W:World=>Blk W g 46 (arrF f)∧Chg [] w W) w6:=⟨hB.chg hC6 (by simp),hA.trans hC6⟩;refine zB hK ?_;clear hK K
 try simp only[zP]
 refine zU 7 rfl (by go_simp<;>with_reducible rfl) ?_
 try simp only[zP]
 refine wpAnyH_done (by kernel_rfl) ?_ _;refine NoPanic.normal ?_;have HFIN:Hid (w6.ownsRow g 5 1 v6 (flowB f).length ((flowB f).map byV)∧Chg [] w w6):=zH ⟨by
  obtain⟨e1,e2⟩:=hown7;refine⟨e1,?_⟩;rcases e2 with e2 | ⟨g',cap,cur,hv,hB',r⟩
  ·exact .inl e2
  ·exact .inr ⟨g',cap,cur,hv,by omega,r⟩,hA.trans hC6⟩
 clear F1 F6 hS0 hS2 hS3 hS5 hS6 hC2 hC5 hC6 hc2 hc5 hc6 hown2 hown2' hown6 hown7 hsl HS1 HS2 hA hB hsrc hlt hb1 hsz12 hb5;go_wp2_with fail;go_ret
 exact⟨_,rfl,by rw[hgg];exact HFIN.out.1,HFIN.out.2⟩
def hashF (ka kb:Int) (f:Fl):Int:=sumS ka kb (flowB f)
theorem infKey:(Tryz.prog.info? 323).map (·.size)=some 2:=by kernel_rfl
theorem kflow_any {f:Fl} (hf:okF f) (ka kb:Int) (w:World):Calls Tryz.prog 226 #[.agg #[.int .u64 ka,.int .u64 kb],f.v] w fun e w'=>e=.returned (.int .u64 (hashF ka kb f))∧Chg [] w w':=by
 have h1:=(Chg.refl [] w).alloc (.cells #[.int .u64 ka,.int .u64 kb] 323);have hA:=h1.alloc (.cells (arrF f) 46);have hK:Blk ((w.alloc (.cells #[.int .u64 ka,.int .u64 kb] 323)).alloc (.cells (arrF f) 46)) w.heap.size 323 #[.int .u64 ka,.int .u64 kb]:=(Blk.new _ _ _).alloc _
 have hB:Blk ((w.alloc (.cells #[.int .u64 ka,.int .u64 kb] 323)).alloc (.cells (arrF f) 46)) (w.heap.size+1) 46 (arrF f):=Blk.new' (by simp);have HI:=zH (And.intro hA (And.intro hK hB));have HF:=zH hf;clear h1 hA hK hB hf;go_enter Tryz.func226,Tryz.ntmps226
 go_upto_region 1 with fail
 obtain⟨hA,hK,hB⟩:=HI.out;generalize hw1:(w.alloc (.cells #[.int .u64 ka,.int .u64 kb] 323)).alloc (.cells (arrF f) 46)=w1 at *;clear hw1;generalize hgg:w.heap.size=g at *
 have hS0:(fun W:World=>(Blk W g 323 #[.int .u64 ka,.int .u64 kb]∧Blk W (g+1) 46 (arrF f))∧Chg [] w W) w1.drew:=⟨⟨hK.drew,hB.drew⟩,hA.drew⟩
 have HS1:∀W:World,(fun W:World=>(Blk W g 323 #[.int .u64 ka,.int .u64 kb]∧Blk W (g+1) 46 (arrF f))∧Chg [] w W) W→W.rangeAt g 0 (#[.int .u64 ka,.int .u64 kb]:Array Value).toList:=fun W h=>h.1.1.rangeQ
 have HS2:∀W:World,(fun W:World=>(Blk W g 323 #[.int .u64 ka,.int .u64 kb]∧Blk W (g+1) 46 (arrF f))∧Chg [] w W) W→W.rangeAt (g+1) 0 (arrF f).toList:=fun W h=>h.1.2.rangeQ
 refine wp_region_noPanic ?_;refine wp_region_held_drew (S:=fun W:World=>(Blk W g 323 #[.int .u64 ka,.int .u64 kb]∧Blk W (g+1) 46 (arrF f))∧Chg [] w W) (by kernel_rfl) hS0 (fun _=>?_);generalize w1.drew=wd at *
 refine zT 0 rfl (yields_row (by rfl) 323 (.tmp 2) rfl g 0 rfl (#[.int .u64 ka,.int .u64 kb]) _ HS1 Tryz.underlying323 rfl infKey) ?_
 try simp only[zP]
 refine zT 1 rfl (yields_row (by rfl) 46 (.tmp 3) rfl (g+1) 0 rfl (arrF f) _ HS2 Tryz.underlying46 rfl infF) ?_
 try simp only[zP]
 refine zR 2 rfl (fun K hK=>?_);have F1:=zH (bytes_any HF.out wd);go_simp
 refine F1.out.mono ?_;rintro e w2 ⟨v2,rfl,hown2,hc2⟩;have hS2:(fun W:World=>(Blk W g 323 #[.int .u64 ka,.int .u64 kb]∧Blk W (g+1) 46 (arrF f))∧Chg [] w W) w2:=⟨⟨hS0.1.1.chg hc2 (by simp),hS0.1.2.chg hc2 (by simp)⟩,hS0.2.trans hc2⟩
 have F2:=zH (sum_any (Sl.of_own hown2) (by rw[flowB_len];omega) (flowB_lt HF.out) ka kb);refine zB hK ?_;clear hK K
 try simp only[zP]
 refine zR 3 rfl (fun K hK=>?_);go_simp
 refine F2.out.mono ?_;rintro e w3 ⟨rfl,hc3⟩;have hS3:(fun W:World=>(Blk W g 323 #[.int .u64 ka,.int .u64 kb]∧Blk W (g+1) 46 (arrF f))∧Chg [] w W) w3:=⟨⟨hS2.1.1.chg hc3 (by simp),hS2.1.2.chg hc3 (by simp)⟩,hS2.2.trans hc3⟩;have HC3:=zH hS3.2;refine zB hK ?_;clear hK K
 try simp only[zP]
 refine zU 4 rfl (by go_simp<;>with_reducible rfl) ?_
 try simp only[zP]
 refine wpAnyH_done (by kernel_rfl) ?_ _;refine NoPanic.normal ?_;have HH:Hid (sumS ka kb (flowB f)=hashF ka kb f):=zH rfl;clear F1 F2 hS0 hS2 hS3 hc2 hc3 hown2 HS1 HS2 hA hK hB;go_wp2_with fail;go_ret
 rw[HH.out];exact⟨rfl,HC3.out⟩
end Go.Proofs.YtgbndaiifbogmaaGreat
namespace Go.Proofs.YtgbndaiifbogmaaGreat
open Go.RowKit Go.Maps Go.Sort
def lessF (f g:Fl):Bool:=if f.src=g.src then (if f.sport=g.sport then (if f.dst=g.dst then decide (f.dport<g.dport) else lessA f.dst g.dst) else decide (f.sport<g.sport)) else lessA f.src g.src
section
variable {w:World} {b:Nat} {t:TypeId} {f:Fl}
end
end Go.Proofs.YtgbndaiifbogmaaGreat
namespace Go.Proofs.YtgbndaiifbogmaaGreat
open Go.RowKit
theorem put32_any {w:World} {base:Nat} {v:Value} {l:List Nat} (h:w.ownsRow base 5 1 v l.length (l.map byV)) (hl:l.length≤1000000) (hbase:base≤w.heap.size) (n:Nat) :
  Calls Tryz.prog 166 #[v,.int .u32 n] w fun e w'=>∃v',e=.returned v'∧w'.ownsRow base 5 1 v' (l++fourS n).length ((l++fourS n).map byV)∧Chg v.ownBlock.toList w w':=by
 have e1:IntKind.u8.wrap ((n:Int)/16777216)=((n/16777216%256:Nat):Int):=by rw[←wrap8];rfl
 have e2:IntKind.u8.wrap ((n:Int)/65536)=((n/65536%256:Nat):Int):=by rw[←wrap8];rfl
 have e3:IntKind.u8.wrap ((n:Int)/256)=((n/256%256:Nat):Int):=by rw[←wrap8];rfl
 have e4:IntKind.u8.wrap (n:Int)=((n%256:Nat):Int):=wrap8 n;have hA:=(Chg.refl [] w).alloc (.cells #[byV (n/16777216%256),byV (n/65536%256),byV (n/256%256),byV (n%256)] 5);have hown:=own_chg h hA (by simp)
 have hcat:Sl (w.alloc (.cells #[byV (n/16777216%256),byV (n/65536%256),byV (n/256%256),byV (n%256)] 5)) 0 1 (.slice (some ⟨w.heap.size,0,none⟩) 4 4) 4 ((fourS n).map byV):=
  Sl.of_own (own_lit (base:=0) w 5 1 4 #[byV (n/16777216%256),byV (n/65536%256),byV (n/256%256),byV (n%256)] (Nat.zero_le _) (by simp[maxLen]) rfl)
 have hlt:=own_lt h;have HI:=zH (And.intro hA (And.intro hown (And.intro hcat hlt)));have hbs:base≤w.heap.size+1:=by omega
 clear hA hown hcat hlt h;go_enter Tryz.func166,Tryz.ntmps166
 go_wp2_with (first
  |(at_builtin;refine wpList_app elY rfl (.tmp 5) (.tmp 17) rfl base rfl HI.out.2.1 rfl HI.out.2.2.1 (byV_one _) (by unfold maxLen;omega) (by omega) (by simp;omega) ?_;intro v1 w1 hown1 hc1 hb1)
  |fail)
 go_ret
 refine⟨v1,rfl,?_,(HI.out.1.more (by simp)).trans hc1⟩;rw[List.map_append,List.length_append];exact hown1
end Go.Proofs.YtgbndaiifbogmaaGreat
namespace Go.Proofs.YtgbndaiifbogmaaGreat
open Go.RowKit
theorem down_any {w:World} {q g c cap n i0:Nat} {sq:Int} {l:List It} (h:HQ w q g c cap sq l) (hd:Heap.HeapFrom ltI n (i0+1) l) (hn:n≤l.length) (hi0:i0≤n) (hl:l.length≤3000) :
  Calls Tryz.prog 257 #[.iface 301 (.pointer (some ⟨q,1,none⟩)),.int .i64 i0,.int .i64 n] w fun e w'=>∃b,e=.returned (.bool b)∧∃l',HQ w' q g c cap sq l'∧Heap.HeapFrom ltI n i0 l'∧l'.Perm l∧Chg [g] w w'∧∀k,n≤k→l'[k]?=l[k]?:=by
 have H0:=zH h;have HD0:=zH (Heap.Down.start hd);have hn3:n≤3000:=by omega
 generalize hN:l.length=N at *;have HN0:=zH hN;clear h hd hN;go_enter Tryz.func257,Tryz.ntmps257
 go_wp2_with fail;go_loopw [7] (fun iv wr=>∃(i:Nat) (l':List It),iv=.int .i64 i∧Hid (HQ wr q g c cap sq l')∧Hid (Heap.Down ltI n i0 l' i)∧i≤n∧l'.length=N∧Hid (l'.Perm l)∧Hid (Chg [g] w wr)∧Hid (∀k,n≤k→l'[k]?=l[k]?)) (fun iv _=>n-(intOf iv).toNat)
 case atStart=>exact⟨i0,l,rfl,H0,HD0,hi0,HN0.out,zH (List.Perm.refl _),zH (Chg.refl _ _),zH (fun _ _=>rfl)⟩
 case round=>
  clear H0 HD0 hi0 HN0;obtain⟨i,l',rfl,H,HD,hi,hN',HP,HC,HT⟩:=hrel;have HN:=zH hN';clear hN';obtain⟨j1,hj1⟩:∃j1,j1=2*i+1:=⟨_,rfl⟩;obtain⟨j2,hj2⟩:∃j2,j2=2*i+2:=⟨_,rfl⟩;have hq1:2*(i:Int)+1=(j1:Int):=by omega
  have hq2:(j1:Int)+1=(j2:Int):=by omega
  have hb1:(0:Int)≤(j1:Int):=by omega
  by_cases hA:n≤2*i+1
  ·have HO:=zH (HD.out.leaf hA);have hge:(n:Int)≤(j1:Int):=by omega
   clear HD hj1 hj2 hA;go_wp2_with fail;go_ret
   exact⟨_,rfl,l',H.out,HO.out,HP.out,HC.out,HT.out⟩
  ·have hlt1:(j1:Int)<(n:Int):=by omega
   have hjj1:j1<n:=by omega
   have hpj1:Hid ((j1-1)/2=i):=zH (by omega);have hzj1:0<j1:=by omega
   have hlen:=HN.out;have hx:l'[i]?=some (l'[i]'(by omega)):=List.getElem?_eq_getElem _;have hy1:l'[j1]?=some (l'[j1]'(by omega)):=List.getElem?_eq_getElem _;generalize l'[i]'(by omega)=x at hx;generalize l'[j1]'(by omega)=yj1 at hy1;have HX:=zH hx;have HYj1:=zH hy1
   have c1:wr.cell? ⟨q,1,none⟩=some (.slice (some ⟨g,0,none⟩) N cap):=by have:=H.out.blk.cell 1;rw[HN.out]at this;exact this
   have HJ:=zH (And.intro hj1 hj2);clear hx hy1 hA;by_cases hB:j2<n
   ·have hlt2:(j2:Int)<(n:Int):=by omega
    have hjj2:j2<n:=hB;have hpj2:Hid ((j2-1)/2=i):=zH (by omega);have hzj2:0<j2:=by omega
    have hy2:l'[j2]?=some (l'[j2]'(by omega)):=List.getElem?_eq_getElem _;generalize l'[j2]'(by omega)=yj2 at hy2;have HYj2:=zH hy2;clear hlen hy2 hj1 hj2 hB;have F1:=zH (iLess_any (cap:=cap) H.out.row HN.out HYj2.out HYj1.out);have m1:=mLess c1;cases hs:ltI yj2 yj1 with
    |false=>
     have HMj1:Hid (∀c,0<c→c<n→(c-1)/2=i→Heap.Ord ltI l' c j1):=zH (fun c h1 h2 h3 a b ha hb=>by
      rw[HYj1.out]at hb;cases hb;have hj:=HJ.out;rcases (show c=j1∨c=j2 by omega) with rfl|rfl
      ·rw[HYj1.out]at ha;cases ha;exact ltI_lt.irrefl _
      ·rw[HYj2.out]at ha;cases ha;exact hs)
     rw[hs]at F1;clear hs;go_wp2_with fail;refine F1.out.mono ?_;rintro e w4 ⟨rfl,hcw⟩;clear F1 m1;have FL:=zH (iLess_any (cap:=cap) (H.out.row.chg hcw (by simp)) HN.out HYj1.out HX.out)
     have FS:=zH (fun W2 (hc:Chg [] wr W2)=>iSwap_any (cap:=cap) (H.out.row.chg hc (by simp)) HN.out (by have:=H.out.hc;have:=H.out.hl;have:=HN.out;omega) HX.out HYj1.out);have cw:=hcw.cell c1 (by simp);have mw:=mLess cw;cases hr:ltI yj1 x with
     |false=>
      have HO:=zH (HD.out.stop ltI_lt HX.out HYj1.out hr HMj1.out);rw[hr]at FL;clear hr FS HD;go_wp2_with fail;refine FL.out.mono ?_;rintro e w5 ⟨rfl,hc5⟩;have HC5:=zH (hcw.trans hc5);clear FL hc5 hcw cw mw;go_wp2_with fail;go_ret
      exact⟨_,rfl,l',H.out.chg0 HC5.out,HO.out,HP.out,HC.out.trans (HC5.out.more (by simp)),HT.out⟩
     |true=>
      have HO:=zH (HD.out.step ltI_lt (by have:=HN.out;omega) hjj1 hpj1.out hzj1 HX.out HYj1.out hr HMj1.out);have HPm:=zH ((Heap.swap_perm HX.out HYj1.out).trans HP.out);have HLn:=zH ((Heap.swap_len l' i j1 x yj1).trans HN.out)
      have HT2:Hid (∀k,n≤k→(Heap.swap l' i j1 x yj1)[k]?=l[k]?):=zH fun k hk=>by rw[Heap.swap_at HX.out HYj1.out,if_neg (by omega),if_neg (by omega)];exact HT.out k hk
      rw[hr]at FL;clear hr HD HP HT;go_wp2_with fail;refine FL.out.mono ?_;rintro e w5 ⟨rfl,hc5⟩;have hcx:=hcw.trans hc5;have cx:=hcx.cell c1 (by simp);have mx:=mSwap cx;have F3:=zH (FS.out w5 hcx);have H2:=zH (H.out.chg0 hcx);have HC2:=zH (HC.out.trans (hcx.more (T:=[g]) (by simp)))
      clear FS FL H HC hc5 hcw cw mw hcx c1;go_wp2_with fail;refine F3.out.mono ?_;rintro e w6 ⟨rfl,hr6,hc6⟩;have H3:=zH (H2.out.swap hr6 hc6);have HC3:=zH (HC2.out.trans hc6);clear F3 H2 HC2 hr6 hc6 mx cx;go_wp2_with fail;go_roundw
      case rel=>exact⟨j1,_,rfl,H3,HO,by omega,HLn.out,HPm,HC3,HT2⟩
      case measure=>have:=HJ.out;simp[intOf];omega
    |true=>
     have HMj2:Hid (∀c,0<c→c<n→(c-1)/2=i→Heap.Ord ltI l' c j2):=zH (fun c h1 h2 h3 a b ha hb=>by
      rw[HYj2.out]at hb;cases hb;have hj:=HJ.out;rcases (show c=j1∨c=j2 by omega) with rfl|rfl
      ·rw[HYj1.out]at ha;cases ha;exact ltI_lt.asymm hs
      ·rw[HYj2.out]at ha;cases ha;exact ltI_lt.irrefl _)
     rw[hs]at F1;clear hs;go_wp2_with fail;refine F1.out.mono ?_;rintro e w4 ⟨rfl,hcw⟩;clear F1 m1;have FL:=zH (iLess_any (cap:=cap) (H.out.row.chg hcw (by simp)) HN.out HYj2.out HX.out)
     have FS:=zH (fun W2 (hc:Chg [] wr W2)=>iSwap_any (cap:=cap) (H.out.row.chg hc (by simp)) HN.out (by have:=H.out.hc;have:=H.out.hl;have:=HN.out;omega) HX.out HYj2.out);have cw:=hcw.cell c1 (by simp);have mw:=mLess cw;cases hr:ltI yj2 x with
     |false=>
      have HO:=zH (HD.out.stop ltI_lt HX.out HYj2.out hr HMj2.out);rw[hr]at FL;clear hr FS HD;go_wp2_with fail;refine FL.out.mono ?_;rintro e w5 ⟨rfl,hc5⟩;have HC5:=zH (hcw.trans hc5);clear FL hc5 hcw cw mw;go_wp2_with fail;go_ret
      exact⟨_,rfl,l',H.out.chg0 HC5.out,HO.out,HP.out,HC.out.trans (HC5.out.more (by simp)),HT.out⟩
     |true=>
      have HO:=zH (HD.out.step ltI_lt (by have:=HN.out;omega) hjj2 hpj2.out hzj2 HX.out HYj2.out hr HMj2.out);have HPm:=zH ((Heap.swap_perm HX.out HYj2.out).trans HP.out);have HLn:=zH ((Heap.swap_len l' i j2 x yj2).trans HN.out)
      have HT2:Hid (∀k,n≤k→(Heap.swap l' i j2 x yj2)[k]?=l[k]?):=zH fun k hk=>by rw[Heap.swap_at HX.out HYj2.out,if_neg (by omega),if_neg (by omega)];exact HT.out k hk
      rw[hr]at FL;clear hr HD HP HT;go_wp2_with fail;refine FL.out.mono ?_;rintro e w5 ⟨rfl,hc5⟩;have hcx:=hcw.trans hc5;have cx:=hcx.cell c1 (by simp);have mx:=mSwap cx;have F3:=zH (FS.out w5 hcx);have H2:=zH (H.out.chg0 hcx);have HC2:=zH (HC.out.trans (hcx.more (T:=[g]) (by simp)))
      clear FS FL H HC hc5 hcw cw mw hcx c1;go_wp2_with fail;refine F3.out.mono ?_;rintro e w6 ⟨rfl,hr6,hc6⟩;have H3:=zH (H2.out.swap hr6 hc6);have HC3:=zH (HC2.out.trans hc6);clear F3 H2 HC2 hr6 hc6 mx cx;go_wp2_with fail;go_roundw
      case rel=>exact⟨j2,_,rfl,H3,HO,by omega,HLn.out,HPm,HC3,HT2⟩
      case measure=>have:=HJ.out;simp[intOf];omega
   ·have hge2:(n:Int)≤(j2:Int):=by omega
    have HMj1:Hid (∀c,0<c→c<n→(c-1)/2=i→Heap.Ord ltI l' c j1):=zH (fun c h1 h2 h3 a b ha hb=>by
     obtain rfl:c=j1:=by omega
     rw[HYj1.out]at ha hb;cases ha;cases hb;exact ltI_lt.irrefl _)
    have hcw:=Chg.refl [] wr;clear hB hlen hj1 hj2;have FL:=zH (iLess_any (cap:=cap) (H.out.row.chg hcw (by simp)) HN.out HYj1.out HX.out)
    have FS:=zH (fun W2 (hc:Chg [] wr W2)=>iSwap_any (cap:=cap) (H.out.row.chg hc (by simp)) HN.out (by have:=H.out.hc;have:=H.out.hl;have:=HN.out;omega) HX.out HYj1.out);have cw:=hcw.cell c1 (by simp);have mw:=mLess cw;cases hr:ltI yj1 x with
    |false=>
     have HO:=zH (HD.out.stop ltI_lt HX.out HYj1.out hr HMj1.out);rw[hr]at FL;clear hr FS HD;go_wp2_with fail;refine FL.out.mono ?_;rintro e w5 ⟨rfl,hc5⟩;have HC5:=zH (hcw.trans hc5);clear FL hc5 hcw cw mw;go_wp2_with fail;go_ret
     exact⟨_,rfl,l',H.out.chg0 HC5.out,HO.out,HP.out,HC.out.trans (HC5.out.more (by simp)),HT.out⟩
    |true=>
     have HO:=zH (HD.out.step ltI_lt (by have:=HN.out;omega) hjj1 hpj1.out hzj1 HX.out HYj1.out hr HMj1.out);have HPm:=zH ((Heap.swap_perm HX.out HYj1.out).trans HP.out);have HLn:=zH ((Heap.swap_len l' i j1 x yj1).trans HN.out)
     have HT2:Hid (∀k,n≤k→(Heap.swap l' i j1 x yj1)[k]?=l[k]?):=zH fun k hk=>by rw[Heap.swap_at HX.out HYj1.out,if_neg (by omega),if_neg (by omega)];exact HT.out k hk
     rw[hr]at FL;clear hr HD HP HT;go_wp2_with fail;refine FL.out.mono ?_;rintro e w5 ⟨rfl,hc5⟩;have hcx:=hcw.trans hc5;have cx:=hcx.cell c1 (by simp);have mx:=mSwap cx;have F3:=zH (FS.out w5 hcx);have H2:=zH (H.out.chg0 hcx);have HC2:=zH (HC.out.trans (hcx.more (T:=[g]) (by simp)))
     clear FS FL H HC hc5 hcw cw mw hcx c1;go_wp2_with fail;refine F3.out.mono ?_;rintro e w6 ⟨rfl,hr6,hc6⟩;have H3:=zH (H2.out.swap hr6 hc6);have HC3:=zH (HC2.out.trans hc6);clear F3 H2 HC2 hr6 hc6 mx cx;go_wp2_with fail;go_roundw
     case rel=>exact⟨j1,_,rfl,H3,HO,by omega,HLn.out,HPm,HC3,HT2⟩
     case measure=>have:=HJ.out;simp[intOf];omega
end Go.Proofs.YtgbndaiifbogmaaGreat

/-
  Small laws and walks on the way to LearnReads: Wk, Tl, Sr, Tlv. Conditions: each theorem names its own.
-/
import Derived.Test.YtgbndaiifbogmaaGreatY08
set_option linter.unusedVariables false
set_option linter.unusedSimpArgs false
set_option maxRecDepth 100000
set_option maxHeartbeats 8000000
namespace Go.Proofs.YtgbndaiifbogmaaGreat
open Go.RowKit Go.Maps
def encP (p:Pt):List Value:=[.int .i64 p.kind,.int .i64 (p.at_:Nat),.int .i64 (p.len:Nat)]
theorem encP_len (p:Pt):(encP p).length=3:=rfl
theorem encP_one (p:Pt):∀u∈encP p,u.oneCell'=true:=by
 intro u hu;simp[encP]at hu;rcases hu with rfl|rfl|rfl<;>rfl
def OwP (w:World) (B:Nat) (v:Value) (L:List Pt):Prop:=w.ownsRow B 176 3 v L.length (L.flatMap encP)
theorem elP:El Tryz.prog 241 176 (.agg #[.int .i64 0,.int .i64 0,.int .i64 0]) 3 24:=⟨Tryz.underlying241,by kernel_rfl,rfl,by omega⟩
theorem wext_any (k:Int) (w:World):Calls Tryz.prog 207 #[.int .i64 k] w fun e w'=>e=.returned (.bool (extW k))∧w=w':=by
 by_cases h0:k=0
 ·subst h0;have hr:Hid (extW 0=true):=zH rfl;go_enter Tryz.func207,Tryz.ntmps207
  go_wp2_with fail;go_ret
  exact⟨by rw[hr.out];rfl,rfl⟩
 ·by_cases h1:k=43
  ·subst h1;have hr:Hid (extW 43=true):=zH rfl;go_enter Tryz.func207,Tryz.ntmps207
   go_wp2_with fail;go_ret
   exact⟨by rw[hr.out];rfl,rfl⟩
  ·by_cases h2:k=60
   ·subst h2;have hr:Hid (extW 60=true):=zH rfl;go_enter Tryz.func207,Tryz.ntmps207
    go_wp2_with fail;go_ret
    exact⟨by rw[hr.out];rfl,rfl⟩
   ·have hr:Hid (extW k=false):=zH (by simp[extW,h0,h1,h2]);have e0:(k==0)=false:=by simpa using h0
    have e1:(k==43)=false:=by simpa using h1
    have e2:(k==60)=false:=by simpa using h2
    go_enter Tryz.func207,Tryz.ntmps207
    go_wp2_with fail;go_ret
    exact⟨by rw[hr.out];rfl,rfl⟩
theorem wmay_any (k:Int) (n:Nat) (hn:n<1000000) (w:World):Calls Tryz.prog 206 #[.int .i64 k,.int .i64 n] w fun e w'=>e=.returned (.int .i64 (mayW k n))∧w=w':=by
 have FE:=zH (wext_any k w);by_cases h44:k=44
 ·subst h44;have hr:Hid (mayW 44 n=7):=zH rfl;clear FE;go_enter Tryz.func206,Tryz.ntmps206
  go_wp2_with fail;go_ret
  exact⟨by rw[hr.out];rfl,rfl⟩
 ·have e44:(k==44)=false:=by simpa using h44
  by_cases h0:k=0∧0<n
  ·obtain⟨rfl,h1⟩:=h0;have hr:Hid (mayW 0 n=5):=zH (by simp[mayW,h1]);have hI:(0:Int)<(n:Int):=by omega
   clear FE;go_enter Tryz.func206,Tryz.ntmps206
   go_wp2_with fail;go_ret
   exact⟨by rw[hr.out];rfl,rfl⟩
  ·by_cases h8:extW k=true∧8≤n
   ·have hr:Hid (mayW k n=8):=zH (by unfold mayW;rw[if_neg h44,if_neg h0,if_pos h8]);have hI:(8:Int)≤(n:Int):=by omega
    have hk:(k==0)=false:=by
     rw[beq_eq_false_iff_ne];intro e;exact h0 ⟨e,by omega⟩
    obtain⟨h8,_⟩:=h8;rw[h8]at FE;clear h8 h0;go_enter Tryz.func206,Tryz.ntmps206
    go_wp2_with fail;refine FE.out.mono ?_;rintro e w1 ⟨rfl,rfl⟩;go_wp2_with fail;go_ret
    exact⟨by rw[hr.out];rfl,rfl⟩
   ·have hr:Hid (mayW k n=0):=zH (by unfold mayW;rw[if_neg h44,if_neg h0,if_neg h8]);cases hx:extW k with
    |true=>
     have hI:¬(8:Int)≤(n:Int):=fun h=>h8 ⟨hx,by omega⟩
     rw[hx]at FE;by_cases hk:k=0
     ·subst hk;obtain rfl:n=0:=by omega
      clear h8 h0 hx;go_enter Tryz.func206,Tryz.ntmps206
      go_wp2_with fail;refine FE.out.mono ?_;rintro e w1 ⟨rfl,rfl⟩;go_wp2_with fail;go_ret
      exact⟨by rw[hr.out];rfl,rfl⟩
     ·have hk':(k==0)=false:=by simpa using hk
      clear h8 h0 hx;go_enter Tryz.func206,Tryz.ntmps206
      go_wp2_with fail;refine FE.out.mono ?_;rintro e w1 ⟨rfl,rfl⟩;go_wp2_with fail;go_ret
      exact⟨by rw[hr.out];rfl,rfl⟩
    |false=>
     have hk:¬k=0:=by intro e;subst e;simp[extW]at hx
     have hk':(k==0)=false:=by simpa using hk
     rw[hx]at FE;clear h8 h0 hx;go_enter Tryz.func206,Tryz.ntmps206
     go_wp2_with fail;refine FE.out.mono ?_;rintro e w1 ⟨rfl,rfl⟩;go_wp2_with fail;go_ret
     exact⟨by rw[hr.out];rfl,rfl⟩
def lenW (l:By) (a:Nat):Nat:=8*gB l (a+1)+8
theorem wmeasure_any {w:World} {B:Nat} {v:Value} {l:By} (h:SlY w B v l) (hb:okB l) (hl:l.length≤1000000) {a:Nat} (ha:a≤l.length) :
  Calls Tryz.prog 208 #[v,.int .i64 a] w fun e w'=>e=.returned (if l.length<a+2∨l.length<a+lenW l a then .tuple #[.int .i64 0,.int .i64 0,.int .i64 3] else .tuple #[.int .i64 (lenW l a:Nat),.int .i64 (gB l a:Nat),.int .i64 0])∧Chg [] w w':=by
 obtain⟨A,c,rfl⟩:=h.form;have hs:IntKind.i64.wrap ((l.length:Int)-(a:Int))=(l.length:Int)-(a:Int):=by rw[IntKind.wrap_i64];omega
 by_cases h2:l.length<a+2
 ·rw[if_pos (.inl h2)];have hI:(l.length:Int)-(a:Int)<2:=by omega
  generalize l.length=n at *;clear h hb hl ha h2;go_enter Tryz.func208,Tryz.ntmps208
  go_wp2_with fail;go_ret3
  exact⟨rfl,Chg.refl _ _⟩
 ·have hI:¬(l.length:Int)-(a:Int)<2:=by omega
  have g1:=gB_lt hb (a+1);have g0:=gB_lt hb a;obtain⟨b,o,c',e,_,_,hc⟩:=h.all (by omega);simp only[Value.slice.injEq,true_and]at e;obtain⟨rfl,rfl⟩:=e;have c1:=hc (a+1) (by omega);have H0:=zH (fun (W:World) (hC:Chg [] w W)=>hC.cell (hc a (by omega)) (by simp));unfold byV at c1 H0
  have hL:Hid (lenW l a=8*gB l (a+1)+8):=zH rfl;have i1:(a:Int)+1<(l.length:Int):=by omega
  have i0:(a:Int)<(l.length:Int):=by omega
  have w1:IntKind.i64.wrap ((a:Int)+1)=(a:Int)+1:=by rw[IntKind.wrap_i64];omega
  have w2:IntKind.i64.wrap ((gB l (a+1):Int)+1)=(gB l (a+1):Int)+1:=by rw[IntKind.wrap_i64];omega
  have w3:IntKind.i64.wrap (8*((gB l (a+1):Int)+1))=((8*gB l (a+1)+8:Nat):Int):=by rw[IntKind.wrap_i64];omega
  by_cases hlt:l.length<a+lenW l a
  ·rw[if_pos (.inr hlt)];have hJ:(l.length:Int)-(a:Int)<((8*gB l (a+1)+8:Nat):Int):=by have:=hL.out;omega
   generalize 8*gB l (a+1)+8=z at *;generalize gB l (a+1)=x1 at *;generalize l.length=n at *;clear h hb hl ha h2 hc H0 hL hlt;go_enter Tryz.func208,Tryz.ntmps208
   go_wp2_with fail;go_ret3
   exact⟨rfl,Chg.refl _ _⟩
  ·rw[if_neg (by omega)];have hJ:¬(l.length:Int)-(a:Int)<((8*gB l (a+1)+8:Nat):Int):=by have:=hL.out;omega
   generalize 8*gB l (a+1)+8=z at *;generalize lenW l a=z' at *;generalize gB l (a+1)=x1 at *;generalize gB l a=x0 at *;generalize l.length=n at *;clear h hb hl ha h2 hc hlt;go_enter Tryz.func208,Tryz.ntmps208
   go_upto_region 7 with fail
   refine wp_region_chg (by kernel_rfl) (by kernel_rfl) ?_;have wx0:IntKind.i64.wrap (x0:Int)=(x0:Int):=by rw[IntKind.wrap_i64];omega
   (with_reducible refine wpQuiet_pure (v:=?_) ?_ (fun w=>?_) ?_);rotate_left;(focus rfl);(focus (go_simp<;>with_reducible rfl));(try simp only[zP])
   (with_reducible refine wpQuiet_pure (v:=?_) ?_ (fun w=>?_) ?_);rotate_left;(focus rfl);(focus (go_simp<;>with_reducible rfl));(try simp only[zP])
   (with_reducible refine wpQuiet_pure (v:=?_) ?_ (fun w=>?_) ?_);rotate_left;(focus rfl);(focus (go_simp<;>with_reducible rfl));(try simp only[zP])
   (with_reducible refine wpQuiet_pure (v:=?_) ?_ (fun w=>?_) ?_);rotate_left;(focus rfl);(focus (go_simp<;>with_reducible rfl));(try simp only[zP])
   (with_reducible refine wpQuiet_cellC 5 (.tmp 29) ?_ ?_ b (o+a) ?_ (.int .u8 (x0:Nat)) _ H0.out Tryz.underlying5 ?_ ?_);(focus rfl);(focus rfl);(focus rfl);(focus rfl);(try simp only[zP])
   (with_reducible refine wpQuiet_pure (v:=?_) ?_ (fun w=>?_) ?_);rotate_left;(focus rfl);(focus (go_simp<;>with_reducible rfl));(try simp only[zP])
   (with_reducible refine wpQuiet_pure (v:=?_) ?_ (fun w=>?_) ?_);rotate_left;(focus rfl);(focus (go_simp<;>with_reducible rfl));(try simp only[zP])
   (with_reducible refine wpQuiet_pure (v:=?_) ?_ (fun w=>?_) ?_);rotate_left;(focus rfl);(focus (go_simp<;>with_reducible rfl));(try simp only[zP])
   (with_reducible refine wpQuiet_pure (v:=?_) ?_ (fun w=>?_) ?_);rotate_left;(focus rfl);(focus (go_simp<;>with_reducible rfl));(try simp only[zP])
   refine wpQuiet_nil ?_;intro w11 hc11;go_wp2_with fail;go_ret3
   exact⟨by rw[hL.out];rfl,hc11⟩
def WkPost (x:Ans (List Pt)) (B:Nat) (e:Ending) (w':World):Prop:=match x with
 |.error n=>e=.returned (.tuple #[.slice none 0 0,.int .i64 n])
 |.ok r=>∃v',e=.returned (.tuple #[v',.int .i64 0])∧OwP w' B v' r
theorem WkPost.err {x:Ans (List Pt)} {B:Nat} {w':World} {n:Int} (h:x=.error n):WkPost x B (.returned (.tuple #[.slice none 0 0,.int .i64 n])) w':=by
 subst h;rfl
theorem WkPost.ok {x:Ans (List Pt)} {B:Nat} {w':World} {v':Value} {r:List Pt} (h:x=.ok r) (ho:OwP w' B v' r):WkPost x B (.returned (.tuple #[v',.int .i64 0])) w':=by
 subst h;exact⟨v',rfl,ho⟩
def lenC:Value→Nat
 |.slice _ n _=>n
 |_=>0
theorem lenC_own {w:World} {base size n:Nat} {e:TypeId} {v:Value} {xs:List Value} (h:w.ownsRow base e size v n xs):lenC v=n:=by
 rcases h.2 with ⟨rfl,h0⟩ | ⟨g,cap,cur,rfl,_⟩
 ·simp[lenC,h0]
 ·rfl
def preW (L:List Pt) (x:Ans (List Pt)):Ans (List Pt):=match x with | .error e=>.error e | .ok r=>.ok (L++r)
theorem litP (w:World) (p:Pt):Sl (w.alloc (.cells #[.int .i64 p.kind,.int .i64 (p.at_:Nat),.int .i64 (p.len:Nat)] 176)) 0 3 (.slice (some ⟨w.heap.size,0,none⟩) 1 1) 1 (encP p):=
 Sl.of_own (own_lit (base:=0) w 176 3 1 #[.int .i64 p.kind,.int .i64 (p.at_:Nat),.int .i64 (p.len:Nat)] (Nat.zero_le _) (by simp[maxLen]) rfl)
theorem OwP.snoc {w:World} {B:Nat} {v:Value} {L:List Pt} {p:Pt} (h:w.ownsRow B 176 3 v (L.length+1) (L.flatMap encP++encP p)):OwP w B v (L ++ [p]):=by
 unfold OwP;rw[List.length_append,←flat_snoc];exact h
theorem walk_any {w:World} {B:Nat} {v:Value} {l:By} (h:SlY w B v l) (hb:okB l) (hl:l.length≤1000000) (next:Int) {at_:Nat} (ha:at_≤1000000) :
  Calls Tryz.prog 152 #[v,.int .i64 next,.int .i64 at_] w fun e w'=>WkPost (walkS l next at_) w.heap.size e w'∧Chg [] w w':=by
 obtain⟨A,c,rfl⟩:=h.form;have h0:¬(at_:Int)<0:=by omega
 by_cases hal:l.length<at_
 ·have hE:Hid (walkS l next at_=.error 2):=zH (by unfold walkS;rw[if_pos hal]);have hI:(l.length:Int)<(at_:Int):=by omega
  generalize walkS l next at_=x at *;generalize l.length=n at *;clear h hb hl ha hal;go_enter Tryz.func152,Tryz.ntmps152
  go_wp2_with fail;refine wp_scope_straight ?_;go_wp2_with fail
  (try simp only[Exit.noGoto])
  go_ret2
  exact⟨WkPost.err hE.out,Chg.refl _ _⟩
 ·have hI:¬(l.length:Int)<(at_:Int):=by omega
  have HW:Hid (walkS l next at_=preW [] (walkW l 9 next at_ 0)):=zH (by
   unfold walkS preW;rw[if_neg hal];cases walkW l 9 next at_ 0<;>rfl)
  have HU:Hid (∀f nx a m,walkW l (f+1) nx a m=if mayW nx m≠0 then .error (mayW nx m) else if extW nx=false then .ok [⟨nx,a,l.length-a⟩]
   else if l.length<a+2∨l.length<a+lenW l a then .error 3 else preW [⟨nx,a,lenW l a⟩] (walkW l f (gB l a) (a+lenW l a) (m+1))):=zH (fun f nx a m=>by
    conv=>lhs;unfold walkW
    rfl)
  have HM:=zH (fun (W:World) (hc:Chg [] w W) (a:Nat) (h1:a≤l.length)=>wmeasure_any (h.chg0 hc) hb hl h1);have hal':at_≤l.length:=by omega
  have HL:Hid (∀a,lenW l a<100000):=zH fun a=>by have:=gB_lt hb (a+1);unfold lenW;omega
  generalize walkS l next at_=x at *;generalize hn:l.length=n at *;clear h hb ha hal hn;go_enter Tryz.func152,Tryz.ntmps152
  go_wp2_with fail;refine wp_scope_straight ?_;go_wp2_with fail;refine wp_label ?_;go_wp2_with fail;have HAL:=zH hal';clear h0 hI hal';generalize decide ((at_:Int)<0)=q1;generalize decide (n<at_)=q2
  go_loopw [1,2,8] (fun nv av ov wr=>∃(nx:Int) (a:Nat) (L:List Pt),nv=.int .i64 nx∧av=.int .i64 a∧a≤n∧L.length≤8∧Hid (x=preW L (walkW l (9-L.length) nx a L.length))∧Hid (OwP wr w.heap.size ov L)∧Hid (Chg [] w wr)) (fun _ _ ov _=>9-lenC ov)
  case atStart=>exact⟨next,at_,[],rfl,rfl,HAL.out,by simp,HW,zH (World.ownsRow_nil ..),zH (Chg.refl _ _)⟩
  case round=>
   obtain⟨nx,a,L,rfl,rfl,han,hL8,HX,HO,HC⟩:=hrel;have hlc:lenC u8=L.length:=lenC_own HO.out;obtain⟨A2,c2,rfl⟩:=Sl.form (Sl.of_own HO.out);have FM:=zH (wmay_any nx L.length (by omega) wr);have FE:=zH (wext_any nx wr);have hf:9-L.length=(8-L.length)+1:=by omega
   have HX2:=HX.out;rw[hf,HU.out]at HX2;clear HX hf;by_cases hm:mayW nx L.length=0
   ·rw[if_neg (by simpa using hm)]at HX2;rw[hm]at FM;cases hx:extW nx with
    |false=>
     rw[hx]at FE;rw[if_pos hx]at HX2;have HXh:Hid (x=.ok (L ++ [⟨nx,a,n-a⟩])):=zH HX2;have hw:IntKind.i64.wrap ((n:Int)-(a:Int))=((n-a:Nat):Int):=by rw[IntKind.wrap_i64];omega
     generalize n-a=d at *;have hA:=(Chg.refl [] wr).alloc (.cells #[.int .i64 nx,.int .i64 (a:Nat),.int .i64 (d:Nat)] 176);have HR:=zH (own_chg HO.out hA (by simp));have HS:=zH (litP wr ⟨nx,a,d⟩);have HLT:=zH (own_lt HO.out);have HA:=zH hA
     have hws:w.heap.size≤(wr.alloc (.cells #[.int .i64 nx,.int .i64 (a:Nat),.int .i64 (d:Nat)] 176)).heap.size:=by have:=HC.out.size;rw[World.size_alloc];omega
     clear HX2 hm hx HO hA HU HM HL hlc;generalize hLm:L.length=m at *;have HLm:=zH hLm;clear hLm;go_wp2_with fail;refine FM.out.mono ?_;rintro e w1 ⟨rfl,rfl⟩;go_wp2_with fail;refine FE.out.mono ?_;rintro e w1 ⟨rfl,rfl⟩;clear FM FE;go_wp2_with (first
      |(at_builtin;refine wpList_app elP rfl (.tmp 52) (.tmp 60) rfl w.heap.size rfl HR.out rfl HS.out (encP_one _) (by unfold maxLen;omega) (by omega) hws ?_;intro v1 w1 hown1 hc1 hb1)
      |fail)
     (try simp only[Exit.noGoto])
     go_ret2
     exact⟨WkPost.ok HXh.out (OwP.snoc (by rw[HLm.out];exact hown1)),(HC.out.trans HA.out).trans' hc1 (fun z hz=>.inr (HLT.out z hz).1)⟩
    |true=>
     rw[hx]at FE;rw[if_neg (by rw[hx];simp)]at HX2;have FMe:=zH (HM.out wr HC.out a han);by_cases hc:n<a+2∨n<a+lenW l a
     ·rw[if_pos hc]at HX2 FMe;have HXh:Hid (x=.error 3):=zH HX2;clear HX2 hm hx HO HU HM HL hlc hc;generalize L.length=m at *;go_wp2_with fail;refine FM.out.mono ?_;rintro e w1 ⟨rfl,rfl⟩;go_wp2_with fail;refine FE.out.mono ?_;rintro e w1 ⟨rfl,rfl⟩;clear FM FE;go_wp2_with fail;refine FMe.out.mono ?_
      rintro e w1 ⟨rfl,hc1⟩;go_wp2_with fail
      (try simp only[Exit.noGoto])
      go_ret2
      exact⟨WkPost.err HXh.out,HC.out.trans hc1⟩
     ·rw[if_neg hc]at HX2 FMe;have HXh:Hid (x=preW (L ++ [⟨nx,a,lenW l a⟩]) (walkW l (8-L.length) (gB l a) (a+lenW l a) (L.length+1))):=zH (by
       rw[HX2];unfold preW;cases walkW l (8-L.length) (gB l a) (a+lenW l a) (L.length+1)<;>simp)
      have hlt:a+lenW l a≤n:=by omega
      have hw:IntKind.i64.wrap ((a:Int)+(lenW l a:Int))=((a+lenW l a:Nat):Int):=by rw[IntKind.wrap_i64];omega
      have h7:L.length≤7:=by
       rcases Nat.lt_or_ge L.length 8 with h|h
       ·omega
       ·exfalso;have:mayW nx L.length=8∨mayW nx L.length=5∨mayW nx L.length=7:=by
         unfold mayW;by_cases h1:nx=44
         ·rw[if_pos h1];exact .inr (.inr rfl)
         ·rw[if_neg h1];by_cases h2:nx=0∧0<L.length
          ·rw[if_pos h2];exact .inr (.inl rfl)
          ·rw[if_neg h2,if_pos ⟨hx,h⟩];exact .inl rfl
        omega
      have HX3:Hid (x=preW (L ++ [⟨nx,a,lenW l a⟩]) (walkW l (9-(L ++ [(⟨nx,a,lenW l a⟩:Pt)]).length) (gB l a) (a+lenW l a) (L ++ [(⟨nx,a,lenW l a⟩:Pt)]).length)):=zH (by
       rw[HXh.out,List.length_append,List.length_singleton,show 9-(L.length+1)=8-L.length by omega])
      have hl1:(L ++ [(⟨nx,a,lenW l a⟩:Pt)]).length=L.length+1:=by simp
      have HL1:=zH hl1;generalize hz:a+lenW l a=z at *;generalize hlw:lenW l a=d at *;generalize gB l a=g at *;have HOw:=zH (own_lt HO.out);have HO':Hid (wr.ownsRow w.heap.size 176 3 (.slice A2 L.length c2) L.length (L.flatMap encP)):=zH HO.out;clear HX2 hm hx HO HU HM HL hlc hc HXh hz hlw hl1
      generalize hLm:L.length=m at *;have HLm:=zH hLm;clear hLm;go_wp2_with fail;refine FM.out.mono ?_;rintro e w1 ⟨rfl,rfl⟩;go_wp2_with fail;refine FE.out.mono ?_;rintro e w1 ⟨rfl,rfl⟩;clear FM FE;go_wp2_with fail;refine FMe.out.mono ?_;rintro e w1 ⟨rfl,hc1⟩;clear FMe
      have hA:=(Chg.refl [] w1).alloc (.cells #[.int .i64 nx,.int .i64 (a:Nat),.int .i64 (d:Nat)] 176);have HR:=zH (own_chg (own_chg HO'.out hc1 (by simp)) hA (by simp));have HS:=zH (litP w1 ⟨nx,a,d⟩);have HC1:=zH ((HC.out.trans hc1).trans hA)
      have hws:w.heap.size≤(w1.alloc (.cells #[.int .i64 nx,.int .i64 (a:Nat),.int .i64 (d:Nat)] 176)).heap.size:=HC1.out.size;clear hA hc1 HO';go_wp2_with (first
       |(at_builtin;refine wpList_app elP rfl (.tmp 41) (.tmp 46) rfl w.heap.size rfl HR.out rfl HS.out (encP_one _) (by unfold maxLen;omega) (by omega) hws ?_;intro v1 w2 hown1 hc1 hb1)
       |fail)
      have hlv:=lenC_own hown1;have HO2:Hid (OwP w2 w.heap.size v1 (L ++ [⟨nx,a,d⟩])):=zH (OwP.snoc (by rw[HLm.out];exact hown1));have HC2:=zH (HC1.out.trans' hc1 (fun z hz=>.inr (HOw.out z hz).1));clear hown1 hc1 hb1 HR HS HC1 hws HC HOw;go_roundw
      case rel=>exact⟨g,z,L ++ [⟨nx,a,d⟩],by go_num,by go_num,hlt,by rw[HL1.out];omega,HX3,HO2,HC2⟩
      case measure=>show 9-lenC v1<9-m;rw[hlv];omega
   ·rw[if_pos (by simpa using hm)]at HX2;have HXh:Hid (x=.error (mayW nx L.length)):=zH HX2;generalize mayW nx L.length=q at *;clear HX2 FE HU HM HL HO hlc;generalize L.length=m at *;go_wp2_with fail;refine FM.out.mono ?_;rintro e w1 ⟨rfl,rfl⟩;go_wp2_with fail
    (try simp only[Exit.noGoto])
    go_ret2
    exact⟨WkPost.err HXh.out,HC.out⟩
end Go.Proofs.YtgbndaiifbogmaaGreat
namespace Go.Proofs.YtgbndaiifbogmaaGreat
open Go.RowKit Go.Maps
theorem run_eql_slice_nil {P:Program} {t e:TypeId} (hu:P.underlying t=some (.slice e)) (w:World) (A:Option Addr) (n c:Nat) :
  (binOp .eql t (.slice A n c) (.slice none 0 0)).run P w=.ok (.bool A.isNone) w:=by
 have h:∀d:Nat,(Op.equalIn (d+1) t (.slice A n c) (.slice none 0 0)).run P w=.ok A.isNone w:=fun d=>by
  cases A<;>simp[Op.equalIn,run_underlying hu]
 simp only[binOp];simp[Op.equal,Op.maxDepth,h 9999]
theorem encA_one (A:Ad):∀u∈encA A,u.oneCell'=true:=by
 intro u hu;obtain⟨z,_,rfl⟩:=List.mem_map.1 hu;rfl
theorem elD:El Tryz.prog 27 24 (.agg (arrA ad0)) 16 16:=⟨Tryz.underlying27,by kernel_rfl,rfl,by omega⟩
def SlD (w:World) (B:Nat) (v:Value) (l:List Ad):Prop:=Sl w B 16 v l.length (l.flatMap encA)
def OwD (w:World) (B:Nat) (v:Value) (l:List Ad):Prop:=w.ownsRow B 24 16 v l.length (l.flatMap encA)
theorem OwD.sl {w:World} {B:Nat} {v:Value} {l:List Ad} (h:OwD w B v l):SlD w B v l:=Sl.of_own h
theorem cloneY_any {w:World} {B:Nat} {v:Value} {l:By} (h:SlY w B v l) (hl:l.length≤1000000) :
  Calls Tryz.prog 158 #[v] w fun e w'=>∃v',e=.returned v'∧OwY w' w.heap.size v' l∧Chg [] w w':=by
 obtain⟨A,c,rfl⟩:=Sl.form h;cases A with
 |none=>
  have h0:l=[]:=by
   obtain⟨hl',A',c',hv,hcap,hx⟩:=h;rcases Nat.eq_zero_or_pos l.length with e|e
   ·exact List.eq_nil_of_length_eq_zero e
   ·obtain⟨b,o,hA,_⟩:=hx e;simp only[Value.slice.injEq]at hv;rw[←hv.1]at hA;cases hA
  subst h0;clear h;have he:=fun w=>run_eql_slice_nil (P:=Tryz.prog) Tryz.underlying22 w none 0 c
  simp only[Option.isNone_none,List.length_nil]at he ⊢;go_enter Tryz.func158,Tryz.ntmps158
  go_wp2_with fail;go_ret
  exact⟨_,rfl,World.ownsRow_nil ..,Chg.refl _ _⟩
 |some ad=>
  have he:=fun w=>run_eql_slice_nil (P:=Tryz.prog) Tryz.underlying22 w (some ad) l.length c
  simp only[Option.isNone_some]at he;have hA:=(Chg.refl [] w).alloc (.cells #[] 5);have hown:=own_lit (base:=w.heap.size) w 5 1 0 #[] (Nat.le_refl _) (by simp[maxLen]) rfl;have hs:Sl (w.alloc (.cells #[] 5)) B 1 (.slice (some ad) l.length c) l.length (l.map byV):=h.chg0 hA
  have HI:=zH (And.intro hA (And.intro hown hs));have HL:=zH (own_lt hown);clear h hA hown hs;have HB1:=zH (byV_one l);have HO:Hid (∀(w':World) v',w'.ownsRow w.heap.size 5 1 v' (0+l.length) ((#[]:Array Value).toList++l.map byV)→OwY w' w.heap.size v' l):=zH fun w' v' h=>by
   unfold OwY;simpa using h
  go_enter Tryz.func158,Tryz.ntmps158
  go_wp2_with (first
   |(at_builtin;refine wpList_app elY rfl (.tmp 5) (.tmp 6) rfl w.heap.size rfl HI.out.2.1 rfl HI.out.2.2 HB1.out (by unfold maxLen;omega) (by omega) (by simp) ?_;intro v1 w1 hown1 hc1 hb1)
   |fail)
  go_ret
  exact⟨_,rfl,HO.out _ _ hown1,HI.out.1.trans' hc1 (fun x hx=>.inr (HL.out x hx).1)⟩
theorem cloneAd_any {w:World} {B:Nat} {v:Value} {l:List Ad} (h:SlD w B v l) (hl:l.length≤1000) :
  Calls Tryz.prog 325 #[v] w fun e w'=>∃v',e=.returned v'∧OwD w' w.heap.size v' l∧Chg [] w w':=by
 obtain⟨A,c,rfl⟩:=Sl.form h;cases A with
 |none=>
  have h0:l=[]:=by
   obtain⟨hl',A',c',hv,hcap,hx⟩:=h;rcases Nat.eq_zero_or_pos l.length with e|e
   ·exact List.eq_nil_of_length_eq_zero e
   ·obtain⟨b,o,hA,_⟩:=hx e;simp only[Value.slice.injEq]at hv;rw[←hv.1]at hA;cases hA
  subst h0;clear h;have he:=fun w=>run_eql_slice_nil (P:=Tryz.prog) Tryz.underlying27 w none 0 c
  simp only[Option.isNone_none,List.length_nil]at he ⊢;go_enter Tryz.func325,Tryz.ntmps325
  go_wp2_with fail;go_ret
  exact⟨_,rfl,World.ownsRow_nil ..,Chg.refl _ _⟩
 |some ad=>
  have he:=fun w=>run_eql_slice_nil (P:=Tryz.prog) Tryz.underlying27 w (some ad) l.length c
  simp only[Option.isNone_some]at he;have hA:=(Chg.refl [] w).alloc (.cells #[] 24);have hown:=own_lit (base:=w.heap.size) w 24 16 0 #[] (Nat.le_refl _) (by simp[maxLen]) rfl;have hs:Sl (w.alloc (.cells #[] 24)) B 16 (.slice (some ad) l.length c) l.length (l.flatMap encA):=h.chg0 hA
  have HI:=zH (And.intro hA (And.intro hown hs));have HL:=zH (own_lt hown);clear h hA hown hs;have HB1:=zH (flat_one encA_one l);have HO:Hid (∀(w':World) v',w'.ownsRow w.heap.size 24 16 v' (0+l.length) ((#[]:Array Value).toList++l.flatMap encA)→OwD w' w.heap.size v' l):=zH fun w' v' h=>by
   unfold OwD;simpa using h
  go_enter Tryz.func325,Tryz.ntmps325
  go_wp2_with (first
   |(at_builtin;refine wpList_app elD rfl (.tmp 5) (.tmp 6) rfl w.heap.size rfl HI.out.2.1 rfl HI.out.2.2 HB1.out (by unfold maxLen;omega) (by omega) (by simp) ?_;intro v1 w1 hown1 hc1 hb1)
   |fail)
  go_ret
  exact⟨_,rfl,HO.out _ _ hown1,HI.out.1.trans' hc1 (fun x hx=>.inr (HL.out x hx).1)⟩
theorem zeros_any {w:World} {B:Nat} {v:Value} {l:By} (h:SlY w B v l) (hl:l.length≤1000000) :
  Calls Tryz.prog 378 #[v] w fun e w'=>e=.returned (.bool (zerosB l))∧w=w':=by
 obtain⟨A,c,rfl⟩:=h.form;have HB:Hid (∀i,i<l.length→∃b o,A=some ⟨b,o,none⟩∧w.cell? ⟨b,o+i,none⟩=some (byV (gB l i))):=zH fun i hi=>by
  obtain⟨b,o,c',e,_,hc⟩:=h.at_ hi;simp only[Value.slice.injEq,true_and]at e;exact⟨b,o,e.1,hc⟩
 have H1:Hid (∀i,i<l.length→gB l i≠0→zerosB l=false):=zH fun i hi hne=>by
  unfold zerosB;rw[List.all_eq_false];exact⟨gB l i,List.mem_of_getElem? (gB_some hi),by simpa using hne⟩
 have H2:Hid ((∀i,i<l.length→gB l i=0)→zerosB l=true):=zH fun hz=>by
  unfold zerosB;rw[List.all_eq_true];intro x hx;obtain⟨i,hi,rfl⟩:=List.mem_iff_getElem.1 hx;have:=hz i hi;have e:=gB_some hi;rw[List.getElem?_eq_getElem hi]at e;simp only[Option.some.injEq]at e;rw[e,this];rfl
 generalize hn:l.length=n at *;clear h hn;go_enter Tryz.func378,Tryz.ntmps378
 go_wp2_with fail;go_loop [7] (fun iv=>∃k:Nat,k≤n∧iv=.int .i64 k∧Hid (∀i,i<k→gB l i=0)) (fun iv=>n-(intOf iv).toNat)
 case atStart=>exact⟨0,by omega,rfl,zH (fun i hi=>by omega)⟩
 case round=>
  obtain⟨k,hk,rfl,HZ⟩:=hrel;by_cases hlt:k<n
  ·obtain⟨b,o,rfl,hc⟩:=HB.out k hlt;unfold byV at hc;have hkI:(k:Int)<(n:Int):=by omega
   by_cases hz:gB l k=0
   ·have HZ2:Hid (∀i,i<k+1→gB l i=0):=zH fun i hi=>by
     rcases Nat.lt_or_ge i k with h|h
     ·exact HZ.out i h
     ·obtain rfl:i=k:=by omega
      exact hz
    rw[hz]at hc;clear hz HZ HB H1 H2;go_wp2_with fail;go_round
    case rel=>exact⟨k+1,by omega,by go_num,HZ2⟩
    case measure=>simp[intOf];omega
   ·have hr:=zH (H1.out k hlt hz);have hzI:(((gB l k:Nat):Int)==0)=false:=by rw[beq_eq_false_iff_ne];omega
    generalize gB l k=x at *;clear hz HZ HB H1 H2;go_wp2_with fail;go_ret
    exact⟨by rw[hr.out];rfl,rfl⟩
  ·obtain rfl:k=n:=by omega
   have hr:=zH (H2.out HZ.out);clear HZ HB H1 H2;go_wp2_with fail;go_ret
   exact⟨by rw[hr.out];rfl,rfl⟩
end Go.Proofs.YtgbndaiifbogmaaGreat
namespace Go.Proofs.YtgbndaiifbogmaaGreat
open Go.RowKit Go.Maps
@[reducible] def arrSr (s:Sr) (sv tv:Value):Array Value:=#[.int .i64 s.nxt,.int .i64 s.left,.int .i64 s.flags,.int .i64 s.tag,sv,tv]
@[reducible] def arrWi (s:Sr) (sv tv tl:Value):Array Value:=#[.int .i64 s.nxt,.int .i64 s.left,.int .i64 s.flags,.int .i64 s.tag,sv,tv,tl]
@[reducible] def noV:Value:=.slice none 0 0
theorem infSr {s:Sr} {sv tv:Value}:(Tryz.prog.info? 30).map (·.size)=some (arrSr s sv tv).size:=by
 show _=some 6;kernel_rfl
theorem whas_any {w:World} {g:Nat} {s:Sr} {A:Option Addr} {m c:Nat} {tv tl:Value} (h:Blk w g 308 (arrWi s (.slice A m c) tv tl)) (n:Int) :
  Calls Tryz.prog 263 #[.pointer (some ⟨g,0,none⟩),.int .i64 n] w fun e w'=>e=.returned (.bool (decide (0≤n∧n<(m:Int))))∧w=w':=by
 have c4:w.cell? ⟨g,4,none⟩=some (.slice A m c):=h.cell 4;by_cases h0:0≤n
 ·by_cases h1:n<(m:Int)
  ·have hr:decide (0≤n∧n<(m:Int))=true:=decide_eq_true ⟨h0,h1⟩;rw[hr];clear h hr;go_enter Tryz.func263,Tryz.ntmps263
   go_wp2_with fail;go_ret
   exact⟨rfl,rfl⟩
  ·have hr:decide (0≤n∧n<(m:Int))=false:=decide_eq_false (by omega);rw[hr];clear h hr;go_enter Tryz.func263,Tryz.ntmps263
   go_wp2_with fail;go_ret
   exact⟨rfl,rfl⟩
 ·have hr:decide (0≤n∧n<(m:Int))=false:=decide_eq_false (by omega);rw[hr];clear h hr c4;go_enter Tryz.func263,Tryz.ntmps263
  go_wp2_with fail;go_ret
  exact⟨rfl,rfl⟩
theorem SlD.rec {w:World} {B:Nat} {A:Option Addr} {m c:Nat} {l:List Ad} (h:SlD w B (.slice A m c) l) {i:Nat} {x:Ad} (hi:l[i]?=some x) :
  m=l.length∧∃b o,A=some ⟨b,o,none⟩∧w.rangeAt b (o+i*16) (arrA x).toList:=by
 obtain⟨b,o,c',hv,_,_,hx⟩:=Sl.rec encA_len (by omega) h hi;simp only[Value.slice.injEq]at hv;refine⟨hv.2.1,b,o,hv.1,fun j u hu=>?_⟩;have hj:j<16:=(List.getElem?_eq_some_iff.1 hu).1;rw[show o+i*16+j=o+(i*16+j) by omega,hx j hj];exact hu
theorem segment_some {w:World} {B:Nat} {s:Sr} {A:Option Addr} {m c:Nat} {tv:Value} {l:List Ad} (hs:SlD w B (.slice A m c) l) {i:Nat} {x:Ad} (hi:l[i]?=some x) (h1:∀u∈[tv],u.oneCell'=true) :
  Calls Tryz.prog 211 #[.agg (arrSr s (.slice A m c) tv),.int .i64 i] w fun e w'=>e=.returned (.tuple #[.agg (arrA x),.bool true])∧Chg [] w w':=by
 obtain⟨hm,b,o,rfl,hr⟩:=hs.rec hi;have hil:i<m:=by rw[hm];exact (List.getElem?_eq_some_iff.1 hi).1
 have hv:tv.oneCell'=true:=h1 tv (by simp);have hA:=(((Chg.refl [] w).alloc (.cells (arrSr s (.slice (some ⟨b,o,none⟩) m c) tv) 30)).alloc (.cells (arrA ad0) 24)).alloc (.cells (arrWi s (.slice (some ⟨b,o,none⟩) m c) tv noV) 308)
 have hB1:Blk ((w.alloc (.cells (arrSr s (.slice (some ⟨b,o,none⟩) m c) tv) 30)).alloc (.cells (arrA ad0) 24)) w.heap.size 30 (arrSr s (.slice (some ⟨b,o,none⟩) m c) tv):=(Blk.new _ _ _).alloc _
 have hB2:Blk (((w.alloc (.cells (arrSr s (.slice (some ⟨b,o,none⟩) m c) tv) 30)).alloc (.cells (arrA ad0) 24)).alloc (.cells (arrWi s (.slice (some ⟨b,o,none⟩) m c) tv noV) 308)) (w.heap.size+1) 24 (arrA ad0):=(Blk.new' (by simp)).alloc _
 have hB3:Blk (((w.alloc (.cells (arrSr s (.slice (some ⟨b,o,none⟩) m c) tv) 30)).alloc (.cells (arrA ad0) 24)).alloc (.cells (arrWi s (.slice (some ⟨b,o,none⟩) m c) tv noV) 308)) (w.heap.size+1+1) 308 (arrWi s (.slice (some ⟨b,o,none⟩) m c) tv noV):=Blk.new' (by simp)
 have hd:decide ((0:Int)≤(i:Int)∧(i:Int)<(m:Int))=true:=decide_eq_true ⟨by omega,by omega⟩;have FH:=zH (whas_any hB3 i);rw[hd]at FH
 have c4:(((w.alloc (.cells (arrSr s (.slice (some ⟨b,o,none⟩) m c) tv) 30)).alloc (.cells (arrA ad0) 24)).alloc (.cells (arrWi s (.slice (some ⟨b,o,none⟩) m c) tv noV) 308)).cell? ⟨w.heap.size+1+1,4,none⟩=some (.slice (some ⟨b,o,none⟩) m c):=hB3.cell 4;have hr3:=rangeAt_chg hr hA (by simp)
 have hiI:(i:Int)<(m:Int):=by omega
 have hi0:(0:Int)≤(i:Int):=by omega
 have HA:=zH hA;clear hd hs hi hm hA hB3;go_enter Tryz.func211,Tryz.ntmps211
 go_wp2_with (first
  |(refine zl rfl 30 (.tmp 2) rfl hB1 rfl _ Tryz.underlying30 rfl infSr ?_)
  |fail)
 refine FH.out.mono ?_;rintro e w3 ⟨rfl,rfl⟩;go_wp2_with (first
  |(refine wpList_load_mid rfl 24 (.tmp 21) rfl b (o+i*16) rfl (arrA x).toList _ hr3 Tryz.underlying24 rfl infAd ?_)
  |(refine zs (vs:=arrA x) rfl 24 (.tmp 4) (.tmp 22) rfl rfl hB2 rfl rfl rfl infAd rfl ?_;intro w9 hB9 hc9)
  |fail)
 refine bodyPost_ret (zr rfl rfl hB9 _ Tryz.underlying24 rfl infAd) rfl ?_;exact⟨rfl,HA.out.trans' hc9 (zN (by omega))⟩
theorem final_any {w:World} {B:Nat} {s:Sr} {A:Option Addr} {m c:Nat} {tv:Value} {l:List Ad} (hs:SlD w B (.slice A m c) l) {x:Ad} (hi:l[0]?=some x) (h1:∀u∈[tv],u.oneCell'=true) :
  Calls Tryz.prog 155 #[.agg (arrSr s (.slice A m c) tv)] w fun e w'=>e=.returned (.tuple #[.agg (arrA x),.bool true])∧Chg [] w w':=by
 have hv:tv.oneCell'=true:=h1 tv (by simp);have hA:=((Chg.refl [] w).alloc (.cells (arrSr s (.slice A m c) tv) 30)).alloc (.cells (arrA ad0) 24)
 have hB1:Blk ((w.alloc (.cells (arrSr s (.slice A m c) tv) 30)).alloc (.cells (arrA ad0) 24)) w.heap.size 30 (arrSr s (.slice A m c) tv):=(Blk.new _ _ _).alloc _
 have hB2:Blk ((w.alloc (.cells (arrSr s (.slice A m c) tv) 30)).alloc (.cells (arrA ad0) 24)) (w.heap.size+1) 24 (arrA ad0):=Blk.new' (by simp)
 have FS:=zH (fun (W:World) (hc:Chg [] w W)=>(show Calls Tryz.prog 211 #[.agg (arrSr s (.slice A m c) tv),.int .i64 0] W _ from segment_some (s:=s) (tv:=tv) (Sl.chg0 hs hc) hi h1));have HA:=zH hA;clear hs hi h1 hA;go_enter Tryz.func155,Tryz.ntmps155
 go_wp2_with (first
  |(refine zl rfl 30 (.tmp 1) rfl hB1 rfl _ Tryz.underlying30 rfl infSr ?_)
  |fail)
 refine (FS.out _ HA.out).mono ?_;rintro e w3 ⟨rfl,hc3⟩;have hB3:=hB2.chg hc3 (by simp);have HC3:=zH (HA.out.trans hc3);clear hc3;go_wp2_with (first
  |(refine zs (vs:=arrA x) rfl 24 (.tmp 2) (.tmp 6) rfl rfl hB3 rfl rfl rfl infAd rfl ?_;intro w9 hB9 hc9)
  |fail)
 refine bodyPost_ret (zr rfl rfl hB9 _ Tryz.underlying24 rfl infAd) rfl ?_;exact⟨rfl,HC3.out.trans' hc9 (zN (by omega))⟩
theorem active_any {w:World} {B:Nat} {s:Sr} {A:Option Addr} {m c:Nat} {tv:Value} {l:List Ad} (hs:SlD w B (.slice A m c) l) {i:Nat} (hl:s.left=(i:Nat)) {x:Ad} (hi:l[i]?=some x) (h1:∀u∈[tv],u.oneCell'=true) :
  Calls Tryz.prog 156 #[.agg (arrSr s (.slice A m c) tv)] w fun e w'=>e=.returned (.tuple #[.agg (arrA x),.bool true])∧Chg [] w w':=by
 have hv:tv.oneCell'=true:=h1 tv (by simp);have hA:=((Chg.refl [] w).alloc (.cells (arrSr s (.slice A m c) tv) 30)).alloc (.cells (arrA ad0) 24)
 have hB1:Blk ((w.alloc (.cells (arrSr s (.slice A m c) tv) 30)).alloc (.cells (arrA ad0) 24)) w.heap.size 30 (arrSr s (.slice A m c) tv):=(Blk.new _ _ _).alloc _
 have hB2:Blk ((w.alloc (.cells (arrSr s (.slice A m c) tv) 30)).alloc (.cells (arrA ad0) 24)) (w.heap.size+1) 24 (arrA ad0):=Blk.new' (by simp);have FS:=zH (fun (W:World) (hc:Chg [] w W)=>segment_some (s:=s) (tv:=tv) (Sl.chg0 hs hc) hi h1);rw[←hl]at FS
 have c1:((w.alloc (.cells (arrSr s (.slice A m c) tv) 30)).alloc (.cells (arrA ad0) 24)).cell? ⟨w.heap.size,1,none⟩=some (.int .i64 s.left):=hB1.cell 1;have HA:=zH hA;clear hs hi h1 hA hl;go_enter Tryz.func156,Tryz.ntmps156
 go_wp2_with (first
  |(refine zl rfl 30 (.tmp 1) rfl hB1 rfl _ Tryz.underlying30 rfl infSr ?_)
  |fail)
 refine (FS.out _ HA.out).mono ?_;rintro e w3 ⟨rfl,hc3⟩;have hB3:=hB2.chg hc3 (by simp);have HC3:=zH (HA.out.trans hc3);clear hc3;go_wp2_with (first
  |(refine zs (vs:=arrA x) rfl 24 (.tmp 2) (.tmp 8) rfl rfl hB3 rfl rfl rfl infAd rfl ?_;intro w9 hB9 hc9)
  |fail)
 refine bodyPost_ret (zr rfl rfl hB9 _ Tryz.underlying24 rfl infAd) rfl ?_;exact⟨rfl,HC3.out.trans' hc9 (zN (by omega))⟩
end Go.Proofs.YtgbndaiifbogmaaGreat
namespace Go.Proofs.YtgbndaiifbogmaaGreat
open Go.RowKit Go.Maps
def OwT (w:World) (B:Nat) (v:Value) (n:Nat):Prop:=∃k xs,k+n≤1000000∧w.ownsRow B 283 2 v k xs
theorem elT:El Tryz.prog 28 283 (.agg #[.int .i64 0,.slice none 0 0]) 2 32:=⟨Tryz.underlying28,by kernel_rfl,rfl,by omega⟩
theorem tlvW_0 {f:Nat} {m:By} (h:m.length<f) (h0:m.length=0):tlvW f m=0:=by
 cases f with
 |zero=>omega
 |succ f=>unfold tlvW;rw[if_pos h0]
theorem tlvW_pad {f:Nat} {m:By} (h:m.length<f) (h0:0<m.length) (hz:gB m 0=0):∃f',tlvW f m=tlvW f' (m.drop 1)∧(m.drop 1).length<f':=by
 cases f with
 |zero=>omega
 |succ f=>exact⟨f,by (conv=>lhs;unfold tlvW);rw[if_neg (by omega),if_pos hz],by rw[List.length_drop];omega⟩
theorem tlvW_bad {f:Nat} {m:By} (h:m.length<f) (h0:0<m.length) (hz:¬gB m 0=0) (hb:m.length<2∨m.length<2+gB m 1):tlvW f m=3:=by
 cases f with
 |zero=>omega
 |succ f=>unfold tlvW;rw[if_neg (by omega),if_neg hz,if_pos hb]
theorem tlvW_on {f:Nat} {m:By} (h:m.length<f) (h0:0<m.length) (hz:¬gB m 0=0) (hb:¬(m.length<2∨m.length<2+gB m 1)):∃f',tlvW f m=tlvW f' (m.drop (2+gB m 1))∧(m.drop (2+gB m 1)).length<f':=by
 cases f with
 |zero=>omega
 |succ f=>exact⟨f,by (conv=>lhs;unfold tlvW);rw[if_neg (by omega),if_neg hz,if_neg hb],by rw[List.length_drop];omega⟩
theorem wp_scope_back {P:Program} {a:Act} {w:World} {Q:Exit→Act→World→Prop} {c X:Code} (l:Nat) (J:Act→World→Prop) (μ:Act→World→Nat) (hf:findLabel c l=some (Code.skip.seq X))
  (pass:∀a w,J a w→X.wp P (Exit.jump l (fun a' w'=>J a' w'∧μ a' w'<μ a w) Q) a w)
  (first:(∀a w,J a w→X.wp P (Exit.jump l J Q) a w)→c.wp P (Exit.jump l J Q) a w):(Code.scope c).wp P Q a w:=
 wp_scope_jumps l J μ hf (first fun a w hJ=>wp_mono (pass a w hJ) (fun e a' w' q=>by
  cases e<;>first|exact q|exact⟨q.1,q.2.1⟩)) (fun a w hJ=>wp_seq (wp_skip (pass a w hJ)))
def lenV:Value→Nat
 |.slice _ n _=>n
 |_=>0
theorem tlv_any {w:World} {B:Nat} {v:Value} {l:By} (h:SlY w B v l) (hb:okB l) (hl:l.length≤1000000) :
  Calls Tryz.prog 210 #[v] w fun e w'=>(∃A n c,e=.returned (.tuple #[.slice A n c,.int .i64 (tlvS l)]))∧Chg [] w w':=by
 obtain⟨A0,c0,rfl⟩:=h.form;have hx:Hid (tlvW (l.length+1) l=tlvS l):=zH rfl;generalize tlvS l=x at *;have h0:=h.less (Nat.zero_le _);clear h;go_enter Tryz.func210,Tryz.ntmps210
 go_wp2_with fail
 refine wp_scope_back 0 (fun (a:Act) (wr:World)=>∃t1 t2 t3 t5 t6 t7 t8 t9 t10 t11 t12 t13 t14 t15 t16 t17 t18 t19 t20 t21 t22 t23 t24 t25 t26 t27 t28 t29 t30 t31 t32 t33 t34 t35 t36 t37 t38 t39 t40 t41 t42 t43 t44 t45 t46 t47 t48 t49 t50 t51 t52 t53 t54 t55,∃(A:Option Addr) (n c f:Nat) (ov:Value) (m:By),a={tmps:=(.slice A n c::t1::t2::t3::ov::t5::t6::t7::t8::t9::t10::t11::t12::t13::t14::t15::t16::t17::t18::t19::t20::t21::t22::t23::t24::t25::t26::t27::t28::t29::t30::t31::t32::t33::t34::t35::t36::t37::t38::t39::t40::t41::t42::t43::t44::t45::t46::t47::t48::t49::t50::t51::t52::t53::t54::t55 :: []:List Value).toArray,defers:=[]}∧Hid (OwT wr w.heap.size ov n)∧m.length=n∧m.length<f∧Hid (tlvW f m=x)∧okB m∧SlY w 0 (.slice A n c) m∧m.length≤1000000∧Hid (Chg [] w wr)) (fun a _=>lenV (a.tmps.getD 0 undef)) rfl ?_ ?_
 ·rintro a wr ⟨t1,t2,t3,t5,t6,t7,t8,t9,t10,t11,t12,t13,t14,t15,t16,t17,t18,t19,t20,t21,t22,t23,t24,t25,t26,t27,t28,t29,t30,t31,t32,t33,t34,t35,t36,t37,t38,t39,t40,t41,t42,t43,t44,t45,t46,t47,t48,t49,t50,t51,t52,t53,t54,t55,A,n,c,f,ov,m,rfl,HO,hmn,hf,HX,hbm,hs,hml,HC⟩;clear h0 hb hl hx
  have hn6:n≤1000000:=by omega
  rcases Nat.eq_zero_or_pos n with h0|h0
  ·subst h0;rw[tlvW_0 hf hmn]at HX;have hX:=HX.out;subst hX;obtain⟨k,xs,hk,ho⟩:=HO.out;obtain⟨A2,c2,rfl⟩:=Sl.form (Sl.of_own ho);clear HX HO ho hs hbm hf hmn;go_wp2_with fail;rw[jump_ret];go_ret2
   exact⟨⟨_,_,_,rfl⟩,HC.out⟩
  ·have hsr:=hs.chg0 HC.out;obtain⟨b,o,c',e,hcap,_,hcell⟩:=hsr.all (by omega);simp only[Value.slice.injEq]at e;obtain⟨rfl,e2,rfl⟩:=e;clear e2;have hc0:=hcell 0 (by omega);have g0:=gB_lt hbm 0;unfold byV at hc0;rw[Nat.add_zero]at hc0;have hnI:(((n:Nat):Int)==0)=false:=by rw[beq_eq_false_iff_ne];omega
   have i0:(0:Int)<(n:Int):=by omega
   by_cases hz:gB m 0=0
   ·obtain⟨f',hX,hf'⟩:=tlvW_pad hf (by omega) hz;obtain⟨X,hXr,hs'⟩:=cutYf hs (lo:=1) (by omega);have hXr':∀W:World,(Instr.slice 22 (.slice (some ⟨b,o,none⟩) n c) (some (.int .i64 1)) none none).run Tryz.prog W=.ok (.slice X (n-1) (c-1)) W:=hXr;rw[hz]at hc0
    have HO':Hid (OwT wr w.heap.size ov (n-1)):=zH (by obtain⟨k,xs,hk,ho⟩:=HO.out;exact⟨k,xs,by omega,ho⟩);have HX':Hid (tlvW f' (m.drop 1)=x):=zH (by rw[←hX];exact HX.out);have hb':=hbm.drop 1;have hl':(m.drop 1).length=n-1:=by rw[List.length_drop];omega
    clear hXr HO HX hX hz hsr hcell hf hbm hs hmn;go_wp2_with fail;refine wp_goto ?_;refine⟨rfl,⟨_,_,_,_,_,_,_,_,_,_,_,_,_,_,_,_,_,_,_,_,_,_,_,_,_,_,_,_,_,_,_,_,_,_,_,_,_,_,_,_,_,_,_,_,_,_,_,_,_,_,_,_,_,_,X,n-1,c-1,f',ov,m.drop 1,rfl,HO',hl',hf',HX',hb',hs',by omega,HC⟩,?_⟩;show n-1<n;omega
   ·have hzI:(((gB m 0:Nat):Int)==0)=false:=by rw[beq_eq_false_iff_ne];omega
    have g1:=gB_lt hbm 1;have hw2:IntKind.i64.wrap ((n:Int)-2)=(n:Int)-2:=by rw[IntKind.wrap_i64];omega
    by_cases h2:n<2
    ·have hX:=tlvW_bad hf (by omega) hz (.inl (by omega));rw[hX]at HX;have hX:=HX.out;subst hX;have i2:(n:Int)<2:=by omega
     generalize gB m 0=x0 at *;clear HO HX hz hsr hcell hf hbm hs hmn g1 hnI;have hnI:(((n:Nat):Int)==0)=false:=by rw[beq_eq_false_iff_ne];omega
     go_wp2_with fail;rw[jump_ret];go_ret2
     exact⟨⟨_,_,_,rfl⟩,HC.out⟩
    ·have i2:¬(n:Int)<2:=by omega
     have hc1:=hcell 1 (by omega);unfold byV at hc1;have i1:(1:Int)<(n:Int):=by omega
     by_cases h3:n<2+gB m 1
     ·have hX:=tlvW_bad hf (by omega) hz (.inr (by omega));rw[hX]at HX;have hX:=HX.out;subst hX;have i3:(n:Int)-2<((gB m 1:Nat):Int):=by omega
      generalize gB m 0=x0 at *;generalize gB m 1=x1 at *;clear HO HX hz hsr hcell hf hbm hs hmn h3;go_wp2_with fail;rw[jump_ret];go_ret2
      exact⟨⟨_,_,_,rfl⟩,HC.out⟩
     ·have i3:¬(n:Int)-2<((gB m 1:Nat):Int):=by omega
      obtain⟨f',hX,hf'⟩:=tlvW_on hf (by omega) hz (by omega);obtain⟨X,hXr,hs'⟩:=cutYf hs (lo:=2+gB m 1) (by omega);have HX':Hid (tlvW f' (m.drop (2+gB m 1))=x):=zH (by rw[←hX];exact HX.out);have hb':=hbm.drop (2+gB m 1);have hl':(m.drop (2+gB m 1)).length=n-(2+gB m 1):=by rw[List.length_drop];omega
      have hw3:IntKind.i64.wrap (2+((gB m 1:Nat):Int))=((2+gB m 1:Nat):Int):=by rw[IntKind.wrap_i64];omega
      by_cases h4:gB m 0=4
      ·have HO':Hid (OwT wr w.heap.size ov (n-(2+gB m 1))):=zH (by obtain⟨k,xs,hk,ho⟩:=HO.out;exact⟨k,xs,by omega,ho⟩);have hlt:n-(2+gB m 1)<n:=by omega
       rw[h4]at hc0 hzI;generalize m.drop (2+gB m 1)=m' at *;generalize h2g:2+gB m 1=z at *;generalize gB m 1=x1 at *;clear HO HX hX hz hsr hcell hf hbm hs hmn h4 h3 h2g;go_wp2_with fail;refine wp_goto ?_
       refine⟨rfl,⟨_,_,_,_,_,_,_,_,_,_,_,_,_,_,_,_,_,_,_,_,_,_,_,_,_,_,_,_,_,_,_,_,_,_,_,_,_,_,_,_,_,_,_,_,_,_,_,_,_,_,_,_,_,_,X,n-z,c-z,f',ov,m',rfl,HO',hl',hf',HX',hb',hs',by omega,HC⟩,?_⟩;exact hlt
      ·have h4I:(((gB m 0:Nat):Int)==4)=false:=by rw[beq_eq_false_iff_ne];omega
       obtain⟨X2,hXr2,hs2⟩:=cutY2 hs (lo:=2) (hi:=2+gB m 1) (by omega) (by omega);have HC8:=HC.out;have FC:=zH (fun (W:World) (hc:Chg [] wr W)=>cloneY_any ((hs2.chg0 HC8).chg0 hc) (by rw[List.length_take,List.length_drop];omega));have hbw:b<w.heap.size:=by
        obtain⟨b',o',c'',e',_,_,hcw⟩:=hs.all (by omega);simp only[Value.slice.injEq,Option.some.injEq,Addr.mk.injEq]at e';obtain⟨⟨rfl,rfl,_⟩,_,_⟩:=e';exact World.block_lt_of_cell? w _ (hcw 0 (by omega))
       have hbo:b∉ov.ownBlock.toList:=fun hm=>by
        obtain⟨k,xs,hk,ho⟩:=HO.out;have:=(own_lt ho b hm).1;omega
       have hc0w:∀W:World,Chg ov.ownBlock.toList wr W→W.cell? ⟨b,o,none⟩=some (.int .u8 (gB m 0:Nat)):=fun W hc=>hc.cell hc0 hbo
       have wx0:IntKind.i64.wrap ((gB m 0:Nat):Int)=((gB m 0:Nat):Int):=by rw[IntKind.wrap_i64];omega
       have hXr2':∀W:World,(Instr.slice 22 (.slice (some ⟨b,o,none⟩) n c) (some (.int .i64 2)) (some (.int .i64 ((2+gB m 1:Nat):Int))) none).run Tryz.prog W=.ok (.slice X2 (2+gB m 1-2) (c-2)) W:=hXr2;have hlt:n-(2+gB m 1)<n:=by omega
       generalize m.drop (2+gB m 1)=m' at *;generalize (m.drop 2).take (2+gB m 1-2)=dt at *;have hz1:n-(2+gB m 1)+1≤n:=by omega
       generalize h2g:2+gB m 1=z at *;generalize gB m 1=x1 at *;generalize gB m 0=x0 at *;clear HX hX hz hsr hcell hf hbm hs hmn h4 h3 h2g hs2 hXr2;go_upto_region 10 with fail
       have hS0:Chg [] wr wr.drew:=(Chg.refl [] wr).drew;have hS0':Chg ov.ownBlock.toList wr wr.drew:=hS0.more (by simp);refine wp_region_held_drew (S:=Chg ov.ownBlock.toList wr) (by kernel_rfl) hS0' (fun _=>?_);refine zU 0 rfl (by go_simp<;>with_reducible rfl) ?_
       try simp only[zP]
       refine zU 1 rfl (by go_simp<;>with_reducible rfl) ?_
       try simp only[zP]
       refine zU 2 rfl (by go_simp<;>with_reducible rfl) ?_
       try simp only[zP]
       refine zT 3 rfl (zc (by rfl) 5 (.tmp 43) rfl b o rfl (.int .u8 (x0:Nat)) _ hc0w Tryz.underlying5 rfl) ?_
       try simp only[zP]
       refine zU 4 rfl (by go_simp<;>with_reducible rfl) ?_
       try simp only[zP]
       refine zU 5 rfl (by go_simp<;>with_reducible rfl) ?_
       try simp only[zP]
       refine zU 6 rfl (by go_simp<;>with_reducible rfl) ?_
       try simp only[zP]
       refine zU 7 rfl (by go_simp<;>with_reducible rfl) ?_
       try simp only[zP]
       refine zR 8 rfl (fun K hK=>?_);go_simp
       refine (FC.out _ hS0).mono ?_;rintro e w3 ⟨v3,rfl,ho3,hc3⟩;obtain⟨A3,c3,rfl⟩:=(OwY.sl ho3).form;have hS3:Chg [] wr w3:=hS0.trans hc3;have hS3':Chg ov.ownBlock.toList wr w3:=hS3.more (by simp);clear ho3 hc3;generalize dt.length=n3;refine zB hK ?_;clear hK K
       try simp only[zP]
       refine zU 9 rfl (by go_simp<;>with_reducible rfl) ?_
       try simp only[zP]
       refine zR 10 rfl (fun K hK=>?_);refine step_run (v:=.slice (some ⟨w3.heap.size,0,none⟩) 1 1) (w':=w3.alloc (.cells #[.int .i64 (x0:Nat),.slice A3 n3 c3] 283)) rfl (by go_simp<;>rfl) ?_;have hS4:Chg [] wr (w3.alloc (.cells #[.int .i64 (x0:Nat),.slice A3 n3 c3] 283)):=hS3.alloc _
       have hS4':Chg ov.ownBlock.toList wr (w3.alloc (.cells #[.int .i64 (x0:Nat),.slice A3 n3 c3] 283)):=hS4.more (by simp);have hs4:Sl (w3.alloc (.cells #[.int .i64 (x0:Nat),.slice A3 n3 c3] 283)) 0 2 (.slice (some ⟨w3.heap.size,0,none⟩) 1 1) 1 [.int .i64 (x0:Nat),.slice A3 n3 c3]:=
        Sl.of_own (own_lit (base:=0) w3 283 2 1 #[.int .i64 (x0:Nat),.slice A3 n3 c3] (Nat.zero_le _) (by simp[maxLen]) rfl)
       generalize w3.heap.size=g4 at *;generalize w3.alloc (.cells #[.int .i64 (x0:Nat),.slice A3 n3 c3] 283)=w4 at *;obtain⟨k,xs,hk,ho⟩:=HO.out;have hlt4:=own_lt ho;have ho4:=own_chg ho hS4 (by simp);refine zB hK ?_;clear hK K
       try simp only[zP]
       refine zR 11 rfl (fun K hK=>?_);refine step_app elT rfl (.tmp 41) (.tmp 51) rfl w.heap.size rfl ho4 rfl hs4 (by intro u hu;simp at hu;rcases hu with rfl|rfl<;>rfl) (by unfold maxLen;omega) (by omega) (Nat.le_trans HC.out.size hS4.size) ?_;intro v5 w5 hown5 hc5 hb5
       have HO':Hid (OwT w5 w.heap.size v5 (n-z)):=zH ⟨k+1,_,by omega,hown5⟩;have HC5:Hid (Chg [] w w5):=zH ((HC.out.trans hS4).trans' hc5 (fun y hy=>.inr (hlt4 y hy).1));have hS5':Chg ov.ownBlock.toList wr w5:=hS4'.trans hc5;refine zB hK ?_;clear hK K
       try simp only[zP]
       refine zU 12 rfl (by go_simp<;>with_reducible rfl) ?_
       try simp only[zP]
       refine wpAnyH_done (by kernel_rfl) ?_ _;clear hS0 hS0' hS3 hS3' hS4 hS4' hS5' hc5 hb5 hown5 ho4 hlt4 ho hs4 hc0w hc0 FC;go_wp2_with fail;refine wp_goto ?_
       refine⟨rfl,⟨_,_,_,_,_,_,_,_,_,_,_,_,_,_,_,_,_,_,_,_,_,_,_,_,_,_,_,_,_,_,_,_,_,_,_,_,_,_,_,_,_,_,_,_,_,_,_,_,_,_,_,_,_,_,X,n-z,c-z,f',v5,m',rfl,HO',hl',hf',HX',hb',hs',by omega,HC5⟩,?_⟩;exact hlt
 ·intro HP;go_wp2_with fail;refine wp_label ?_;rename_i K hK
  exact hK _ _ (HP _ _ ⟨_,_,_,_,_,_,_,_,_,_,_,_,_,_,_,_,_,_,_,_,_,_,_,_,_,_,_,_,_,_,_,_,_,_,_,_,_,_,_,_,_,_,_,_,_,_,_,_,_,_,_,_,_,_,A0,l.length,c0,l.length+1,.slice none 0 0,l,rfl,zH ⟨0,[],by omega,World.ownsRow_nil ..⟩,rfl,by omega,hx,hb,h0,hl,zH (Chg.refl _ _)⟩)
end Go.Proofs.YtgbndaiifbogmaaGreat

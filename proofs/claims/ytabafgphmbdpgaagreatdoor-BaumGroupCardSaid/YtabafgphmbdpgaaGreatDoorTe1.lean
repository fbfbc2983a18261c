/- Texts of this claim, joined: Ab, Naf, Sum, Parts, Gap, Ghost, MapF. -/
import Derived.Lib.Hide
import Derived.Below
import Derived.Maps.OwnSet
set_option maxHeartbeats 8000000
set_option maxRecDepth 100000
namespace Sr
open Go
section
theorem jH {p:Prop}(h:p): RowKit.Hid p:=h
variable {i:Nat}
theorem jL {α:Type _}{l:List α}{a:α}(h:l[i]? = some a): ∃ h:i<l.length,l[i]=a:=List.getElem?_eq_some_iff.1 h
theorem jA {α:Type _}{l:Array α}{a:α}(h:l[i]? = some a): ∃ h:i<l.size,l[i]=a:=Array.getElem?_eq_some_iff.1 h
theorem jG {α:Type _}{l:List α}(h:i<l.length): l[i]? = some l[i]:=List.getElem?_eq_getElem h
theorem jM {α:Type _}{l:List α}{a:α}(h:l[i]? = some a): a∈l:=List.mem_of_getElem? h
theorem jS (w:World)(a:Addr)(u:Value)(k:Nat)(h:k≠a.block): (w.setCell a u).heap[k]? = w.heap[k]?:=RowKit.Below.heap_setCell w a u k h
theorem jR (n:Nat): n≤n:=Nat.le_refl n
end
end Sr
namespace Sr
section
abbrev Tm:=Bool×Nat
def tv (t:Tm): Int:=if t.1 then -(2 ^ t.2:Int) else (2 ^ t.2:Int)
def lv:List Tm→Int
 | []=>0
 | t::l=>tv t+lv l
def Naf (l:List Tm): Prop:=l.Pairwise (fun a b=>b.2+1<a.2)
theorem qI (a b:List Tm): lv (a++b)=lv a+lv b:=by
 induction a with
 | nil=>simp[lv]
 | cons t a ih=>simp[lv,ih];omega
theorem jk (n:Nat): (0:Int)<2 ^ n:=Int.pow_pos (by omega)
theorem jZ (n:Nat): (2:Int) ^ (n+1)=2*2 ^ n:=by rw[Int.pow_succ];omega
theorem q7 {m n:Nat}(h:m≤n): (2:Int) ^ m≤2 ^ n:=by
 have:=Nat.pow_le_pow_right (show 0<2 by omega) h
 have h2:((2 ^ m:Nat):Int)≤((2 ^ n:Nat):Int):=by exact_mod_cast this
 simpa using h2
variable {l:List Tm} {x:Int}
theorem Naf.tail {t:Tm}(h:Naf (t::l)): Naf l:=(List.pairwise_cons.1 h).2
theorem yg:∀ (l:List Tm),Naf l→∀ e,(∀ t∈l,t.2<e)→3*lv l<2*2 ^ e∧-(2*2 ^ e)<3*lv l:=by
 intro l
 induction l with
 | nil=>intro _ e _; have:=jk e; simp[lv];omega
 | cons t l ih =>
   intro h e he
   have ht:t.2<e:=he t (by simp)
   obtain⟨h1,h2⟩:=List.pairwise_cons.1 h
   have hp:=jk t.2
   have hm:=q7 (show t.2+1≤e by omega)
   rw[jZ] at hm
   cases l with
   | nil=>simp only[lv,tv];split <;>omega
   | cons u l =>
     have hu:=h1 u (by simp)
     obtain⟨q,hq⟩:∃ q,t.2=q+1:=⟨t.2 - 1,by omega⟩
     have:=ih h2 q (fun v hv=>by have:=h1 v hv; omega)
     rw[hq,jZ] at hm hp
     simp only[lv] at this ⊢
     simp only[tv,hq,jZ] at this ⊢
     split <;>omega
theorem naf_top {t:Tm}(h:Naf (t::l)): 3*lv l<2 ^ t.2∧-(2 ^ t.2:Int)<3*lv l:=by
 obtain⟨h1,h2⟩:=List.pairwise_cons.1 h
 cases l with
 | nil=>have:=jk t.2; simp[lv];omega
 | cons u l =>
   have hu:=h1 u (by simp)
   obtain⟨q,hq⟩:∃ q,t.2=q+1:=⟨t.2 - 1,by omega⟩
   have:=yg (u::l) h2 q (fun v hv=>by have:=h1 v hv; omega)
   rw[hq,jZ];omega
theorem zs {e:Nat}(h:Naf ((false,e)::l)): 2*2 ^ e<3*lv ((false,e)::l)∧3*lv ((false,e)::l)<4*2 ^ e:=by
 have:=naf_top h; simp only[lv,tv] at this ⊢;simp; omega
theorem zt {e:Nat}(h:Naf ((true,e)::l)): 3*lv ((true,e)::l) < -(2*2 ^ e)∧-(4*2 ^ e)<3*lv ((true,e)::l):=by
 have:=naf_top h; simp only[lv,tv] at this ⊢;simp; omega
def sg (m:Bool): Int:=if m then -1 else 1
def isg (x:Int): Int:=if x<0 then -1 else if x=0 then 0 else 1
def lcmp:List Tm→List Tm→Int
 | [],[]=>0
 | [],y::_=>-(sg y.1)
 | x::_,[]=>sg x.1
 | x::a,y::b=>if x=y then lcmp a b else if x.1≠y.1 then sg x.1 else sg x.1*isg ((x.2:Int) - y.2)
theorem za (h:x<0): isg x = -1:=by simp[isg,h]
theorem zu (h:0<x): isg x=1:=by unfold isg; rw[if_neg (by omega),if_neg (by omega)]
theorem lcmp_eq:∀ (a b:List Tm),Naf a→Naf b→lcmp a b=isg (lv a - lv b):=by
 intro a
 induction a with
 | nil =>
   intro b _ hb
   cases b with
   | nil=>simp[lcmp,lv,isg]
   | cons y b =>
     obtain⟨s,e⟩:=y
     have:=jk e
     cases s
     ·have:=zs hb; rw[za (by simp only[lv] at *;omega)];simp[lcmp,sg]
     ·have:=zt hb; rw[zu (by simp only[lv] at *;omega)];simp[lcmp,sg]
 | cons x a ih =>
   intro b ha hb
   cases b with
   | nil =>
     obtain⟨s,e⟩:=x
     have:=jk e
     cases s
     ·have:=zs ha; rw[zu (by simp only[lv] at *;omega)];simp[lcmp,sg]
     ·have:=zt ha; rw[za (by simp only[lv] at *;omega)];simp[lcmp,sg]
   | cons y b =>
     unfold lcmp
     by_cases hxy:x=y
     ·subst hxy; rw[if_pos rfl,ih b ha.tail hb.tail];congr 1; simp only[lv];omega
     ·rw[if_neg hxy]
      obtain⟨s,e⟩:=x
      obtain⟨s',e'⟩:=y
      have p:=jk e
      have p':=jk e'
      cases s <;>cases s'
      ·have h1:=zs ha
       have h2:=zs hb
       have hne:e≠e':=fun h=>hxy (by rw[h])
       simp only[ne_eq,not_true_eq_false,if_false,sg]
       rcases Nat.lt_or_gt_of_ne hne with h | h
       ·have hm:=q7 (show e+1≤e' by omega);rw[jZ] at hm
        rw[za (by omega),za (by omega)];rfl
       ·have hm:=q7 (show e'+1≤e by omega);rw[jZ] at hm
        rw[zu (by omega),zu (by omega)];rfl
      ·have h1:=zs ha
       have h2:=zt hb
       simp only[ne_eq,Bool.false_eq_true,not_false_eq_true,if_true,sg,if_false]
       rw[zu (by omega)]
      ·have h1:=zt ha
       have h2:=zs hb
       simp only[ne_eq,Bool.true_eq_false,not_false_eq_true,if_true,sg]
       rw[za (by omega)]
      ·have h1:=zt ha
       have h2:=zt hb
       have hne:e≠e':=fun h=>hxy (by rw[h])
       simp only[ne_eq,not_true_eq_false,if_false,sg]
       rcases Nat.lt_or_gt_of_ne hne with h | h
       ·have hm:=q7 (show e+1≤e' by omega);rw[jZ] at hm
        rw[za (by omega),zu (by omega)];rfl
       ·have hm:=q7 (show e'+1≤e by omega);rw[jZ] at hm
        rw[zu (by omega),za (by omega)];rfl
theorem lcmp_zero:∀ (a b:List Tm),lcmp a b=0→a=b:=by
 intro a
 induction a with
 | nil=>intro b h; cases b with | nil=>rfl | cons y b=>simp only[lcmp,sg] at h; split at h <;>simp at h
 | cons x a ih =>
   intro b h
   cases b with
   | nil=>simp only[lcmp,sg] at h; split at h <;>simp at h
   | cons y b =>
     unfold lcmp at h
     by_cases hxy:x=y
     ·rw[if_pos hxy] at h; rw[hxy,ih b h]
     ·rw[if_neg hxy] at h
      by_cases hs:x.1=y.1
      ·rw[if_neg (by simpa using hs)] at h
       have hne:x.2≠y.2:=fun h=>hxy (Prod.ext hs h)
       exfalso
       simp only[sg,isg] at h
       revert h
       repeat' split
       all_goals omega
      ·rw[if_pos hs] at h; simp only[sg] at h; split at h <;>simp at h
theorem naf_unique {a b:List Tm}(ha:Naf a)(hb:Naf b)(h:lv a=lv b): a=b :=
 lcmp_zero a b (by rw[lcmp_eq a b ha hb,h];simp[isg])
def nafUp (e:Nat)(x:Int): List Tm :=
 if _h:x=0 then [] else
  if x % 2=0 then nafUp (e+1) (x / 2)
  else if x % 4=1 then (false,e)::nafUp (e+1) ((x - 1) / 2)
  else (true,e)::nafUp (e+1) ((x+1) / 2)
 termination_by x.natAbs
 decreasing_by all_goals omega
def form (x:Int): List Tm:=(nafUp 0 x).reverse
theorem nafUp_spec:∀ (n:Nat) (x:Int) (e:Nat),x.natAbs≤n →
 lv (nafUp e x)=x*2 ^ e∧(nafUp e x).Pairwise (fun a b=>a.2+1<b.2)∧(∀ t∈nafUp e x,e≤t.2)∧(x % 2=0→∀ t∈nafUp e x,e+1≤t.2):=by
 intro n
 induction n with
 | zero =>
   intro x e h
   obtain rfl:x=0:=by omega
   unfold nafUp; simp[lv]
 | succ n ih =>
   intro x e h
   by_cases h0:x=0
   ·subst h0; unfold nafUp; simp[lv]
   ·unfold nafUp
    rw[dif_neg h0]
    by_cases h2:x % 2=0
    ·rw[if_pos h2]
     obtain⟨a,b,c,d⟩:=ih (x / 2) (e+1) (by omega)
     refine⟨?_,b,fun t ht=>by have:=c t ht; omega,fun _ t ht=>c t ht⟩
     rw[a,jZ,← Int.mul_assoc];congr 1; omega
    ·rw[if_neg h2]
     by_cases h4:x % 4=1
     ·rw[if_pos h4]
      obtain⟨a,b,c,d⟩:=ih ((x - 1) / 2) (e+1) (by omega)
      have hd:=d (by omega)
      refine⟨?_,List.pairwise_cons.2 ⟨fun t ht=>by have:=hd t ht; simp; omega,b⟩,?_,fun h=>by omega⟩
      ·simp only[lv,tv,a,jZ,← Int.mul_assoc]
       rw[show (x - 1) / 2*2=x - 1 by omega,Int.sub_mul];simp; omega
      ·intro t ht; rcases List.mem_cons.1 ht with rfl | ht
       ·simp
       ·have:=c t ht; omega
     ·rw[if_neg h4]
      obtain⟨a,b,c,d⟩:=ih ((x+1) / 2) (e+1) (by omega)
      have hd:=d (by omega)
      refine⟨?_,List.pairwise_cons.2 ⟨fun t ht=>by have:=hd t ht; simp; omega,b⟩,?_,fun h=>by omega⟩
      ·simp only[lv,tv,a,jZ,← Int.mul_assoc]
       rw[show (x+1) / 2*2=x+1 by omega,Int.add_mul];simp; omega
      ·intro t ht; rcases List.mem_cons.1 ht with rfl | ht
       ·simp
       ·have:=c t ht; omega
theorem ys (l:List Tm): lv l.reverse=lv l:=by
 induction l with
 | nil=>rfl
 | cons t l ih=>simp[qI,lv,ih];omega
theorem jb (x:Int): Naf (form x):=by
 have:=(nafUp_spec _ x 0 (jR _)).2.1
 unfold Naf form; rw[List.pairwise_reverse];exact this
theorem jc (x:Int): lv (form x)=x:=by
 have:=(nafUp_spec _ x 0 (jR _)).1
 unfold form; rw[ys,this];simp
theorem form_of (h:Naf l): form (lv l)=l:=naf_unique (jb _) h (jc _)
theorem zS (h:Naf l)(hx:lv l=x): form x=l:=by rw[← hx,form_of h]
theorem j5:form 0=[]:=form_of (l:=[]) List.Pairwise.nil
theorem form_cmp (x y:Int): lcmp (form x) (form y)=isg (x - y):=by rw[lcmp_eq _ _ (jb x) (jb y),jc,jc]
theorem lt_two_pow (n:Nat): (n:Int)<2 ^ n:=by
 have:=Nat.lt_two_pow_self (n:=n)
 have h2:((n:Nat):Int)<((2 ^ n:Nat):Int):=by exact_mod_cast this
 simpa using h2
theorem three_lt (e:Nat): 3*(e:Int)<2*2 ^ e:=by
 induction e with
 | zero=>simp
 | succ e ih=>rw[jZ];have:=lt_two_pow e; cases e with
   | zero=>simp
   | succ q=>rw[jZ] at *;push_cast at *;omega
theorem exp_lt {t:Tm}(h:t∈form x): t.2<x.natAbs:=by
 have hn:=jb x
 have hv:=jc x
 cases hf:form x with
 | nil=>rw[hf] at h; simp at h
 | cons u l =>
   rw[hf] at h hn hv
   have hle:t.2≤u.2:=by
    rcases List.mem_cons.1 h with rfl | h
    ·exact jR _
    ·have:=(List.pairwise_cons.1 hn).1 t h; omega
   obtain⟨s,e⟩:=u
   have he:=three_lt e
   have hp:=jk e
   cases s
   ·have:=zs hn; rw[hv] at this; simp at hle; omega
   ·have:=zt hn; rw[hv] at this; simp at hle; omega
end
def restv (cnt:Nat→Int): List Nat→Int
 | []=>0
 | x::r=>cnt x*2 ^ x+restv cnt r
def load (cnt:Nat→Int)(rest:List Nat)(carry:Int)(e k:Nat): Int :=
 (if carry≠0∧e=k then carry else 0)+(if rest.head? = some k then cnt k else 0)
def mass (cnt:Nat→Int): List Nat→Nat
 | []=>0
 | x::r=>(cnt x).natAbs+1+mass cnt r
structure SumInv (T:Int)(cnt:Nat→Int)(rest:List Nat)(carry:Int)(e:Nat)(out:List Tm): Prop where
 val:lv out+carry*2 ^ e+restv cnt rest=T
 asc:out.Pairwise (fun a b=>a.2+1<b.2)
 srt:rest.Pairwise (·<·)
 low:carry≠0→∀ x∈rest,e≤x
 und:∀ t∈out,(carry≠0→t.2<e)∧∀ x∈rest,t.2<x
 par:∀ t∈out,load cnt rest carry e (t.2+1) % 2=0
def sumMeas (cnt:Nat→Int)(rest:List Nat)(carry:Int)(e:Nat): Nat :=
 2*(mass cnt rest+carry.natAbs)+(if carry≠0∧rest.head?≠some e then 1 else 0)
theorem SumInv.done {T:Int}{cnt:Nat→Int}{e:Nat}{out:List Tm}(h:SumInv T cnt [] 0 e out): form T=out.reverse:=by
 refine zS ?_ ?_
 ·unfold Naf; rw[List.pairwise_reverse];exact h.asc
 ·rw[ys];have:=h.val; simp[restv] at this; omega
def nextE (rest:List Nat)(carry:Int)(e:Nat): Nat:=if carry=0 then rest.headD 0 else e
def hereOf (cnt:Nat→Int)(rest:List Nat)(carry:Int)(e:Nat): Int:=carry+(if rest.head? = some (nextE rest carry e) then cnt (nextE rest carry e) else 0)
def restOf (rest:List Nat)(carry:Int)(e:Nat): List Nat:=if rest.head? = some (nextE rest carry e) then rest.tail else rest
def aboveOf (cnt:Nat→Int)(rest:List Nat)(up:Nat): Int:=if rest.head? = some up then cnt up else 0
def leftOf (here above:Int): Int:=if (here+2*above) % 4=3 then -1 else 1
theorem mass_tail (cnt:Nat→Int)(rest:List Nat)(carry:Int)(e:Nat):
 mass cnt (restOf rest carry e)+(hereOf cnt rest carry e).natAbs+(if rest.head? = some (nextE rest carry e) then 1 else 0)≤mass cnt rest+carry.natAbs:=by
 cases rest with
 | nil=>simp[restOf,hereOf,mass]
 | cons x r =>
   simp only[restOf,hereOf,List.head?_cons,Option.some.injEq]
   by_cases h:x=nextE (x::r) carry e
   ·rw[if_pos h,if_pos h,if_pos h,← h];simp only[mass,List.tail_cons];omega
   ·rw[if_neg h,if_neg h,if_neg h];simp
section
variable {T:Int} {cnt:Nat→Int} {rest:List Nat} {carry:Int} {e:Nat} {out:List Tm}
theorem SumInv.at_next (h:SumInv T cnt rest carry e out)(hne:rest≠[]∨carry≠0):
 lv out+hereOf cnt rest carry e*2 ^ nextE rest carry e+restv cnt (restOf rest carry e)=T ∧
 (restOf rest carry e).Pairwise (·<·)∧(∀ x∈restOf rest carry e,nextE rest carry e<x) ∧
 (∀ t∈out,t.2<nextE rest carry e)∧(∀ t∈out,t.2+1=nextE rest carry e→hereOf cnt rest carry e % 2=0):=by
 obtain⟨val,asc,srt,low,und,par⟩:=h
 by_cases hc:carry=0
 ·subst hc
  cases rest with
  | nil=>simp at hne
  | cons x r =>
    obtain⟨s1,s2⟩:=List.pairwise_cons.1 srt
    simp only[nextE,hereOf,restOf,List.headD_cons,List.head?_cons,if_true,List.tail_cons]
    refine⟨by simp only[restv] at val; simp at val ⊢;omega,s2,fun y hy=>s1 y hy,fun t ht=>(und t ht).2 x (by simp),fun t ht he=>?_⟩
    have:=par t ht
    simp only[load,List.head?_cons,he] at this
    simpa using this
 ·have hl:=low hc
  simp only[nextE,if_neg hc,hereOf,restOf]
  cases rest with
  | nil =>
    refine⟨by simpa using val,by simp,by simp,fun t ht=>(und t ht).1 hc,fun t ht he=>?_⟩
    have:=par t ht
    simp only[load,he] at this
    simpa [hc] using this
  | cons x r =>
    obtain⟨s1,s2⟩:=List.pairwise_cons.1 srt
    by_cases hx:x=e
    ·subst hx
     simp only[List.head?_cons,if_true,List.tail_cons]
     refine⟨by simp only[restv] at val; rw[Int.add_mul];omega,s2,s1,fun t ht=>(und t ht).1 hc,fun t ht he=>?_⟩
     have:=par t ht
     simp only[load,List.head?_cons,he] at this
     simpa [hc] using this
    ·simp only[List.head?_cons,Option.some.injEq,hx,if_false]
     refine⟨by simpa using val,srt,?_,fun t ht=>(und t ht).1 hc,fun t ht he=>?_⟩
     ·intro y hy
      have hxe:e<x:=by have:=hl x (by simp);omega
      rcases List.mem_cons.1 hy with rfl | hy
      ·exact hxe
      ·have:=s1 y hy; omega
     ·have:=par t ht
      simp only[load,List.head?_cons,he,Option.some.injEq,hx] at this
      simpa [hc] using this
theorem SumInv.zero (h:SumInv T cnt rest carry e out)(hne:rest≠[]∨carry≠0)(h0:hereOf cnt rest carry e=0)(e':Nat):
 SumInv T cnt (restOf rest carry e) 0 e' out:=by
 obtain⟨a,b,c,d,_⟩:=h.at_next hne
 refine⟨by rw[h0] at a; simp at a ⊢;exact a,h.asc,b,by simp,fun t ht=>⟨by simp,fun x hx=>?_⟩,fun t ht=>?_⟩
 ·have:=c x hx; have:=d t ht; omega
 ·have ht':=d t ht
  simp only[load,ne_eq,not_true_eq_false,false_and,if_false]
  split
  ·rename_i hh
   have:=c (t.2+1) (by cases hr:restOf rest carry e with | nil=>simp[hr] at hh | cons y r=>simp[hr] at hh; simp[hh])
   omega
  ·simp
theorem head_mem {l:List Nat}{x:Nat}(h:l.head? = some x): x∈l:=by
 cases l with | nil=>simp at h | cons y r=>simp at h; simp[h]
theorem SumInv.even (h:SumInv T cnt rest carry e out)(hne:rest≠[]∨carry≠0)(h2:hereOf cnt rest carry e % 2=0):
 SumInv T cnt (restOf rest carry e) (hereOf cnt rest carry e / 2) (nextE rest carry e+1) out:=by
 obtain⟨a,b,c,d,_⟩:=h.at_next hne
 generalize hereOf cnt rest carry e=here at *
 generalize restOf rest carry e=r' at *
 generalize nextE rest carry e=q at *
 refine⟨?_,h.asc,b,fun _ x hx=>by have:=c x hx; omega,fun t ht=>⟨fun _=>by have:=d t ht; omega,fun x hx=>by have:=c x hx; have:=d t ht; omega⟩,fun t ht=>?_⟩
 ·rw[jZ,← Int.mul_assoc,show here / 2*2=here by omega];exact a
 ·have ht':=d t ht
  simp only[load]
  rw[if_neg (by omega),if_neg (fun hh=>by have:=c _ (head_mem hh);omega)];rfl
theorem yw (here above:Int)(h:here % 2≠0): (leftOf here above=1∨leftOf here above = -1)∧(here+2*above - leftOf here above) % 4=0:=by
 unfold leftOf; split <;>omega
theorem SumInv.odd (h:SumInv T cnt rest carry e out)(hne:rest≠[]∨carry≠0)(h2:hereOf cnt rest carry e % 2≠0) 
 {left:Int} (hl:left=leftOf (hereOf cnt rest carry e) (aboveOf cnt (restOf rest carry e) (nextE rest carry e+1))) :
 SumInv T cnt (restOf rest carry e) ((hereOf cnt rest carry e - left) / 2) (nextE rest carry e+1) (out++[(decide (left<0),nextE rest carry e)]):=by
 obtain⟨a,b,c,d,p⟩:=h.at_next hne
 have hlc:=yw _ (aboveOf cnt (restOf rest carry e) (nextE rest carry e+1)) h2
 rw[← hl] at hlc
 generalize hereOf cnt rest carry e=here at *
 generalize restOf rest carry e=r' at *
 generalize nextE rest carry e=q at *
 obtain⟨hl1,hl4⟩:=hlc
 have htv:tv (decide (left<0),q)=left*2 ^ q:=by
  rcases hl1 with e | e <;>simp[e,tv]
 refine⟨?_,?_,b,fun _ x hx=>by have:=c x hx; omega,?_,?_⟩
 ·rw[qI,jZ,← Int.mul_assoc,show (here - left) / 2*2=here - left by omega]
  simp only[lv,htv,Int.sub_mul];omega
 ·refine List.pairwise_append.2 ⟨h.asc,by simp,?_⟩
  intro t ht u hu
  obtain rfl:u=(decide (left<0),q):=by simpa using hu
  have:=d t ht
  by_cases e:t.2+1=q
  ·exact absurd (p t ht e) h2
  ·simp; omega
 ·intro t ht
  rcases List.mem_append.1 ht with ht | ht
  ·have:=d t ht; exact⟨fun _=>by omega,fun x hx=>by have:=c x hx; omega⟩
  ·obtain rfl:t=(decide (left<0),q):=by simpa using ht
   exact⟨fun _=>by simp,fun x hx=>c x hx⟩
 ·intro t ht
  rcases List.mem_append.1 ht with ht | ht
  ·have:=d t ht
   simp only[load]
   rw[if_neg (by omega),if_neg (fun hh=>by have:=c _ (head_mem hh);omega)];rfl
  ·obtain rfl:t=(decide (left<0),q):=by simpa using ht
   simp only[load,aboveOf] at *
   by_cases hz:(here - left) / 2=0
   ·rw[if_neg (by simp[hz])]
    split <;>rename_i hh
    ·rw[if_pos hh] at hl4; omega
    ·rfl
   ·rw[if_pos ⟨hz,trivial⟩]
    split <;>rename_i hh
    ·rw[if_pos hh] at hl4; omega
    ·rw[if_neg hh] at hl4; omega
theorem meas_half (here left:Int)(hl:left=1∨left = -1)(h2:here % 2≠0): 2*((here - left) / 2).natAbs≤here.natAbs+1:=by omega
theorem sumMeas_zero (hne:rest≠[]∨carry≠0)(e':Nat)(h0:hereOf cnt rest carry e=0):
 sumMeas cnt (restOf rest carry e) 0 e'<sumMeas cnt rest carry e:=by
 have:=mass_tail cnt rest carry e
 unfold sumMeas
 simp only[ne_eq,not_true_eq_false,false_and,if_false,Int.natAbs_zero]
 by_cases hh:rest.head? = some (nextE rest carry e)
 ·rw[if_pos hh] at this; omega
 ·rw[if_neg hh] at this
  by_cases hc:carry=0
  ·subst hc
   cases rest with
   | nil=>simp at hne
   | cons x r=>simp[nextE] at hh
  ·simp only[hereOf,if_neg hh] at h0; omega
theorem sumMeas_down (hne:rest≠[]∨carry≠0){c:Int}(h0:hereOf cnt rest carry e≠0) 
 (hc:(hereOf cnt rest carry e % 2=0∧c=hereOf cnt rest carry e / 2) ∨
   (hereOf cnt rest carry e % 2≠0∧c=(hereOf cnt rest carry e - leftOf (hereOf cnt rest carry e) (aboveOf cnt (restOf rest carry e) (nextE rest carry e+1))) / 2)) :
 sumMeas cnt (restOf rest carry e) c (nextE rest carry e+1)<sumMeas cnt rest carry e:=by
 have hm:=mass_tail cnt rest carry e
 unfold sumMeas
 have hb:2*c.natAbs≤(hereOf cnt rest carry e).natAbs+1:=by
  rcases hc with ⟨_,rfl⟩ | ⟨h2,rfl⟩
  ·omega
  ·exact meas_half _ _ (yw _ _ h2).1 h2
 by_cases hh:rest.head? = some (nextE rest carry e)
 ·rw[if_pos hh] at hm
  have:(if c≠0∧(restOf rest carry e).head?≠some (nextE rest carry e+1) then 1 else 0)≤1:=by split <;>omega
  omega
 ·rw[if_neg hh] at hm
  have hc0:carry≠0:=by
   rintro rfl
   cases rest with
   | nil=>simp at hne
   | cons x r=>simp[nextE] at hh
  have hq:nextE rest carry e=e:=by simp[nextE,hc0]
  rw[hq] at hh
  rw[if_pos (show carry≠0∧rest.head?≠some e from ⟨hc0,hh⟩)]
  by_cases h1:2≤(hereOf cnt rest carry e).natAbs
  ·have:(if c≠0∧(restOf rest carry e).head?≠some (nextE rest carry e+1) then 1 else 0)≤1:=by split <;>omega
   omega
  ·-- one or minus one
   rcases hc with ⟨h2,_⟩ | ⟨h2,rfl⟩
   ·omega
   ·generalize hereOf cnt rest carry e=here at *
    have hll:=yw here (aboveOf cnt (restOf rest carry e) (nextE rest carry e+1)) h2
    by_cases hab:(restOf rest carry e).head? = some (nextE rest carry e+1)
    ·rw[if_neg (by simp[hab])];omega
    ·have h0':aboveOf cnt (restOf rest carry e) (nextE rest carry e+1)=0:=by simp[aboveOf,hab]
     rw[h0'] at hll ⊢
     have:(here - leftOf here 0) / 2=0:=by omega
     rw[this];simp; omega
end
def exps (x:Int): List Nat:=(form x).map (·.2)
theorem qz {x:Int}{e:Nat}(h:e∈exps x): e<x.natAbs:=by
 obtain⟨t,ht,rfl⟩:=List.mem_map.1 h
 exact exp_lt ht
theorem mem_exps {x:Int}{t:Tm}(h:t∈form x): t.2∈exps x:=List.mem_map.2 ⟨t,h,rfl⟩
theorem exps_desc (x:Int): (exps x).Pairwise (fun a b=>b+1<a):=by
 unfold exps; rw[List.pairwise_map];exact jb x
theorem js (x:Int): (exps x).length=(form x).length:=by simp[exps]
theorem lv_neg (l:List Tm): lv (l.map (fun t=>(!t.1,t.2))) = -lv l:=by
 induction l with
 | nil=>rfl
 | cons t l ih =>
   simp only[List.map_cons,lv,ih]
   obtain⟨s,e⟩:=t
   cases s <;>simp[tv] <;>omega
theorem yh (x:Int): form (-x)=(form x).map (fun t=>(!t.1,t.2)):=by
 refine zS ?_ ?_
 ·unfold Naf; rw[List.pairwise_map];exact jb x
 ·rw[lv_neg,jc]
theorem exps_neg (x:Int): exps (-x)=exps x:=by
 unfold exps; rw[yh,List.map_map];rfl
inductive IsPart (x:Int):Nat→Prop
 | here {p:Nat}:p∈exps x→IsPart x p
 | step {q p:Nat}:IsPart x q→p∈exps (q:Int)→IsPart x p
theorem IsPart.lt {x:Int}{p:Nat}(h:IsPart x p): p<x.natAbs:=by
 induction h with
 | here h=>exact qz h
 | step _ h ih=>have:=qz h; omega
theorem IsPart.trans {x:Int}{q p:Nat}(h:IsPart x q)(h':IsPart (q:Int) p): IsPart x p:=by
 induction h' with
 | here h1=>exact .step h h1
 | step _ h1 ih=>exact .step ih h1
theorem IsPart.cases_top {x:Int}{p:Nat}(h:IsPart x p): ∃ e∈exps x,p=e∨IsPart (e:Int) p:=by
 induction h with
 | here h=>exact⟨_,h,.inl rfl⟩
 | step _ h ih =>
   obtain⟨e,he,h1 | h1⟩:=ih
   ·subst h1; exact⟨_,he,.inr (.here h)⟩
   ·exact⟨_,he,.inr (.step h1 h)⟩
open Classical in
noncomputable def parts (x:Int): List Nat:=(List.range x.natAbs).filter (fun p=>decide (IsPart x p))
theorem mem_parts {x:Int}{p:Nat}: p∈parts x↔IsPart x p:=by
 classical
 unfold parts
 rw[List.mem_filter]
 simp only[List.mem_range,decide_eq_true_eq]
 exact⟨fun h=>h.2,fun h=>⟨h.lt,h⟩⟩
theorem qR (x:Int): (parts x).Pairwise (·<·):=by
 classical
 unfold parts
 exact List.Pairwise.filter _ List.pairwise_lt_range
theorem sorted_nodup {l:List Nat}(h:l.Pairwise (·<·)): l.Nodup:=by
 unfold List.Nodup
 exact h.imp (fun h=>by omega)
theorem qE (x:Int): (parts x).Nodup:=sorted_nodup (qR x)
theorem yJ:∀ {a b:List Nat},a.Pairwise (·<·)→b.Pairwise (·<·)→(∀ x,x∈a↔x∈b)→a=b
 | [],[],_,_,_=>rfl
 | [],y::b,_,_,h=>by have:=(h y).2 (by simp);simp at this
 | x::a,[],_,_,h=>by have:=(h x).1 (by simp);simp at this
 | x::a,y::b,ha,hb,h=>by
   obtain⟨a1,a2⟩:=List.pairwise_cons.1 ha
   obtain⟨b1,b2⟩:=List.pairwise_cons.1 hb
   have hxy:x=y:=by
    have h1:=(h x).1 (by simp)
    have h2:=(h y).2 (by simp)
    rcases List.mem_cons.1 h1 with e | h1
    ·exact e
    ·rcases List.mem_cons.1 h2 with e | h2
     ·exact e.symm
     ·have:=a1 y h2; have:=b1 x h1; omega
   subst hxy
   rw[yJ a2 b2 (fun z=>?_)]
   have:=h z
   constructor
   ·intro hz
    rcases List.mem_cons.1 (this.1 (List.mem_cons_of_mem _ hz)) with e | hz'
    ·have:=a1 z hz; omega
    ·exact hz'
   ·intro hz
    rcases List.mem_cons.1 (this.2 (List.mem_cons_of_mem _ hz)) with e | hz'
    ·have:=b1 z hz; omega
    ·exact hz'
def maxl:List Nat→Nat
 | []=>0
 | x::l=>max x (maxl l)
theorem le_maxl {l:List Nat}{x:Nat}(h:x∈l): x≤maxl l:=by
 induction l with
 | nil=>simp at h
 | cons y l ih =>
   rcases List.mem_cons.1 h with rfl | h
   ·simp only[maxl];omega
   ·have:=ih h; simp only[maxl];omega
def height (x:Int): Nat:=maxl ((form x).attach.map (fun t=>height (t.1.2:Int)+1))
 termination_by x.natAbs
 decreasing_by have:=exp_lt t.2; omega
theorem qs (x:Int): height x=maxl ((exps x).map (fun (e:Nat)=>height (e:Int)+1)):=by
 rw[height]
 congr 1
 unfold exps
 rw[List.map_map]
 conv=>rhs; rw[← List.attach_map_subtype_val (form x)]
 rw[List.map_map];rfl
def allowed (x:Int): Prop:=(form x).length≤300∧(∀ p∈parts x,(form (p:Int)).length≤300)∧(parts x).length+1≤2000∧height x≤100
theorem jX:allowed 0:=by
 have h:parts 0=[]:=by
  cases h:parts 0 with
  | nil=>rfl
  | cons p l=>have:=mem_parts.1 (show p∈parts 0 by simp[h]);have:=this.lt; simp at this
 refine⟨by simp[j5],by simp[h],by simp[h],by rw[qs];simp[exps,j5,maxl]⟩
theorem isPart_neg {x:Int}{p:Nat}: IsPart (-x) p↔IsPart x p:=by
 have key:∀ {x y:Int} {p:Nat},exps x=exps y→IsPart x p→IsPart y p:=by
  intro x y p e h
  induction h with
  | here h=>exact .here (e▸h)
  | step _ h ih=>exact .step ih h
 exact⟨key (exps_neg x),key (exps_neg x).symm⟩
theorem parts_neg (x:Int): parts (-x)=parts x:=yJ (qR _) (qR _) (fun p=>by rw[mem_parts,mem_parts,isPart_neg])
theorem height_neg (x:Int): height (-x)=height x:=by rw[qs,exps_neg,← qs]
theorem allowed_neg {x:Int}: allowed (-x)↔allowed x:=by unfold allowed; rw[parts_neg,height_neg,yh,List.length_map]
def atPl (l:List Nat)(x:Int): List (Bool×Nat):=(form x).map (fun t=>(t.1,l.idxOf t.2))
section
theorem gap:∀ (n:Nat) (l:List Nat) (m:Nat),l.length≤n→∃ i,i≤n∧∀ e∈l,e≠m+2*i∧e≠m+2*i+1:=by
 intro n
 induction n with
 | zero=>intro l m h; exact⟨0,jR _,fun e he=>by cases l with | nil=>simp at he | cons x l=>simp at h⟩
 | succ n ih =>
   intro l m h
   by_cases hw:∀ e∈l,e≠m∧e≠m+1
   ·exact⟨0,by omega,by simpa using hw⟩
   ·have hlen:(l.filter (fun e=>decide (m+2≤e))).length≤n:=by
     have h1:(l.filter (fun e=>decide (m+2≤e))).length<l.length:=by
      rcases Nat.lt_or_ge (l.filter (fun e=>decide (m+2≤e))).length l.length with h2 | h2
      ·exact h2
      ·exfalso
       apply hw
       have h3:=(List.length_filter_eq_length_iff (p:=fun e=>decide (m+2≤e)) (l:=l)).1 (Nat.le_antisymm (List.length_filter_le _ _) h2)
       intro e he
       have:=h3 e he
       simp at this
       omega
     omega
    obtain⟨i,hi,h2⟩:=ih _ (m+2) hlen
    refine⟨i+1,by omega,fun e he=>?_⟩
    by_cases hm:m+2≤e
    ·have:=h2 e (List.mem_filter.2 ⟨he,by simpa using hm⟩)
     omega
    ·omega
theorem lv_filter (p:Tm→Bool)(l:List Tm): lv (l.filter p)+lv (l.filter (fun t=>!p t))=lv l:=by
 induction l with
 | nil=>rfl
 | cons t l ih =>
   by_cases h:p t=true
   ·simp[h,lv];omega
   ·simp[h,lv];omega
variable {x:Int} {xs:List Int}
theorem yi {m:Nat}(h1:3*x<3*2 ^ m)(h2:-(3*2 ^ m)<3*x): ∀ t∈form x,t.2≤m:=by
 intro t ht
 have hn:=jb x
 have hv:=jc x
 cases hf:form x with
 | nil=>rw[hf] at ht; simp at ht
 | cons u l =>
   rw[hf] at ht hn hv
   have hle:t.2≤u.2:=by
    rcases List.mem_cons.1 ht with rfl | h
    ·exact jR _
    ·have:=(List.pairwise_cons.1 hn).1 t h; omega
   obtain⟨s,e⟩:=u
   rcases Nat.lt_or_ge m e with hlt | hge
   ·exfalso
    have hp:=jk m
    have hm:=q7 (show m+1≤e by omega)
    rw[jZ] at hm
    cases s
    ·have:=zs hn; rw[hv] at this; omega
    ·have:=zt hn; rw[hv] at this; omega
   ·simp at hle; omega
theorem form_split (x j:Int)(m0:Nat)(h1:3*j≤2 ^ m0)(h2:-(2 ^ m0:Int)≤3*j):
 ∃ hi lo:List Tm,form (x+j)=hi++lo∧(∀ t∈hi,t∈form x)∧(∀ t∈lo,t.2≤m0+2*(form x).length):=by
 obtain⟨i,hi,hg⟩:=gap (exps x).length (exps x) m0 (jR _)
 rw[js] at hi
 let p:Tm→Bool:=fun t=>decide (m0+2*i≤t.2)
 have hv:=lv_filter p (form x)
 rw[jc] at hv
 have hhi:∀ t∈(form x).filter p,m0+2*i+2≤t.2:=by
  intro t ht
  obtain⟨ht1,ht2⟩:=List.mem_filter.1 ht
  have:=hg t.2 (mem_exps ht1)
  simp[p] at ht2; omega
 have hlo:=yg ((form x).filter (fun t=>!p t)) (List.Pairwise.filter _ (jb x)) (m0+2*i) (fun t ht=>by
  have:=(List.mem_filter.1 ht).2
  simp[p] at this; omega)
 have hm:=q7 (show m0≤m0+2*i by omega)
 have hp:=jk (m0+2*i)
 have ht:=yi (x:=lv ((form x).filter (fun t=>!p t))+j) (m:=m0+2*i) (by omega) (by omega)
 refine⟨(form x).filter p,form (lv ((form x).filter (fun t=>!p t))+j),?_,fun t ht=>(List.mem_filter.1 ht).1,fun t ht'=>by have:=ht t ht'; omega⟩
 refine zS ?_ ?_
 ·unfold Naf
  refine List.pairwise_append.2 ⟨List.Pairwise.filter _ (jb x),jb _,fun a ha b hb=>?_⟩
  have:=hhi a ha; have:=ht b hb; omega
 ·rw[qI,jc];omega
structure Base (P:List Nat)(J:Nat): Prop where
 zero:0∈P
 exps:∀ p∈P,∀ j,j≤J→∀ e∈exps (((p+j:Nat)):Int),e∈P
 len:∀ p∈P,∀ j,j≤J→4*((form ((p+j:Nat):Int)).length+2)≤J
theorem jT:∀ (a b:List Nat),a.Nodup→(∀ x∈a,x∈b)→a.length≤b.length
 | [],_,_,_=>by simp
 | x::a,b,h,hs=>by
   obtain⟨h1,h2⟩:=List.nodup_cons.1 h
   have hx:=hs x (by simp)
   have:=jT a (b.erase x) h2 (fun y hy=>by
    refine (List.mem_erase_of_ne (fun e=>by subst e; exact h1 hy)).2 (hs y (List.mem_cons_of_mem _ hy)))
   rw[List.length_erase_of_mem hx] at this
   have:=List.length_pos_of_mem hx
   simp only[List.length_cons];omega
theorem exps_nodup (x:Int): (exps x).Nodup:=by unfold List.Nodup; exact (exps_desc x).imp (fun h=>by omega)
theorem yW {l:List Tm}{m:Nat}(h:Naf l)(hm:∀ t∈l,t.2≤m): l.length≤m+1:=by
 have h1:(l.map (·.2)).Nodup:=by unfold List.Nodup; rw[List.pairwise_map];exact h.imp (fun h=>by omega)
 have:=jT _ (List.range (m+1)) h1 (fun e he=>by
  obtain⟨t,ht,rfl⟩:=List.mem_map.1 he
  exact List.mem_range.2 (by have:=hm t ht; omega))
 simpa using this
theorem base_of {P:List Nat}(h0:∀ e,e≤614→e∈P)(h1:∀ p∈P,(form (p:Int)).length≤300)(h2:∀ p∈P,∀ e∈exps (p:Int),e∈P): Base P 4096:=by
 have key:∀ p∈P,∀ j,j≤4096→(∀ e∈exps (((p+j:Nat)):Int),e∈P)∧(form ((p+j:Nat):Int)).length≤915:=by
  intro p hp j hj
  obtain⟨hi,lo,e,a,b⟩:=form_split (p:Int) (j:Int) 14 (by omega) (by omega)
  have hl:=h1 p hp
  have e':form ((p+j:Nat):Int)=hi++lo:=by rw[← e];congr 1
  have hn:Naf (hi++lo):=e'▸jb _
  obtain⟨n1,n2,_⟩:=List.pairwise_append.1 hn
  have l1:hi.length≤(form (p:Int)).length:=by
   have h1:(hi.map (·.2)).Nodup:=by unfold List.Nodup; rw[List.pairwise_map];exact n1.imp (fun h=>by omega)
   have:=jT _ (exps (p:Int)) h1 (fun e he=>by
    obtain⟨t,ht,rfl⟩:=List.mem_map.1 he
    exact mem_exps (a t ht))
   simpa [js] using this
  have l2:=yW (m:=614) n2 (fun t ht=>by have:=b t ht; omega)
  refine⟨fun x hx=>?_,by rw[e',List.length_append];omega⟩
  obtain⟨t,ht,rfl⟩:=List.mem_map.1 hx
  rw[e'] at ht
  rcases List.mem_append.1 ht with ht | ht
  ·exact h2 p hp t.2 (mem_exps (a t ht))
  ·exact h0 t.2 (by have:=b t ht; omega)
 exact⟨h0 0 (by omega),fun p hp j hj=>(key p hp j hj).1,fun p hp j hj=>by have:=(key p hp j hj).2; omega⟩
theorem small_form (h:x.natAbs≤1000): ∀ t∈form x,t.2≤10:=yi (by omega) (by omega)
noncomputable def baseOf (xs:List Int): List Nat:=List.range 615++xs.flatMap parts
theorem base_parts (h:∀ x∈xs,allowed x): Base (baseOf xs) 4096:=by
 refine base_of (fun e he=>by unfold baseOf; simp; omega) (fun p hp=>?_) (fun p hp e he=>?_)
 ·rcases List.mem_append.1 hp with hp | hp
  ·have hp:=List.mem_range.1 hp
   have:=yW (jb (p:Int)) (small_form (by omega))
   omega
  ·obtain⟨x,hx,hp⟩:=List.mem_flatMap.1 hp
   exact (h x hx).2.1 p hp
 ·rcases List.mem_append.1 hp with hp | hp
  ·have hp:=List.mem_range.1 hp
   have:=qz he
   unfold baseOf; simp; omega
  ·obtain⟨x,hx,hp⟩:=List.mem_flatMap.1 hp
   exact List.mem_append.2 (.inr (List.mem_flatMap.2 ⟨x,hx,mem_parts.2 (.step (mem_parts.1 hp) he)⟩))
theorem yX (h:x∈xs): ∀ e∈exps x,e∈baseOf xs:=fun _ he =>
 List.mem_append.2 (.inr (List.mem_flatMap.2 ⟨x,h,mem_parts.2 (.here he)⟩))
theorem baseOf_parts (h:x∈xs): ∀ e∈parts x,e∈baseOf xs:=fun _ he =>
 List.mem_append.2 (.inr (List.mem_flatMap.2 ⟨x,h,he⟩))
theorem baseOf_len:∀ {xs:List Int},(∀ x∈xs,allowed x)→(baseOf xs).length≤615+2000*xs.length:=by
 intro xs
 unfold baseOf
 rw[List.length_append,List.length_range]
 intro h
 have:(xs.flatMap parts).length≤2000*xs.length:=by
  induction xs with
  | nil=>simp
  | cons x xs ih =>
    have:=(h x (by simp)).2.2.1
    have:=ih (fun y hy=>h y (List.mem_cons_of_mem _ hy))
    simp only[List.flatMap_cons,List.length_append,List.length_cons];omega
 omega
end
section
structure WV (vs:List Int): Prop where
 zero:vs[0]? = some 0
 nodup:vs.Nodup
 closed:∀ (i:Nat) (x:Int),vs[i]? = some x→∀ e∈exps x,∃ k:Nat,k<i∧vs[k]? = some (e:Int)
abbrev PT:=Bool×Nat
def pf (vs:List Int)(x:Int): List PT:=(form x).map (fun t=>(t.1,vs.idxOf (t.2:Int)))
def zb (vs:List Int)(i:Nat): Int:=vs.getD i 0
def ptv (vs:List Int)(l:List PT): Int:=lv (l.map (fun t=>(t.1,(zb vs t.2).toNat)))
def PTok (vs:List Int)(l:List PT): Prop:=∀ t∈l,∃ e:Nat,vs[t.2]? = some (e:Int)
variable {x:Int} {i:Nat}
section
variable {vs vs':List Int}
theorem zR (h:x∈vs): vs.idxOf x<vs.length:=List.idxOf_lt_length_of_mem h
theorem jU (h:x∈vs): vs[vs.idxOf x]? = some x:=by
 rw[jG (zR h)];simp
theorem WV.idx_get (h:WV vs)(hi:vs[i]? = some x): vs.idxOf x=i:=by
 obtain⟨hlt,rfl⟩:=jL hi
 exact List.Nodup.idxOf_getElem h.nodup i hlt
theorem WV.at_idx (h:x∈vs): zb vs (vs.idxOf x)=x:=by unfold zb; rw[List.getD_eq_getElem?_getD,jU h];rfl
theorem zE (h:vs[i]? = some x): zb vs i=x:=by unfold zb; rw[List.getD_eq_getElem?_getD,h];rfl
theorem WV.mem_exps (h:WV vs)(hx:x∈vs){e:Nat}(he:e∈exps x): (e:Int)∈vs:=by
 obtain⟨k,_,hk⟩:=h.closed _ _ (jU hx) e he
 exact jM hk
theorem WV.mem_parts (h:WV vs)(hx:x∈vs){p:Nat}(hp:IsPart x p): (p:Int)∈vs:=by
 induction hp with
 | here he=>exact h.mem_exps hx he
 | step _ he ih=>exact h.mem_exps ih he
theorem zV (hp:vs <+: vs')(hx:x∈vs): vs'.idxOf x=vs.idxOf x:=by
 obtain⟨l,rfl⟩:=hp; simp[List.idxOf_append,hx]
theorem jW (hp:vs <+: vs')(hi:vs[i]? = some x): vs'[i]? = some x:=by
 obtain⟨l,rfl⟩:=hp
 rw[List.getElem?_append_left (jL hi).1];exact hi
theorem qN (hp:vs <+: vs')(hx:x∈vs): x∈vs':=hp.subset hx
theorem pf_ext (hp:vs <+: vs')(h:WV vs)(hx:∀ e∈exps x,(e:Int)∈vs): pf vs' x=pf vs x:=by
 have _:=h
 unfold pf
 refine List.map_congr_left (fun t ht=>?_)
 rw[zV hp (hx _ (Sr.mem_exps ht))]
theorem PTok.ext (hp:vs <+: vs'){l:List PT}(h:PTok vs l): PTok vs' l:=fun t ht=>by
 obtain⟨e,he⟩:=h t ht; exact⟨e,jW hp he⟩
theorem ptv_pf (h:WV vs)(hx:∀ e∈exps x,(e:Int)∈vs): ptv vs (pf vs x)=x:=by
 have _:=h
 unfold ptv pf
 rw[List.map_map]
 have:(form x).map ((fun t:PT=>(t.1,(zb vs t.2).toNat)) ∘ fun t=>(t.1,vs.idxOf (t.2:Int)))=(form x).map id:=by
  refine List.map_congr_left (fun t ht=>?_)
  simp only[Function.comp]
  rw[WV.at_idx (hx _ (Sr.mem_exps ht))];simp
 rw[this,List.map_id,jc]
theorem pf_inj (h:WV vs){y:Int}(hx:∀ e∈exps x,(e:Int)∈vs)(hy:∀ e∈exps y,(e:Int)∈vs)(he:pf vs x=pf vs y): x=y:=by
 rw[← ptv_pf h hx,he,ptv_pf h hy]
theorem ptv_append (a b:List PT): ptv vs (a++b)=ptv vs a+ptv vs b:=by simp[ptv,qI]
theorem PTok.append {a b:List PT}(ha:PTok vs a)(hb:PTok vs b): PTok vs (a++b):=fun t ht=>(List.mem_append.1 ht).elim (ha t) (hb t)
theorem WV.push (h:WV vs)(hn:x∉vs)(hx:∀ e∈exps x,(e:Int)∈vs): WV (vs++[x]):=by
 have hpos:0<vs.length:=by have:=(jL h.zero).1; omega
 refine⟨by rw[List.getElem?_append_left hpos];exact h.zero,?_,?_⟩
 ·refine List.nodup_append.2 ⟨h.nodup,by simp,fun a ha b hb=>?_⟩
  obtain rfl:b=x:=by simpa using hb
  rintro rfl; exact hn ha
 ·intro i y hi e he
  rcases Nat.lt_or_ge i vs.length with hlt | hge
  ·rw[List.getElem?_append_left hlt] at hi
   obtain⟨k,hk,hk2⟩:=h.closed i y hi e he
   exact⟨k,hk,by rw[List.getElem?_append_left (by omega)];exact hk2⟩
  ·rw[List.getElem?_append_right hge] at hi
   obtain⟨h0,h1⟩:=jL hi
   have hi0:i=vs.length:=by simp at h0; omega
   simp[hi0] at h1
   subst h1
   have:=hx e he
   exact⟨vs.idxOf (e:Int),by have:=zR this; omega,by rw[List.getElem?_append_left (zR this)];exact jU this⟩
def putIn (vs:List Int)(x:Int): List Int:=if x∈vs then vs else vs++[x]
theorem zK (vs:List Int)(x:Int): vs <+: putIn vs x:=by unfold putIn; split; exact List.prefix_refl _; exact List.prefix_append _ _
theorem qt (vs:List Int)(x:Int): x∈putIn vs x:=by unfold putIn; split <;>simp_all
end
def kb1 (t:PT): List UInt8:=[if t.1 then 1 else 0,UInt8.ofNat (t.2 / 16777216),UInt8.ofNat (t.2 / 65536),UInt8.ofNat (t.2 / 256),UInt8.ofNat t.2]
def kb (l:List PT): List UInt8:=l.flatMap kb1
theorem kb1_inj {s t:PT}(hs:s.2<4294967296)(ht:t.2<4294967296)(h:kb1 s=kb1 t): s=t:=by
 obtain⟨a,m⟩:=s
 obtain⟨b,n⟩:=t
 simp only[kb1,List.cons.injEq,and_true] at h
 obtain⟨h0,h1,h2,h3,h4⟩:=h
 have e1:=congrArg UInt8.toNat h1
 have e2:=congrArg UInt8.toNat h2
 have e3:=congrArg UInt8.toNat h3
 have e4:=congrArg UInt8.toNat h4
 simp only[UInt8.toNat_ofNat'] at e1 e2 e3 e4
 have hab:a=b:=by cases a <;>cases b <;>simp_all
 subst hab
 have:m=n:=by simp only[Nat.reducePow] at *;omega
 rw[this]
theorem kb1_len (t:PT): (kb1 t).length=5:=rfl
theorem kb_inj:∀ {a b:List PT},(∀ t∈a,t.2<4294967296)→(∀ t∈b,t.2<4294967296)→kb a=kb b→a=b
 | [],[],_,_,_=>rfl
 | [],t::b,_,_,h=>by have:=congrArg List.length h; simp[kb,kb1] at this
 | s::a,[],_,_,h=>by have:=congrArg List.length h; simp[kb,kb1] at this
 | s::a,t::b,ha,hb,h=>by
   simp only[kb,List.flatMap_cons] at h
   obtain⟨h1,h2⟩:=List.append_inj h rfl
   rw[kb1_inj (ha s (by simp)) (hb t (by simp)) h1,kb_inj (fun t ht=>ha t (List.mem_cons_of_mem _ ht)) (fun t ht=>hb t (List.mem_cons_of_mem _ ht)) h2]
theorem kb_len (l:List PT): (kb l).length=5*l.length:=by
 induction l with
 | nil=>rfl
 | cons t l ih=>simp only[kb,List.flatMap_cons,List.length_append,kb1_len,List.length_cons] at *;omega
end
end Sr
namespace Go
open Go.ChangeMaps Go.MapKept
open Go.Maps (Keyed)
def MapF (P:Program)(k:TypeId)(w:World)(b:Nat)(f:Value→Option Value): Prop :=
 ∃ es clock,w.heap[b]? = some (.map es clock)∧(∀ e∈es.toList,∃ l,keyOf P k e.key=some l)∧es.toList.Pairwise (fun x y=>x.key≠y.key) ∧
  ∀ x v,f x=some v↔∃ e∈es.toList,e.key=x∧e.val=v
open Classical in
noncomputable def updF (f:Value→Option Value)(x v:Value): Value→Option Value:=fun y=>if y=x then some v else f y
variable {P:Program} {k e t:TypeId} {w:World} {b:Nat} {f:Value→Option Value}
theorem MapF.made (P:Program)(k:TypeId)(w:World): MapF P k (w.alloc (.map #[] 0)) w.heap.size (fun _=>none) :=
 ⟨#[],0,(MapKept.heap_alloc w _).1,by simp,by simp,by simp⟩
theorem MapF.lt (h:MapF P k w b f): b<w.heap.size:=by
 obtain⟨es,clock,hb,_⟩:=h
 exact (Array.getElem?_eq_some_iff.1 hb).1
theorem MapF.kept {w':World}(h:MapF P k w b f)(hb:w'.heap[b]? = w.heap[b]?): MapF P k w' b f:=by
 obtain⟨es,clock,h1,r⟩:=h
 exact⟨es,clock,hb.trans h1,r⟩
theorem MapF.look (c:Bool)(h:MapF P k w b f)(K:Keyed P k)(ht:P.underlying t=some (.map k e)){z:Value}(hz:(zeroValue e).run P w=.ok z w){x:Value}{l:Lit}(hx:keyOf P k x=some l):
 (Instr.lookup t (.map (some b)) x c).run P w=.ok (if c then .tuple #[(f x).getD z,.bool (f x).isSome] else (f x).getD z) w:=by
 obtain⟨es,clock,hb,hk,hd,hf⟩:=h
 rcases K.find w hx es.toList hk with ⟨h1,h2⟩ | ⟨j,e0,h1,h2,h3⟩
 ·have hn:f x=none:=by
   cases hfx:f x with
   | none=>rfl
   | some v=>obtain⟨e1,he1,hk1,_⟩:=(hf x v).1 hfx; exact absurd hk1 (h2 e1 he1)
  rw[hn]
  simp[Instr.lookup,run_underlying ht,MapKept.run_getObj_map hb,K.check w _ hx,h1,hz,Result.andThen]
 ·have hs:f x=some e0.val:=(hf x e0.val).2 ⟨e0,List.mem_of_getElem? h2,h3,rfl⟩
  rw[hs]
  simp[Instr.lookup,run_underlying ht,MapKept.run_getObj_map hb,K.check w _ hx,h1,Result.andThen]
theorem MapF.store (h:MapF P k w b f)(K:Keyed P k)(ht:P.underlying t=some (.map k e)){x v:Value}{l:Lit}(hx:keyOf P k x=some l):
 ∃ w',(Instr.mapUpdate t (.map (some b)) x v).run P w=.ok () w'∧MapF P k w' b (updF f x v)∧w'.heap.size=w.heap.size∧w.grownBy w' (some b):=by
 obtain⟨es,clock,hb,hk,hd,hf⟩:=h
 have hlt:b<w.heap.size:=(Array.getElem?_eq_some_iff.1 hb).1
 rcases K.find w hx es.toList hk with ⟨h1,h2⟩ | ⟨j,e0,h1,h2,h3⟩
 ·refine⟨setBlock w b (.map (es.push ⟨x,v,clock⟩) (clock+1)),?_,⟨_,_,heap_setBlock_same hb _,?_,?_,?_⟩,by simp[setBlock],⟨rfl,rfl,rfl,by simp[setBlock],fun i _ hi=>heap_setBlock_other hb _ (fun e=>hi (by rw[e]))⟩⟩
  ·simp[Instr.mapUpdate,run_underlying ht,MapKept.run_getObj_map hb,K.check w false hx,h1,MapKept.run_setObj_map _ hb,Result.andThen,setBlock]
  ·intro e1 he1
   simp only[Array.toList_push,List.mem_append,List.mem_singleton] at he1
   rcases he1 with he1 | rfl
   ·exact hk e1 he1
   ·exact⟨l,hx⟩
  ·rw[Array.toList_push]
   refine List.pairwise_append.2 ⟨hd,by simp,fun a ha b' hb'=>?_⟩
   obtain rfl:b'=⟨x,v,clock⟩:=by simpa using hb'
   exact h2 a ha
  ·intro y u
   simp only[Array.toList_push,List.mem_append,List.mem_singleton,updF]
   by_cases hy:y=x
   ·subst hy
    rw[if_pos rfl]
    constructor
    ·intro hu; cases hu; exact⟨_,.inr rfl,rfl,rfl⟩
    ·rintro⟨e1,he1 | rfl,hk1,hv1⟩
     ·exact absurd hk1 (h2 e1 he1)
     ·rw[← hv1]
   ·rw[if_neg hy,hf]
    constructor
    ·rintro⟨e1,he1,r⟩;exact⟨e1,.inl he1,r⟩
    ·rintro⟨e1,he1 | rfl,hk1,hv1⟩
     ·exact⟨e1,he1,hk1,hv1⟩
     ·exact absurd hk1.symm hy
 ·have hj:es[j]? = some e0:=by simpa using h2
  have hlist:(es.modify j (fun e'=>{ e' with key:=x,val:=v })).toList=es.toList.set j { e0 with key:=x,val:=v }:=by rw[Array.toList_modify,modify_eq_set _ _ _ _ h2]
  have hjl:j<es.toList.length:=(List.getElem?_eq_some_iff.1 h2).1
  have hother:∀ i a,es.toList[i]? = some a→i≠j→a.key≠x:=by
   intro i a hi hij e1
   rw[← h3] at e1
   have hil:=(List.getElem?_eq_some_iff.1 hi).1
   have ei:=(List.getElem?_eq_some_iff.1 hi).2
   have ej:=(List.getElem?_eq_some_iff.1 h2).2
   rcases Nat.lt_or_gt_of_ne hij with h | h
   ·have:=List.pairwise_iff_getElem.1 hd i j hil hjl h; rw[ei,ej] at this; exact this e1
   ·have:=List.pairwise_iff_getElem.1 hd j i hjl hil h; rw[ei,ej] at this; exact this e1.symm
  have who:∀ a,a∈es.toList.set j { e0 with key:=x,val:=v }↔a={ e0 with key:=x,val:=v }∨(a∈es.toList∧a.key≠x):=by
   intro a
   constructor
   ·intro ha
    obtain⟨i,hi⟩:=List.mem_iff_getElem?.1 ha
    rw[List.getElem?_set] at hi
    by_cases hij:j=i
    ·subst hij; rw[if_pos rfl,if_pos hjl] at hi; exact .inl (Option.some.inj hi).symm
    ·rw[if_neg hij] at hi; exact .inr ⟨List.mem_of_getElem? hi,hother i a hi (Ne.symm hij)⟩
   ·rintro (rfl | ⟨ha,hne⟩)
    ·exact List.mem_iff_getElem?.2 ⟨j,by rw[List.getElem?_set,if_pos rfl,if_pos hjl]⟩
    ·obtain⟨i,hi⟩:=List.mem_iff_getElem?.1 ha
     have:j≠i:=by rintro rfl; rw[h2] at hi; cases hi; exact hne h3
     exact List.mem_iff_getElem?.2 ⟨i,by rw[List.getElem?_set,if_neg this];exact hi⟩
  refine⟨setBlock w b (.map (es.modify j (fun e'=>{ e' with key:=x,val:=v })) clock),?_,⟨_,_,heap_setBlock_same hb _,?_,?_,?_⟩,by simp[setBlock],⟨rfl,rfl,rfl,by simp[setBlock],fun i _ hi=>heap_setBlock_other hb _ (fun e=>hi (by rw[e]))⟩⟩
  ·simp[Instr.mapUpdate,run_underlying ht,MapKept.run_getObj_map hb,K.check w false hx,h1,hj,h3,K.stays w hx,MapKept.run_setObj_map _ hb,Result.andThen,setBlock]
  ·intro e1 he1
   rw[hlist] at he1
   rcases (who e1).1 he1 with rfl | ⟨h,_⟩
   ·exact⟨l,hx⟩
   ·exact hk e1 h
  ·rw[hlist]
   have:(es.toList.set j { e0 with key:=x,val:=v }).map (·.key)=es.toList.map (·.key):=by
    apply List.ext_getElem?
    intro i
    rw[List.map_set]
    simp only[List.getElem?_set,List.getElem?_map,List.length_map]
    split
    ·rename_i h; subst h; rw[h2];simp[h3]
    ·rfl
   have h':(es.toList.map (·.key)).Pairwise (·≠·):=by rw[List.pairwise_map];exact hd
   rw[← this,List.pairwise_map] at h'
   exact h'
  ·intro y u
   rw[hlist]
   by_cases hy:y=x
   ·subst hy
    simp only[updF,if_true]
    constructor
    ·intro hu; cases hu; exact⟨_,(who _).2 (.inl rfl),rfl,rfl⟩
    ·rintro⟨e1,he1,hk1,hv1⟩
     rcases (who e1).1 he1 with rfl | ⟨_,hne⟩
     ·rw[← hv1]
     ·exact absurd hk1 hne
   ·simp only[updF,if_neg hy]
    rw[hf]
    constructor
    ·rintro⟨e1,he1,hk1,hv1⟩;exact⟨e1,(who e1).2 (.inr ⟨he1,by rw[hk1];exact hy⟩),hk1,hv1⟩
    ·rintro⟨e1,he1,hk1,hv1⟩
     rcases (who e1).1 he1 with rfl | ⟨h,_⟩
     ·exact absurd hk1.symm hy
     ·exact⟨e1,h,hk1,hv1⟩
end Go

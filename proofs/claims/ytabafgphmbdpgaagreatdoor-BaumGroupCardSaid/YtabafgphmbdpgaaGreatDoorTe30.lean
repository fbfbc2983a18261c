/- Texts of this claim, joined: RPlus, RWd, RApp. -/
import Derived.Test.YtabafgphmbdpgaaGreatDoorTe1
import Derived.Test.YtabafgphmbdpgaaGreatDoorTe3
import Derived.Test.YtabafgphmbdpgaaGreatDoorTe4
import Derived.Deep.QuietTactic
import Derived.BigQuiet
import Derived.Lib.Hide
import Derived.Deep.RegionHeld2
import Derived.Deep.RegionHeldLaw
set_option maxHeartbeats 8000000
set_option maxRecDepth 100000
namespace Sr
theorem qX (s:Bool)(e:Nat): tv (!s,e) = -tv (s,e):=by cases s <;>simp[tv]
theorem j6 (s:Bool)(e:Nat): tv (s,e+1)=2*tv (s,e):=by cases s <;>simp[tv,jZ] <;>omega
theorem tv_abs (s:Bool)(e:Nat): tv (s,e)=2 ^ e∨tv (s,e) = -(2 ^ e):=by cases s <;>simp[tv]
theorem form_del {x:Int}{a b:List Tm}{u:Tm}(h:form x=a++u::b): form (x - tv u)=a++b:=by
 refine zS ?_ ?_
 ·have:=jb x; rw[h] at this
  exact List.Pairwise.sublist (List.Sublist.append_left (List.sublist_cons_self u b) a) this
 ·have:=jc x; rw[h,qI,lv] at this; rw[qI];omega
theorem form_flip {x:Int}{a b:List Tm}{s:Bool}{e:Nat}(h:form x=a++(s,e)::b): form (x - 2*tv (s,e))=a++(!s,e)::b:=by
 refine zS ?_ ?_
 ·have hn:=jb x; rw[h] at hn
  unfold Naf at hn ⊢
  rw[List.pairwise_append,List.pairwise_cons] at hn ⊢
  obtain⟨h1,⟨h2,h3⟩,h4⟩:=hn
  refine⟨h1,⟨h2,h3⟩,fun p hp q hq=>?_⟩
  rcases List.mem_cons.1 hq with rfl | hq
  ·exact h4 p hp (s,e) (by simp)
  ·exact h4 p hp q (List.mem_cons_of_mem _ hq)
 ·have:=jc x; rw[h,qI,lv] at this; rw[qI,lv,qX];omega
theorem form_ins {x:Int}{a b:List Tm}{s:Bool}{e:Nat}(h:form x=a++b)(ha:∀ u∈a,e+1<u.2)(hb:∀ u∈b,u.2+1<e): form (x+tv (s,e))=a++(s,e)::b:=by
 refine zS ?_ ?_
 ·have hn:=jb x; rw[h] at hn
  unfold Naf at hn ⊢
  rw[List.pairwise_append] at hn
  rw[List.pairwise_append,List.pairwise_cons]
  obtain⟨h1,h2,h4⟩:=hn
  refine⟨h1,⟨fun u hu=>hb u hu,h2⟩,fun p hp q hq=>?_⟩
  rcases List.mem_cons.1 hq with rfl | hq
  ·exact ha p hp
  ·exact h4 p hp q hq
 ·have:=jc x; rw[h,qI] at this; rw[qI,lv];omega
theorem form_top4 {x:Int}{m:Nat}(h1:3*x<4*2 ^ m)(h2:-(4*2 ^ m)<3*x): ∀ t∈form x,t.2≤m:=by
 intro t ht
 have hn:=jb x
 have hv:=jc x
 cases hf:form x with
 | nil=>rw[hf] at ht; simp at ht
 | cons u l =>
   rw[hf] at ht hn hv
   have hle:t.2≤u.2:=by
    rcases List.mem_cons.1 ht with rfl | h
    ·exact jR _
    ·have:=(List.pairwise_cons.1 hn).1 t h; omega
   obtain⟨s,e⟩:=u
   rcases Nat.lt_or_ge m e with hlt | hge
   ·exfalso
    have hp:=jk m
    have hm:=q7 (show m+1≤e by omega)
    rw[jZ] at hm
    cases s
    ·have:=zs hn; rw[hv] at this; omega
    ·have:=zt hn; rw[hv] at this; omega
   ·simp at hle; omega
theorem form_cut (x:Int)(e:Nat): ∃ hi lo:List Tm,form x=hi++lo∧(∀ u∈hi,e<u.2)∧(∀ u∈lo,u.2≤e):=by
 have key:∀ l:List Tm,Naf l→∃ hi lo:List Tm,l=hi++lo∧(∀ u∈hi,e<u.2)∧(∀ u∈lo,u.2≤e):=by
  intro l
  induction l with
  | nil=>intro _; exact⟨[],[],rfl,by simp,by simp⟩
  | cons t l ih =>
    intro hn
    obtain⟨h1,h2⟩:=List.pairwise_cons.1 hn
    by_cases ht:e<t.2
    ·obtain⟨hi,lo,rfl,k1,k2⟩:=ih h2
     exact⟨t::hi,lo,rfl,fun u hu=>by rcases List.mem_cons.1 hu with rfl | hu; exact ht; exact k1 u hu,k2⟩
    ·exact⟨[],t::l,rfl,by simp,fun u hu=>by rcases List.mem_cons.1 hu with rfl | hu; omega; have:=h1 u hu; omega⟩
 exact key _ (jb x)
theorem zi {x:Int}{s:Bool}{e:Nat}(h:(s,e)∈form x): ∃ a b,form x=a++(s,e)::b∧(∀ u∈a,e+1<u.2)∧(∀ u∈b,u.2+1<e):=by
 obtain⟨a,b,hab⟩:=List.append_of_mem h
 have hn:=jb x
 rw[hab] at hn
 obtain⟨h1,h2,h3⟩:=List.pairwise_append.1 hn
 exact⟨a,b,hab,fun u hu=>h3 u hu (s,e) (by simp),(List.pairwise_cons.1 h2).1⟩
theorem exps_mem {x:Int}{e:Nat}(h:e∈exps x): (true,e)∈form x∨(false,e)∈form x:=by
 obtain⟨⟨s,e'⟩,ht,rfl⟩:=List.mem_map.1 h
 cases s
 ·exact .inr ht
 ·exact .inl ht
theorem exps_mem' {x:Int}{e:Nat}(s:Bool)(h:e∈exps x): (s,e)∈form x∨(!s,e)∈form x:=by
 rcases exps_mem h with h | h <;>cases s <;>simp[h]
theorem mem_sign {x:Int}{s s':Bool}{e:Nat}(h:(s,e)∈form x)(h':(s',e)∈form x): s=s':=by
 obtain⟨a,b,hab,h1,h2⟩:=zi h
 rw[hab] at h'
 rcases List.mem_append.1 h' with h' | h'
 ·have:=h1 _ h'; simp at this; omega
 ·rcases List.mem_cons.1 h' with h' | h'
  ·simpa using h'.symm
  ·have:=h2 _ h'; simp at this; omega
theorem q8 {x:Int}{l:List Tm}(h:form x=l): exps x=l.map (·.2):=by unfold exps; rw[h]
theorem qK {x:Int}{s:Bool}{e:Nat}(h:(s,e)∈form x): ∀ j,j∈exps (x - tv (s,e))↔j∈exps x∧j≠e:=by
 obtain⟨a,b,hab,h1,h2⟩:=zi h
 intro j
 rw[q8 (form_del hab),q8 hab]
 simp only[List.map_append,List.map_cons,List.mem_append,List.mem_cons,List.mem_map]
 constructor
 ·rintro (⟨u,hu,rfl⟩ | ⟨u,hu,rfl⟩)
  ·exact⟨.inl ⟨u,hu,rfl⟩,by have:=h1 u hu; omega⟩
  ·exact⟨.inr (.inr ⟨u,hu,rfl⟩),by have:=h2 u hu; omega⟩
 ·rintro⟨h | h | h,hne⟩
  ·exact .inl h
  ·exact absurd h hne
  ·exact .inr h
theorem zL {x:Int}{s:Bool}{e:Nat}(h:(s,e)∈form x): exps (x - 2*tv (s,e))=exps x:=by
 obtain⟨a,b,hab,h1,h2⟩:=zi h
 rw[q8 (form_flip hab),q8 hab];simp
theorem len_del {x:Int}{s:Bool}{e:Nat}(h:(s,e)∈form x): (form (x - tv (s,e))).length+1=(form x).length:=by
 obtain⟨a,b,hab,h1,h2⟩:=zi h
 rw[form_del hab,hab];simp; omega
theorem filt_le {p q:Nat→Bool}(h:∀ u,p u=true→q u=true): ∀ l:List Nat,(l.filter p).length≤(l.filter q).length
 | []=>jR _
 | a::l=>by
   have:=filt_le h l
   by_cases hp:p a=true
   ·simp[hp,h a hp,this]
   ·by_cases hq:q a=true
    ·simp[hp,hq];omega
    ·simp[hp,hq,this]
def ups (x:Int)(e:Nat): Nat:=((exps x).filter (fun u=>decide (e≤u))).length
def below1 (x:Int)(e:Nat): Nat:=if 0<e∧(e - 1)∈exps x then 1 else 0
theorem qF (x:Int)(e:Nat): below1 x e≤1:=by unfold below1; split <;>omega
theorem yY {x:Int}{s:Bool}{d e e':Nat}(h:(s,d)∈form x)(h1:e≤e')(h2:e≤d): ups (x - tv (s,d)) e'+1≤ups x e:=by
 obtain⟨a,b,hab,_,_⟩:=zi h
 unfold ups
 rw[q8 (form_del hab),q8 hab]
 have hle:∀ l:List Nat,(l.filter (fun u=>decide (e'≤u))).length≤(l.filter (fun u=>decide (e≤u))).length:=filt_le (fun u hu=>by simp at hu ⊢;omega)
 have ha:=hle (a.map (·.2))
 have hb:=hle (b.map (·.2))
 simp only[List.map_append,List.map_cons,List.filter_append,List.length_append,List.filter_cons]
 rw[if_pos (by simpa using h2)]
 exact Nat.succ_le_succ (Nat.add_le_add ha hb)
theorem ups_mono {x y:Int}{e e':Nat}(h:exps y=exps x)(h1:e≤e'): ups y e'≤ups x e:=by
 unfold ups; rw[h]
 exact filt_le (fun u hu=>by simp at hu ⊢;omega) _
theorem ups_len (x:Int)(e:Nat): ups x e≤(form x).length:=by unfold ups; rw[← js];exact List.length_filter_le _ _
theorem carry_split {x:Int}{s:Bool}{e:Nat}(h:(s,e+1)∈form x): ∃ hi lo:List Tm,form x=hi++(s,e+1)::lo∧(∀ u∈hi,e+2<u.2)∧(∀ u∈lo,u.2<e) ∧
 form (x - tv (s,e+1) - tv (s,e))=hi++form (lv lo - tv (s,e))∧(∀ u∈form (lv lo - tv (s,e)),u.2≤e+1):=by
 obtain⟨hi,lo,hab,h1,h2⟩:=zi h
 have hn:=jb x
 rw[hab] at hn
 obtain⟨n1,n2,n3⟩:=List.pairwise_append.1 hn
 have n4:=(List.pairwise_cons.1 n2).2
 have hlo:∀ u∈lo,u.2<e:=fun u hu=>by have:=h2 u hu; omega
 have hbd:=yg lo n4 e hlo
 have hp:=jk e
 have htop:∀ u∈form (lv lo - tv (s,e)),u.2≤e+1:=by
  refine yi ?_ ?_ <;>rw[jZ] <;>rcases tv_abs s e with h | h <;>omega
 refine⟨hi,lo,hab,fun u hu=>by have:=h1 u hu; omega,hlo,?_,htop⟩
 refine zS ?_ ?_
 ·refine List.pairwise_append.2 ⟨n1,jb _,fun a ha b hb=>?_⟩
  have:=h1 a ha; have:=htop b hb; omega
 ·rw[qI,jc]
  have:=jc x; rw[hab,qI,lv] at this; omega
theorem ups_carry {x:Int}{s:Bool}{e:Nat}(h:(s,e+1)∈form x): ups (x - tv (s,e+1) - tv (s,e)) (e+2)+1≤ups x e:=by
 obtain⟨hi,lo,hab,h1,h2,h3,h4⟩:=carry_split h
 unfold ups
 rw[q8 h3,q8 hab]
 simp only[List.map_append,List.map_cons,List.filter_append,List.length_append,List.filter_cons]
 rw[if_pos (by simp)]
 have e1:((form (lv lo - tv (s,e))).map (·.2)).filter (fun u=>decide (e+2≤u))=[]:=by
  refine List.filter_eq_nil_iff.2 (fun u hu=>?_)
  obtain⟨t,ht,rfl⟩:=List.mem_map.1 hu
  have:=h4 t ht
  simp; omega
 have e2:((hi.map (·.2)).filter (fun u=>decide (e+2≤u))).length≤((hi.map (·.2)).filter (fun u=>decide (e≤u))).length :=
  filt_le (fun u hu=>by simp at hu ⊢;omega) _
 rw[e1]
 simp only[List.length_cons,List.length_nil];omega
theorem plus_ind {P:Int→Bool→Nat→Prop} 
 (eqo:∀ x s e,(!s,e)∈form x→P x s e)
 (eqs:∀ x s e,(s,e)∈form x→P (x - tv (s,e)) s (e+1)→P x s e)
 (ho:∀ x s e,e∉exps x→(!s,e+1)∈form x→P (x - tv (!s,e+1)) (!s) e→P x s e)
 (hs:∀ x s e,e∉exps x→(s,e+1)∈form x→P (x - tv (s,e+1)) (!s) e→P (x - tv (s,e+1) - tv (s,e)) s (e+2)→P x s e)
 (lo:∀ x s e,e+1∉exps x→e+2∉exps x→(!s,e)∈form x→P x s (e+1))
 (ls:∀ x s e,e+1∉exps x→e+2∉exps x→(s,e)∈form x→P (x - 2*tv (s,e)) s (e+2)→P x s (e+1))
 (ins:∀ x s e,e∉exps x→e+1∉exps x→(∀ d,d+1=e→d∉exps x)→P x s e):∀ x s e,P x s e:=by
 have key:∀ n x s e,2*ups x e+below1 x e≤n→P x s e:=by
  intro n
  induction n using Nat.strongRecOn with
  | ind n ih =>
    intro x s e hn
    have call:∀ y t d,2*ups y d+below1 y d<2*ups x e+below1 x e→P y t d:=fun y t d h=>ih _ (by omega) y t d (jR _)
    by_cases he:e∈exps x
    ·rcases exps_mem' s he with h | h
     ·refine eqs x s e h (call _ _ _ ?_)
      have:=yY (e:=e) (e':=e+1) h (by omega) (by omega)
      have:=qF (x - tv (s,e)) (e+1)
      omega
     ·exact eqo x s e h
    ·by_cases h1:e+1∈exps x
     ·rcases exps_mem' s h1 with h | h
      ·refine hs x s e he h (call _ _ _ ?_) (call _ _ _ ?_)
       ·have:=yY (e:=e) (e':=e) h (by omega) (by omega)
        have:=qF (x - tv (s,e+1)) e
        omega
       ·have:=ups_carry h
        have:=qF (x - tv (s,e+1) - tv (s,e)) (e+2)
        omega
      ·refine ho x s e he h (call _ _ _ ?_)
       have:=yY (e:=e) (e':=e) h (by omega) (by omega)
       have:=qF (x - tv (!s,e+1)) e
       omega
     ·by_cases h0:∃ d,d+1=e∧d∈exps x
      ·obtain⟨d,rfl,hd⟩:=h0
       rcases exps_mem' s hd with h | h
       ·refine ls x s d he h1 h (call _ _ _ ?_)
        have hex:=zL h
        have:=ups_mono (e:=d+1) (e':=d+2) hex (by omega)
        have e0:below1 (x - 2*tv (s,d)) (d+2)=0:=by unfold below1; rw[hex];rw[if_neg];rintro⟨_,h⟩;exact he (by simpa using h)
        have e1:below1 x (d+1)=1:=by unfold below1; rw[if_pos];exact⟨by omega,by simpa using hd⟩
        omega
       ·exact lo x s d he h1 h
      ·exact ins x s e he h1 (fun d hd h=>h0 ⟨d,hd,h⟩)
 exact fun x s e=>key _ x s e (jR _)
theorem plus_exps:∀ x s e,∀ j∈exps (x+tv (s,e)),j∈exps x∨e≤j:=by
 refine plus_ind ?_ ?_ ?_ ?_ ?_ ?_ ?_
 ·intro x s e h j hj
  have:=(qK h j).1 (by rw[qX];rwa [show x - -tv (s,e)=x+tv (s,e) by omega])
  exact .inl this.1
 ·intro x s e h ih j hj
  rcases ih j (by rw[j6];rwa [show x - tv (s,e)+2*tv (s,e)=x+tv (s,e) by omega]) with h1 | h1
  ·exact .inl ((qK h j).1 h1).1
  ·exact .inr (by omega)
 ·intro x s e _ h ih j hj
  rcases ih j (by rw[j6,qX];rwa [show x - 2*-tv (s,e)+-tv (s,e)=x+tv (s,e) by omega]) with h1 | h1
  ·exact .inl ((qK h j).1 h1).1
  ·exact .inr (by omega)
 ·intro x s e _ h ih1 ih2 j hj
  rcases ih2 j (by rw[show e+2=e+1+1 from rfl,j6 s (e+1),j6];rwa [show x - 2*tv (s,e) - tv (s,e)+2*(2*tv (s,e))=x+tv (s,e) by omega]) with h1 | h1
  ·rcases ih1 j (by rw[qX];rwa [show x - tv (s,e+1)+-tv (s,e)=x - tv (s,e+1) - tv (s,e) by omega]) with h2 | h2
   ·exact .inl ((qK h j).1 h2).1
   ·exact .inr h2
  ·exact .inr (by omega)
 ·intro x s e _ _ h j hj
  have:=zL h
  rw[qX,show x - 2*-tv (s,e)=x+tv (s,e+1) by rw[j6];omega] at this
  exact .inl (this▸hj)
 ·intro x s e _ _ h ih j hj
  rcases ih j (by rw[show e+2=e+1+1 from rfl,j6 s (e+1),j6];rw[j6] at hj; rwa [show x - 2*tv (s,e)+2*(2*tv (s,e))=x+2*tv (s,e) by omega]) with h1 | h1
  ·exact .inl (zL h▸h1)
  ·exact .inr (by omega)
 ·intro x s e h0 h1 h2 j hj
  obtain⟨hi,lo,hab,k1,k2⟩:=form_cut x e
  have k1':∀ u∈hi,e+1<u.2:=fun u hu=>by
   have:=k1 u hu
   have:u.2≠e+1:=fun h=>h1 (h▸mem_exps (hab▸List.mem_append.2 (.inl hu)))
   omega
  have k2':∀ u∈lo,u.2+1<e:=fun u hu=>by
   have:=k2 u hu
   have h3:u.2∈exps x:=mem_exps (hab▸List.mem_append.2 (.inr hu))
   have:u.2≠e:=fun h=>h0 (h▸h3)
   have:u.2+1≠e:=fun h=>h2 _ h h3
   omega
  rw[q8 (form_ins hab k1' k2')] at hj
  rw[q8 hab]
  simp only[List.map_append,List.map_cons,List.mem_append,List.mem_cons] at hj ⊢
  rcases hj with h | h | h
  ·exact .inl (.inl h)
  ·exact .inr (by omega)
  ·exact .inl (.inr h)
theorem plus_len:∀ x s e,(form (x+tv (s,e))).length≤(form x).length+1:=by
 refine plus_ind ?_ ?_ ?_ ?_ ?_ ?_ ?_
 ·intro x s e h
  have:=len_del h
  rw[qX,show x - -tv (s,e)=x+tv (s,e) by omega] at this
  omega
 ·intro x s e h ih
  rw[j6,show x - tv (s,e)+2*tv (s,e)=x+tv (s,e) by omega] at ih
  have:=len_del h; omega
 ·intro x s e _ h ih
  have:=len_del h
  rw[j6,qX,show x - 2*-tv (s,e)+-tv (s,e)=x+tv (s,e) by omega] at ih
  rw[j6,qX] at this
  omega
 ·intro x s e _ h ih1 ih2
  have:=len_del h
  rw[qX,show x - tv (s,e+1)+-tv (s,e)=x - tv (s,e+1) - tv (s,e) by omega] at ih1
  rw[show e+2=e+1+1 from rfl,j6 s (e+1),show x - tv (s,e+1) - tv (s,e)+2*tv (s,e+1)=x+tv (s,e) by rw[j6];omega] at ih2
  omega
 ·intro x s e _ _ h
  have:=zL h
  rw[qX,show x - 2*-tv (s,e)=x+tv (s,e+1) by rw[j6];omega] at this
  rw[← js,← js,this];omega
 ·intro x s e _ _ h ih
  have e1:(form (x - 2*tv (s,e))).length=(form x).length:=by rw[← js,zL h,js]
  rw[e1,show e+2=e+1+1 from rfl,j6 s (e+1),j6,show x - 2*tv (s,e)+2*(2*tv (s,e))=x+2*tv (s,e) by omega] at ih
  rw[j6];exact ih
 ·intro x s e h0 h1 h2
  obtain⟨hi,lo,hab,k1,k2⟩:=form_cut x e
  have k1':∀ u∈hi,e+1<u.2:=fun u hu=>by
   have:=k1 u hu
   have:u.2≠e+1:=fun h=>h1 (h▸mem_exps (hab▸List.mem_append.2 (.inl hu)))
   omega
  have k2':∀ u∈lo,u.2+1<e:=fun u hu=>by
   have:=k2 u hu
   have h3:u.2∈exps x:=mem_exps (hab▸List.mem_append.2 (.inr hu))
   have:u.2≠e:=fun h=>h0 (h▸h3)
   have:u.2+1≠e:=fun h=>h2 _ h h3
   omega
  rw[form_ins hab k1' k2',hab];simp; omega
theorem sum_len (x y:Int): (form (x+y)).length≤(form x).length+(form y).length:=by
 have key:∀ (l:List Tm) (x:Int),(form (x+lv l)).length≤(form x).length+l.length:=by
  intro l
  induction l with
  | nil=>intro x; simp[lv]
  | cons t l ih =>
    intro x
    obtain⟨s,e⟩:=t
    have h1:=ih (x+tv (s,e))
    have h2:=plus_len x s e
    simp only[lv,List.length_cons]
    rw[show x+(tv (s,e)+lv l)=x+tv (s,e)+lv l by omega]
    omega
 have:=key (form y) x
 rwa [jc] at this
inductive Ask:Int→Bool→Nat→Nat→Prop
 | hi {x s e u}:u∈exps x→e<u→Ask x s e e
 | lo {x s e d}:e∉exps x→d∈exps x→d<e→Ask x s e d
 | eq {x s e}:(s,e)∈form x→Ask x s e e
 | eqr {x s e j}:(s,e)∈form x→Ask (x - tv (s,e)) s (e+1) j→Ask x s e j
 | h {x s e}:e∉exps x→e+1∈exps x→Ask x s e (e+1)
 | ho {x s e j}:e∉exps x→(!s,e+1)∈form x→Ask (x - tv (!s,e+1)) (!s) e j→Ask x s e j
 | hs1 {x s e j}:e∉exps x→(s,e+1)∈form x→Ask (x - tv (s,e+1)) (!s) e j→Ask x s e j
 | hs2 {x s e j}:e∉exps x→(s,e+1)∈form x→Ask (x - tv (s,e+1) - tv (s,e)) s (e+2) j→Ask x s e j
 | ls {x s e}:e+1∉exps x→e+2∉exps x→(s,e)∈form x→Ask x s (e+1) (e+1)
 | lsr {x s e j}:e+1∉exps x→e+2∉exps x→(s,e)∈form x→Ask (x - 2*tv (s,e)) s (e+2) j→Ask x s (e+1) j
theorem carry_exps {x:Int}{s:Bool}{e:Nat}(h:(s,e+1)∈form x){j:Nat}(hj:j∈exps (x - tv (s,e+1) - tv (s,e))): j∈exps x∨j=e∨j=e+1:=by
 obtain⟨hi,lo,hab,h1,h2,h3,h4⟩:=carry_split h
 have h5:=plus_exps (x - tv (s,e+1)) (!s) e j (by rw[qX,show x - tv (s,e+1)+-tv (s,e)=x - tv (s,e+1) - tv (s,e) by omega];exact hj)
 rcases h5 with h5 | h5
 ·exact .inl ((qK h j).1 h5).1
 ·rw[q8 h3,List.map_append,List.mem_append] at hj
  rcases hj with hj | hj
  ·left; rw[q8 hab,List.map_append];exact List.mem_append.2 (.inl hj)
  ·obtain⟨t,ht,rfl⟩:=List.mem_map.1 hj
   have:=h4 t ht
   right; omega
theorem Ask.bound {x:Int}{s:Bool}{e j:Nat}(h:Ask x s e j): (j<e∧j∈exps x)∨(e≤j∧j≤e+3*ups x e+below1 x e+1):=by
 induction h with
 | hi=>right; omega
 | lo h0 h1 h2=>exact .inl ⟨h2,h1⟩
 | eq=>right; omega
 | @eqr x s e j h hr ih =>
   have k1:=yY (e:=e) (e':=e+1) h (by omega) (by omega)
   have k2:=qF (x - tv (s,e)) (e+1)
   rcases ih with ⟨h1,h2⟩ | h1
   ·have:=(qK h j).1 h2
    exact .inl ⟨by omega,this.1⟩
   ·right; omega
 | h=>right; omega
 | @ho x s e j h0 h hr ih =>
   have k1:=yY (e:=e) (e':=e) h (by omega) (by omega)
   have k2:=qF (x - tv (!s,e+1)) e
   rcases ih with ⟨h1,h2⟩ | h1
   ·exact .inl ⟨h1,((qK h j).1 h2).1⟩
   ·right; omega
 | @hs1 x s e j h0 h hr ih =>
   have k1:=yY (e:=e) (e':=e) h (by omega) (by omega)
   have k2:=qF (x - tv (s,e+1)) e
   rcases ih with ⟨h1,h2⟩ | h1
   ·exact .inl ⟨h1,((qK h j).1 h2).1⟩
   ·right; omega
 | @hs2 x s e j h0 h hr ih =>
   have k1:=ups_carry h
   have k2:=qF (x - tv (s,e+1) - tv (s,e)) (e+2)
   rcases ih with ⟨h1,h2⟩ | h1
   ·rcases carry_exps h h2 with h3 | h3 | h3
    ·rcases Nat.lt_or_ge j e with h4 | h4
     ·exact .inl ⟨h4,h3⟩
     ·right; omega
    ·right; omega
    ·right; omega
   ·right; omega
 | ls=>right; omega
 | @lsr x s e j h0 h1 h hr ih =>
   have hex:=zL h
   have k1:=ups_mono (e:=e+1) (e':=e+2) hex (by omega)
   have e0:below1 (x - 2*tv (s,e)) (e+2)=0:=by unfold below1; rw[hex,if_neg];rintro⟨_,h⟩;exact h0 (by simpa using h)
   have e1:below1 x (e+1)=1:=by unfold below1; rw[if_pos];exact⟨by omega,by simpa using mem_exps h⟩
   rw[hex] at ih
   rcases ih with ⟨h1,h2⟩ | h1
   ·rcases Nat.lt_or_ge j (e+1) with h4 | h4
    ·exact .inl ⟨h4,h2⟩
    ·right; omega
   ·right; omega
theorem Ask.top {x:Int}{s:Bool}{e j:Nat}(h:Ask x s e j): (∀ d,d+1=e→d∉exps x)→∃ u∈exps x,j≤u:=by
 induction h with
 | hi h1 h2=>exact fun _=>⟨_,h1,by omega⟩
 | lo _ h1 _=>exact fun _=>⟨_,h1,by omega⟩
 | eq h=>exact fun _=>⟨_,mem_exps h,by simp⟩
 | @eqr x s e j h hr ih =>
   intro hd
   obtain⟨u,h1,h2⟩:=ih (fun d hd' h'=>by
    have:=(qK h d).1 h'; omega)
   exact⟨u,((qK h u).1 h1).1,h2⟩
 | h _ h1=>exact fun _=>⟨_,h1,by omega⟩
 | @ho x s e j h0 h hr ih =>
   intro hd
   obtain⟨u,h1,h2⟩:=ih (fun d hd' h'=>hd d hd' ((qK h d).1 h').1)
   exact⟨u,((qK h u).1 h1).1,h2⟩
 | @hs1 x s e j h0 h hr ih =>
   intro hd
   obtain⟨u,h1,h2⟩:=ih (fun d hd' h'=>hd d hd' ((qK h d).1 h').1)
   exact⟨u,((qK h u).1 h1).1,h2⟩
 | @hs2 x s e j h0 h hr ih =>
   intro hd
   obtain⟨u,h1,h2⟩:=ih (fun d hd' h'=>by
    obtain rfl:d=e+1:=by omega
    obtain⟨hi,lo,hab,k1,k2,k3,k4⟩:=carry_split h
    rw[q8 k3,List.map_append,List.mem_append] at h'
    rcases h' with h' | h'
    ·obtain⟨t,ht,e1⟩:=List.mem_map.1 h'
     have:=k1 t ht; omega
    ·obtain⟨t,ht,e1⟩:=List.mem_map.1 h'
     have hn:=jb x
     rw[hab] at hn
     have n4:=(List.pairwise_cons.1 (List.pairwise_append.1 hn).2.1).2
     rcases Nat.eq_zero_or_pos e with he | he
     ·subst he
      have:lo=[]:=List.eq_nil_iff_forall_not_mem.2 (fun t ht=>by have:=k2 t ht; omega)
      subst this
      have hf:form (lv [] - tv (s,0))=[(!s,0)]:=zS (by simp[Naf]) (by simp[lv,qX])
      rw[hf] at ht
      simp at ht; subst ht; simp at e1
     ·obtain⟨q,rfl⟩:∃ q,e=q+1:=⟨e - 1,by omega⟩
      have hb:=yg lo n4 q (fun t ht=>by
       have:=k2 t ht
       have:t.2≠q:=fun h'=>hd q rfl (h'▸mem_exps (hab▸List.mem_append.2 (.inr (List.mem_cons_of_mem _ ht))))
       omega)
      have hp:=jk q
      have:=form_top4 (x:=lv lo - tv (s,q+1)) (m:=q+1) (by rw[j6,jZ];rcases tv_abs s q with h | h <;>omega) (by rw[j6,jZ];rcases tv_abs s q with h | h <;>omega) t ht
      omega)
   rcases carry_exps h h1 with h3 | h3 | h3
   ·exact⟨u,h3,h2⟩
   ·exact⟨e+1,mem_exps h,by omega⟩
   ·exact⟨e+1,mem_exps h,by omega⟩
 | ls _ _ h=>exact fun hd=>absurd (mem_exps h) (hd _ rfl)
 | lsr _ _ h=>exact fun hd=>absurd (mem_exps h) (hd _ rfl)
end Sr
namespace Sr
open Go Go.Proofs Go.RowKit Go.Maps Go.WideMaps
section
theorem info139:(Tryz.prog.info? 139).map (fun i=>(i.zero,i.size,i.bytes))=some (some (.agg #[.bool false,.int .i64 0]),2,16):=by kernel_rfl
theorem info137:(Tryz.prog.info? 137).map (fun i=>(i.zero,i.size,i.bytes))=some (some (.slice none 0 0),1,24):=by kernel_rfl
theorem un137:Tryz.prog.underlying 137=some (.slice 139):=by kernel_rfl
theorem un103:Tryz.prog.underlying 103=some (.slice 137):=by kernel_rfl
def RRow (W:World)(v:Value)(l:List PT): Prop:=W.ownsRow 0 139 2 v l.length (tcells l)
variable {T:TypeId} {v fv':Value} {l:List PT} {b n:Nat} {fl':List Value} {vs':List Int}
theorem row2_cell {W:World}(h:W.ownsRow 0 T 2 v l.length (tcells l)): ∃ a c,v=.slice a l.length c∧∀ k t,l[k]? = some t→∃ g,a=some ⟨g,0,none⟩∧W.cell? ⟨g,k*2,none⟩=some (.bool t.1)∧W.cell? ⟨g,k*2+1,none⟩=some (.int .i64 (t.2:Nat)):=by
 obtain⟨h1,⟨rfl,h2⟩ | ⟨g,cap,cur,rfl,_,h4,h5,h6,h7,h8⟩⟩:=h
 ·have:l=[]:=List.length_eq_zero_iff.1 h2
  subst this
  exact⟨_,_,rfl,fun k t ht=>by simp at ht⟩
 ·refine⟨_,_,rfl,fun k t ht=>⟨g,rfl,?_⟩⟩
  obtain⟨d0,d1⟩:=qG ht
  have hk:=(jL ht).1
  rw[← h8,List.getElem?_take_of_lt (by omega),Array.getElem?_toList,← jB h4] at d0
  rw[← h8,List.getElem?_take_of_lt (by omega),Array.getElem?_toList,← jB h4] at d1
  exact⟨d0,d1⟩
theorem RRow.get {W:World}(h:RRow W v l): ∃ a c,v=.slice a l.length c∧∀ k t,l[k]? = some t→∃ g,a=some ⟨g,0,none⟩∧W.cell? ⟨g,k*2,none⟩=some (.bool t.1)∧W.cell? ⟨g,k*2+1,none⟩=some (.int .i64 (t.2:Nat)):=row2_cell h
def Sml (v:Int): Prop:=0≤v∧v≤4096
structure RW (C:List Int)(W:World)(p:Nat)(fv:Value)(fl:List Value)(vs:List Int): Prop where
 wv:WV vs
 obj:W.heap[p]? = some (.cells #[fv] 105 (0,0))
 forms:W.ownsRow 0 137 1 fv vs.length fl
 rows:∀ (i:Nat) (x:Int),vs[i]? = some x→∃ v,fl[i]? = some v∧RRow W v (pf vs x)
 cov:∀ v∈vs,v∈C∨Sml v
 bnd:C.length≤5000000000000
def rF (p:Nat)(fv:Value): List Nat:=p::fv.ownBlock.toList
theorem nodup_int_le:∀ (a b:List Int),a.Nodup→(∀ x∈a,x∈b)→a.length≤b.length
 | [],_,_,_=>by simp
 | x::a,b,h,hs=>by
   obtain⟨h1,h2⟩:=List.nodup_cons.1 h
   have hx:=hs x (by simp)
   have:=nodup_int_le a (b.erase x) h2 (fun y hy=>by
    refine (List.mem_erase_of_ne (fun e=>by subst e; exact h1 hy)).2 (hs y (List.mem_cons_of_mem _ hy)))
   rw[List.length_erase_of_mem hx] at this
   have:=List.length_pos_of_mem hx
   simp only[List.length_cons];omega
section
variable {C:List Int} {W W':World} {p:Nat} {fv:Value} {fl:List Value} {vs:List Int}
theorem RW.vlen (h:RW C W p fv fl vs): vs.length≤5000000004097:=by
 have:=nodup_int_le vs (C++(List.range 4097).map (fun (n:Nat)=>(n:Int))) h.wv.nodup (fun v hv=>by
  rcases h.cov v hv with h1 | ⟨h1,h2⟩
  ·exact List.mem_append.2 (.inl h1)
  ·exact List.mem_append.2 (.inr (List.mem_map.2 ⟨v.toNat,List.mem_range.2 (by omega),by omega⟩)))
 simp at this
 have:=h.bnd; omega
theorem RW.c0 (h:RW C W p fv fl vs): W.cell? ⟨p,0,none⟩=some fv:=by rw[jB h.obj];rfl
theorem RW.lt (h:RW C W p fv fl vs): p<W.heap.size:=(jA h.obj).1
theorem fr_type {c:Array Value}{z:Nat×Nat}(h:RW C W p fv fl vs)(hf:Fr (rF p fv) W W')(hb:W.heap[b]? = some (.cells c T z))(h1:T≠105)(h2:T≠137): W'.heap[b]? = some (.cells c T z):=by
 refine (hf.block b (jA hb).1 (fun hm=>?_)).trans hb
 rcases List.mem_cons.1 hm with rfl | hm
 ·exact jI h.obj hb (Ne.symm h1) rfl
 ·have hm:fv.ownBlock=some b:=by simpa using hm
  obtain⟨c',hc⟩:=jO h.forms hm
  exact jI hc hb (Ne.symm h2) rfl
theorem row_fr {s:Nat}{xs:List Value}(h:RW C W p fv fl vs)(hf:Fr (rF p fv) W W')(hb:W.ownsRow 0 T s v n xs)(h1:T≠105)(h2:T≠137): W'.ownsRow 0 T s v n xs :=
 jJ hb (fun b hbo=>by
  obtain⟨c,hc⟩:=jO hb hbo
  rw[fr_type h hf hc h1 h2,hc])
theorem RRow.fr (hb:RRow W v l)(h:RW C W p fv fl vs)(hf:Fr (rF p fv) W W'): RRow W' v l:=row_fr h hf hb (by decide) (by decide)
def rB (p:Nat)(fv:Value)(fl:List Value): List Nat:=p::(fv.ownBlock.toList++fl.flatMap fun v=>v.ownBlock.toList)
theorem yK:b∈rB p fv fl↔b=p∨fv.ownBlock=some b∨∃ v∈fl,v.ownBlock=some b:=by
 unfold rB
 simp only[List.mem_cons,List.mem_append,Option.mem_toList,List.mem_flatMap]
theorem RW.fl_len (h:RW C W p fv fl vs): fl.length=vs.length:=by have:=h.forms.1; omega
theorem RW.row_of (h:RW C W p fv fl vs)(hv:v∈fl): ∃ l,RRow W v l:=by
 obtain⟨i,hi,hiv⟩:=List.getElem_of_mem hv
 have hl:=h.fl_len
 obtain⟨u,k1,k2⟩:=h.rows i _ (jG (by omega))
 rw[jG hi,hiv] at k1; cases k1
 exact⟨_,k2⟩
theorem RW.btype (h:RW C W p fv fl vs)(hb:b∈rB p fv fl): ∃ c T,W.heap[b]? = some (.cells c T (0,0))∧(T=105∨T=137∨T=139):=by
 rcases yK.1 hb with rfl | hb | ⟨v,hv,hb⟩
 ·exact⟨_,_,h.obj,.inl rfl⟩
 ·obtain⟨c,hc⟩:=jO h.forms hb; exact⟨c,_,hc,.inr (.inl rfl)⟩
 ·obtain⟨l,hl⟩:=h.row_of hv
  obtain⟨c,hc⟩:=jO hl hb
  exact⟨c,_,hc,.inr (.inr rfl)⟩
theorem RW.blt (h:RW C W p fv fl vs): ∀ b∈rB p fv fl,b<W.heap.size:=fun b hb=>by
 obtain⟨c,T,hc,_⟩:=h.btype hb
 exact (jA hc).1
theorem RW.kept (h:RW C W p fv fl vs)(hb:∀ b∈rB p fv fl,W'.heap[b]? = W.heap[b]?): RW C W' p fv fl vs where
 wv:=h.wv
 obj:=(hb p (yK.2 (.inl rfl))).trans h.obj
 forms:=jJ h.forms (fun b hbo=>hb b (yK.2 (.inr (.inl hbo))))
 rows:=fun i x hi=>by
  obtain⟨v,h1,h2⟩:=h.rows i x hi
  exact⟨v,h1,jJ h2 (fun b hbo=>hb b (yK.2 (.inr (.inr ⟨v,jM h1,hbo⟩))))⟩
 cov:=h.cov
 bnd:=h.bnd
theorem RW.below (h:RW C W p fv fl vs)(hb:Below W.heap.size W W'): RW C W' p fv fl vs:=h.kept fun b hb'=>hb.block b (h.blt b hb')
theorem RW.alloc (h:RW C W p fv fl vs)(o:Obj): RW C (W.alloc o) p fv fl vs:=h.below ((Below.refl _ _).alloc (jR _) o)
theorem RW.drew (h:RW C W p fv fl vs): RW C W.drew p fv fl vs:=h.kept fun _ _=>rfl
theorem RW.drewN (h:RW C W p fv fl vs)(n:Nat): RW C (W.drewN n) p fv fl vs:=h.kept fun _ _=>rfl
theorem RW.setCell (h:RW C W p fv fl vs){a:Addr}(ha:a.block∉rB p fv fl)(v:Value): RW C (W.setCell a v) p fv fl vs:=h.kept fun b hb=>jS _ _ _ _ (by rintro rfl; exact ha hb)
theorem RW.other (h:RW C W p fv fl vs){c:Array Value}{z:Nat×Nat}(ha:W.heap[b]? = some (.cells c T z))(h1:T≠105)(h2:T≠137)(h3:T≠139): b∉rB p fv fl:=fun hb=>by
 obtain⟨c',T',hc,hT⟩:=h.btype hb
 rw[ha] at hc; cases hc
 rcases hT with h | h | h
 ·exact h1 h
 ·exact h2 h
 ·exact h3 h
theorem RW.weaken (h:RW C W p fv fl vs){C':List Int}(hc:∀ v∈C,v∈C'∨Sml v)(hb:C'.length≤5000000000000): RW C' W p fv fl vs where
 wv:=h.wv
 obj:=h.obj
 forms:=h.forms
 rows:=h.rows
 cov:=fun v hv=>(h.cov v hv).elim (fun h1=>hc v h1) .inr
 bnd:=hb
theorem RW.formAt (h:RW C W p fv fl vs): ∃ g cap,fv=.slice (some ⟨g,0,none⟩) vs.length cap∧∀ (i:Nat) (x:Int),vs[i]? = some x→∃ v,fl[i]? = some v∧W.cell? ⟨g,i,none⟩=some v∧RRow W v (pf vs x):=by
 have hp:0<vs.length:=(jL h.wv.zero).1
 obtain⟨h1,⟨h2,h3⟩ | ⟨g,cap,cur,he,_,h4,h5,h6,h7,h8⟩⟩:=h.forms
 ·omega
 ·refine⟨g,cap,he,fun i x hi=>?_⟩
  obtain⟨v,k1,k2⟩:=h.rows i x hi
  have hi':=(jL hi).1
  refine⟨v,k1,?_,k2⟩
  rw[← h8,List.getElem?_take_of_lt (by omega),Array.getElem?_toList,← jB h4] at k1
  exact k1
structure RPut (C:List Int)(W W':World)(p:Nat)(fv fv':Value)(fl fl':List Value)(vs vs':List Int): Prop where
 rw:RW C W' p fv' fl' vs'
 ext:vs <+: vs'
 fr:Fr (rF p fv) W W'
 fvb:∀ b,fv'.ownBlock=some b→fv.ownBlock=some b∨W.heap.size≤b
 flb:∀ v∈fl',v∈fl∨∀ b,v.ownBlock=some b→W.heap.size≤b
theorem RPut.refl (h:RW C W p fv fl vs): RPut C W W p fv fv fl fl vs vs:=⟨h,List.prefix_refl _,Fr.refl _ _,fun _ h=>.inl h,fun _ h=>.inl h⟩
theorem RPut.pre {W0:World}{fv':Value}{fl':List Value}{vs':List Int}(h0:Below W0.heap.size W0 W)(h:RPut C W W' p fv fv' fl fl' vs vs'): RPut C W0 W' p fv fv' fl fl' vs vs' :=
 ⟨h.rw,h.ext,Fr.pre (Fr.of_below h0) h.fr,fun b hb=>(h.fvb b hb).imp id (fun k=>Nat.le_trans h0.size k),fun v hv=>(h.flb v hv).imp id (fun k b hb=>Nat.le_trans h0.size (k b hb))⟩
theorem rF_sub (h:∀ b,fv'.ownBlock=some b→fv.ownBlock=some b∨n≤b): ∀ b∈rF p fv',b∈rF p fv∨n≤b:=fun b hb=>by
 rcases List.mem_cons.1 hb with rfl | hb
 ·exact .inl (List.mem_cons_self ..)
 ·rcases h b (by simpa using hb) with h | h
  ·exact .inl (List.mem_cons_of_mem _ (by simpa using h))
  ·exact .inr h
theorem RPut.trans {W2:World}{fv1 fv2:Value}{fl1 fl2:List Value}{vs1 vs2:List Int}(h:RPut C W W' p fv fv1 fl fl1 vs vs1)(k:RPut C W' W2 p fv1 fv2 fl1 fl2 vs1 vs2): RPut C W W2 p fv fv2 fl fl2 vs vs2:=by
 refine⟨k.rw,h.ext.trans k.ext,?_,fun b hb=>?_,fun v hv=>?_⟩
 ·exact (FE.trans (F:=rF p fv) (F1:=rF p fv1) (F2:=rF p fv1) ⟨h.fr,rF_sub h.fvb⟩ ⟨k.fr,fun b hb=>.inl hb⟩).fr
 ·rcases k.fvb b hb with h1 | h1
  ·exact h.fvb b h1
  ·exact .inr (Nat.le_trans h.fr.size h1)
 ·rcases k.flb v hv with h1 | h1
  ·exact h.flb v h1
  ·exact .inr (fun b hb=>Nat.le_trans h.fr.size (h1 b hb))
theorem RPut.post {W2:World}(h:RPut C W W' p fv fv' fl fl' vs vs')(k:Below W'.heap.size W' W2): RPut C W W2 p fv fv' fl fl' vs vs' :=
 h.trans ((RPut.refl (h.rw.below k)).pre k)
theorem RPut.notin (h:RPut C W W' p fv fv' fl fl' vs vs')(hb:b<W.heap.size)(hn:b∉rB p fv fl): b∉rB p fv' fl':=fun hm=>by
 rcases yK.1 hm with rfl | hm | ⟨v,hv,hm⟩
 ·exact hn (yK.2 (.inl rfl))
 ·rcases h.fvb b hm with k | k
  ·exact hn (yK.2 (.inr (.inl k)))
  ·omega
 ·rcases h.flb v hv with k | k
  ·exact hn (yK.2 (.inr (.inr ⟨v,k,hm⟩)))
  ·have:=k b hm; omega
theorem RPut.below (h:RPut C W W' p fv fv' fl fl' vs vs')(hn:∀ b∈rF p fv,n≤b)(hs:n≤W.heap.size): Below n W W' :=
 ⟨h.fr.os,h.fr.tape,h.fr.output,h.fr.size,fun b hb=>h.fr.block b (by omega) (fun hm=>by have:=hn b hm; omega)⟩
theorem qn {W W':World}(h:Below W.heap.size W W'){a:Addr}(hc:W.cell? a=some v): W'.cell? a=some v:=by
 have hl:a.block<W.heap.size:=by
  unfold World.cell? at hc; split at hc
  ·rename_i h1; exact (jA h1).1
  ·cases hc
 rw[World.cell?_of_block (h.block _ hl)];exact hc
theorem jN (W:World)(n:Nat): Below W.heap.size W (W.drewN n):=⟨rfl,rfl,rfl,jR _,fun _ _=>rfl⟩
theorem fr_grown {w1 w2:World}{o:Obj}{g:Nat}(h:(w1.alloc o).grownBy w2 (some g)): Fr [g] w1 w2 :=
 ⟨h.os,h.tape,h.output,by have:=h.size; simp at this; omega,fun b hb hn=>(h.block b (by simp; omega) (fun e=>hn (by cases e; simp))).trans (jE _ _ hb)⟩
theorem RW.push {g n cap g1 N c1 g2 c2:Nat}{x:Int}{w1 w2:World}(h:RW C W p (.slice (some ⟨g,0,none⟩) n cap) fl vs)(hn:x∉vs)(hx:∀ e∈exps x,(e:Int)∈vs)(hc:x∈C∨Sml x) 
 (B1:Below W.heap.size W w1) (R1:RRow w1 (.slice (some ⟨g1,0,none⟩) N c1) (pf vs x)) (O1:W.heap.size≤g1)
 (I2:w2.ownsRow 0 137 1 (.slice (some ⟨g2,0,none⟩) (vs.length+1) c2) (vs.length+1) (fl++[.slice (some ⟨g1,0,none⟩) N c1])) (F2:Fr [g] w1 w2) (A2:g=g2∨W.heap.size≤g2) :
 w2.cell? ⟨p,0,none⟩=some (.slice (some ⟨g,0,none⟩) n cap)∧w2.frozen? ⟨p,0,none⟩=false ∧
  RPut C W (w2.setCell ⟨p,0,none⟩ (.slice (some ⟨g2,0,none⟩) (vs.length+1) c2)) p (.slice (some ⟨g,0,none⟩) n cap) (.slice (some ⟨g2,0,none⟩) (vs.length+1) c2) fl (fl++[.slice (some ⟨g1,0,none⟩) N c1]) vs (vs++[x]):=by
 have hpl:=h.lt
 have hgt:∃ c,W.heap[g]? = some (.cells c 137 (0,0)):=jO h.forms rfl
 obtain⟨gc,hgc⟩:=hgt
 have hpg:p≠g:=jI h.obj hgc (by decide)
 have e1:w2.heap[p]? = some (.cells #[.slice (some ⟨g,0,none⟩) n cap] 105 (0,0)):=(F2.block p (Nat.lt_of_lt_of_le hpl B1.size) (by simpa using hpg)).trans ((B1.block p hpl).trans h.obj)
 have e2:=heap_setCell_same w2 p 0 _ 105 (.slice (some ⟨g2,0,none⟩) (vs.length+1) c2) e1
 have old:∀ b,b<W.heap.size→b≠p→b≠g→(w2.setCell ⟨p,0,none⟩ (.slice (some ⟨g2,0,none⟩) (vs.length+1) c2)).heap[b]? = W.heap[b]?:=fun b hb h1 h2 =>
  (jS _ _ _ _ (by exact h1)).trans ((F2.block b (Nat.lt_of_lt_of_le hb B1.size) (by simpa using h2)).trans (B1.block b hb))
 have hfl:=h.fl_len
 have hwv:=h.wv.push hn hx
 have hpre:vs <+: vs++[x]:=List.prefix_append _ _
 have hsz:W.heap.size≤(w2.setCell ⟨p,0,none⟩ (.slice (some ⟨g2,0,none⟩) (vs.length+1) c2)).heap.size:=by
  have:=B1.size; have:=F2.size; simp; omega
 refine⟨by rw[jB e1];rfl,jF e1 0,⟨⟨hwv,e2,?_,?_,?_,h.bnd⟩,hpre,⟨?_,?_,?_,hsz,?_⟩,?_,?_⟩⟩
 ·rw[List.length_append]
  exact jJ I2 (fun b hb=>jS _ _ _ _ (by
   show b≠p
   obtain⟨c,hc⟩:=jO I2 hb
   exact jI hc e1 (by decide)))
 ·intro i y hi
  rcases Nat.lt_or_ge i vs.length with hlt | hge
  ·rw[List.getElem?_append_left hlt] at hi
   obtain⟨v,k1,k2⟩:=h.rows i y hi
   refine⟨v,by rw[List.getElem?_append_left (by omega)];exact k1,?_⟩
   rw[pf_ext hpre h.wv (fun e he=>h.wv.mem_exps (jM hi) he)]
   exact jJ k2 (fun b hb=>by
    obtain⟨c,hc⟩:=jO k2 hb
    exact old b (jA hc).1 (jI hc h.obj (by decide)) (jI hc hgc (by decide)))
  ·rw[List.getElem?_append_right hge] at hi
   obtain⟨h0,h1⟩:=jL hi
   have hi0:i=vs.length:=by simp at h0; omega
   simp[hi0] at h1
   subst h1
   refine⟨_,by rw[List.getElem?_append_right (by omega),hfl,hi0,Nat.sub_self];rfl,?_⟩
   rw[pf_ext hpre h.wv hx]
   exact jJ R1 (fun b hb=>by
    cases hb
    obtain⟨c,hc⟩:=jO R1 rfl
    have hlt:=(jA hc).1
    have:=(jA hgc).1
    exact (jS _ _ _ _ (by show g1≠p; omega)).trans (F2.block g1 hlt (by simp; omega)))
 ·intro v hv
  rcases List.mem_append.1 hv with hv | hv
  ·exact h.cov v hv
  ·rw[List.mem_singleton] at hv; subst hv; exact hc
 ·exact F2.os.trans B1.os
 ·exact F2.tape.trans B1.tape
 ·exact F2.output.trans B1.output
 ·intro b hb hnb
  exact old b hb (fun e=>hnb (by subst e; exact List.mem_cons_self ..)) (fun e=>hnb (by subst e; unfold rF Value.ownBlock; simp))
 ·intro b hb
  cases hb
  rcases A2 with rfl | A2
  ·exact .inl rfl
  ·exact .inr A2
 ·intro v hv
  rcases List.mem_append.1 hv with hv | hv
  ·exact .inl hv
  ·rw[List.mem_singleton] at hv; subst hv
   right; intro b hb; cases hb; exact O1
end
end
section
def RSrc (W:World)(x:Value)(l:List PT): Prop:=(l=[]∧x=.slice none 0 0)∨∃ ad c,x=.slice (some ad) l.length c∧∀ (j:Nat) (u:Value),(tcells l)[j]? = some u→W.cell? (ad.add j)=some u
theorem tcells_take (l:List PT)(k:Nat): (tcells l).take (k*2)=tcells (l.take k):=by
 induction k generalizing l with
 | zero=>simp[tcells]
 | succ k ih=>cases l with
   | nil=>simp[tcells]
   | cons t l =>
     have e:tcells (t::l)=.bool t.1::.int .i64 (t.2:Nat)::tcells l:=rfl
     rw[e,show (k+1)*2=k*2+1+1 by omega,List.take_succ_cons,List.take_succ_cons,ih,List.take_succ_cons];rfl
theorem tcells_drop (l:List PT)(k:Nat): (tcells l).drop (k*2)=tcells (l.drop k):=by
 induction k generalizing l with
 | zero=>simp
 | succ k ih=>cases l with
   | nil=>simp[tcells]
   | cons t l =>
     have e:tcells (t::l)=.bool t.1::.int .i64 (t.2:Nat)::tcells l:=rfl
     rw[e,show (k+1)*2=k*2+1+1 by omega,List.drop_succ_cons,List.drop_succ_cons,ih,List.drop_succ_cons]
variable {v:Value} {l:List PT}
theorem RRow.srcs {W:World}(h:RRow W v l): ∃ a c,v=.slice a l.length c∧l.length≤c∧c≤9223372036854775807∧RSrc W v l ∧
 (a=none→l=[]∧c=0)∧∀ g,a=some g→g.spot=none∧g.off=0∧(∀ k,k≤l.length→RSrc W (.slice a k c) (l.take k)) ∧
   ∀ k,k≤l.length→RSrc W (.slice (if c=k then some g else some ⟨g.block,k*2,none⟩) (l.length - k) (c - k)) (l.drop k):=by
 obtain⟨h1,⟨rfl,h2⟩ | ⟨g,cap,cur,rfl,_,h4,h5,h6,h7,h8⟩⟩:=h
 ·have:l=[]:=List.length_eq_zero_iff.1 h2
  subst this
  exact⟨_,_,rfl,by simp,by omega,.inl ⟨rfl,rfl⟩,fun _=>⟨rfl,rfl⟩,fun g h=>by cases h⟩
 ·have hget:∀ (j:Nat) (u:Value),(tcells l)[j]? = some u→W.cell? ⟨g,j,none⟩=some u:=fun j u hu=>by
   have hj:=(jL hu).1
   rw[← h8,List.getElem?_take_of_lt (by omega),Array.getElem?_toList,← jB h4] at hu
   exact hu
  refine⟨_,_,rfl,h5,by simpa [maxLen] using h6,.inr ⟨_,_,rfl,fun j u hu=>by rw[Addr.add_lit];simpa using hget j u hu⟩,(fun h=>by cases h),fun g' hg=>?_⟩
  cases hg
  refine⟨rfl,rfl,fun k hk=>.inr ⟨⟨g,0,none⟩,cap,?_,fun j u hu=>?_⟩,fun k hk=>.inr ?_⟩
  ·rw[List.length_take,Nat.min_eq_left hk]
  ·rw[← tcells_take] at hu
   have hj:j<k*2:=by have:=(jL hu).1; rw[List.length_take] at this; omega
   rw[List.getElem?_take_of_lt hj] at hu
   rw[Addr.add_lit];simpa using hget j u hu
  ·by_cases hc:cap=k
   ·have hkl:k=l.length:=by omega
    rw[if_pos hc]
    refine⟨⟨g,0,none⟩,cap - k,by rw[List.length_drop],fun j u hu=>?_⟩
    rw[List.drop_eq_nil_of_le (by omega)] at hu
    simp[tcells] at hu
   ·rw[if_neg hc]
    refine⟨⟨g,k*2,none⟩,cap - k,by rw[List.length_drop],fun j u hu=>?_⟩
    rw[← tcells_drop,List.getElem?_drop] at hu
    rw[Addr.add_lit];exact hget _ u hu
theorem RRow.src {W:World}(h:RRow W v l): RSrc W v l:=by
 obtain⟨a,c,rfl,_,_,h1,_⟩:=h.srcs; exact h1
theorem RSrc.kept {W W':World}{x:Value}(h:RSrc W x l)(hk:∀ ad n c,x=.slice (some ad) n c→W'.heap[ad.block]? = W.heap[ad.block]?): RSrc W' x l:=by
 rcases h with h | ⟨ad,c,rfl,h⟩
 ·exact .inl h
 ·refine .inr ⟨ad,c,rfl,fun j u hu=>?_⟩
  have hb:=hk ad _ _ rfl
  have h0:=h j u hu
  have hbl:(ad.add j).block=ad.block:=by unfold Addr.add; split <;>rfl
  unfold World.cell? at h0 ⊢
  rw[hbl] at h0 ⊢
  rw[hb];exact h0
theorem cell_lt' {W:World}{a:Addr}(h:W.cell? a=some v): a.block<W.heap.size:=by
 unfold World.cell? at h
 split at h
 ·rename_i h1; exact (jA h1).1
 ·cases h
theorem RSrc.below {W W':World}{x:Value}(h:RSrc W x l)(hk:Below W.heap.size W W'): RSrc W' x l:=by
 rcases h with h | ⟨ad,c,rfl,h⟩
 ·exact .inl h
 ·cases l with
  | nil=>exact .inr ⟨ad,c,rfl,fun j u hu=>by simp[tcells] at hu⟩
  | cons t l =>
    have h0:=cell_lt' (h 0 (.bool t.1) rfl)
    have hbl:(ad.add 0).block=ad.block:=by unfold Addr.add; split <;>rfl
    rw[hbl] at h0
    exact RSrc.kept (.inr ⟨ad,c,rfl,h⟩) (fun ad' n c' e=>by cases e; exact hk.block _ h0)
theorem run_app_R {W:World}(ty:TypeId)(hown:RRow W v l)(hv:v≠.slice none 0 0)(x:Value)(l2:List PT)(hx:RSrc W x l2)(hb:l.length+l2.length≤8000000000000)(H:Nat)(hH:W.heap.size=H):
 ∃ g cap w',(Builtin.append_ #[137,137] ty #[v,x]).run Tryz.prog W=.ok (.slice (some ⟨g,0,none⟩) (l.length+l2.length) cap) w'∧RRow w' (.slice (some ⟨g,0,none⟩) (l.length+l2.length) cap) (l++l2)∧W.grownBy w' v.ownBlock∧(v.ownBlock=some g∨g=H)∧g<w'.heap.size:=by
 obtain⟨i,hi,hz0,hz1,hz2⟩:=info_parts info139
 subst hH
 rcases hx with ⟨rfl,rfl⟩ | ⟨ad,c,rfl,hcl⟩
 ·have hown':=hown
  obtain⟨h1,⟨rfl,h2⟩ | ⟨g,cap,cur,rfl,_,h4,h5,h6,h7,h8⟩⟩:=hown
  ·exact absurd rfl hv
  ·refine⟨g,cap,W,?_,by simpa using hown',World.grownBy.refl _ _,.inl rfl,(jA h4).1⟩
   simp[Builtin.append_,run_underlying un137,Go.sizeOf,Go.typeInfo,hi,Builtin.lenOf,Builtin.firstCells,h5,storeCells]
 ·obtain⟨v',w',hr,k1,k2,k3,k4⟩:=run_append_own_at (P:=Tryz.prog) W 0 137 ty 139 i _ 2 16 un137 hi hz0 hz1 hz2 rfl (by decide) v l.length (tcells l) hown ad l2.length c (tcells l2) (tcells_len _) hcl (oneT _) (by simp only[maxLen];omega) (by omega) (Nat.zero_le _)
  obtain⟨k0,⟨rfl,k5⟩ | ⟨g,cap,cur,rfl,_,h4,h5,h6,h7,h8⟩⟩:=id k1
  ·exact absurd (k3.1 rfl).1 hv
  ·refine⟨g,cap,w',hr,?_,k2,?_,(jA h4).1⟩
   ·unfold RRow; rw[List.length_append,tcells_append];exact k1
   ·rcases k4 with k4 | k4
    ·exact .inl k4.symm
    ·right; simpa [Value.ownBlock] using k4
theorem RRow.nil {W:World}{b:Nat}(h:W.heap[b]? = some (.cells #[] 139 (0,0))): RRow W (.slice (some ⟨b,0,none⟩) 0 0) []:=⟨rfl,.inr ⟨b,0,_,rfl,Nat.zero_le _,h,jR _,by decide,rfl,rfl⟩⟩
theorem qO {a:Addr}{n c:Nat}: Value.slice (some a) n c≠.slice none 0 0:=fun e=>by cases e
section
variable {ops:Array Oper} {rest:List Oper} {o:Oper} {a:Act} {Q:Exit→Act→World→Prop} {K:Act→World→Prop} {W:World} {E:Prop}
theorem wp_app_R (s x:Operand)(ho:o.op=.call { callee:=.builtin .append,args:=#[s,x],argTypes:=#[137,137] }) 
 (v:Value) (l:List PT) (hs:a.eval s=v) (hown:RRow W v l) (hv:v≠.slice none 0 0) (xv:Value) (l2:List PT) (hx:a.eval x=xv) (hsrc:RSrc W xv l2) (n:Nat) (hn:l.length+l2.length=n) (L:List PT) (hL:l++l2=L) (hb:n≤8000000000000) (H:Nat) (hH:W.heap.size=H)
 (h:∀ g cap w',RRow w' (.slice (some ⟨g,0,none⟩) n cap) L→W.grownBy w' v.ownBlock→(v.ownBlock=some g∨g=H)→g<w'.heap.size→K (a.put o.dst (.slice (some ⟨g,0,none⟩) n cap)) w'):o.wp Tryz.prog a W K Q:=by
 subst hn hL
 obtain⟨g,cap,w',hr,h2,h3,h4,h5⟩:=run_app_R o.type hown hv xv l2 hsrc hb H hH
 unfold Oper.wp execOp
 simp only[ho,resolve,invoke,builtin,Sem.run_bind,Sem.run_pure,Result.andThen_ok,List.map_toArray,List.map_cons,List.map_nil,hs,hx,hr]
 exact h g cap w' h2 h3 h4 h5
theorem app_R (hgd:o.guard=none)(s x:Operand)(ho:o.op=.call { callee:=.builtin .append,args:=#[s,x],argTypes:=#[137,137] }) 
 (v:Value) (l:List PT) (hs:a.eval s=v) (hown:RRow W v l) (hv:v≠.slice none 0 0) (xv:Value) (l2:List PT) (hx:a.eval x=xv) (hsrc:RSrc W xv l2) (n:Nat) (hn:l.length+l2.length=n) (L:List PT) (hL:l++l2=L) (hb:n≤8000000000000) (H:Nat) (hH:W.heap.size=H)
 (h:∀ g cap w',RRow w' (.slice (some ⟨g,0,none⟩) n cap) L→W.grownBy w' v.ownBlock→(v.ownBlock=some g∨g=H)→g<w'.heap.size→wpList Tryz.prog ops Q rest (a.put o.dst (.slice (some ⟨g,0,none⟩) n cap)) w'):wpList Tryz.prog ops Q (o::rest) a W :=
 wpList_plain hgd fun _ hK=>wp_app_R s x ho v l hs hown hv xv l2 hx hsrc n hn L hL hb H hH fun g cap w' h2 h3 h4 h5=>hK _ _ (h g cap w' h2 h3 h4 h5)
theorem zj (hgd:o.guard=none)(s x:Operand)(ho:o.op=.call { callee:=.builtin .append,args:=#[s,x],argTypes:=#[137,137] }) 
 (v:Value) (l:List PT) (hs:a.eval s=v) (hown:RRow W v l) (hv:v≠.slice none 0 0) (xv:Value) (l2:List PT) (hx:a.eval x=xv) (hsrc:RSrc W xv l2) (n:Nat) (hn:l.length+l2.length=n) (L:List PT) (hL:l++l2=L) (hb:n≤8000000000000) (H:Nat) (hH:W.heap.size=H)
 (h:∀ g cap w',RRow w' (.slice (some ⟨g,0,none⟩) n cap) L→W.grownBy w' v.ownBlock→(v.ownBlock=some g∨g=H)→g<w'.heap.size→K (a.put o.dst (.slice (some ⟨g,0,none⟩) n cap)) w') :
 if Region.wanted o (yielded ops a.tmps)=true then Oper.wp Tryz.prog o a W K Q else E:=by
 rw[show Region.wanted o (yielded ops a.tmps)=true by simp[Region.wanted,hgd]]
 exact wp_app_R s x ho v l hs hown hv xv l2 hx hsrc n hn L hL hb H hH h
theorem step_RF (hgd:o.guard=none)(s x:Operand)(ho:o.op=.call { callee:=.builtin .append,args:=#[s,x],argTypes:=#[103,103] }) 
 (v:Value) (n:Nat) (l:List Value) (hs:a.eval s=v) (hown:W.ownsRow 0 137 1 v n l) (B:Nat) (t:Value) (h1:t.oneCell'=true) (hx:a.eval x=.slice (some ⟨B,0,none⟩) 1 1)
 (hB:W.heap[B]? = some (.cells #[t] 137 (0,0))) (hb:n+1≤5800000000000) (H:Nat) (hH:W.heap.size=H)
 (h:∀ g cap w',w'.ownsRow 0 137 1 (.slice (some ⟨g,0,none⟩) (n+1) cap) (n+1) (l++[t])→W.grownBy w' v.ownBlock→(v.ownBlock=some g∨g=H)→g<w'.heap.size→K (a.put o.dst (.slice (some ⟨g,0,none⟩) (n+1) cap)) w') :
 if Region.wanted o (yielded ops a.tmps)=true then Oper.wp Tryz.prog o a W K Q else E:=by
 obtain⟨i,hi,hz0,hz1,hz2⟩:=info_parts info137
 refine step_append_lies W hgd s x 103 ho 0 137 i _ 1 24 un103 hi hz0 hz1 hz2 rfl (by decide) v n _ hs hown ⟨B,0,none⟩ 1 1 [t] hx rfl (fun j u hu=>World.news_of_block hB j u hu) (by simpa using h1) (by omega) (by simp only[maxLen];omega) (by omega) (Nat.zero_le _) H hH ?_
 intro g cap w' k1 k2 k3 k4
 exact h g cap w' k1 k2 k3 k4
end
end
end Sr

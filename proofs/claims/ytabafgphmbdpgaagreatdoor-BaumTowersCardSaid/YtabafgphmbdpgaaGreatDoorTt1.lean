/- Texts of this claim, joined: TwC, TwS, TwE, InvL, TwR. -/
import Derived.Test.YtabafgphmbdpgaaGreatDoorTe1
import Derived.Test.YtabafgphmbdpgaaGreatDoorTe22
import Derived.Test.YtabafgphmbdpgaaGreatDoorTe17
import Derived.Test.YtabafgphmbdpgaaGreatDoorTe30
import Derived.Test.YtabafgphmbdpgaaGreatDoorTe25
import Derived.Test.YtabafgphmbdpgaaGreatDoorTe29
import Derived.Test.YtabafgphmbdpgaaGreatDoorTe26
set_option maxHeartbeats 8000000
set_option maxRecDepth 100000
namespace Sr
theorem tv_le {t:Tm}{m:Nat}(h:t.2≤m): tv t≤2 ^ m∧-(2 ^ m:Int)≤tv t:=by
 have h1:=q7 h
 have h2:=jk t.2
 unfold tv; split <;>omega
theorem lv_abs:∀ (l:List Tm) (m:Nat),(∀ t∈l,t.2≤m)→lv l≤l.length*2 ^ m∧-(l.length*2 ^ m:Int)≤lv l
 | [],m,_=>by simp[lv]
 | t::l,m,h=>by
   have h1:=lv_abs l m (fun t ht=>h t (by simp[ht]))
   have h2:=tv_le (h t (by simp))
   have e:(((t::l).length:Nat):Int)*2 ^ m=l.length*2 ^ m+2 ^ m:=by
    rw[List.length_cons,Int.natCast_add,Int.add_mul];simp
   rw[lv,e];omega
theorem lv_mul:∀ (l:List Tm) (q:Nat),(∀ t∈l,q≤t.2)→lv l=lv (l.map fun t=>(t.1,t.2 - q))*2 ^ q
 | [],q,_=>by simp[lv]
 | t::l,q,h=>by
   have h1:=lv_mul l q (fun t ht=>h t (by simp[ht]))
   have hq:=h t (by simp)
   have e:(2:Int) ^ t.2=2 ^ (t.2 - q)*2 ^ q:=by rw[← Int.pow_add];congr 1; omega
   rw[List.map_cons,lv,lv,h1,Int.add_mul]
   congr 1
   obtain⟨b,k⟩:=t
   cases b
   ·simp only[tv];simpa using e
   ·simp only[tv]
    dsimp only at e
    rw[if_pos trivial,if_pos trivial,e,Int.neg_mul]
theorem form_shift (x:Int)(q:Nat): form (x*2 ^ q)=(form x).map fun t=>(t.1,t.2+q):=by
 refine zS ?_ ?_
 ·unfold Naf
  rw[List.pairwise_map]
  exact (jb x).imp fun h=>by simp only; omega
 ·rw[lv_mul _ q (fun t ht=>by obtain⟨u,_,rfl⟩:=List.mem_map.1 ht; simp only; omega),List.map_map]
  have e:((form x).map ((fun t:Tm=>(t.1,t.2 - q)) ∘ fun t:Tm=>(t.1,t.2+q)))=form x:=by
   conv=>rhs; rw[← List.map_id (form x)]
   refine List.map_congr_left fun t _=>?_
   simp
  rw[e,jc]
theorem cluster {l:List Tm}{d:Nat}(hd:3*l.length≤2 ^ d){q:Nat}(hq:q∈exps (lv l)): ∃ t∈l,t.2≤q∧q<t.2+d:=by
 apply Classical.byContradiction
 intro hno
 have hc:∀ t∈l,t.2≤q→t.2+d≤q:=fun t ht h=>by
  apply Classical.byContradiction
  intro h2
  exact hno ⟨t,ht,h,by omega⟩
 let p:Tm→Bool:=fun t=>decide (t.2≤q)
 have hsp:=lv_filter p l
 obtain⟨L,hL⟩:∃ L,L=lv (l.filter p):=⟨_,rfl⟩
 obtain⟨H,hH⟩:∃ H,lv (l.filter (fun t=>!p t))=H*2 ^ (q+1):=⟨_,lv_mul _ (q+1) (fun t ht=>by
  have:=(List.mem_filter.1 ht).2
  simp[p] at this; omega)⟩
 rw[← hL,hH] at hsp
 have hlow:∀ t∈form L,t.2+1≤q:=by
  by_cases h0:l.filter p=[]
  ·intro t ht
   rw[hL,h0] at ht
   simp[lv,j5] at ht
  ·obtain⟨t0,ht0⟩:=List.exists_mem_of_ne_nil _ h0
   have hd0:d≤q:=by
    have h1:=List.mem_filter.1 ht0
    have h2:=hc t0 h1.1 (by have:=h1.2; simp[p] at this; exact this)
    omega
   have hab:=lv_abs (l.filter p) (q - d) (fun t ht=>by
    have h1:=List.mem_filter.1 ht
    have h2:=hc t h1.1 (by have:=h1.2; simp[p] at this; exact this)
    omega)
   rw[← hL] at hab
   have hlen:(l.filter p).length≤l.length:=List.length_filter_le _ _
   have e1:(2:Int) ^ q=2 ^ d*2 ^ (q - d):=by rw[← Int.pow_add];congr 1; omega
   have h3:(3*((l.filter p).length:Int))*2 ^ (q - d)≤2 ^ d*2 ^ (q - d):=by
    refine Int.mul_le_mul_of_nonneg_right ?_ (Int.le_of_lt (jk _))
    have h4:((3*l.length:Nat):Int)≤((2 ^ d:Nat):Int):=Int.ofNat_le.2 hd
    have h5:((2 ^ d:Nat):Int)=(2:Int) ^ d:=by rw[Int.natCast_pow];rfl
    omega
   rw[← e1,Int.mul_assoc] at h3
   have hpos:=jk q
   rcases Nat.eq_zero_or_pos q with hq0 | hq0
   ·subst hq0
    have:L=0:=by simp at h3 hab; omega
    intro t ht
    rw[this,j5] at ht; cases ht
   ·have e2:(2:Int) ^ q=2*2 ^ (q - 1):=by rw[← jZ];congr 1; omega
    have hp1:=jk (q - 1)
    intro t ht
    have:=yi (x:=L) (m:=q - 1) (by omega) (by omega) t ht
    omega
 have hhi:∀ t∈form (H*2 ^ (q+1)),q+1≤t.2:=fun t ht=>by
  rw[form_shift] at ht
  obtain⟨u,_,rfl⟩:=List.mem_map.1 ht
  simp only; omega
 have hf:form (lv l)=form (H*2 ^ (q+1))++form L:=by
  refine zS ?_ ?_
  ·unfold Naf
   exact List.pairwise_append.2 ⟨jb _,jb _,fun a ha b hb=>by have:=hhi a ha; have:=hlow b hb; omega⟩
  ·rw[qI,jc,jc];omega
 unfold exps at hq
 rw[hf] at hq
 obtain⟨t,ht,rfl⟩:=List.mem_map.1 hq
 rcases List.mem_append.1 ht with h | h
 ·have:=hhi t h; omega
 ·have:=hlow t h; omega
section
def Sg:List Int→Rat→Prop
 | [],x=>x=0
 | s::S,x=>Sg S x∨Sg S (x - tp s)∨Sg S (x+tp s)
theorem Sg.zero:∀ S:List Int,Sg S 0
 | []=>rfl
 | _::S=>.inl (Sg.zero S)
theorem Sg.neg:∀ {S:List Int} {x:Rat},Sg S x→Sg S (-x)
 | [],x,h=>by
   unfold Sg at *
   rw[h];rfl
 | s::S,x,h=>by
   rcases h with h | h | h
   ·exact .inl (Sg.neg h)
   ·exact .inr (.inr (by have:=Sg.neg h; rwa [show -(x - tp s) = -x+tp s by grind] at this))
   ·exact .inr (.inl (by have:=Sg.neg h; rwa [show -(x+tp s) = -x - tp s by grind] at this))
theorem Sg.app:∀ {S T:List Int} {x y:Rat},Sg S x→Sg T y→Sg (S++T) (x+y)
 | [],T,x,y,h,k=>by
   unfold Sg at h
   subst h
   rw[Rat.zero_add];exact k
 | s::S,T,x,y,h,k=>by
   rcases h with h | h | h
   ·exact .inl (Sg.app h k)
   ·exact .inr (.inl (by have:=Sg.app h k; rwa [show x - tp s+y=x+y - tp s by grind] at this))
   ·exact .inr (.inr (by have:=Sg.app h k; rwa [show x+tp s+y=x+y+tp s by grind] at this))
variable {S T:List Int} {x z:Int} {q n:Nat}
theorem Sg.left {x:Rat}(h:Sg S x)(T:List Int): Sg (S++T) x:=by have:=h.app (Sg.zero T);rwa [Rat.add_zero] at this
theorem Sg.right {x:Rat}(h:Sg T x)(S:List Int): Sg (S++T) x:=by have:=(Sg.zero S).app h; rwa [Rat.zero_add] at this
theorem Sg.shift (m:Int): ∀ {S:List Int} {x:Rat},Sg S x→Sg (S.map (·+m)) (x*tp m)
 | [],x,h=>by
   unfold Sg at *
   rw[h,Rat.zero_mul];rfl
 | s::S,x,h=>by
   rw[List.map_cons]
   have e:=yc s m
   rcases h with h | h | h
   ·exact .inl (Sg.shift m h)
   ·exact .inr (.inl (by have:=Sg.shift m h; rwa [show (x - tp s)*tp m=x*tp m - tp (s+m) by rw[e];grind] at this))
   ·exact .inr (.inr (by have:=Sg.shift m h; rwa [show (x+tp s)*tp m=x*tp m+tp (s+m) by rw[e];grind] at this))
theorem Sg.lv:∀ {S:List Int} {x:Int},(∀ s∈S,0≤s)→Sg S (x:Rat)→∃ l:List Tm,Sr.lv l=x∧l.length≤S.length∧∀ t∈l,(t.2:Int)∈S
 | [],x,_,h=>by
   unfold Sg at h
   have h0:x=0:=by exact_mod_cast h
   exact⟨[],by rw[h0];rfl,jR _,fun t ht=>by cases ht⟩
 | s::S,x,hs,h=>by
   obtain⟨k,rfl⟩:∃ k:Nat,s=(k:Int):=⟨s.toNat,by have:=hs s (by simp);omega⟩
   have hs':∀ s∈S,0≤s:=fun s h=>hs s (by simp[h])
   rcases h with h | h | h
   ·obtain⟨l,h1,h2,h3⟩:=Sg.lv hs' h
    exact⟨l,h1,by simp; omega,fun t ht=>by simp[h3 t ht]⟩
   ·obtain⟨l,h1,h2,h3⟩:=Sg.lv (x:=x - 2 ^ k) hs' (by rw[Rat.intCast_sub,← tp_nat];exact h)
    refine⟨(false,k)::l,by rw[Sr.lv,h1];simp only[tv];simp; omega,by simp; omega,fun t ht=>?_⟩
    rcases List.mem_cons.1 ht with rfl | ht
    ·simp
    ·simp[h3 t ht]
   ·obtain⟨l,h1,h2,h3⟩:=Sg.lv (x:=x+2 ^ k) hs' (by rw[Rat.intCast_add,← tp_nat];exact h)
    refine⟨(true,k)::l,by rw[Sr.lv,h1];simp only[tv];simp; omega,by simp; omega,fun t ht=>?_⟩
    rcases List.mem_cons.1 ht with rfl | ht
    ·simp
    ·simp[h3 t ht]
theorem lift_nn:∀ S:List Int,∃ N:Nat,∀ s∈S,0≤s+N
 | []=>⟨0,fun s h=>by cases h⟩
 | s::S=>by
   obtain⟨N,h⟩:=lift_nn S
   refine⟨N+s.natAbs,fun t ht=>?_⟩
   rcases List.mem_cons.1 ht with rfl | ht
   ·omega
   ·have:=h t ht; omega
theorem Sg.lift (h:Sg S (x:Rat)): ∃ (N:Nat) (l:List Tm),Sr.lv l=x*2 ^ N∧l.length≤S.length∧∀ t∈l,∃ s∈S,(t.2:Int)=s+N:=by
 obtain⟨N,hN⟩:=lift_nn S
 have h1:=h.shift N
 rw[tp_nat,← Rat.intCast_mul] at h1
 obtain⟨l,h2,h3,h4⟩:=Sg.lv (fun s hs=>by
  obtain⟨u,hu,rfl⟩:=List.mem_map.1 hs
  exact hN u hu) h1
 refine⟨N,l,h2,by simpa using h3,fun t ht=>?_⟩
 obtain⟨u,hu,e⟩:=List.mem_map.1 (h4 t ht)
 exact⟨u,hu,e.symm⟩
theorem Sg.near (h:Sg S (x:Rat)){d:Nat}(hd:3*S.length≤2 ^ d)(hq:q∈exps x): ∃ s∈S,s≤(q:Int)∧(q:Int)<s+d:=by
 obtain⟨N,l,h1,h2,h3⟩:=h.lift
 have hm:q+N∈exps (Sr.lv l):=by
  rw[h1]
  unfold exps at hq ⊢
  rw[form_shift,List.map_map]
  obtain⟨t,ht,rfl⟩:=List.mem_map.1 hq
  exact List.mem_map.2 ⟨t,ht,rfl⟩
 obtain⟨t,ht,h4,h5⟩:=cluster (d:=d) (by omega) hm
 obtain⟨s,hs,e⟩:=h3 t ht
 exact⟨s,hs,by omega,by omega⟩
theorem lvl_len:∀ (l:List Tm) (x:Int),(form (x+Sr.lv l)).length≤(form x).length+l.length
 | [],x=>by simp[Sr.lv]
 | t::l,x=>by
   obtain⟨s,e⟩:=t
   have h1:=plus_len x s e
   have h2:=lvl_len l (x+tv (s,e))
   rw[Sr.lv,show x+(tv (s,e)+Sr.lv l)=x+tv (s,e)+Sr.lv l by omega]
   simp only[List.length_cons];omega
theorem Sg.len (h:Sg S (x:Rat)): (form x).length≤S.length:=by
 obtain⟨N,l,h1,h2,_⟩:=h.lift
 have h3:=lvl_len l 0
 rw[Int.zero_add,h1,form_shift,List.length_map,j5] at h3
 simp at h3; omega
def rng:Nat→List Int
 | 0=>[]
 | k+1=>(k:Int)::rng k
theorem rng_len:∀ k,(rng k).length=k
 | 0=>rfl
 | k+1=>by simp[rng,rng_len k]
theorem rng_mem:∀ {k:Nat} {u:Int},u∈rng k→0≤u∧u<k
 | 0,u,h=>by simp[rng] at h
 | k+1,u,h=>by
   rcases List.mem_cons.1 h with rfl | h
   ·omega
   ·have:=rng_mem h; omega
theorem sg_small:∀ (k:Nat) (j:Int),-(2 ^ k:Int)<j→j<2 ^ k→Sg (rng k) (j:Rat)
 | 0,j,h1,h2=>by
   have:j=0:=by simp at h1 h2; omega
   subst this; rfl
 | k+1,j,h1,h2=>by
   rw[jZ] at h1 h2
   by_cases a:j<2 ^ k
   ·by_cases b:-(2 ^ k:Int)<j
    ·exact .inl (sg_small k j b a)
    ·refine .inr (.inr ?_)
     have:=sg_small k (j+2 ^ k) (by have:=jk k; omega) (by have:=jk k; omega)
     rwa [Rat.intCast_add,← tp_nat] at this
   ·refine .inr (.inl ?_)
    have:=sg_small k (j - 2 ^ k) (by have:=jk k; omega) (by have:=jk k; omega)
    rwa [Rat.intCast_sub,← tp_nat] at this
def Lay:List Int→List (List Int)→Prop
 | S,[]=>∀ s∈S,s=0
 | S,T::R=>(∀ s∈S,Sg T (s:Rat))∧Lay T R
def zap:List (List Int)→List (List Int)→List (List Int)
 | [],R=>R
 | a::R,[]=>a::R
 | a::R,b::R'=>(a++b)::zap R R'
theorem Lay.app:∀ {R R':List (List Int)} {S S':List Int},Lay S R→Lay S' R'→Lay (S++S') (zap R R')
 | [],[],S,S',h,h'=>fun s hs=>(List.mem_append.1 hs).elim (h s) (h' s)
 | [],T'::R',S,S',h,h'=>⟨fun s hs=>by
  rcases List.mem_append.1 hs with hs | hs
  ·rw[h s hs];exact Sg.zero _
  ·exact h'.1 s hs,h'.2⟩
 | T::R,[],S,S',h,h'=>⟨fun s hs=>by
  rcases List.mem_append.1 hs with hs | hs
  ·exact h.1 s hs
  ·rw[h' s hs];exact Sg.zero _,h.2⟩
 | T::R,T'::R',S,S',h,h'=>⟨fun s hs=>by
  rcases List.mem_append.1 hs with hs | hs
  ·exact (h.1 s hs).left T'
  ·exact (h'.1 s hs).right T,Lay.app h.2 h'.2⟩
def siz (R:List (List Int)): Nat:=(R.map List.length).sum
theorem siz_zap:∀ R R':List (List Int),siz (zap R R')=siz R+siz R'
 | [],R=>by simp[zap,siz]
 | a::R,[]=>by simp[zap,siz]
 | a::R,b::R'=>by
   have:=siz_zap R R'
   simp only[siz,zap,List.map_cons,List.sum_cons,List.length_append] at *;omega
theorem zap_len {n:Nat}: ∀ {R R':List (List Int)},R.length≤n→R'.length≤n→(zap R R').length≤n
 | [],R,_,h=>h
 | a::R,[],h,_=>h
 | a::R,b::R',h,h'=>by
   cases n with
   | zero=>simp at h
   | succ n =>
     have:=zap_len (n:=n) (R:=R) (R':=R') (by simpa using h) (by simpa using h')
     simp[zap];exact this
theorem siz_mem {R:List (List Int)}(h:T∈R): T.length≤siz R:=by
 induction R with
 | nil=>cases h
 | cons a R ih =>
   simp only[siz,List.map_cons,List.sum_cons] at *
   rcases List.mem_cons.1 h with rfl | h
   ·omega
   ·have:=ih h; omega
def Cl (L:List (List Int)): List Nat:=L.flatMap fun S=>S.flatMap fun (s:Int)=>(List.range 10).map fun (j:Nat)=>(s+(j:Int)).toNat
theorem mem_Cl {L:List (List Int)}: q∈Cl L↔∃ S∈L,∃ s∈S,∃ j:Nat,j<10∧(s+j).toNat=q:=by
 unfold Cl
 simp only[List.mem_flatMap,List.mem_map,List.mem_range]
theorem Cl_len:∀ L:List (List Int),(Cl L).length=10*siz L
 | []=>by simp[Cl,siz]
 | S::L=>by
   have h1:=Cl_len L
   have h2:∀ S:List Int,(S.flatMap fun (s:Int)=>(List.range 10).map fun (j:Nat)=>(s+(j:Int)).toNat).length=10*S.length:=fun S=>by
    induction S with
    | nil=>simp
    | cons s S ih=>rw[List.flatMap_cons,List.length_append,ih];simp; omega
   unfold Cl at *
   rw[List.flatMap_cons,List.length_append,h1,h2]
   simp only[siz,List.map_cons,List.sum_cons];omega
def N2 (S:List Int)(n:Nat)(z:Int): Prop:=∃ U:List Int,Sg U (z:Rat)∧U.length≤n∧∀ u∈U,u∈S∨(0≤u∧u≤20)
theorem N2.of (h:Sg S (z:Rat))(hn:S.length≤n): N2 S n z:=⟨S,h,hn,fun _ hu=>.inl hu⟩
theorem N2.small (S:List Int){j:Int}(h1:-16<j)(h2:j<16): N2 S 4 j:=⟨rng 4,sg_small 4 j (by omega) (by omega),by rw[rng_len];omega,fun u hu=>.inr (by have:=rng_mem hu; omega)⟩
theorem N2.neg {S:List Int}{n:Nat}{z:Int}(h:N2 S n z): N2 S n (-z):=by
 obtain⟨U,h1,h2⟩:=h
 exact⟨U,by rw[Rat.intCast_neg];exact h1.neg,h2⟩
theorem N2.add {k m:Nat}{y:Int}(h:N2 S n z)(h':N2 S k y)(hm:n+k≤m): N2 S m (z+y):=by
 obtain⟨U,h1,h2,h3⟩:=h
 obtain⟨V,k1,k2,k3⟩:=h'
 refine⟨U++V,by rw[Rat.intCast_add];exact h1.app k1,by rw[List.length_append];omega,fun u hu=>?_⟩
 rcases List.mem_append.1 hu with hu | hu
 ·exact h3 u hu
 ·exact k3 u hu
theorem N2.mono {S':List Int}{m:Nat}(h:N2 S n z)(hS:∀ s∈S,s∈S')(hm:n≤m): N2 S' m z:=by
 obtain⟨U,h1,h2,h3⟩:=h
 exact⟨U,h1,Nat.le_trans h2 hm,fun u hu=>(h3 u hu).imp (hS u) id⟩
theorem small_h (h:q≤64): (∀ e∈exps (q:Int),e≤64)∧(form (q:Int)).length≤300∧height (q:Int)≤11:=by
 have h1:∀ e∈exps (q:Int),e≤10:=fun e he=>small_exp (by omega) he
 refine⟨fun e he=>by have:=h1 e he; omega,?_,height_step fun e he=>height_le 10 _ (by have:=h1 e he; omega)⟩
 have:=yW (jb (q:Int)) (m:=10) (fun t ht=>h1 _ (mem_exps ht))
 omega
theorem N2.exps {S:List Int}{n:Nat}{z:Int}(h:N2 S n z)(hn:n≤300){e:Nat}(he:e∈Sr.exps z): (∃ s∈S,∃ j:Nat,j<10∧(s+j).toNat=e)∨e≤64:=by
 obtain⟨U,h1,h2,h3⟩:=h
 obtain⟨u,hu,a,b⟩:=h1.near (d:=10) (by omega) he
 rcases h3 u hu with h | h
 ·exact .inl ⟨u,h,((e:Int) - u).toNat,by omega,by omega⟩
 ·exact .inr (by omega)
theorem near_N2 {s:Int}{j:Nat}(hs:Sg T (s:Rat))(hj:j<10)(hq:(s+j).toNat=q)(hT:T.length≤190): N2 T 194 (q:Int)∨q≤64:=by
 by_cases h0:s+j<0
 ·exact .inr (by omega)
 ·have e:(q:Int)=s+j:=by omega
  rw[e]
  exact .inl ((N2.of hs hT).add (N2.small T (by omega) (by omega)) (by omega))
theorem cl_height:∀ {R:List (List Int)} {S:List Int},Lay S R→siz R≤190→∀ s∈S,∀ (j:Nat),j<10→height (((s+j).toNat:Nat):Int)≤R.length+12
 | [],S,h,_,s,hs,j,hj=>by
   have:=h s hs
   subst this
   have:=(small_h (q:=((0:Int)+j).toNat) (by omega)).2.2
   simp only[List.length_nil];omega
 | T::R,S,h,hz,s,hs,j,hj=>by
   have hT:T.length≤190:=Nat.le_trans (siz_mem (by simp)) hz
   rcases near_N2 (h.1 s hs) hj rfl hT with h1 | h1
   ·refine Nat.le_trans (height_step (n:=R.length+12) fun e he=>?_) (by simp)
    rcases h1.exps (by omega) he with ⟨s',hs',j',hj',rfl⟩ | h2
    ·exact cl_height h.2 (by simp only[siz,List.map_cons,List.sum_cons] at hz ⊢;omega) s' hs' j' hj'
    ·have:=(small_h h2).2.2; omega
   ·have:=(small_h h1).2.2; omega
theorem Lay.mem:∀ {R:List (List Int)} {S T:List Int},Lay S R→T∈S::R→∀ s∈T,s=0∨∃ T'∈R,Sg T' (s:Rat)
 | [],S,T,h,hT,s,hs=>by
   obtain rfl:T=S:=by simpa using hT
   exact .inl (h s hs)
 | T0::R,S,T,h,hT,s,hs=>by
   rcases List.mem_cons.1 hT with rfl | hT
   ·exact .inr ⟨T0,by simp,h.1 s hs⟩
   ·rcases Lay.mem h.2 hT s hs with h1 | ⟨T',h1,h2⟩
    ·exact .inl h1
    ·exact .inr ⟨T',by simp[h1],h2⟩
theorem cl_closed {R:List (List Int)}(h:Lay S R)(hz:siz (S::R)≤190)(hq:q∈Cl (S::R)∨q≤64): (∀ e∈exps (q:Int),e∈Cl (S::R)∨e≤64)∧(form (q:Int)).length≤300:=by
 have hsm:q≤64→(∀ e∈exps (q:Int),e∈Cl (S::R)∨e≤64)∧(form (q:Int)).length≤300:=fun h=>⟨fun e he=>.inr ((small_h h).1 e he),(small_h h).2.1⟩
 rcases hq with hq | hq
 ·obtain⟨T,hT,s,hs,j,hj,e⟩:=mem_Cl.1 hq
  rcases h.mem hT s hs with h0 | ⟨T',hT',h1⟩
  ·exact hsm (by omega)
  ·have hTl:T'.length≤190:=Nat.le_trans (siz_mem (List.mem_cons_of_mem _ hT')) hz
   rcases near_N2 h1 hj e hTl with h2 | h2
   ·refine⟨fun e he=>?_,?_⟩
    ·rcases h2.exps (by omega) he with ⟨s',hs',j',hj',k⟩ | h3
     ·exact .inl (mem_Cl.2 ⟨T',List.mem_cons_of_mem _ hT',s',hs',j',hj',k⟩)
     ·exact .inr h3
    ·obtain⟨U,k1,k2,_⟩:=h2
     exact Nat.le_trans k1.len (by omega)
   ·exact hsm h2
 ·exact hsm hq
theorem cl_parts {R:List (List Int)}(h:Lay S R)(hz:siz (S::R)≤190){p:Nat}(hq:q∈Cl (S::R)∨q≤64)(hp:IsPart (q:Int) p): p∈Cl (S::R)∨p≤64:=by
 obtain⟨n,hn⟩:∃ n,q=n:=⟨_,rfl⟩
 induction n using Nat.strongRecOn generalizing q with
 | _ n ih =>
   obtain⟨e,he,h1⟩:=hp.cases_top
   have h2:=(cl_closed h hz hq).1 e he
   rcases h1 with rfl | h1
   ·exact h2
   ·have:=qz he
    exact ih e (by omega) h2 h1 rfl
theorem parts_of {R:List (List Int)}(h:Lay S R)(hz:siz (S::R)≤190){p:Nat}(hq:∀ e∈exps z,e∈Cl (S::R)∨e≤64)(hp:p∈parts z): p∈Cl (S::R)∨p≤64:=by
 obtain⟨e,he,h1⟩:=(mem_parts.1 hp).cases_top
 rcases h1 with rfl | h1
 ·exact hq _ he
 ·exact cl_parts h hz (hq e he) h1
theorem N2.cl {R:List (List Int)}(h2:N2 S n z)(hn:n≤300): ∀ e∈Sr.exps z,e∈Cl (S::R)∨e≤64:=fun e he=>by
 rcases h2.exps hn he with ⟨s,hs,j,hj,k⟩ | k
 ·exact .inl (mem_Cl.2 ⟨S,by simp,s,hs,j,hj,k⟩)
 ·exact .inr k
theorem N2.height {R:List (List Int)}{S:List Int}{n:Nat}{z:Int}(h:Lay S R)(hz:siz R≤190)(h2:N2 S n z)(hn:n≤300): Sr.height z≤R.length+13 :=
 height_step fun e he=>by
  rcases h2.exps hn he with ⟨s,hs,j,hj,rfl⟩ | k
  ·exact cl_height h hz s hs j hj
  ·have:=(small_h k).2.2; omega
theorem N2.allowed {R:List (List Int)}{S:List Int}{n:Nat}{z:Int}(h:Lay S R)(hz:siz (S::R)≤150)(hR:R.length≤80)(h2:N2 S n z)(hn:n≤300): Sr.allowed z:=by
 have hcl:=h2.cl (R:=R) hn
 have hsz:siz R≤150:=by simp only[siz,List.map_cons,List.sum_cons] at hz ⊢;omega
 refine⟨?_,fun p hp=>(cl_closed h (by omega) (parts_of h (by omega) hcl hp)).2,?_,?_⟩
 ·obtain⟨U,k1,k2,_⟩:=h2
  exact Nat.le_trans k1.len (by omega)
 ·have:=jT (parts z) (Cl (S::R)++List.range 65) (qE z) (fun p hp=>by
   rcases parts_of h (by omega) hcl hp with k | k
   ·exact List.mem_append.2 (.inl k)
   ·exact List.mem_append.2 (.inr (List.mem_range.2 (by omega))))
  rw[List.length_append,Cl_len,List.length_range] at this
  omega
 ·have:=h2.height h (by omega) hn; omega
theorem N1.allowed {R:List (List Int)}{S P:List Int}{z:Int}(h:Lay S R)(hz:siz (S::R)≤150)(hR:R.length≤80)(h1:Sg P (z:Rat))(hP:P.length≤160)(h2:∀ p∈P,N2 S 296 p): Sr.allowed z:=by
 have hsz:siz R≤150:=by simp only[siz,List.map_cons,List.sum_cons] at hz ⊢;omega
 have he2:∀ e∈exps z,N2 S 300 (e:Int):=fun e he=>by
  obtain⟨u,hu,a,b⟩:=h1.near (d:=10) (by omega) he
  have e1:(e:Int)=u+((e:Int) - u):=by omega
  rw[e1]
  exact (h2 u hu).add (N2.small S (by omega) (by omega)) (by omega)
 have hpt:∀ p∈parts z,p∈exps z∨(p∈Cl (S::R)∨p≤64):=fun p hp=>by
  obtain⟨e,he,k⟩:=(mem_parts.1 hp).cases_top
  rcases k with rfl | k
  ·exact .inl he
  ·exact .inr (parts_of h (by omega) ((he2 e he).cl (jR _)) (mem_parts.2 k))
 have hlen:(form z).length≤160:=Nat.le_trans h1.len hP
 refine⟨by omega,fun p hp=>?_,?_,?_⟩
 ·rcases hpt p hp with k | k
  ·obtain⟨U,k1,k2,_⟩:=he2 p k
   exact Nat.le_trans k1.len k2
  ·exact (cl_closed h (by omega) k).2
 ·have:=jT (parts z) (exps z++(Cl (S::R)++List.range 65)) (qE z) (fun p hp=>by
   rcases hpt p hp with k | k | k
   ·exact List.mem_append.2 (.inl k)
   ·exact List.mem_append.2 (.inr (List.mem_append.2 (.inl k)))
   ·exact List.mem_append.2 (.inr (List.mem_append.2 (.inr (List.mem_range.2 (by omega))))))
  rw[List.length_append,List.length_append,Cl_len,List.length_range,js] at this
  omega
 ·have:=height_step (x:=z) (n:=R.length+13) fun e he=>(he2 e he).height h (by omega) (jR _)
  omega
end
section
structure EL (P S:List Int)(R:List (List Int))(g:E3): Prop where
 q:Sg P (tq g)
 m:Sg S (g.m:Rat)
 e:∀ p∈P,Sg S (p:Rat)
 l:Lay S R
 pl:Plain g
variable {u M:Int} {o:List UInt8} {A:Nat}
section
variable {P S P' S':List Int} {R R':List (List Int)} {x y g h:E3}
theorem tq_zero2:tq Zero=0:=by unfold tq; simp
theorem EL.zero:EL [] [] [] Zero:=⟨tq_zero2,rfl,fun p hp=>(by cases hp),fun s hs=>(by cases hs),.inl ⟨rfl,rfl⟩⟩
theorem EL.one (s:Int)(h:s=1∨s = -1): EL [0] [] [] ⟨s,0,0⟩ where
 q:=by
  unfold tq
  rcases h with rfl | rfl
  ·refine .inr (.inl ?_)
   show ((1:Int):Rat)*tp 0 - tp 0=0
   rw[qW,show ((1:Int):Rat)=1 from rfl];grind
  ·refine .inr (.inr ?_)
   show ((-1:Int):Rat)*tp 0+tp 0=0
   rw[qW,show ((-1:Int):Rat) = -1 from rfl];grind
 m:=rfl
 e:=fun p hp=>by rw[List.mem_singleton] at hp; subst hp; rfl
 l:=fun s hs=>by cases hs
 pl:=.inr (by rcases h with rfl | rfl <;>rfl)
theorem EL.times (h:EL P S R x)(k:EL P' S' R' y): EL (P++P'.map (·+x.m)) (S++S') (zap R R') (timesE x y) where
 q:=by rw[yH,Rat.mul_comm (tp x.m)];exact h.q.app (k.q.shift x.m)
 m:=by rw[zw,Rat.intCast_add];exact h.m.app k.m
 e:=fun p hp=>by
  rcases List.mem_append.1 hp with hp | hp
  ·exact (h.e p hp).left S'
  ·obtain⟨p',hp',rfl⟩:=List.mem_map.1 hp
   rw[Rat.intCast_add,Rat.add_comm]
   exact h.m.app (k.e p' hp')
 l:=h.l.app k.l
 pl:=qH _ _
theorem tv_evn {b:Bool}{e:Nat}(h:0<e): tv (b,e) % 2=0:=by
 obtain⟨k,rfl⟩:∃ k,e=k+1:=⟨e - 1,by omega⟩
 have h2:(2:Int) ^ (k+1)=2*2 ^ k:=Int.pow_succ' _ _
 cases b <;>simp only[tv] <;>omega
theorem lv_evn {l:List Tm}(h:∀ t∈l,0<t.2): lv l % 2=0:=by
 induction l with
 | nil=>rfl
 | cons t l ih =>
   have h1:=ih fun s hs=>h s (List.mem_cons_of_mem _ hs)
   have h2:=tv_evn (b:=t.1) (h t (by simp))
   have h3:tv (t.1,t.2)=tv t:=rfl
   simp only[lv];omega
theorem odd_zero (h:u % 2=1): 0∈exps u:=by
 apply Classical.byContradiction
 intro h0
 have:=lv_evn (l:=form u) fun t ht=>by
  have:t.2≠0:=fun e=>h0 (e▸mem_exps ht)
  omega
 rw[jc] at this; omega
theorem odd_low (h:u % 2=1): lowE u=0:=by
 have h1:=odd_zero h
 have h2:=last_le (L:=exps u) (exps_desc u) 0 h1
 unfold lowE
 omega
theorem Plain.odd (h:Plain g)(hu:g.u≠0): g.u % 2=1:=h.elim (fun k=>absurd k.1 hu) id
theorem Plain.v0 (h:Plain g)(hu:g.u=0): g.v=0:=h.elim (fun k=>k.2) (fun k=>by omega)
theorem EL.v (h:EL P S R g)(hu:g.u≠0)(hP:P.length≤300): ∃ p∈P,∃ j:Nat,j<10∧g.v=p+j:=by
 have ho:=h.pl.odd hu
 obtain⟨N,hN⟩:∃ N:Nat,0≤g.v+N:=⟨g.v.natAbs,by omega⟩
 obtain⟨k,hk⟩:∃ k:Nat,g.v+N=(k:Int):=⟨(g.v+N).toNat,by omega⟩
 have h1:=h.q.shift N
 have e1:tq g*tp N=((g.u*2 ^ k:Int):Rat):=by
  rw[Rat.intCast_mul,← tp_nat,← hk,yc]
  unfold tq
  rw[Rat.mul_assoc]
 rw[e1] at h1
 have hm:k∈exps (g.u*2 ^ k):=by
  unfold exps
  rw[form_shift,List.map_map]
  obtain⟨t,ht,h0⟩:=List.mem_map.1 (odd_zero ho)
  exact List.mem_map.2 ⟨t,ht,by simp only[Function.comp];omega⟩
 obtain⟨s,hs,a,b⟩:=h1.near (d:=10) (by rw[List.length_map];omega) hm
 obtain⟨p,hp,rfl⟩:=List.mem_map.1 hs
 exact⟨p,hp,(g.v - p).toNat,by omega,by omega⟩
theorem EL.pos (h:EL P S R g)(hu:g.u≠0): 1≤P.length:=by
 cases P with
 | nil =>
   have h0:tq g=0:=h.q
   unfold tq at h0
   rcases Rat.mul_eq_zero.1 h0 with h1 | h1
   ·exact absurd (by exact_mod_cast h1) hu
   ·exact absurd h1 (tp_ne _)
 | cons p P=>simp
theorem EL.v2 (h:EL P S R g)(hP:P.length≤300): N2 S (S.length+4) g.v:=by
 by_cases hu:g.u=0
 ·rw[h.pl.v0 hu];exact (N2.small S (by omega) (by omega)).mono (fun _ h=>h) (by omega)
 ·obtain⟨p,hp,j,hj,e⟩:=h.v hu hP
  rw[e]
  exact (N2.of (h.e p hp) (jR _)).add (N2.small S (by omega) (by omega)) (jR _)
theorem sub_N2 {S:List Int}{n k m:Nat}{z y:Int}(h:N2 S n z)(h':N2 S k y)(hm:n+k≤m): N2 S m (z - y):=by
 rw[Int.sub_eq_add_neg];exact h.add h'.neg hm
theorem EL.ok (h:EL P S R g)(hz:P.length+siz (S::R)≤147)(hR:R.length≤80): allowed g.u∧allowed g.v∧allowed g.m:=by
 have hS:S.length≤siz (S::R):=siz_mem (by simp)
 refine⟨?_,(h.v2 (by omega)).allowed h.l (by omega) hR (by omega),(N2.of h.m (jR _)).allowed h.l (by omega) hR (by omega)⟩
 by_cases hu:g.u=0
 ·rw[hu];exact jX
 ·have h1:=h.q.shift (-g.v)
  have e1:tq g*tp (-g.v)=(g.u:Rat):=by
   unfold tq
   rw[Rat.mul_assoc,tp_inv,Rat.mul_one]
  rw[e1] at h1
  have hp:=h.pos hu
  refine N1.allowed h.l (by omega) hR h1 (by rw[List.length_map];omega) fun p hp=>?_
  obtain⟨p',hp',rfl⟩:=List.mem_map.1 hp
  exact (N2.of (h.e p' hp') (jR _)).add (h.v2 (by omega)).neg (by omega)
theorem shx_zero (x:Int): shx x (-((0:Nat):Int))=x:=by
 have:=shx_nat x 0
 simpa using this
theorem plain_odd (h:Plain g){v:Int}(h1:allowed g.u)(h2:allowed v): plainOK g.u v:=by
 by_cases hu:g.u=0
 ·exact .inl hu
 ·refine .inr ?_
  rw[odd_low (h.odd hu),shx_zero]
  exact⟨h1,by simpa using h2⟩
theorem plain_of {v m:Int}(hu:allowed (plainE u v m).u)(hv:allowed (plainE u v m).v): plainOK u v:=by
 by_cases h0:u=0
 ·exact .inl h0
 ·unfold plainE at hu hv
  rw[if_neg h0] at hu hv
  exact .inr ⟨hu,hv⟩
theorem EL.timesOK (h:EL P S R x)(k:EL P' S' R' y)(hz:P.length+siz (S::R)+(P'.length+siz (S'::R'))≤147)(hR:R.length≤80)(hR':R'.length≤80): TimesOK x y:=by
 have hzt:=h.times k
 have hsz:siz ((S++S')::zap R R')=siz (S::R)+siz (S'::R'):=by
  have:=siz_zap R R'
  simp only[siz,List.map_cons,List.sum_cons,List.length_append] at *;omega
 have hRz:(zap R R').length≤80:=zap_len hR hR'
 have hSl:S.length≤siz (S::R):=siz_mem (by simp)
 have hSl':S'.length≤siz (S'::R'):=siz_mem (by simp)
 have hok:=hzt.ok (by rw[hsz,List.length_append,List.length_map];omega) hRz
 have hx:=h.ok (by omega) hR
 have hy:=k.ok (by omega) hR'
 have hL:=hzt.l
 have al:∀ {n:Nat} {z:Int},N2 (S++S') n z→n≤300→allowed z:=fun h2 hn=>h2.allowed hL (by rw[hsz];omega) hRz hn
 have hq2:N2 (S++S') (S.length+S'.length+4) (y.v+x.m):=by
  by_cases hu:y.u=0
  ·rw[k.pl.v0 hu,Int.zero_add]
   exact N2.of (h.m.left S') (by rw[List.length_append];omega)
  ·obtain⟨p,hp,j,hj,e⟩:=k.v hu (by omega)
   have h1:=hzt.e (p+x.m) (List.mem_append.2 (.inr (List.mem_map.2 ⟨p,hp,rfl⟩)))
   rw[show y.v+x.m=(p+x.m)+(j:Int) by omega]
   exact (N2.of h1 (by rw[List.length_append];exact jR _)).add (N2.small _ (by omega) (by omega)) (jR _)
 have hv2:N2 (S++S') (S.length+4) x.v:=(h.v2 (by omega)).mono (fun s hs=>List.mem_append.2 (.inl hs)) (jR _)
 have hq:allowed (y.v+x.m):=al hq2 (by omega)
 refine⟨by rw[← zw];exact hok.2.2,hq,fun _=>plain_odd k.pl hy.1 hq,fun _ _=>plain_odd h.pl hx.1 hx.2.1,fun hu hu'=>?_⟩
 have hp:=h.pos hu
 have hp':=k.pos hu'
 have hr2:N2 (S++S') (S.length+S'.length+4) (rr x y):=by
  unfold rr
  split
  ·exact hv2.mono (fun _ h=>h) (by omega)
  ·exact hq2
 have hp2:∀ p∈P,N2 (S++S') S.length p:=fun p hp=>(N2.of (h.e p hp) (jR _)).mono (fun s hs=>List.mem_append.2 (.inl hs)) (jR _)
 have hp3:∀ p∈P++P'.map (·+x.m),N2 (S++S') (S.length+S'.length) p:=fun p hp=>N2.of (hzt.e p hp) (by rw[List.length_append];exact jR _)
 have e1:((shx x.u (x.v - rr x y):Int):Rat)=tq x*tp (-(rr x y)):=by
  rw[shx_tp (zM (rr_le x y).1),Int.sub_eq_add_neg,yc]
  unfold tq
  rw[Rat.mul_assoc]
 have e2:((shx y.u (y.v+x.m - rr x y):Int):Rat)=tq y*tp x.m*tp (-(rr x y)):=by
  rw[shx_tp (zM (rr_le x y).2),Int.sub_eq_add_neg,yc,yc]
  unfold tq
  grind
 have hall:∀ p∈(P++P'.map (·+x.m)).map (·+-(rr x y)),N2 (S++S') 296 p:=fun p hp=>by
  obtain⟨p',hp',rfl⟩:=List.mem_map.1 hp
  exact (hp3 p' hp').add hr2.neg (by omega)
 have hN1:∀ {Q:List Int} {z:Int},Sg Q (z:Rat)→Q.length≤160→(∀ p∈Q,N2 (S++S') 296 p)→allowed z:=fun a b c=>N1.allowed hL (by rw[hsz];omega) hRz a b c
 have hsA:allowed (shx x.u (x.v - rr x y)):=hN1 (Q:=P.map (·+-(rr x y))) (by rw[e1];exact h.q.shift _) (by rw[List.length_map];omega) (fun p hp=>by
  obtain⟨p',hp',rfl⟩:=List.mem_map.1 hp
  exact hall _ (List.mem_map.2 ⟨p',List.mem_append.2 (.inl hp'),rfl⟩))
 have hsB:allowed (shx y.u (y.v+x.m - rr x y)):=hN1 (Q:=(P'.map (·+x.m)).map (·+-(rr x y))) (by rw[e2];exact (k.q.shift _).shift _) (by rw[List.length_map,List.length_map];omega) (fun p hp=>by
  obtain⟨p',hp',rfl⟩:=List.mem_map.1 hp
  exact hall _ (List.mem_map.2 ⟨p',List.mem_append.2 (.inr hp'),rfl⟩))
 have hsS:allowed (shx x.u (x.v - rr x y)+shx y.u (y.v+x.m - rr x y)):=hN1 (Q:=(P++P'.map (·+x.m)).map (·+-(rr x y))) (by
  rw[Rat.intCast_add,e1,e2,List.map_append]
  exact (h.q.shift _).app ((k.q.shift _).shift _)) (by simp; omega) hall
 refine⟨?_,?_,hsA,hsB,hsS,?_⟩
 ·by_cases hlt:x.v<y.v+x.m
  ·have:x.v - rr x y=0:=by unfold rr; rw[if_pos hlt];omega
   rw[this];exact jX
  ·have:rr x y=y.v+x.m:=by unfold rr; rw[if_neg hlt]
   rw[this]
   obtain⟨p,hp,i,hi,ex⟩:=h.v hu (by omega)
   obtain⟨p',hp',j,hj,ey⟩:=k.v hu' (by omega)
   rw[show x.v - (y.v+x.m)=(p - (p'+x.m))+((i:Int) - j) by omega]
   exact al ((sub_N2 (hp2 p hp) (hp3 (p'+x.m) (List.mem_append.2 (.inr (List.mem_map.2 ⟨p',hp',rfl⟩)))) (jR _)).add (N2.small _ (by omega) (by omega)) (jR _)) (by omega)
 ·by_cases hlt:x.v<y.v+x.m
  ·have:rr x y=x.v:=by unfold rr; rw[if_pos hlt]
   rw[this]
   obtain⟨p,hp,i,hi,ex⟩:=h.v hu (by omega)
   obtain⟨p',hp',j,hj,ey⟩:=k.v hu' (by omega)
   rw[show y.v+x.m - x.v=((p'+x.m) - p)+((j:Int) - i) by omega]
   exact al ((sub_N2 (hp3 (p'+x.m) (List.mem_append.2 (.inr (List.mem_map.2 ⟨p',hp',rfl⟩)))) (hp2 p hp) (jR _)).add (N2.small _ (by omega) (by omega)) (jR _)) (by omega)
  ·have:y.v+x.m - rr x y=0:=by unfold rr; rw[if_neg hlt];omega
   rw[this];exact jX
 ·have e3:timesE x y=plainE (shx x.u (x.v - rr x y)+shx y.u (y.v+x.m - rr x y)) (rr x y) (x.m+y.m):=by
   unfold timesE; rw[if_neg hu,if_neg hu']
  rw[e3] at hok
  exact plain_of hok.1 hok.2.1
theorem EL.pinch (h:EL P S R x){c:UInt8}(hc:c=98∨c=66)(hp:pinB c x=true)(hz:P.length+siz (S::R)≤147)(hR:R.length≤80):
 allowed (powE c x)∧(c=66→plainOK (powE c x) 0)∧∃ P' S' R',EL P' S' R' (pinE c (powE c x))∧P'.length+siz (S'::R')≤P.length+siz (S::R)∧(c=98→R'.length≤R.length+1)∧(c=66→R'.length≤R.length - 1):=by
 have hSl:S.length≤siz (S::R):=siz_mem (by simp)
 rcases hc with rfl | rfl
 ·have hp':x.m=0∧(x.u=0∨0≤x.v):=by simpa [pinB] using hp
  have hsh:shOK x.u x.v:=fun e he=>by
   rcases hp'.2 with h0 | h0
   ·rw[h0] at he; simp[exps,j5] at he
   ·omega
  have ek:powE 98 x=shx x.u x.v:=rfl
  have eK:((shx x.u x.v:Int):Rat)=tq x:=shx_tp hsh
  rw[ek]
  refine⟨N1.allowed h.l (by omega) hR (by rw[eK];exact h.q) (by omega) fun p hp=>N2.of (h.e p hp) (by omega),fun hc=>absurd hc (by decide),[],P,S::R,⟨?_,by show Sg P ((shx x.u x.v:Int):Rat);rw[eK];exact h.q,fun p hp=>(by cases hp),⟨h.e,h.l⟩,.inl ⟨rfl,rfl⟩⟩,?_,fun _=>by simp,fun hc=>absurd hc (by decide)⟩
  ·show tq ⟨0,0,_⟩=0
   unfold tq; simp
  ·simp[siz]
 ·have hu:x.u=0:=by simpa [pinB] using hp
  have ek:powE 66 x=x.m:=rfl
  rw[ek]
  have hE:∃ S' R',EL S S' R' (pinE 66 x.m)∧S.length+siz (S'::R')≤P.length+siz (S::R)∧R'.length≤R.length - 1:=by
   have hq:tq (pinE 66 x.m)=(x.m:Rat):=by unfold pinE; rw[if_pos rfl,yn,qW,Rat.mul_one]
   have hm:(pinE 66 x.m).m=0:=by unfold pinE; rw[if_pos rfl,plainE_m]
   have hpl:Plain (pinE 66 x.m):=by unfold pinE; rw[if_pos rfl];exact yB _ _ _
   cases R with
   | nil=>exact⟨[],[],⟨(by rw[hq];exact h.m),(by rw[hm];exact rfl),fun p hp=>(by rw[h.l p hp];exact rfl),fun s hs=>(by cases hs),hpl⟩,(by simp[siz]),(by simp)⟩
   | cons T R=>exact⟨T,R,⟨(by rw[hq];exact h.m),(by rw[hm];exact Sg.zero T),h.l.1,h.l.2,hpl⟩,(by simp[siz]),(by simp)⟩
  obtain⟨S',R',h1,h2,h3⟩:=hE
  have hok:=h1.ok (by omega) (by omega)
  have e:pinE 66 x.m=plainE x.m 0 0:=by unfold pinE; rw[if_pos rfl]
  refine⟨(N2.of h.m (jR _)).allowed h.l (by omega) hR (by omega),fun _=>?_,S,S',R',h1,h2,fun hc=>absurd hc (by decide),fun _=>h3⟩
  rw[e] at hok
  exact plain_of hok.1 hok.2.1
end
def stp (c:UInt8): Int:=if c=98 then 1 else -1
def St (M:Int): Int→List UInt8→List E3→Nat→Prop
 | l,[],[g],A=>∃ P S R,EL P S R g∧(R.length:Int)≤M - l∧M - l≤80∧P.length+siz (S::R)≤A
 | l,c::o,g::G,A=>∃ P S R A',EL P S R g∧(R.length:Int)≤M - l∧M - l≤80∧P.length+siz (S::R)+A'≤A∧St M (l+stp c) o G A'
 | _,_,_,_=>False
theorem St.len {M:Int}: ∀ {o:List UInt8} {G:List E3} {l:Int} {A:Nat},St M l o G A→G.length=o.length+1
 | [],[g],_,_,_=>rfl
 | c::o,g::G,l,A,h=>by
   obtain⟨_,_,_,_,_,_,_,_,h⟩:=h
   simp[St.len h]
 | [],[],_,_,h=>by simp[St] at h
 | [],_::_::_,_,_,h=>by simp[St] at h
 | _::_,[],_,_,h=>by simp[St] at h
theorem St.front {l:Int}{g:E3}{G:List E3}(h:St M l o (g::G) A): ∃ P S R A',EL P S R g∧(R.length:Int)≤M - l∧M - l≤80∧P.length+siz (S::R)+A'≤A ∧
 ∀ {P2 S2:List Int} {R2:List (List Int)} {g2:E3},EL P2 S2 R2 g2→(R2.length:Int)≤M - l→St M l o (g2::G) (P2.length+siz (S2::R2)+A'):=by
 cases o with
 | nil =>
   cases G with
   | nil =>
     obtain⟨P,S,R,h1,h2,h3,h4⟩:=h
     exact⟨P,S,R,0,h1,h2,h3,by omega,fun k1 k2=>⟨_,_,_,k1,k2,h3,by omega⟩⟩
   | cons a G=>simp[St] at h
 | cons c o =>
   obtain⟨P,S,R,A',h1,h2,h3,h4,h5⟩:=h
   exact⟨P,S,R,A',h1,h2,h3,h4,fun k1 k2=>⟨_,_,_,A',k1,k2,h3,jR _,h5⟩⟩
theorem St.mono {l:Int}{G:List E3}{B:Nat}(h:St M l o G A)(hb:A≤B): St M l o G B:=by
 cases o with
 | nil =>
   cases G with
   | nil=>simp[St] at h
   | cons g G =>
     cases G with
     | nil =>
       obtain⟨P,S,R,h1,h2,h3,h4⟩:=h
       exact⟨P,S,R,h1,h2,h3,by omega⟩
     | cons a G=>simp[St] at h
 | cons c o =>
   cases G with
   | nil=>simp[St] at h
   | cons g G =>
     obtain⟨P,S,R,A',h1,h2,h3,h4,h5⟩:=h
     exact⟨P,S,R,A',h1,h2,h3,by omega,h5⟩
theorem St.pin {M:Int}: ∀ {i:Nat} {o:List UInt8} {G:List E3} {l:Int} {A:Nat},St M l o G A→A≤147→Bs o→i+1<o.length→pinAt o G i=true→pinA o G i∧St M l (pinO o i) (pinG o G i) A
 | 0,c::d::o,x0::x1::G,l,A,h,hA,hb,_,hp=>by
   have hp':c≠d∧pinB c x1=true:=by simpa [pinAt,List.getD] using hp
   have hc:=hb c (by simp)
   have hd:=hb d (by simp)
   obtain⟨P0,S0,R0,A0,k1,k2,k3,k4,P1,S1,R1,A1,m1,m2,m3,m4,h2⟩:=h
   obtain⟨x2,G,rfl⟩:∃ x2 G',G=x2::G':=by
    cases G with
    | nil=>have:=h2.len; simp at this
    | cons x2 G=>exact⟨x2,G,rfl⟩
   have hl2:l+stp c+stp d=l:=by
    unfold stp
    rcases hc with rfl | rfl <;>rcases hd with rfl | rfl <;>first | exact absurd rfl hp'.1 | (simp; omega)
   rw[hl2] at h2
   obtain⟨P2,S2,R2,A2,n1,n2,n3,n4,n5⟩:=h2.front
   obtain⟨q1,q2,P',S',R',q3,q4,q5,q6⟩:=m1.pinch hc hp'.2 (by omega) (by omega)
   have hR':(R'.length:Int)≤M - l:=by
    rcases hc with rfl | rfl
    ·have:=q5 rfl
     have e:stp 98=1:=rfl
     rw[e] at m2; omega
    ·have:=q6 rfl
     have e:stp 66 = -1:=rfl
     rw[e] at m2; omega
   have t1:=k1.timesOK q3 (by omega) (by omega) (by omega)
   have e1:=k1.times q3
   have hs1:(P0++P'.map (·+x0.m)).length+siz ((S0++S')::zap R0 R')=P0.length+siz (S0::R0)+(P'.length+siz (S'::R')):=by
    have:=siz_zap R0 R'
    simp only[siz,List.map_cons,List.sum_cons,List.length_append,List.length_map] at *;omega
   have hr1:(zap R0 R').length≤(M - l).toNat:=zap_len (by omega) (by omega)
   have t2:=e1.timesOK n1 (by rw[hs1];omega) (by omega) (by omega)
   have e2:=e1.times n1
   have hs2:((P0++P'.map (·+x0.m))++P2.map (·+(timesE x0 (pinE c (powE c x1))).m)).length+siz (((S0++S')++S2)::zap (zap R0 R') R2)=P0.length+siz (S0::R0)+(P'.length+siz (S'::R'))+(P2.length+siz (S2::R2)):=by
    have:=siz_zap (zap R0 R') R2
    simp only[siz,List.map_cons,List.sum_cons,List.length_append,List.length_map] at *;omega
   have hr2:(zap (zap R0 R') R2).length≤(M - l).toNat:=zap_len hr1 (by omega)
   have eG:pinG (c::d::o) (x0::x1::x2::G) 0=timesE (timesE x0 (pinE c (powE c x1))) x2::G:=by
    simp[pinG,pinK,pinX,List.getD]
   have eO:pinO (c::d::o) 0=o:=by simp[pinO]
   rw[eG,eO]
   refine⟨?_,(n5 e2 (by omega)).mono (by omega)⟩
   show allowed (powE c x1)∧pinOK c (powE c x1) x0 x2
   exact⟨q1,q2,t1,t2⟩
 | 0,_::_::_,[],_,_,h,_,_,_,_=>by simp[St] at h
 | 0,_::_::_,[_],_,_,h,_,_,_,_=>by have:=h.len; simp at this
 | 0,[],_,_,_,_,_,_,hi,_=>by simp at hi
 | 0,[_],_,_,_,_,_,_,hi,_=>by simp at hi
 | i+1,[],_,_,_,_,_,_,hi,_=>by simp at hi
 | i+1,_::_,[],_,_,h,_,_,_,_=>by simp[St] at h
 | i+1,c::o,x::G,l,A,h,hA,hb,hi,hp=>by
   obtain⟨P,S,R,A',k1,k2,k3,k4,h2⟩:=h
   have hi':i+1<o.length:=by simpa using hi
   have hp':pinAt o G i=true:=hp
   obtain⟨ih1,ih2⟩:=St.pin h2 (by omega) (fun a ha=>hb a (by simp[ha])) hi' hp'
   have eO:pinO (c::o) (i+1)=c::pinO o i:=by simp[pinO]
   have eK:pinK (c::o) (x::G) (i+1)=pinK o G i:=by simp[pinK,List.getD]
   have eG:pinG (c::o) (x::G) (i+1)=x::pinG o G i:=by
    unfold pinG; rw[eK]
    simp[List.getD]
   rw[eO,eG]
   refine⟨?_,P,S,R,A',k1,k2,k3,k4,ih2⟩
   have:=ih1
   unfold pinA at this ⊢
   rw[eK]
   simpa [List.getD] using this
theorem bs_pinO {i:Nat}(hb:Bs o): Bs (pinO o i):=fun c hc=>by
 unfold pinO at hc
 rcases List.mem_append.1 hc with h | h
 ·exact hb c (List.mem_of_mem_take h)
 ·exact hb c (List.mem_of_mem_drop h)
theorem St.red {l:Int}(hA:A≤147): ∀ (m:Nat) {o:List UInt8} {G:List E3} {i:Nat},2*o.length - i≤m→St M l o G A→Bs o→∃ st o' G',redE o G i=some (st,o',G')∧St M l o' G' A:=by
 intro m
 induction m with
 | zero =>
   intro o G i hm h hb
   exact⟨[],o,G,zU (by omega),h⟩
 | succ m ih =>
   intro o G i hm h hb
   by_cases hi:i+1<o.length
   ·by_cases hp:pinAt o G i=true
    ·obtain⟨h1,h2⟩:=h.pin hA hb hi hp
     have:=zd hi
     obtain⟨st,o',G',h3,h4⟩:=ih (o:=pinO o i) (G:=pinG o G i) (i:=i - 1) (by omega) h2 (bs_pinO hb)
     exact⟨_,o',G',by rw[redE_yes hi hp h1,h3];rfl,h4⟩
    ·have hpf:pinAt o G i=false:=by simpa using hp
     obtain⟨st,o',G',h3,h4⟩:=ih (o:=o) (G:=G) (i:=i+1) (by omega) h hb
     exact⟨st,o',G',by rw[redE_no hi hpf];exact h3,h4⟩
   ·exact⟨[],o,G,zU hi,h⟩
end
section
variable {c:UInt8}
theorem actL_ok {S:Nf}(h:Ok S.2): Ok (actL c S).2:=by
 unfold actL; split
 ·exact h
 ·split
  ·exact h
  ·exact act_ok h
theorem actW_ok {l:List UInt8}{S:Nf}(h:Ok S.2): Ok (actW l S).2:=by
 induction l with
 | nil=>exact h
 | cons c l ih=>exact actL_ok ih
theorem actW_append (l m:List UInt8)(S:Nf): actW (l++m) S=actW l (actW m S):=by unfold actW; rw[List.foldr_append]
def flip (c:UInt8): UInt8:=c ^^^ 32
def invL (l:List UInt8): List UInt8:=l.reverse.map flip
theorem act_a (S:Nf): mulS (-1,0) (mulS (1,0) S)=S∧mulS (1,0) (mulS (-1,0) S)=S:=by
 rw[yr,yr]
 have e1:emul (-1,0) (1,0)=one:=by unfold emul one; refine Prod.ext ?_ rfl; dsimp only; rw[qW];grind
 have e2:emul (1,0) (-1,0)=one:=by unfold emul one; refine Prod.ext ?_ rfl; dsimp only; rw[qW];grind
 rw[e1,e2,one_mulS];exact⟨rfl,rfl⟩
theorem actL_flip (hc:c=97∨c=65∨c=98∨c=66){S:Nf}(h:Ok S.2): actL (flip c) (actL c S)=S:=by
 rcases hc with rfl | rfl | rfl | rfl
 ·exact (act_a S).1
 ·exact (act_a S).2
 ·exact act_inv false h
 ·exact act_inv true h
theorem flip_lt (hc:c=97∨c=65∨c=98∨c=66): flip c=97∨flip c=65∨flip c=98∨flip c=66:=by
 rcases hc with rfl | rfl | rfl | rfl <;>decide
theorem invL_lt {l:List UInt8}(h:Lt l): Lt (invL l):=fun c hc=>by
 unfold invL at hc
 obtain⟨d,hd,rfl⟩:=List.mem_map.1 hc
 exact flip_lt (h d (List.mem_reverse.1 hd))
theorem invL_cons (c:UInt8)(l:List UInt8): invL (c::l)=invL l++[flip c]:=by unfold invL; simp
theorem actW_inv:∀ {l:List UInt8},Lt l→∀ {S:Nf},Ok S.2→actW (invL l) (actW l S)=S
 | [],_,_,_=>rfl
 | c::l,h,S,hS=>by
   rw[invL_cons,actW_append]
   show actW (invL l) (actL (flip c) (actL c (actW l S)))=S
   rw[actL_flip (h c (by simp)) (actW_ok hS)]
   exact actW_inv (fun d hd=>h d (by simp[hd])) hS
end
section
def lvl (c:UInt8): Int:=if c=98 then 1 else if c=66 then -1 else 0
def levW (w:List UInt8): Int:=(w.map lvl).sum
theorem levW_cons (c:UInt8)(w:List UInt8): levW (c::w)=lvl c+levW w:=by simp[levW]
theorem levW_append (u v:List UInt8): levW (u++v)=levW u+levW v:=by simp[levW]
def okL (lo hi:Int): Int→List UInt8→Prop
 | _,[]=>True
 | l,c::w=>lo≤l+lvl c∧l+lvl c≤hi∧okL lo hi (l+lvl c) w
theorem okL_append {lo hi:Int}: ∀ {u v:List UInt8} {l:Int},okL lo hi l u→okL lo hi (l+levW u) v→okL lo hi l (u++v)
 | [],v,l,_,h=>by simpa [levW] using h
 | c::u,v,l,h,k=>⟨h.1,h.2.1,okL_append h.2.2 (by rw[levW_cons] at k; rwa [Int.add_assoc])⟩
theorem okL_mono {lo hi lo' hi':Int}(h1:lo'≤lo)(h2:hi≤hi'): ∀ {w:List UInt8} {l:Int},okL lo hi l w→okL lo' hi' l w
 | [],_,_=>trivial
 | _::_,_,h=>⟨Int.le_trans h1 h.1,Int.le_trans h.2.1 h2,okL_mono h1 h2 h.2.2⟩
theorem okL_shift {lo hi d:Int}: ∀ {w:List UInt8} {l:Int},okL lo hi l w→okL (lo+d) (hi+d) (l+d) w
 | [],_,_=>trivial
 | c::w,l,h=>⟨by have:=h.1; omega,by have:=h.2.1; omega,by
  have:=okL_shift (d:=d) h.2.2
  rwa [show l+lvl c+d=l+d+lvl c by omega] at this⟩
theorem lvl_flip {c:UInt8}(hc:c=97∨c=65∨c=98∨c=66): lvl (flip c) = -lvl c:=by
 rcases hc with rfl | rfl | rfl | rfl <;>decide
theorem levW_inv:∀ {w:List UInt8},Lt w→levW (invL w) = -levW w
 | [],_=>rfl
 | c::w,h=>by
   rw[invL_cons,levW_append,levW_inv (fun d hd=>h d (by simp[hd])),levW_cons,levW_cons,lvl_flip (h c (by simp))]
   simp[levW];omega
theorem okL_inv {lo hi:Int}: ∀ {w:List UInt8} {l:Int},Lt w→lo≤l→l≤hi→okL lo hi l w→okL lo hi (l+levW w) (invL w)
 | [],_,_,_,_,_=>trivial
 | c::w,l,hl,h1,h2,h=>by
   rw[invL_cons]
   have ih:=okL_inv (w:=w) (fun d hd=>hl d (by simp[hd])) h.1 h.2.1 h.2.2
   refine okL_append (by rw[levW_cons,← Int.add_assoc];exact ih) ?_
   rw[levW_inv (fun d hd=>hl d (by simp[hd])),levW_cons]
   have e:=lvl_flip (hl c (by simp))
   refine⟨?_,?_,trivial⟩ <;>rw[e] <;>omega
theorem okL_len:∀ (w:List UInt8) (l:Int),okL (l - w.length) (l+w.length) l w
 | [],_=>trivial
 | c::w,l=>by
   have hc:-1≤lvl c∧lvl c≤1:=by unfold lvl; split <;>(try split) <;>omega
   have ih:=okL_len w (l+lvl c)
   refine⟨by simp only[List.length_cons];omega,by simp only[List.length_cons];omega,okL_mono (by simp only[List.length_cons];omega) (by simp only[List.length_cons];omega) ih⟩
theorem levW_len (w:List UInt8): -(w.length:Int)≤levW w∧levW w≤w.length:=by
 induction w with
 | nil=>simp[levW]
 | cons c w ih =>
   have hc:-1≤lvl c∧lvl c≤1:=by unfold lvl; split <;>(try split) <;>omega
   rw[levW_cons];simp only[List.length_cons];omega
def cA:List UInt8→Nat
 | []=>0
 | c::w=>(if c=97∨c=65 then 1 else 0)+cA w
theorem cA_append:∀ u v:List UInt8,cA (u++v)=cA u+cA v
 | [],v=>by simp[cA]
 | c::u,v=>by simp only[List.cons_append,cA,cA_append u v];omega
theorem cA_len:∀ w:List UInt8,cA w≤w.length
 | []=>jR _
 | c::w=>by
   have:=cA_len w
   simp only[cA,List.length_cons];split <;>omega
theorem cA_inv:∀ {w:List UInt8},Lt w→cA (invL w)=cA w
 | [],_=>rfl
 | c::w,h=>by
   rw[invL_cons,cA_append,cA_inv (fun d hd=>h d (by simp[hd]))]
   have:cA [flip c]=if c=97∨c=65 then 1 else 0:=by
    rcases h c (by simp) with rfl | rfl | rfl | rfl <;>decide
   rw[this];simp only[cA];omega
def levO (o:List UInt8): Int:=(o.map stp).sum
theorem getD_cons_pred {α:Type}(a:α){l:List α}(h:l≠[])(d:α): (a::l).getD ((a::l).length - 1) d=l.getD (l.length - 1) d:=by
 cases l with
 | nil=>exact absurd rfl h
 | cons b l=>simp[List.getD]
theorem set_cons_pred {α:Type}(a:α){l:List α}(h:l≠[])(x:α): (a::l).set ((a::l).length - 1) x=a::l.set (l.length - 1) x:=by
 cases l with
 | nil=>exact absurd rfl h
 | cons b l=>simp
variable {M:Int} {w:List UInt8}
theorem St.ne {l:Int}{o:List UInt8}{G:List E3}{A:Nat}(h:St M l o G A): G≠[]:=fun e=>by
 have:=h.len
 rw[e] at this; simp at this
theorem St.last {M:Int}(s:Int)(hs:s=1∨s = -1): ∀ {o:List UInt8} {G:List E3} {l:Int} {A:Nat},St M l o G A→St M l o (G.set (G.length - 1) (timesE (G.getD (G.length - 1) Zero) ⟨s,0,0⟩)) (A+1)
 | [],[g],l,A,h=>by
   obtain⟨P,S,R,h1,h2,h3,h4⟩:=h
   have h5:=h1.times (EL.one s hs)
   show St M l [] [timesE g ⟨s,0,0⟩] (A+1)
   have hR:zap R []=R:=by cases R <;>rfl
   rw[hR] at h5
   refine⟨_,_,_,h5,h2,h3,?_⟩
   simp only[List.length_append,List.length_map,List.append_nil]
   simp; omega
 | c::o,g::G,l,A,h=>by
   obtain⟨P,S,R,A',h1,h2,h3,h4,h5⟩:=h
   rw[getD_cons_pred g h5.ne,set_cons_pred g h5.ne]
   exact⟨P,S,R,A'+1,h1,h2,h3,by omega,St.last s hs h5⟩
 | [],[],_,_,h=>by simp[St] at h
 | [],_::_::_,_,_,h=>by simp[St] at h
 | _::_,[],_,_,h=>by simp[St] at h
theorem St.snoc {M:Int}(c:UInt8): ∀ {o:List UInt8} {G:List E3} {l:Int} {A:Nat},St M l o G A→0≤M - (l+levO o+stp c)→M - (l+levO o+stp c)≤80→St M l (o++[c]) (G++[Zero]) A
 | [],[g],l,A,h,k1,k2=>by
   obtain⟨P,S,R,h1,h2,h3,h4⟩:=h
   simp only[levO,List.map_nil,List.sum_nil,Int.add_zero] at k1 k2
   refine⟨P,S,R,0,h1,h2,h3,by omega,[],[],[],EL.zero,?_,k2,by simp[siz]⟩
   simpa using k1
 | d::o,g::G,l,A,h,k1,k2=>by
   obtain⟨P,S,R,A',h1,h2,h3,h4,h5⟩:=h
   have e:levO (d::o)=stp d+levO o:=by simp[levO]
   rw[e] at k1 k2
   exact⟨P,S,R,A',h1,h2,h3,h4,St.snoc c h5 (by omega) (by omega)⟩
 | [],[],_,_,h,_,_=>by simp[St] at h
 | [],_::_::_,_,_,h,_,_=>by simp[St] at h
 | _::_,[],_,_,h,_,_=>by simp[St] at h
theorem St.fold {M:Int}: ∀ (w:List UInt8) {s:List UInt8×List E3} {A:Nat},Lt w→St M 0 s.1 s.2 A→okL (M - 80) M (levO s.1) w→St M 0 (w.foldl rdStep s).1 (w.foldl rdStep s).2 (A+cA w)∧levO (w.foldl rdStep s).1=levO s.1+levW w
 | [],s,A,_,h,_=>by simp[cA,levW];exact h
 | c::w,s,A,hl,h,k=>by
   rw[List.foldl_cons]
   have hw:Lt w:=fun d hd=>hl d (by simp[hd])
   by_cases ha:c=97∨c=65
   ·have hs:∃ t:Int,(t=1∨t = -1)∧rdStep s c=(s.1,s.2.set (s.2.length - 1) (timesE (s.2.getD (s.2.length - 1) Zero) ⟨t,0,0⟩)):=by
     rcases ha with rfl | rfl
     ·exact⟨1,.inl rfl,rfl⟩
     ·exact⟨-1,.inr rfl,rfl⟩
    obtain⟨t,ht,e⟩:=hs
    have hlv:lvl c=0:=by rcases ha with rfl | rfl <;>rfl
    have ih:=St.fold w (s:=rdStep s c) (A:=A+1) hw (by rw[e];exact h.last t ht) (by
     rw[e]
     have:=k.2.2
     rwa [hlv,Int.add_zero] at this)
    rw[levW_cons,hlv]
    refine⟨?_,by rw[ih.2,e];simp⟩
    have e2:A+cA (c::w)=A+1+cA w:=by simp only[cA];rw[if_pos ha];omega
    rw[e2];exact ih.1
   ·have hc:c=98∨c=66:=by
     rcases hl c (by simp) with h | h | h | h
     ·exact absurd (.inl h) ha
     ·exact absurd (.inr h) ha
     ·exact .inl h
     ·exact .inr h
    have e:rdStep s c=(s.1++[c],s.2++[Zero]):=by
     unfold rdStep
     rw[if_neg (fun h=>ha (.inl h)),if_neg (fun h=>ha (.inr h))]
    have hlv:lvl c=stp c:=by rcases hc with rfl | rfl <;>rfl
    have eL:levO (s.1++[c])=levO s.1+stp c:=by simp[levO]
    have ih:=St.fold w (s:=rdStep s c) (A:=A) hw (by
     rw[e]
     exact h.snoc c (by have:=k.2.1; rw[hlv] at this; omega) (by have:=k.1; rw[hlv] at this; omega)) (by
     rw[e,eL,← hlv];exact k.2.2)
    rw[levW_cons,hlv]
    refine⟨?_,by rw[ih.2,e,eL];omega⟩
    have e2:A+cA (c::w)=A+cA w:=by simp only[cA];rw[if_neg ha];omega
    rw[e2];exact ih.1
theorem St.start (h0:0≤M)(h1:M≤80): St M 0 [] [Zero] 0:=⟨[],[],[],EL.zero,by simp; omega,by omega,by simp[siz]⟩
theorem St.read (hl:Lt w)(h:okL (-40) 40 0 w): St 40 0 (readE w).1 (readE w).2 (cA w):=by
 have:=(St.fold (M:=40) w (s:=([],[Zero])) hl (St.start (by omega) (by omega)) (by simpa [levO] using h)).1
 rwa [Nat.zero_add] at this
theorem trace_some (hl:Lt w)(h:okL (-40) 40 0 w)(hA:cA w≤147): ∃ st o G,traceE w=some (st,o,G):=by
 obtain⟨st,o',G',h1,_⟩:=St.red hA _ (jR _) (St.read hl h) (read_bs hl).1
 exact⟨st,o',G',h1⟩
theorem getD_left {α:Type}{a b:List α}{i:Nat}{d:α}(h:i<a.length): (a++b).getD i d=a.getD i d:=by
 simp only[List.getD_eq_getElem?_getD,List.getElem?_append_left h]
theorem red_app:∀ (m:Nat) {o1 o2:List UInt8} {G1 G2:List E3} {i:Nat} {st:List (Nat×Int)} {g:E3},2*o1.length - i≤m→G1.length=o1.length+1→(o1=[]→i=0)→redE o1 G1 i=some (st,[],[g]) →
 redE (o1++o2) (G1++G2) i=(redE o2 (g::G2) 0).map fun r=>(st++r.1,r.2):=by
 intro m
 induction m with
 | zero =>
   intro o1 o2 G1 G2 i st g hm hl hi h
   rw[zU (by omega)] at h
   cases h
   rw[hi rfl]
   show redE o2 (g::G2) 0=_
   generalize redE o2 (g::G2) 0=r
   cases r <;>simp
 | succ m ih =>
   intro o1 o2 G1 G2 i st g hm hl hi0 h
   by_cases hi:i+1<o1.length
   ·have hi':i+1<(o1++o2).length:=by rw[List.length_append];omega
    have ep:pinAt (o1++o2) (G1++G2) i=pinAt o1 G1 i:=by
     unfold pinAt
     rw[getD_left (by omega),getD_left (by omega),getD_left (by omega)]
    have ek:pinK (o1++o2) (G1++G2) i=pinK o1 G1 i:=by
     unfold pinK
     rw[getD_left (by omega),getD_left (by omega)]
    have ea:pinA (o1++o2) (G1++G2) i↔pinA o1 G1 i:=by
     unfold pinA
     rw[ek,getD_left (by omega),getD_left (by omega),getD_left (by omega)]
    have eo:pinO (o1++o2) i=pinO o1 i++o2:=by
     unfold pinO
     rw[List.take_append_of_le_length (by omega),List.drop_append_of_le_length (by omega),List.append_assoc]
    have eg:pinG (o1++o2) (G1++G2) i=pinG o1 G1 i++G2:=by
     unfold pinG
     rw[ek,getD_left (by omega),getD_left (by omega),getD_left (by omega),List.take_append_of_le_length (by omega),List.drop_append_of_le_length (by omega)]
     simp
    by_cases hp:pinAt o1 G1 i=true
    ·by_cases ha:pinA o1 G1 i
     ·rw[redE_yes hi hp ha] at h
      cases hr:redE (pinO o1 i) (pinG o1 G1 i) (i - 1) with
      | none=>rw[hr] at h; cases h
      | some r =>
        obtain⟨st1,o3,G3⟩:=r
        rw[hr] at h
        cases h
        have hpl:=zd hi
        have:=ih (o1:=pinO o1 i) (o2:=o2) (G1:=pinG o1 G1 i) (G2:=G2) (i:=i - 1) (by omega) (pinG_len hi hl) (fun e=>by
         rw[e] at hpl; simp at hpl; omega) hr
        rw[redE_yes hi' (by rw[ep];exact hp) (ea.2 ha),eo,eg,this,ek]
        generalize redE o2 (g::G2) 0=r
        cases r <;>simp
     ·rw[yo hi hp ha] at h; cases h
    ·have hpf:pinAt o1 G1 i=false:=by simpa using hp
     rw[redE_no hi hpf] at h
     rw[redE_no hi' (by rw[ep];exact hpf)]
     exact ih (by omega) hl (fun e=>by rw[e] at hi; simp at hi) h
   ·rw[zU hi] at h
    cases h
    rw[hi0 rfl]
    show redE o2 (g::G2) 0=_
    generalize redE o2 (g::G2) 0=r
    cases r <;>simp
theorem rdStep_app (o1 o:List UInt8)(G1:List E3){G:List E3}(h:G≠[])(c:UInt8): rdStep (o1++o,G1++G) c=(o1++(rdStep (o,G) c).1,G1++(rdStep (o,G) c).2):=by
 have hp:1≤G.length:=List.length_pos_iff.2 h
 have e1:(G1++G).getD ((G1++G).length - 1) Zero=G.getD (G.length - 1) Zero:=by
  simp only[List.getD_eq_getElem?_getD]
  rw[List.getElem?_append_right (by rw[List.length_append];omega)]
  congr 2; rw[List.length_append];omega
 have e2:∀ x,(G1++G).set ((G1++G).length - 1) x=G1++G.set (G.length - 1) x:=fun x=>by
  rw[List.set_append_right _ _ (by rw[List.length_append];omega)]
  congr 2; rw[List.length_append];omega
 unfold rdStep
 dsimp only
 split
 ·rw[e1,e2]
 ·split
  ·rw[e1,e2]
  ·simp
theorem rdStep_ne {s:List UInt8×List E3}(h:s.2≠[])(c:UInt8): (rdStep s c).2≠[]:=by
 have hp:0<s.2.length:=List.length_pos_iff.2 h
 refine List.length_pos_iff.1 ?_
 unfold rdStep
 split
 ·simpa using hp
 ·split
  ·simpa using hp
  ·simp
theorem fold_app:∀ (w:List UInt8) (o1 o:List UInt8) (G1:List E3) {G:List E3},G≠[]→w.foldl rdStep (o1++o,G1++G)=(o1++(w.foldl rdStep (o,G)).1,G1++(w.foldl rdStep (o,G)).2)
 | [],_,_,_,_,_=>rfl
 | c::w,o1,o,G1,G,h=>by
   rw[List.foldl_cons,List.foldl_cons,rdStep_app o1 o G1 h c]
   exact fold_app w o1 _ G1 (rdStep_ne h c)
theorem read_app (u w:List UInt8): ∃ o2 G2,readE (98::w)=(o2,Zero::G2)∧readE (u++98::w)=((readE u).1++o2,(readE u).2++G2):=by
 have e0:∀ s:List UInt8×List E3,rdStep s 98=(s.1++[98],s.2++[Zero]):=fun s=>rfl
 refine⟨[]++(w.foldl rdStep ([98],[Zero])).1,(w.foldl rdStep ([98],[Zero])).2,?_,?_⟩
 ·unfold readE
  rw[List.foldl_cons,e0]
  exact fold_app w [] [98] [Zero] (by simp)
 ·unfold readE
  rw[List.foldl_append,List.foldl_cons,e0]
  have:=fold_app w (u.foldl rdStep ([],[Zero])).1 [98] (u.foldl rdStep ([],[Zero])).2 (G:=[Zero]) (by simp)
  rw[this];simp
theorem trace_two {u:List UInt8}{st:List (Nat×Int)}{g:E3}(hu:traceE u=some (st,[],[g]))(hul:(readE u).2.length=(readE u).1.length+1){P S:List Int}{R:List (List Int)}(hg:EL P S R g)(hR:R.length≤40)(hl:Lt (98::w))(h:okL (-40) 40 0 (98::w)) 
 (hA:P.length+siz (S::R)+cA (98::w)≤147):∃ st o G,traceE (u++98::w)=some (st,o,G):=by
 obtain⟨o2,G2,e1,e2⟩:=read_app u w
 have h1:=St.read hl h
 have hb:=(read_bs hl).1
 rw[e1] at h1 hb
 dsimp only at h1 hb
 obtain⟨_,_,_,A',_,_,_,k4,k5⟩:=h1.front
 have h2:=k5 hg (by omega)
 obtain⟨st2,o',G',h3,_⟩:=St.red (A:=P.length+siz (S::R)+A') (by omega) _ (jR _) h2 hb
 have h4:=red_app _ (jR _) (o2:=o2) (G2:=G2) hul (fun _=>rfl) hu
 refine⟨st++st2,o',G',?_⟩
 unfold traceE
 rw[e2]
 dsimp only
 rw[h4,h3];rfl
def twL:Nat→List UInt8
 | 0=>[97]
 | k+1=>98::(twL k++[66,97,98]++invL (twL k)++[66])
def twX:Nat→Nat
 | 0=>0
 | k+1=>2 ^ twX k
theorem twL_lt:∀ k,Lt (twL k)
 | 0=>fun c hc=>by simp[twL] at hc; exact .inl hc
 | k+1=>fun c hc=>by
   simp only[twL,List.mem_cons,List.mem_append,List.not_mem_nil,or_false] at hc
   rcases hc with h | ((h | h | h | h) | h) | h
   ·exact .inr (.inr (.inl h))
   ·exact twL_lt k c h
   ·exact .inr (.inr (.inr h))
   ·exact .inl h
   ·exact .inr (.inr (.inl h))
   ·exact invL_lt (twL_lt k) c h
   ·exact .inr (.inr (.inr h))
theorem twL_len:∀ k,(twL (k+1)).length=2*(twL k).length+5:=fun k=>by
 simp[twL,invL];omega
theorem twL_cA:∀ k,cA (twL (k+1))=2*cA (twL k)+1:=fun k=>by
 have h1:cA [66,97,98]=1:=by decide
 have h2:cA [66]=0:=by decide
 have h3:∀ w,cA (98::w)=cA w:=fun w=>by simp only[cA];simp
 rw[twL,h3,cA_append,cA_append,cA_append,cA_inv (twL_lt k),h1,h2];omega
theorem twL_lev:∀ k,levW (twL k)=0
 | 0=>by decide
 | k+1=>by
   have h1:levW [66,97,98]=0:=by decide
   have h2:levW [66] = -1:=by decide
   have h3:lvl 98=1:=by decide
   rw[twL,levW_cons,levW_append,levW_append,levW_append,levW_inv (twL_lt k),twL_lev k,h1,h2,h3];rfl
theorem twL_ok:∀ k:Nat,okL 0 k 0 (twL k)
 | 0=>by refine⟨?_,?_,trivial⟩ <;>decide
 | k+1=>by
   have ih:=twL_ok k
   have h1:okL 0 ((k+1:Nat):Int) 1 (twL k):=okL_mono (by omega) (by omega) (okL_shift (d:=1) ih)
   have h2:=okL_inv (lo:=0) (hi:=((k+1:Nat):Int)) (l:=1) (twL_lt k) (by omega) (by omega) h1
   rw[twL_lev,Int.add_zero] at h2
   have e3:lvl 98=1:=by decide
   have e4:lvl 66 = -1:=by decide
   have e5:lvl 97=0:=by decide
   have h0:okL 0 ((k+1:Nat):Int) 1 [66,97,98]:=by
    refine⟨?_,?_,?_,?_,?_,?_,trivial⟩ <;>simp only[e3,e4,e5] <;>omega
   have h6:levW [66,97,98]=0:=by decide
   unfold twL
   refine⟨by rw[e3];omega,by rw[e3];omega,?_⟩
   rw[e3,Int.zero_add]
   refine okL_append (okL_append (okL_append h1 ?_) ?_) ?_
   ·rw[twL_lev,Int.add_zero];exact h0
   ·rw[levW_append,twL_lev,h6,Int.add_zero,Int.add_zero];exact h2
   ·rw[levW_append,levW_append,levW_inv (twL_lt k),twL_lev,h6]
    refine⟨?_,?_,trivial⟩ <;>simp only[e4] <;>omega
theorem act_T {T:Int}{S:Nf}(h:Ok S.2): act true (mulS ((T:Rat),0) (act false S))=mulS (0,T) S:=by
 have e:(((T:Rat),0):El)=low true T:=rfl
 rw[e,act_low,show act true (act false S)=S from act_inv true h];rfl
theorem tp_twX (k:Nat): tp (twX k)=((twX (k+1):Nat):Rat):=by
 rw[tp_nat,twX]
 norm_cast
theorem twL_act:∀ (k:Nat) {S:Nf},Ok S.2→actW (twL k) S=mulS (tp (twX k),0) S
 | 0,S,_=>by
   show mulS (1,0) S=_
   rw[show tp (twX 0)=1 from qW]
 | k+1,S,hS=>by
   have hinv:∀ {S:Nf},Ok S.2→actW (invL (twL k)) S=mulS (-(tp (twX k)),0) S:=fun {S} h=>by
    have h1:actW (twL k) (mulS (-(tp (twX k)),0) S)=S:=by
     rw[twL_act k (S:=mulS (-(tp (twX k)),0) S) h,yr]
     have:emul (tp (twX k),0) (-(tp (twX k)),0)=one:=by
      unfold emul one; refine Prod.ext ?_ rfl
      dsimp only; rw[qW];grind
     rw[this,one_mulS]
    have h2:=actW_inv (twL_lt k) (S:=mulS (-(tp (twX k)),0) S) h
    rw[h1] at h2; exact h2
   have e:actW (twL (k+1)) S=act true (actW (twL k) (act false (mulS (1,0) (act true (actW (invL (twL k)) (act false S)))))):=by
    rw[twL]
    show act true (actW (twL k++[66,97,98]++invL (twL k)++[66]) S)=_
    rw[actW_append,actW_append,actW_append]
    rfl
   have hB:Ok (act false S).2:=act_ok hS
   rw[e,hinv hB]
   have e2:(-(tp (twX k)):Rat)=((-(twX (k+1):Nat):Int):Rat):=by
    rw[tp_twX,Rat.intCast_neg];rfl
   rw[e2,act_T hS]
   have h3:Ok (mulS (1,0) (mulS (0,-((twX (k+1):Nat):Int)) S)).2:=hS
   rw[twL_act k (act_ok h3)]
   have e3:tp (twX k)=((((twX (k+1):Nat):Int)):Rat):=by rw[tp_twX];rfl
   rw[e3,act_T h3,yr,yr]
   congr 1
   unfold emul; refine Prod.ext ?_ (by dsimp only; omega)
   dsimp only
   grind
def twR:Nat→List (List Int)
 | 0=>[]
 | k+1=>[(twX k:Int)]::twR k
theorem twR_lay:∀ k,Lay [(twX k:Int)] (twR k)
 | 0=>fun s hs=>by simp[twX] at hs; exact hs
 | k+1=>by
   refine⟨fun s hs=>?_,twR_lay k⟩
   rw[List.mem_singleton] at hs
   subst hs
   refine .inr (.inl ?_)
   show _=_
   rw[tp_twX]
   show ((((twX (k+1):Nat):Int)):Rat) - _=0
   rw[show ((((twX (k+1):Nat):Int)):Rat)=((twX (k+1):Nat):Rat) from rfl];grind
theorem twR_len:∀ k,(twR k).length=k
 | 0=>rfl
 | k+1=>by simp[twR,twR_len k]
theorem twR_siz:∀ k,siz (twR k)=k
 | 0=>rfl
 | k+1=>by
   have:=twR_siz k
   simp only[siz,twR,List.map_cons,List.sum_cons] at *
   simp; omega
def twE (k:Nat): E3:=⟨1,twX k,0⟩
theorem twE_EL (k:Nat): ∃ S R,EL [(twX k:Int)] S R (twE k)∧siz (S::R)=k∧R.length≤k:=by
 have hq:Sg [(twX k:Int)] (tq (twE k)):=by
  refine .inr (.inl ?_)
  show _=_
  unfold tq twE
  dsimp only
  have:((1:Int):Rat)=1:=rfl
  rw[this];grind
 have hpl:Plain (twE k):=.inr rfl
 have hL:=twR_lay k
 cases k with
 | zero=>exact⟨[],[],⟨hq,rfl,fun p hp=>by rw[hL p hp];rfl,fun s hs=>(by cases hs),hpl⟩,rfl,jR _⟩
 | succ k=>exact⟨_,_,⟨hq,Sg.zero _,hL.1,hL.2,hpl⟩,twR_siz (k+1),by rw[twR_len];omega⟩
theorem tw_allowed {k:Nat}(hk:k≤20): allowed (twX k:Int):=by
 obtain⟨S,R,h,h1,h2⟩:=twE_EL k
 exact (h.ok (by rw[h1];simp; omega) (by omega)).2.1
end
end Sr

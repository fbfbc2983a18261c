/- Texts of this claim, joined: InnP, Sane, RepS, SIn. -/
import Derived.Test.YtabafgphmbdpgaaGreatDoorTe1
import Derived.Test.YtabafgphmbdpgaaGreatDoorTe26
import Derived.Test.YtabafgphmbdpgaaGreatDoorTe27
import Derived.Deep.AppendLies
set_option maxHeartbeats 8000000
set_option maxRecDepth 100000
namespace Sr
def wdL (n:UInt8): List UInt8:=if n.toNat % 4=0 then [97] else if n.toNat % 4=1 then [65] else if n.toNat % 4=2 then [98,97,66] else [98,65,66]
def elL (n:UInt8): E3:=if n.toNat % 4=0 then ⟨1,0,0⟩ else if n.toNat % 4=1 then ⟨-1,0,0⟩ else if n.toNat % 4=2 then ⟨0,0,1⟩ else ⟨0,0,-1⟩
def prodE (L:List UInt8): E3:=L.foldl (fun x n=>timesE x (elL n)) Zero
def wordL (L:List UInt8): List UInt8:=L.flatMap wdL
theorem prodE_snoc (L:List UInt8)(n:UInt8): prodE (L++[n])=timesE (prodE L) (elL n):=by simp[prodE]
def gr (n0:Int): List (Int×Int)→List E3
 | []=>[powA n0]
 | (s,n)::R=>gr n0 R++[powA s,powA n]
def og:List (Int×Int)→List UInt8
 | []=>[]
 | _::R=>og R++[98,66]
def pr (n0:Int): List (Int×Int)→E3
 | []=>powA n0
 | (s,n)::R=>timesE (timesE (pr n0 R) ⟨0,0,s⟩) (powA n)
def sz (n0:Int): List (Int×Int)→Nat
 | []=>n0.natAbs
 | (_,n)::R=>sz n0 R+1+n.natAbs
theorem rd_last (o:List UInt8)(H:List E3)(x:E3): rdStep (o,H++[x]) 97=(o,H++[timesE x ⟨1,0,0⟩]):=by
 unfold rdStep; rw[if_pos rfl];dsimp only
 have e:(H++[x]).length - 1=H.length:=by simp
 rw[e,jo (x:=x) (by simp)]
 simp
theorem rd_lastA (o:List UInt8)(H:List E3)(x:E3): rdStep (o,H++[x]) 65=(o,H++[timesE x ⟨-1,0,0⟩]):=by
 unfold rdStep; rw[if_neg (by decide),if_pos rfl];dsimp only
 have e:(H++[x]).length - 1=H.length:=by simp
 rw[e,jo (x:=x) (by simp)]
 simp
theorem rd_b (o:List UInt8)(G:List E3): rdStep (o,G) 98=(o++[98],G++[Zero]):=rfl
theorem rd_B (o:List UInt8)(G:List E3): rdStep (o,G) 66=(o++[66],G++[Zero]):=rfl
theorem gr_last (n0:Int)(R:List (Int×Int)): ∃ H n,gr n0 R=H++[powA n]:=by
 cases R with
 | nil=>exact⟨[],n0,rfl⟩
 | cons p R=>obtain⟨s,n⟩:=p; exact⟨gr n0 R++[powA s],n,by simp[gr]⟩
theorem step_a (n0:Int)(R:List (Int×Int))(s:Int)(hs:s=1∨s = -1): ∃ n0' R',(∀ H x,gr n0 R=H++[x]→gr n0' R'=H++[timesE x ⟨s,0,0⟩])∧og R'=og R∧pr n0' R'=timesE (pr n0 R) ⟨s,0,0⟩∧sz n0' R'≤sz n0 R+1∧R'.length=R.length∧((∀ p∈R,p.1=1∨p.1 = -1)→∀ p∈R',p.1=1∨p.1 = -1):=by
 have h1:s.natAbs=1:=by rcases hs with rfl | rfl <;>rfl
 cases R with
 | nil =>
   refine⟨n0+s,[],fun H x h=>?_,rfl,(ze n0 s hs).symm,?_,rfl,fun h=>h⟩
   ·have:=List.append_inj' (s₁:=[]) (t₁:=[powA n0]) (s₂:=H) (t₂:=[x]) h (by simp)
    obtain⟨rfl,h2⟩:=this
    cases h2
    simp only[gr,List.nil_append];rw[ze n0 s hs]
   ·simp only[sz];omega
 | cons p R =>
   obtain⟨t,n⟩:=p
   refine⟨n0,(t,n+s)::R,fun H x h=>?_,rfl,?_,?_,rfl,fun h p hp=>?_⟩
   ·have e:gr n0 ((t,n)::R)=(gr n0 R++[powA t])++[powA n]:=by simp[gr]
    rw[e] at h
    obtain⟨rfl,h2⟩:=List.append_inj' h (by simp)
    cases h2
    simp only[gr];rw[ze n s hs];simp
   ·simp only[pr];rw[← ze n s hs,← timesE_assoc]
   ·simp only[sz];omega
   ·rcases List.mem_cons.1 hp with rfl | hp
    ·exact h (t,n) (by simp)
    ·exact h p (List.mem_cons_of_mem _ hp)
theorem step_t (n0:Int)(R:List (Int×Int))(s:Int): gr n0 ((s,0)::R)=gr n0 R++[powA s]++[Zero]∧pr n0 ((s,0)::R)=timesE (pr n0 R) ⟨0,0,s⟩:=by
 refine⟨by simp[gr,powA_zero],?_⟩
 simp only[pr];rw[powA_zero];exact timesE_one (qH _ _)
def tcount (L:List UInt8): Nat:=(L.filter fun n=>2≤n.toNat % 4).length
theorem tcount_snoc (L:List UInt8)(n:UInt8): tcount (L++[n])=tcount L+if 2≤n.toNat % 4 then 1 else 0:=by
 unfold tcount; rw[List.filter_append,List.length_append]
 congr 1
 by_cases h:2≤n.toNat % 4 <;>simp[h]
theorem read_inner:∀ (k:Nat) (L:List UInt8),L.length=k→∃ n0 R,readE (wordL L)=(og R,gr n0 R)∧prodE L=pr n0 R∧sz n0 R≤L.length∧R.length=tcount L∧∀ p∈R,p.1=1∨p.1 = -1
 | 0,L,h=>by
   have:L=[]:=List.length_eq_zero_iff.1 h
   subst this
   exact⟨0,[],rfl,rfl,by simp[sz],rfl,fun p hp=>by simp at hp⟩
 | k+1,L,h=>by
   have hne:L≠[]:=by intro e; subst e; simp at h
   obtain⟨M,c,rfl⟩:∃ M c,L=M++[c]:=⟨L.dropLast,L.getLast hne,(List.dropLast_concat_getLast hne).symm⟩
   obtain⟨n0,R,h1,h2,h3,h4,h5⟩:=read_inner k M (by simp at h; omega)
   have hw:readE (wordL (M++[c]))=(wdL c).foldl rdStep (readE (wordL M)):=by simp[readE,wordL,List.flatMap_append,List.foldl_append]
   have hl:(M++[c]).length=M.length+1:=by simp
   obtain⟨H,n,hg⟩:=gr_last n0 R
   rw[hw,h1,prodE_snoc,h2,tcount_snoc,← h4,hl]
   unfold wdL elL
   by_cases c0:c.toNat % 4=0
   ·rw[if_pos c0,if_pos c0,if_neg (show ¬ 2≤c.toNat % 4 by omega)]
    obtain⟨n0',R',k1,k2,k3,k4,k5,k6⟩:=step_a n0 R 1 (.inl rfl)
    refine⟨n0',R',?_,k3.symm,by omega,by omega,k6 h5⟩
    show rdStep (og R,gr n0 R) 97=_
    rw[hg,rd_last,k1 _ _ hg,k2]
   ·rw[if_neg c0,if_neg c0]
    by_cases c1:c.toNat % 4=1
    ·rw[if_pos c1,if_pos c1,if_neg (show ¬ 2≤c.toNat % 4 by omega)]
     obtain⟨n0',R',k1,k2,k3,k4,k5,k6⟩:=step_a n0 R (-1) (.inr rfl)
     refine⟨n0',R',?_,k3.symm,by omega,by omega,k6 h5⟩
     show rdStep (og R,gr n0 R) 65=_
     rw[hg,rd_lastA,k1 _ _ hg,k2]
    ·rw[if_neg c1,if_neg c1,if_pos (show 2≤c.toNat % 4 by omega)]
     have fin:∀ s:Int,s=1∨s = -1→∃ n0' R',(og R++[98]++[66],gr n0 R++[timesE Zero ⟨s,0,0⟩]++[Zero])=(og R',gr n0' R')∧timesE (pr n0 R) ⟨0,0,s⟩=pr n0' R'∧sz n0' R'≤M.length+1∧R'.length=R.length+1∧∀ p∈R',p.1=1∨p.1 = -1:=fun s hs=>by
      refine⟨n0,(s,0)::R,?_,(step_t n0 R s).2.symm,by simp only[sz];simp; omega,rfl,fun p hp=>?_⟩
      ·rw[(step_t n0 R s).1]
       have:timesE Zero ⟨s,0,0⟩=powA s:=by have:=ze 0 s hs; rw[powA_zero,Int.zero_add] at this; exact this
       rw[this];simp[og]
      ·rcases List.mem_cons.1 hp with rfl | hp
       ·exact hs
       ·exact h5 p hp
     by_cases c2:c.toNat % 4=2
     ·rw[if_pos c2,if_pos c2]
      obtain⟨n0',R',k1,k2,k3,k4,k5⟩:=fin 1 (.inl rfl)
      refine⟨n0',R',?_,k2,k3,k4,k5⟩
      show rdStep (rdStep (rdStep (og R,gr n0 R) 98) 97) 66=_
      rw[rd_b,rd_last,rd_B];exact k1
     ·rw[if_neg c2,if_neg c2]
      obtain⟨n0',R',k1,k2,k3,k4,k5⟩:=fin (-1) (.inr rfl)
      refine⟨n0',R',?_,k2,k3,k4,k5⟩
      show rdStep (rdStep (rdStep (og R,gr n0 R) 98) 65) 66=_
      rw[rd_b,rd_lastA,rd_B];exact k1
theorem powA_lat (n:Int): Lat n.natAbs (powA n):=by
 refine lat_plain (by simp) (fun _=>by omega) fun _=>?_
 have:((0:Int)+(n.natAbs:Int)).toNat=n.natAbs:=by omega
 rw[this]
 exact Nat.mul_le_mul_left _ (Nat.pow_le_pow_left (by omega) _)
theorem powA_v (n:Int): 0≤(powA n).v:=by
 unfold powA plainE; split
 ·simp
 ·show 0≤0+(lowE n:Int);omega
theorem powA_shx (n:Int): shx (powA n).u (powA n).v=n:=by
 unfold powA plainE
 split
 ·rename_i h; subst h
  show shx 0 ((0:Nat):Int)=0
  rw[shx_nat];simp
 ·show shx (shx n (-(lowE n:Int))) (0+(lowE n:Int))=n
  have:(0+(lowE n:Int)) = -(-(lowE n:Int)):=by omega
  rw[this];exact shx_back zo
def pwr:List (Int×Int)→List E3:=fun T=>T.flatMap fun p=>[powA p.1,powA p.2]
def pwo:List (Int×Int)→List UInt8:=fun T=>T.flatMap fun _=>[98,66]
def sz2:List (Int×Int)→Nat
 | []=>0
 | p::T=>1+p.2.natAbs+sz2 T
theorem red_inner:∀ (T:List (Int×Int)) (g0:E3) (k:Nat),Lat k g0→k+sz2 T≤110→(∀ p∈T,p.1=1∨p.1 = -1)→∃ st,redE (pwo T) (g0::pwr T) 0=some (st,[],[T.foldl (fun x p=>timesE (timesE x ⟨0,0,p.1⟩) (powA p.2)) g0])∧st.length=T.length
 | [],g0,k,_,_,_=>⟨[],zU (by simp[pwo]),rfl⟩
 | (s,n)::T,g0,k,hl,hk,hs=>by
   have hs1:s=1∨s = -1:=hs (s,n) (by simp)
   have ho:pwo ((s,n)::T)=98::66::pwo T:=rfl
   have hg:pwr ((s,n)::T)=powA s::powA n::pwr T:=rfl
   rw[ho,hg]
   have h1:0+1<(98::66::pwo T).length:=by simp
   have hx1:(g0::powA s::powA n::pwr T).getD (0+1) Zero=powA s:=rfl
   have hx2:(g0::powA s::powA n::pwr T).getD (0+2) Zero=powA n:=rfl
   have hx0:(g0::powA s::powA n::pwr T).getD 0 Zero=g0:=rfl
   have ho0:(98::66::pwo T).getD 0 (0:UInt8)=98:=rfl
   have ho1:(98::66::pwo T).getD (0+1) (0:UInt8)=66:=rfl
   have hp:pinAt (98::66::pwo T) (g0::powA s::powA n::pwr T) 0=true:=by
    unfold pinAt; rw[ho0,ho1,hx1]
    unfold pinB; rw[if_pos rfl]
    simp only[powA_m,powA_v,or_true,and_self,decide_true,Bool.and_true]
    decide
   have hK:pinK (98::66::pwo T) (g0::powA s::powA n::pwr T) 0=s:=by
    unfold pinK; rw[ho0,hx1];unfold powE; rw[if_pos rfl];exact powA_shx s
   have hE:pinE 98 s=⟨0,0,s⟩:=by unfold pinE; rw[if_neg (by decide)]
   have hz:sz2 ((s,n)::T)=1+n.natAbs+sz2 T:=rfl
   rw[hz] at hk
   obtain⟨ok1,l1⟩:=lat_times hl (lat_t s hs1) (by omega)
   obtain⟨ok2,l2⟩:=lat_times l1 (powA_lat n) (by omega)
   have hA:pinA (98::66::pwo T) (g0::powA s::powA n::pwr T) 0:=by
    unfold pinA; rw[hK,ho0,hx0,hx2]
    refine⟨qC (by rcases hs1 with rfl | rfl <;>simp),fun h=>absurd h (by decide),?_,?_⟩
    ·rw[hE];exact ok1
    ·rw[hE];exact ok2
   have hG:pinG (98::66::pwo T) (g0::powA s::powA n::pwr T) 0=timesE (timesE g0 ⟨0,0,s⟩) (powA n)::pwr T:=by
    unfold pinG; rw[hK,ho0,hx0,hx2];unfold pinX; rw[hE];rfl
   have hO:pinO (98::66::pwo T) 0=pwo T:=rfl
   obtain⟨st,h2,h3⟩:=red_inner T _ _ l2 (by omega) fun p hp=>hs p (List.mem_cons_of_mem _ hp)
   refine⟨(0,s)::st,?_,by simp[h3]⟩
   rw[redE_yes h1 hp hA,hK,hO,hG]
   show Option.map _ (redE _ _ 0)=_
   rw[h2];rfl
theorem gr_front (n0:Int): ∀ R,gr n0 R=powA n0::pwr R.reverse
 | []=>rfl
 | (s,n)::R=>by
   rw[gr,gr_front n0 R];simp[pwr,List.flatMap_append]
theorem og_front:∀ R,og R=pwo R.reverse
 | []=>rfl
 | p::R=>by rw[og,og_front R];simp[pwo,List.flatMap_append]
theorem pr_front (n0:Int): ∀ R,R.reverse.foldl (fun x p=>timesE (timesE x ⟨0,0,p.1⟩) (powA p.2)) (powA n0)=pr n0 R
 | []=>rfl
 | (s,n)::R=>by
   rw[List.reverse_cons,List.foldl_append,pr_front n0 R];rfl
theorem sz2_append:∀ a b,sz2 (a++b)=sz2 a+sz2 b
 | [],b=>by simp[sz2]
 | p::a,b=>by simp only[List.cons_append,sz2,sz2_append a b];omega
theorem sz_front (n0:Int): ∀ R,sz n0 R=n0.natAbs+sz2 R.reverse
 | []=>by simp[sz,sz2]
 | (s,n)::R=>by
   rw[sz,sz_front n0 R,List.reverse_cons,sz2_append];simp only[sz2];omega
theorem inner_law (L:List UInt8)(hL:L.length≤100): ∃ st,traceE (wordL L)=some (st,[],[prodE L])∧st.length=tcount L:=by
 obtain⟨n0,R,h1,h2,h3,h4,h5⟩:=read_inner L.length L rfl
 rw[sz_front] at h3
 obtain⟨st,h6,h7⟩:=red_inner R.reverse (powA n0) n0.natAbs (powA_lat n0) (by omega) (fun p hp=>h5 p (by simpa using hp))
 refine⟨st,?_,by rw[h7];simp[h4]⟩
 unfold traceE
 rw[h1,og_front,gr_front,h6,pr_front,h2]
end Sr
namespace Sr
open Go Go.Proofs Go.RowKit Go.Maps Go.WideMaps
theorem prodE_rel:prodE [2,0,3,1,1]=Zero:=by
 have e:prodE [2,0,3,1,1]=timesE (timesE (timesE (timesE (timesE Zero ⟨0,0,1⟩) ⟨1,0,0⟩) ⟨0,0,-1⟩) ⟨-1,0,0⟩) ⟨-1,0,0⟩:=rfl
 rw[e]
 refine yI (qH _ _) (.inl ⟨rfl,rfl⟩) ?_ ?_
 ·simp[zw]
 ·simp only[yH,zw]
  simp only[tq,qW,tp_one,Int.zero_add,Int.add_zero]
  simp[qW]
  grind
theorem mul_ex:timesE ⟨1,0,0⟩ ⟨0,0,1⟩=⟨1,0,1⟩:=by
 refine yI (qH _ _) (.inr rfl) ?_ ?_
 ·simp[zw]
 ·rw[yH];simp[tq,qW]
  grind
theorem mul_ok:TimesOK ⟨1,0,0⟩ ⟨0,0,1⟩:=(lat_times (lat_a 1 (.inl rfl)) (lat_t 1 (.inl rfl)) (by omega)).1
theorem ab_trace:∃ G,traceE [97,98]=some ([],[98],G):=by
 have h:(readE [97,98]).1=[98]:=rfl
 exact⟨_,by unfold traceE; rw[zU (by rw[h];simp),h]⟩
theorem rel_bytes:(⟨#[98,97,66,97,98,65,66,65,65]⟩:ByteArray).data.toList=wordL [2,0,3,1,1]:=by decide
theorem jx (W:World): Calls Tryz.prog 13 #[] W fun e W'=>e=.returned (.bool true)∧Hid (Below W.heap.size W W'):=by
 obtain⟨st,hin,hst⟩:=inner_law [2,0,3,1,1] (by decide)
 rw[prodE_rel] at hin
 have HIn:Hid (traceE (⟨#[98,97,66,97,98,65,66,65,65]⟩:ByteArray).data.toList=some (st,[],[Zero])):=by show _=_; rw[rel_bytes];exact hin
 have HSt:Hid (st.length=2):=by show _=_; rw[hst];decide
 have HWr:Hid (isWordL (⟨#[98,97,66,97,98,65,66,65,65]⟩:ByteArray).data.toList=true):=by show _=_; decide
 have HWa:Hid (isWordL (⟨#[97,98]⟩:ByteArray).data.toList=true):=by show _=_; decide
 have HWc:Hid (isWordL (⟨#[97,98,99]⟩:ByteArray).data.toList=false):=by show _=_; decide
 have hTr:=Trace_any (W:=W) (s:=⟨#[98,97,66,97,98,65,66,65,65]⟩) (by decide)
 clear hin hst
 go_enter Tryz.func13,Tryz.ntmps13
 go_wp2_with fail
 refine hTr.mono ?_
 rintro e w1 ⟨hb1,hcase⟩
 have HB1:=jH hb1.out
 obtain⟨sa,sc,qu,qv,qm,he,hie⟩:∃ sa sc qu qv qm,e=.returned (.tuple #[.slice sa 2 sc,.int .i64 0,.agg #[.pointer qu,.pointer qv,.pointer qm],.int .i64 0])∧IsE w1 (.agg #[.pointer qu,.pointer qv,.pointer qm]) Zero:=by
  rcases hcase with ⟨h,-⟩ | ⟨-,h,-⟩ | ⟨-,st',o,G,h,sa,sn,sc,qu,qv,qm,he,hs,hi⟩
  ·rw[HWr.out] at h; cases h
  ·rw[HIn.out] at h; cases h
  ·rw[HIn.out] at h; cases h
   obtain⟨vs,k1,k2,k3⟩:=hs.out.row
   obtain⟨a,c,hsh⟩:=ja k2
   cases hsh
   rw[HSt.out] at he
   exact⟨_,_,qu,qv,qm,he,hi.out⟩
 subst he
 have HIE:=jH hie
 clear hTr hb1 hcase hie
 have hUn:=Unit_any (W:=w1.alloc (.cells #[.pointer qu,.pointer qv,.pointer qm] 28)) (s:=⟨#[98,97,66,97,98,65,66,65,65]⟩) (by decide)
 have HB2:Hid (Below W.heap.size W (w1.alloc (.cells #[.pointer qu,.pointer qv,.pointer qm] 28))):=HB1.out.alloc HB1.out.size _
 have HH2:=jH ((Has.nil w1).add #[.pointer qu,.pointer qv,.pointer qm] 28)
 have HIE2:=jH (HIE.out.below ((Below.refl _ _).alloc (jR _) (.cells #[.pointer qu,.pointer qv,.pointer qm] 28)))
 go_wp2_with fail
 refine hUn.mono ?_
 rintro e w3 ⟨hb3,hcase⟩
 have he:e=.returned (.tuple #[.bool true,.int .i64 0]):=by
  rcases hcase with ⟨h,-⟩ | ⟨-,⟨st',o,G,h,he⟩ | ⟨h,-⟩⟩
  ·rw[HWr.out] at h; cases h
  ·rw[HIn.out] at h; cases h
   exact he
  ·rw[HIn.out] at h; cases h
 subst he
 have HB3:=jH (Below.trans' HB2.out hb3.out)
 have HH3:=jH (HH2.out.below hb3.out)
 have HIE3:=jH (HIE2.out.below hb3.out)
 clear hUn hb3 hcase
 have hUa:=Unit_any (W:=w3) (s:=⟨#[97,98]⟩) (by decide)
 go_wp2_with fail
 refine hUa.mono ?_
 rintro e w4 ⟨hb4,hcase⟩
 have he:e=.returned (.tuple #[.bool false,.int .i64 0]):=by
  obtain⟨G',hab⟩:=ab_trace
  rcases hcase with ⟨h,-⟩ | ⟨-,⟨st',o,G,h,he⟩ | ⟨h,-⟩⟩
  ·rw[HWa.out] at h; cases h
  ·have h':=h.symm.trans hab
   cases h'
   exact he
  ·have h':=h.symm.trans hab
   cases h'
 subst he
 have HB4:=jH (Below.trans' HB3.out hb4.out)
 have HH4:=jH (HH3.out.below hb4.out)
 have HIE4:=jH (HIE3.out.below hb4.out)
 clear hUa hb4 hcase
 have hO1:=Of_calls 1 (by decide) (by decide) w4
 go_wp2_with fail
 refine hO1.mono ?_
 rintro e w5 ⟨q5,rfl,hi5,hb5⟩
 have HB5:=jH (Below.trans' HB4.out hb5.out)
 have HH5:=jH (HH4.out.below hb5.out)
 have HIE5:=jH (HIE4.out.below hb5.out)
 have HI5:=jH hi5.out
 clear hO1 hb5 hi5
 have hO2:=Of_calls 1 (by decide) (by decide) w5
 go_wp2_with fail
 refine hO2.mono ?_
 rintro e w6 ⟨q6,rfl,hi6,hb6⟩
 have HB6:=jH (Below.trans' HB5.out hb6.out)
 have HH6:=jH (HH5.out.below hb6.out)
 have HIE6:=jH (HIE5.out.below hb6.out)
 have HI56:=jH (HI5.out.below hb6.out)
 have HI6:=jH hi6.out
 clear hO2 hb6 hi6
 have hMu:=Mul_calls (W:=w6) (V1:=.agg #[.pointer q5,.pointer none,.pointer none]) (V2:=.agg #[.pointer none,.pointer none,.pointer q6]) (x:=⟨1,0,0⟩) (y:=⟨0,0,1⟩) ⟨q5,none,none,rfl,HI56.out,j4 _,j4 _⟩ ⟨none,none,q6,rfl,j4 _,j4 _,HI6.out⟩ mul_ok
 go_wp2_with fail
 refine hMu.mono ?_
 rintro e w7 ⟨pu,pv,pm,rfl,hi7,hb7⟩
 have HB7:=jH (Below.trans' HB6.out hb7.out)
 have HH7:=jH (HH6.out.below hb7.out)
 have HIE7:=jH (HIE6.out.below hb7.out)
 have HX7:Hid (IsE w7 (.agg #[.pointer pu,.pointer pv,.pointer pm]) ⟨1,0,1⟩):=by
  show IsE _ _ _
  rw[← mul_ex];exact hi7.out
 clear hMu hb7 hi7
 have HD8:Hid (Below w7.heap.size w7 (w7.alloc (.cells #[.pointer pu,.pointer pv,.pointer pm] 28))):=(Below.refl _ _).alloc (jR _) _
 have HB8:=jH (Below.trans' HB7.out HD8.out)
 have HH8:=jH (HH7.out.add #[.pointer pu,.pointer pv,.pointer pm] 28)
 have HIE8:=jH (HIE7.out.below HD8.out)
 have HX8:=jH (HX7.out.below HD8.out)
 have hUc:=Unit_any (W:=w7.alloc (.cells #[.pointer pu,.pointer pv,.pointer pm] 28)) (s:=⟨#[97,98,99]⟩) (by decide)
 go_wp2_with fail
 refine hUc.mono ?_
 rintro e w9 ⟨hb9,hcase⟩
 have he:e=.returned (.tuple #[.bool false,.int .i64 2]):=by
  rcases hcase with ⟨-,he⟩ | ⟨h,-⟩
  ·exact he
  ·rw[HWc.out] at h; cases h
 subst he
 have HB9:=jH (Below.trans' HB8.out hb9.out)
 have HH9:=jH (HH8.out.below hb9.out)
 have HIE9:=jH (HIE8.out.below hb9.out)
 have HX9:=jH (HX8.out.below hb9.out)
 clear hUc hb9 hcase
 go_wp2_with fail
 have HK:Hid (∀ w':World,Below w9.heap.size w9 w'→w'.cell? ⟨w1.heap.size,2,none⟩=some (.pointer qm)∧w'.cell? ⟨w7.heap.size,2,none⟩=some (.pointer pm)∧w'.cell? ⟨w7.heap.size,0,none⟩=some (.pointer pu)∧w'.cell? ⟨w7.heap.size,1,none⟩=some (.pointer pv)):=fun w' hb=>by
  have h:=HH9.out.below hb
  exact⟨h.cell (b:=w1.heap.size) (c:=#[.pointer qu,.pointer qv,.pointer qm]) (T:=28) (by simp) 2,h.cell (b:=w7.heap.size) (c:=#[.pointer pu,.pointer pv,.pointer pm]) (T:=28) (by simp) 2,h.cell (b:=w7.heap.size) (c:=#[.pointer pu,.pointer pv,.pointer pm]) (T:=28) (by simp) 0,h.cell (b:=w7.heap.size) (c:=#[.pointer pu,.pointer pv,.pointer pm]) (T:=28) (by simp) 1⟩
 obtain⟨iu,iv,im⟩:=IsE.parts (t:=⟨qu,qv,qm⟩) HIE9.out
 obtain⟨ju,jv,jm⟩:=IsE.parts (t:=⟨pu,pv,pm⟩) HX9.out
 have h0:isg (0:Int)=0:=by simp[isg]
 have hSA:∀ w',Below w9.heap.size w9 w'→Calls Tryz.prog 30 #[.agg #[.pointer qm]] w' fun e w''=>e=.returned (.int .i64 0)∧Hid (Below w9.heap.size w9 w''):=fun w' hb =>
  (qQ (im.below hb)).mono fun e w'' ⟨h1,h2⟩=>⟨by rw[h1,h0],Below.trans' hb h2.out⟩
 have hSB:∀ w',Below w9.heap.size w9 w'→Calls Tryz.prog 30 #[.agg #[.pointer pv]] w' fun e w''=>e=.returned (.int .i64 0)∧Hid (Below w9.heap.size w9 w''):=fun w' hb =>
  (qQ (jv.below hb)).mono fun e w'' ⟨h1,h2⟩=>⟨by rw[h1,h0],Below.trans' hb h2.out⟩
 have hOf:∀ w',Below w9.heap.size w9 w'→Calls Tryz.prog 20 #[.int .i64 1] w' fun e w''=>∃ q,e=.returned (.agg #[.pointer q])∧Hid (IsN w'' (.agg #[.pointer q]) 1)∧Hid (Below w9.heap.size w9 w''):=fun w' hb =>
  (Of_calls 1 (by decide) (by decide) w').mono fun e w'' ⟨q,h1,h2,h3⟩=>⟨q,h1,h2,Below.trans' hb h3.out⟩
 have hCA:∀ w' q,Below w9.heap.size w9 w'→IsN w' (.agg #[.pointer q]) 1→Calls Tryz.prog 31 #[.agg #[.pointer pm],.agg #[.pointer q]] w' fun e w''=>e=.returned (.int .i64 0)∧Hid (Below w9.heap.size w9 w''):=fun w' q hb hq =>
  (yF (jm.below hb) hq).mono fun e w'' ⟨h1,h2⟩=>⟨by rw[h1];rw[show isg ((⟨1,0,1⟩:E3).m - 1)=0 from by simp[isg]],Below.trans' hb h2.out⟩
 have hCB:∀ w' q,Below w9.heap.size w9 w'→IsN w' (.agg #[.pointer q]) 1→Calls Tryz.prog 31 #[.agg #[.pointer pu],.agg #[.pointer q]] w' fun e w''=>e=.returned (.int .i64 0)∧Hid (Below w9.heap.size w9 w''):=fun w' q hb hq =>
  (yF (ju.below hb) hq).mono fun e w'' ⟨h1,h2⟩=>⟨by rw[h1];rw[show isg ((⟨1,0,1⟩:E3).u - 1)=0 from by simp[isg]],Below.trans' hb h2.out⟩
 have HSA:=jH hSA
 have HSB:=jH hSB
 have HOf:=jH hOf
 have HCA:=jH hCA
 have HCB:=jH hCB
 have HBd:Hid (Below w9.heap.size w9 w9.drew):=(Below.refl _ _).drew
 clear hSA hSB hOf hCA hCB iu iv im ju jv jm h0
 go_region_held2 (fun w'=>w'.cell? ⟨w1.heap.size,2,none⟩=some (.pointer qm)∧w'.cell? ⟨w7.heap.size,2,none⟩=some (.pointer pm)∧w'.cell? ⟨w7.heap.size,0,none⟩=some (.pointer pu)∧w'.cell? ⟨w7.heap.size,1,none⟩=some (.pointer pv))
  (first | exact HK.out _ HB26.out | exact HK.out _ HB25.out | exact HK.out _ HB24.out | exact HK.out _ HB23.out | exact HK.out _ HB22.out | exact HK.out _ HB21.out | exact HK.out _ HBd.out)
  (first
    | (go_at_call 30; (with_reducible refine (HSB.out _ HB25.out).mono ?_);rintro e w26 ⟨rfl,HB26⟩)
    | (go_at_call 31; (with_reducible refine (HCB.out _ _ HB24.out HI24.out).mono ?_);rintro e w25 ⟨rfl,HB25⟩)
    | (go_at_call 20; (with_reducible refine (HOf.out _ HB23.out).mono ?_);rintro e w24 ⟨q24,rfl,HI24,HB24⟩)
    | (go_at_call 31; (with_reducible refine (HCA.out _ _ HB22.out HI22.out).mono ?_);rintro e w23 ⟨rfl,HB23⟩)
    | (go_at_call 20; (with_reducible refine (HOf.out _ HB21.out).mono ?_);rintro e w22 ⟨q22,rfl,HI22,HB22⟩)
    | (go_at_call 30; (with_reducible refine (HSA.out _ HBd.out).mono ?_);rintro e w21 ⟨rfl,HB21⟩))
 all_goals
  go_wp2_with fail
  go_ret
  exact⟨rfl,Below.trans' HB9.out HB26.out⟩
section
theorem SRd.take {w:World}{a:Option Addr}{n c k:Nat}{S:List Stp}(h:SRd w (.slice a n c) S)(hk:k≤n): SRd w (.slice a k c) (S.take k):=by
 obtain⟨a',c',he,h1⟩:=h
 obtain⟨rfl,hn,rfl⟩:=Value.slice.inj he
 refine⟨a,c,by simp; omega,fun j s hs=>?_⟩
 rw[List.getElem?_take] at hs
 split at hs
 ·exact h1 j s hs
 ·cases hs
variable {k:Nat}
theorem SRd.put {W:World}{g n c:Nat}{S:List Stp}{cur:Array Value}(h:SRd W (.slice (some ⟨g,0,none⟩) n c) S)(hg:W.heap[g]? = some (.cells cur 42 (0,0)))(hk:k<S.length)(hcs:S.length*2≤cur.size){i:Int}(hi:-9223372036854775808≤i∧i≤9223372036854775807){u:Value}{pw:List UInt8}(hu:BRow W u pw):
 SRd ((W.setCell ⟨g,k*2,none⟩ (.int .i64 i)).setCell ⟨g,k*2+1,none⟩ u) (.slice (some ⟨g,0,none⟩) n c) (S.set k (i,pw)):=by
 obtain⟨a',c',he,h1⟩:=h
 obtain⟨rfl,hn,rfl⟩:=Value.slice.inj he
 have g1:(W.setCell ⟨g,k*2,none⟩ (.int .i64 i)).heap[g]? = some (.cells (cur.setIfInBounds (k*2) (.int .i64 i)) 42 (0,0)):=heap_setCell_same W g _ _ 42 _ hg
 have g2:((W.setCell ⟨g,k*2,none⟩ (.int .i64 i)).setCell ⟨g,k*2+1,none⟩ u).heap[g]? = some (.cells ((cur.setIfInBounds (k*2) (.int .i64 i)).setIfInBounds (k*2+1) u) 42 (0,0)):=heap_setCell_same _ g _ _ 42 _ g1
 have keep:∀ {x:Value} {l:List UInt8},BRow W x l→BRow ((W.setCell ⟨g,k*2,none⟩ (.int .i64 i)).setCell ⟨g,k*2+1,none⟩ u) x l:=fun {x l} hx=>jJ hx fun b e=>by
  obtain⟨c',hc'⟩:=jO hx e
  have hne:b≠g:=jI hc' hg (by decide)
  exact (jS _ _ _ _ hne).trans (jS _ _ _ _ hne)
 refine⟨some ⟨g,0,none⟩,c,by simp[hn],fun j s hs=>?_⟩
 rw[List.getElem?_set] at hs
 split at hs
 ·rename_i hkj
  subst hkj
  simp at hs; subst hs
  refine⟨hi,g,u,rfl,?_,?_,keep hu⟩
  ·rw[jB g2,Array.getElem?_setIfInBounds_ne (by omega),Array.getElem?_setIfInBounds_self_of_lt (by omega)]
  ·rw[jB g2,Array.getElem?_setIfInBounds_self_of_lt (by simp; omega)]
 ·rename_i hkj
  obtain⟨k0,g',u',k1,k2,k3,k4⟩:=h1 j s hs
  cases k1
  refine⟨k0,g,u',rfl,?_,?_,keep k4⟩
  ·rw[jB g2,Array.getElem?_setIfInBounds_ne (by omega),Array.getElem?_setIfInBounds_ne (by omega),← jB hg];exact k2
  ·rw[jB g2,Array.getElem?_setIfInBounds_ne (by omega),Array.getElem?_setIfInBounds_ne (by omega),← jB hg];exact k3
section
variable {ops:Array Oper} {rest:List Oper} {o:Oper} {a:Act} {Q:Exit→Act→World→Prop} {W:World}
theorem own_none {W:World}{B:Nat}{e:TypeId}{z:Nat}(h:W.heap[B]? = some (.cells #[] e (0,0))): W.ownsRow 0 e z (.slice (some ⟨B,0,none⟩) 0 0) 0 [] :=
 ⟨by simp,.inr ⟨B,0,#[],rfl,Nat.zero_le _,h,jR _,Nat.zero_le _,by simp,by simp⟩⟩
end
section
variable {ops:Array Oper} {o:Oper} {a:Act} {K:Act→World→Prop} {Q:Exit→Act→World→Prop} {E:Prop} {W:World}
end
theorem below_grown {W0 W w:World}{B0:Nat}(h:Below W0.heap.size W0 W)(hB:W0.heap.size≤B0)(G:W.grownBy w (some B0)): Below W0.heap.size W0 w :=
 ⟨G.os.trans h.os,G.tape.trans h.tape,G.output.trans h.output,Nat.le_trans h.size G.size,fun b hb=>(G.block b (Nat.lt_of_lt_of_le hb h.size) (fun e=>by cases e; omega)).trans (h.block b hb)⟩
theorem take_set {α:Type}{l:List α}(h:k<l.length)(x:α): (l.take (k+1)).set k x=l.take k++[x]:=by
 rw[List.take_add_one,jG h]
 have e:(l.take k).length=k:=by simp; omega
 simp only[Option.toList_some]
 rw[List.set_append,if_neg (by omega),e,Nat.sub_self]
 rfl
end
section
def BIn (w:World)(v:Value)(l:List UInt8): Prop:=(v=.slice none 0 0∧l=[])∨(∃ (a:Addr) (c:Nat),v=.slice (some a) 0 c∧l=[])∨∃ g o c,v=.slice (some ⟨g,o,none⟩) l.length c∧∀ (j:Nat) (b:UInt8),l[j]? = some b→w.cell? ⟨g,o+j,none⟩=some (.int .u8 (b.toNat:Nat))
variable {w w':World} {v:Value} {l:List UInt8} {B0:Nat}
theorem BIn.below (h:BIn w v l)(hb:Below w.heap.size w w'): BIn w' v l:=by
 rcases h with h | h | ⟨g,o,c,h0,h1⟩
 ·exact .inl h
 ·exact .inr (.inl h)
 ·exact .inr (.inr ⟨g,o,c,h0,fun j b hj=>jQ hb (h1 j b hj)⟩)
def SIn (w:World)(v:Value)(S:List Stp): Prop:=∃ a c,v=.slice a S.length c∧∀ (j:Nat) (s:Stp),S[j]? = some s→(-9223372036854775808≤s.1∧s.1≤9223372036854775807)∧∃ g off u,a=some ⟨g,off,none⟩∧w.cell? ⟨g,off+j*2,none⟩=some (.int .i64 s.1)∧w.cell? ⟨g,off+j*2+1,none⟩=some u∧BIn w u s.2
theorem SIn.below {w w':World}{v:Value}{S:List Stp}(h:SIn w v S)(hb:Below w.heap.size w w'): SIn w' v S:=by
 obtain⟨a,c,h0,h1⟩:=h
 refine⟨a,c,h0,fun j s hs=>?_⟩
 obtain⟨k0,g,off,u,k1,k2,k3,k4⟩:=h1 j s hs
 exact⟨k0,g,off,u,k1,jQ hb k2,jQ hb k3,k4.below hb⟩
theorem BIn.shape (h:BIn w v l): ∃ a c,v=.slice a l.length c:=by
 rcases h with ⟨rfl,rfl⟩ | ⟨a,c,rfl,rfl⟩ | ⟨g,o,c,h0,_⟩
 ·exact⟨none,0,rfl⟩
 ·exact⟨_,c,rfl⟩
 ·exact⟨_,c,h0⟩
theorem conv_In (h:BIn w v l)(hc:∀ g o x,w.cell? ⟨g,o,none⟩=some x→w'.cell? ⟨g,o,none⟩=some x): (Go.convert 40 9 v).run Tryz.prog w'=.ok (.string ⟨l.toArray⟩) w':=by
 have u5:Tryz.prog.underlying 5=some (.int .u8):=by kernel_rfl
 have u9:Tryz.prog.underlying 9=some .string:=by kernel_rfl
 rcases h with ⟨rfl,rfl⟩ | ⟨a,c,rfl,rfl⟩ | ⟨g,o,c,rfl,h2⟩
 ·rw[run_convert_bytes_string w' 40 9 5 none 0 0 un40 u5 u9]
  simp[Conv.bytesToString];rfl
 ·exact run_convert_bytes_back w' 40 9 5 a c [] un40 u5 u9 fun j hj=>absurd hj (by simp)
 ·refine run_convert_bytes_back w' 40 9 5 ⟨g,o,none⟩ c l un40 u5 u9 fun j hj=>?_
  rw[Addr.add_lit]
  exact hc _ _ _ (h2 j l[j] (jG hj))
theorem conv_Id (h:BIn w v l)(n:Nat): (Go.convert 40 9 v).run Tryz.prog (w.drewN n)=.ok (.string ⟨l.toArray⟩) (w.drewN n):=conv_In h fun _ _ _ hx=>hx
theorem conv_Ib (h:BIn w v l)(hb:Below w.heap.size w w'): (Go.convert 40 9 v).run Tryz.prog w'=.ok (.string ⟨l.toArray⟩) w':=conv_In h fun _ _ _ hx=>jQ hb hx
section
variable {ops:Array Oper} {o:Oper} {a:Act} {K:Act→World→Prop} {Q:Exit→Act→World→Prop} {E:Prop} {W:World}
theorem stepP_I0 (hgd:o.guard=none)(s x:Operand)(ho:o.op=.call { callee:=.builtin .append,args:=#[s,x],argTypes:=#[40,40] }) 
 (B0:Nat) (hs:a.eval s=.slice (some ⟨B0,0,none⟩) 0 0) (hB0:W.heap[B0]? = some (.cells #[] 5 (0,0))) (B o0 m c:Nat) (hx:a.eval x=.slice (some ⟨B,o0,none⟩) m c) (l:List UInt8)
 (hr:BIn W (.slice (some ⟨B,o0,none⟩) m c) l) (hm:0<m) (hb:m≤140737488355328)
 (h:∀ g cap w',BRow w' (.slice (some ⟨g,0,none⟩) m cap) l→W.grownBy w' (some B0)→(g=B0∨g=W.heap.size)→g<w'.heap.size→K (a.put o.dst (.slice (some ⟨g,0,none⟩) m cap)) w') :
 if Region.wanted o (yielded ops a.tmps)=true then Oper.wp Tryz.prog o a W K Q else E:=by
 obtain⟨ii,hi,hz0,hz1,hz2⟩:=info_parts info5
 obtain⟨g0,o1,c0,he,hc⟩:∃ g o c',Value.slice (some ⟨B,o0,none⟩) m c=.slice (some ⟨g,o,none⟩) l.length c'∧∀ (j:Nat) (b:UInt8),l[j]? = some b→W.cell? ⟨g,o+j,none⟩=some (.int .u8 (b.toNat:Nat)):=by
  rcases hr with ⟨h,_⟩ | ⟨a',c',h,_⟩ | h
  ·cases h
  ·have:=(Value.slice.inj h).2.1; omega
  ·exact h
 obtain⟨e1,rfl,rfl⟩:=Value.slice.inj he
 cases e1
 refine step_append_lies _ hgd s x 40 ho 0 5 ii _ 1 1 un40 hi hz0 hz1 hz2 rfl (by decide) _ 0 [] hs (own_none hB0) ⟨B,o0,none⟩ l.length c (l.map fun b=>Value.int .u8 (b.toNat:Nat)) hx (by simp) (fun j u hu=>by
  rw[List.getElem?_map] at hu
  cases hj:l[j]? with
  | none=>rw[hj] at hu; cases hu
  | some b =>
    rw[hj] at hu; simp at hu; subst hu
    rw[Addr.add_lit];exact hc j b hj) (by intro u hu; obtain⟨b,_,rfl⟩:=List.mem_map.1 hu; rfl) hm (by simp only[maxLen];omega) (by omega) (Nat.zero_le _) _ rfl ?_
 intro g cap w' k1 k2 k3 k4
 rw[Nat.zero_add,List.nil_append] at k1
 have:=h g cap w' k1 k2 (k3.imp (fun e=>by cases e; rfl) id) k4
 rwa [Nat.zero_add]
theorem step_none (hgd:o.guard=none)(s x:Operand)(ho:o.op=.call { callee:=.builtin .append,args:=#[s,x],argTypes:=#[40,40] }) 
 (B0:Nat) (hs:a.eval s=.slice (some ⟨B0,0,none⟩) 0 0) (u:Value) (hx:a.eval x=u) (hr:BIn W u [])
 (h:K (a.put o.dst (.slice (some ⟨B0,0,none⟩) 0 0)) W) :
 if Region.wanted o (yielded ops a.tmps)=true then Oper.wp Tryz.prog o a W K Q else E:=by
 have hw:Region.wanted o (yielded ops a.tmps)=true:=by simp[Region.wanted,hgd]
 rw[if_pos hw]
 obtain⟨ii,hi,hz0,hz1,hz2⟩:=info_parts info5
 have hS:Go.Src Tryz.prog ii.size 40 u 0 [] W:=by
  rcases hr with ⟨rfl,-⟩ | ⟨a',c,rfl,-⟩ | ⟨g,o1,c,rfl,-⟩
  ·exact Src.ofNil W un40 0
  ·exact Src.ofSlice W un40 a' 0 c [] (by simp) (fun j u hu=>by simp at hu) (by simp)
  ·exact Src.ofSlice W un40 ⟨g,o1,none⟩ 0 c [] (by simp) (fun j u hu=>by simp at hu) (by simp)
 have hrun:=run_append_nothing W 40 40 o.type 5 ii un40 hi (some ⟨B0,0,none⟩) 0 0 (jR _) u hS
 unfold Oper.wp execOp
 simp only[ho,resolve,invoke,builtin,Sem.run_bind,Sem.run_pure,Result.andThen_ok,List.map_toArray,List.map_cons,List.map_nil,hs,hx,hrun]
 exact h
theorem stepP_I (hgd:o.guard=none)(s x:Operand)(ho:o.op=.call { callee:=.builtin .append,args:=#[s,x],argTypes:=#[40,40] }) 
 (B0:Nat) (hs:a.eval s=.slice (some ⟨B0,0,none⟩) 0 0) (hB0:W.heap[B0]? = some (.cells #[] 5 (0,0))) (u:Value) (hx:a.eval x=u) (l:List UInt8)
 (hr:BIn W u l) (hb:l.length≤140737488355328)
 (h:∀ g cap w',BRow w' (.slice (some ⟨g,0,none⟩) l.length cap) l→W.grownBy w' (some B0)→K (a.put o.dst (.slice (some ⟨g,0,none⟩) l.length cap)) w') :
 if Region.wanted o (yielded ops a.tmps)=true then Oper.wp Tryz.prog o a W K Q else E:=by
 by_cases h0:l=[]
 ·subst h0
  exact step_none hgd s x ho B0 hs u hx hr (h B0 0 W (own_none hB0) ⟨rfl,rfl,rfl,jR _,fun _ _ _=>rfl⟩)
 ·have hr2:=hr
  rcases hr2 with ⟨_,h1⟩ | ⟨_,_,_,h1⟩ | ⟨g,o1,c,hu,h2⟩
  ·exact absurd h1 h0
  ·exact absurd h1 h0
  ·subst hu
   exact stepP_I0 hgd s x ho B0 hs hB0 g o1 l.length c hx l hr (List.length_pos_iff.2 h0) hb fun g' cap w' k1 k2 _ _=>h g' cap w' k1 k2
end
theorem below_grownO {W0 W:World}{vo:Option Nat}(h:Below W0.heap.size W0 W)(hB:∀ b,vo=some b→W0.heap.size≤b)(G:W.grownBy w vo): Below W0.heap.size W0 w :=
 ⟨G.os.trans h.os,G.tape.trans h.tape,G.output.trans h.output,Nat.le_trans h.size G.size,fun b hb=>(G.block b (Nat.lt_of_lt_of_le hb h.size) (fun e=>by have:=hB b e.symm; omega)).trans (h.block b hb)⟩
def stv:List Stp→List Value→List Value
 | s::S,u::us=>.int .i64 s.1::u::stv S us
 | _,_=>[]
theorem stv_snoc:∀ {S:List Stp} {us:List Value} (s:Stp) (u:Value),us.length=S.length→stv (S++[s]) (us++[u])=stv S us++[.int .i64 s.1,u]
 | [],[],_,_,_=>rfl
 | s0::S,u0::us,s,u,h=>by
   have:=stv_snoc (S:=S) (us:=us) s u (by simpa using h)
   simp[stv,this]
 | [],_::_,_,_,h=>by simp at h
 | _::_,[],_,_,h=>by simp at h
theorem stv_at:∀ {S:List Stp} {us:List Value} {j:Nat} {s:Stp} {u:Value},S[j]? = some s→us[j]? = some u→(stv S us)[j*2]? = some (.int .i64 s.1)∧(stv S us)[j*2+1]? = some u
 | [],_,_,_,_,h,_=>by simp at h
 | _::_,[],_,_,_,_,h=>by simp at h
 | s::S,u::us,0,_,_,h1,h2=>by simp at h1 h2; subst h1 h2; simp[stv]
 | s::S,u::us,j+1,_,_,h1,h2=>by
   have:=stv_at (S:=S) (us:=us) (j:=j) (by simpa using h1) (by simpa using h2)
   rw[show (j+1)*2=(j*2)+1+1 by omega]
   simpa [stv] using this
structure GRow (B0:Nat)(w:World)(v:Value)(S:List Stp): Prop where
 row:∃ us,us.length=S.length∧w.ownsRow 0 42 2 v S.length (stv S us)∧∀ (i:Nat) (u:Value) (s:Stp),us[i]? = some u→S[i]? = some s→BRow w u s.2
 own:∀ b,v.ownBlock=some b→B0≤b
theorem GRow.below {S:List Stp}(h:GRow B0 w v S)(hb:Below w.heap.size w w'): GRow B0 w' v S:=by
 obtain⟨⟨us,h1,h2,h3⟩,h4⟩:=h
 exact⟨⟨us,h1,zJ h2 hb,fun i u s hi hs=>jK (h3 i u s hi hs) hb⟩,h4⟩
theorem GRow.nil (B0:Nat)(w:World): GRow B0 w (.slice none 0 0) []:=⟨⟨[],rfl,⟨by simp[stv],.inl ⟨rfl,rfl⟩⟩,fun i u s h=>by simp at h⟩,fun b h=>by cases h⟩
theorem GRow.srd {S:List Stp}(h:GRow B0 w v S)(hz:∀ s∈S,-9223372036854775808≤s.1∧s.1≤9223372036854775807): SRd w v S:=by
 obtain⟨⟨us,hl,h,hb⟩,-⟩:=h
 obtain⟨-,⟨rfl,h0⟩ | ⟨g,cap,cur,rfl,h1,h2,h3,h4,h5,h6⟩⟩:=h
 ·obtain rfl:S=[]:=List.length_eq_zero_iff.1 h0
  exact⟨none,0,rfl,fun j s hs=>by simp at hs⟩
 ·refine⟨some ⟨g,0,none⟩,cap,by simp,fun j s hs=>?_⟩
  have hlt:j<S.length:=(jL hs).1
  obtain⟨u,hu⟩:∃ u,us[j]? = some u:=⟨_,jG (by omega)⟩
  obtain⟨k1,k2⟩:=stv_at hs hu
  refine⟨hz s (jM hs),g,u,rfl,?_,?_,hb j u s hu hs⟩
  ·rw[jB h2,← Array.getElem?_toList]
   rw[← h6,List.getElem?_take,if_pos (by omega)] at k1
   exact k1
  ·rw[jB h2,← Array.getElem?_toList]
   rw[← h6,List.getElem?_take,if_pos (by omega)] at k2
   exact k2
theorem GRow.snoc {S:List Stp}{us:List Value}{s:Stp}{u:Value}{g cap:Nat}(hl:us.length=S.length)(hb:∀ (i:Nat) (u:Value) (s:Stp),us[i]? = some u→S[i]? = some s→BRow w u s.2)(hu:BRow w u s.2)(hv:∀ b,v.ownBlock=some b→B0≤b∧∃ cs,w.heap[b]? = some (.cells cs 42 (0,0))) 
 (hB:B0≤w.heap.size) (K:w'.ownsRow 0 42 2 (.slice (some ⟨g,0,none⟩) (S.length+1) cap) (S.length+1) (stv S us++[.int .i64 s.1,u])) (G:w.grownBy w' v.ownBlock) (A:v.ownBlock=some g∨g=w.heap.size) :
 GRow B0 w' (.slice (some ⟨g,0,none⟩) (S.length+1) cap) (S++[s]):=by
 have keep:∀ {x:Value} {l:List UInt8},BRow w x l→BRow w' x l:=fun {x l} hx=>jJ hx fun b e=>by
  obtain⟨c',hc'⟩:=jO hx e
  refine G.block b (jA hc').1 fun e2=>?_
  obtain⟨-,cs,hcs⟩:=hv b e2.symm
  exact jI hc' hcs (by decide) rfl
 refine⟨⟨us++[u],by simp[hl],by rw[List.length_append,List.length_singleton,stv_snoc s u hl];exact K,fun i x t hi ht=>?_⟩,fun b hb=>?_⟩
 ·rcases Nat.lt_or_ge i us.length with h | h
  ·rw[List.getElem?_append_left h] at hi
   rw[List.getElem?_append_left (by omega)] at ht
   exact keep (hb i x t hi ht)
  ·rw[List.getElem?_append_right h] at hi
   rw[List.getElem?_append_right (by omega)] at ht
   have hi2:=(jL hi).1
   simp at hi2
   obtain rfl:i=us.length:=by omega
   rw[Nat.sub_self] at hi
   rw[hl,Nat.sub_self] at ht
   simp at hi ht
   subst hi ht
   exact keep hu
 ·cases hb
  rcases A with h | h
  ·exact (hv _ h).1
  ·show B0≤g
   omega
end
end Sr

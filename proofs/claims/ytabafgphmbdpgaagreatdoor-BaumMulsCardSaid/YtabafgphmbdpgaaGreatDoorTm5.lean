/- Texts of this claim, joined: RawO. -/
import Derived.Test.YtabafgphmbdpgaaGreatDoorTm3
import Derived.Test.YtabafgphmbdpgaaGreatDoorTe1
import Derived.Deep.SlicePairs
import Derived.Deep.Strs
import Derived.SizedLaws
import Derived.OpenShut
set_option maxHeartbeats 8000000
set_option maxRecDepth 100000
namespace Sr
open Go Go.Proofs Go.RowKit Go.ChangeShapes Go.WideShapes
theorem RIn.up {w:World}: ∀ {n m:Nat} {v:Value} {l:List Raw},RIn w n v l→n≤m→RIn w m v l
 | 0,_,_,_,h,_=>h.elim
 | n+1,0,_,_,_,h=>absurd h (by omega)
 | n+1,m+1,v,l,h,hm=>by
   obtain⟨h0,a,c,h1,h2⟩:=h
   refine⟨h0,a,c,h1,fun j r hr=>?_⟩
   obtain⟨g,off,u,k1,k2,k3,k4⟩:=h2 j r hr
   exact⟨g,off,u,k1,k2,k3,RIn.up k4 (by omega)⟩
theorem all_le (f:Nat→Nat): ∀ n,∃ M,∀ i,i<n→f i≤M
 | 0=>⟨0,fun i h=>absurd h (by omega)⟩
 | n+1=>by
   obtain⟨M,h⟩:=all_le f n
   refine⟨M+f n,fun i hi=>?_⟩
   rcases Nat.lt_or_ge i n with h1 | h1
   ·have:=h i h1; omega
   ·obtain rfl:i=n:=by omega
    omega
theorem weights_mem {H:Type}{P:Program}{e:TypeId}: ∀ {ds:List (DataW H)} {d:DataW H},d∈ds→∀ n∈d.weights P e,n∈DataW.weightsAll P e ds
 | d0::ds,d,h,n,hn=>by
   simp only[DataW.weightsAll,List.mem_append]
   rcases List.mem_cons.1 h with rfl | h
   ·exact .inl hn
   ·exact .inr (weights_mem h n hn)
 | [],_,h,_,_=>by simp at h
theorem raw_of {W:World}{H:Type}{enc:TypeId×Value→H}: ∀ (N:Nat) (D:DataW H),sizeOf D≤N→∀ (n:Nat) (u:Value) (Pl:List MemPlace),DataW.trod enc Tryz.prog W 0 (fun _=>true) true n 86 [u]=some (D,Pl)→(∀ k∈D.weights Tryz.prog 86,k≤reachBytes)→∃ m l,RIn W m u l:=by
 intro N
 induction N with
 | zero =>
   intro D hD
   cases D <;>simp at hD
 | succ N ih =>
   intro D hD n u Pl h hsz
   rcases Go.Deep.open_slice_pairs Tryz.underlying86 Tryz.underlying177 (by kernel_rfl) rfl rfl (by kernel_rfl) (by kernel_rfl) h with ⟨hcs,_⟩ | ⟨a,len,cap,m,n',V0,V1,D0,D1,P0,P1,hcs,_,hl,hm,hmm,hd,hx⟩
   ·simp at hcs
    subst hcs
    exact⟨1,[],by simp,none,0,rfl,fun j r hr=>by simp at hr⟩
   ·simp at hcs
    subst hcs
    have hlm:len≤m:=by rw[hmm];split <;>omega
    have hd':D=.slice ((List.range len).map fun i=>.agg [D0 i,D1 i]) ((List.range (m - len)).map fun j=>.agg [D0 (len+j),D1 (len+j)]):=(Prod.mk.inj hd).1
    have hlen:len≤140737488355328:=by
     have hmem:(len+(m - len))*Tryz.prog.bytesOf 177∈D.weights Tryz.prog 86:=by
      rw[hd']
      simp only[DataW.weights,Tryz.underlying86,List.mem_cons,List.length_map,List.length_range]
      exact .inl trivial
     have h1:=hsz _ hmem
     have h2:Tryz.prog.bytesOf 177=32:=by kernel_rfl
     have h3:=reachBytes_lt
     rw[h2] at h1
     omega
    have each:∀ i,∃ q:Bool×Nat×List Raw,i<len→V0 i=.bool q.1∧RIn W q.2.1 (V1 i) q.2.2:=fun i=>by
     by_cases hi:i<len
     ·obtain⟨_,_,h3,h4⟩:=hx i (by omega)
      obtain⟨b,e1,_⟩:=DataW.trod_bool Tryz.underlying4 h3
      simp at e1
      have hin:DataW.agg [D0 i,D1 i]∈(List.range len).map fun i=>DataW.agg [D0 i,D1 i]:=List.mem_map.2 ⟨i,List.mem_range.2 hi,rfl⟩
      have hs1:=List.sizeOf_lt_of_mem hin
      have hs2:sizeOf (D1 i)<sizeOf (DataW.agg [D0 i,D1 i]):=by simp; omega
      have hs3:sizeOf ((List.range len).map fun i=>DataW.agg [D0 i,D1 i])<sizeOf D:=by rw[hd'];simp; omega
      obtain⟨k,l,hl⟩:=ih (D1 i) (by omega) _ _ _ h4 (fun k hk=>hsz k (by
       rw[hd']
       simp only[DataW.weights,Tryz.underlying86,List.mem_cons,List.mem_append]
       refine .inr (.inl (weights_mem hin _ ?_))
       simp only[DataW.weights,Tryz.underlying177,List.map_cons,List.map_nil,DataW.weightsEach,List.mem_append]
       exact .inr (.inl hk)))
      exact⟨(b,k,l),fun _=>⟨e1,hl⟩⟩
     ·exact⟨(false,0,[]),fun h=>absurd h hi⟩
    obtain⟨f,hf⟩:=Classical.skolem.1 each
    obtain⟨M,hM⟩:=all_le (fun i=>(f i).2.1) len
    refine⟨M+1,(List.range len).map fun i=>.t (f i).1 (f i).2.2,by simpa using hlen,some a,cap,by simp,fun j r hr=>?_⟩
    rw[List.getElem?_map] at hr
    have hj:j<len:=by
     rcases Nat.lt_or_ge j len with h | h
     ·exact h
     ·rw[List.getElem?_eq_none (by simpa using h)] at hr; cases hr
    rw[List.getElem?_range hj] at hr
    simp at hr
    subst hr
    obtain⟨c0,c1,_,_⟩:=hx j (by omega)
    obtain⟨e0,e1⟩:=hf j hj
    obtain⟨g,off,spot⟩:=a
    have hspot:spot=none:=by simpa [Addr.add] using World.cell?_spot (hx 0 (by omega)).1
    subst hspot
    rw[Addr.add_lit] at c0 c1
    exact⟨g,off,V1 j,rfl,by rw[c0,e0];rfl,by rw[Nat.add_assoc];exact c1,RIn.up e1 (hM j hj)⟩
theorem three_of {W:World}{base:Nat}{H:Type}{enc:TypeId×Value→H}{v:Value}{d:DataW H}{p:List MemPlace}(hval:Value.okWide Tryz.prog W .any base 88 v)(h:DataW.Trod enc Tryz.prog W 0 (fun _=>true) true 88 v d p) 
 (hsz:∀ n∈d.weights Tryz.prog 88,n≤reachBytes):TIn W v:=by
 obtain⟨cs,rfl,hcs⟩:=okWide_struct Tryz.underlying88 hval
 have h3:Tryz.prog.cellsOf 88=3:=by kernel_rfl
 have h1:Tryz.prog.cellsOf 86=1:=by kernel_rfl
 rw[h3] at hcs
 obtain⟨u0,u1,u2,rfl⟩:∃ a b c,cs=#[a,b,c]:=by
  obtain⟨l⟩:=cs
  match l,hcs with
  | [a,b,c],_=>exact⟨a,b,c,rfl⟩
 obtain⟨fuel,hf⟩:=h
 obtain⟨y0,y1,y2,n,hxy,_,g0,g1,g2⟩:=Go.Deep.trod_struct3 Tryz.underlying88 hf
 have hd:d=.agg [y0.1,y1.1,y2.1]:=(Prod.mk.inj hxy).1
 simp[Value.cells,h1] at g0 g1 g2
 have hw:∀ (y:DataW H×List MemPlace),y=y0∨y=y1∨y=y2→∀ k∈y.1.weights Tryz.prog 86,k≤reachBytes:=fun y hy k hk=>hsz k (by
  rw[hd]
  simp only[DataW.weights,Tryz.underlying88,List.map_cons,List.map_nil,DataW.weightsEach,List.mem_append]
  rcases hy with rfl | rfl | rfl
  ·exact .inl hk
  ·exact .inr (.inl hk)
  ·exact .inr (.inr (.inl hk)))
 obtain⟨m0,l0,r0⟩:=raw_of _ y0.1 (jR _) n u0 y0.2 g0 (hw y0 (.inl rfl))
 obtain⟨m1,l1,r1⟩:=raw_of _ y1.1 (jR _) n u1 y1.2 g1 (hw y1 (.inr (.inl rfl)))
 obtain⟨m2,l2,r2⟩:=raw_of _ y2.1 (jR _) n u2 y2.2 g2 (hw y2 (.inr (.inr rfl)))
 obtain⟨a0,c0,rfl⟩:=r0.shape
 obtain⟨a1,c1,rfl⟩:=r1.shape
 obtain⟨a2,c2,rfl⟩:=r2.shape
 exact⟨_,_,_,_,_,_,_,_,_,_,_,_,_,_,_,rfl,r0,r1,r2⟩
end Sr

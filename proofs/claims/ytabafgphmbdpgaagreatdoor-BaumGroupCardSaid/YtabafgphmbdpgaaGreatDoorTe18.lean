/- Texts of this claim, joined: Of, PartP. -/
import Derived.Test.YtabafgphmbdpgaaGreatDoorTe1
import Derived.Test.YtabafgphmbdpgaaGreatDoorTe17
set_option maxHeartbeats 8000000
set_option maxRecDepth 100000
namespace Sr
open Go Go.Proofs Go.RowKit Go.Maps Go.WideMaps
theorem int_half (n:Nat): Value.int .u64 ((n:Int) / 2)=.int .u64 ((n / 2:Nat):Int):=by congr 1
theorem int_half1 (n:Nat)(h:1≤n): Value.int .u64 (((n:Int) - 1) / 2)=.int .u64 (((n - 1) / 2:Nat):Int):=by congr 1; omega
theorem int_half3 (n:Nat): Value.int .u64 ((n:Int) / 2+1)=.int .u64 ((n / 2+1:Nat):Int):=by congr 1
def Small (vs:List Int): Prop:=∀ z∈vs,0≤z∧z≤64
theorem small_len {vs:List Int}(hn:vs.Nodup)(h:Small vs): vs.length≤65:=by
 have:=jT (vs.map Int.toNat) (List.range 65) (by
  unfold List.Nodup; rw[List.pairwise_map]
  refine hn.imp_of_mem fun {a b} ha hb hne he=>hne ?_
  have:=h a ha; have:=h b hb; omega) (fun x hx=>by
  obtain⟨z,hz,rfl⟩:=List.mem_map.1 hx
  have:=h z hz
  exact List.mem_range.2 (by omega))
 simpa using this
def OfQ (C:List Nat)(W:World)(p:Nat)(F:List Nat)(vs:List Int)(gk:List Nat)(z:Int)(e:Ending)(W':World): Prop :=
 ∃ (F':List Nat) (D':WD) (vs':List Int) (v':Value),e=.returned v'∧Hid (WO C W' p F' D' vs' gk 66)∧Hid (FE F W F' W')∧Hid (vs <+: vs')∧Hid (Small vs')∧Hid (TRow W' v' (pf vs' z))∧Hid (∀ e∈exps z,(e:Int)∈vs')∧Hid (∀ b,v'.ownBlock=some b→W.heap.size≤b∧b∉F')
def OfC (C:List Nat)(p n:Nat)(s:Bool): Prop :=
 ∀ (W:World) (F:List Nat) (D:WD) (vs:List Int) (gk:List Nat),Hid (WO C W p F D vs gk 66)→Hid (Small vs)→Calls Tryz.prog 54 #[.pointer (some ⟨p,0,none⟩),.int .u64 (n:Nat),.bool s] W (OfQ C W p F vs gk (sgb s*(n:Int)))
structure OfSt (C:List Nat)(W:World)(p:Nat)(F:List Nat)(vs:List Int)(gk:List Nat)(n0:Nat)(s:Bool)(m:Nat)(n e:Nat)(l:List Tm)(ov:Value)(F':List Nat)(D':WD)(vs':List Int)(wr:World): Prop where
 inv:OfInv n0 s m l n e
 wo:WO C wr p F' D' vs' gk 66
 fe:FE F W F' wr
 pre:vs <+: vs'
 small:Small vs'
 mem:∀ t∈l,(t.2:Int)∈vs'
 row:TRow wr ov (l.map fun t=>(t.1,vs'.idxOf (t.2:Int)))
 own:∀ b,ov.ownBlock=some b→W.heap.size≤b∧b∉F'
section
variable {C:List Nat} {W w2 w3 w4 wr:World} {p:Nat} {F F2 F3 F':List Nat} {vs vs' vs2:List Int} {gk:List Nat} {n0:Nat} {s:Bool} {m n e:Nat} {l:List Tm} {ov v2:Value} {D' D3:WD}
theorem OfSt.row3 (S:OfSt C W p F vs gk n0 s m n e l ov F' D' vs' wr)(hfe2:FE F' wr F2 w2)(hpre2:vs' <+: vs2)(ho2:∀ b,v2.ownBlock=some b→wr.heap.size≤b∧b∉F2)(hput:Put C w2 w3 p F2 F3 D3 (putIn vs2 (e:Int)) gk (66+1) (fun b=>v2.ownBlock=some b)):
 TRow w3 ov (l.map fun t=>(t.1,(putIn vs2 (e:Int)).idxOf (t.2:Int)))∧∀ b,ov.ownBlock=some b→b∉F3:=by
 have hlt:∀ b,ov.ownBlock=some b→b<wr.heap.size:=fun b hb=>jP S.row hb
 have hn2:∀ b,ov.ownBlock=some b→b∉F2:=fun b hb h=>by
  rcases hfe2.sub b h with h | h
  ·exact (S.own b hb).2 h
  ·have:=hlt b hb; omega
 have e1:(l.map fun t=>(t.1,(putIn vs2 (e:Int)).idxOf (t.2:Int)))=l.map fun t=>(t.1,vs'.idxOf (t.2:Int)) :=
  List.map_congr_left fun t ht=>by rw[zV (zK vs2 _) (qN hpre2 (S.mem t ht)),zV hpre2 (S.mem t ht)]
 refine⟨?_,fun b hb h=>?_⟩
 ·rw[e1]
  exact jJ (jJ S.row fun b hb=>hfe2.fr.block b (hlt b hb) (S.own b hb).2) fun b hb=>hput.fr.block b (Nat.lt_of_lt_of_le (hlt b hb) hfe2.fr.size) (hn2 b hb)
 ·rcases hput.sub b h with h | h | h
  ·exact hn2 b hb h
  ·have:=hlt b hb; have:=hfe2.fr.size; omega
  ·have:=hlt b hb; have:=(ho2 b h).1; omega
theorem OfSt.push {s':Bool}{n' e':Nat}{v':Value}{o:Obj}(hC:C.length≤2000000000)(S:OfSt C W p F vs gk n0 s m n e l ov F' D' vs' wr)(hem:e≤64)(hfe2:FE F' wr F2 w2)(hpre2:vs' <+: vs2)(hsm2:Small vs2)(ho2:∀ b,v2.ownBlock=some b→wr.heap.size≤b∧b∉F2) 
 (hput:Put C w2 w3 p F2 F3 D3 (putIn vs2 (e:Int)) gk (66+1) (fun b=>v2.ownBlock=some b)) (K:TRow w4 v' ((l.map fun t=>(t.1,(putIn vs2 (e:Int)).idxOf (t.2:Int)))++[(s',(putIn vs2 (e:Int)).idxOf (e:Int))])) (G:(w3.alloc o).grownBy w4 ov.ownBlock)
 (A:v'.ownBlock=ov.ownBlock∨v'.ownBlock=some (w3.alloc o).heap.size) (hinv:OfInv n0 s m (l++[(s',e)]) n' e') :
 OfSt C W p F vs gk n0 s m n' e' (l++[(s',e)]) v' F3 D3 (putIn vs2 (e:Int)) w4:=by
 obtain⟨_,hn3⟩:=S.row3 hfe2 hpre2 ho2 hput
 have hsm3:Small (putIn vs2 (e:Int)):=fun z hz=>by
  unfold putIn at hz
  split at hz
  ·exact hsm2 z hz
  ·rcases List.mem_append.1 hz with hz | hz
   ·exact hsm2 z hz
   ·simp at hz; omega
 have hs2:=hfe2.fr.size
 have hs3:=hput.fr.size
 have hs4:w3.heap.size+1≤w4.heap.size:=by have:=G.size; simpa using this
 have hsW:=S.fe.fr.size
 have keep:∀ b,b<w3.heap.size→ov.ownBlock≠some b→w4.heap[b]? = w3.heap[b]?:=fun b h1 h2=>(G.block b (by simp; omega) (fun e=>h2 e.symm)).trans (jE _ _ h1)
 have hsub:∀ b∈F3,b∈F∨W.heap.size≤b:=fun b h=>by
  rcases hput.sub b h with h | h | h
  ·rcases hfe2.sub b h with h | h
   ·exact S.fe.sub b h
   ·exact .inr (by omega)
  ·exact .inr (by omega)
  ·have:=(ho2 b h).1; exact .inr (by omega)
 refine⟨hinv,?_,⟨⟨?_,?_,?_,by omega,fun b hb hn=>?_⟩,hsub⟩,(S.pre.trans hpre2).trans (zK _ _),hsm3,?_,?_,?_⟩
 ·have hwo:=hput.wo.kept (W':=w4) (fun b hb=>keep b (hput.wo.blt b hb) (fun e'=>hn3 b e' hb))
  exact hwo.weaken (by have:=small_len hwo.wv.nodup hsm3; omega) (by omega)
 ·exact (show w4.os=w3.os from G.os).trans (hput.fr.os.trans (hfe2.fr.os.trans S.fe.fr.os))
 ·exact (show w4.tape=w3.tape from G.tape).trans (hput.fr.tape.trans (hfe2.fr.tape.trans S.fe.fr.tape))
 ·exact (show w4.output=w3.output from G.output).trans (hput.fr.output.trans (hfe2.fr.output.trans S.fe.fr.output))
 ·have h1:b∉F':=fun h=>by
   rcases S.fe.sub b h with h | h
   ·exact hn h
   ·omega
  have h2:b∉F2:=fun h=>by
   rcases hfe2.sub b h with h | h
   ·exact h1 h
   ·omega
  rw[keep b (by omega) (fun e'=>by have:=(S.own b e').1; omega),hput.fr.block b (by omega) h2,hfe2.fr.block b (by omega) h1]
  exact S.fe.fr.block b hb hn
 ·intro t ht
  rcases List.mem_append.1 ht with ht | ht
  ·exact qN (zK _ _) (qN hpre2 (S.mem t ht))
  ·simp at ht; subst ht; exact qt _ _
 ·rw[List.map_append];exact K
 ·intro b hb
  rcases A with A | A
  ·rw[A] at hb; exact⟨(S.own b hb).1,hn3 b hb⟩
  ·rw[A] at hb
   have:b=w3.heap.size+1:=by simpa using hb.symm
   exact⟨by omega,fun h=>by have:=hput.wo.blt b h; omega⟩
end
theorem of_step {C:List Nat}(hC:C.length≤2000000000){p n0 m:Nat}{s:Bool}(h0:n0≤2 ^ m)(hm:m≤64)(h64:n0≤18446744073709551615)(ih:∀ e,e≤m→0<n0→OfC C p e false): OfC C p n0 s:=by
 intro W F D vs gks H HSm
 have HC:Hid (C.length≤2000000000):=hC
 have HI:Hid (∀ e,e≤m→0<n0→OfC C p e false):=ih
 have S0:Hid (OfSt C W p F vs gks n0 s m n0 0 [] (.slice none 0 0) F D vs W) :=
  ⟨OfInv.start s h0,H.out,FE.refl _ _,List.prefix_refl _,HSm.out,by simp,⟨rfl,.inl ⟨rfl,rfl⟩⟩,fun b h=>by cases h⟩
 clear hC ih h0
 go_enter Tryz.func54,Tryz.ntmps54
 go_wp2_with fail
 go_loopg [1,7,8] n0 (fun g1 vn vo ve wr=>∃ (n e:Nat) (l:List Tm) (ov:Value) (F':List Nat) (D':WD) (vs':List Int),vn=.int .u64 (n:Nat)∧vo=ov∧ve=.int .u64 (e:Nat)∧n≤g1∧n≤n0∧Hid (OfSt C W p F vs gks n0 s m n e l ov F' D' vs' wr))
 case atStart=>exact⟨n0,0,[],_,F,D,vs,rfl,rfl,rfl,by omega,by omega,S0⟩
 case round =>
  clear S0
  obtain⟨n,e,l,ov,F',D',vs',rfl,hov,rfl,hg,hnn,HS⟩:=hrel
  subst hov
  by_cases hn:0<n
  ·have hnz:(0:Int)<(n:Int):=by omega
   have hem:=HS.out.inv.le hn
   have he0:(0:Int)≤(e:Int):=by omega
   have hn64:(n:Int)≤18446744073709551615:=by omega
   rcases (by omega:n % 4=0∨n % 4=1∨n % 4=2∨n % 4=3) with h4 | h4 | h4 | h4
   ·have h4z:(n:Int) % 4=0:=by omega
    have hev:n % 2=0:=by omega
    have HS2:Hid (OfSt C W p F vs gks n0 s m (n / 2) (e+1) l u7 F' D' vs' wr):=⟨HS.out.inv.even hev,HS.out.wo,HS.out.fe,HS.out.pre,HS.out.small,HS.out.mem,HS.out.row,HS.out.own⟩
    clear h4 hev
    go_wp2_with fail
    go_roundg (n / 2)
    case measure=>omega
    case rel=>exact⟨n / 2,e+1,l,u7,F',D',vs',int_half n,rfl,by go_num,by omega,by omega,HS2⟩
   ·
    have h4z:(n:Int) % 4=1:=by omega
    have hodd:n % 2=1:=by omega
    have HInv:=jH (HS.out.inv.one h4)
    have HCal:=HI.out e hem (by omega) wr F' D' vs' gks (jH HS.out.wo) (jH HS.out.small)
    have hz1:sgb false*(e:Int)=(e:Int):=by simp[sgb]
    rw[hz1] at HCal
    have hww:(n:Int) / 2+1≤18446744073709551615:=by omega
    clear h4 hodd hz1
    go_wp2_with fail
    refine HCal.mono ?_
    rintro z w2 ⟨F2,D2,vs2,v2,rfl,hwo2,hfe2,hpre2,hsm2,hr2,he2,ho2⟩
    clear HCal
    have HId:=id_calls (C:=C) (W:=w2) (p:=p) (F:=F2) (D:=D2) (vs:=vs2) (gks:=gks) (m:=66) hwo2 v2 (e:Int) he2.out hr2.out (by have:=HC.out; omega)
    go_wp2_with fail
    refine HId.mono ?_
    rintro z w3 ⟨F3,D3,rfl,hput⟩
    clear HId
    obtain⟨hrow3,_⟩:=HS.out.row3 hfe2.out hpre2.out ho2.out hput.out
    have HR3:=jH hrow3
    obtain⟨ie,hie⟩:∃ ie,ie=(putIn vs2 (e:Int)).idxOf (e:Int):=⟨_,rfl⟩
    have HIe:=jH hie
    rw[← hie]
    have hlb:(l.map fun t=>(t.1,(putIn vs2 (e:Int)).idxOf (t.2:Int))).length+1≤1099511627776:=by
     have h1:=yW (m:=e) HS.out.inv.naf (fun t ht=>by have:=HS.out.inv.top t (List.mem_reverse.1 ht);omega)
     simp at h1 ⊢;omega
    clear hrow3 hie hr2 he2 hwo2
    go_wp2_with (at_builtin; go_loud (refine app_T1 rfl _ _ rfl u7 _ rfl (World.ownsRow.alloc HR3.out _) _ (s,ie) rfl (jD _ _) hlb ?_);intro v' w4 K4 G4 N4 A4
                 have HNx:=jH (HS.out.push HC.out (by omega) hfe2.out hpre2.out hsm2.out ho2.out hput.out (by rw[← HIe.out];exact K4) G4 A4 HInv.out)
                 clear K4 G4 N4 A4)
    go_roundg ((n - 1) / 2)
    case measure=>omega
    case rel=>exact⟨(n - 1) / 2,e+1,_,v',F3,D3,_,int_half1 n (by omega),rfl,by go_num,by omega,by omega,HNx⟩
   ·have h4z:(n:Int) % 4=2:=by omega
    have hev:n % 2=0:=by omega
    have HS2:Hid (OfSt C W p F vs gks n0 s m (n / 2) (e+1) l u7 F' D' vs' wr):=⟨HS.out.inv.even hev,HS.out.wo,HS.out.fe,HS.out.pre,HS.out.small,HS.out.mem,HS.out.row,HS.out.own⟩
    clear h4 hev
    go_wp2_with fail
    go_roundg (n / 2)
    case measure=>omega
    case rel=>exact⟨n / 2,e+1,l,u7,F',D',vs',int_half n,rfl,by go_num,by omega,by omega,HS2⟩
   ·
    have h4z:(n:Int) % 4=3:=by omega
    have hodd:n % 2=1:=by omega
    have HInv:=jH (HS.out.inv.three h4)
    have HCal:=HI.out e hem (by omega) wr F' D' vs' gks (jH HS.out.wo) (jH HS.out.small)
    have hz1:sgb false*(e:Int)=(e:Int):=by simp[sgb]
    rw[hz1] at HCal
    have hww:(n:Int) / 2+1≤18446744073709551615:=by omega
    clear h4 hodd hz1
    go_wp2_with fail
    refine HCal.mono ?_
    rintro z w2 ⟨F2,D2,vs2,v2,rfl,hwo2,hfe2,hpre2,hsm2,hr2,he2,ho2⟩
    clear HCal
    have HId:=id_calls (C:=C) (W:=w2) (p:=p) (F:=F2) (D:=D2) (vs:=vs2) (gks:=gks) (m:=66) hwo2 v2 (e:Int) he2.out hr2.out (by have:=HC.out; omega)
    go_wp2_with fail
    refine HId.mono ?_
    rintro z w3 ⟨F3,D3,rfl,hput⟩
    clear HId
    obtain⟨hrow3,_⟩:=HS.out.row3 hfe2.out hpre2.out ho2.out hput.out
    have HR3:=jH hrow3
    obtain⟨ie,hie⟩:∃ ie,ie=(putIn vs2 (e:Int)).idxOf (e:Int):=⟨_,rfl⟩
    have HIe:=jH hie
    rw[← hie]
    have hlb:(l.map fun t=>(t.1,(putIn vs2 (e:Int)).idxOf (t.2:Int))).length+1≤1099511627776:=by
     have h1:=yW (m:=e) HS.out.inv.naf (fun t ht=>by have:=HS.out.inv.top t (List.mem_reverse.1 ht);omega)
     simp at h1 ⊢;omega
    clear hrow3 hie hr2 he2 hwo2
    go_wp2_with (at_builtin; go_loud (refine app_T1 rfl _ _ rfl u7 _ rfl (World.ownsRow.alloc HR3.out _) _ (!s,ie) rfl (jD _ _) hlb ?_);intro v' w4 K4 G4 N4 A4
                 have HNx:=jH (HS.out.push HC.out (by omega) hfe2.out hpre2.out hsm2.out ho2.out hput.out (by rw[← HIe.out];exact K4) G4 A4 HInv.out)
                 clear K4 G4 N4 A4)
    go_roundg (n / 2+1)
    case measure=>omega
    case rel=>exact⟨n / 2+1,e+1,_,v',F3,D3,_,int_half3 n,rfl,by go_num,by omega,by omega,HNx⟩
  ·have hnz:¬ ((0:Int)<(n:Int)):=by omega
   obtain rfl:n=0:=by omega
   have hlb:(l.map fun t=>(t.1,vs'.idxOf (t.2:Int))).length≤1000000000000:=by
    have h1:=yW (m:=e) HS.out.inv.naf (fun t ht=>by have:=HS.out.inv.top t (List.mem_reverse.1 ht);omega)
    have h2:=jT (l.map (·.2)) (vs'.map Int.toNat) (by
     have:=HS.out.inv.naf
     unfold Naf at this
     rw[List.pairwise_reverse] at this
     unfold List.Nodup
     rw[List.pairwise_map]
     exact this.imp fun h=>by omega) (fun x hx=>by
     obtain⟨t,ht,rfl⟩:=List.mem_map.1 hx
     exact List.mem_map.2 ⟨_,HS.out.mem t ht,by simp⟩)
    have h3:=small_len HS.out.wo.wv.nodup HS.out.small
    simp at h2 ⊢;omega
   have HRv:=reverse_calls HS.out.row hlb
   go_wp2_with fail
   refine HRv.mono ?_
   rintro z w2 ⟨rfl,hr2,hg2⟩
   clear HRv
   go_wp2_with fail
   go_ret
   have S:=HS.out
   have hf:=S.inv.done
   have hpf:pf vs' (sgb s*(n0:Int))=(l.map fun t=>(t.1,vs'.idxOf (t.2:Int))).reverse:=by unfold pf; rw[hf,List.map_reverse]
   have hgr:=hg2.out
   have hsz:=hgr.size
   have hnb:∀ b∈F',u7.ownBlock≠some b:=fun b hb e=>(S.own b e).2 hb
   have hk:∀ b,b<wr.heap.size→u7.ownBlock≠some b→w2.heap[b]? = wr.heap[b]?:=fun b h1 h2=>hgr.block b h1 (fun e=>h2 e.symm)
   refine⟨F',D',vs',u7,rfl,S.wo.kept fun b hb=>hk b (S.wo.blt b hb) (hnb b hb),⟨⟨hgr.os.trans S.fe.fr.os,hgr.tape.trans S.fe.fr.tape,hgr.output.trans S.fe.fr.output,Nat.le_trans S.fe.fr.size hsz,fun b hb hn=>?_⟩,S.fe.sub⟩,S.pre,S.small,?_,fun x hx=>?_,S.own⟩
   ·rw[hk b (Nat.lt_of_lt_of_le hb S.fe.fr.size) (fun e=>by have:=(S.own b e).1; omega)]
    exact S.fe.fr.block b hb hn
   ·show TRow _ _ _
    rw[hpf];exact hr2.out
   ·obtain⟨t,ht,rfl⟩:=List.mem_map.1 hx
    rw[hf] at ht
    exact S.mem t (List.mem_reverse.1 ht)
theorem of_small {C:List Nat}(hC:C.length≤2000000000)(p:Nat): ∀ (n:Nat),n≤64→∀ s,OfC C p n s:=by
 intro n
 induction n using Nat.strongRecOn with
 | _ n ih =>
   intro hn s
   obtain⟨m,h1,h2⟩:=log_bd n
   rcases Nat.eq_zero_or_pos n with h0 | h0
   ·exact of_step hC (m:=0) (by rw[h0];simp) (by omega) (by omega) fun e _ h=>by omega
   ·exact of_step hC h1 (by have:=h2 h0; omega) (by omega) fun e he _=>ih e (by have:=h2 h0; omega) (by have:=h2 h0; omega) false
theorem of_calls {C:List Nat}(hC:C.length≤2000000000)(p n:Nat)(hn:n≤18446744073709551615)(s:Bool): OfC C p n s :=
 of_step hC (m:=64) (by simp; omega) (by omega) hn fun e he _=>of_small hC p e (by omega) false
theorem Of_calls (n:Int)(h1:-9223372036854775808≤n)(h2:n≤9223372036854775807)(W:World): Calls Tryz.prog 20 #[.int .i64 n] W fun e W'=>∃ q,e=.returned (.agg #[.pointer q])∧Hid (IsN W' (.agg #[.pointer q]) n)∧Hid (Below W.heap.size W W'):=by
 have h289:(9223372036854775808:Nat)≤2 ^ 240:=by decide
 have HAl:=jH (ya (x:=n) (Nat.le_trans (by omega) h289))
 clear h289
 have HN:=zc [] (by simp) (W.alloc (.cells #[.pointer none] 26))
 go_enter Tryz.func20,Tryz.ntmps20
 go_wp2_with fail
 refine HN.mono ?_
 rintro e w1 ⟨p,F,D,rfl,HWO,HFE⟩
 clear HN
 have HT1:=jH (wt_new HWO.out HFE.out)
 clear HFE
 have HX2:Hid (w1.heap[W.heap.size]? = some (.cells #[.pointer none] 26 (0,0))):=Below.here HT1.out.low (jD W _)
 by_cases hn:n<0
 ·obtain⟨N,hN⟩:∃ N:Nat,n = -(N:Int):=⟨n.natAbs,by omega⟩
  have hw:IntKind.u64.wrap (-IntKind.u64.wrap n)=(N:Int):=by rw[IntKind.wrap_u64,IntKind.wrap_u64];omega
  have HZ:Hid (sgb true*(N:Int)=n):=by show _=_; simp[sgb];omega
  have HCal:=of_calls (C:=[]) (by simp) p N (by omega) true w1 F D [0] [] (jH (HWO.out.weaken (by simp) (by simp))) (by intro z hz; simp at hz; omega)
  clear hN
  rw[HZ.out] at HCal
  go_wp2_with fail
  refine HCal.mono ?_
  rintro e w2 ⟨F2,D2,vs2,v2,rfl,hwo2,hfe2,_,_,hr2,he2,ho2⟩
  clear HCal
  have HL2:=jH (qL HT1.out.low HT1.out.hi hfe2.out.fr)
  have Hi2:Hid (∀ b∈F2,(W.alloc (.cells #[.pointer none] 26)).heap.size≤b):=fun b hb=>by
   rcases hfe2.out.sub b hb with h | h
   ·exact HT1.out.hi b h
   ·have:=HT1.out.low.size; omega
  have HG:=xH hwo2 (v:=v2) (fun W' _ hf=>jJ hr2.out fun b e=>hf.block b (jP hr2.out e) (ho2.out b e).2) he2.out
  clear hr2 he2 ho2 hfe2 hwo2
  go_wp2_with fail
  refine HG.mono ?_
  rintro e w3 ⟨q,er,rfl,hf3,hn3⟩
  have HL3:=jH (qL HL2.out Hi2.out hf3.out)
  have HX3:=jH (Below.here HL3.out (jD W (.cells #[.pointer none] 26)))
  have c3:w3.cell? ⟨W.heap.size,0,none⟩=some (.pointer none):=by rw[jB HX3.out];rfl
  have c3a:∀ o,(w3.alloc o).cell? ⟨W.heap.size,0,none⟩=some (.pointer none):=fun o=>by rw[jB ((jE _ _ (jA HX3.out).1).trans HX3.out)];rfl
  have f3a:∀ o,(w3.alloc o).frozen? ⟨W.heap.size,0,none⟩=false:=fun o=>jF ((jE _ _ (jA HX3.out).1).trans HX3.out) 0
  clear HG hf3
  go_wp2_with fail
  refine bodyPost_ret (v:=.agg #[.pointer q]) (by simp[results,Tryz.results20,go_sem,c3a]) rfl ?_
  have hlow:=HL3.out
  rw[jY] at hlow
  have hb3:Below W.heap.size W w3:=Below.trans' ((Below.refl _ _).alloc (jR _) (.cells #[.pointer none] 26)) HL3.out
  refine⟨q,rfl,?_,(hb3.alloc hb3.size _).setCell (by simp) _⟩
  have hi:IsN w3 (.agg #[.pointer q]) n:=by
   rcases hn3.out with h | h
   ·exact h.2.2
   ·exact absurd HAl.out h.1
  exact (hi.below ((Below.refl _ _).alloc (jR _) _)).setCell ((jE _ _ (jA HX3.out).1).trans HX3.out) (by decide) _
 ·obtain⟨N,hN⟩:∃ N:Nat,n=(N:Int):=⟨n.natAbs,by omega⟩
  subst hN
  have hd:decide ((N:Int)<0)=false:=by simp
  have HZ:Hid (sgb false*(N:Int)=(N:Int)):=by show _=_; simp[sgb]
  have HCal:=of_calls (C:=[]) (by simp) p N (by omega) false w1 F D [0] [] (jH (HWO.out.weaken (by simp) (by simp))) (by intro z hz; simp at hz; omega)
  rw[HZ.out] at HCal
  go_wp2_with fail
  refine HCal.mono ?_
  rintro e w2 ⟨F2,D2,vs2,v2,rfl,hwo2,hfe2,_,_,hr2,he2,ho2⟩
  clear HCal
  have HL2:=jH (qL HT1.out.low HT1.out.hi hfe2.out.fr)
  have Hi2:Hid (∀ b∈F2,(W.alloc (.cells #[.pointer none] 26)).heap.size≤b):=fun b hb=>by
   rcases hfe2.out.sub b hb with h | h
   ·exact HT1.out.hi b h
   ·have:=HT1.out.low.size; omega
  have HG:=xH hwo2 (v:=v2) (fun W' _ hf=>jJ hr2.out fun b e=>hf.block b (jP hr2.out e) (ho2.out b e).2) he2.out
  clear hr2 he2 ho2 hfe2 hwo2
  go_wp2_with fail
  refine HG.mono ?_
  rintro e w3 ⟨q,er,rfl,hf3,hn3⟩
  have HL3:=jH (qL HL2.out Hi2.out hf3.out)
  have HX3:=jH (Below.here HL3.out (jD W (.cells #[.pointer none] 26)))
  have c3:w3.cell? ⟨W.heap.size,0,none⟩=some (.pointer none):=by rw[jB HX3.out];rfl
  have c3a:∀ o,(w3.alloc o).cell? ⟨W.heap.size,0,none⟩=some (.pointer none):=fun o=>by rw[jB ((jE _ _ (jA HX3.out).1).trans HX3.out)];rfl
  have f3a:∀ o,(w3.alloc o).frozen? ⟨W.heap.size,0,none⟩=false:=fun o=>jF ((jE _ _ (jA HX3.out).1).trans HX3.out) 0
  clear HG hf3
  go_wp2_with fail
  refine bodyPost_ret (v:=.agg #[.pointer q]) (by simp[results,Tryz.results20,go_sem,c3a]) rfl ?_
  have hlow:=HL3.out
  rw[jY] at hlow
  have hb3:Below W.heap.size W w3:=Below.trans' ((Below.refl _ _).alloc (jR _) (.cells #[.pointer none] 26)) HL3.out
  refine⟨q,rfl,?_,(hb3.alloc hb3.size _).setCell (by simp) _⟩
  have hi:IsN w3 (.agg #[.pointer q]) (N:Int):=by
   rcases hn3.out with h | h
   ·exact h.2.2
   ·exact absurd HAl.out h.1
  exact (hi.below ((Below.refl _ _).alloc (jR _) _)).setCell ((jE _ _ (jA HX3.out).1).trans HX3.out) (by decide) _
end Sr
namespace Sr
section
open Classical in
noncomputable def sel (x:Int)(q i:Nat): List Nat:=((parts x).take i).filter fun p=>decide (IsPart (q:Int) p)
variable {k q i p j:Nat} {x:Int} {ds:List Nat}
theorem xJ {α:Type}{l:List α}{x:α}(h:l[k]? = some x): l.take (k+1)=l.take k++[x]:=by
 rw[List.take_add_one,h];rfl
theorem sel_yes (h:(parts x)[i]? = some p)(hp:IsPart (q:Int) p): sel x q (i+1)=sel x q i++[p]:=by
 classical
 unfold sel; rw[xJ h,List.filter_append];simp[hp]
theorem sel_no (h:(parts x)[i]? = some p)(hp:¬ IsPart (q:Int) p): sel x q (i+1)=sel x q i:=by
 classical
 unfold sel; rw[xJ h,List.filter_append];simp[hp]
theorem parts_inj (hi:(parts x)[i]? = some p)(hj:(parts x)[j]? = some p): i=j:=by
 obtain⟨a1,a2⟩:=jL hi
 obtain⟨b1,b2⟩:=jL hj
 have e1:=List.Nodup.idxOf_getElem (qE x) i a1
 have e2:=List.Nodup.idxOf_getElem (qE x) j b1
 rw[a2] at e1; rw[b2] at e2
 exact e1.symm.trans e2
theorem parts_lt (hi:(parts x)[i]? = some p)(hj:(parts x)[j]? = some q): i<j↔p<q:=by
 obtain⟨a1,a2⟩:=jL hi
 obtain⟨b1,b2⟩:=jL hj
 have key:=List.pairwise_iff_getElem.1 (qR x)
 constructor
 ·intro h; have:=key i j a1 b1 h; omega
 ·intro h
  rcases Nat.lt_trichotomy i j with h1 | h1 | h1
  ·exact h1
  ·subst h1; rw[a2] at b2; omega
  ·have:=key j i b1 a1 h1; omega
theorem qY {e:Nat}(h:e∈parts x): (parts x)[(parts x).idxOf e]? = some e:=by
 have h3:=List.idxOf_lt_length_of_mem h
 rw[jG h3];simp
theorem sel_parts (h:(parts x)[k]? = some q): sel x q k=parts (q:Int):=by
 classical
 have hq:IsPart x q:=mem_parts.1 (jM h)
 refine yJ ((List.Pairwise.sublist (List.take_sublist _ _) (qR x)).filter _) (qR _) fun p=>?_
 unfold sel
 rw[List.mem_filter,mem_parts]
 simp only[decide_eq_true_eq]
 refine⟨fun h=>h.2,fun hp=>⟨?_,hp⟩⟩
 have hm:p∈parts x:=mem_parts.2 (hq.trans hp)
 have hlt:p<q:=by simpa using hp.lt
 have h1:=qY hm
 have h2:=(parts_lt h1 h).2 hlt
 exact List.mem_iff_getElem?.2 ⟨_,by rw[List.getElem?_take_of_lt h2];exact h1⟩
theorem sel_prefix (hik:i≤k): sel x q i <+: sel x q k:=by
 classical
 unfold sel
 have:(parts x).take i <+: (parts x).take k:=by
  rw[show (parts x).take i=((parts x).take k).take i by rw[List.take_take,Nat.min_eq_left hik]]
  exact List.take_prefix _ _
 exact this.filter _
theorem sel_place (h:(parts x)[k]? = some q)(hi:(parts x)[i]? = some p)(hik:i<k)(hp:IsPart (q:Int) p): (parts (q:Int)).idxOf p=(sel x q i).length:=by
 have h1:=sel_prefix (x:=x) (q:=q) (show i+1≤k by omega)
 rw[sel_yes hi hp,sel_parts h] at h1
 obtain⟨l,hl⟩:=h1
 have h2:(parts (q:Int))[(sel x q i).length]? = some p:=by rw[← hl];simp
 obtain⟨a1,a2⟩:=jL h2
 have e1:=List.Nodup.idxOf_getElem (qE (q:Int)) _ a1
 rw[a2] at e1; exact e1
structure Mk (x:Int)(q k r:Nat)(u:List Bool): Prop where
 len:u.length=k+1
 top:u[k]? = some true
 snd:∀ (j p:Nat),u[j]? = some true→(parts x)[j]? = some p→p=q∨IsPart (q:Int) p
 cls:∀ (l p:Nat),r≤l→u[l]? = some true→(parts x)[l]? = some p→∀ e∈exps (p:Int),u[(parts x).idxOf e]? = some true
structure MkI (x:Int)(q k i m:Nat)(u:List Bool): Prop where
 mk':Mk x q k (i+1) u
 done:∀ p,u[i]? = some true→(parts x)[i]? = some p→∀ e∈(exps (p:Int)).take m,u[(parts x).idxOf e]? = some true
theorem Mk.start (h:(parts x)[k]? = some q): Mk x q k (k+1) ((List.replicate (k+1) false).set k true) where
 len:=by simp
 top:=by simp
 snd:=fun j p hj hp=>by
  by_cases e:j=k
  ·subst e; rw[h] at hp; cases hp; exact .inl rfl
  ·rw[List.getElem?_set_ne (Ne.symm e),List.getElem?_replicate] at hj
   split at hj <;>cases hj
 cls:=fun l p hr hl _=>by
  have:=(jL hl).1
  simp at this; omega
theorem Mk.inner {u:List Bool}(h:Mk x q k (i+1) u): MkI x q k i 0 u:=⟨h,fun _ _ _ e he=>by simp at he⟩
theorem MkI.step {x:Int}{q k i m p e:Nat}{u:List Bool}{a b:Bool}(h:MkI x q k i m u)(hi:(parts x)[i]? = some p)(he:(exps (p:Int))[m]? = some e)(ha:u[(parts x).idxOf e]? = some a)(hb:u[i]? = some b):
 MkI x q k i (m+1) (u.set ((parts x).idxOf e) (a||b)):=by
 have hip:IsPart x p:=mem_parts.1 (jM hi)
 have hem:e∈exps (p:Int):=jM he
 have hep:e∈parts x:=mem_parts.2 (.step hip hem)
 have hge:=qY hep
 have hlt:(parts x).idxOf e<i:=(parts_lt hge hi).2 (by have:=qz hem; simpa using this)
 have hju:(parts x).idxOf e<u.length:=(jL ha).1
 have mono:∀ j:Nat,u[j]? = some true→(u.set ((parts x).idxOf e) (a||b))[j]? = some true:=fun j hj=>by
  by_cases ej:j=(parts x).idxOf e
  ·subst ej; rw[ha] at hj; cases hj; rw[List.getElem?_set_self hju];simp
  ·rw[List.getElem?_set_ne (Ne.symm ej)];exact hj
 have back:∀ j:Nat,(u.set ((parts x).idxOf e) (a||b))[j]? = some true→u[j]? = some true∨(j=(parts x).idxOf e∧b=true):=fun j hj=>by
  by_cases ej:j=(parts x).idxOf e
  ·subst ej
   rw[List.getElem?_set_self hju] at hj
   have:(a||b)=true:=Option.some.inj hj
   cases a
   ·right; exact⟨rfl,by simpa using this⟩
   ·left; exact ha
  ·rw[List.getElem?_set_ne (Ne.symm ej)] at hj; exact .inl hj
 refine⟨⟨by simp[h.mk'.len],mono _ h.mk'.top,fun j p' hj hp'=>?_,fun l p' hr hl hp' e' he'=>?_⟩,fun p' hp' hp2 e' he'=>?_⟩
 ·rcases back j hj with hj | ⟨rfl,rfl⟩
  ·exact h.mk'.snd j p' hj hp'
  ·rw[hge] at hp'; cases hp'
   rcases h.mk'.snd i p hb hi with rfl | h1
   ·exact .inr (.here hem)
   ·exact .inr (.step h1 hem)
 ·rcases back l hl with hl | ⟨rfl,_⟩
  ·exact mono _ (h.mk'.cls l p' hr hl hp' e' he')
  ·omega
 ·rw[hi] at hp2; cases hp2
  rw[xJ he] at he'
  have hpi:u[i]? = some true:=by
   rcases back i hp' with h1 | ⟨h1,_⟩
   ·exact h1
   ·omega
  rcases List.mem_append.1 he' with he' | he'
  ·exact mono _ (h.done p hpi hi e' he')
  ·simp at he'; subst he'
   rw[hb] at hpi; cases hpi
   rw[List.getElem?_set_self hju];simp
theorem MkI.done' {m:Nat}{u:List Bool}(h:MkI x q k i m u)(hi:(parts x)[i]? = some p)(hm:(exps (p:Int)).length≤m): Mk x q k i u where
 len:=h.mk'.len
 top:=h.mk'.top
 snd:=h.mk'.snd
 cls:=fun l p' hr hl hp' e he=>by
  rcases Nat.lt_or_eq_of_le hr with h1 | h1
  ·exact h.mk'.cls l p' h1 hl hp' e he
  ·subst h1
   rw[hi] at hp'; cases hp'
   exact h.done p hl hi e (by rw[List.take_of_length_le hm];exact he)
theorem Mk.fin {u:List Bool}(h:Mk x q k 0 u)(hk:(parts x)[k]? = some q)(hj:(parts x)[j]? = some p)(hjk:j<k): u[j]? = some true↔IsPart (q:Int) p:=by
 constructor
 ·intro hu
  rcases h.snd j p hu hj with rfl | h1
  ·have:=parts_inj hj hk; omega
  ·exact h1
 ·intro hp
  have key:∀ {p:Nat},IsPart (q:Int) p→u[(parts x).idxOf p]? = some true:=fun {p} hp=>by
   induction hp with
   | here he=>exact h.cls k q (by omega) h.top hk _ he
   | @step r s hr he ih =>
     have hm:r∈parts x:=mem_parts.2 ((mem_parts.1 (jM hk)).trans hr)
     exact h.cls _ r (by omega) ih (qY hm) _ he
  have:=key hp
  rwa [parts_inj (qY (jM hj)) hj] at this
theorem Mk.bool {r:Nat}{u:List Bool}(h:Mk x q k r u)(hj:j≤k): ∃ b,u[j]? = some b:=⟨_,jG (by rw[h.len];omega)⟩
structure Pls (x:Int)(q k i:Nat)(ds:List Nat): Prop where
 len:ds.length=k
 ok:∀ (j p:Nat),j<i→(parts x)[j]? = some p→IsPart (q:Int) p→ds[j]? = some ((parts (q:Int)).idxOf p)
theorem Pls.start (x:Int)(q k:Nat): Pls x q k 0 (List.replicate k 0):=⟨by simp,fun j p h=>by omega⟩
theorem Pls.no (h:Pls x q k i ds)(hi:(parts x)[i]? = some p)(hp:¬ IsPart (q:Int) p): Pls x q k (i+1) ds :=
 ⟨h.len,fun j r hj hr hq=>by
  rcases Nat.lt_or_eq_of_le (Nat.lt_succ_iff.1 hj) with h1 | h1
  ·exact h.ok j r h1 hr hq
  ·subst h1; rw[hi] at hr; cases hr; exact absurd hq hp⟩
theorem Pls.yes (h:Pls x q k i ds)(hk:(parts x)[k]? = some q)(hi:(parts x)[i]? = some p)(hik:i<k)(hp:IsPart (q:Int) p): Pls x q k (i+1) (ds.set i (sel x q i).length) :=
 ⟨by simp[h.len],fun j r hj hr hq=>by
  rcases Nat.lt_or_eq_of_le (Nat.lt_succ_iff.1 hj) with h1 | h1
  ·rw[List.getElem?_set_ne (by omega)];exact h.ok j r h1 hr hq
  ·subst h1; rw[hi] at hr; cases hr
   rw[List.getElem?_set_self (by rw[h.len];exact hik),sel_place hk hi hik hp]⟩
theorem Pls.places (h:Pls x q k i ds)(_:(parts x)[k]? = some q){y:Int}(hy:∀ e∈exps y,e∈parts x∧(parts x).idxOf e<i∧IsPart (q:Int) e):
 ∀ t∈atPl (parts x) y,ds[t.2]? = some ((parts (q:Int)).idxOf ((parts x).getD t.2 0)):=by
 intro t ht
 obtain⟨s,hs,rfl⟩:=List.mem_map.1 ht
 obtain⟨h1,h2,h3⟩:=hy s.2 (mem_exps hs)
 have h4:=qY h1
 show ds[(parts x).idxOf s.2]? = some ((parts (q:Int)).idxOf ((parts x).getD ((parts x).idxOf s.2) 0))
 rw[h.ok _ _ h2 h4 h3,List.getD_eq_getElem?_getD,h4];rfl
theorem atPl_part {y:Int}(hy:∀ e∈exps y,e∈parts x): (atPl (parts x) y).map (fun t=>(t.1,(parts (q:Int)).idxOf ((parts x).getD t.2 0)))=atPl (parts (q:Int)) y:=by
 unfold atPl
 rw[List.map_map]
 refine List.map_congr_left fun t ht=>?_
 have h4:=qY (hy t.2 (mem_exps ht))
 simp only[Function.comp]
 rw[List.getD_eq_getElem?_getD,h4];rfl
theorem height_part (h:IsPart x q): height (q:Int)≤height x:=by
 have key:∀ {x:Int} {e:Nat},e∈exps x→height (e:Int)+1≤height x:=fun {x e} he=>by
  rw[qs x]
  exact le_maxl (List.mem_map.2 ⟨e,he,rfl⟩)
 induction h with
 | here he=>have:=key he; omega
 | step _ he ih=>have:=key he; omega
theorem zz (hx:allowed x)(h:IsPart x q): allowed (q:Int):=by
 obtain⟨a1,a2,a3,a4⟩:=hx
 refine⟨a2 q (mem_parts.2 h),fun p hp=>a2 p (mem_parts.2 (h.trans (mem_parts.1 hp))),?_,?_⟩
 ·have:=jT _ _ (qE (q:Int)) (fun p hp=>mem_parts.2 (h.trans (mem_parts.1 hp)):∀ p∈parts (q:Int),p∈parts x)
  omega
 ·have:=height_part h; omega
end
end Sr

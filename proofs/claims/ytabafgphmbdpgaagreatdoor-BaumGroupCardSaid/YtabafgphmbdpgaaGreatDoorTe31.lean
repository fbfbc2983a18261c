/- Texts of this claim, joined: RAt, RCmp, RPl. -/
import Derived.Test.YtabafgphmbdpgaaGreatDoorTe1
import Derived.Test.YtabafgphmbdpgaaGreatDoorTe13
import Derived.Test.YtabafgphmbdpgaaGreatDoorTe30
set_option maxHeartbeats 8000000
set_option maxRecDepth 100000
namespace Sr
open Go Go.Proofs Go.RowKit Go.Maps Go.WideMaps
section
variable {W:World}
theorem j9 {W':World}{row:Option Nat}(h:W.grownBy W' row){n:Nat}(hr:∀ b,row=some b→n≤b)(hs:n≤W.heap.size): Below n W W' :=
 ⟨h.os,h.tape,h.output,h.size,fun k hk=>h.block k (by omega) (fun e=>by have:=hr k e.symm; omega)⟩
theorem y9 {v:Value}{l:List PT}(hl:RRow W v l){k:Nat}(hk:k<l.length)(hb:l.length≤5000000004097):
 Calls Tryz.prog 137 #[v,.int .i64 (k:Nat)] W fun e W'=>∃ v',e=.returned v'∧Hid (RRow W' v' (l.take k++l.drop (k+1)))∧Hid (Below W.heap.size W W')∧Hid (∀ b,v'.ownBlock=some b→W.heap.size≤b):=by
 obtain⟨a,c,rfl,hlc,hc,_,hnone,hsome⟩:=hl.srcs
 cases a with
 | none=>have:=(hnone rfl).1; subst this; simp at hk
 | some g =>
   obtain⟨hg1,hg2,htk,hdr⟩:=hsome g rfl
   obtain⟨gb,go,gs⟩:=g
   dsimp only at hg1 hg2
   subst hg1 hg2
   have T1:=jH (htk k (by omega))
   obtain⟨A,hA,hT2⟩:∃ A:Addr,(if c=k+1 then some (⟨gb,0,none⟩:Addr) else some ⟨gb,(k+1)*2,none⟩)=some A∧RSrc W (.slice (some A) (l.length - (k+1)) (c - (k+1))) (l.drop (k+1)):=by
    have h:=hdr (k+1) (by omega)
    by_cases hck:c=k+1
    ·rw[if_pos hck] at h ⊢;exact⟨_,rfl,h⟩
    ·rw[if_neg hck] at h ⊢;exact⟨_,rfl,h⟩
   have T2:=jH hT2
   clear hT2
   have hlen1:(l.take k).length=k:=by rw[List.length_take];omega
   have hlen2:(l.drop (k+1)).length=l.length - (k+1):=by rw[List.length_drop]
   clear htk hdr hnone hsome
   have k0:(0:Int)≤(k:Int):=by omega
   have kz:(k:Int)≤(c:Int):=by omega
   have kw:IntKind.i64.wrap ((k:Int)+1)=(k:Int)+1:=by rw[IntKind.wrap_i64];omega
   have kn:((k:Int)+1)≤(l.length:Int):=by omega
   have k1:(0:Int)≤(k:Int)+1:=by omega
   have HL:=jH hl
   clear hl
   have kc:k≤c:=by omega
   have kc1:k+1≤c:=by omega
   have kl1:k+1≤l.length:=by omega
   have hle:k+(l.length - (k+1))=l.length - 1:=by omega
   have hbn:k≤8000000000000:=by omega
   have hbm:l.length - 1≤8000000000000:=by omega
   go_enter Tryz.func137,Tryz.ntmps137
   go_wp2_with (at_builtin; go_loud (first
    | (refine app_R rfl _ _ rfl (.slice (some ⟨W.heap.size,0,none⟩) 0 0) [] rfl (RRow.nil (jD W _)) qO _ (l.take k) rfl (T1.out.below ((Below.refl _ _).alloc (jR _) _)) k ((Nat.zero_add _).trans hlen1) (l.take k) rfl hbn _ rfl ?_
       intro g1 c1 w1 R1 G1 A1 L1
       have B1:Hid (Below W.heap.size W w1):=by
        refine Below.trans ((Below.refl W.heap.size W).alloc (jR _) _) (j9 G1 (fun b hb=>?_) (by simp))
        cases hb; exact jR _
       have O1:Hid (W.heap.size≤g1):=by
        rcases A1 with h | h
        ·cases h; exact jR _
        ·show W.heap.size≤g1
         rw[h];simp
       have R1':=jH R1
       clear G1 A1 L1 R1)
    | (refine app_R rfl _ _ rfl (.slice (some ⟨g1,0,none⟩) k c1) (l.take k) rfl R1'.out qO _ (l.drop (k+1)) rfl (T2.out.below B1.out) (l.length - 1) (by rw[hlen1,hlen2,hle]) (l.take k++l.drop (k+1)) rfl hbm _ rfl ?_
       intro g2 c2 w2 R2 G2 A2 L2)))
   go_ret
   refine⟨_,rfl,R2,Below.trans B1.out (j9 G2 (fun b hb=>by cases hb; exact O1.out) B1.out.size),fun b hb=>?_⟩
   cases hb
   rcases A2 with h | h
   ·cases h; exact O1.out
   ·rw[h];exact B1.out.size
theorem yz {vs:List Int}{x:Int}(hx:∀ e∈exps x,(e:Int)∈vs): (pf vs x).length≤vs.length:=by
 have h1:(pf vs x).length=(exps x).length:=by simp[pf,exps]
 rw[h1]
 have:=jT (exps x) (vs.map Int.toNat) (exps_nodup x) (fun e he=>List.mem_map.2 ⟨(e:Int),hx e he,by simp⟩)
 rwa [List.length_map] at this
theorem yk {C:List Int}{p:Nat}{fv:Value}{fl:List Value}{vs:List Int}(H:RW C W p fv fl vs){v:Value}{x:Int}(hx:∀ e∈exps x,(e:Int)∈vs)(hl:RRow W v (pf vs x))(hc:x∈C∨Sml x):
 Calls Tryz.prog 115 #[.pointer (some ⟨p,0,none⟩),v] W fun e W'=>∃ fv' fl',e=.returned (.int .i64 ((putIn vs x).idxOf x:Nat))∧Hid (RPut C W W' p fv fv' fl fl' vs (putIn vs x)):=by
 have c0:=H.c0
 have hvl:=H.vlen
 have HH:=jH H
 have hwv:=H.wv
 obtain⟨g,cap,rfl,hrow⟩:=H.formAt
 obtain⟨va,vc,rfl,hs⟩:=hl.get
 have hll:(pf vs x).length≤vs.length:=yz hx
 obtain⟨N,hN⟩:∃ N,N=(pf vs x).length:=⟨_,rfl⟩
 rw[← hN] at hll
 have HL:=jH hl
 have Hs:=jH hs
 have Hrow:=jH hrow
 have Hwv:=jH hwv
 have HNl:=jH hN
 have Hx:=jH hx
 rw[← hN] at HL
 rw[← hN]
 clear H hrow hl hs hwv hx hN
 go_enter Tryz.func115,Tryz.ntmps115
 go_wp2_with fail
 go_loopg [5] vs.length (fun g1 vi wr=>∃ (k m:Nat),vi=.int .i64 k∧k≤vs.length∧vs.length - k≤g1∧wr=W.drewN m∧Hid (∀ i<k,vs[i]?≠some x))
 case atStart=>exact⟨0,0,rfl,by omega,by omega,rfl,fun i hi=>by omega⟩
 case round =>
  obtain⟨k,m,rfl,hk,hg,rfl,HN⟩:=hrel
  by_cases hkn:k<vs.length
  ·have hkz:(k:Int)<(vs.length:Int):=by omega
   have hk0:(0:Int)≤(k:Int):=Int.natCast_nonneg k
   have hkw:IntKind.i64.wrap ((k:Int)+1)=(k:Int)+1:=IntWalk.i64_in _ (by omega)
   obtain⟨y,hy⟩:∃ y,vs[k]? = some y:=⟨_,jG hkn⟩
   obtain⟨u,_,cu,hru⟩:=Hrow.out k y hy
   obtain⟨ua,uc,rfl,hsu⟩:=hru.get
   obtain⟨M,hM⟩:∃ M,M=(pf vs y).length:=⟨_,rfl⟩
   rw[← hM] at cu
   have Hy:=jH hy
   have HM:=jH hM
   have Hsu:=jH hsu
   clear hy hM hsu hru
   by_cases hMN:M=N
   ·subst hMN
    go_wp2_with fail
    go_loopg [7] M (fun g2 vj wq=>∃ (j m2:Nat),vj=.int .i64 j∧j≤M∧M - j≤g2∧wq=W.drewN m2∧Hid (∀ i<j,(pf vs y)[i]? = (pf vs x)[i]?))
    case atStart=>exact⟨0,_,rfl,by omega,by omega,rfl,fun i hi=>by omega⟩
    case round =>
     obtain⟨j,m2,rfl,hj,hg2,rfl,HE⟩:=hrel
     have hj0:(0:Int)≤(j:Int):=Int.natCast_nonneg j
     have hjw:IntKind.i64.wrap ((j:Int)+1)=(j:Int)+1:=IntWalk.i64_in _ (by omega)
     by_cases hjM:j<M
     ·have hjz:(j:Int)<(M:Int):=by omega
      obtain⟨⟨sx,ax⟩,hx⟩:∃ t,(pf vs x)[j]? = some t:=⟨_,jG (by rw[← HNl.out];exact hjM)⟩
      obtain⟨ga,rfl,cx0,cx1⟩:=Hs.out j _ hx
      obtain⟨⟨sy,ay⟩,hy⟩:∃ t,(pf vs y)[j]? = some t:=⟨_,jG (by rw[← HM.out];exact hjM)⟩
      obtain⟨gb,rfl,cy0,cy1⟩:=Hsu.out j _ hy
      dsimp only at cx0 cx1 cy0 cy1
      have HX:=jH hx
      have HY:=jH hy
      clear hx hy
      by_cases he:sx=sy∧ax=ay
      ·obtain⟨rfl,rfl⟩:=he
       have HE2:Hid (∀ i<j+1,(pf vs y)[i]? = (pf vs x)[i]?):=fun i hi=>if h:i=j then by rw[h,HX.out,HY.out] else HE.out i (by omega)
       clear HE
       go_wp2_with fail
       go_quiet (fail)
       go_wp2_with fail
       go_roundg (M - (j+1))
       case measure=>omega
       case rel=>exact⟨j+1,m2+nq,by go_num,by omega,by omega,rfl,HE2⟩
      ·have hz:sy=sx→¬ ((ay:Int)=(ax:Int)):=fun e1 e2=>he ⟨e1.symm,by omega⟩
       have HN2:Hid (∀ i<k+1,vs[i]?≠some x):=fun i hi=>if h:i=k then by
        rw[h,Hy.out]
        intro e
        cases e
        rw[HX.out] at HY
        have:=HY.out
        cases this
        exact he ⟨rfl,rfl⟩ else HN.out i (by omega)
       have hjn:¬ ((j:Int)=(M:Int)):=by omega
       have hjn1:decide ((j:Int)=(M:Int))=false:=by simpa using hjn
       have hjn2:((j:Int)==(M:Int))=false:=by simpa using hjn
       clear HE HN he
       by_cases hs:sy=sx
       ·subst hs
        have hz2:=hz rfl
        clear hz
        go_wp2_with fail
        go_quiet (fail)
        go_wp2_with fail
        go_roundg (vs.length - (k+1))
        case measure=>omega
        case rel=>exact⟨k+1,_,by go_num,by omega,by omega,rfl,HN2⟩
       ·clear hz
        revert hs
        cases sx <;>cases sy <;>intro hs <;>first | exact absurd rfl hs | skip
        all_goals
         go_wp2_with fail
         go_quiet (fail)
         go_wp2_with fail
         go_roundg (vs.length - (k+1))
         case measure=>omega
         case rel=>exact⟨k+1,_,by go_num,by omega,by omega,rfl,HN2⟩
     ·obtain rfl:j=M:=by omega
      have hex:Hid (vs[k]? = some x):=by
       show _=_
       rw[Hy.out]
       have:pf vs y=pf vs x:=by
        refine List.ext_getElem? fun i=>?_
        rcases Nat.lt_or_ge i j with h | h
        ·exact HE.out i h
        ·rw[List.getElem?_eq_none (by rw[← HM.out];exact h),List.getElem?_eq_none (by rw[← HNl.out];exact h)]
       rw[pf_inj Hwv.out (fun e he=>Hwv.out.mem_exps (jM Hy.out) he) Hx.out this]
      clear HE
      go_wp2_with fail
      go_quiet (fail)
      go_wp2_with fail
      go_ret
      have e1:=Hwv.out.idx_get hex.out
      have e2:putIn vs x=vs:=by unfold putIn; rw[if_pos (jM hex.out)]
      refine⟨.slice (some ⟨g,0,none⟩) vs.length cap,fl,?_,?_⟩
      ·rw[e2,e1];rfl
      ·rw[e2];exact (RPut.refl HH.out).post (jN _ _)
   ·have hm1:¬ ((M:Int)=(N:Int)):=by omega
    have hm2:decide ((M:Int)=(N:Int))=false:=by simpa using hm1
    have hm3:((M:Int)==(N:Int))=false:=by simpa using hm1
    have HN2:Hid (∀ i<k+1,vs[i]?≠some x):=fun i hi=>if h:i=k then by
     rw[h,Hy.out]
     intro e
     cases e
     exact hMN (HM.out.trans HNl.out.symm) else HN.out i (by omega)
    clear HN hMN
    go_wp2_with fail
    go_loopg [7] 0 (fun g2 vj wq=>∃ (m2:Nat),vj=.int .i64 0∧wq=W.drewN m2)
    case atStart=>exact⟨_,rfl,rfl⟩
    case round =>
     obtain⟨m2,rfl,rfl⟩:=hrel
     go_wp2_with fail
     go_quiet (fail)
     go_wp2_with fail
     go_roundg (vs.length - (k+1))
     case measure=>omega
     case rel=>exact⟨k+1,_,by go_num,by omega,by omega,rfl,HN2⟩
  ·have HN2:Hid (x∉vs):=fun hm=>by
    obtain⟨i,hi⟩:=List.getElem?_of_mem hm
    exact HN.out i (by have:=(jL hi).1; omega) hi
   obtain rfl:k=vs.length:=by omega
   have HF:Hid (W.ownsRow 0 137 1 (.slice (some ⟨g,0,none⟩) vs.length cap) vs.length fl):=HH.out.forms
   have hb1:N≤8000000000000:=by omega
   have hb2:vs.length+1≤5800000000000:=by omega
   have hw1:IntKind.i64.wrap (((vs.length+1:Nat):Int) - 1)=(vs.length:Int):=by rw[IntKind.wrap_i64];omega
   have hgl:g<W.heap.size:=jP HF.out rfl
   have lp:=HH.out.lt
   have c0a:∀ o n,((W.drewN n).alloc o).cell? ⟨p,0,none⟩=some (.slice (some ⟨g,0,none⟩) vs.length cap):=fun o n=>by rw[jB ((jE (W.drewN n) _ lp).trans HH.out.obj)];rfl
   clear HN Hs Hrow hg hk hkn
   go_wp2_with fail
   go_region_law (first
    | (refine zj rfl (.tmp 65) (.tmp 66) rfl (.slice (some ⟨_,0,none⟩) 0 0) [] rfl (RRow.nil (jD _ _)) qO _ (pf vs x) rfl (HL.out.src.below ⟨rfl,rfl,rfl,by simp,fun b hb=>jE _ _ hb⟩) N ((Nat.zero_add _).trans HNl.out.symm) (pf vs x) rfl hb1 _ rfl ?_; intro g1 c1 w1 R1 G1 A1 L1
       have B1:Hid (Below W.heap.size W w1):=by
        refine Below.trans (b:=(W.drewN _).alloc (.cells #[] 139)) ⟨rfl,rfl,rfl,by simp,fun b hb=>jE _ _ hb⟩ (j9 G1 (fun b hb=>?_) (by simp))
        cases hb; exact jR _
       have O1:Hid (W.heap.size≤g1):=by
        rcases A1 with h | h
        ·cases h; exact jR _
        ·show W.heap.size≤g1
         rw[h];simp
       have I1:Hid (w1.ownsRow 0 137 1 (.slice (some ⟨g,0,none⟩) vs.length cap) vs.length fl):=jK HF.out B1.out
       have R1':=jH R1
       have hp1:=(B1.out.block p lp).trans HH.out.obj
       have c1w:w1.cell? ⟨p,0,none⟩=some (.slice (some ⟨g,0,none⟩) vs.length cap):=by rw[jB hp1];rfl
       have c1a:∀ o,(w1.alloc o).cell? ⟨p,0,none⟩=some (.slice (some ⟨g,0,none⟩) vs.length cap):=fun o=>by rw[jB ((jE _ _ (jA hp1).1).trans hp1)];rfl
       clear hp1
       clear G1 A1 L1 R1)
    | (refine step_RF rfl (.tmp 64) (.tmp 68) rfl (.slice (some ⟨g,0,none⟩) vs.length cap) vs.length fl rfl (World.ownsRow.alloc I1.out _) _ (.slice (some ⟨g1,0,none⟩) N c1) rfl rfl (jD _ _) hb2 _ rfl ?_; intro g2 c2 w2 I2 G2 A2 L2
       have HP:=HH.out.push HN2.out Hx.out hc B1.out R1'.out O1.out I2 (fr_grown G2) (A2.imp (fun h=>by cases h; rfl) (fun h=>by rw[h];have:=B1.out.size; simp; omega))
       have c7:=HP.1
       have f7:=HP.2.1
       have HPut:=jH HP.2.2
       clear I2 G2 A2 L2 HP))
   all_goals
    go_wp2_with fail
    go_ret
    have e2:putIn vs x=vs++[x]:=by unfold putIn; rw[if_neg HN2.out]
    have e1:(vs++[x]).idxOf x=vs.length:=by rw[List.idxOf_append,if_neg HN2.out];simp
    refine⟨.slice (some ⟨g2,0,none⟩) (vs.length+1) c2,fl++[.slice (some ⟨g1,0,none⟩) N c1],?_,?_⟩
    ·rw[e2,e1];rfl
    ·rw[e2];exact HPut
end
section
theorem yM (s:Bool)(w:World): Calls Tryz.prog 116 #[.bool s] w fun e w'=>e=.returned (.int .i64 (sg s))∧w'=w:=by
 cases s
 all_goals
  go_enter Tryz.func116,Tryz.ntmps116
  go_wp2_with fail
  go_ret
  exact⟨rfl,rfl⟩
variable {W:World} {p n a b:Nat}
theorem rSign_calls {C:List Int}{fv:Value}{fl:List Value}{vs:List Int}(H:RW C W p fv fl vs){i:Nat}{x:Int}(hi:vs[i]? = some x):
 Calls Tryz.prog 73 #[.pointer (some ⟨p,0,none⟩),.int .i64 (i:Nat)] W fun e W'=>e=.returned (.int .i64 (isg x))∧W'=W:=by
 have hsg:=yM
 have c0:=H.c0
 obtain⟨g,cap,rfl,hrow⟩:=H.formAt
 obtain⟨v,_,cv,hr⟩:=hrow i x hi
 have hlt:i<vs.length:=(jL hi).1
 have i0:(0:Int)≤(i:Int):=by omega
 have iz:(i:Int)<(vs.length:Int):=by omega
 obtain⟨a,c,rfl,hs⟩:=hr.get
 have e:isg x=signT (pf vs x):=(signT_pf vs x).symm
 rw[e]
 clear H hrow hr e hi hlt
 generalize pf vs x=l at *
 cases l with
 | nil =>
   clear hs hsg
   go_enter Tryz.func73,Tryz.ntmps73
   go_wp2_with fail
   go_ret
   exact⟨rfl,rfl⟩
 | cons t l =>
   obtain⟨g2,rfl,d0,d1⟩:=hs 0 t rfl
   rw[Nat.zero_mul] at d0
   obtain⟨n,hn⟩:∃ n,n=(t::l).length:=⟨_,rfl⟩
   have hn2:¬ ((n:Int)=0):=by rw[hn,List.length_cons];omega
   have hn3:((n:Int)==0)=false:=by simpa using hn2
   have hn4:(0:Int)<(n:Int):=by rw[hn,List.length_cons];omega
   rw[← hn] at cv
   have hsg1:=hsg t.1
   clear hs d1 hn hsg
   show Calls _ _ _ _ fun e W'=>e=.returned (.int .i64 (sg t.1))∧W'=W
   go_enter Tryz.func73,Tryz.ntmps73
   go_wp2_with fail
   refine (hsg1 _).mono ?_
   rintro e w' ⟨rfl,rfl⟩
   go_wp2_with fail
   go_ret
   exact⟨rfl,rfl⟩
theorem yN {P:Program}{f:FuncId}{args:Array Value}{N:Nat}{v:Value}(h:Calls P f args (W.drewN (N+n)) fun e w'=>e=.returned v∧∃ m,w'=(W.drewN (N+n)).drewN m):
 Calls P f args (W.drewN (N+n)) fun e w''=>e=.returned v∧∃ m,w''=W.drewN (N+m):=h.mono fun _ _ ⟨he,m,hm⟩=>⟨he,n+m,by rw[hm,World.drewN_drewN,Nat.add_assoc]⟩
theorem quiet_same {P:Program}{f:FuncId}{args:Array Value}{N:Nat}{v:Value}(h:Calls P f args (W.drewN (N+n)) fun e w'=>e=.returned v∧w'=W.drewN (N+n)):
 Calls P f args (W.drewN (N+n)) fun e w''=>e=.returned v∧∃ m,w''=W.drewN (N+m):=h.mono fun _ _ ⟨he,hm⟩=>⟨he,n,hm⟩
def RCmpC (p:Nat)(a b:Nat)(c:Int)(W:World): Prop :=
 Calls Tryz.prog 84 #[.pointer (some ⟨p,0,none⟩),.int .i64 (a:Nat),.int .i64 (b:Nat)] W fun e W'=>e=.returned (.int .i64 c)∧∃ m,W'=W.drewN m
theorem rCmp_walk {g cap:Nat}{va vb:Value}{la lb:List PT}(cf:Nat→Nat→Int)(c0:W.cell? ⟨p,0,none⟩=some (.slice (some ⟨g,0,none⟩) n cap))(ha:a<n)(hb:b<n) 
 (cva:W.cell? ⟨g,a,none⟩=some va) (cvb:W.cell? ⟨g,b,none⟩=some vb) (ra:RRow W va la) (rb:RRow W vb lb) (hna:la.length≤5000000004097) (hcf:∀ i j,-1≤cf i j∧cf i j≤1)
 (hi:Hid (∀ (k:Nat) (s t:PT) (m:Nat),la[k]? = some s→lb[k]? = some t→RCmpC p s.2 t.2 (cf s.2 t.2) (W.drewN m))):RCmpC p a b (cmpT cf la lb) W:=by
 have a0:(0:Int)≤(a:Int):=by omega
 have b0:(0:Int)≤(b:Int):=by omega
 have az:(a:Int)<(n:Int):=by omega
 have bz:(b:Int)<(n:Int):=by omega
 obtain⟨va1,va2,rfl,sa⟩:=ra.get
 obtain⟨vb1,vb2,rfl,sb⟩:=rb.get
 have Sa:=jH sa
 have Sb:=jH sb
 have HI:=hi
 clear ra rb sa sb hi ha hb
 unfold RCmpC
 go_enter Tryz.func84,Tryz.ntmps84
 go_wp2_with fail
 go_quiet (fail)
 go_wp2_with fail
 go_loopg [9] la.length (fun g1 vi wr=>∃ (k m:Nat),vi=.int .i64 k∧k≤la.length∧k≤lb.length∧la.length - k≤g1∧wr=W.drewN m∧Hid (∀ i<k,∃ t,la[i]? = some t∧lb[i]? = some t))
 case atStart=>exact⟨0,nq,rfl,by omega,by omega,by omega,rfl,fun i hi=>by omega⟩
 case round =>
  obtain⟨k,m,rfl,hka,hkb,hg,rfl,HE⟩:=hrel
  have hk0:(0:Int)≤(k:Int):=Int.natCast_nonneg k
  have hkw:IntKind.i64.wrap ((k:Int)+1)=(k:Int)+1:=IntWalk.i64_in _ (by omega)
  by_cases h1:k<la.length
  ·have h1z:(k:Int)<(la.length:Int):=by omega
   obtain⟨⟨sx,ax⟩,hx⟩:∃ x,la[k]? = some x:=⟨_,jG h1⟩
   obtain⟨ga,rfl,cx0,cx1⟩:=Sa.out k _ hx
   have Hx:=jH hx
   dsimp only at cx0 cx1
   clear hx
   by_cases h2:k<lb.length
   ·have h2z:(k:Int)<(lb.length:Int):=by omega
    obtain⟨⟨sy,ay⟩,hy⟩:∃ x,lb[k]? = some x:=⟨_,jG h2⟩
    obtain⟨gb,rfl,cy0,cy1⟩:=Sb.out k _ hy
    have Hy:=jH hy
    dsimp only at cy0 cy1
    clear hy
    by_cases he:sx=sy∧ax=ay
    ·obtain⟨rfl,rfl⟩:=he
     have HE2:Hid (∀ i<k+1,∃ t,la[i]? = some t∧lb[i]? = some t):=fun i hi=>if h:i=k then ⟨(sx,ax),h▸Hx.out,h▸Hy.out⟩ else HE.out i (by omega)
     clear HE
     go_wp2_with fail
     go_quiet (fail)
     go_wp2_with fail
     go_roundg (la.length - (k+1))
     case measure=>omega
     case rel=>exact⟨k+1,m+nq,by go_num,by omega,by omega,by omega,rfl,HE2⟩
    ·have HR:=jH (cmpT_both (c:=cf) HE.out Hx.out Hy.out (fun e1=>he ⟨congrArg Prod.fst e1,congrArg Prod.snd e1⟩))
     have hz:sx=sy→¬ ((ax:Int)=(ay:Int)):=fun e1 e2=>he ⟨e1,by omega⟩
     have hek:¬ ((k:Int)=(la.length:Int)):=by omega
     have hel:¬ ((k:Int)=(lb.length:Int)):=by omega
     have hek1:decide ((k:Int)=(la.length:Int))=false:=by simpa using hek
     have hel1:decide ((k:Int)=(lb.length:Int))=false:=by simpa using hel
     have hek2:((k:Int)==(la.length:Int))=false:=by simpa using hek
     have hel2:((k:Int)==(lb.length:Int))=false:=by simpa using hel
     clear HE he
     by_cases hs:sx=sy
     ·subst hs
      have hz2:=hz rfl
      have HIk:∀ n,Calls Tryz.prog 84 #[.pointer (some ⟨p,0,none⟩),.int .i64 (ax:Nat),.int .i64 (ay:Nat)] (W.drewN n) fun e W'=>e=.returned (.int .i64 (cf ax ay))∧∃ m,W'=(W.drewN n).drewN m:=fun n=>HI.out k _ _ n Hx.out Hy.out
      have hw:IntKind.i64.wrap (sg sx*cf ax ay)=sg sx*cf ax ay:=wrapc _ (by have:=hcf ax ay; cases sx <;>simp only[sg_true,sg_false] <;>omega)
      clear hz
      go_wp2_with fail
      go_quiet (fail)
      go_wp2_with fail
      go_quiet (fail)
      go_wp2_with fail
      go_quiet (first | (go_at_call 116; exact quiet_same (yM _ _)) | (go_at_call 84; exact yN (HIk _)))
      go_wp2_with fail
      go_ret
      exact⟨by rw[HR.out];simp[dif],_,by rw[World.drewN_drewN,World.drewN_drewN]⟩
     ·clear hz
      have hsr:=yM sx
      have hw:IntKind.i64.wrap (-(sg sy)) = -(sg sy):=wrapc _ (by cases sy <;>simp[sg_true,sg_false])
      revert hsr HR
      cases sx <;>cases sy <;>first | exact absurd rfl hs | skip
      all_goals
       intro HR hsr
       go_wp2_with fail
       go_quiet (fail)
       go_wp2_with fail
       go_quiet (fail)
       go_wp2_with fail
       refine (hsr _).mono ?_
       rintro e w' ⟨rfl,rfl⟩
       go_wp2_with fail
       go_ret
       exact⟨by rw[HR.out];rfl,_,rfl⟩
   ·obtain rfl:k=lb.length:=by omega
    have hek:¬ ((lb.length:Int)=(la.length:Int)):=by omega
    have hek1:decide ((lb.length:Int)=(la.length:Int))=false:=by simpa using hek
    have hek2:((lb.length:Int)==(la.length:Int))=false:=by simpa using hek
    have hsr:=yM sx
    have HR:=jH (cmpT_left (c:=cf) HE.out Hx.out (jR _))
    clear HE
    go_wp2_with fail
    go_quiet (fail)
    go_wp2_with fail
    go_quiet (fail)
    go_wp2_with fail
    refine (hsr _).mono ?_
    rintro e w' ⟨rfl,rfl⟩
    go_wp2_with fail
    go_ret
    exact⟨by rw[HR.out];rfl,_,rfl⟩
  ·obtain rfl:k=la.length:=by omega
   by_cases h2:la.length<lb.length
   ·have h2z:(la.length:Int)<(lb.length:Int):=by omega
    obtain⟨⟨sy,ay⟩,hy⟩:∃ x,lb[la.length]? = some x:=⟨_,jG h2⟩
    obtain⟨gb,rfl,cy0,cy1⟩:=Sb.out la.length _ hy
    have Hy:=jH hy
    dsimp only at cy0 cy1
    clear hy
    have hek:¬ ((la.length:Int)=(lb.length:Int)):=by omega
    have hek1:decide ((la.length:Int)=(lb.length:Int))=false:=by simpa using hek
    have hek2:((la.length:Int)==(lb.length:Int))=false:=by simpa using hek
    have hsr:=yM sy
    have hw:IntKind.i64.wrap (-(sg sy)) = -(sg sy):=wrapc _ (by cases sy <;>simp[sg_true,sg_false])
    have HR:=jH (cmpT_right (c:=cf) HE.out Hy.out (jR _))
    clear HE
    go_wp2_with fail
    go_quiet (fail)
    go_wp2_with fail
    refine (hsr _).mono ?_
    rintro e w' ⟨rfl,rfl⟩
    go_wp2_with fail
    go_ret
    exact⟨by rw[HR.out];rfl,_,rfl⟩
   ·have hel:lb.length=la.length:=by omega
    have HR:=jH (cmpT_end (c:=cf) HE.out (jR _) (Nat.le_of_eq hel))
    rw[hel] at *
    clear HE
    go_wp2_with fail
    go_quiet (fail)
    go_wp2_with fail
    go_ret
    exact⟨by rw[HR.out];rfl,_,rfl⟩
theorem cmpC_kept {c:Int}: ∀ (C:List Int) (fv:Value) (fl:List Value) (vs:List Int) (x y:Int),RW C W p fv fl vs→vs[a]? = some x→vs[b]? = some y→c=isg (x - y)→RCmpC p a b c W:=by
 intro C fv fl vs x y H ha hb hc
 subst hc
 have key:∀ (N a b:Nat) (x y:Int) (W:World),a≤N→RW C W p fv fl vs→vs[a]? = some x→vs[b]? = some y→RCmpC p a b (isg (x - y)) W:=by
  intro N
  induction N using Nat.strongRecOn with
  | ind N ih =>
    intro a b x y W hN H ha hb
    have hwv:=H.wv
    obtain⟨g,cap,hfv,hrow⟩:=H.formAt
    obtain⟨va,_,cva,ra⟩:=hrow a x ha
    obtain⟨vb,_,cvb,rb⟩:=hrow b y hb
    have c0:=H.c0
    rw[hfv] at c0
    have hNa:(pf vs x).length≤vs.length:=by
     have h1:(pf vs x).length=(exps x).length:=by simp[pf,exps]
     rw[h1]
     have:=jT (exps x) (vs.map Int.toNat) (exps_nodup x) (fun e he=>List.mem_map.2 ⟨(e:Int),hwv.mem_exps (jM ha) he,by simp⟩)
     rwa [List.length_map] at this
    rw[← cmpT_pf hwv (jM ha) (jM hb)]
    refine rCmp_walk _ c0 (jL ha).1 (jL hb).1 cva cvb ra rb (Nat.le_trans hNa H.vlen) (fun i j=>isg_bd _) ?_
    intro k s t m hs ht
    obtain⟨s0,hs0,rfl⟩:∃ s0,(form x)[k]? = some s0∧s=(s0.1,vs.idxOf (s0.2:Int)):=by
     unfold pf at hs; rw[List.getElem?_map] at hs; obtain⟨s0,h1,h2⟩:=Option.map_eq_some_iff.1 hs; exact⟨s0,h1,h2.symm⟩
    obtain⟨t0,ht0,rfl⟩:∃ t0,(form y)[k]? = some t0∧t=(t0.1,vs.idxOf (t0.2:Int)):=by
     unfold pf at ht; rw[List.getElem?_map] at ht; obtain⟨s0,h1,h2⟩:=Option.map_eq_some_iff.1 ht; exact⟨s0,h1,h2.symm⟩
    obtain⟨i,hi,e1⟩:=hwv.closed a x ha s0.2 (List.mem_map.2 ⟨s0,jM hs0,rfl⟩)
    obtain⟨j,hj,e2⟩:=hwv.closed b y hb t0.2 (List.mem_map.2 ⟨t0,jM ht0,rfl⟩)
    dsimp only
    rw[hwv.idx_get e1,hwv.idx_get e2,zE e1,zE e2]
    exact ih i (by omega) i j _ _ _ (jR _) (H.drewN m) e1 e2
 exact key a a b x y W (jR _) H ha hb
theorem yO {C:List Int}{fv:Value}{fl:List Value}{vs:List Int}(H:RW C W p fv fl vs){x y:Int}(ha:vs[a]? = some x)(hb:vs[b]? = some y):
 Calls Tryz.prog 84 #[.pointer (some ⟨p,0,none⟩),.int .i64 (a:Nat),.int .i64 (b:Nat)] W fun e W'=>e=.returned (.int .i64 (isg (x - y)))∧∃ m,W'=W.drewN m:=cmpC_kept C fv fl vs x y H ha hb rfl
end
section
def RPlusQ (C:List Int)(W:World)(p:Nat)(fv:Value)(fl:List Value)(vs:List Int)(z:Int)(e:Ending)(W':World): Prop :=
 ∃ v' fv' fl' vs',e=.returned v'∧Hid (RPut C W W' p fv fv' fl fl' vs vs')∧Hid (∀ j∈exps z,(j:Int)∈vs')∧Hid (RRow W' v' (pf vs' z))
def RPlus (C:List Int)(x:Int)(s:Bool)(e:Nat): Prop:=∀ (W:World) (p:Nat) (fv:Value) (fl:List Value) (vs:List Int) (v:Value) (i:Nat),RW C W p fv fl vs→(∀ j∈exps x,(j:Int)∈vs)→RRow W v (pf vs x)→vs[i]? = some (e:Int) →
 Calls Tryz.prog 113 #[.pointer (some ⟨p,0,none⟩),v,.agg #[.bool s,.int .i64 (i:Nat)]] W (RPlusQ C W p fv fl vs (x+tv (s,e)))
def RNextQ (C:List Int)(W:World)(p:Nat)(fv:Value)(fl:List Value)(vs:List Int)(j:Nat)(e:Ending)(W':World): Prop :=
 ∃ (i:Nat) (fv':Value) (fl':List Value) (vs':List Int),e=.returned (.int .i64 (i:Nat))∧Hid (RPut C W W' p fv fv' fl fl' vs vs')∧Hid (vs'[i]? = some ((j+1:Nat):Int))
def RNext (C:List Int)(j:Nat): Prop:=∀ (W:World) (p:Nat) (fv:Value) (fl:List Value) (vs:List Int) (i:Nat),RW C W p fv fl vs→vs[i]? = some (j:Int) →
 Calls Tryz.prog 114 #[.pointer (some ⟨p,0,none⟩),.int .i64 (i:Nat)] W (RNextQ C W p fv fl vs j)
structure PSt (C:List Int)(w:World)(p:Nat)(fv:Value)(fl:List Value)(vs:List Int)(x:Int)(v:Value)(bt:Nat)(s:Bool)(i e:Nat): Prop where
 rw:RW C w p fv fl vs
 exs:∀ j∈exps x,(j:Int)∈vs
 row:RRow w v (pf vs x)
 box:w.heap[bt]? = some (.cells #[.bool s,.int .i64 (i:Nat)] 139 (0,0))
 plc:vs[i]? = some (e:Int)
variable {z:Int} {k:Nat}
section
variable {C:List Int} {w w':World} {p:Nat} {fv fv':Value} {fl fl':List Value} {vs vs':List Int} {x:Int} {v:Value} {bt:Nat} {s:Bool} {i e:Nat}
theorem PSt.below (h:PSt C w p fv fl vs x v bt s i e)(hb:Below w.heap.size w w'): PSt C w' p fv fl vs x v bt s i e :=
 ⟨h.rw.below hb,h.exs,jK h.row hb,(hb.block bt (jA h.box).1).trans h.box,h.plc⟩
theorem PSt.drewN (h:PSt C w p fv fl vs x v bt s i e)(n:Nat): PSt C (w.drewN n) p fv fl vs x v bt s i e:=h.below (jN _ _)
theorem pf_put (h:RPut C w w' p fv fv' fl fl' vs vs')(hw:WV vs)(hz:∀ j∈exps z,(j:Int)∈vs): pf vs' z=pf vs z:=pf_ext h.ext hw hz
theorem PSt.put (h:PSt C w p fv fl vs x v bt s i e)(k:RPut C w w' p fv fv' fl fl' vs vs'): PSt C w' p fv' fl' vs' x v bt s i e :=
 ⟨k.rw,fun j hj=>qN k.ext (h.exs j hj),by rw[pf_put k h.rw.wv h.exs];exact h.row.fr h.rw k.fr,fr_type h.rw k.fr h.box (by decide) (by decide),jW k.ext h.plc⟩
theorem PSt.b0 (h:PSt C w p fv fl vs x v bt s i e): w.cell? ⟨bt,0,none⟩=some (.bool s):=by rw[jB h.box];rfl
theorem PSt.b1 (h:PSt C w p fv fl vs x v bt s i e): w.cell? ⟨bt,1,none⟩=some (.int .i64 (i:Nat)):=by rw[jB h.box];rfl
theorem PSt.term (h:PSt C w p fv fl vs x v bt s i e){u:Tm}(hu:(form x)[k]? = some u): ∃ g c d,v=.slice (some ⟨g,0,none⟩) (form x).length c∧w.cell? ⟨g,k*2,none⟩=some (.bool u.1)∧w.cell? ⟨g,k*2+1,none⟩=some (.int .i64 (d:Nat))∧vs[d]? = some (u.2:Int):=by
 obtain⟨a,c,rfl,hs⟩:=h.row.get
 have e1:(pf vs x)[k]? = some (u.1,vs.idxOf (u.2:Int)):=by unfold pf; rw[List.getElem?_map,hu];rfl
 obtain⟨g,rfl,k1,k2⟩:=hs k _ e1
 exact⟨g,c,_,by simp[pf],k1,k2,jU (h.exs _ (Sr.mem_exps (jM hu)))⟩
theorem PSt.shape (h:PSt C w p fv fl vs x v bt s i e): ∃ a c,v=.slice a (form x).length c:=by
 obtain⟨a,c,rfl,_⟩:=h.row.get
 exact⟨a,c,by simp[pf]⟩
theorem PSt.len (h:PSt C w p fv fl vs x v bt s i e): (form x).length≤5000000004097:=by
 have h1:=yz h.exs
 have h2:(pf vs x).length=(form x).length:=by simp[pf]
 have:=h.rw.vlen; omega
theorem WV.same (h:WV vs){a b:Nat}{y:Int}(ha:vs[a]? = some y)(hb:vs[b]? = some z): a=b↔y=z:=by
 constructor
 ·rintro rfl; rw[ha] at hb; exact Option.some.inj hb
 ·rintro rfl; rw[← h.idx_get ha,h.idx_get hb]
theorem RPlusQ.pre {W0:World}{z:Int}{y:Ending}(h0:Below W0.heap.size W0 w)(h:RPlusQ C w p fv fl vs z y w'): RPlusQ C W0 p fv fl vs z y w':=by
 obtain⟨v',fv',fl',vs',h1,h2,h3,h4⟩:=h
 exact⟨v',fv',fl',vs',h1,h2.out.pre h0,h3,h4⟩
theorem RPlusQ.put {y:Ending}{w2:World}(h0:RPut C w w' p fv fv' fl fl' vs vs')(h:RPlusQ C w' p fv' fl' vs' z y w2): RPlusQ C w p fv fl vs z y w2:=by
 obtain⟨v2,fv2,fl2,vs2,h1,h2,h3,h4⟩:=h
 exact⟨v2,fv2,fl2,vs2,h1,h0.trans h2.out,h3,h4⟩
theorem PSt.ends (h:RW C w p fv fl vs)(hb:Below w.heap.size w w'){v':Value}(hz:∀ j∈exps z,(j:Int)∈vs)(hr:RRow w' v' (pf vs z)): RPlusQ C w p fv fl vs z (.returned v') w' :=
 ⟨v',fv,fl,vs,rfl,(RPut.refl h).post hb,hz,hr⟩
end
theorem cut_at {x:Int}{e:Nat}(h1:∀ i<k,∀ u,(form x)[i]? = some u→e<u.2)(h2:∀ u,(form x)[k]? = some u→u.2≤e): (∀ u∈(form x).take k,e<u.2)∧∀ u∈(form x).drop k,u.2≤e:=by
 refine⟨fun u hu=>?_,fun u hu=>?_⟩
 ·obtain⟨i,hi⟩:=List.getElem?_of_mem hu
  rw[List.getElem?_take] at hi
  split at hi
  ·exact h1 i (by assumption) u hi
  ·cases hi
 ·cases hd:(form x)[k]? with
  | none=>rw[List.drop_eq_nil_of_le (List.getElem?_eq_none_iff.1 hd)] at hu; simp at hu
  | some t =>
    have ht:=h2 t hd
    have hn:=jb x
    have e1:form x=(form x).take k++t::(form x).drop (k+1):=by
     obtain⟨h3,h4⟩:=jL hd
     rw[← h4,← List.drop_eq_getElem_cons h3,List.take_append_drop]
    have e2:(form x).drop k=t::(form x).drop (k+1):=by
     obtain⟨h3,h4⟩:=jL hd
     rw[← h4,← List.drop_eq_getElem_cons h3]
    rw[e2] at hu
    rw[e1] at hn
    rcases List.mem_cons.1 hu with rfl | hu
    ·exact ht
    ·have:=(List.pairwise_cons.1 (List.pairwise_append.1 hn).2.1).1 u hu; omega
theorem split_at {x:Int}{u:Tm}(h:(form x)[k]? = some u): form x=(form x).take k++u::(form x).drop (k+1):=by
 obtain⟨h3,h4⟩:=jL h
 rw[← h4,← List.drop_eq_getElem_cons h3,List.take_append_drop]
theorem pf_del {vs:List Int}{x:Int}{u:Tm}(h:(form x)[k]? = some u): (pf vs x).take k++(pf vs x).drop (k+1)=pf vs (x - tv u):=by
 unfold pf
 rw[form_del (split_at h),List.map_append,List.map_take,List.map_drop]
theorem exs_del {vs:List Int}{x:Int}{u:Tm}(h:(form x)[k]? = some u)(hx:∀ j∈exps x,(j:Int)∈vs): ∀ j∈exps (x - tv u),(j:Int)∈vs:=fun j hj =>
 hx j ((qK (s:=u.1) (e:=u.2) (jM h) j).1 hj).1
theorem isg_one {a b:Nat}(h:b<a): isg ((a:Int) - b)=1:=zu (by omega)
theorem isg_no {a b:Nat}(h:¬ b<a): decide (0<isg ((a:Int) - b))=false:=by
 unfold isg; split
 ·rfl
 ·split
  ·rfl
  ·omega
theorem pst_start {C:List Int}{W:World}{p:Nat}{fv:Value}{fl:List Value}{vs:List Int}{x:Int}{v:Value}{s:Bool}{i e:Nat}(H:RW C W p fv fl vs)(hx:∀ j∈exps x,(j:Int)∈vs)(hr:RRow W v (pf vs x))(hi:vs[i]? = some (e:Int)):
 ∃ W0 bt,W.alloc (.cells #[.bool s,.int .i64 (i:Nat)] 139)=W0∧W.heap.size=bt∧Hid (PSt C W0 p fv fl vs x v bt s i e)∧Hid (Below W.heap.size W W0):=by
 refine⟨_,_,rfl,rfl,?_,(Below.refl _ _).alloc (jR _) _⟩
 exact⟨H.alloc _,hx,jK hr ((Below.refl _ _).alloc (jR _) _),jD _ _,hi⟩
theorem bool_ne {a b:Bool}(h:¬ a=b): b=!a:=by cases a <;>cases b <;>simp_all
theorem plus_eq {C:List Int}{x:Int}{s:Bool}{e:Nat}(he:e∈exps x)(hn:(s,e)∈form x→RNext C e)(eqs:(s,e)∈form x→RPlus C (x - tv (s,e)) s (e+1)): RPlus C x s e:=by
 intro W p fv fl vs v i H hx hr hi
 obtain⟨W0,bt,hW0,hbt,HP,HB⟩:=pst_start (s:=s) H hx hr hi
 obtain⟨va,vc,rfl⟩:=HP.out.shape
 have hlen:=HP.out.len
 have b0:=HP.out.b0
 have b1:=HP.out.b1
 obtain⟨n,hnl⟩:∃ n,n=(form x).length:=⟨_,rfl⟩
 rw[← hnl] at HP hlen
 rw[← hnl]
 have HN:=jH hnl
 have HQ:Hid (∀ y w',RPlusQ C W0 p fv fl vs (x+tv (s,e)) y w'→RPlusQ C W p fv fl vs (x+tv (s,e)) y w'):=fun y w' h=>h.pre HB.out
 clear hnl H hx hr hi
 go_enter Tryz.func113,Tryz.ntmps113
 go_wp2_with fail
 go_loopg [7] n (fun g1 vi wr=>∃ (k m:Nat),vi=.int .i64 k∧k≤n∧n - k≤g1∧wr=W0.drewN m∧Hid (∀ i<k,∀ u,(form x)[i]? = some u→e<u.2))
 case atStart=>exact⟨0,0,rfl,by omega,by omega,rfl,fun i hi=>by omega⟩
 case round =>
  obtain⟨k,m,rfl,hkn,hg,rfl,HK⟩:=hrel
  have hk0:(0:Int)≤(k:Int):=Int.natCast_nonneg k
  have hkw:IntKind.i64.wrap ((k:Int)+1)=(k:Int)+1:=IntWalk.i64_in _ (by omega)
  by_cases hk:k<n
  ·have hkz:(k:Int)<(n:Int):=by omega
   obtain⟨⟨su,eu⟩,hu⟩:∃ u,(form x)[k]? = some u:=⟨_,jG (by rw[← HN.out];exact hk)⟩
   obtain⟨ga,ca,d,hv,cu0,cu1,hd⟩:=HP.out.term hu
   rw[← HN.out] at hv
   cases hv
   have Hu:=jH hu
   have Hd:=jH hd
   have hC:∀ n,Calls Tryz.prog 84 #[.pointer (some ⟨p,0,none⟩),.int .i64 (d:Nat),.int .i64 (i:Nat)] (W0.drewN n) fun e' W'=>e'=.returned (.int .i64 (isg ((eu:Int) - e)))∧∃ m,W'=(W0.drewN n).drewN m:=fun n=>yO (HP.out.drewN n).rw hd HP.out.plc
   clear hd hu
   dsimp only at cu0 cu1
   by_cases hgt:e<eu
   ·have HK2:Hid (∀ i<k+1,∀ u,(form x)[i]? = some u→e<u.2):=fun i hi u hu=>if h:i=k then by
     subst h; rw[Hu.out] at hu; cases hu; exact hgt else HK.out i (by omega) u hu
    rw[isg_one hgt] at hC
    clear HK
    go_wp2_with fail
    go_quiet (first | (go_at_call 84; exact yN (hC _)))
    go_wp2_with fail
    go_roundg (n - (k+1))
    case measure=>omega
    case rel=>exact⟨k+1,m+nq,by go_num,by omega,by omega,rfl,HK2⟩
   ·have HCut:=jH (cut_at HK.out (fun u hu=>by rw[Hu.out] at hu; cases hu; show eu≤e; omega))
    have hc0:=isg_no hgt
    generalize isg ((eu:Int) - e)=c at hC hc0
    have hc1:¬ (0<c):=by simpa using hc0
    clear HK hg
    have heu:eu=e:=by
     have h1:=HCut.out
     have h2:e∈exps x:=he
     rw[q8 (List.take_append_drop k (form x)).symm,List.map_append,List.mem_append] at h2
     rcases h2 with h2 | h2
     ·obtain⟨t,ht,e1⟩:=List.mem_map.1 h2
      have:=h1.1 t ht; omega
     ·obtain⟨t,ht,e1⟩:=List.mem_map.1 h2
      have hn:=jb x
      rw[split_at Hu.out] at hn
      have h4:(form x).drop k=(su,eu)::(form x).drop (k+1):=by
       obtain⟨h3,h4⟩:=jL Hu.out
       rw[← h4,← List.drop_eq_getElem_cons h3]
      rw[h4] at ht
      rcases List.mem_cons.1 ht with rfl | ht
      ·exact e1
      ·have:=(List.pairwise_cons.1 (List.pairwise_append.1 hn).2.1).1 t ht
       dsimp only at this; omega
    subst heu
    have hdi:d=i:=(HP.out.rw.wv.same Hd.out HP.out.plc).2 rfl
    subst hdi
    have HWo:Hid (∀ M,Calls Tryz.prog 137 #[.slice (some ⟨ga,0,none⟩) n vc,.int .i64 (k:Nat)] (W0.drewN M) fun e W'=>∃ v',e=.returned v'∧Hid (RRow W' v' (pf vs (x - tv (su,eu))))∧Hid (Below (W0.drewN M).heap.size (W0.drewN M) W')∧Hid (∀ b,v'.ownBlock=some b→(W0.drewN M).heap.size≤b)):=fun M=>by
     have:=y9 (HP.out.drewN M).row (k:=k) (by rw[show (pf vs x).length=(form x).length by simp[pf],← HN.out];exact hk) (by rw[show (pf vs x).length=(form x).length by simp[pf],← HN.out];exact hlen)
     rwa [pf_del Hu.out] at this
    go_wp2_with fail
    go_quiet (first | (go_at_call 84; exact yN (hC _)))
    go_wp2_with fail
    go_quiet (fail)
    go_wp2_with fail
    by_cases hs:su=s
    ·subst hs
     have HNx:=jH (hn (jM Hu.out))
     have HRe:=jH (eqs (jM Hu.out))
     have HZ:Hid (x - tv (su,eu)+tv (su,eu+1)=x+tv (su,eu)):=by show _=_; rw[j6];omega
     clear hn eqs hC hkw hc0 hc1
     go_quiet (fail)
     go_wp2_with fail
     go_region_held3 (fun w'=>w'.cell? ⟨bt,0,none⟩=some (.bool su)∧w'.cell? ⟨bt,1,none⟩=some (.int .i64 (d:Nat))) (first | go_keep | exact⟨hk0',hk1'⟩)
      (first
        | (go_at_call 137; refine (HWo.out _).mono ?_; rintro y w1 ⟨v1,rfl,hr1,hb1,-⟩
           have HP1:=jH ((HP.out.drewN _).below hb1.out)
           have HB1:=jH (Below.trans (jN W0 _) hb1.out)
           have hk0':=HP1.out.b0
           have hk1':=HP1.out.b1
           have hcN:=HNx.out w1 p fv fl vs d HP1.out.rw HP1.out.plc
           clear hb1)
        | (go_at_call 114; refine hcN.mono ?_; rintro y w2 ⟨d2,fv2,fl2,vs2,rfl,hp2,hd2⟩
           have hr2:=hr1.out.fr HP1.out.rw hp2.out.fr
           have HX:=exs_del Hu.out HP1.out.exs
           rw[← pf_put hp2.out HP1.out.rw.wv HX] at hr2
           have HP2:=jH (HP1.out.put hp2.out)
           have hk0':=HP2.out.b0
           have hk1':=HP2.out.b1
           have hcP:=HRe.out w2 p fv2 fl2 vs2 v1 d2 HP2.out.rw (fun j hj=>qN hp2.out.ext (HX j hj)) hr2 hd2.out
           clear hr2 HX hcN)
        | (go_at_call 113; refine hcP.mono ?_; rintro y w3 ⟨v3,fv3,fl3,vs3,rfl,hp3,hx3,hr3⟩
           have hk0':=(HP2.out.put hp3.out).b0
           have hk1':=(HP2.out.put hp3.out).b1))
     go_wp2_with fail
     go_ret
     refine HQ.out _ _ ⟨v3,fv3,fl3,vs3,rfl,(hp2.out.trans hp3.out).pre HB1.out,?_,?_⟩
     ·rw[← HZ.out];exact hx3
     ·rw[← HZ.out];exact hr3
    ·have hso:=bool_ne hs
     subst hso
     clear hs hn eqs hC
     have hsn:(su != !su)=true:=by cases su <;>rfl
     go_quiet (fail)
     go_wp2_with fail
     refine (HWo.out _).mono ?_
     rintro y w1 ⟨v1,rfl,hr1,hb1,-⟩
     go_wp2_with fail
     go_ret
     refine HQ.out _ _ (PSt.ends HP.out.rw (Below.trans (jN W0 _) hb1.out) ?_ ?_)
     ·rw[qX,show x+-tv (su,eu)=x - tv (su,eu) by omega];exact exs_del Hu.out HP.out.exs
     ·rw[qX,show x+-tv (su,eu)=x - tv (su,eu) by omega];exact hr1.out
  ·obtain rfl:n=k:=by omega
   have HCut:=jH (cut_at HK.out (fun u hu=>absurd (jL hu).1 (by rw[← HN.out];omega)))
   clear HK hg hk
   exfalso
   obtain⟨t,ht,e1⟩:=List.mem_map.1 he
   have:=HCut.out.1 t (by rw[List.take_of_length_le (by rw[← HN.out];omega)];exact ht)
   omega
end
end Sr

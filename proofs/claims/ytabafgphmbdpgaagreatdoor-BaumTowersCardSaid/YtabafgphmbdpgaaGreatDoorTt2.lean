/- Texts of this claim, joined: TwF, RevB, Sam2, Inv6, TwW. -/
import Derived.Test.YtabafgphmbdpgaaGreatDoorTt1
import Derived.Test.YtabafgphmbdpgaaGreatDoorTe26
import Derived.Test.YtabafgphmbdpgaaGreatDoorTe1
import Derived.Test.YtabafgphmbdpgaaGreatDoorTe3
import Derived.Test.YtabafgphmbdpgaaGreatDoorTe27
import Derived.Test.YtabafgphmbdpgaaGreatDoorTe28
import Derived.Test.YtabafgphmbdpgaaGreatDoorTe17
set_option maxHeartbeats 8000000
set_option maxRecDepth 100000
namespace Sr
section
theorem twL_len2:∀ k,(twL k).length+5=6*2 ^ k
 | 0=>rfl
 | k+1=>by
   have:=twL_len2 k
   rw[twL_len,Nat.pow_succ];omega
theorem twL_cA2:∀ k,cA (twL k)+1=2 ^ (k+1)
 | 0=>rfl
 | k+1=>by
   have:=twL_cA2 k
   rw[twL_cA,Nat.pow_succ];omega
variable {k:Nat}
theorem pow_6 (hk:k≤6): 2 ^ k≤64:=Nat.pow_le_pow_right (by omega) hk
theorem twI_act (k:Nat){S:Nf}(h:Ok S.2): actW (invL (twL k)) S=mulS (-(tp (twX k)),0) S:=by
 have h1:actW (twL k) (mulS (-(tp (twX k)),0) S)=S:=by
  rw[twL_act k (S:=mulS (-(tp (twX k)),0) S) h,yr]
  have:emul (tp (twX k),0) (-(tp (twX k)),0)=one:=by
   unfold emul one; refine Prod.ext ?_ rfl
   dsimp only; rw[qW];grind
  rw[this,one_mulS]
 have h2:=actW_inv (twL_lt k) (S:=mulS (-(tp (twX k)),0) S) h
 rw[h1] at h2; exact h2
theorem act_a1 (S:Nf): actW [97] S=mulS (1,0) S:=rfl
theorem act_A1 (S:Nf): actW [65] S=mulS (-1,0) S:=rfl
theorem el_twE (k:Nat): el (twE k)=(tp (twX k),0):=by
 unfold el tq twE
 dsimp only
 have:((1:Int):Rat)=1:=rfl
 rw[this,Rat.one_mul]
theorem trace_el {w:List UInt8}{g:E3}(hl:Lt w)(hg:Plain g)(hw:actW w base=(el g,[])){st:List (Nat×Int)}{o:List UInt8}{G:List E3}(h:traceE w=some (st,o,G)): o=[]∧G=[g]:=by
 obtain⟨h1,h2,_,h4,h5⟩:=trace_act hl h
 rw[hw] at h1
 have ho:o=[]:=List.length_eq_zero_iff.1 h1
 subst ho
 obtain⟨x,rfl⟩:∃ x,G=[x]:=by
  cases G with
  | nil=>simp at h5
  | cons x G =>
    cases G with
    | nil=>exact⟨x,rfl⟩
    | cons _ _=>simp at h5
 refine⟨rfl,?_⟩
 have h3:=(h2 rfl).symm.trans hw
 have:x=g:=el_inj (h4 x (by simp)) hg (congrArg Prod.fst h3)
 rw[this]
theorem emul_one (a:El): emul a one=a:=by
 unfold emul one; refine Prod.ext ?_ (by dsimp only; omega)
 dsimp only; grind
theorem act_base (a:El): mulS a base=(a,[]):=by
 show (emul a one,([]:List (Bool×El)))=_
 rw[emul_one]
theorem tb0 (k:Nat): actW (twL k) base=mulS (tp (twX k),0) base:=twL_act k (S:=base) trivial
theorem tb1 (k:Nat)(a:El): actW (twL k) (mulS a base)=mulS (emul (tp (twX k),0) a) base:=by rw[twL_act k (S:=mulS a base) trivial,yr]
theorem ib0 (k:Nat): actW (invL (twL k)) base=mulS (-(tp (twX k)),0) base:=twI_act k (S:=base) trivial
theorem ib1 (k:Nat)(a:El): actW (invL (twL k)) (mulS a base)=mulS (emul (-(tp (twX k)),0) a) base:=by rw[twI_act k (S:=mulS a base) trivial,yr]
theorem ab1 (a:El): actW [97] (mulS a base)=mulS (emul (1,0) a) base:=by rw[act_a1,yr]
theorem Ab1 (a:El): actW [65] (mulS a base)=mulS (emul (-1,0) a) base:=by rw[act_A1,yr]
theorem twL_okL (hk:k≤6): okL (-40) 40 0 (twL k):=okL_mono (by omega) (by omega) (twL_ok k)
theorem twI_okL (hk:k≤6): okL (-40) 40 0 (invL (twL k)):=by
 have:=okL_inv (twL_lt k) (by omega) (by omega) (twL_okL hk)
 rwa [twL_lev,Int.add_zero] at this
theorem tw_trace (hk:k≤6): ∃ st,traceE (twL k)=some (st,[],[twE k]):=by
 obtain⟨st,o,G,h⟩:=trace_some (twL_lt k) (twL_okL hk) (by
  have:=twL_cA2 k
  have:=pow_6 hk
  rw[Nat.pow_succ] at *;omega)
 obtain⟨rfl,rfl⟩:=trace_el (g:=twE k) (twL_lt k) (.inr rfl) (by rw[tb0,act_base,el_twE]) h
 exact⟨st,h⟩
theorem lt_app {u v:List UInt8}(hu:Lt u)(hv:Lt v): Lt (u++v):=fun c hc=>(List.mem_append.1 hc).elim (hu c) (hv c)
theorem lt_a:Lt [97]:=by unfold Lt; decide
theorem lt_A:Lt [65]:=by unfold Lt; decide
theorem tw_two (hk:k≤6){c:UInt8}(hc:c=97∨c=65){t:List UInt8}(ht:t=[]∨t=[65]): ∃ st o G,traceE (twL k++[c]++(invL (twL k)++t))=some (st,o,G):=by
 have hlc:Lt [c]:=by rcases hc with rfl | rfl; exact lt_a; exact lt_A
 have hlt:Lt t:=by rcases ht with rfl | rfl; (exact fun c hc=>by cases hc);exact lt_A
 have hc0:lvl c=0:=by rcases hc with rfl | rfl <;>decide
 have ht0:okL (-40) 40 0 t:=by rcases ht with rfl | rfl; exact trivial; exact⟨by decide,by decide,trivial⟩
 have hct:cA t≤1:=by rcases ht with rfl | rfl <;>decide
 have hcc:cA [c]=1:=by rcases hc with rfl | rfl <;>decide
 have hI:levW (invL (twL k))=0:=by rw[levW_inv (twL_lt k),twL_lev];rfl
 have hc2:okL (-40) 40 0 [c]:=by
  refine⟨?_,?_,trivial⟩ <;>rw[hc0] <;>decide
 have hok2:okL (-40) 40 0 (invL (twL k)++t):=okL_append (twI_okL hk) (by rw[hI];exact ht0)
 have hok1:okL (-40) 40 0 (twL k++[c]):=okL_append (twL_okL hk) (by rw[twL_lev];exact hc2)
 have hA:=twL_cA2 k
 have hcI:=cA_inv (twL_lt k)
 have hlw:Lt (invL (twL k)++t):=lt_app (invL_lt (twL_lt k)) hlt
 cases k with
 | zero =>
   refine trace_some (lt_app (lt_app (twL_lt 0) hlc) hlw) (okL_append hok1 ?_) ?_
   ·rw[levW_append,twL_lev,levW_cons,hc0];exact hok2
   ·rw[cA_append,cA_append,cA_append,hcI,hcc]
    simp at hA; omega
 | succ j =>
   have hp:=pow_6 hk
   obtain⟨w,hw⟩:∃ w,invL (twL (j+1))++t=98::w:=by
    rw[twL,← List.cons_append]
    unfold invL
    rw[List.reverse_append]
    exact⟨_,rfl⟩
   obtain⟨g,hg⟩:∃ g,g=timesE (twE (j+1)) ⟨if c=97 then 1 else -1,0,0⟩:=⟨_,rfl⟩
   have hs:(if c=97 then (1:Int) else -1)=1∨(if c=97 then (1:Int) else -1) = -1:=by split; exact .inl rfl; exact .inr rfl
   obtain⟨st1,o1,G1,h1⟩:=trace_some (lt_app (twL_lt (j+1)) hlc) hok1 (by rw[cA_append,hcc];rw[Nat.pow_succ] at hA; omega)
   obtain⟨rfl,rfl⟩:=trace_el (g:=g) (lt_app (twL_lt (j+1)) hlc) (by rw[hg];exact qH _ _) (by
    rw[actW_append,hg,el_times,el_twE]
    rcases hc with rfl | rfl
    ·rw[act_a1,tb1,act_base,if_pos rfl,el_a.1]
    ·rw[act_A1,tb1,act_base,if_neg (by decide),el_a.2]) h1
   obtain⟨S,R,e1,e2,e3⟩:=twE_EL (j+1)
   have e4:=e1.times (EL.one _ hs)
   rw[← hg] at e4
   have hR:zap R []=R:=by cases R <;>rfl
   rw[hR,List.append_nil] at e4
   rw[hw] at hok2 hlw ⊢
   refine trace_two h1 (read_bs (lt_app (twL_lt (j+1)) hlc)).2.2 e4 (by omega) hlw hok2 ?_
   rw[← hw,cA_append,hcI,e2]
   rw[Nat.pow_succ] at hA
   simp; omega
theorem unit_of {w:List UInt8}(hl:Lt w){st:List (Nat×Int)}{o:List UInt8}{G:List E3}(h:traceE w=some (st,o,G)): unitE o G=true↔actW w base=base:=(trace_act hl h).2.2.1
theorem inv_snoc (l:List UInt8)(c:UInt8): invL (l++[c])=flip c::invL l:=by unfold invL; simp
theorem twX_pos (k:Nat): tp (twX k)=1↔k=0:=by
 constructor
 ·intro h
  cases k with
  | zero=>rfl
  | succ k =>
    rw[tp_twX] at h
    have h2:twX (k+1+1)=1:=by exact_mod_cast h
    have h3:1≤twX (k+1):=Nat.one_le_two_pow
    have h4:2 ^ 1≤2 ^ twX (k+1):=Nat.pow_le_pow_right (by omega) h3
    rw[twX] at h2; omega
 ·rintro rfl; exact qW
theorem tw_same (hk:k≤6): ∃ st o G,traceE (twL k++[97]++invL (97::twL k))=some (st,o,G)∧unitE o G=true:=by
 have e:invL (97::twL k)=invL (twL k)++[65]:=by rw[invL_cons];rfl
 rw[e]
 obtain⟨st,o,G,h⟩:=tw_two hk (.inl rfl) (.inr rfl)
 refine⟨st,o,G,h,(unit_of (lt_app (lt_app (twL_lt k) lt_a) (lt_app (invL_lt (twL_lt k)) lt_A)) h).2 ?_⟩
 rw[actW_append,actW_append,actW_append,act_A1,ib1,ab1,tb1,act_base]
 refine Prod.ext (Prod.ext ?_ rfl) rfl
 simp only[emul,one,qW];grind
theorem tw_other (hk:k≤6): ∃ st o G,traceE (twL k++invL (twL k++[97]))=some (st,o,G)∧unitE o G=false:=by
 have e:twL k++invL (twL k++[97])=twL k++[65]++(invL (twL k)++[]):=by rw[inv_snoc,show flip 97=65 from rfl];simp
 rw[e]
 obtain⟨st,o,G,h⟩:=tw_two hk (.inr rfl) (.inl rfl)
 refine⟨st,o,G,h,?_⟩
 cases hu:unitE o G with
 | false=>rfl
 | true =>
   have:=(unit_of (lt_app (lt_app (twL_lt k) lt_A) (lt_app (invL_lt (twL_lt k)) (fun c hc=>by cases hc))) h).1 hu
   rw[List.append_nil,actW_append,actW_append,ib0,Ab1,tb1,act_base] at this
   have h2:=congrArg (fun q:Nf=>q.1.1) this
   simp only[emul,one,qW] at h2
   exact absurd h2 (by grind)
theorem tw_is (hk:k≤6): ∃ st o G,traceE (twL k++invL [97])=some (st,o,G)∧unitE o G=decide (k=0):=by
 have e:invL [97]=[65]:=rfl
 rw[e]
 obtain⟨st,o,G,h⟩:=trace_some (lt_app (twL_lt k) lt_A) (okL_append (twL_okL hk) (by rw[twL_lev];exact⟨by decide,by decide,trivial⟩)) (by
  have:=twL_cA2 k
  have:=pow_6 hk
  rw[cA_append,Nat.pow_succ] at *
  have:cA [65]=1:=by decide
  omega)
 refine⟨st,o,G,h,?_⟩
 have hu:=unit_of (lt_app (twL_lt k) lt_A) h
 rw[actW_append,act_A1,tb1,act_base] at hu
 have h2:((emul (tp (twX k),0) (-1,0),([]:List (Bool×El)))=base)↔tp (twX k)=1:=by
  constructor
  ·intro h
   have h2:=congrArg (fun q:Nf=>q.1.1) h
   simp only[emul,one,qW] at h2
   grind
  ·intro h
   refine Prod.ext (Prod.ext ?_ rfl) rfl
   simp only[emul,one,qW];grind
 rw[h2,twX_pos] at hu
 rw[Bool.eq_iff_iff,hu,decide_eq_true_eq]
theorem tw_conj (hk:k≤6){v:List UInt8}(hv:Lt v)(h1:v.length≤30)(h2:(twL k).length+2*v.length≤400): ∃ st o G,traceE (v++twL k++invL v)=some (st,o,G)∧unitE o G=false:=by
 have hl:Lt (v++twL k++invL v):=lt_app (lt_app hv (twL_lt k)) (invL_lt hv)
 have hvo:okL (-30) 30 0 v:=okL_mono (by omega) (by omega) (okL_len v 0)
 have hvl:=levW_len v
 have ho:okL (-40) 40 0 (v++twL k++invL v):=by
  refine okL_append (okL_append (okL_mono (by omega) (by omega) hvo) ?_) ?_
  ·have:=okL_shift (d:=levW v) (twL_ok k)
   exact okL_mono (by omega) (by omega) this
  ·rw[levW_append,twL_lev,Int.add_zero]
   exact okL_mono (by omega) (by omega) (okL_inv hv (by omega) (by omega) hvo)
 have hc:cA (v++twL k++invL v)≤147:=by
  rw[cA_append,cA_append,cA_inv hv]
  have h3:=twL_cA2 k
  have h4:=twL_len2 k
  have h5:=cA_len v
  rw[Nat.pow_succ] at h3
  rcases Nat.lt_or_ge k 6 with h | h
  ·have:2 ^ k≤2 ^ 5:=Nat.pow_le_pow_right (by omega) (by omega)
   omega
  ·obtain rfl:k=6:=by omega
   omega
 obtain⟨st,o,G,h⟩:=trace_some hl ho hc
 refine⟨st,o,G,h,?_⟩
 cases hu:unitE o G with
 | false=>rfl
 | true =>
   have h3:=(unit_of hl h).1 hu
   have hX:Ok (actW (invL v) base).2:=actW_ok trivial
   rw[actW_append,actW_append,twL_act k hX] at h3
   have h4:=congrArg (actW (invL v)) h3
   rw[actW_inv hv (S:=mulS (tp (twX k),0) (actW (invL v) base)) hX] at h4
   have h5:=congrArg (fun q:Nf=>q.1.1) h4
   simp only[mulS,emul,qW] at h5
   have:=tp_pos (twX k:Int)
   exact absurd h5 (by grind)
end
end Sr
namespace Sr
open Go Go.Proofs Go.RowKit Go.Maps Go.WideMaps
section
abbrev bcl (l:List UInt8): List Value:=l.map fun b=>Value.int .u8 (b.toNat:Nat)
variable {l:List UInt8} {i g nf:Nat}
theorem bcl_get {b:UInt8}(h:l[i]? = some b): (bcl l)[i]? = some (.int .u8 (b.toNat:Nat)):=by
 rw[List.getElem?_map,h];rfl
def BFr (w:World)(g n nf:Nat)(l:List UInt8): Prop:=l.length=n∧n≤nf∧∃ cur,w.heap[g]? = some (.cells cur 5 (nf,nf+1))∧n≤cur.size∧cur.toList.take n=bcl l
theorem BFr.cell {w:World}{g n nf:Nat}{l:List UInt8}(h:BFr w g n nf l){i:Nat}{b:UInt8}(hb:l[i]? = some b): w.cell? ⟨g,i,none⟩=some (.int .u8 (b.toNat:Nat))∧w.frozen? ⟨g,i,none⟩=false:=by
 obtain⟨h1,h2,cur,h3,h4,h5⟩:=h
 have hi:i<l.length:=(jL hb).1
 have e:=bcl_get hb
 rw[← h5,List.getElem?_take_of_lt (by omega),Array.getElem?_toList] at e
 refine⟨by simp[World.cell?,h3,e],?_⟩
 simp[World.frozen?,h3]
 omega
theorem BFr.set {w:World}{g n nf i:Nat}{l:List UInt8}(t:UInt8)(h:BFr w g n nf l): BFr (w.setCell ⟨g,i,none⟩ (.int .u8 (t.toNat:Nat))) g n nf (l.set i t):=by
 obtain⟨h1,h2,cur,h3,h4,h5⟩:=h
 have k1:(w.setCell ⟨g,i,none⟩ (.int .u8 (t.toNat:Nat))).heap[g]? = some (.cells (cur.setIfInBounds i (.int .u8 (t.toNat:Nat))) 5 (nf,nf+1)):=by
  obtain⟨hlt,he⟩:=jA h3
  unfold World.setCell
  simp only[Option.isSome_none,Bool.false_eq_true,if_false]
  show (w.heap.modify g _)[g]? = _
  rw[Array.getElem?_eq_getElem (by simpa using hlt),Array.getElem_modify,if_pos rfl,he]
 refine⟨by simpa using h1,h2,_,k1,by simpa using h4,?_⟩
 rw[Array.toList_setIfInBounds,List.take_set,h5]
 show _=List.map _ (l.set i t)
 rw[List.map_set]
theorem BFr.drew {w:World}{g n nf:Nat}{l:List UInt8}(h:BFr w g n nf l): BFr w.drew g n nf l:=h
theorem reverseB_calls {W:World}{ca:Nat}(hl:BFr W g l.length nf l)(hlen:l.length≤1000000000000):
 Calls Tryz.prog 57 #[.slice (some ⟨g,0,none⟩) l.length ca] W fun e W'=>e=.returned (.tuple #[])∧Hid (BFr W' g l.length nf l.reverse)∧Hid (W.grownBy W' (some g)):=by
 have Hl:Hid (BFr W g l.length nf l):=hl
 clear hl
 have hw1:IntKind.i64.wrap ((l.length:Int) - 1)=(l.length:Int) - 1:=IntWalk.i64_in _ (by omega)
 go_enter Tryz.func57,Tryz.ntmps57
 go_wp2_with fail
 go_loopg [2,3] (l.length) (fun g1 vi vj wr=>∃ (k:Nat) (z:Int) (lk:List UInt8),vi=.int .i64 k∧vj=.int .i64 z∧z+k+1≤l.length∧l.length≤z+k+1∧(k:Int)≤z+1∧l.length - k≤g1∧Hid (BFr wr g l.length nf lk)∧Hid (lk.length=l.length)∧Hid (W.grownBy wr (some g)) ∧
  Hid (∀ i,i<l.length→lk[i]? = if i<k∨l.length≤i+k then l[l.length - 1 - i]? else l[i]?))
 case atStart=>exact⟨0,(l.length:Int) - 1,l,rfl,rfl,by omega,by omega,by omega,by omega,Hl,rfl,World.grownBy.refl _ _,fun i hi=>by show _=_; rw[if_neg (by omega)]⟩
 case round =>
  obtain⟨k,z,lk,rfl,rfl,hz1,hz2,hkz,hg,HT,HLn,HG,HE⟩:=hrel
  by_cases hk:(k:Int)<z
  ·obtain⟨j,rfl⟩:∃ j:Nat,z=j:=⟨z.toNat,by omega⟩
   have hj1:(j:Int)<(l.length:Int):=by omega
   have hk1:(k:Int)<(l.length:Int):=by omega
   have hj0:(0:Int)≤(j:Int):=by omega
   have hk0:(0:Int)≤(k:Int):=by omega
   ·have hT:=HT.out
    obtain⟨tk,htk⟩:∃ t,lk[k]? = some t:=⟨_,jG (by have:=HLn.out; omega)⟩
    obtain⟨tj,htj⟩:∃ t,lk[j]? = some t:=⟨_,jG (by have:=HLn.out; omega)⟩
    have hLn:=HLn.out
    obtain⟨e0,f0⟩:=HT.out.cell htk
    obtain⟨d0,f2⟩:=HT.out.cell htj
    have n1:k≠j:=by omega
    have n5:j≠k:=by omega
    clear hT
    go_wp2_with fail
    go_region
    go_wp2_with fail
    go_roundg (l.length - (k+1))
    case measure=>omega
    case rel =>
     refine⟨k+1,(j:Int) - 1,(lk.set k tj).set j tk,by go_num,rfl,by omega,by omega,by omega,jR _,BFr.drew ((HT.out.set tj).set tk),?_,?_,?_⟩
     ·show _=_; simpa using hLn
     ·exact grown_drew (yC (g:=g) _ (yC (g:=g) _ HG.out rfl) rfl)
     ·intro i hi
      have hk':=HE.out k (by omega)
      have hj':=HE.out j (by omega)
      rw[htk,if_neg (by omega)] at hk'
      rw[htj,if_neg (by omega)] at hj'
      by_cases ij:i=j
      ·subst ij
       rw[List.getElem?_set_self (by simp; omega),if_pos (by omega),hk']
       congr 1; omega
      ·rw[List.getElem?_set_ne (Ne.symm ij)]
       by_cases ik:i=k
       ·subst ik
        rw[List.getElem?_set_self (by omega),if_pos (by omega),hj']
        congr 1; omega
       ·rw[List.getElem?_set_ne (Ne.symm ik),HE.out i hi]
        by_cases hc:i<k∨l.length≤i+k
        ·rw[if_pos hc,if_pos (by omega)]
        ·rw[if_neg hc,if_neg (by omega)]
  ·go_wp2_with fail
   go_end0
   refine⟨rfl,?_,HG⟩
   have e:lk=l.reverse:=by
    refine List.ext_getElem? fun i=>?_
    by_cases hi:i<l.length
    ·rw[HE.out i hi,List.getElem?_reverse hi]
     split
     ·rfl
     ·congr 1; omega
    ·rw[List.getElem?_eq_none (by have:=HLn.out; omega),List.getElem?_eq_none (by simp; omega)]
   have:=HT.out
   rw[e] at this
   exact this
end
theorem conv_F {w:World}{g cap nf:Nat}{l:List UInt8}(h:BFr w g l.length nf l): (Go.convert 40 9 (.slice (some ⟨g,0,none⟩) l.length cap)).run Tryz.prog w=.ok (.string ⟨l.toArray⟩) w:=by
 have u5:Tryz.prog.underlying 5=some (.int .u8):=by kernel_rfl
 have u9:Tryz.prog.underlying 9=some .string:=by kernel_rfl
 refine run_convert_bytes_back w 40 9 5 ⟨g,0,none⟩ cap l un40 u5 u9 fun j hj=>?_
 have hadd:(⟨g,0,none⟩:Addr).add j=⟨g,j,none⟩:=by unfold Addr.add; split <;>simp_all
 rw[hadd]
 exact (h.cell (jG hj)).1
theorem bfr_conv (w:World)(t:ByteArray)(cap:Nat){nf:Nat}(hnf:(bytesRow t cap).size=nf): BFr (w.alloc (.cells (bytesRow t cap) 5 (nf,nf+1))).drew w.heap.size t.size nf t.data.toList:=by
 have hz:t.size≤(bytesRow t cap).size:=by unfold bytesRow; simp
 refine⟨by simp,by omega,_,jD w _,hz,?_⟩
 unfold bytesRow
 rw[Array.toList_append,List.take_append_of_le_length (by simp),List.take_of_length_le (by simp),Array.toList_map]
theorem xor_flip (b:UInt8): bits BinOp.xor IntKind.u8 (b.toNat:Int) 32=((flip b).toNat:Nat):=by
 have key:∀ n:Fin 256,bits BinOp.xor IntKind.u8 ((n.val:Nat):Int) 32=(((UInt8.ofNat n.val) ^^^ 32).toNat:Nat):=by decide +kernel
 have h:=key ⟨b.toNat,b.toNat_lt⟩
 simpa [flip] using h
theorem join_size (s t:ByteArray): (s++t).size=s.size+t.size:=ByteArray.size_append
theorem join_list (s t:ByteArray): (s++t).data.toList=s.data.toList++t.data.toList:=by simp[ByteArray.data_append]
def SameQ (u v:List UInt8)(W:World)(e:Ending)(W':World): Prop :=
 Hid (Below W.heap.size W W')∧(((isWordL u=false∨isWordL v=false)∧e=.returned (.tuple #[.bool false,.int .i64 2])) ∨
  (isWordL u=true∧isWordL v=true∧((∃ st o G,traceE (u++invL v)=some (st,o,G)∧e=.returned (.tuple #[.bool (unitE o G),.int .i64 0]))∨(traceE (u++invL v)=none∧e=.returned (.tuple #[.bool false,.int .i64 5])))))
def trn (l:List UInt8)(k:Nat): List UInt8:=(l.take k).map flip++l.drop k
theorem trn_get {l:List UInt8}{k:Nat}{b:UInt8}(h:l[k]? = some b): (trn l k)[k]? = some b∧(trn l k).set k (flip b)=trn l (k+1):=by
 have hk:k<l.length:=(jL h).1
 have e:((l.take k).map flip).length=k:=by simp; omega
 unfold trn
 constructor
 ·rw[List.getElem?_append_right (by omega),e,List.getElem?_drop,Nat.sub_self]
  simpa using h
 ·rw[List.set_append,if_neg (by omega),e,Nat.sub_self,List.drop_eq_getElem_cons hk,List.set_cons_zero,List.take_add_one,h]
  simp[List.append_assoc]
theorem Same_any {W:World}{s t:ByteArray}(hs:s.size≤9223372036854775807)(ht:t.size≤9223372036854775807): Calls Tryz.prog 23 #[.string s,.string t] W (SameQ s.data.toList t.data.toList W):=by
 have u5:Tryz.prog.underlying 5=some (.int .u8):=by kernel_rfl
 have u9:Tryz.prog.underlying 9=some .string:=by kernel_rfl
 have hI1:=zP s W hs
 by_cases hw1:isWordL s.data.toList=true
 ·rw[hw1] at hI1
  have HW1:=jH hw1
  have hz1:=zf hw1
  clear hw1
  by_cases hw2:isWordL t.data.toList=true
  ·have HW2:=jH hw2
   have hz2:=zf hw2
   have hcv:=fun (w:World)=>run_bytes_of_string (P:=Tryz.prog) w 9 40 5 t u9 un40 u5
   go_enter Tryz.func23,Tryz.ntmps23
   go_wp2_with fail
   refine hI1.mono ?_
   rintro e w1 ⟨rfl,hb1⟩
   have hI2:=zP t w1 ht
   rw[hw2] at hI2
   have HB1:=jH hb1.out
   clear hI1 hb1 hw2
   go_wp2_with fail
   refine hI2.mono ?_
   rintro e w2 ⟨rfl,hb2⟩
   have HB2:=jH (Below.trans' HB1.out hb2.out)
   clear hI2 hb2
   go_wp2_with fail
   generalize grownCap _ _ _ _=cap
   obtain⟨nf,hnf⟩:∃ nf,nf=(bytesRow t cap).size:=⟨_,rfl⟩
   rw[← hnf]
   obtain⟨w3,hw3⟩:∃ w3,w3=(w2.alloc (.cells (bytesRow t cap) 5 (nf,nf+1))).drew:=⟨_,rfl⟩
   obtain⟨g,hg⟩:∃ g,g=w2.heap.size:=⟨_,rfl⟩
   have HF3:Hid (BFr w3 g t.size nf t.data.toList):=by show BFr _ _ _ _ _; rw[hw3,hg];exact bfr_conv w2 t cap hnf.symm
   have HB3:Hid (Below W.heap.size W w3):=by show Below _ _ _; rw[hw3];exact (HB2.out.alloc HB2.out.size _).drew
   have HG:Hid (W.heap.size≤g):=by show _≤_; rw[hg];exact HB2.out.size
   rw[← hw3,← hg]
   have hRv:=reverseB_calls (W:=w3) (g:=g) (ca:=cap) (nf:=nf) (l:=t.data.toList) (by simp; exact HF3.out) (by simp; omega)
   rw[show t.data.toList.length=t.size by simp] at hRv
   clear hnf hw3 hg hcv
   refine hRv.mono ?_
   rintro e w4 ⟨rfl,hf4,hg4⟩
   have HF4:=jH hf4.out
   have HB4:Hid (Below W.heap.size W w4):=below_grown HB3.out HG.out hg4.out
   have HL:Hid (t.data.toList.reverse.length=t.size):=by show _=_; simp
   clear hRv hf4 hg4
   go_wp2_with fail
   go_loopg [22] t.size (fun g1 kv wr=>∃ k:Nat,kv=.int .i64 k∧k≤t.size∧t.size - k≤g1∧Hid (BFr wr g t.size nf (trn t.data.toList.reverse k))∧Hid (Below W.heap.size W wr))
   case atStart=>exact⟨0,rfl,by omega,by omega,HF4,HB4⟩
   case round =>
    obtain⟨k,rfl,hk,hg1,HF,HB⟩:=hrel
    by_cases hlt:k<t.size
    ·have hkz:(k:Int)<(t.size:Int):=by omega
     have hk0:(0:Int)≤(k:Int):=Int.natCast_nonneg k
     have hkw:IntKind.i64.wrap ((k:Int)+1)=(k:Int)+1:=IntWalk.i64_in _ (by omega)
     obtain⟨b,hb⟩:∃ b,t.data.toList.reverse[k]? = some b:=⟨_,jG (by rw[HL.out];exact hlt)⟩
     obtain⟨e1,e2⟩:=trn_get hb
     have HE2:=jH e2
     obtain⟨c0,f0⟩:=HF.out.cell e1
     have HF':=jH (HF.out.set (i:=k) (flip b))
     have hx:=xor_flip b
     have HBs:Hid (Below W.heap.size W (wr.setCell ⟨g,k,none⟩ (.int .u8 ((flip b).toNat:Nat)))):=HB.out.setCell HG.out _
     clear hb e1 e2
     go_wp2_with fail
     go_roundg (t.size - (k+1))
     case measure=>omega
     case rel=>exact⟨k+1,by go_num,by omega,by omega,by show BFr _ _ _ _ _; rw[← HE2.out];exact HF'.out,HBs⟩
    ·have hkz:¬ ((k:Int)<(t.size:Int)):=by omega
     obtain⟨z,hz⟩:∃ z,z=invL t.data.toList:=⟨_,rfl⟩
     have hzl:z.length=t.size:=by rw[hz];unfold invL; simp
     have hcb:=conv_F (w:=wr) (g:=g) (cap:=cap) (nf:=nf) (l:=z) (by
      have h:=HF.out
      have e:trn t.data.toList.reverse k=z:=by
       unfold trn
       rw[List.take_of_length_le (by rw[HL.out];omega),List.drop_of_length_le (by rw[HL.out];omega),List.append_nil,hz];rfl
      rw[e] at h
      rw[hzl];exact h)
     rw[hzl] at hcb
     have hIs:=is_any (W:=wr) (s:=s++⟨z.toArray⟩) (by rw[join_size];show s.size+z.toArray.size≤1000; rw[List.size_toArray];omega)
     rw[join_list] at hIs
     have HZ:=jH hz
     clear hz
     go_wp2_with fail
     refine hIs.mono ?_
     rintro e w5 ⟨hb5,⟨st,o,G,hr,rfl⟩ | ⟨hr,rfl⟩⟩
     ·have HB5:=jH (Below.trans' HB.out hb5.out)
      have HR:=jH hr
      clear hIs hb5 hr
      go_wp2_with fail
      refine bodyPost_ret (v:=(.tuple #[.bool (unitE o G),.int .i64 0])) (by simp[results,Tryz.results23,go_sem]) rfl ?_
      exact⟨HB5,.inr ⟨HW1.out,HW2.out,.inl ⟨st,o,G,by rw[← HZ.out];exact HR.out,rfl⟩⟩⟩
     ·have HB5:=jH (Below.trans' HB.out hb5.out)
      have HR:=jH hr
      clear hIs hb5 hr
      go_wp2_with fail
      refine bodyPost_ret (v:=(.tuple #[.bool false,.int .i64 5])) (by simp[results,Tryz.results23,go_sem]) rfl ?_
      exact⟨HB5,.inr ⟨HW1.out,HW2.out,.inr ⟨by rw[← HZ.out];exact HR.out,rfl⟩⟩⟩
  ·have hwf:isWordL t.data.toList=false:=by simpa using hw2
   have HW2:=jH hwf
   go_enter Tryz.func23,Tryz.ntmps23
   go_wp2_with fail
   refine hI1.mono ?_
   rintro e w1 ⟨rfl,hb1⟩
   have hI2:=zP t w1 ht
   rw[hwf] at hI2
   have HB1:=jH hb1.out
   clear hI1 hb1 hw2 hwf
   go_wp2_with fail
   refine hI2.mono ?_
   rintro e w2 ⟨rfl,hb2⟩
   have HB2:=jH (Below.trans' HB1.out hb2.out)
   clear hI2 hb2
   go_wp2_with fail
   refine bodyPost_ret (v:=(.tuple #[.bool false,.int .i64 2])) (by simp[results,Tryz.results23,go_sem]) rfl ?_
   exact⟨HB2,.inl ⟨.inr HW2.out,rfl⟩⟩
 ·have hwf:isWordL s.data.toList=false:=by simpa using hw1
  rw[hwf] at hI1
  have HW1:=jH hwf
  clear hw1 hwf
  go_enter Tryz.func23,Tryz.ntmps23
  go_wp2_with fail
  refine hI1.mono ?_
  rintro e w1 ⟨rfl,hb1⟩
  have HB1:=jH hb1.out
  clear hI1 hb1
  go_wp2_with fail
  refine bodyPost_ret (v:=(.tuple #[.bool false,.int .i64 2])) (by simp[results,Tryz.results23,go_sem]) rfl ?_
  exact⟨HB1,.inl ⟨.inl HW1.out,rfl⟩⟩
theorem xQ {W0 W w:World}{v:Value}{l:List UInt8}(_h:BRow W v l)(hb:Below W0.heap.size W0 W)(ho:∀ b,v.ownBlock=some b→W0.heap.size≤b){v':Value}(G:W.grownBy w v.ownBlock)(A:v'.ownBlock=v.ownBlock∨v'.ownBlock=some W.heap.size): Below W0.heap.size W0 w∧∀ b,v'.ownBlock=some b→W0.heap.size≤b:=by
 refine⟨⟨G.os.trans hb.os,G.tape.trans hb.tape,G.output.trans hb.output,Nat.le_trans hb.size G.size,fun b hlt=>(G.block b (Nat.lt_of_lt_of_le hlt hb.size) (fun e=>by have:=ho b e.symm; omega)).trans (hb.block b hlt)⟩,fun b e=>?_⟩
 rcases A with A | A
 ·exact ho b (A▸e)
 ·rw[A] at e; cases e; exact hb.size
theorem inv5_calls {W:World}{s:ByteArray}(hs:s.size≤1000)(hl:Lt s.data.toList): Calls Tryz.prog 26 #[.string s] W fun e W'=>e=.returned (.string ⟨(invL s.data.toList).toArray⟩)∧Hid (Below W.heap.size W W'):=by
 have HL:=jH hl
 have hw1:IntKind.i64.wrap ((s.size:Int) - 1)=(s.size:Int) - 1:=IntWalk.i64_in _ (by omega)
 clear hl
 go_enter Tryz.func26,Tryz.ntmps26
 go_wp2_with fail
 go_loopg [3,4] (s.size+1) (fun g1 ov kv wr=>∃ (k:Nat) (z:Int),kv=.int .i64 z∧z+k+1=s.size∧k≤s.size∧s.size - k≤g1∧Hid (BRow wr ov ((s.data.toList.reverse.take k).map flip))∧Hid (Below W.heap.size W wr)∧Hid (∀ b,ov.ownBlock=some b→W.heap.size≤b))
 case atStart=>exact⟨0,_,rfl,by omega,by omega,by omega,⟨rfl,.inl ⟨rfl,rfl⟩⟩,Below.refl _ _,fun b e=>by cases e⟩
 case round =>
  obtain⟨k,z,rfl,hz,hk,hg1,HR,HB,HO⟩:=hrel
  by_cases hlt:k<s.size
  ·obtain⟨j,rfl⟩:∃ j:Nat,z=(j:Int):=⟨z.toNat,by omega⟩
   have hjz:(j:Int)<(s.size:Int):=by omega
   have hj0:(0:Int)≤(j:Int):=Int.natCast_nonneg j
   have hjn:j<s.size:=by omega
   have hkw:IntKind.i64.wrap ((j:Int) - 1)=(j:Int) - 1:=IntWalk.i64_in _ (by omega)
   obtain⟨c,hc⟩:∃ c,s.data.toList[j]? = some c:=⟨_,jG (by simpa using hjn)⟩
   have hsk:s[j]=c:=by
    have h:=(jL hc).2
    rw[← h];rfl
   have HTk:Hid ((s.data.toList.reverse.take (k+1)).map flip=(s.data.toList.reverse.take k).map flip++[flip c]):=by
    show _=_
    have e:s.data.toList.reverse[k]? = some c:=by
     rw[List.getElem?_reverse (by simpa using hlt)]
     rw[show s.data.toList.length - 1 - k=j by simp; omega]
     exact hc
    rw[List.take_add_one,e];simp
   have hlc:=HL.out c (jM hc)
   obtain⟨oa,oc,rfl⟩:=ja HR.out
   obtain⟨l0,hl0⟩:∃ l0,l0=(s.data.toList.reverse.take k).map flip:=⟨_,rfl⟩
   rw[← hl0] at HR HO HTk
   have hll:l0.length=k:=by rw[hl0];simp; omega
   obtain⟨N,hN⟩:∃ N,N=l0.length:=⟨_,rfl⟩
   rw[← hN] at HR HO
   have hbnd:l0.length+1≤1099511627776:=by omega
   rw[← hl0,← hN]
   have HLL:=jH hll
   have hbnd0:=hbnd
   clear hc hN hl0 hll
   rcases hlc with rfl | rfl | rfl | rfl
   ·clear hbnd0
    go_wp2_with (at_builtin
                 go_loud (
                  (refine app_B rfl _ _ rfl (.slice oa N oc) l0 rfl (World.ownsRow.alloc HR.out _) _ 1 [65] rfl rfl _ rfl (jD _ _) hbnd ?_; intro v' w5 K5 G5 A5
                   have HBG:=jH (xQ (W0:=W) (World.ownsRow.alloc HR.out _) (HB.out.alloc HB.out.size _) HO.out G5 A5)
                   have HK5:=jH K5
                   clear K5 G5 A5)))
    go_roundg (s.size - (k+1))
    case measure=>omega
    case rel=>exact⟨k+1,(j:Int) - 1,by go_num,by omega,by omega,by omega,by show BRow _ _ _; rw[HTk.out];exact HK5.out,HBG.out.1,HBG.out.2⟩
   ·clear hbnd0
    go_wp2_with (at_builtin
                 go_loud (
                  (refine app_B rfl _ _ rfl (.slice oa N oc) l0 rfl (World.ownsRow.alloc HR.out _) _ 1 [97] rfl rfl _ rfl (jD _ _) hbnd ?_; intro v' w5 K5 G5 A5
                   have HBG:=jH (xQ (W0:=W) (World.ownsRow.alloc HR.out _) (HB.out.alloc HB.out.size _) HO.out G5 A5)
                   have HK5:=jH K5
                   clear K5 G5 A5)))
    go_roundg (s.size - (k+1))
    case measure=>omega
    case rel=>exact⟨k+1,(j:Int) - 1,by go_num,by omega,by omega,by omega,by show BRow _ _ _; rw[HTk.out];exact HK5.out,HBG.out.1,HBG.out.2⟩
   ·clear hbnd0
    go_wp2_with (at_builtin
                 go_loud (
                  (refine app_B rfl _ _ rfl (.slice oa N oc) l0 rfl (World.ownsRow.alloc HR.out _) _ 1 [66] rfl rfl _ rfl (jD _ _) hbnd ?_; intro v' w5 K5 G5 A5
                   have HBG:=jH (xQ (W0:=W) (World.ownsRow.alloc HR.out _) (HB.out.alloc HB.out.size _) HO.out G5 A5)
                   have HK5:=jH K5
                   clear K5 G5 A5)))
    go_roundg (s.size - (k+1))
    case measure=>omega
    case rel=>exact⟨k+1,(j:Int) - 1,by go_num,by omega,by omega,by omega,by show BRow _ _ _; rw[HTk.out];exact HK5.out,HBG.out.1,HBG.out.2⟩
   ·clear hbnd0
    go_wp2_with (at_builtin
                 go_loud (
                  (refine app_B rfl _ _ rfl (.slice oa N oc) l0 rfl (World.ownsRow.alloc HR.out _) _ 1 [98] rfl rfl _ rfl (jD _ _) hbnd ?_; intro v' w5 K5 G5 A5
                   have HBG:=jH (xQ (W0:=W) (World.ownsRow.alloc HR.out _) (HB.out.alloc HB.out.size _) HO.out G5 A5)
                   have HK5:=jH K5
                   clear K5 G5 A5)))
    go_roundg (s.size - (k+1))
    case measure=>omega
    case rel=>exact⟨k+1,(j:Int) - 1,by go_num,by omega,by omega,by omega,by show BRow _ _ _; rw[HTk.out];exact HK5.out,HBG.out.1,HBG.out.2⟩
  ·have hz0:z = -1:=by omega
   subst hz0
   obtain⟨oa,oc,rfl⟩:=ja HR.out
   obtain⟨l0,hl0⟩:∃ l0,l0=(s.data.toList.reverse.take k).map flip:=⟨_,rfl⟩
   rw[← hl0] at HR HO
   have HE:Hid (l0=invL s.data.toList):=by
    show _=_
    rw[hl0,List.take_of_length_le (by simp; omega)];rfl
   have hcb:=zh HR.out (W':=wr) (fun _ _=>rfl)
   obtain⟨N,hN⟩:∃ N,N=l0.length:=⟨_,rfl⟩
   rw[← hN] at hcb
   rw[← hl0,← hN]
   clear hl0 hN
   go_wp2_with fail
   go_ret
   exact⟨by rw[← HE.out];rfl,HB⟩
section
theorem jV (W:World)(o:Obj): Hid (Below W.heap.size W (W.alloc o)):=(Below.refl _ W).alloc (jR _) o
theorem isWL {l:List UInt8}(h:Lt l)(hl:l.length≤400): isWordL l=true:=jf.2 ⟨zQ.2 h,hl⟩
variable {k:Nat} {W:World} {s:ByteArray}
theorem twL_size (hk:k≤6): (twL k).length≤379:=by
 have:=twL_len2 k
 have:=pow_6 hk
 omega
theorem cat_size (s t:ByteArray): (s++t).size=s.size+t.size:=ByteArray.size_append
theorem cat_list (s t:ByteArray): (s++t).data.toList=s.data.toList++t.data.toList:=by simp[ByteArray.data_append]
theorem inv_size (l:List UInt8): (ByteArray.mk (invL l).toArray).size=l.length:=by
 show (invL l).toArray.size=_
 rw[List.size_toArray];unfold invL; rw[List.length_map,List.length_reverse]
theorem bsz (s:ByteArray): s.data.toList.length=s.size:=by simp
theorem tower_calls (hk:k≤6): Calls Tryz.prog 29 #[.int .i64 (k:Nat)] W fun e W'=>∃ s:ByteArray,e=.returned (.string s)∧Hid (s.data.toList=twL k)∧Hid (Below W.heap.size W W'):=by
 go_enter Tryz.func29,Tryz.ntmps29
 go_wp2_with fail
 go_loopg [3,4] k (fun g1 v3 v4 wr=>∃ (i:Nat) (s:ByteArray),v3=.string s∧v4=.int .i64 (i:Nat)∧i≤k∧k - i≤g1∧s.size≤379∧Hid (s.data.toList=twL i)∧Hid (Below W.heap.size W wr))
 case atStart=>exact⟨0,_,rfl,rfl,Nat.zero_le _,jR _,by decide,rfl,Below.refl _ _⟩
 case round =>
  obtain⟨i,s,rfl,rfl,hik,hg,hss,HS,HB⟩:=hrel
  by_cases hi:i<k
  ·have q1:(i:Int)<(k:Int):=by omega
   have q2:decide ((i:Int)<(k:Int))=true:=decide_eq_true q1
   have iw:IntKind.i64.wrap ((i:Int)+1)=((i+1:Nat):Int):=by rw[IntKind.wrap_i64];omega
   have hI:=inv5_calls (W:=wr) (s:=s) (by omega) (by rw[HS.out];exact twL_lt i)
   have Hz:Hid (s.size+5+s.size≤379):=by
    show _≤_
    have h1:=twL_size (k:=i+1) (by omega)
    rw[twL_len,← HS.out,bsz] at h1; omega
   go_wp2_with fail
   refine hI.mono ?_
   rintro e w2 ⟨rfl,hb2⟩
   have HB2:=jH (Below.trans' HB.out hb2.out)
   have hsi:(ByteArray.mk (invL s.data.toList).toArray).size=s.size:=by rw[inv_size,bsz]
   clear hI hb2
   go_wp2_with fail
   go_roundg (k - (i+1))
   case measure=>omega
   case rel=>exact⟨i+1,_,rfl,by go_num,by omega,by omega,by simp only[cat_size,hsi];have:=Hz.out; show 1+s.size+2+1+s.size+1≤379; omega,(by show _=_; simp[HS.out,twL]),HB2⟩
  ·obtain rfl:i=k:=by omega
   have q2:decide ((i:Int)<(i:Int))=false:=by rw[decide_eq_false_iff_not];omega
   go_wp2_with fail
   go_ret
   exact⟨s,rfl,HS,HB⟩
theorem twTrace_calls (hk:k≤6)(hs:s.data.toList=twL k): Calls Tryz.prog 14 #[.string s] W fun e W'=>∃ sa sn sc qu qv qm,e=.returned (.tuple #[.slice sa sn sc,.int .i64 0,.agg #[.pointer qu,.pointer qv,.pointer qm],.int .i64 0])∧Hid (Below W.heap.size W W')∧Hid (IsE W' (.agg #[.pointer qu,.pointer qv,.pointer qm]) (twE k)):=by
 have hz:=twL_size hk
 have hsz:s.size≤379:=by rw[← hs,bsz] at hz; exact hz
 obtain⟨st,ht⟩:=tw_trace hk
 refine (Trace_any (W:=W) (s:=s) (by omega)).mono ?_
 rintro e W' ⟨hb,⟨h1,-⟩ | ⟨-,h2,-⟩ | ⟨-,st',o,G,h2,sa,sn,sc,qu,qv,qm,rfl,-,h4⟩⟩
 ·rw[hs,isWL (twL_lt k) (by omega)] at h1; cases h1
 ·rw[hs,ht] at h2; cases h2
 ·rw[hs,ht] at h2
  cases h2
  exact⟨sa,sn,sc,qu,qv,qm,rfl,hb,h4⟩
theorem twSame_calls {t:ByteArray}{b:Bool}(h1:Lt s.data.toList)(h2:Lt t.data.toList)(l1:s.size≤400)(l2:t.size≤400)(h:∃ st o G,traceE (s.data.toList++invL t.data.toList)=some (st,o,G)∧unitE o G=b):
 Calls Tryz.prog 23 #[.string s,.string t] W fun e W'=>e=.returned (.tuple #[.bool b,.int .i64 0])∧Hid (Below W.heap.size W W'):=by
 obtain⟨st,o,G,k1,k2⟩:=h
 refine (Same_any (W:=W) (s:=s) (t:=t) (by omega) (by omega)).mono ?_
 rintro e W' ⟨hb,⟨h3,-⟩ | ⟨-,-,⟨st',o',G',h3,rfl⟩ | ⟨h3,-⟩⟩⟩
 ·rcases h3 with h3 | h3
  ·rw[isWL h1 (by rw[bsz];exact l1)] at h3; cases h3
  ·rw[isWL h2 (by rw[bsz];exact l2)] at h3; cases h3
 ·rw[k1] at h3
  cases h3
  exact⟨by rw[k2],hb⟩
 ·rw[k1] at h3; cases h3
theorem twUnit_calls {b:Bool}(h1:Lt s.data.toList)(l1:s.size≤400)(h:∃ st o G,traceE s.data.toList=some (st,o,G)∧unitE o G=b):
 Calls Tryz.prog 18 #[.string s] W fun e W'=>e=.returned (.tuple #[.bool b,.int .i64 0])∧Hid (Below W.heap.size W W'):=by
 obtain⟨st,o,G,k1,k2⟩:=h
 refine (Unit_any (W:=W) (s:=s) (by omega)).mono ?_
 rintro e W' ⟨hb,⟨h3,-⟩ | ⟨-,⟨st',o',G',h3,rfl⟩ | ⟨h3,-⟩⟩⟩
 ·rw[isWL h1 (by rw[bsz];exact l1)] at h3; cases h3
 ·rw[k1] at h3
  cases h3
  exact⟨by rw[k2],hb⟩
 ·rw[k1] at h3; cases h3
theorem cell_setC {w:World}{a:Addr}{v:Value}{b o:Nat}(h:b≠a.block): (w.setCell a v).cell? ⟨b,o,none⟩=w.cell? ⟨b,o,none⟩:=by
 unfold World.cell?;rw[jS _ _ _ _ h]
theorem twShift:shx 1 (twX k)=twX (k+1):=by
 rw[shx_nat,Int.one_mul,twX]
 exact (Int.natCast_pow 2 (twX k)).symm
theorem towers_calls {m:Nat}(hm:m<256){v:ByteArray}(hv:v.size≤9223372036854775807): Calls Tryz.prog 7 #[.int .u8 (m:Nat),.string v] W fun e W'=>e=.returned (.bool true)∧Hid (Below W.heap.size W W'):=by
 obtain⟨k,hk⟩:∃ k,k=m % 7:=⟨_,rfl⟩
 have hk6:k≤6:=by omega
 have qm:Int.tmod (m:Int) 7=(k:Int):=by rw[hk,show (7:Int)=((7:Nat):Int) from rfl,Int.ofNat_tmod]
 have qm2:(m:Int) % 7=(k:Int):=by omega
 have hO:=Of_calls 0 (by decide) (by decide) W
 have Hk:=jH hk
 clear hk
 go_enter Tryz.func7,Tryz.ntmps7
 go_wp2_with fail
 refine hO.mono ?_
 rintro e w1 ⟨q0,rfl,hi0,hb0⟩
 obtain⟨w2,D,hw2,hD,HD2,HB2⟩:∃ w D,w1.alloc (.cells #[.pointer q0] 26)=w∧w1.heap.size=D∧Hid (w.heap[D]? = some (.cells #[.pointer q0] 26 (0,0)))∧Hid (Below w1.heap.size w1 w):=⟨_,_,rfl,rfl,jD w1 _,(jV w1 _).out⟩
 have HI2:Hid (IsN w2 (.agg #[.pointer q0]) (twX 0:Int)):=hi0.out.below HB2.out
 have HDW:Hid (W.heap.size≤D):=by show _≤_; rw[← hD];exact hb0.out.size
 have HB2:=jH (Below.trans' hb0.out HB2.out)
 clear hO hi0 hb0
 go_wp2_with fail
 go_loopg [7] k (fun g1 v7 wr=>∃ (i:Nat) (q:Option Addr),v7=.int .i64 (i:Nat)∧i≤k∧k - i≤g1∧Hid (wr.heap[D]? = some (.cells #[.pointer q] 26 (0,0)))∧Hid (IsN wr (.agg #[.pointer q]) (twX i:Int))∧Hid (Below W.heap.size W wr))
 case atStart=>exact⟨0,q0,rfl,Nat.zero_le _,jR _,HD2,HI2,HB2⟩
 case round =>
  obtain⟨i,q,rfl,hik,hg,HX,HI,HB⟩:=hrel
  by_cases hi:i<k
  ·have q1:(i:Int)<(k:Int):=by omega
   have q2:decide ((i:Int)<(k:Int))=true:=decide_eq_true q1
   have iw:IntKind.i64.wrap ((i:Int)+1)=((i+1:Nat):Int):=by rw[IntKind.wrap_i64];omega
   have HK:Hid (∀ w,Below wr.heap.size wr w→w.cell? ⟨D,0,none⟩=some (.pointer q)):=fun w hb=>by rw[jB (Below.here hb HX.out)];rfl
   have HOf:Hid (∀ w',Below wr.heap.size wr w'→Calls Tryz.prog 20 #[.int .i64 1] w' fun e w''=>∃ q,e=.returned (.agg #[.pointer q])∧Hid (IsN w'' (.agg #[.pointer q]) 1)∧Hid (Below wr.heap.size wr w'')∧Hid (Below w'.heap.size w' w'')):=fun w' hb =>
    (Of_calls 1 (by decide) (by decide) w').mono fun e w'' ⟨q,h1,h2,h3⟩=>⟨q,h1,h2,Below.trans' hb h3.out,h3⟩
   have HSh:Hid (∀ w' q',Below wr.heap.size wr w'→IsN w' (.agg #[.pointer q']) 1→Calls Tryz.prog 28 #[.agg #[.pointer q'],.agg #[.pointer q]] w' fun e w''=>∃ q2,e=.returned (.tuple #[.agg #[.pointer q2],.int .i64 0])∧Hid (IsN w'' (.agg #[.pointer q2]) (twX (i+1):Int))∧Hid (Below wr.heap.size wr w'')∧Hid (Below w'.heap.size w' w'')):=fun w' q' hb hq =>
    (z6 hq (HI.out.below hb)).mono fun e w'' ⟨q2,er,h1,h2,h3⟩=>by
      rcases h3.out with ⟨-,h4⟩ | ⟨h4,-⟩
      ·rw[twShift] at h4
       obtain⟨rfl,h5⟩:=h4.yes (tw_allowed (by omega))
       exact⟨q2,h1,h5,Below.trans' hb h2.out,h2⟩
      ·exact absurd (fun e _=>by omega:shOK 1 (twX i:Int)) h4
   have hDr:D<wr.heap.size:=(jA HX.out).1
   go_wp2_with fail
   go_region_held3 (fun w=>w.cell? ⟨D,0,none⟩=some (.pointer q))
    (first | exact HKs.out _ | exact HK.out _ HB6.out | exact HK.out _ (HB6.out.alloc HB6.out.size _) | exact HK.out _ HB5.out | exact HK.out _ (HB5.out.alloc HB5.out.size _) | exact HK.out _ (Below.refl _ _) | exact HK.out _ (Below.refl _ _).drew | exact HK.out _ ((Below.refl _ _).alloc (jR _) _) | exact HK.out _ ((Below.refl _ _).alloc (jR _) _).drew)
    (first
      | (go_at_call 28; refine (HSh.out _ _ HB5.out HI5.out).mono ?_; rintro e w6 ⟨q6,rfl,HI6,HB6,hbx⟩
         have HD6:=jH (Below.here hbx.out HD5.out)
         have zq:w6.cell? ⟨wr.heap.size,0,none⟩=some (.pointer none):=by rw[jB HD6.out];rfl
         have HKs:Hid (∀ v,(w6.setCell ⟨wr.heap.size,0,none⟩ v).cell? ⟨D,0,none⟩=some (.pointer q)):=fun v=>(cell_setC (Nat.ne_of_lt hDr)).trans (HK.out _ HB6.out)
         have fq:=fun o=>jF HD6.out o)
      | (go_at_call 28; refine (HSh.out _ _ HB5.out HI5.out).mono ?_; rintro e w6 ⟨q6,rfl,HI6,HB6,hbx⟩)
      | (go_at_call 28; refine (HSh.out _ _ (HB5.out.alloc HB5.out.size _) (HI5.out.below (jV w5 _).out)).mono ?_; rintro e w6 ⟨q6,rfl,HI6,HB6,hbx⟩
         have HD6:=jH (Below.here hbx.out (jD w5 _))
         have zq:w6.cell? ⟨w5.heap.size,0,none⟩=some (.pointer none):=by rw[jB HD6.out];rfl
         have HKs:Hid (∀ v,(w6.setCell ⟨w5.heap.size,0,none⟩ v).cell? ⟨D,0,none⟩=some (.pointer q)):=fun v=>(cell_setC (Nat.ne_of_lt (Nat.lt_of_lt_of_le hDr HB5.out.size))).trans (HK.out _ HB6.out)
         have fq:=fun o=>jF HD6.out o)
      | (go_at_call 20; refine (HOf.out _ (Below.refl _ _).drew).mono ?_; rintro e w5 ⟨q5,rfl,HI5,HB5,hbx⟩)
      | (go_at_call 20; refine (HOf.out _ ((Below.refl _ _).alloc (jR _) _).drew).mono ?_; rintro e w5 ⟨q5,rfl,HI5,HB5,hbx⟩
         have HD5:=jH (Below.here hbx.out (jD wr _))))
   ·obtain⟨w7,A,hw7,hA,HT,HX7,HI7,HB7⟩:∃ w7 A,w6.alloc (.cells #[.pointer q6] 26)=w7∧w6.heap.size=A∧Hid (w7.heap[A]? = some (.cells #[.pointer q6] 26 (0,0)))∧Hid (w7.heap[D]? = some (.cells #[.pointer q] 26 (0,0)))∧Hid (IsN w7 (.agg #[.pointer q6]) (twX (i+1):Int))∧Hid (Below wr.heap.size wr w7) :=
     ⟨_,_,rfl,rfl,jD w6 _,Below.here (jV w6 _).out (Below.here HB6.out HX.out),HI6.out.below (jV w6 _).out,HB6.out.alloc HB6.out.size _⟩
    have x8:w7.cell? ⟨A,0,none⟩=some (.pointer q6):=by rw[jB HT.out];rfl
    have xD:w7.cell? ⟨D,0,none⟩=some (.pointer q):=by rw[jB HX7.out];rfl
    have fD:=fun o=>jF HX7.out o
    go_wp2_with fail
    go_roundg (k - (i+1))
    case measure=>omega
    case rel=>exact⟨i+1,q6,by go_num,by omega,by omega,heap_setCell_same w7 D 0 _ 26 _ HX7.out,HI7.out.setCell HX7.out (by decide) _,(Below.trans' HB.out HB7.out).setCell HDW.out _⟩
   ·obtain⟨w7,A,hw7,hA,HT,HX7,HI7,HB7⟩:∃ w7 A,w6.setCell ⟨A,0,none⟩ (.pointer q6)=w7∧w5.heap.size=A∧Hid (w7.heap[A]? = some (.cells #[.pointer q6] 26 (0,0)))∧Hid (w7.heap[D]? = some (.cells #[.pointer q] 26 (0,0)))∧Hid (IsN w7 (.agg #[.pointer q6]) (twX (i+1):Int))∧Hid (Below wr.heap.size wr w7) :=
     ⟨_,w5.heap.size,rfl,rfl,heap_setCell_same w6 w5.heap.size 0 _ 26 _ HD6.out,(jS _ _ _ _ (Nat.ne_of_lt (Nat.lt_of_lt_of_le hDr HB5.out.size))).trans (Below.here HB6.out HX.out),HI6.out.setCell HD6.out (by decide) _,HB6.out.setCell HB5.out.size _⟩
    have x8:w7.cell? ⟨A,0,none⟩=some (.pointer q6):=by rw[jB HT.out];rfl
    have xD:w7.cell? ⟨D,0,none⟩=some (.pointer q):=by rw[jB HX7.out];rfl
    have fD:=fun o=>jF HX7.out o
    go_wp2_with fail
    go_roundg (k - (i+1))
    case measure=>omega
    case rel=>exact⟨i+1,q6,by go_num,by omega,by omega,heap_setCell_same w7 D 0 _ 26 _ HX7.out,HI7.out.setCell HX7.out (by decide) _,(Below.trans' HB.out HB7.out).setCell HDW.out _⟩
   ·obtain⟨w7,A,hw7,hA,HT,HX7,HI7,HB7⟩:∃ w7 A,w6.setCell ⟨A,0,none⟩ (.pointer q6)=w7∧wr.heap.size=A∧Hid (w7.heap[A]? = some (.cells #[.pointer q6] 26 (0,0)))∧Hid (w7.heap[D]? = some (.cells #[.pointer q] 26 (0,0)))∧Hid (IsN w7 (.agg #[.pointer q6]) (twX (i+1):Int))∧Hid (Below wr.heap.size wr w7) :=
     ⟨_,wr.heap.size,rfl,rfl,heap_setCell_same w6 wr.heap.size 0 _ 26 _ HD6.out,(jS _ _ _ _ (Nat.ne_of_lt hDr)).trans (Below.here HB6.out HX.out),HI6.out.setCell HD6.out (by decide) _,HB6.out.setCell (jR _) _⟩
    have x8:w7.cell? ⟨A,0,none⟩=some (.pointer q6):=by rw[jB HT.out];rfl
    have xD:w7.cell? ⟨D,0,none⟩=some (.pointer q):=by rw[jB HX7.out];rfl
    have fD:=fun o=>jF HX7.out o
    go_wp2_with fail
    go_roundg (k - (i+1))
    case measure=>omega
    case rel=>exact⟨i+1,q6,by go_num,by omega,by omega,heap_setCell_same w7 D 0 _ 26 _ HX7.out,HI7.out.setCell HX7.out (by decide) _,(Below.trans' HB.out HB7.out).setCell HDW.out _⟩
  ·obtain rfl:i=k:=by omega
   have q2:decide ((i:Int)<(i:Int))=false:=by rw[decide_eq_false_iff_not];omega
   have hT:=tower_calls (W:=wr) hk6
   clear hi
   go_wp2_with fail
   refine hT.mono ?_
   rintro e w3 ⟨s,rfl,HS,hb3⟩
   have HB3:=jH (Below.trans' HB.out hb3.out)
   have HX3:=jH (Below.here hb3.out HX.out)
   have HI3:=jH (HI.out.below hb3.out)
   have hTr:=twTrace_calls (W:=w3) hk6 HS.out
   clear hT hb3
   go_wp2_with fail
   refine hTr.mono ?_
   rintro e wx ⟨sa,sn,sc,qu,qv,qm',rfl,hb4,hie⟩
   obtain⟨w4,E,hw4,hE,HE4,HBe⟩:∃ w E,wx.alloc (.cells #[.pointer qu,.pointer qv,.pointer qm'] 28)=w∧wx.heap.size=E∧Hid (w.heap[E]? = some (.cells #[.pointer qu,.pointer qv,.pointer qm'] 28 (0,0)))∧Hid (Below wx.heap.size wx w):=⟨_,_,rfl,rfl,jD wx _,(jV wx _).out⟩
   have HB34:Hid (Below w3.heap.size w3 w4):=Below.trans' hb4.out HBe.out
   have HB4:=jH (Below.trans' HB3.out HB34.out)
   have HX4:=jH (Below.here HB34.out HX3.out)
   have HI4:=jH (HI3.out.below HB34.out)
   obtain⟨iu,iv,im⟩:=IsE.parts (t:=⟨qu,qv,qm'⟩) (IsE.below hie.out HBe.out)
   have h0:isg (0:Int)=0:=by simp[isg]
   have HK:Hid (∀ w,Below w4.heap.size w4 w→w.cell? ⟨E,2,none⟩=some (.pointer qm')∧w.cell? ⟨E,0,none⟩=some (.pointer qu)∧w.cell? ⟨E,1,none⟩=some (.pointer qv)∧w.cell? ⟨D,0,none⟩=some (.pointer q)):=fun w hb =>
    ⟨by rw[jB (Below.here hb HE4.out)];rfl,by rw[jB (Below.here hb HE4.out)];rfl,by rw[jB (Below.here hb HE4.out)];rfl,by rw[jB (Below.here hb HX4.out)];rfl⟩
   have HSA:Hid (∀ w',Below w4.heap.size w4 w'→Calls Tryz.prog 30 #[.agg #[.pointer qm']] w' fun e w''=>e=.returned (.int .i64 0)∧Hid (Below w4.heap.size w4 w'')):=fun w' hb =>
    (qQ (im.below hb)).mono fun e w'' ⟨h1,h2⟩=>⟨by rw[h1];show Ending.returned (.int .i64 (isg 0))=_; rw[h0],Below.trans' hb h2.out⟩
   have HOf:Hid (∀ w',Below w4.heap.size w4 w'→Calls Tryz.prog 20 #[.int .i64 1] w' fun e w''=>∃ q,e=.returned (.agg #[.pointer q])∧Hid (IsN w'' (.agg #[.pointer q]) 1)∧Hid (Below w4.heap.size w4 w'')):=fun w' hb =>
    (Of_calls 1 (by decide) (by decide) w').mono fun e w'' ⟨q,h1,h2,h3⟩=>⟨q,h1,h2,Below.trans' hb h3.out⟩
   have HCA:Hid (∀ w' q',Below w4.heap.size w4 w'→IsN w' (.agg #[.pointer q']) 1→Calls Tryz.prog 31 #[.agg #[.pointer qu],.agg #[.pointer q']] w' fun e w''=>e=.returned (.int .i64 0)∧Hid (Below w4.heap.size w4 w'')):=fun w' q' hb hq =>
    (yF (iu.below hb) hq).mono fun e w'' ⟨h1,h2⟩=>⟨by rw[h1];rw[show isg ((twE i).u - 1)=0 from h0],Below.trans' hb h2.out⟩
   have HCB:Hid (∀ w',Below w4.heap.size w4 w'→Calls Tryz.prog 31 #[.agg #[.pointer qv],.agg #[.pointer q]] w' fun e w''=>e=.returned (.int .i64 0)∧Hid (Below w4.heap.size w4 w'')):=fun w' hb =>
    (yF (iv.below hb) (HI4.out.below hb)).mono fun e w'' ⟨h1,h2⟩=>⟨by rw[h1];rw[show isg ((twE i).v - (twX i:Int))=0 by show isg ((twX i:Int) - twX i)=0; rw[Int.sub_self,h0]],Below.trans' hb h2.out⟩
   have HBd:Hid (Below w4.heap.size w4 w4.drew):=(Below.refl _ _).drew
   have hss:s.size≤379:=by have:=twL_size hk6; rw[← HS.out,bsz] at this; exact this
   clear hTr hb4 hie iu iv im h0
   go_wp2_with fail
   go_region_held3 (fun w=>w.cell? ⟨E,2,none⟩=some (.pointer qm')∧w.cell? ⟨E,0,none⟩=some (.pointer qu)∧w.cell? ⟨E,1,none⟩=some (.pointer qv)∧w.cell? ⟨D,0,none⟩=some (.pointer q))
    (first | exact HK.out _ HB24.out | exact HK.out _ HB23.out | exact HK.out _ HB22.out | exact HK.out _ HB21.out | exact HK.out _ HBd.out | exact HK.out _ (Below.refl _ _))
    (first
      | (go_at_call 31; refine (HCB.out _ HB23.out).mono ?_; rintro e w24 ⟨rfl,HB24⟩)
      | (go_at_call 31; refine (HCA.out _ _ HB22.out HI22.out).mono ?_; rintro e w23 ⟨rfl,HB23⟩)
      | (go_at_call 20; refine (HOf.out _ HB21.out).mono ?_; rintro e w22 ⟨q22,rfl,HI22,HB22⟩)
      | (go_at_call 30; refine (HSA.out _ HBd.out).mono ?_; rintro e w21 ⟨rfl,HB21⟩))
   have HB5:=jH (Below.trans' HB4.out HB24.out)
   have e1:(s++⟨#[97]⟩).data.toList=twL i++[97]:=by rw[cat_list,HS.out]
   have e2:((⟨#[97]⟩:ByteArray)++s).data.toList=97::twL i:=by rw[cat_list,HS.out];rfl
   have z1:(s++⟨#[97]⟩).size≤400:=by rw[cat_size];show s.size+1≤400; omega
   have z2:((⟨#[97]⟩:ByteArray)++s).size≤400:=by rw[cat_size];show 1+s.size≤400; omega
   have l1:Lt (twL i++[97]):=lt_app (twL_lt i) lt_a
   have l2:Lt (97::twL i):=lt_app lt_a (twL_lt i)
   have HS1:Hid (∀ w,Calls Tryz.prog 23 #[.string (s++⟨#[97]⟩),.string ((⟨#[97]⟩:ByteArray)++s)] w fun e W'=>e=.returned (.tuple #[.bool true,.int .i64 0])∧Hid (Below w.heap.size w W')):=fun w=>twSame_calls (by rw[e1];exact l1) (by rw[e2];exact l2) z1 z2 (by rw[e1,e2];exact tw_same hk6)
   have HS2:Hid (∀ w,Calls Tryz.prog 23 #[.string s,.string (s++⟨#[97]⟩)] w fun e W'=>e=.returned (.tuple #[.bool false,.int .i64 0])∧Hid (Below w.heap.size w W')):=fun w=>twSame_calls (by rw[HS.out];exact twL_lt i) (by rw[e1];exact l1) (by omega) z1 (by rw[HS.out,e1];exact tw_other hk6)
   obtain⟨tb,htb⟩:∃ tb,decide (i=0)=tb:=⟨_,rfl⟩
   have HS3:Hid (∀ w,Calls Tryz.prog 23 #[.string s,.string ⟨#[97]⟩] w fun e W'=>e=.returned (.tuple #[.bool tb,.int .i64 0])∧Hid (Below w.heap.size w W')):=fun w=>twSame_calls (by rw[HS.out];exact twL_lt i) lt_a (by omega) (by decide) (by rw[HS.out,← htb];exact tw_is hk6)
   have tb1:decide ((i:Int)=0)=tb:=by rw[← htb];simp
   have tb2:((i:Int)==0)=tb:=by rw[← htb,Bool.eq_iff_iff];simp
   clear e1 e2 z1 z2 l1 l2 htb
   have hS1:=HS1.out w24
   go_wp2_with fail
   refine hS1.mono ?_
   rintro e w6 ⟨rfl,hb6⟩
   have HB6:=jH (Below.trans' HB5.out hb6.out)
   have hS2:=HS2.out w6
   clear hS1 hb6
   go_wp2_with fail
   refine hS2.mono ?_
   rintro e w7 ⟨rfl,hb7⟩
   have HB7:=jH (Below.trans' HB6.out hb7.out)
   have hS3:=HS3.out w7
   clear hS2 hb7
   go_wp2_with fail
   refine hS3.mono ?_
   rintro e w8 ⟨rfl,hb8⟩
   have HB8:=jH (Below.trans' HB7.out hb8.out)
   clear hS3 hb8
   by_cases hv1:30<v.size
   ·have r1:decide ((30:Int)<(v.size:Int))=true:=by rw[decide_eq_true_eq];omega
    have hS:=jx w8
    go_wp2_with fail
    refine hS.mono ?_
    rintro e wz ⟨rfl,hbz⟩
    go_wp2_with fail
    go_ret
    exact⟨rfl,Below.trans' HB8.out hbz.out⟩
   ·have r1:decide ((30:Int)<(v.size:Int))=false:=by rw[decide_eq_false_iff_not];omega
    have hI:=yU (W:=w8) hv (n:=30) (by decide)
    obtain⟨ti,hti⟩:∃ ti,(isLt v.data.toList&&decide (v.size≤30))=ti:=⟨_,rfl⟩
    rw[hti] at hI
    have Hti:=jH hti
    clear hti
    go_wp2_with fail
    refine hI.mono ?_
    rintro e w9 ⟨rfl,hb9⟩
    have HB9:=jH (Below.trans' HB8.out hb9.out)
    clear hI hb9
    cases ti with
    | false =>
      have hS:=jx w9
      go_wp2_with fail
      refine hS.mono ?_
      rintro e wz ⟨rfl,hbz⟩
      go_wp2_with fail
      go_ret
      exact⟨rfl,Below.trans' HB9.out hbz.out⟩
    | true =>
      have hti:=Hti.out
      rw[Bool.and_eq_true,zQ,decide_eq_true_eq] at hti
      have u1:IntKind.i64.wrap (2*(v.size:Int))=((2*v.size:Nat):Int):=by rw[IntKind.wrap_i64];omega
      have u2:IntKind.i64.wrap ((s.size:Int)+((2*v.size:Nat):Int))=((s.size+2*v.size:Nat):Int):=by rw[IntKind.wrap_i64];omega
      by_cases hv2:400<s.size+2*v.size
      ·have r2:decide ((400:Int)<((s.size+2*v.size:Nat):Int))=true:=by rw[decide_eq_true_eq];omega
       clear hti
       have hS:=jx w9
       go_wp2_with fail
       refine hS.mono ?_
       rintro e wz ⟨rfl,hbz⟩
       go_wp2_with fail
       go_ret
       exact⟨rfl,Below.trans' HB9.out hbz.out⟩
      ·have r2:decide ((400:Int)<((s.size+2*v.size:Nat):Int))=false:=by rw[decide_eq_false_iff_not];omega
       have hN:=fun w=>inv5_calls (W:=w) (s:=v) (by omega) hti.1
       have hl:(twL i).length=s.size:=by rw[← HS.out,bsz]
       have hC:=tw_conj hk6 hti.1 (by rw[bsz];exact hti.2) (by rw[hl,bsz];omega)
       have e3:((v++s)++(ByteArray.mk (invL v.data.toList).toArray)).data.toList=v.data.toList++twL i++invL v.data.toList:=by rw[cat_list,cat_list,HS.out]
       have z3:((v++s)++(ByteArray.mk (invL v.data.toList).toArray)).size≤400:=by rw[cat_size,cat_size,inv_size,bsz];omega
       have HU:Hid (∀ w,Calls Tryz.prog 18 #[.string ((v++s)++(ByteArray.mk (invL v.data.toList).toArray))] w fun e W'=>e=.returned (.tuple #[.bool false,.int .i64 0])∧Hid (Below w.heap.size w W')):=fun w=>twUnit_calls (by rw[e3];exact lt_app (lt_app hti.1 (twL_lt i)) (invL_lt hti.1)) z3 (by rw[e3];exact hC)
       have hv3:v.size≤30:=hti.2
       have hzi:(ByteArray.mk (invL v.data.toList).toArray).size=v.size:=by rw[inv_size,bsz]
       have hzs:(v++s).size=v.size+s.size:=cat_size v s
       clear hti hl hC e3 z3
       go_wp2_with fail
       refine (hN _).mono ?_
       rintro e w10 ⟨rfl,hb10⟩
       have HB10:=jH (Below.trans' HB9.out hb10.out)
       have hU:=HU.out w10
       clear hN hb10
       go_wp2_with fail
       refine hU.mono ?_
       rintro e w11 ⟨rfl,hb11⟩
       have HB11:=jH (Below.trans' HB10.out hb11.out)
       have hS:=jx w11
       clear hU hb11
       go_wp2_with fail
       refine hS.mono ?_
       rintro e w12 ⟨rfl,hb12⟩
       go_wp2_with fail
       go_ret
       exact⟨rfl,Below.trans' HB11.out hb12.out⟩
end
end Sr

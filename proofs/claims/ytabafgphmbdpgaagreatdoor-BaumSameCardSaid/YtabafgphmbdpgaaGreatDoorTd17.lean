/- Texts of this claim, joined: GiveC, Placed, GiveX, Give. -/
import Derived.Test.YtabafgphmbdpgaaGreatDoorTd1
import Derived.Test.YtabafgphmbdpgaaGreatDoorTd4
import Derived.Test.YtabafgphmbdpgaaGreatDoorTd16
import Derived.Lib.Hide
import Derived.Laws.EntriesVeiled
set_option maxHeartbeats 8000000
set_option maxRecDepth 100000
namespace Sr
open Go Go.Proofs Go.RowKit Go.Maps Go.WideMaps
section
def WalkQ (w1:World)(vs:List Int)(b8 b7 mh:Nat)(x:Int)(ps:List Nat)(ok:Bool)(plv:Value)(wr:World)(e:Ending)(w':World): Prop :=
 ∃ (ps':List Nat) (hh':Nat→Nat) (ok':Bool) (plv':Value) (r:Nat),e=.returned (.int .i64 (r:Nat))∧Hid (GS w1 vs b8 b7 mh ps' hh' ok' plv' w')∧Hid (Wk (exps x) ps ok ps' ok' r)∧Hid (FE (GO b7 b8 mh plv) wr (GO b7 b8 mh plv') w')
theorem int_max (r h:Nat): Value.int .i64 (max (r:Int) ((h:Int)+1))=.int .i64 ((max r (h+1):Nat):Int):=by congr 1; omega
theorem int_max1 (r:Nat): Value.int .i64 (max (r:Int) 1)=.int .i64 ((max r 1:Nat):Int):=by congr 1; omega
theorem FE.alloc {F F':List Nat}{w w':World}(h:FE F w F' w')(o:Obj): FE F w F' (w'.alloc o) :=
 ⟨⟨h.fr.os,h.fr.tape,h.fr.output,by have:=h.fr.size; simp; omega,fun b hb hn=>(jE _ _ (Nat.lt_of_lt_of_le hb h.fr.size)).trans (h.fr.block b hb hn)⟩,h.sub⟩
variable {F:List Nat} {vs:List Int} {w1:World} {b8 b7 mh:Nat}
theorem hh_bd {ps:List Nat}{hh:Nat→Nat}{ok:Bool}(hv:WV vs)(hl:vs.length≤2147483648)(h:HInv vs ps hh ok){e:Nat}(he:e∈ps): hh e<2147483648:=by
 have:=h.le e he; have:=height_lt hv (h.mem e he);omega
def WalkC (_C:List Nat)(w1:World)(_p:Nat)(_F:List Nat)(_D:WD)(vs:List Int)(_gk:List Nat)(_m b6 b8 b2 b7 b9 mh:Nat)(x:Int): Prop :=
 ∀ (v:Value) (wr:World) (ps:List Nat) (hh:Nat→Nat) (ok:Bool) (plv:Value),TRow w1 v (pf vs x)→Hid (GS w1 vs b8 b7 mh ps hh ok plv wr) →
  Calls Tryz.prog 95 #[v,.pointer (some ⟨b6,0,none⟩),.pointer (some ⟨b8,0,none⟩),.pointer (some ⟨b2,0,none⟩),.pointer (some ⟨b7,0,none⟩),.pointer (some ⟨b9,0,none⟩)] wr (WalkQ w1 vs b8 b7 mh x ps ok plv wr)
theorem GS.drew {w1 wr:World}{vs:List Int}{b8 b7 mh:Nat}{ps:List Nat}{hh:Nat→Nat}{ok:Bool}{plv:Value}(S:GS w1 vs b8 b7 mh ps hh ok plv wr): GS w1 vs b8 b7 mh ps hh ok plv wr.drew:=S.below ((Below.refl _ _).drew)
theorem FE.setOk {w:World}{plv:Value}(v:Value): FE (GO b7 b8 mh plv) w (GO b7 b8 mh plv) (w.setCell ⟨b8,0,none⟩ v).drew :=
 ⟨⟨rfl,rfl,rfl,by simp,fun b _ hn=>jS _ _ _ _ (by show b≠b8; rintro rfl; exact hn (mem_GO.2 (.inr (.inl rfl))))⟩,fun _ h=>.inl h⟩
theorem walk_step {C:List Nat}{p:Nat}{D:WD}{gk:List Nat}{m b6 b2 b9:Nat}(B:Hid (GB C w1 p F D vs gk m b6 b8 b2 b7 b9 mh))(x:Int)(hx:∀ e∈exps x,(e:Int)∈vs) 
 (ih:∀ e∈exps x,WalkC C w1 p F D vs gk m b6 b8 b2 b7 b9 mh (e:Int)):WalkC C w1 p F D vs gk m b6 b8 b2 b7 b9 mh x:=by
 intro v wr0 ps hh ok plv hv0 S0
 have HV:Hid (TRow w1 v (pf vs x)):=hv0
 have HX:Hid (∀ e∈exps x,(e:Int)∈vs):=hx
 have IH:Hid (∀ e∈exps x,WalkC C w1 p F D vs gk m b6 b8 b2 b7 b9 mh (e:Int)):=ih
 have HVL:vs.length≤2147483648:=B.out.wo.vlen
 obtain⟨va,ca,rfl,_,_⟩:=hv0.shape
 obtain⟨N,hN⟩:∃ N,N=(pf vs x).length:=⟨_,rfl⟩
 have hNb:N≤2147483648:=by rw[hN];exact pf_len HVL hx
 rw[← hN] at HV
 have HNe:Hid (N=(pf vs x).length):=hN
 rw[← hN]
 clear hv0 hx ih hN
 go_enter Tryz.func95,Tryz.ntmps95
 go_wp2_with fail
 go_loopg [8,16] N (fun g1 vh vi wr=>∃ (k r:Nat) (ps1:List Nat) (hh1:Nat→Nat) (ok1:Bool) (plv1:Value),vh=.int .i64 (r:Nat)∧vi=.int .i64 k∧k≤N∧N - k≤g1∧r≤2147483648∧Hid (GS w1 vs b8 b7 mh ps1 hh1 ok1 plv1 wr)∧Hid (Wk ((exps x).take k) ps ok ps1 ok1 r)∧Hid (FE (GO b7 b8 mh plv) wr0 (GO b7 b8 mh plv1) wr))
 case atStart=>exact⟨0,0,ps,hh,ok,plv,rfl,rfl,by omega,by omega,by omega,S0,Wk.start _ _,FE.refl _ _⟩
 case round =>
  clear S0
  obtain⟨k,r,ps1,hh1,ok1,plv1,rfl,rfl,hkl,hg,hr,HS,HW,HFE⟩:=hrel
  by_cases hk:k<N
  ·have hkz:(k:Int)<(N:Int):=by omega
   have hk0:(0:Int)≤(k:Int):=Int.natCast_nonneg k
   have hkw:IntKind.i64.wrap ((k:Int)+1)=(k:Int)+1:=IntWalk.i64_in _ (by omega)
   have hNx:N=(exps x).length:=by rw[HNe.out];simp[pf,exps]
   obtain⟨e,he⟩:∃ e,(exps x)[k]? = some e:=⟨_,jG (by omega)⟩
   obtain⟨t,ht,rfl⟩:∃ t,(form x)[k]? = some t∧t.2=e:=by
    unfold exps at he; rw[List.getElem?_map] at he; exact Option.map_eq_some_iff.1 he
   obtain⟨sx,e⟩:=t
   have hem:=HX.out e (jM he)
   have hpk:(pf vs x)[k]? = some (sx,vs.idxOf (e:Int)):=by unfold pf; rw[List.getElem?_map,ht];rfl
   obtain⟨_,_,ea,_,sa⟩:=TRow.shape (B.out.trow HS.out.fr HV.out)
   obtain⟨ga,hga,cx0,cx1⟩:=sa k _ hpk
   rw[← HNe.out] at ea
   obtain⟨q1,q2,q3⟩:=Value.slice.inj ea
   subst hga
   subst q1
   clear q2 q3 ea sa
   dsimp only at cx0 cx1
   have hz:Hid (wr.heap.size+1=(wr.alloc (.cells #[.bool sx,.int .i64 (vs.idxOf (e:Int):Nat)] 154)).heap.size):=by show _=_; simp
   have hT:Hid ((exps x).take (k+1)=(exps x).take k++[e]):=j8 he
   have HE:Hid (e∈exps x):=jM he
   have HM:Hid ((e:Int)∈vs):=hem
   have HAl:Hid (vs.idxOf (e:Int)<vs.length):=zR hem
   have hwv:=jH B.out.wo.wv
   obtain⟨a,ha⟩:∃ a,a=vs.idxOf (e:Int):=⟨_,rfl⟩
   rw[← ha] at cx1 hz HAl
   have HA:Hid (a=vs.idxOf (e:Int)):=ha
   have c6:wr.cell? ⟨b6,0,none⟩=some (.map (some mh)):=by rw[jB (B.out.keep HS.out.fr B.out.bh (by decide) (by decide))];rfl
   have c8:wr.cell? ⟨b8,0,none⟩=some (.bool ok1):=by rw[jB HS.out.bo];rfl
   have l6:∀ o,(wr.alloc o).cell? ⟨b6,0,none⟩=some (.map (some mh)):=fun o=>by have hk:=B.out.keep HS.out.fr B.out.bh (by decide) (by decide);rw[jB ((jE _ _ (jA hk).1).trans hk)];rfl
   have l8:∀ o,(wr.alloc o).cell? ⟨b8,0,none⟩=some (.bool ok1):=fun o=>by have hk:=HS.out.bo; rw[jB ((jE _ _ (jA hk).1).trans hk)];rfl
   clear c6 c8
   have la:ga≠wr.heap.size:=by have:=jg cx0; omega
   have HS1:Hid (GS w1 vs b8 b7 mh ps1 hh1 ok1 plv1 (wr.alloc (.cells #[.bool sx,.int .i64 (a:Nat)] 154))):=HS.out.below ((Below.refl _ _).alloc (jR _) _)
   have hlook:=HS1.out.look HVL hem
   rw[← ha] at hlook
   clear ht he hem hpk ha hNx
   rcases hlook with ⟨hin,hlk⟩ | ⟨hin,hlk⟩
   ·have hlk1:=hlk _ rfl
    have hhb:=hh_bd hwv.out HVL HS1.out.inv hin
    obtain⟨hv1,hhv⟩:∃ hv1,hv1=hh1 e:=⟨_,rfl⟩
    rw[← hhv] at hlk1 hhb
    have HHV:Hid (hv1=hh1 e):=hhv
    have Hin:Hid (e∈ps1):=hin
    have hw1:IntKind.i64.wrap ((hv1:Int)+1)=(hv1:Int)+1:=IntWalk.i64_in _ (by omega)
    clear hlk hhv hin l8
    have HFE1:Hid (FE (GO b7 b8 mh plv) wr0 (GO b7 b8 mh plv1) (wr.alloc (.cells #[.bool sx,.int .i64 (a:Nat)] 154))):=HFE.out.alloc _
    clear HS HFE
    go_wp2_with fail
    go_roundg (N - (k+1))
    case measure=>omega
    case rel =>
     refine⟨k+1,max r (hv1+1),ps1,hh1,ok1,plv1,int_max r hv1,by go_num,by omega,by omega,by omega,HS1,?_,HFE1⟩
     show Wk _ _ _ _ _ _
     rw[hT.out,HHV.out];exact HW.out.known HS1.out.inv Hin.out
   ·have hlk1:=hlk _ rfl
    have Hnin:Hid (e∉ps1):=hin
    have HFE1:Hid (FE (GO b7 b8 mh plv) wr0 (GO b7 b8 mh plv1) (wr.alloc (.cells #[.bool sx,.int .i64 (a:Nat)] 154))):=HFE.out.alloc _
    clear hlk hin
    cases ok1
    ·clear HS HFE
     go_wp2_with fail
     go_roundg (N - (k+1))
     case measure=>omega
     case rel =>
      refine⟨k+1,max r 1,ps1,hh1,false,plv1,int_max1 r,by go_num,by omega,by omega,by omega,HS1,?_,HFE1⟩
      show Wk _ _ _ _ _ _
      rw[hT.out];exact HW.out.lost
    ·have HWO:=B.out.wo' HS1.out.fr
     obtain⟨gf,cf,hfv,hgF,hrow⟩:=HWO.formAt
     obtain⟨fv,efv,cfv,rfv,_⟩:=hrow a e (by rw[HA.out];exact jU HM.out)
     have HRV:Hid (TRow w1 fv (pf vs (e:Int))):=by
      obtain⟨fv',q1,q2,_⟩:=B.out.wo.rows a e (by rw[HA.out];exact jU HM.out)
      rw[efv] at q1; cases q1; exact q2
     have cp0:=HWO.c0
     rw[hfv] at cp0
     have cb2:(wr.alloc (.cells #[.bool sx,.int .i64 (a:Nat)] 154)).cell? ⟨b2,0,none⟩=some (.pointer (some ⟨p,0,none⟩)):=by rw[jB (B.out.keep HS1.out.fr B.out.bw (by decide) (by decide))];rfl
     have hb9:=B.out.keep HS1.out.fr B.out.bk (by decide) (by decide)
     have a0:(0:Int)≤(a:Int):=by omega
     have az:(a:Int)<(vs.length:Int):=by have:=HAl.out; omega
     obtain⟨fa,fc,rfl,_,_⟩:=rfv.shape
     obtain⟨NE,hNE⟩:∃ NE,NE=(pf vs (e:Int)).length:=⟨_,rfl⟩
     have HNE:Hid (NE=(pf vs (e:Int)).length):=hNE
     rw[← hNE] at cfv HRV
     have cb7:(wr.alloc (.cells #[.bool sx,.int .i64 (a:Nat)] 154)).cell? ⟨b7,0,none⟩=some plv1:=by rw[jB HS1.out.bp];rfl
     obtain⟨pa,pc,hplv⟩:∃ pa pc,plv1=.slice pa ps1.length pc:=by
      obtain⟨_,⟨q1,q2⟩ | ⟨g,cap,cur,q1,_⟩⟩:=HS1.out.row
      ·rw[List.length_map] at q2; exact⟨none,0,by rw[q1,q2]⟩
      ·rw[List.length_map] at q1; exact⟨_,cap,q1⟩
     have f8:(wr.alloc (.cells #[.bool sx,.int .i64 (a:Nat)] 154)).frozen? ⟨b8,0,none⟩=false:=jF HS1.out.bo 0
     have htb:(wr.alloc (.cells #[.bool sx,.int .i64 (a:Nat)] 154)).heap[wr.heap.size]? = some (.cells #[.bool sx,.int .i64 (a:Nat)] 154 (0,0)):=jD _ _
     have HTB:Hid (∀ w' F',FE (GO b7 b8 mh plv1) (wr.alloc (.cells #[.bool sx,.int .i64 (a:Nat)] 154)) F' w'→w'.heap[wr.heap.size]? = some (.cells #[.bool sx,.int .i64 (a:Nat)] 154 (0,0))):=fun w' F' hfe=>by
      rw[hfe.fr.block _ (by simp) ?_];exact htb
      rw[mem_GO]
      rintro (q | q | q | q)
      ·have:=(jA HS.out.bp).1; omega
      ·have:=(jA HS.out.bo).1; omega
      ·obtain⟨f,q1,_⟩:=HS.out.map; have:=q1.lt; omega
      ·have:=jP HS.out.row q; omega
     have HPB:ps1.length≤2147483648:=by
      have:=jT (ps1.map fun (e:Nat)=>(e:Int).toNat) (vs.map Int.toNat) (by simpa using HS1.out.inv.nodup) (fun y hy=>by
       obtain⟨e',q1,rfl⟩:=List.mem_map.1 hy
       exact List.mem_map.2 ⟨_,HS1.out.inv.mem e' q1,rfl⟩)
      simp at this; omega
     have c9:(wr.alloc (.cells #[.bool sx,.int .i64 (a:Nat)] 154)).cell? ⟨b9,0,none⟩=some (.func (.func 95) #[] #[.pointer (some ⟨b6,0,none⟩),.pointer (some ⟨b8,0,none⟩),.pointer (some ⟨b2,0,none⟩),.pointer (some ⟨b7,0,none⟩),.pointer (some ⟨b9,0,none⟩)]):=by rw[jB hb9];rfl
     have n98:b9≠b8:=jI hb9 HS1.out.bo (by decide)
     subst hplv
     clear HWO hrow efv rfv hb9 hNE htb HS HFE hgF hfv
     have HNF:Hid (NE=(form (e:Int)).length):=by show _=_; rw[HNE.out];simp[pf]
     by_cases h3:NE≤300
     ·have h3z:(NE:Int)≤300:=by omega
      have HOK:Hid (decide ((ps1.length:Int)<2000)=(decide ((form (e:Int)).length≤300)&&decide (ps1.length<2000))):=by
       show _=_
       rw[← HNF.out,decide_eq_true h3,Bool.true_and]
       exact decide_eq_decide.2 (by omega)
      go_wp2_with fail
      go_region
      go_wp2_with fail
      have HS5:Hid (GS w1 vs b8 b7 mh ps1 hh1 (decide ((ps1.length:Int)<2000)) (.slice pa ps1.length pc) ((wr.alloc (.cells #[.bool sx,.int .i64 (a:Nat)] 154)).setCell ⟨b8,0,none⟩ (.bool (decide ((ps1.length:Int)<2000)))).drew):=(HS1.out.setOk B.out (decide ((ps1.length:Int)<2000)) (fun _=>rfl)).drew
      refine (IH.out e HE.out _ _ ps1 hh1 (decide ((ps1.length:Int)<2000)) _ HRV.out HS5).mono ?_
      rintro y w2 ⟨ps2,hh2,ok3,plv2,q,rfl,HS2,HW2,HF2⟩
      have HW2':Hid (Wk (exps (e:Int)) ps1 (decide ((form (e:Int)).length≤300)&&decide (ps1.length<2000)) ps2 ok3 q):=by
       show Wk _ _ _ _ _ _
       rw[← HOK.out];exact HW2.out
      have HFE5:Hid (FE (GO b7 b8 mh (.slice pa ps1.length pc)) (wr.alloc (.cells #[.bool sx,.int .i64 (a:Nat)] 154)) (GO b7 b8 mh plv2) w2):=(FE.setOk _).trans HF2.out
      obtain⟨hn2,hinv⟩:=HInv.walked Hnin.out HM.out HW2'.out HS2.out.inv
      obtain⟨W4,hrun,hs4,hck,hrow4,hfin⟩:=HS2.out.pushed B.out HVL HM.out hinv hn2
      rw[← HA.out] at hrun hfin
      have htb2:=HTB.out w2 _ HFE5.out
      have c6w:w2.cell? ⟨b6,0,none⟩=some (.map (some mh)):=by rw[jB (B.out.keep HS2.out.fr B.out.bh (by decide) (by decide))];rfl
      have ctb2:w2.cell? ⟨wr.heap.size,1,none⟩=some (.int .i64 (a:Nat)):=by rw[jB htb2];rfl
      have ctb4:W4.cell? ⟨wr.heap.size,1,none⟩=some (.int .i64 (a:Nat)):=by rw[jB (hck _ _ _ _ htb2)];rfl
      have c7w:W4.cell? ⟨b7,0,none⟩=some plv2:=by rw[jB (hck _ _ _ _ HS2.out.bp)];rfl
      have hqb:q<2147483648:=by
       have h1:=HW2'.out.le
       rw[← zA] at h1
       have:=height_lt hwv.out HM.out
       omega
      have hps2:(ps2.map fun (e:Nat)=>vs.idxOf (e:Int)).length+1≤1099511627776:=by
       have:=jT (ps2.map fun (e:Nat)=>(e:Int).toNat) (vs.map Int.toNat) (by simpa using HS2.out.inv.nodup) (fun y hy=>by
        obtain⟨e',q1,rfl⟩:=List.mem_map.1 hy
        exact List.mem_map.2 ⟨_,HS2.out.inv.mem e' q1,rfl⟩)
       simp at this ⊢;omega
      have hwq:IntKind.i64.wrap ((q:Int)+1)=(q:Int)+1:=IntWalk.i64_in _ (by omega)
      obtain⟨ds2,hds2⟩:∃ ds2,ds2=ps2.map fun (e:Nat)=>vs.idxOf (e:Int):=⟨_,rfl⟩
      rw[← hds2] at hrow4 hfin hps2
      have HFin:=jH hfin
      have HRow4:=jH hrow4
      clear htb2 hck hrow4 hfin hs4 hinv hn2 hds2 hlk1 HTB HS1 HS5 HF2
      go_wp2_with (at_builtin; go_loud (refine app_I1L rfl _ _ rfl plv2 ds2 rfl (World.ownsRow.alloc HRow4.out _) _ a rfl (jD _ _) hps2 _ rfl ?_);intro g cap w3 I3 G3 A3 L3
                   obtain⟨hgs,hfe,c73,f73⟩:=HFin.out w3 g _ cap _ I3 G3 (by simpa using A3)
                   have HGS:=jH hgs
                   have HFE3:=jH hfe
                   clear I3 G3 A3 hgs hfe)
      go_roundg (N - (k+1))
      case measure=>omega
      case rel =>
       refine⟨k+1,max r (q+1),ps2++[e],upH hh2 e q,ok3,_,int_max r q,by go_num,by omega,by omega,by omega,HGS,?_,(HFE1.out.trans HFE5.out).trans HFE3.out⟩
       show Wk _ _ _ _ _ _
       rw[hT.out];exact HW.out.walked HW2'.out
     ·have h3z:¬ ((NE:Int)≤300):=by omega
      have HOK:Hid (false=(decide ((form (e:Int)).length≤300)&&decide (ps1.length<2000))):=by
       show _=_
       rw[← HNF.out,decide_eq_false h3,Bool.false_and]
      go_wp2_with fail
      go_region
      go_wp2_with fail
      have HS5:Hid (GS w1 vs b8 b7 mh ps1 hh1 false (.slice pa ps1.length pc) ((wr.alloc (.cells #[.bool sx,.int .i64 (a:Nat)] 154)).setCell ⟨b8,0,none⟩ (.bool false)).drew):=(HS1.out.setOk B.out false (fun _=>rfl)).drew
      refine (IH.out e HE.out _ _ ps1 hh1 false _ HRV.out HS5).mono ?_
      rintro y w2 ⟨ps2,hh2,ok3,plv2,q,rfl,HS2,HW2,HF2⟩
      have HW2':Hid (Wk (exps (e:Int)) ps1 (decide ((form (e:Int)).length≤300)&&decide (ps1.length<2000)) ps2 ok3 q):=by
       show Wk _ _ _ _ _ _
       rw[← HOK.out];exact HW2.out
      have HFE5:Hid (FE (GO b7 b8 mh (.slice pa ps1.length pc)) (wr.alloc (.cells #[.bool sx,.int .i64 (a:Nat)] 154)) (GO b7 b8 mh plv2) w2):=(FE.setOk _).trans HF2.out
      obtain⟨hn2,hinv⟩:=HInv.walked Hnin.out HM.out HW2'.out HS2.out.inv
      obtain⟨W4,hrun,hs4,hck,hrow4,hfin⟩:=HS2.out.pushed B.out HVL HM.out hinv hn2
      rw[← HA.out] at hrun hfin
      have htb2:=HTB.out w2 _ HFE5.out
      have c6w:w2.cell? ⟨b6,0,none⟩=some (.map (some mh)):=by rw[jB (B.out.keep HS2.out.fr B.out.bh (by decide) (by decide))];rfl
      have ctb2:w2.cell? ⟨wr.heap.size,1,none⟩=some (.int .i64 (a:Nat)):=by rw[jB htb2];rfl
      have ctb4:W4.cell? ⟨wr.heap.size,1,none⟩=some (.int .i64 (a:Nat)):=by rw[jB (hck _ _ _ _ htb2)];rfl
      have c7w:W4.cell? ⟨b7,0,none⟩=some plv2:=by rw[jB (hck _ _ _ _ HS2.out.bp)];rfl
      have hqb:q<2147483648:=by
       have h1:=HW2'.out.le
       rw[← zA] at h1
       have:=height_lt hwv.out HM.out
       omega
      have hps2:(ps2.map fun (e:Nat)=>vs.idxOf (e:Int)).length+1≤1099511627776:=by
       have:=jT (ps2.map fun (e:Nat)=>(e:Int).toNat) (vs.map Int.toNat) (by simpa using HS2.out.inv.nodup) (fun y hy=>by
        obtain⟨e',q1,rfl⟩:=List.mem_map.1 hy
        exact List.mem_map.2 ⟨_,HS2.out.inv.mem e' q1,rfl⟩)
       simp at this ⊢;omega
      have hwq:IntKind.i64.wrap ((q:Int)+1)=(q:Int)+1:=IntWalk.i64_in _ (by omega)
      obtain⟨ds2,hds2⟩:∃ ds2,ds2=ps2.map fun (e:Nat)=>vs.idxOf (e:Int):=⟨_,rfl⟩
      rw[← hds2] at hrow4 hfin hps2
      have HFin:=jH hfin
      have HRow4:=jH hrow4
      clear htb2 hck hrow4 hfin hs4 hinv hn2 hds2 hlk1 HTB HS1 HS5 HF2
      go_wp2_with (at_builtin; go_loud (refine app_I1L rfl _ _ rfl plv2 ds2 rfl (World.ownsRow.alloc HRow4.out _) _ a rfl (jD _ _) hps2 _ rfl ?_);intro g cap w3 I3 G3 A3 L3
                   obtain⟨hgs,hfe,c73,f73⟩:=HFin.out w3 g _ cap _ I3 G3 (by simpa using A3)
                   have HGS:=jH hgs
                   have HFE3:=jH hfe
                   clear I3 G3 A3 hgs hfe)
      go_roundg (N - (k+1))
      case measure=>omega
      case rel =>
       refine⟨k+1,max r (q+1),ps2++[e],upH hh2 e q,ok3,_,int_max r q,by go_num,by omega,by omega,by omega,HGS,?_,(HFE1.out.trans HFE5.out).trans HFE3.out⟩
       show Wk _ _ _ _ _ _
       rw[hT.out];exact HW.out.walked HW2'.out
  ·have hkz:¬ ((k:Int)<(N:Int)):=by omega
   go_wp2_with fail
   go_ret
   have hNx:N=(exps x).length:=by rw[HNe.out];simp[pf,exps]
   have hT:(exps x).take k=exps x:=List.take_of_length_le (by omega)
   have HW2:=HW.out
   rw[hT] at HW2
   exact⟨ps1,hh1,ok1,plv1,r,rfl,HS,HW2,HFE⟩
theorem walk_calls {C:List Nat}{p:Nat}{D:WD}{gk:List Nat}{m b6 b2 b9:Nat}(B:Hid (GB C w1 p F D vs gk m b6 b8 b2 b7 b9 mh)):
 ∀ (n:Nat) (x:Int),x.natAbs≤n→(∀ e∈exps x,(e:Int)∈vs)→WalkC C w1 p F D vs gk m b6 b8 b2 b7 b9 mh x:=by
 intro n
 induction n with
 | zero=>exact fun x h hx=>walk_step B x hx fun e he=>by have:=qz he; omega
 | succ n ih=>exact fun x h hx=>walk_step B x hx fun e he=>ih (e:Int) (by have:=qz he; omega) fun a ha=>B.out.wo.wv.mem_exps (hx e he) ha
end
section
def repl (G:Nat→Nat)(l:List PT): List PT:=l.map fun t=>(t.1,G t.2)
theorem repl_len (G:Nat→Nat)(l:List PT): (repl G l).length=l.length:=by simp[repl]
variable {l:List PT}
theorem repl_get {G:Nat→Nat}{k:Nat}{t:PT}(ht:l[k]? = some t): (repl G (l.take k)++l.drop k)[k]? = some t∧repl G (l.take (k+1))++l.drop (k+1)=(repl G (l.take k)++l.drop k).set k (t.1,G t.2):=by
 have hk:=(jL ht).1
 have e2:(repl G (l.take k)).length=k:=by rw[repl_len,List.length_take];omega
 constructor
 ·rw[List.getElem?_append_right (by omega),e2,Nat.sub_self,List.getElem?_drop,Nat.add_zero,ht]
 ·have e1:l.drop k=t::l.drop (k+1):=zy ht
  have e3:repl G (l.take (k+1))=repl G (l.take k)++[(t.1,G t.2)]:=by rw[j8 ht];simp[repl]
  rw[e3,e1,List.append_assoc,List.set_append_right _ _ (by omega),e2,Nat.sub_self]
  simp
theorem placedS_calls {W:World}{bp:Nat}{pv v:Value}{ds:List Nat}{G:Nat→Nat}(h1:W.heap[bp]? = some (.cells #[pv] 80 (0,0)))(hp:IRow W pv ds)(hl:TRow W v l) 
 (hd:∀ t∈l,ds[t.2]? = some (G t.2)) (hlen:l.length≤1000000) :
 Calls Tryz.prog 166 #[v,.pointer (some ⟨bp,0,none⟩)] W fun e W'=>∃ v',e=.returned v'∧Hid (TRow W' v' (repl G l))∧Hid (Below W.heap.size W W')∧Hid (∀ b,v'.ownBlock=some b→W.heap.size≤b):=by
 have HP:=jH hp
 have HD:Hid (∀ t∈l,ds[t.2]? = some (G t.2)):=hd
 clear hp hd
 have HCl:=zX hl (by omega)
 have H1:=jH h1
 clear h1
 go_enter Tryz.func166,Tryz.ntmps166
 go_wp2_with fail
 refine HCl.mono ?_
 rintro y w1 ⟨v1,rfl,hr1,hb1,ho1⟩
 clear HCl
 obtain⟨a1,c1,rfl,_,_⟩:=hr1.out.shape
 have K0:Hid (w1.ownsRow 0 154 2 (.slice a1 l.length c1) l.length (tcells (repl G (l.take 0)++l.drop 0))):=hr1.out
 have HO:Hid (∀ b,(Value.slice a1 l.length c1).ownBlock=some b→W.heap.size≤b):=ho1
 clear hr1 ho1
 go_wp2_with fail
 go_loopg [9] l.length (fun g1 vi wr=>∃ k:Nat,vi=.int .i64 k∧k≤l.length∧l.length - k≤g1∧Hid (wr.ownsRow 0 154 2 (.slice a1 l.length c1) l.length (tcells (repl G (l.take k)++l.drop k)))∧Hid (Below W.heap.size W wr))
 case atStart=>exact⟨0,rfl,by omega,by omega,K0,hb1⟩
 case round =>
  clear K0 hb1
  obtain⟨k,rfl,hkl,hg,HK,HB⟩:=hrel
  by_cases hk:k<l.length
  ·have hkz:(k:Int)<(l.length:Int):=by omega
   have hk0:(0:Int)≤(k:Int):=Int.natCast_nonneg k
   have hkw:IntKind.i64.wrap ((k:Int)+1)=(k:Int)+1:=IntWalk.i64_in _ (by omega)
   obtain⟨t,ht⟩:∃ t,l[k]? = some t:=⟨_,jG hk⟩
   obtain⟨hlk,hnx0⟩:=repl_get (G:=G) ht
   have hnx:Hid (repl G (l.take (k+1))++l.drop (k+1)=(repl G (l.take k)++l.drop k).set k (t.1,G t.2)):=hnx0
   clear hnx0
   have hbl:=jH ((HB.out.block bp (jA H1.out).1).trans H1.out)
   have htd:=HD.out t (jM ht)
   have htl:=(jL htd).1
   obtain⟨gp,cp,rfl,cq⟩:=qS (k:=t.2) (x:=.int .i64 (G t.2:Nat)) (jK HP.out HB.out) (by rw[List.getElem?_map,htd];rfl)
   have cb:wr.cell? ⟨bp,0,none⟩=some (.slice (some ⟨gp,0,none⟩) ds.length cp):=by rw[jB hbl.out];rfl
   have t1:(t.2:Int)<(ds.length:Int):=by omega
   clear htd htl
   obtain⟨hh1,⟨hh2,hh3⟩ | ⟨g,cap,cur,hv,_,h4,h5,h6,h7,h8⟩⟩:=HK.out
   ·omega
   ·cases hv
    obtain⟨_,d1⟩:=qG hlk
    rw[← h8,List.getElem?_take_of_lt (by omega),Array.getElem?_toList,← jB h4] at d1
    have f1:=jF h4 (k*2+1)
    have t0:(0:Int)≤(t.2:Int):=Int.natCast_nonneg _
    have HS:Hid _:=setP (G t.2) hlk HK.out
    have HB2:Hid (Below W.heap.size W (wr.setCell ⟨g,k*2+1,none⟩ (.int .i64 (G t.2:Nat))).drew):=⟨HB.out.os,HB.out.tape,HB.out.output,by have:=HB.out.size; simpa using this,fun b hb=>(jS _ _ _ _ (show b≠g by have:=HO.out g rfl; omega)).trans (HB.out.block b hb)⟩
    obtain⟨q,hq⟩:∃ q,q=G t.2:=⟨_,rfl⟩
    rw[← hq] at HS HB2 hnx
    clear hh1 h4 h5 h6 h7 h8 ht hlk
    rw[← hq] at cq
    clear hq
    go_wp2_with fail
    go_region
    go_wp2_with fail
    go_roundg (l.length - (k+1))
    case measure=>omega
    case rel=>exact⟨k+1,by go_num,by omega,by omega,by show World.ownsRow _ _ _ _ _ _ _; rw[hnx.out];exact HS.out,HB2⟩
  ·have hkz:¬ ((k:Int)<(l.length:Int)):=by omega
   have HR:Hid (TRow wr (.slice a1 l.length c1) (repl G l)):=by
    have h:=HK.out
    rw[List.take_of_length_le (by omega),List.drop_eq_nil_of_le (by omega),List.append_nil] at h
    show TRow _ _ _
    unfold TRow; rw[repl_len];exact h
   go_wp2_with fail
   go_ret
   exact⟨_,rfl,HR,HB,HO⟩
theorem placedM_calls {W:World}{bp mb:Nat}{v:Value}{G:Nat→Nat}{f:Value→Option Value}(h1:W.heap[bp]? = some (.cells #[.map (some mb)] 122 (0,0)))(hf:MapF Tryz.prog 3 W mb f)(hl:TRow W v l) 
 (hd:∀ t∈l,t.2<2147483648∧f (.int .i64 (t.2:Nat))=some (.int .i64 (G t.2:Nat))) (hlen:l.length≤1000000) :
 Calls Tryz.prog 97 #[v,.pointer (some ⟨bp,0,none⟩)] W fun e W'=>∃ v',e=.returned v'∧Hid (TRow W' v' (repl G l))∧Hid (Below W.heap.size W W')∧Hid (∀ b,v'.ownBlock=some b→W.heap.size≤b):=by
 have HF:=jH hf
 have HD:Hid (∀ t∈l,t.2<2147483648∧f (.int .i64 (t.2:Nat))=some (.int .i64 (G t.2:Nat))):=hd
 clear hf hd
 have HCl:=zX hl (by omega)
 have H1:=jH h1
 clear h1
 go_enter Tryz.func97,Tryz.ntmps97
 go_wp2_with fail
 refine HCl.mono ?_
 rintro y w1 ⟨v1,rfl,hr1,hb1,ho1⟩
 clear HCl
 obtain⟨a1,c1,rfl,_,_⟩:=hr1.out.shape
 have K0:Hid (w1.ownsRow 0 154 2 (.slice a1 l.length c1) l.length (tcells (repl G (l.take 0)++l.drop 0))):=hr1.out
 have HO:Hid (∀ b,(Value.slice a1 l.length c1).ownBlock=some b→W.heap.size≤b):=ho1
 clear hr1 ho1
 go_wp2_with fail
 go_loopg [9] l.length (fun g1 vi wr=>∃ k:Nat,vi=.int .i64 k∧k≤l.length∧l.length - k≤g1∧Hid (wr.ownsRow 0 154 2 (.slice a1 l.length c1) l.length (tcells (repl G (l.take k)++l.drop k)))∧Hid (Below W.heap.size W wr))
 case atStart=>exact⟨0,rfl,by omega,by omega,K0,hb1⟩
 case round =>
  clear K0 hb1
  obtain⟨k,rfl,hkl,hg,HK,HB⟩:=hrel
  by_cases hk:k<l.length
  ·have hkz:(k:Int)<(l.length:Int):=by omega
   have hk0:(0:Int)≤(k:Int):=Int.natCast_nonneg k
   have hkw:IntKind.i64.wrap ((k:Int)+1)=(k:Int)+1:=IntWalk.i64_in _ (by omega)
   obtain⟨t,ht⟩:∃ t,l[k]? = some t:=⟨_,jG hk⟩
   obtain⟨hlk,hnx0⟩:=repl_get (G:=G) ht
   have hnx:Hid (repl G (l.take (k+1))++l.drop (k+1)=(repl G (l.take k)++l.drop k).set k (t.1,G t.2)):=hnx0
   clear hnx0
   have hbl:=jH ((HB.out.block bp (jA H1.out).1).trans H1.out)
   obtain⟨hkb,hkf⟩:=HD.out t (jM ht)
   have hl2:keyOf Tryz.prog 3 (.int .i64 (t.2:Nat))=some (.int .i64 (t.2:Nat)):=keyInt (wfNat (by omega))
   have hlook:(Instr.lookup 122 (.map (some mb)) (.int .i64 (t.2:Nat)) false).run Tryz.prog wr.drew=.ok (.int .i64 (G t.2:Nat)) wr.drew:=by
    have:=((HF.out.kept (HB.out.block _ HF.out.lt)).kept (w':=wr.drew) rfl).look false law3 Tryz.underlying122 (zero3 wr.drew) hl2
    simpa [hkf] using this
   have cb:wr.cell? ⟨bp,0,none⟩=some (.map (some mb)):=by rw[jB hbl.out];rfl
   clear hl2 hkb hkf
   obtain⟨hh1,⟨hh2,hh3⟩ | ⟨g,cap,cur,hv,_,h4,h5,h6,h7,h8⟩⟩:=HK.out
   ·omega
   ·cases hv
    obtain⟨_,d1⟩:=qG hlk
    rw[← h8,List.getElem?_take_of_lt (by omega),Array.getElem?_toList,← jB h4] at d1
    have f1:=jF h4 (k*2+1)
    have t0:(0:Int)≤(t.2:Int):=Int.natCast_nonneg _
    have HS:Hid _:=setP (G t.2) hlk HK.out
    have HB2:Hid (Below W.heap.size W (wr.setCell ⟨g,k*2+1,none⟩ (.int .i64 (G t.2:Nat))).drew):=⟨HB.out.os,HB.out.tape,HB.out.output,by have:=HB.out.size; simpa using this,fun b hb=>(jS _ _ _ _ (show b≠g by have:=HO.out g rfl; omega)).trans (HB.out.block b hb)⟩
    obtain⟨q,hq⟩:∃ q,q=G t.2:=⟨_,rfl⟩
    rw[← hq] at HS HB2 hnx
    clear hh1 h4 h5 h6 h7 h8 ht hlk
    rw[← hq] at hlook
    clear hq
    go_wp2_with fail
    go_region
    go_wp2_with fail
    go_roundg (l.length - (k+1))
    case measure=>omega
    case rel=>exact⟨k+1,by go_num,by omega,by omega,by show World.ownsRow _ _ _ _ _ _ _; rw[hnx.out];exact HS.out,HB2⟩
  ·have hkz:¬ ((k:Int)<(l.length:Int)):=by omega
   have HR:Hid (TRow wr (.slice a1 l.length c1) (repl G l)):=by
    have h:=HK.out
    rw[List.take_of_length_le (by omega),List.drop_eq_nil_of_le (by omega),List.append_nil] at h
    show TRow _ _ _
    unfold TRow; rw[repl_len];exact h
   go_wp2_with fail
   go_ret
   exact⟨_,rfl,HR,HB,HO⟩
end
def giveW (W:World)(p:Nat): World :=
 (((((((W.alloc (.cells #[.pointer (some ⟨p,0,none⟩)] 107)).alloc (.cells #[.pointer none] 26)).alloc (.map #[] 0)).alloc (.cells #[.map (some (W.heap.size+1+1))] 122)).alloc (.cells #[.slice none 0 0] 80)).alloc (.cells #[.bool true] 4)).alloc
   (.cells #[.func (.func 95) #[] #[.pointer (some ⟨W.heap.size+1+1+1,0,none⟩),.pointer (some ⟨W.heap.size+1+1+1+1+1,0,none⟩),.pointer (some ⟨W.heap.size,0,none⟩),.pointer (some ⟨W.heap.size+1+1+1+1,0,none⟩),.pointer (some ⟨W.heap.size+1+1+1+1+1+1,0,none⟩)]] 126))
theorem xG (W:World)(p:Nat): (giveW W p).heap.size=W.heap.size+7:=by unfold giveW; simp
theorem giveW_below (W:World)(p:Nat): Below W.heap.size W (giveW W p):=by
 unfold giveW
 exact (((((((Below.refl _ _).alloc (jR _) _).alloc (by simp) _).alloc (by simp; omega) _).alloc (by simp; omega) _).alloc (by simp; omega) _).alloc (by simp; omega) _).alloc (by simp; omega) _
theorem j7 {w:World}{o:Obj}{n:Nat}(h:w.heap.size=n): (w.alloc o).heap[n]? = some o:=by rw[← h];exact jD w o
theorem giveW_base {C:List Nat}{W:World}{p:Nat}{F:List Nat}{D:WD}{vs:List Int}{gk:List Nat}{m:Nat}(H:WO C W p F D vs gk m):
 GB C (giveW W p) p F D vs gk m (W.heap.size+1+1+1) (W.heap.size+1+1+1+1+1) W.heap.size (W.heap.size+1+1+1+1) (W.heap.size+1+1+1+1+1+1) (W.heap.size+1+1) ∧
 GS (giveW W p) vs (W.heap.size+1+1+1+1+1) (W.heap.size+1+1+1+1) (W.heap.size+1+1) [] (fun _=>0) true (.slice none 0 0) (giveW W p) ∧
 (giveW W p).heap[W.heap.size+1]? = some (.cells #[.pointer none] 26 (0,0)):=by
 have hsz:=xG W p
 have hb:=H.blt
 have hwo:=H.below (giveW_below W p)
 have e0:(giveW W p).heap[W.heap.size]? = some (.cells #[.pointer (some ⟨p,0,none⟩)] 107 (0,0)):=by
  unfold giveW; rw[jE _ _ (by simp <;>omega),jE _ _ (by simp <;>omega),jE _ _ (by simp <;>omega),jE _ _ (by simp <;>omega),jE _ _ (by simp <;>omega),jE _ _ (by simp)];exact j7 rfl
 have e1:(giveW W p).heap[W.heap.size+1]? = some (.cells #[.pointer none] 26 (0,0)):=by
  unfold giveW; rw[jE _ _ (by simp <;>omega),jE _ _ (by simp <;>omega),jE _ _ (by simp <;>omega),jE _ _ (by simp <;>omega),jE _ _ (by simp)];exact j7 (by simp)
 have e2:(giveW W p).heap[W.heap.size+1+1]? = some (.map #[] 0):=by
  unfold giveW; rw[jE _ _ (by simp <;>omega),jE _ _ (by simp <;>omega),jE _ _ (by simp <;>omega),jE _ _ (by simp)];exact j7 (by simp)
 have e3:(giveW W p).heap[W.heap.size+1+1+1]? = some (.cells #[.map (some (W.heap.size+1+1))] 122 (0,0)):=by
  unfold giveW; rw[jE _ _ (by simp <;>omega),jE _ _ (by simp <;>omega),jE _ _ (by simp)];exact j7 (by simp)
 have e4:(giveW W p).heap[W.heap.size+1+1+1+1]? = some (.cells #[.slice none 0 0] 80 (0,0)):=by
  unfold giveW; rw[jE _ _ (by simp <;>omega),jE _ _ (by simp)];exact j7 (by simp)
 have e5:(giveW W p).heap[W.heap.size+1+1+1+1+1]? = some (.cells #[.bool true] 4 (0,0)):=by
  unfold giveW; rw[jE _ _ (by simp)];exact j7 (by simp)
 have e6:(giveW W p).heap[W.heap.size+1+1+1+1+1+1]? = some (.cells #[.func (.func 95) #[] #[.pointer (some ⟨W.heap.size+1+1+1,0,none⟩),.pointer (some ⟨W.heap.size+1+1+1+1+1,0,none⟩),.pointer (some ⟨W.heap.size,0,none⟩),.pointer (some ⟨W.heap.size+1+1+1+1,0,none⟩),.pointer (some ⟨W.heap.size+1+1+1+1+1+1,0,none⟩)]] 126 (0,0)):=by
  unfold giveW; exact j7 (by simp)
 refine⟨⟨hwo,e3,e0,e6,fun h=>?_,fun h=>?_,fun h=>?_,by omega,by omega,by omega,⟨_,e4⟩,⟨_,e5⟩,⟨_,_,e2⟩⟩,⟨HInv.start _ _,Fr.refl _ _,e5,e4,⟨rfl,.inl ⟨rfl,rfl⟩⟩,fun b h=>(by cases h),⟨fun _=>none,⟨#[],0,e2,by simp,by simp,by simp⟩,fun k v=>(by simp)⟩⟩,e1⟩
 ·have:=hb _ h; omega
 ·have:=hb _ h; omega
 ·have:=hb _ h; omega
theorem sorted_places {vs:List Int}(_hv:WV vs){x:Int}{ps ds':List Nat}(hnd:ps.Nodup)(hm:∀ e∈ps,(e:Int)∈vs)(hp:∀ e,e∈ps↔e∈Sr.parts x)(hperm:ds'.Perm (ps.map fun (e:Nat)=>vs.idxOf (e:Int)))(hs:ds'.Pairwise fun i j=>zb vs i≤zb vs j):
 ds'=(Sr.parts x).map fun (e:Nat)=>vs.idxOf (e:Int):=by
 have hmem:∀ i∈ds',∃ e∈ps,i=vs.idxOf (e:Int):=fun i hi=>by
  obtain⟨e,h1,h2⟩:=List.mem_map.1 (hperm.mem_iff.1 hi);exact⟨e,h1,h2.symm⟩
 have hat:∀ i∈ds',vs.idxOf (((zb vs i).toNat:Nat):Int)=i∧(zb vs i).toNat∈ps:=fun i hi=>by
  obtain⟨e,h1,rfl⟩:=hmem i hi
  rw[WV.at_idx (hm e h1)];simp[h1]
 have e1:ds'=(ds'.map fun i=>(zb vs i).toNat).map fun (e:Nat)=>vs.idxOf (e:Int):=by
  rw[List.map_map]
  conv=>lhs; rw[← List.map_id ds']
  exact List.map_congr_left fun i hi=>(hat i hi).1.symm
 have hnd':ds'.Nodup:=hperm.nodup_iff.2 (by
  unfold List.Nodup; rw[List.pairwise_map]
  refine hnd.imp_of_mem fun {a b} ha hb hne he=>hne ?_
  have h1:=jU (hm a ha)
  rw[he,jU (hm b hb)] at h1
  have:(b:Int)=a:=Option.some.inj h1
  omega)
 have e2:(ds'.map fun i=>(zb vs i).toNat)=Sr.parts x:=by
  refine yJ ?_ (qR x) fun e=>?_
  ·rw[List.pairwise_map]
   refine (hs.and hnd').imp_of_mem fun {a b} ha hb hab=>?_
   obtain⟨e,he,rfl⟩:=hmem a ha
   obtain⟨e',he',rfl⟩:=hmem b hb
   rw[WV.at_idx (hm e he),WV.at_idx (hm e' he')] at hab ⊢
   rcases Nat.lt_or_ge e e' with h | h
   ·simpa using h
   ·exfalso
    have:e=e':=by have:=hab.1; omega
    subst this; exact hab.2 rfl
  ·rw[← hp]
   constructor
   ·intro h
    obtain⟨i,hi,rfl⟩:=List.mem_map.1 h
    exact (hat i hi).2
   ·intro h
    refine List.mem_map.2 ⟨vs.idxOf (e:Int),hperm.mem_iff.2 (List.mem_map.2 ⟨e,h,rfl⟩),?_⟩
    rw[WV.at_idx (hm e h)];simp
 rw[e1,e2]
noncomputable def gi (vs:List Int)(x:Int)(i:Nat): Nat:=(Sr.parts x).idxOf (zb vs i).toNat
theorem repl_gi {vs:List Int}{x y:Int}(hy:∀ e∈exps y,(e:Int)∈vs): repl (gi vs x) (pf vs y)=atPl (Sr.parts x) y:=by
 unfold repl pf atPl
 rw[List.map_map]
 refine List.map_congr_left fun t ht=>?_
 simp only[Function.comp,gi]
 rw[WV.at_idx (hy t.2 (mem_exps ht))];simp
structure GL (w4:World)(vs:List Int)(x:Int)(mp b13 k:Nat)(ov:Value)(fl:List Value)(wr:World): Prop where
 fr:Fr [mp,b13] w4 wr
 obj:wr.heap[b13]? = some (.cells #[ov,.slice none 0 0] 158 (0,0))
 orow:wr.ownsRow 0 111 1 ov k fl
 own:∀ b,ov.ownBlock=some b→w4.heap.size≤b
 rows:∀ (i q:Nat),i<k→(Sr.parts x)[i]? = some q→∃ u,fl[i]? = some u∧TRow wr u (atPl (Sr.parts x) (q:Int))
 map:∃ f,MapF Tryz.prog 3 wr mp f∧∀ (i q:Nat),i<k→(Sr.parts x)[i]? = some q→f (.int .i64 (vs.idxOf (q:Int):Nat))=some (.int .i64 (i:Nat))
section
variable {w4 wr:World} {vs:List Int} {x:Int} {mp b13 k:Nat} {ov:Value} {fl:List Value}
theorem GL.keep (S:GL w4 vs x mp b13 k ov fl wr){b:Nat}(hb:b<w4.heap.size)(h1:b≠mp)(h2:b≠b13): wr.heap[b]? = w4.heap[b]?:=S.fr.block b hb (by simp[h1,h2])
theorem GL.places {w':World}{f:Value→Option Value}(hv:WV vs)(hl:vs.length≤2147483648){n:Nat}{y:Int}(hm:∀ e∈Sr.parts x,((e:Nat):Int)∈vs)(hf:∀ (i q:Nat),i<n→(Sr.parts x)[i]? = some q→f (.int .i64 (vs.idxOf (q:Int):Nat))=some (.int .i64 (i:Nat))) 
 (hy:∀ e∈exps y,e∈(Sr.parts x).take n):∀ t∈pf vs y,t.2<2147483648∧f (.int .i64 (t.2:Nat))=some (.int .i64 (gi vs x t.2:Nat)):=by
 have _:=hv
 have _:=w'
 intro t ht
 obtain⟨u,hu,rfl⟩:=List.mem_map.1 ht
 have h1:=hy u.2 (mem_exps hu)
 have h2:u.2∈Sr.parts x:=List.mem_of_mem_take h1
 have h3:=hm u.2 h2
 refine⟨by have:=zR h3; show vs.idxOf _<_; omega,?_⟩
 obtain⟨i,hi⟩:=List.mem_iff_getElem?.1 h1
 have hin:i<n:=by have:=(jL hi).1; rw[List.length_take] at this; omega
 rw[List.getElem?_take_of_lt hin] at hi
 have:=hf i u.2 hin hi
 show f (.int .i64 (vs.idxOf (u.2:Int):Nat))=_
 rw[this]
 unfold gi
 dsimp only
 rw[WV.at_idx h3]
 have h5:(Sr.parts x).idxOf u.2=i:=by
  obtain⟨hlt,he⟩:=jL hi
  rw[← he];exact List.Nodup.idxOf_getElem (qE x) i hlt
 simp[h5]
theorem GL.step (S:GL w4 vs x mp b13 k ov fl wr)(hl:vs.length≤2147483648){q:Nat}(hq:(Sr.parts x)[k]? = some q)(hm:∀ e∈Sr.parts x,((e:Nat):Int)∈vs)(lm:mp<w4.heap.size)(l13:b13<w4.heap.size):
 ∃ W5,(Instr.mapUpdate 122 (.map (some mp)) (.int .i64 (vs.idxOf (q:Int):Nat)) (.int .i64 (k:Nat))).run Tryz.prog wr=.ok () W5∧W5.heap.size=wr.heap.size∧(∀ b,b≠mp→W5.heap[b]? = wr.heap[b]?) ∧
  (∃ f,MapF Tryz.prog 3 W5 mp f∧∀ (i q:Nat),i<k+1→(Sr.parts x)[i]? = some q→f (.int .i64 (vs.idxOf (q:Int):Nat))=some (.int .i64 (i:Nat))) ∧
  ∀ (w6 w7:World) (u:Value) (o:Obj) (g cap:Nat),Below W5.heap.size W5 w6→TRow w6 u (atPl (Sr.parts x) (q:Int))→w7.ownsRow 0 111 1 (.slice (some ⟨g,0,none⟩) (k+1) cap) (k+1) (fl++[u])→(w6.alloc o).grownBy w7 ov.ownBlock→(ov.ownBlock=some g∨g=w6.heap.size+1) →
   w7.cell? ⟨b13,0,none⟩=some ov∧w7.frozen? ⟨b13,0,none⟩=false∧GL w4 vs x mp b13 (k+1) (.slice (some ⟨g,0,none⟩) (k+1) cap) (fl++[u]) (w7.setCell ⟨b13,0,none⟩ (.slice (some ⟨g,0,none⟩) (k+1) cap)):=by
 obtain⟨f,f1,f2⟩:=S.map
 have hqv:=hm q (jM hq)
 have hkey:keyOf Tryz.prog 3 (.int .i64 (vs.idxOf (q:Int):Nat))=some (.int .i64 (vs.idxOf (q:Int):Nat)):=keyInt (wfNat (by have:=zR hqv; omega))
 obtain⟨W5,hrun,M5,s5,G5⟩:=f1.store law3 Tryz.underlying122 (v:=.int .i64 (k:Nat)) hkey
 have hmap5:∀ (i r:Nat),i<k+1→(Sr.parts x)[i]? = some r→updF f (.int .i64 (vs.idxOf (q:Int):Nat)) (.int .i64 (k:Nat)) (.int .i64 (vs.idxOf (r:Int):Nat))=some (.int .i64 (i:Nat)):=by
  intro i r hi hr
  unfold updF
  by_cases hik:i=k
  ·subst hik
   rw[hq] at hr; cases hr
   rw[if_pos rfl]
  ·rw[if_neg]
   ·exact f2 i r (by omega) hr
   ·intro he
    have h5:vs.idxOf (r:Int)=vs.idxOf (q:Int):=by have:=Value.int.inj he; omega
    have h6:=jU (hm r (jM hr))
    rw[h5,jU hqv] at h6
    have h7:(q:Int)=r:=Option.some.inj h6
    have h8:q=r:=by omega
    subst h8
    obtain⟨a1,a2⟩:=jL hr
    obtain⟨b1,b2⟩:=jL hq
    have e1:=List.Nodup.idxOf_getElem (qE x) i a1
    have e2:=List.Nodup.idxOf_getElem (qE x) k b1
    rw[a2] at e1
    rw[b2] at e2
    exact hik (e1.symm.trans e2)
 have k5:∀ b,b≠mp→W5.heap[b]? = wr.heap[b]?:=fun b hb=>by
  rcases Nat.lt_or_ge b wr.heap.size with h | h
  ·exact G5.block b h (by intro e; cases e; exact hb rfl)
  ·rw[Array.getElem?_eq_none (by omega),Array.getElem?_eq_none h]
 refine⟨W5,hrun,s5,k5,⟨_,M5,hmap5⟩,fun w6 w7 u o g cap hb hu hown hg hat=>?_⟩
 have hsz:=S.fr.size
 have n13m:b13≠mp:=qD ⟨_,_,_,S.obj⟩ f1
 have o5:W5.heap[b13]? = some (.cells #[ov,.slice none 0 0] 158 (0,0)):=(k5 _ n13m).trans S.obj
 have hs6:=hb.size
 have nov13:ov.ownBlock≠some b13:=fun e=>by
  obtain⟨c,hc⟩:=jO S.orow e
  exact jI hc S.obj (by decide) rfl
 have novm:ov.ownBlock≠some mp:=fun e=>by
  obtain⟨c,hc⟩:=jO S.orow e
  exact qD ⟨_,_,_,hc⟩ f1 rfl
 have keep7:∀ b,b<W5.heap.size→ov.ownBlock≠some b→w7.heap[b]? = W5.heap[b]?:=fun b h1 h2 =>
  (hg.block b (by simp; omega) (fun e=>h2 e.symm)).trans ((jE _ _ (by omega)).trans (hb.block b h1))
 have h7:w7.heap[b13]? = some (.cells #[ov,.slice none 0 0] 158 (0,0)):=(keep7 _ (by omega) nov13).trans o5
 have keep:∀ b,b<W5.heap.size→ov.ownBlock≠some b→b≠b13→(w7.setCell ⟨b13,0,none⟩ (.slice (some ⟨g,0,none⟩) (k+1) cap)).heap[b]? = W5.heap[b]?:=fun b h1 h2 h3 =>
  (jS _ _ _ _ h3).trans (keep7 b h1 h2)
 have hs7:w6.heap.size+1≤w7.heap.size:=by have:=hg.size; simpa using this
 have rowk:∀ {u:Value} {l:List PT},TRow W5 u l→TRow (w7.setCell ⟨b13,0,none⟩ (.slice (some ⟨g,0,none⟩) (k+1) cap)) u l:=fun {u l} h =>
  jJ h fun b e=>by
   obtain⟨c,hc⟩:=jO h e
   refine keep b (jP h e) ?_ (jI hc o5 (by decide))
   intro e2
   obtain⟨c2,hc2⟩:=jO S.orow e2
   rw[← k5 b (by rintro rfl; exact novm e2)] at hc2
   exact jI hc hc2 (by decide) rfl
 have hfl:fl.length=k:=by have:=S.orow.1; omega
 refine⟨by rw[jB h7];rfl,jF h7 0,⟨?_,?_,?_,?_,?_,?_⟩⟩
 ·refine⟨(show w7.os=w6.os from hg.os).trans (hb.os.trans (G5.os.trans S.fr.os)),(show w7.tape=w6.tape from hg.tape).trans (hb.tape.trans (G5.tape.trans S.fr.tape)),(show w7.output=w6.output from hg.output).trans (hb.output.trans (G5.output.trans S.fr.output)),by simp; omega,fun b h1 h2=>?_⟩
  have h3:b≠mp∧b≠b13:=by simpa using h2
  rw[keep b (by omega) (fun e=>by have:=S.own b e; omega) h3.2,k5 b h3.1]
  exact S.fr.block b h1 h2
 ·exact heap_setCell_same w7 b13 0 _ 158 _ h7
 ·exact jJ hown fun b e=>jS _ _ _ _ (by
   show b≠b13
   intro e5
   obtain⟨c,hc⟩:=jO hown e
   exact jI hc h7 (by decide) e5)
 ·intro b e
  have e':b=g:=by simpa [Value.ownBlock] using e.symm
  subst e'
  rcases hat with h | h
  ·exact S.own b h
  ·omega
 ·intro i r hi hr
  by_cases hik:i<k
  ·obtain⟨u',h1,h2⟩:=S.rows i r hik hr
   refine⟨u',by rw[List.getElem?_append_left (by omega)];exact h1,rowk (jJ h2 fun b e=>k5 b ?_)⟩
   obtain⟨c,hc⟩:=jO h2 e
   exact qD ⟨_,_,_,hc⟩ f1
  ·have hik2:i=k:=by omega
   subst hik2
   rw[hq] at hr; cases hr
   refine⟨u,by rw[List.getElem?_append_right (by omega)];simp[hfl],?_⟩
   refine jJ hu fun b e=>?_
   obtain⟨c,hc⟩:=jO hu e
   have hlt:=jP hu e
   refine (jS _ _ _ _ ?_).trans ((hg.block b (by simp; omega) ?_).trans (jE _ _ hlt))
   ·show b≠b13
    have:w6.heap[b13]? = some (.cells #[ov,.slice none 0 0] 158 (0,0)):=(hb.block _ (by omega)).trans o5
    exact jI hc this (by decide)
   ·intro e2
    obtain⟨c2,hc2⟩:=jO S.orow e2.symm
    have h3:W5.heap[b]? = some (.cells c2 111 (0,0)):=(k5 b (by rintro rfl; exact novm e2.symm)).trans hc2
    have h4:=(hb.block b (by have:=jP S.orow e2.symm; omega)).trans h3
    exact jI hc h4 (by decide) rfl
 ·exact⟨_,M5.kept (keep mp (by omega) novm n13m.symm),hmap5⟩
end
section
def NR (w:World)(x:Int)(nv:Value)(er:Int): Prop:=(allowed x∧er=0∧IsN w nv x)∨(¬ allowed x∧er=5∧nv=.agg #[.pointer none])
def GiveQ (F:List Nat)(W:World)(x:Int)(e:Ending)(W':World): Prop :=
 ∃ (q:Option Addr) (er:Int),e=.returned (.tuple #[.agg #[.pointer q],.int .i64 er])∧Hid (Fr F W W')∧Hid (NR W' x (.agg #[.pointer q]) er)
variable {x:Int}
theorem form_nil (h:form x=[]): x=0:=by have:=jc x; rw[h] at this; exact this.symm
theorem Fr.setNew {F:List Nat}{W w:World}(h:Fr F W w){a:Addr}(ha:W.heap.size≤a.block)(v:Value): Fr F W (w.setCell a v) :=
 ⟨h.os,h.tape,h.output,by have:=h.size; simpa using this,fun b hb hn=>(jS _ _ _ _ (by intro e; omega)).trans (h.block b hb hn)⟩
def giveX (w3:World): World:=((w3.alloc (.map #[] 0)).alloc (.cells #[.map (some w3.heap.size)] 122)).alloc (.cells #[.slice none 0 0,.slice none 0 0] 158)
theorem giveX_size (w3:World): (giveX w3).heap.size=w3.heap.size+3:=by simp[giveX]
theorem giveX_below (w3:World): Below w3.heap.size w3 (giveX w3):=(((Below.refl _ _).alloc (jR _) _).alloc (by simp) _).alloc (by simp; omega) _
theorem giveX_old (w3:World){b:Nat}(h:b<w3.heap.size): (giveX w3).heap[b]? = w3.heap[b]?:=(giveX_below w3).block b h
theorem giveX_box (w3:World): (giveX w3).heap[w3.heap.size+1]? = some (.cells #[.map (some w3.heap.size)] 122 (0,0)):=by
 unfold giveX; rw[jE _ _ (by simp)];exact j7 (by simp)
theorem giveX_start (w3:World)(vs:List Int)(x:Int): GL (giveX w3) vs x w3.heap.size (w3.heap.size+1+1) 0 (.slice none 0 0) [] (giveX w3):=by
 refine⟨Fr.refl _ _,?_,⟨rfl,.inl ⟨rfl,rfl⟩⟩,fun b h=>(by cases h),fun i q h=>(by omega),⟨fun _=>none,⟨#[],0,?_,by simp,by simp,fun k v=>(by simp)⟩,fun i q h=>(by omega)⟩⟩
 ·unfold giveX; exact j7 (by simp)
 ·unfold giveX; rw[jE _ _ (by simp; omega),jE _ _ (by simp)];exact j7 rfl
theorem give_end {w:World}{b b4:Nat}{ov sv:Value}{fl:List Value}{u:Value}(h1:w.heap[b]? = some (.cells #[ov,.slice none 0 0] 158 (0,0)))(h4:w.heap[b4]? = some (.cells #[.pointer none] 26 (0,0)))(hs:TRow w sv (atPl (Sr.parts x) x))(ho:w.ownsRow 0 111 1 ov (Sr.parts x).length fl) 
 (hr:∀ (i q:Nat),(Sr.parts x)[i]? = some q→∃ u,fl[i]? = some u∧TRow w u (atPl (Sr.parts x) (q:Int))):NB ((w.setCell ⟨b,1,none⟩ sv).setCell ⟨b4,0,none⟩ u) b ov sv fl x:=by
 have ne:b≠b4:=jI h1 h4 (by decide)
 have keep:∀ {g:Nat} {c:Array Value} {T:TypeId},w.heap[g]? = some (.cells c T (0,0))→T≠158→T≠26→((w.setCell ⟨b,1,none⟩ sv).setCell ⟨b4,0,none⟩ u).heap[g]? = w.heap[g]?:=fun {g c T} hg n1 n2 =>
  (jS _ _ _ _ (by show g≠b4; exact jI hg h4 n2)).trans (jS _ _ _ _ (by show g≠b; exact jI hg h1 n1))
 have trow:∀ {v:Value} {l:List PT},TRow w v l→TRow ((w.setCell ⟨b,1,none⟩ sv).setCell ⟨b4,0,none⟩ u) v l:=fun {v l} h=>jJ h fun g e=>by
  obtain⟨c,hc⟩:=jO h e
  exact keep hc (by decide) (by decide)
 refine⟨?_,?_,fun i q hq=>?_,trow hs⟩
 ·rw[jS _ _ _ _ (by show b≠b4; exact ne)]
  exact heap_setCell_same w b 1 _ 158 sv h1
 ·exact jJ ho fun g e=>by
   obtain⟨c,hc⟩:=jO ho e
   exact keep hc (by decide) (by decide)
 ·obtain⟨u',k1,k2⟩:=hr i q hq
  exact⟨u',k1,trow k2⟩
theorem xH {C:List Nat}{W:World}{p:Nat}{F:List Nat}{D:WD}{vs:List Int}{gk:List Nat}{m:Nat}(H:Hid (WO C W p F D vs gk m)){v:Value}(hst:∀ W',WO C W' p F D vs gk m→Fr F W W'→TRow W' v (pf vs x))(hx:∀ e∈exps x,(e:Int)∈vs):
 Calls Tryz.prog 53 #[.pointer (some ⟨p,0,none⟩),v] W (GiveQ F W x):=by
 have hl:=hst W H.out (Fr.refl _ _)
 have HST:Hid (∀ W',WO C W' p F D vs gk m→Fr F W W'→TRow W' v (pf vs x)):=hst
 clear hst
 have HL:=jH hl
 have HX:Hid (∀ e∈exps x,(e:Int)∈vs):=hx
 obtain⟨la,lc,rfl,hlm,_⟩:=hl.shape
 obtain⟨N,hN⟩:∃ N,N=(pf vs x).length:=⟨_,rfl⟩
 have HN:Hid (N=(form x).length):=by show _=_; rw[hN];simp[pf]
 rw[← hN] at HL HST hlm ⊢
 clear hl hx hN
 by_cases h0:N=0
 ·have h0z:((N:Int)==0)=true:=by simp[h0]
  have hx0:x=0:=form_nil (List.length_eq_zero_iff.1 (by rw[← HN.out];exact h0))
  have HX0:=jH hx0
  clear hx0
  go_enter Tryz.func53,Tryz.ntmps53
  go_wp2_with fail
  refine bodyPost_ret (v:=.tuple #[.agg #[.pointer none],.int .i64 0]) (by simp[results,Tryz.results53,go_sem]) rfl ?_
  refine⟨none,0,rfl,Fr.of_below (((Below.refl _ _).alloc (jR _) _).alloc (by simp) _),.inl ⟨?_,rfl,?_⟩⟩
  ·rw[HX0.out];exact jX
  ·rw[HX0.out];exact⟨jX,.inl ⟨rfl,rfl⟩⟩
 ·have h0z:((N:Int)==0)=false:=by simpa using h0
  by_cases h3:N≤300
  ·have h3z:¬ ((300:Int)<(N:Int)):=by omega
   have hmm:=@run_makeMap Tryz.prog
   go_enter Tryz.func53,Tryz.ntmps53
   obtain⟨GBB,GSS,e4⟩:=giveW_base H.out
   have B:=jH GBB
   have S0:=jH GSS
   have E4:=jH e4
   have HL1:Hid (TRow (giveW W p) (.slice la N lc) (pf vs x)):=jK HL.out (giveW_below W p)
   clear GBB GSS e4
   go_wp2_with fail
   clear hmm
   refine (walk_calls B x.natAbs x (jR _) HX.out _ _ _ _ _ _ HL1.out S0).mono ?_
   rintro y w2 ⟨ps,hh,ok,plv,r,rfl,HS,HW,HFE⟩
   clear S0
   have c8:w2.cell? ⟨W.heap.size+1+1+1+1+1,0,none⟩=some (.bool ok):=by rw[jB HS.out.bo];rfl
   have c7:w2.cell? ⟨W.heap.size+1+1+1+1,0,none⟩=some plv:=by rw[jB HS.out.bp];rfl
   have HC2:=jH (B.out.keep HS.out.fr B.out.bw (by decide) (by decide))
   have HC4:=jH (B.out.keep HS.out.fr E4.out (by decide) (by decide))
   have c4:w2.cell? ⟨W.heap.size+1,0,none⟩=some (.pointer none):=by rw[jB HC4.out];rfl
   have f4:w2.frozen? ⟨W.heap.size+1,0,none⟩=false:=jF HC4.out 0
   have c2:w2.cell? ⟨W.heap.size,0,none⟩=some (.pointer (some ⟨p,0,none⟩)):=by rw[jB HC2.out];rfl
   obtain⟨pa,pc,hplv⟩:∃ pa pc,plv=.slice pa ps.length pc:=by
    obtain⟨_,⟨q1,q2⟩ | ⟨g,cap,cur,q1,_⟩⟩:=HS.out.row
    ·rw[List.length_map] at q2; exact⟨none,0,by rw[q1,q2]⟩
    ·rw[List.length_map] at q1; exact⟨_,cap,q1⟩
   subst hplv
   have HVL:vs.length≤2147483648:=H.out.vlen
   have HPB:ps.length≤2147483648:=by
    have:=jT (ps.map fun (e:Nat)=>(e:Int).toNat) (vs.map Int.toNat) (by simpa using HS.out.inv.nodup) (fun y hy=>by
     obtain⟨e',q1,rfl⟩:=List.mem_map.1 hy
     exact List.mem_map.2 ⟨_,HS.out.inv.mem e' q1,rfl⟩)
    simp at this; omega
   have hpw:IntKind.i64.wrap ((ps.length:Int)+1)=(ps.length:Int)+1:=IntWalk.i64_in _ (by omega)
   have HFr:Hid (Fr F W w2):=by
    have h1:=giveW_below W p
    have h2:=HS.out.fr
    refine⟨h2.os.trans h1.os,h2.tape.trans h1.tape,h2.output.trans h1.output,Nat.le_trans h1.size h2.size,fun b hb _=>?_⟩
    rw[h2.block b (by rw[xG];omega) (by simp; omega)]
    exact h1.block b hb
   have HAl:Hid (allowed x↔ok=true∧ps.length+1≤2000∧r≤100):=HW.out.allowed (by rw[← HN.out];exact h3) HS.out.inv
   have HWk:=jH HW.out
   clear HFE HW
   cases ok
   ·have hna:¬ allowed x:=fun h=>by have:=(HAl.out.1 h).1; cases this
    have Hna:=jH hna
    clear hna
    go_wp2_with fail
    refine bodyPost_ret (v:=.tuple #[.agg #[.pointer none],.int .i64 5]) (by simp[results,Tryz.results53,go_sem,c4]) rfl ?_
    exact⟨none,5,rfl,HFr.out.setNew (by simp) _,.inr ⟨Hna.out,rfl,rfl⟩⟩
   ·by_cases h5:ps.length+1≤2000
    ·have h5z:¬ ((2000:Int)<(ps.length:Int)+1):=by omega
     by_cases h6:r≤100
     ·have h6z:¬ ((100:Int)<(r:Int)):=by omega
      have HYes:=jH (HAl.out.2 ⟨rfl,h5,h6⟩)
      have HPs:Hid (∀ e,e∈ps↔e∈Sr.parts x):=HWk.out.parts HS.out.inv rfl
      have HOwn:Hid (∀ b,(Value.slice pa ps.length pc).ownBlock=some b→W.heap.size+7≤b):=fun b e=>by have:=HS.out.own b e; rw[xG] at this; exact this
      have HNF:Hid (∀ b,W.heap.size≤b→b∉F):=fun b hb h=>by have:=H.out.blt b h; omega
      have HSz:Hid (W.heap.size+7≤w2.heap.size):=by have:=HS.out.fr.size; rw[xG] at this; exact this
      have HSort:=sortAny (B.out.wo' HS.out.fr) HS.out.row (fun b e=>HNF.out b (by have:=HOwn.out b e; omega)) (fun i hi=>by
       obtain⟨e,he,rfl⟩:=List.mem_map.1 hi
       exact⟨_,jU (HS.out.inv.mem e he)⟩) (by rw[List.length_map];omega)
      have HC7:=jH HS.out.bp
      go_wp2_with fail
      refine HSort.mono ?_
      rintro y w3 ⟨rfl,ds',hperm,hsrt,HWO3,HR3,HFr3⟩
      clear HSort c8 c7 c4 f4 c2
      have hds:=sorted_places HWO3.out.wv HS.out.inv.nodup HS.out.inv.mem HPs.out hperm.out hsrt.out
      have hmem:∀ e∈Sr.parts x,((e:Nat):Int)∈vs:=fun e he=>HS.out.inv.mem e ((HPs.out e).2 he)
      have HMem:Hid (∀ e∈Sr.parts x,((e:Nat):Int)∈vs):=hmem
      have hlen:ps.length=(Sr.parts x).length:=yQ HS.out.inv.nodup (qE x) HPs.out
      have HLen:Hid (ps.length=(Sr.parts x).length):=hlen
      rw[hds] at HR3
      have HK3:Hid (∀ b,W.heap.size≤b→b<W.heap.size+7→w3.heap[b]? = w2.heap[b]?):=fun b h1 h2=>HFr3.out.block b (by have:=HSz.out; omega) (by
       intro hm
       rcases List.mem_append.1 hm with hm | hm
       ·have:=HOwn.out b (by simpa using hm);omega
       ·exact HNF.out b h1 hm)
      have HFW3:Hid (Fr F W w3):=⟨HFr3.out.os.trans HFr.out.os,HFr3.out.tape.trans HFr.out.tape,HFr3.out.output.trans HFr.out.output,Nat.le_trans HFr.out.size HFr3.out.size,fun b hb hn=>by
       rw[HFr3.out.block b (by have:=HFr.out.size; omega) (by
        intro hm
        rcases List.mem_append.1 hm with hm | hm
        ·have:=HOwn.out b (by simpa using hm);omega
        ·exact hn hm)]
       exact HFr.out.block b hb hn⟩
      have HV3:=jH (HST.out w3 HWO3.out HFW3.out)
      have X2:=jH ((HK3.out W.heap.size (by omega) (by omega)).trans HC2.out)
      have X4:=jH ((HK3.out (W.heap.size+1) (by omega) (by omega)).trans HC4.out)
      have X7:=jH ((HK3.out (W.heap.size+1+1+1+1) (by omega) (by omega)).trans HC7.out)
      have HSz3:Hid (W.heap.size+7≤w3.heap.size):=by have:=HSz.out; have:=HFr3.out.size; show _≤_; omega
      have c7:(((w3.alloc (.map #[] 0)).alloc (.cells #[.map (some w3.heap.size)] 122)).alloc (.cells #[.slice none 0 0,.slice none 0 0] 158)).cell? ⟨W.heap.size+1+1+1+1,0,none⟩=some (.slice pa ps.length pc):=by
       have:=HSz3.out
       show (giveX w3).cell? _=_
       rw[jB ((giveX_old w3 (by omega)).trans X7.out)];rfl
      clear hperm hsrt hds hmem hlen HFr3 HK3 HC7 HC2 HC4 HFr HS
      have hmm:=@run_makeMap Tryz.prog
      go_wp2_with fail
      clear hmm
      have S0:=jH (giveX_start w3 vs x)
      obtain⟨w4,hw4⟩:∃ w4,w4=giveX w3:=⟨_,rfl⟩
      have HW4:Hid (w4=giveX w3):=hw4
      rw[show (((w3.alloc (.map #[] 0)).alloc (.cells #[.map (some w3.heap.size)] 122)).alloc (.cells #[.slice none 0 0,.slice none 0 0] 158))=w4 from hw4.symm]
      rw[← hw4] at S0
      have hz4:w3.heap.size+3=w4.heap.size:=by rw[hw4,giveX_size]
      have HB4:Hid (Below w3.heap.size w3 w4):=by show Below _ _ _; rw[hw4];exact giveX_below w3
      have X11:Hid (w4.heap[w3.heap.size+1]? = some (.cells #[.map (some w3.heap.size)] 122 (0,0))):=by show _=_; rw[hw4];exact giveX_box w3
      clear c7 hw4
      obtain⟨n,hn⟩:∃ n,n=ps.length:=⟨_,rfl⟩
      have HNp:Hid (n=(Sr.parts x).length):=hn.trans HLen.out
      have hnb:n≤1999:=by omega
      have HR3':Hid (IRow w3 (.slice pa n pc) ((Sr.parts x).map fun (e:Nat)=>vs.idxOf (e:Int))):=by rw[hn];exact HR3.out
      rw[← hn]
      clear hn HR3 h5 h5z hpw HPB HAl
      go_loopg [52] n (fun g1 vi wr=>∃ (k:Nat) (ov:Value) (fl:List Value),vi=.int .i64 k∧k≤n∧n - k≤g1∧Hid (GL w4 vs x w3.heap.size (w3.heap.size+1+1) k ov fl wr))
      case atStart=>exact⟨0,_,[],rfl,by omega,by omega,S0⟩
      case round =>
       clear S0
       obtain⟨k,ov,fl,rfl,hkl,hg,HS⟩:=hrel
       by_cases hk:k<n
       ·have hkz:(k:Int)<(n:Int):=by omega
        have hk0:(0:Int)≤(k:Int):=Int.natCast_nonneg k
        have hkw:IntKind.i64.wrap ((k:Int)+1)=(k:Int)+1:=IntWalk.i64_in _ (by omega)
        have hsz4:=HS.out.fr.size
        have h73:=HSz3.out
        obtain⟨q,hq⟩:∃ q,(Sr.parts x)[k]? = some q:=⟨_,jG (by rw[← HNp.out];exact hk)⟩
        have hqm:=jM hq
        have hqv:=HMem.out q hqm
        obtain⟨W5,hrun,s5,k5,hmap5,hfin⟩:=HS.out.step HVL hq HMem.out (by omega) (by omega)
        have keep5:∀ b,b<w3.heap.size→W5.heap[b]? = w3.heap[b]?:=fun b hb=>(k5 b (by omega)).trans ((HS.out.keep (by omega) (by omega) (by omega)).trans (HB4.out.block b hb))
        have hir:IRow wr (.slice pa n pc) ((Sr.parts x).map fun (e:Nat)=>vs.idxOf (e:Int)):=jJ HR3'.out fun b e=>by
         have:=jP HR3'.out e
         exact (HS.out.keep (by omega) (by omega) (by omega)).trans (HB4.out.block b this)
        obtain⟨gp,cp,heq,cq⟩:=qS (k:=k) (x:=.int .i64 (vs.idxOf (q:Int):Nat)) hir (by rw[List.map_map,List.getElem?_map,hq];rfl)
        obtain⟨e1,e2,e3⟩:=Value.slice.inj heq
        subst e1
        clear e2 e3 heq hir
        have WO5:=HWO3.out.kept (W':=W5) (fun b hb=>keep5 b (HWO3.out.blt b hb))
        have box11:W5.drew.heap[w3.heap.size+1]? = some (.cells #[.map (some w3.heap.size)] 122 (0,0)):=(k5 _ (by omega)).trans ((HS.out.keep (by omega) (by omega) (by omega)).trans X11.out)
        have c11:wr.cell? ⟨w3.heap.size+1,0,none⟩=some (.map (some w3.heap.size)):=by rw[jB ((HS.out.keep (by omega) (by omega) (by omega)).trans X11.out)];rfl
        have o13:W5.heap[w3.heap.size+1+1]? = some (.cells #[ov,.slice none 0 0] 158 (0,0)):=(k5 _ (by omega)).trans HS.out.obj
        have HO13:=jH o13
        have c13:W5.cell? ⟨w3.heap.size+1+1,0,none⟩=some ov:=by rw[jB o13];rfl
        have c2:W5.cell? ⟨W.heap.size,0,none⟩=some (.pointer (some ⟨p,0,none⟩)):=by rw[jB ((keep5 _ (by omega)).trans X2.out)];rfl
        obtain⟨gf,cf,hfv,hgF,hrow⟩:=WO5.formAt
        have hga:=jU hqv
        have hal:=zR hqv
        obtain⟨a,ha⟩:∃ a,a=vs.idxOf (q:Int):=⟨_,rfl⟩
        rw[← ha] at hga hal cq hrun
        have HA:Hid (a=vs.idxOf (q:Int)):=ha
        obtain⟨rv,_,crv,rrv,_⟩:=hrow a q hga
        have cp0:=WO5.c0
        rw[hfv] at cp0
        have a0:(0:Int)≤(a:Int):=by omega
        have az:(a:Int)<(vs.length:Int):=by omega
        obtain⟨f5,M5,hf5⟩:=hmap5
        have HP:=placedM_calls (W:=W5.drew) (bp:=w3.heap.size+1) (mb:=w3.heap.size) (v:=rv) (l:=pf vs (q:Int)) (G:=gi vs x) box11 (M5.kept rfl) rrv (GL.places (w':=W5) HWO3.out.wv HVL HMem.out hf5 (fun e he=>by
         have:=xF hq e he
         rw[j8 hq];exact List.mem_append.2 (.inl this))) (by have:=HYes.out.2.1 q hqm; simp[pf];omega)
        rw[repl_gi (fun e he=>HMem.out e (mem_parts.2 (.step (mem_parts.1 hqm) he)))] at HP
        have HFin:=jH hfin
        have HOv:Hid (W5.ownsRow 0 111 1 ov k fl):=jJ HS.out.orow fun b e=>k5 b (by
         obtain⟨f0,m0,_⟩:=HS.out.map
         obtain⟨c,hc⟩:=jO HS.out.orow e
         exact qD ⟨_,_,_,hc⟩ m0)
        have l13:w3.heap.size+1+1<W5.heap.size:=by omega
        have hkb:k+1≤1099511627776:=by omega
        clear hq hqm hqv keep5 k5 hfin WO5 box11 o13 hrow hga hal ha rrv M5 hf5 hfv hgF
        go_wp2_with fail
        go_region_law (first
         | (refine step_F1 rfl (.tmp 64) (.tmp 74) rfl ov k fl rfl (World.ownsRow.alloc HOv6.out _) _ (.slice ua nq uc) rfl rfl (jD _ _) hkb _ rfl ?_; intro g cap w7 I7 G7 A7 L7
            obtain⟨c7,f7,hgl⟩:=HFin.out w6 w7 _ _ g cap HB6.out HU6.out I7 G7 (by simpa using A7)
            have HGL:=jH hgl
            clear I7 G7 A7 L7 hgl)
         | (go_simp; go_at_call 97; refine HP.mono ?_; rintro y w6 ⟨u0,rfl,hu6,hb6,ho6⟩
            obtain⟨ua,uc,rfl,_,_⟩:=hu6.out.shape
            have HU6:=jH hu6.out
            obtain⟨nq,hnq⟩:∃ nq,nq=(atPl (Sr.parts x) (q:Int)).length:=⟨_,rfl⟩
            rw[← hnq] at HU6
            rw[← hnq]
            have HB6:Hid (Below W5.heap.size W5 w6):=⟨hb6.out.os,hb6.out.tape,hb6.out.output,hb6.out.size,hb6.out.block⟩
            have HOv6:Hid (w6.ownsRow 0 111 1 ov k fl):=jK HOv.out HB6.out
            have c13w:w6.cell? ⟨w3.heap.size+1+1,0,none⟩=some ov:=by rw[jB ((HB6.out.block _ l13).trans HO13.out)];rfl
            have c13a:∀ o,(w6.alloc o).cell? ⟨w3.heap.size+1+1,0,none⟩=some ov:=fun o=>by rw[jB ((jE _ _ (by have:=HB6.out.size; omega)).trans ((HB6.out.block _ l13).trans HO13.out))];rfl
            clear hu6 hb6 ho6 hnq))
        all_goals
         clear HU6 HB6 HOv6 c13w c13a HFin HOv HO13 HP c13 c2 c11 cp0 crv c7 f7
         go_wp2_with fail
         go_roundg (n - (k+1))
         case measure=>omega
         case rel=>exact⟨k+1,_,_,by go_num,by omega,by omega,HGL⟩
       ·have hkz:¬ ((k:Int)<(n:Int)):=by omega
        have hsz4:=HS.out.fr.size
        have h73:=HSz3.out
        have hkn:k=(Sr.parts x).length:=by have:=HNp.out; omega
        have keepr:∀ b,b<w3.heap.size→wr.heap[b]? = w3.heap[b]?:=fun b hb=>(HS.out.keep (by omega) (by omega) (by omega)).trans (HB4.out.block b hb)
        obtain⟨fr,Mr,hfr⟩:=HS.out.map
        have box11:wr.heap[w3.heap.size+1]? = some (.cells #[.map (some w3.heap.size)] 122 (0,0)):=(HS.out.keep (by omega) (by omega) (by omega)).trans X11.out
        have hv:TRow wr (.slice la N lc) (pf vs x):=jJ HV3.out fun b e=>keepr b (jP HV3.out e)
        have HP:=placedM_calls (W:=wr) (bp:=w3.heap.size+1) (mb:=w3.heap.size) (v:=.slice la N lc) (l:=pf vs x) (G:=gi vs x) box11 Mr hv (GL.places (w':=wr) HWO3.out.wv HVL HMem.out hfr (fun e he=>by
         rw[hkn,List.take_length];exact mem_parts.2 (.here he))) (by have:=HYes.out.1; simp[pf];omega)
        rw[repl_gi (fun e he=>HMem.out e (mem_parts.2 (.here he)))] at HP
        have X4r:=jH ((keepr (W.heap.size+1) (by omega)).trans X4.out)
        have l13:w3.heap.size+1+1<wr.heap.size:=by omega
        have hkn':=jH hkn
        clear keepr Mr hfr box11 hv hkn
        go_wp2_with fail
        refine HP.mono ?_
        rintro y w8 ⟨u0,rfl,hu8,hb8,ho8⟩
        obtain⟨ua,uc,rfl,_,_⟩:=hu8.out.shape
        have HO8:=jH ((hb8.out.block _ l13).trans HS.out.obj)
        have HX8:=jH ((hb8.out.block _ (by omega)).trans X4r.out)
        have c13:w8.cell? ⟨w3.heap.size+1+1,1,none⟩=some (.slice none 0 0):=by rw[jB HO8.out];rfl
        have f13:w8.frozen? ⟨w3.heap.size+1+1,1,none⟩=false:=jF HO8.out 1
        have c4:w8.cell? ⟨W.heap.size+1,0,none⟩=some (.pointer none):=by rw[jB HX8.out];rfl
        have f4:w8.frozen? ⟨W.heap.size+1,0,none⟩=false:=jF HX8.out 0
        have n413:W.heap.size+1≠w3.heap.size+1+1:=by omega
        clear HP
        go_wp2_with fail
        refine bodyPost_ret (v:=.tuple #[.agg #[.pointer (some ⟨w3.heap.size+1+1,0,none⟩)],.int .i64 0]) (by simp[results,Tryz.results53,go_sem,c4]) rfl ?_
        have hb8':=hb8.out
        have hs8:=hb8'.size
        refine⟨some ⟨w3.heap.size+1+1,0,none⟩,0,rfl,?_,.inl ⟨HYes.out,rfl,HYes.out,.inr ⟨fun h=>?_,w3.heap.size+1+1,ov,.slice ua (atPl (Sr.parts x) x).length uc,fl,rfl,?_⟩⟩⟩
        ·have h1:Fr F W w8:=by
          have f0:=HFW3.out
          have f1:=HB4.out
          have f2:=HS.out.fr
          have s0:=f0.size
          refine⟨hb8'.os.trans (f2.os.trans (f1.os.trans f0.os)),hb8'.tape.trans (f2.tape.trans (f1.tape.trans f0.tape)),hb8'.output.trans (f2.output.trans (f1.output.trans f0.output)),by omega,fun b hb hn=>?_⟩
          rw[hb8'.block b (by omega),f2.block b (by omega) (by simp; omega),f1.block b (by omega)]
          exact f0.block b hb hn
         exact (h1.setNew (by show W.heap.size≤w3.heap.size+1+1; omega) _).setNew (by show W.heap.size≤W.heap.size+1; omega) _
        ·have:=HN.out
         rw[h,j5] at this
         exact h0 this
        ·refine give_end HO8.out HX8.out hu8.out (by rw[← hkn'.out];exact jK HS.out.orow hb8') (fun i q hq=>?_)
         obtain⟨u,h1,h2⟩:=HS.out.rows i q (by rw[hkn'.out];exact (jL hq).1) hq
         exact⟨u,h1,jK h2 hb8'⟩
     ·have h6z:(100:Int)<(r:Int):=by omega
      have hna:¬ allowed x:=fun h=>h6 (HAl.out.1 h).2.2
      have Hna:=jH hna
      clear hna
      go_wp2_with fail
      refine bodyPost_ret (v:=.tuple #[.agg #[.pointer none],.int .i64 5]) (by simp[results,Tryz.results53,go_sem,c4]) rfl ?_
      exact⟨none,5,rfl,HFr.out.setNew (by simp) _,.inr ⟨Hna.out,rfl,rfl⟩⟩
    ·have h5z:(2000:Int)<(ps.length:Int)+1:=by omega
     have hna:¬ allowed x:=fun h=>h5 (HAl.out.1 h).2.1
     have Hna:=jH hna
     clear hna
     go_wp2_with fail
     refine bodyPost_ret (v:=.tuple #[.agg #[.pointer none],.int .i64 5]) (by simp[results,Tryz.results53,go_sem,c4]) rfl ?_
     exact⟨none,5,rfl,HFr.out.setNew (by simp) _,.inr ⟨Hna.out,rfl,rfl⟩⟩
  ·have h3z:(300:Int)<(N:Int):=by omega
   go_enter Tryz.func53,Tryz.ntmps53
   go_wp2_with fail
   refine bodyPost_ret (v:=.tuple #[.agg #[.pointer none],.int .i64 5]) (by simp[results,Tryz.results53,go_sem]) rfl ?_
   refine⟨none,5,rfl,Fr.of_below (((Below.refl _ _).alloc (jR _) _).alloc (by simp) _),.inr ⟨fun ha=>?_,rfl,rfl⟩⟩
   have:=ha.1; have:=HN.out; omega
end
end Sr

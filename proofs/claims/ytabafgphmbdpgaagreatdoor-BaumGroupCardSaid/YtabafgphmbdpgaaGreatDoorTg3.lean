/- Texts of this claim, joined: RPlc, Elt, MlB. -/
import Derived.Test.YtabafgphmbdpgaaGreatDoorTg1
import Derived.Test.YtabafgphmbdpgaaGreatDoorTg2
import Derived.Test.YtabafgphmbdpgaaGreatDoorTe1
import Derived.Test.YtabafgphmbdpgaaGreatDoorTe37
import Derived.Test.YtabafgphmbdpgaaGreatDoorTe21
import Derived.Test.YtabafgphmbdpgaaGreatDoorTe36
import Derived.Test.YtabafgphmbdpgaaGreatDoorTe23
import Derived.Test.YtabafgphmbdpgaaGreatDoorTe28
set_option maxHeartbeats 8000000
set_option maxRecDepth 100000
namespace Sr
open Go Go.Proofs Go.RowKit Go.Maps Go.WideMaps
section
theorem count_calls:∀ (n d:Nat) {W:World} {v:Value} {l:List Raw},RIn W n v l→d≤31→Calls Tryz.prog 119 #[v,.int .i64 150,.int .i64 (d:Nat)] W fun e W'=>e=.returned (.int .i64 (cnt n d l:Nat))∧W'=W
 | 0,_,_,_,_,h,_=>h.elim
 | n+1,d,W,v,l,h,hd=>by
   have HH:=jH h
   obtain⟨va,vc,rfl⟩:=h.shape
   obtain⟨ln,hln⟩:∃ n,n=l.length:=⟨_,rfl⟩
   rw[← hln] at HH ⊢
   have Hln:=jH hln
   have hlb:ln≤140737488355328:=by rw[hln];exact h.len
   have HI:Hid (∀ (W:World) (v:Value) (l:List Raw),RIn W n v l→d+1≤31→Calls Tryz.prog 119 #[v,.int .i64 150,.int .i64 ((d+1:Nat):Int)] W fun e W'=>e=.returned (.int .i64 (cnt n (d+1) l:Nat))∧W'=W):=fun W v l h hd=>count_calls n (d+1) h hd
   have d0:(0:Int)≤(d:Int):=by omega
   have d1:IntKind.i64.wrap ((d:Int)+1)=((d+1:Nat):Int):=by rw[IntKind.wrap_i64];omega
   clear h hln
   by_cases hd30:30<d
   ·have q1:decide ((30:Int)<(d:Int))=true:=by rw[decide_eq_true_eq];omega
    have hc:cnt (n+1) d l=151:=by unfold cnt; rw[if_pos hd30]
    rw[hc]
    go_enter Tryz.func119,Tryz.ntmps119
    go_wp2_with fail
    go_ret
    exact⟨by first | rfl | simp,rfl⟩
   ·have q1:decide ((30:Int)<(d:Int))=false:=by rw[decide_eq_false_iff_not];omega
    obtain⟨R,hR⟩:∃ R,R=cnt (n+1) d l:=⟨_,rfl⟩
    have HR:Hid (R=cntS (cnt n (d+1)) l ln):=by show _=_; rw[hR];unfold cnt; rw[if_neg hd30,Hln.out]
    rw[← hR]
    clear hR
    go_enter Tryz.func119,Tryz.ntmps119
    go_wp2_with fail
    go_loopg [7,8] ln (fun g1 v7 v8 wr=>∃ i k:Nat,v7=.int .i64 (k:Nat)∧v8=.int .i64 (i:Nat)∧i≤ln∧ln - i≤g1∧k≤300000000000000∧Hid (cntS (cnt n (d+1)) (l.drop i) k=R)∧wr=W)
    case atStart=>exact⟨0,ln,rfl,rfl,Nat.zero_le _,jR _,by omega,by show _=_; rw[List.drop_zero,HR.out],rfl⟩
    case round =>
     obtain⟨i,k,rfl,rfl,hin,hg,hkb,HC,rfl⟩:=hrel
     obtain⟨W,rfl⟩:∃ w,w=wr:=⟨_,rfl⟩
     have i0:(0:Int)≤(i:Int):=by omega
     by_cases hi:i<ln
     ·have q2:decide ((i:Int)<(ln:Int))=true:=by rw[decide_eq_true_eq];omega
      have q2':(i:Int)<(ln:Int):=by omega
      obtain⟨r,hr⟩:∃ r,l[i]? = some r:=⟨_,jG (by have:=Hln.out; omega)⟩
      have hdr:l.drop i=r::l.drop (i+1):=by
       rw[List.drop_eq_getElem_cons (by have:=Hln.out; omega)]
       congr 1
       exact (jL hr).2
      by_cases hk:k≤150
      ·have q3:decide ((k:Int)≤150)=true:=by rw[decide_eq_true_eq];omega
       rw[hdr] at HC
       obtain⟨g,off,c,u,he,k1,k2,hu⟩:=HH.out.at hr
       obtain⟨rfl,-,-⟩:=Value.slice.inj he
       have it:((i:Int)).toNat=i:=by omega
       have hcl:=cnt_le n (d+1) hu
       have hc:=HI.out _ _ _ hu (by omega)
       obtain⟨cr,hcr⟩:∃ c,c=cnt n (d+1) r.e:=⟨_,rfl⟩
       rw[← hcr] at hc hcl
       have HC2:Hid (cntS (cnt n (d+1)) (l.drop (i+1)) (k+cr)=R):=by
        show _=_
        rw[← HC.out,hcr]
        conv=>rhs; unfold cntS
        rw[if_pos hk]
       have w1:IntKind.i64.wrap ((k:Int)+(cr:Int))=((k+cr:Nat):Int):=by rw[IntKind.wrap_i64];omega
       have w2:IntKind.i64.wrap ((i:Int)+1)=((i+1:Nat):Int):=by rw[IntKind.wrap_i64];omega
       clear hu he hr hdr HC hcr
       go_wp2_with fail
       refine hc.mono ?_
       rintro e w2 ⟨rfl,rfl⟩
       go_wp2_with fail
       go_roundg (ln - (i+1))
       case measure=>omega
       case rel=>exact⟨i+1,k+cr,by go_num,by go_num,by omega,by omega,by omega,HC2,rfl⟩
      ·have q3:decide ((k:Int)≤150)=false:=by rw[decide_eq_false_iff_not];omega
       have hRk:R=k:=by
        rw[← HC.out,hdr];unfold cntS; rw[if_neg hk]
       have HRk:=jH hRk
       clear hRk hdr hr
       go_wp2_with fail
       go_ret
       exact⟨by rw[HRk.out];rfl,rfl⟩
     ·have q2:decide ((i:Int)<(ln:Int))=false:=by rw[decide_eq_false_iff_not];omega
      have hRk:R=k:=by
       rw[← HC.out,List.drop_eq_nil_of_le (by have:=Hln.out; omega)];rfl
      have HRk:=jH hRk
      clear hRk
      go_wp2_with fail
      go_ret
      exact⟨by rw[HRk.out];rfl,rfl⟩
def PlcQ (C:List Int)(r:Option Int)(W:World)(p:Nat)(fv:Value)(fl:List Value)(vs:List Int)(e:Ending)(W':World): Prop :=
 ∃ (X:Nat) (ok:Bool) (fv':Value) (fl':List Value) (vs':List Int),e=.returned (.tuple #[.int .i64 (X:Nat),.bool ok])∧Hid (RPut C W W' p fv fv' fl fl' vs vs')∧Hid ((r=none∧ok=false)∨∃ x,r=some x∧ok=true∧vs'[X]? = some x)
variable {p:Nat} {C vs:List Int} {fv:Value} {fl:List Value}
theorem rB_sub {W W':World}{fv':Value}{fl':List Value}{vs':List Int}(h:RPut C W W' p fv fv' fl fl' vs vs'){n:Nat}(hn:∀ b∈rB p fv fl,n≤b)(hs:n≤W.heap.size): ∀ b∈rB p fv' fl',n≤b:=fun b hb=>by
 rcases yK.1 hb with rfl | hm | ⟨v,hv,hm⟩
 ·exact hn _ (yK.2 (.inl rfl))
 ·rcases h.fvb b hm with k | k
  ·exact hn _ (yK.2 (.inr (.inl k)))
  ·omega
 ·rcases h.flb v hv with k | k
  ·exact hn _ (yK.2 (.inr (.inr ⟨v,k,hm⟩)))
  ·have:=k b hm; omega
theorem RPut.grown {W w w':World}{fv':Value}{fl':List Value}{vs':List Int}{vo:Option Nat}(h:RPut C W w p fv fv' fl fl' vs vs')(G:w.grownBy w' vo)(hb:∀ b,vo=some b→W.heap.size≤b∧b∉rB p fv' fl'): RPut C W w' p fv fv' fl fl' vs vs' :=
 ⟨h.rw.kept (fun q hq=>G.block q (h.rw.blt q hq) (fun e=>(hb q e.symm).2 hq)),h.ext,⟨G.os.trans h.fr.os,G.tape.trans h.fr.tape,G.output.trans h.fr.output,Nat.le_trans h.fr.size G.size,fun q hq hn=>(G.block q (by have:=h.fr.size; omega) (fun e=>by have:=(hb q e.symm).1; omega)).trans (h.fr.block q hq hn)⟩,h.fvb,h.flb⟩
section
variable {ops:Array Oper} {rest:List Oper} {o:Oper} {a:Act} {Q:Exit→Act→World→Prop} {W:World}
theorem app_R1 (hgd:o.guard=none)(s x:Operand)(ho:o.op=.call { callee:=.builtin .append,args:=#[s,x],argTypes:=#[137,137] }) 
 (v:Value) (l:List PT) (hs:a.eval s=v) (hown:RRow W v l) (B:Nat) (t:PT) (hx:a.eval x=.slice (some ⟨B,0,none⟩) 1 1)
 (hB:W.heap[B]? = some (.cells #[.bool t.1,.int .i64 (t.2:Nat)] 139 (0,0))) (n:Nat) (hn:l.length+1=n) (hb:n≤8000000000000) (H:Nat) (hH:W.heap.size=H)
 (h:∀ g cap w',RRow w' (.slice (some ⟨g,0,none⟩) n cap) (l++[t])→W.grownBy w' v.ownBlock→(v.ownBlock=some g∨g=H)→wpList Tryz.prog ops Q rest (a.put o.dst (.slice (some ⟨g,0,none⟩) n cap)) w') :
 wpList Tryz.prog ops Q (o::rest) a W:=by
 subst hn
 obtain⟨ii,hi,hz0,hz1,hz2⟩:=info_parts info139
 refine wpList_append_lies W hgd s x 137 ho 0 139 ii _ 2 16 un137 hi hz0 hz1 hz2 rfl (by decide) v l.length _ hs hown ⟨B,0,none⟩ 1 1 [.bool t.1,.int .i64 (t.2:Nat)] hx rfl (fun j u hu=>World.news_of_block hB j u hu) (by simp; exact⟨rfl,rfl⟩) (by omega) (by simp only[maxLen];omega) (by omega) (Nat.zero_le _) H hH (fun g cap w' k1 k2 k3 _=>h g cap w' ?_ k2 k3)
 unfold RRow
 rw[List.length_append,List.length_singleton]
 have e:tcells (l++[t])=tcells l++[.bool t.1,.int .i64 (t.2:Nat)]:=by unfold tcells; simp
 rw[e];exact k1
end
theorem plc_calls:∀ (n:Nat) {C:List Int} {W W0:World} {p:Nat} {fv:Value} {fl:List Value} {vs:List Int} {v:Value} {l:List Raw},RW C W p fv fl vs→RIn W0 n v l→Below W0.heap.size W0 W→(∀ b∈rB p fv fl,W0.heap.size≤b)→tot n l≤150→(∀ z∈rAsk n l,z∈C) →
 Calls Tryz.prog 120 #[.pointer (some ⟨p,0,none⟩),v] W (PlcQ C (rv n l) W p fv fl vs)
 | 0,_,_,_,_,_,_,_,_,_,_,h,_,_,_,_=>h.elim
 | n+1,C,W,W0,p,fv,fl,vs,v,l,H,h,hW,hN,ht,hC=>by
   have HI:Hid (∀ (C:List Int) (W W0:World) (p:Nat) (fv:Value) (fl:List Value) (vs:List Int) (v:Value) (l:List Raw),RW C W p fv fl vs→RIn W0 n v l→Below W0.heap.size W0 W→(∀ b∈rB p fv fl,W0.heap.size≤b)→tot n l≤150→(∀ z∈rAsk n l,z∈C) →
    Calls Tryz.prog 120 #[.pointer (some ⟨p,0,none⟩),v] W (PlcQ C (rv n l) W p fv fl vs)):=fun C W W0 p fv fl vs v l=>plc_calls n
   have HH:=jH h
   obtain⟨va,vc,rfl⟩:=h.shape
   obtain⟨ln,hln⟩:∃ n,n=l.length:=⟨_,rfl⟩
   rw[← hln] at HH ⊢
   have Hln:=jH hln
   have HW:=jH hW
   have HN:=jH hN
   have hlt:ln+(l.map fun r=>tot n r.e).sum≤150:=by rw[hln];exact ht
   have Htot:Hid ((l.map fun r=>tot n r.e).sum≤150):=by show _≤_; omega
   have hlb:ln≤150:=by omega
   have HC:=jH hC
   have H0:=jH H
   obtain⟨R,hR⟩:∃ R,R=rv (n+1) l:=⟨_,rfl⟩
   rw[← hR]
   have HR:Hid (R=(rvS (rv n) l).map lv):=by show _=_; rw[hR];rfl
   clear H h hln hW hN ht hC hlt hR
   go_enter Tryz.func120,Tryz.ntmps120
   go_wp2_with fail
   go_loopg [6,7] ln (fun g1 v6 v7 wr=>∃ (i:Nat) (ta:Option Addr) (tn tc:Nat) (ts:List Tm) (fv':Value) (fl':List Value) (vs':List Int),v6=.slice ta tn tc∧v7=.int .i64 (i:Nat)∧i≤ln∧ln - i≤g1∧Hid (ts.length=i)∧Hid (rvS (rv n) l=(rvS (rv n) (l.drop i)).map (ts++·)) ∧
    Hid (RPut C W wr p fv fv' fl fl' vs vs')∧Hid (RRow wr (.slice ta tn tc) (plt vs' ts))∧Hid (∀ b,(Value.slice ta tn tc).ownBlock=some b→W.heap.size≤b∧b∉rB p fv' fl')∧Hid (∀ t∈ts,(t.2:Int)∈vs'))
   case atStart=>exact⟨0,none,0,0,[],fv,fl,vs,rfl,rfl,Nat.zero_le _,jR _,rfl,by show _=_; simp,RPut.refl H0.out,⟨by simp[plt,tcells],.inl ⟨rfl,rfl⟩⟩,fun b h=>by simp[Value.ownBlock] at h,fun t h=>by cases h⟩
   case round =>
    obtain⟨i,ta,tn,tc,ts,fv',fl',vs',rfl,rfl,hin,hg,Htl,Hrv,HP,HRw,HOw,Hmem⟩:=hrel
    have i0:(0:Int)≤(i:Int):=by omega
    have HBr:Hid (Below W0.heap.size W0 wr):=jy HW.out (jR _) (fun b hb=>HN.out b (rF_rB hb)) HP.out.fr
    have HNr:Hid (∀ b∈rB p fv' fl',W0.heap.size≤b):=rB_sub HP.out HN.out HW.out.size
    by_cases hi:i<ln
    ·have q2:decide ((i:Int)<(ln:Int))=true:=by rw[decide_eq_true_eq];omega
     have q2':(i:Int)<(ln:Int):=by omega
     obtain⟨r,hr⟩:∃ r,l[i]? = some r:=⟨_,jG (by have:=Hln.out; omega)⟩
     have hrm:=jM hr
     have Hdr:Hid (l.drop i=r::l.drop (i+1)):=by
      show _=_
      rw[List.drop_eq_getElem_cons (by have:=Hln.out; omega)]
      congr 1
      exact (jL hr).2
     obtain⟨g,off,c,u,he,k1,k2,hu⟩:=HH.out.at hr
     obtain⟨rfl,-,-⟩:=Value.slice.inj he
     have it:((i:Int)).toNat=i:=by omega
     have c1:=jQ HBr.out k1
     have c2:=jQ HBr.out k2
     have Htr:Hid (tot n r.e≤150):=by
      show _≤_
      have:=sum_mem (g:=tot n) hrm
      have:=Htot.out
      omega
     have hp:=HI.out _ _ _ _ _ _ _ _ _ HP.out.rw hu HBr.out HNr.out Htr.out (fun z hz=>HC.out z (by
      show z∈rAsk (n+1) l
      unfold rAsk
      exact List.mem_append.2 (.inr (List.mem_flatMap.2 ⟨r,hrm,hz⟩))))
     have w2:IntKind.i64.wrap ((i:Int)+1)=((i+1:Nat):Int):=by rw[IntKind.wrap_i64];omega
     obtain⟨rr,hrr⟩:∃ x,x=rv n r.e:=⟨_,rfl⟩
     rw[← hrr] at hp
     have Hrr:=jH hrr
     have HK1:=jH k1
     have HU:=jH hu
     clear he hr hrm k1 k2 hu hrr
     go_wp2_with fail
     refine hp.mono ?_
     rintro e w2 ⟨X,ok,fv2,fl2,vs2,rfl,hp2,hq2⟩
     have HP2:=jH (HP.out.trans hp2.out)
     have HRw2:Hid (RRow w2 (.slice ta tn tc) (plt vs2 ts)):=by
      show RRow _ _ _
      rw[plt_ext hp2.out.ext Hmem.out]
      exact HRw.out.fr HP.out.rw hp2.out.fr
     have HOw2:Hid (∀ b,(Value.slice ta tn tc).ownBlock=some b→W.heap.size≤b∧b∉rB p fv2 fl2):=fun b hb=>by
      obtain⟨c',hc'⟩:=jO HRw.out hb
      exact⟨(HOw.out b hb).1,hp2.out.notin (jA hc').1 (HOw.out b hb).2⟩
     have Hmem2:Hid (∀ t∈ts,(t.2:Int)∈vs2):=fun t ht=>hp2.out.ext.subset (Hmem.out t ht)
     have HBr2:Hid (Below W0.heap.size W0 w2):=jy HW.out (jR _) (fun b hb=>HN.out b (rF_rB hb)) HP2.out.fr
     have Hq2:=jH hq2.out
     clear hp hp2 hq2 c1 c2
     cases ok with
     | false =>
       have HRn:Hid (R=none):=by
        show _=_
        rcases Hq2.out with ⟨h1,_⟩ | ⟨x,_,h1,_⟩
        ·rw[HR.out,Hrv.out,Hdr.out]
         conv=>lhs; unfold rvS
         rw[← Hrr.out,h1];rfl
        ·cases h1
       go_wp2_with fail
       refine bodyPost_ret (results_tmp2 rfl _ _ _) rfl ?_
       exact⟨0,false,fv2,fl2,vs2,rfl,HP2,.inl ⟨HRn.out,rfl⟩⟩
     | true =>
       obtain⟨x,Hx1,Hx2⟩:∃ x,Hid (rr=some x)∧Hid (vs2[X]? = some x):=by
        rcases Hq2.out with ⟨_,h1⟩ | ⟨x,h1,_,h2⟩
        ·cases h1
        ·exact⟨x,h1,h2⟩
       have hS:=rSign_calls HP2.out.rw Hx2.out
       go_wp2_with fail
       refine hS.mono ?_
       rintro e w3 ⟨rfl,rfl⟩
       by_cases hx0:x<0
       ·have hsg:isg x = -1:=za hx0
        have HRn:Hid (R=none):=by
         show _=_
         rw[HR.out,Hrv.out,Hdr.out]
         conv=>lhs; unfold rvS
         rw[← Hrr.out,Hx1.out]
         dsimp only
         rw[if_pos hx0];rfl
        rw[hsg]
        go_wp2_with fail
        refine bodyPost_ret (results_tmp2 rfl _ _ _) rfl ?_
        exact⟨0,false,fv2,fl2,vs2,rfl,HP2,.inl ⟨HRn.out,rfl⟩⟩
       ·have hsg:¬ isg x<0:=isg_n0 (by omega)
        have hsg2:decide (isg x<0)=false:=decide_eq_false hsg
        obtain⟨sg,hsge⟩:∃ s,isg x=s:=⟨_,rfl⟩
        rw[hsge] at hsg hsg2 ⊢
        have c1:w3.cell? ⟨g,off+i*2,none⟩=some (.bool r.m):=jQ HBr2.out HK1.out
        have hlen:(plt vs2 ts).length+1=tn+1:=by
         obtain⟨_,_,e⟩:=ja HRw2.out
         cases e; rfl
        have htn:tn+1≤8000000000000:=by
         have:(plt vs2 ts).length=ts.length:=by simp[plt]
         have:=Htl.out
         omega
        have HX:Hid (X=vs2.idxOf x):=by
         show _=_
         exact (HP2.out.rw.wv.idx_get Hx2.out).symm
        clear hS
        go_wp2_with (at_builtin; go_loud (refine app_R1 rfl _ _ rfl (.slice ta tn tc) (plt vs2 ts) rfl (World.ownsRow.alloc HRw2.out _) _ (r.m,X) rfl (jD w3 _) (tn+1) hlen htn _ rfl ?_);intro g4 c4 w4 R4 G4 A4)
        have HP4:Hid (RPut C W w4 p fv fv2 fl fl2 vs vs2):=(HP2.out.post (jV w3 _).out).grown G4 (fun b hb=>HOw2.out b hb)
        have HOw4:Hid (∀ b,(Value.slice (some ⟨g4,0,none⟩) (tn+1) c4).ownBlock=some b→W.heap.size≤b∧b∉rB p fv2 fl2):=fun b hb=>by
         have e:g4=b:=by simpa [Value.ownBlock] using hb
         subst e
         rcases A4 with h | h
         ·exact HOw2.out _ h
         ·rw[h]
          exact⟨Nat.le_trans HP2.out.fr.size (by simp),fun hm=>by have:=HP2.out.rw.blt _ hm; simp at this; omega⟩
        have HR4:Hid (RRow w4 (.slice (some ⟨g4,0,none⟩) (tn+1) c4) (plt vs2 (ts++[(r.m,x.toNat)]))):=by
         show RRow _ _ _
         have e:((x.toNat:Nat):Int)=x:=by omega
         unfold plt
         rw[List.map_append,List.map_singleton]
         dsimp only
         rw[e,← HX.out]
         exact R4
        have Hrv4:Hid (rvS (rv n) l=(rvS (rv n) (l.drop (i+1))).map ((ts++[(r.m,x.toNat)])++·)):=by
         show _=_
         rw[Hrv.out,Hdr.out]
         conv=>lhs; unfold rvS
         rw[← Hrr.out,Hx1.out]
         dsimp only
         rw[if_neg (by omega)]
         cases rvS (rv n) (l.drop (i+1)) with
         | none=>rfl
         | some y=>simp
        have Hmem4:Hid (∀ t∈ts++[(r.m,x.toNat)],(t.2:Int)∈vs2):=fun t ht=>by
         rcases List.mem_append.1 ht with h | h
         ·exact Hmem2.out t h
         ·rw[List.mem_singleton] at h; subst h
          dsimp only
          have e:((x.toNat:Nat):Int)=x:=by omega
          rw[e];exact jM Hx2.out
        clear R4 G4 A4
        go_wp2_with fail
        go_roundg (ln - (i+1))
        case measure=>omega
        case rel=>exact⟨i+1,some ⟨g4,0,none⟩,tn+1,c4,ts++[(r.m,x.toNat)],fv2,fl2,vs2,rfl,by go_num,by omega,by omega,by show _=_; rw[List.length_append];have:=Htl.out; simp; omega,Hrv4,HP4,HR4,HOw4,Hmem4⟩
    ·have q2:decide ((i:Int)<(ln:Int))=false:=by rw[decide_eq_false_iff_not];omega
     have Hts:Hid (rvS (rv n) l=some ts):=by
      show _=_
      rw[Hrv.out,List.drop_eq_nil_of_le (by have:=Hln.out; omega)]
      simp[rvS]
     have HRs:Hid (R=some (lv ts)):=by show _=_; rw[HR.out,Hts.out];rfl
     have hs:∀ t∈ts,(form (t.2:Int)).length≤150∧∀ f∈exps (t.2:Int),(form (f:Int)).length≤164:=fun t ht=>by
      obtain⟨r,hr,x,hx,hx0,rfl⟩:=rvS_mem Hts.out t ht
      have e:((x.toNat:Nat):Int)=x:=by omega
      dsimp only
      rw[e]
      have:=sum_mem (g:=tot n) hr
      have:=Htot.out
      exact rv_sz hx (by omega)
     have hS:=rSum_calls HP.out.rw Hmem.out HRw.out (a:=150) (b:=164) (by have:=Htl.out; omega) (by omega) (by omega) hs (fun z hz=>HC.out z (by
      show z∈rAsk (n+1) l
      unfold rAsk
      rw[Hts.out]
      exact List.mem_append.2 (.inl hz)))
     clear hs
     go_wp2_with fail
     refine hS.mono ?_
     rintro e w3 ⟨X,fv3,fl3,vs3,rfl,hp3,hq3⟩
     go_wp2_with fail
     refine bodyPost_ret (results_tmp2 rfl _ _ _) rfl ?_
     exact⟨X,true,fv3,fl3,vs3,rfl,HP.out.trans hp3.out,.inr ⟨lv ts,HRs.out,rfl,hq3.out⟩⟩
open Classical in
noncomputable def rvA (n:Nat)(l:List Raw): Option Int:=match rv n l with
 | some x=>if cnt n 0 l≤150∧allowed x then some x else none
 | none=>none
open Classical in
theorem Place_calls {n:Nat}{W W0:World}{v:Value}{l:List Raw}(H:RW C W p fv fl vs)(h:RIn W0 n v l)(hW:Below W0.heap.size W0 W)(hN:∀ b∈rB p fv fl,W0.heap.size≤b)(hC:C.length≤1000000):
 Calls Tryz.prog 81 #[.pointer (some ⟨p,0,none⟩),v] W fun e W'=>∃ (X:Nat) (ok:Bool) (C':List Int) (fv':Value) (fl':List Value) (vs':List Int),e=.returned (.tuple #[.int .i64 (X:Nat),.bool ok])∧C'.length≤C.length+100000∧Hid (RPut C' W W' p fv fv' fl fl' vs vs') ∧
  Hid ((ok=false∧rvA n l=none)∨∃ x,rvA n l=some x∧ok=true∧vs'[X]? = some x):=by
 have hc:=count_calls n 0 (h.below hW) (by omega)
 obtain⟨k,hk⟩:∃ k,k=cnt n 0 l:=⟨_,rfl⟩
 rw[← hk] at hc
 have Hk:=jH hk
 have H0:=jH H
 obtain⟨C',hC'⟩:∃ C',C'=C++rAsk n l:=⟨_,rfl⟩
 by_cases hk1:k≤150
 ·have q1:decide ((150:Int)<(k:Int))=false:=by rw[decide_eq_false_iff_not];omega
  have ht:tot n l≤150:=by have:=cnt_tot n 0 l (by omega);omega
  have hCl:C'.length≤C.length+100000:=by
   have:=rAsk_len n l ht
   have h2:(if n=0 then 0 else 1)≤1:=by split <;>omega
   rw[hC',List.length_append];omega
  have H1:RW C' W p fv fl vs:=H.weaken (fun v hv=>.inl (by rw[hC'];exact List.mem_append.2 (.inl hv))) (by omega)
  have hp:=plc_calls n H1 h hW hN ht (fun z hz=>by rw[hC'];exact List.mem_append.2 (.inr hz))
  obtain⟨r,hr⟩:∃ r,r=rv n l:=⟨_,rfl⟩
  rw[← hr] at hp
  have Hr:=jH hr
  clear H h hW hN hk hC' H1 hr
  go_enter Tryz.func81,Tryz.ntmps81
  go_wp2_with fail
  refine hc.mono ?_
  rintro e w1 ⟨rfl,rfl⟩
  clear hc
  go_wp2_with fail
  refine hp.mono ?_
  rintro e w2 ⟨X,ok,fv2,fl2,vs2,rfl,hp2,hq2⟩
  clear hp
  cases ok with
  | false =>
    have HN:Hid (rvA n l=none):=by
     show _=_
     rcases hq2.out with ⟨h1,_⟩ | ⟨_,_,h1,_⟩
     ·unfold rvA; rw[← Hr.out,h1]
     ·cases h1
    go_wp2_with fail
    refine bodyPost_ret (results_tmp2 rfl _ _ _) rfl ?_
    exact⟨X,false,C',fv2,fl2,vs2,rfl,hCl,hp2,.inl ⟨rfl,HN.out⟩⟩
  | true =>
    obtain⟨x,Hx1,Hx2⟩:∃ x,Hid (r=some x)∧Hid (vs2[X]? = some x):=by
     rcases hq2.out with ⟨_,h1⟩ | ⟨x,h1,_,h2⟩
     ·cases h1
     ·exact⟨x,h1,h2⟩
    have hA:=rAllowed_calls hp2.out.rw Hx2.out
    go_wp2_with fail
    refine hA.mono ?_
    rintro e w3 ⟨rfl,hb3⟩
    by_cases hal:allowed x
    ·have q2:decide (allowed x)=true:=decide_eq_true hal
     rw[q2]
     go_wp2_with fail
     refine bodyPost_ret (results_tmp2 rfl _ _ _) rfl ?_
     exact⟨X,true,C',fv2,fl2,vs2,rfl,hCl,hp2.out.post hb3.out,.inr ⟨x,by unfold rvA; rw[← Hr.out,Hx1.out];dsimp only; rw[if_pos ⟨by rw[← Hk.out];exact hk1,hal⟩],rfl,Hx2.out⟩⟩
    ·have q2:decide (allowed x)=false:=decide_eq_false hal
     rw[q2]
     go_wp2_with fail
     refine bodyPost_ret (results_tmp2 rfl _ _ _) rfl ?_
     exact⟨X,false,C',fv2,fl2,vs2,rfl,hCl,hp2.out.post hb3.out,.inl ⟨rfl,by unfold rvA; rw[← Hr.out,Hx1.out];dsimp only; rw[if_neg (fun h=>hal h.2)]⟩⟩
 ·have q1:decide ((150:Int)<(k:Int))=true:=by rw[decide_eq_true_eq];omega
  have HN:Hid (rvA n l=none):=by
   show _=_
   unfold rvA
   split
   ·rw[if_neg (fun h=>hk1 (by rw[Hk.out];exact h.1))]
   ·rfl
  clear H h hW hN hk
  go_enter Tryz.func81,Tryz.ntmps81
  go_wp2_with fail
  refine hc.mono ?_
  rintro e w1 ⟨rfl,rfl⟩
  go_wp2_with fail
  refine bodyPost_ret (results_tmp2 rfl _ _ _) rfl ?_
  exact⟨0,false,C,fv,fl,vs,rfl,by omega,RPut.refl H0.out,.inl ⟨rfl,HN.out⟩⟩
end
section
structure RE (W W':World)(p:Nat)(fv fv':Value)(fl fl':List Value)(vs vs':List Int): Prop where
 ext:vs <+: vs'
 fr:Fr (rF p fv) W W'
 fvb:∀ b,fv'.ownBlock=some b→fv.ownBlock=some b∨W.heap.size≤b
 flb:∀ v∈fl',v∈fl∨∀ b,v.ownBlock=some b→W.heap.size≤b
section
variable {W W' W2:World} {p:Nat} {fv fv1 fv2:Value} {fl fl1 fl2:List Value} {vs vs1 vs2:List Int}
theorem RPut.re {C:List Int}(h:RPut C W W' p fv fv1 fl fl1 vs vs1): RE W W' p fv fv1 fl fl1 vs vs1:=⟨h.ext,h.fr,h.fvb,h.flb⟩
theorem RE.refl (W:World): RE W W p fv fv fl fl vs vs:=⟨List.prefix_refl _,Fr.refl _ _,fun _ h=>.inl h,fun _ h=>.inl h⟩
theorem RE.trans (h:RE W W' p fv fv1 fl fl1 vs vs1)(k:RE W' W2 p fv1 fv2 fl1 fl2 vs1 vs2): RE W W2 p fv fv2 fl fl2 vs vs2:=by
 refine⟨h.ext.trans k.ext,?_,fun b hb=>?_,fun v hv=>?_⟩
 ·exact (FE.trans (F:=rF p fv) (F1:=rF p fv1) (F2:=rF p fv1) ⟨h.fr,rF_sub h.fvb⟩ ⟨k.fr,fun b hb=>.inl hb⟩).fr
 ·rcases k.fvb b hb with h1 | h1
  ·exact h.fvb b h1
  ·exact .inr (Nat.le_trans h.fr.size h1)
 ·rcases k.flb v hv with h1 | h1
  ·exact h.flb v h1
  ·exact .inr (fun b hb=>Nat.le_trans h.fr.size (h1 b hb))
theorem RE.of_below (h:Below W.heap.size W W'): RE W W' p fv fv fl fl vs vs:=⟨List.prefix_refl _,Fr.of_below h,fun _ h=>.inl h,fun _ h=>.inl h⟩
theorem RE.post (h:RE W W' p fv fv1 fl fl1 vs vs1)(k:Below W'.heap.size W' W2): RE W W2 p fv fv1 fl fl1 vs vs1:=h.trans (RE.of_below k)
theorem RE.pre (k:Below W.heap.size W W')(h:RE W' W2 p fv fv1 fl fl1 vs vs1): RE W W2 p fv fv1 fl fl1 vs vs1:=(RE.of_below k).trans h
theorem RE.sub (h:RE W W' p fv fv1 fl fl1 vs vs1){n:Nat}(hn:∀ b∈rB p fv fl,n≤b)(hs:n≤W.heap.size): ∀ b∈rB p fv1 fl1,n≤b:=fun b hb=>by
 rcases yK.1 hb with rfl | hm | ⟨v,hv,hm⟩
 ·exact hn _ (yK.2 (.inl rfl))
 ·rcases h.fvb b hm with k | k
  ·exact hn _ (yK.2 (.inr (.inl k)))
  ·omega
 ·rcases h.flb v hv with k | k
  ·exact hn _ (yK.2 (.inr (.inr ⟨v,k,hm⟩)))
  ·have:=k b hm; omega
end
theorem RE.store {W w:World}{p:Nat}{fv fv1:Value}{fl fl1:List Value}{vs vs1:List Int}(h:RE W w p fv fv1 fl fl1 vs vs1){b:Nat}(hb:W.heap.size≤b)(x y z:Value): RE W (set3 w b x y z) p fv fv1 fl fl1 vs vs1 :=
 ⟨h.ext,⟨h.fr.os,h.fr.tape,h.fr.output,Nat.le_trans h.fr.size (by simp[Sr.set3]),fun k hk hF=>(ji w (by omega) x y z).trans (h.fr.block k hk hF)⟩,h.fvb,h.flb⟩
structure EB (w:World)(B:Nat)(u v m:Value): Prop where
 b0:w.heap[B]? = some (.cells #[u,v,m] 88 (0,0))
 b1:w.heap[B+1]? = some (.cells #[.pointer none,.pointer none,.pointer none] 28 (0,0))
 b2:w.heap[B+2]? = some (.cells #[.int .i64 0,.int .i64 0,.int .i64 0] 35 (0,0))
variable {u v m:Value}
theorem EB.below {w w':World}{B:Nat}(h:EB w B u v m)(hb:Below w.heap.size w w'): EB w' B u v m:=⟨Below.here hb h.b0,Below.here hb h.b1,Below.here hb h.b2⟩
theorem EB.fr {C:List Int}{w w':World}{p:Nat}{fv:Value}{fl:List Value}{vs:List Int}{B:Nat}(h:EB w B u v m)(H:RW C w p fv fl vs)(hf:Fr (rF p fv) w w'): EB w' B u v m :=
 ⟨fr_type H hf h.b0 (by decide) (by decide),fr_type H hf h.b1 (by decide) (by decide),fr_type H hf h.b2 (by decide) (by decide)⟩
def EltQ (C:List Int)(W:World)(p:Nat)(fv:Value)(fl:List Value)(vs:List Int)(e:Ending)(W':World): Prop :=
 ∃ (qu qv qm:Option Addr) (iu iv im:Nat) (ok:Bool) (C':List Int) (fv':Value) (fl':List Value) (vs':List Int),e=.returned (.tuple #[.agg #[.pointer qu,.pointer qv,.pointer qm],.agg #[.int .i64 (iu:Nat),.int .i64 (iv:Nat),.int .i64 (im:Nat)],.bool ok])∧C'.length≤C.length+300000 ∧
  Hid (RW C' W' p fv' fl' vs')∧Hid (RE W W' p fv fv' fl fl' vs vs')∧Hid (ok=true→∃ x,EOK x∧IsE W' (.agg #[.pointer qu,.pointer qv,.pointer qm]) x∧AtE vs' x iu iv im)
theorem EB.store {w:World}{B:Nat}(h:EB w B u v m)(a b c d e f:Value){C:List Int}{p:Nat}{fv:Value}{fl:List Value}{vs:List Int}(H:RW C w p fv fl vs):
 RW C (set3 (set3 w (B+1) a b c) (B+2) d e f) p fv fl vs:=by
 have hk:∀ q,q≠B+1→q≠B+2→(set3 (set3 w (B+1) a b c) (B+2) d e f).heap[q]? = w.heap[q]?:=fun q h1 h2=>(ji _ h2 _ _ _).trans (ji _ h1 _ _ _)
 exact H.kept fun q hq=>hk q (fun e=>by subst e; exact H.other h.b1 (by decide) (by decide) (by decide) hq) (fun e=>by subst e; exact H.other h.b2 (by decide) (by decide) (by decide) hq)
structure ES (W0 W w:World)(B p:Nat)(C:List Int)(fv0 fv:Value)(fl0 fl:List Value)(vs0 vs:List Int)(v1 v2 v3:Value): Prop where
 rw:RW C w p fv fl vs
 re:RE W w p fv0 fv fl0 fl vs0 vs
 eb:EB w B v1 v2 v3
 bl:Below W0.heap.size W0 w
 rb:∀ b∈rB p fv fl,W0.heap.size≤b
section
variable {W0 W w w':World} {B p:Nat} {C C':List Int} {fv0 fv fv':Value} {fl0 fl fl':List Value} {vs0 vs vs':List Int} {v1 v2 v3:Value}
theorem ES.put (h:ES W0 W w B p C fv0 fv fl0 fl vs0 vs v1 v2 v3)(k:RPut C' w w' p fv fv' fl fl' vs vs'): ES W0 W w' B p C' fv0 fv' fl0 fl' vs0 vs' v1 v2 v3:={
 rw:=k.rw
 re:=h.re.trans k.re
 eb:=h.eb.fr h.rw k.fr
 bl:=jy h.bl (jR _) (fun b hb=>h.rb b (rF_rB hb)) k.fr
 rb:=k.re.sub h.rb h.bl.size }
theorem ES.below (h:ES W0 W w B p C fv0 fv fl0 fl vs0 vs v1 v2 v3)(k:Below w.heap.size w w'): ES W0 W w' B p C fv0 fv fl0 fl vs0 vs v1 v2 v3:={
 rw:=h.rw.below k,re:=h.re.post k,eb:=h.eb.below k,bl:=Below.trans' h.bl k,rb:=h.rb }
end
theorem rvA_some {n:Nat}{l:List Raw}{x:Int}(h:rvA n l=some x): rv n l=some x∧tot n l≤150∧allowed x:=by
 unfold rvA at h
 split at h
 ·rename_i y hy
  split at h
  ·rename_i hc
   obtain rfl:=Option.some.inj h
   exact⟨hy,Nat.le_trans (cnt_tot n 0 l hc.1) hc.1,hc.2⟩
  ·cases h
 ·cases h
theorem element_calls {n1 n2 n3:Nat}{C:List Int}{W W0:World}{p:Nat}{fv:Value}{fl:List Value}{vs:List Int}{v1 v2 v3:Value}{l1 l2 l3:List Raw}(H:RW C W p fv fl vs)(h1:RIn W0 n1 v1 l1)(h2:RIn W0 n2 v2 l2)(h3:RIn W0 n3 v3 l3) 
 (hW:Below W0.heap.size W0 W) (hN:∀ b∈rB p fv fl,W0.heap.size≤b) (hC:C.length≤700000):Calls Tryz.prog 39 #[.pointer (some ⟨p,0,none⟩),.agg #[v1,v2,v3]] W (EltQ C W p fv fl vs):=by
 have H1:=jH h1
 have H2:=jH h2
 have H3:=jH h3
 obtain⟨a1,c1,rfl⟩:=h1.shape
 obtain⟨a2,c2,rfl⟩:=h2.shape
 obtain⟨a3,c3,rfl⟩:=h3.shape
 have HCl:=jH hC
 clear h1 h2 h3
 obtain⟨k1,hk1⟩:∃ k,l1.length=k:=⟨_,rfl⟩
 obtain⟨k2,hk2⟩:∃ k,l2.length=k:=⟨_,rfl⟩
 obtain⟨k3,hk3⟩:∃ k,l3.length=k:=⟨_,rfl⟩
 rw[hk1] at H1 ⊢
 rw[hk2] at H2 ⊢
 rw[hk3] at H3 ⊢
 obtain⟨w1,B,hw1,hB,HS1,HBs⟩:∃ w1 B,((W.alloc (.cells #[.slice a1 k1 c1,.slice a2 k2 c2,.slice a3 k3 c3] 88)).alloc (.cells #[.pointer none,.pointer none,.pointer none] 28)).alloc (.cells #[.int .i64 0,.int .i64 0,.int .i64 0] 35)=w1∧W.heap.size=B ∧
  Hid (ES W0 W w1 B p C fv fv fl fl vs vs (.slice a1 k1 c1) (.slice a2 k2 c2) (.slice a3 k3 c3))∧Hid (W.heap.size≤B):=by
  have hbl:Below W.heap.size W (((W.alloc (.cells #[.slice a1 k1 c1,.slice a2 k2 c2,.slice a3 k3 c3] 88)).alloc (.cells #[.pointer none,.pointer none,.pointer none] 28)).alloc (.cells #[.int .i64 0,.int .i64 0,.int .i64 0] 35)):=(((Below.refl _ _).alloc (jR _) _).alloc (by simp) _).alloc (by simp; omega) _
  refine⟨_,_,rfl,rfl,⟨H.below hbl,RE.of_below hbl,⟨?_,?_,?_⟩,Below.trans' hW hbl,hN⟩,jR _⟩
  ·exact (jE _ _ (by simp; omega)).trans (qU W _ _)
  ·exact (jE _ _ (by simp)).trans (qA W _ _)
  ·have:=qA (W.alloc (.cells #[.slice a1 k1 c1,.slice a2 k2 c2,.slice a3 k3 c3] 88)) (.cells #[.pointer none,.pointer none,.pointer none] 28) (.cells #[.int .i64 0,.int .i64 0,.int .i64 0] 35)
   simpa using this
 clear H hW hN hC hk1 hk2 hk3
 go_enter Tryz.func39,Tryz.ntmps39
 have cc2:w1.cell? ⟨B,0,none⟩=some (.slice a1 k1 c1):=by rw[jB HS1.out.eb.b0];rfl
 have hP:=Place_calls HS1.out.rw H1.out HS1.out.bl HS1.out.rb (by have:=HCl.out; omega)
 go_wp2_with fail
 refine hP.mono ?_
 rintro e w2 ⟨X2,ok2,C2,fv2,fl2,vs2,rfl,hC2,hp2,hq2⟩
 have HS2:=jH (HS1.out.put hp2.out)
 have HC2:Hid (C2.length≤C.length+100000):=hC2
 have HQ2:=jH hq2.out
 have HX2:=jH hp2.out.ext
 clear hP hp2 hq2 cc2 hC2
 have cc3:w2.cell? ⟨B,1,none⟩=some (.slice a2 k2 c2):=by rw[jB HS2.out.eb.b0];rfl
 have hP:=Place_calls HS2.out.rw H2.out HS2.out.bl HS2.out.rb (by have:=(And.intro HCl.out HC2.out);omega)
 go_wp2_with fail
 refine hP.mono ?_
 rintro e w3 ⟨X3,ok3,C3,fv3,fl3,vs3,rfl,hC3,hp3,hq3⟩
 have HS3:=jH (HS2.out.put hp3.out)
 have HC3:Hid (C3.length≤C2.length+100000):=hC3
 have HQ3:=jH hq3.out
 have HX3:=jH hp3.out.ext
 clear hP hp3 hq3 cc3 hC3
 have cc4:w3.cell? ⟨B,2,none⟩=some (.slice a3 k3 c3):=by rw[jB HS3.out.eb.b0];rfl
 have hP:=Place_calls HS3.out.rw H3.out HS3.out.bl HS3.out.rb (by have:=(And.intro HCl.out (And.intro HC2.out HC3.out));omega)
 go_wp2_with fail
 refine hP.mono ?_
 rintro e w4 ⟨X4,ok4,C4,fv4,fl4,vs4,rfl,hC4,hp4,hq4⟩
 have HS4:=jH (HS3.out.put hp4.out)
 have HC4:Hid (C4.length≤C3.length+100000):=hC4
 have HQ4:=jH hq4.out
 have HX4:=jH hp4.out.ext
 clear hP hp4 hq4 cc4 hC4
 cases ok2 with
 | false =>
   have f1:=fun o=>jF HS4.out.eb.b1 o
   have f2:=fun o=>jF HS4.out.eb.b2 o
   have e10:w4.cell? ⟨B+1,0,none⟩=some (.pointer none):=by rw[jB HS4.out.eb.b1];rfl
   have e11:w4.cell? ⟨B+1,1,none⟩=some (.pointer none):=by rw[jB HS4.out.eb.b1];rfl
   have e12:w4.cell? ⟨B+1,2,none⟩=some (.pointer none):=by rw[jB HS4.out.eb.b1];rfl
   have e20:w4.cell? ⟨B+2,0,none⟩=some (.int .i64 0):=by rw[jB HS4.out.eb.b2];rfl
   have e21:w4.cell? ⟨B+2,1,none⟩=some (.int .i64 0):=by rw[jB HS4.out.eb.b2];rfl
   have e22:w4.cell? ⟨B+2,2,none⟩=some (.int .i64 0):=by rw[jB HS4.out.eb.b2];rfl
   go_wp2_with fail
   refine bodyPost_ret (v:=.tuple #[.agg #[.pointer none,.pointer none,.pointer none],.agg #[.int .i64 ((0:Nat):Int),.int .i64 ((0:Nat):Int),.int .i64 ((0:Nat):Int)],.bool false]) (by simp[results,Tryz.results39,go_sem,e10,e11,e12,e20,e21,e22]) rfl ?_
   exact⟨none,none,none,0,0,0,false,_,_,_,_,rfl,by have:=HC2.out; have:=HC3.out; have:=HC4.out; omega,HS4.out.eb.store _ _ _ _ _ _ HS4.out.rw,(RE.store (RE.store HS4.out.re (by have:=HBs.out; omega) _ _ _) (by have:=HBs.out; omega) _ _ _),fun h=>by cases h⟩
 | true =>
   cases ok3 with
   | false =>
     have f1:=fun o=>jF HS4.out.eb.b1 o
     have f2:=fun o=>jF HS4.out.eb.b2 o
     have e10:w4.cell? ⟨B+1,0,none⟩=some (.pointer none):=by rw[jB HS4.out.eb.b1];rfl
     have e11:w4.cell? ⟨B+1,1,none⟩=some (.pointer none):=by rw[jB HS4.out.eb.b1];rfl
     have e12:w4.cell? ⟨B+1,2,none⟩=some (.pointer none):=by rw[jB HS4.out.eb.b1];rfl
     have e20:w4.cell? ⟨B+2,0,none⟩=some (.int .i64 0):=by rw[jB HS4.out.eb.b2];rfl
     have e21:w4.cell? ⟨B+2,1,none⟩=some (.int .i64 0):=by rw[jB HS4.out.eb.b2];rfl
     have e22:w4.cell? ⟨B+2,2,none⟩=some (.int .i64 0):=by rw[jB HS4.out.eb.b2];rfl
     go_wp2_with fail
     refine bodyPost_ret (v:=.tuple #[.agg #[.pointer none,.pointer none,.pointer none],.agg #[.int .i64 ((0:Nat):Int),.int .i64 ((0:Nat):Int),.int .i64 ((0:Nat):Int)],.bool false]) (by simp[results,Tryz.results39,go_sem,e10,e11,e12,e20,e21,e22]) rfl ?_
     exact⟨none,none,none,0,0,0,false,_,_,_,_,rfl,by have:=HC2.out; have:=HC3.out; have:=HC4.out; omega,HS4.out.eb.store _ _ _ _ _ _ HS4.out.rw,(RE.store (RE.store HS4.out.re (by have:=HBs.out; omega) _ _ _) (by have:=HBs.out; omega) _ _ _),fun h=>by cases h⟩
   | true =>
     cases ok4 with
     | false =>
       have f1:=fun o=>jF HS4.out.eb.b1 o
       have f2:=fun o=>jF HS4.out.eb.b2 o
       have e10:w4.cell? ⟨B+1,0,none⟩=some (.pointer none):=by rw[jB HS4.out.eb.b1];rfl
       have e11:w4.cell? ⟨B+1,1,none⟩=some (.pointer none):=by rw[jB HS4.out.eb.b1];rfl
       have e12:w4.cell? ⟨B+1,2,none⟩=some (.pointer none):=by rw[jB HS4.out.eb.b1];rfl
       have e20:w4.cell? ⟨B+2,0,none⟩=some (.int .i64 0):=by rw[jB HS4.out.eb.b2];rfl
       have e21:w4.cell? ⟨B+2,1,none⟩=some (.int .i64 0):=by rw[jB HS4.out.eb.b2];rfl
       have e22:w4.cell? ⟨B+2,2,none⟩=some (.int .i64 0):=by rw[jB HS4.out.eb.b2];rfl
       go_wp2_with fail
       refine bodyPost_ret (v:=.tuple #[.agg #[.pointer none,.pointer none,.pointer none],.agg #[.int .i64 ((0:Nat):Int),.int .i64 ((0:Nat):Int),.int .i64 ((0:Nat):Int)],.bool false]) (by simp[results,Tryz.results39,go_sem,e10,e11,e12,e20,e21,e22]) rfl ?_
       exact⟨none,none,none,0,0,0,false,_,_,_,_,rfl,by have:=HC2.out; have:=HC3.out; have:=HC4.out; omega,HS4.out.eb.store _ _ _ _ _ _ HS4.out.rw,(RE.store (RE.store HS4.out.re (by have:=HBs.out; omega) _ _ _) (by have:=HBs.out; omega) _ _ _),fun h=>by cases h⟩
     | true =>
       obtain⟨x1,HY1,HZ1⟩:∃ x,Hid (rvA n1 l1=some x)∧Hid (vs2[X2]? = some x):=by
        rcases HQ2.out with ⟨h,_⟩ | ⟨x,h1,_,h2⟩
        ·cases h
        ·exact⟨x,h1,h2⟩
       obtain⟨x2,HY2,HZ2⟩:∃ x,Hid (rvA n2 l2=some x)∧Hid (vs3[X3]? = some x):=by
        rcases HQ3.out with ⟨h,_⟩ | ⟨x,h1,_,h2⟩
        ·cases h
        ·exact⟨x,h1,h2⟩
       obtain⟨x3,HY3,HZ3⟩:∃ x,Hid (rvA n3 l3=some x)∧Hid (vs4[X4]? = some x):=by
        rcases HQ4.out with ⟨h,_⟩ | ⟨x,h1,_,h2⟩
        ·cases h
        ·exact⟨x,h1,h2⟩
       have cc5:w4.cell? ⟨B,0,none⟩=some (.slice a1 k1 c1):=by rw[jB HS4.out.eb.b0];rfl
       have hM:=made_calls _ (RIn.below HS4.out.bl H1.out) (rvA_some HY1.out).2.1 (rvA_some HY1.out).1
       go_wp2_with fail
       refine hM.mono ?_
       rintro e w ⟨q5,ok5,rfl,hb,hq⟩
       obtain⟨w5,b5,hw5,hb5,HD5,HK5⟩:∃ w3 b,w.alloc (.cells #[.pointer q5] 26)=w3∧w.heap.size=b∧Hid (w3.heap[b]? = some (.cells #[.pointer q5] 26 (0,0)))∧Hid (Below w.heap.size w w3):=⟨_,_,rfl,rfl,jD w _,(jV w _).out⟩
       have HB5:Hid (Below w4.heap.size w4 w5):=Below.trans' hb.out HK5.out
       have HS5:=jH (HS4.out.below HB5.out)
       have HI5:Hid (ok5=true→IsN w5 (.agg #[.pointer q5]) _):=fun h=>(hq.out h).below HK5.out
       clear hM hb hq cc5
       have cc6:w5.cell? ⟨B,1,none⟩=some (.slice a2 k2 c2):=by rw[jB HS5.out.eb.b0];rfl
       have hM:=made_calls _ (RIn.below HS5.out.bl H2.out) (rvA_some HY2.out).2.1 (rvA_some HY2.out).1
       go_wp2_with fail
       refine hM.mono ?_
       rintro e w ⟨q6,ok6,rfl,hb,hq⟩
       obtain⟨w6,b6,hw6,hb6,HD6,HK6⟩:∃ w3 b,w.alloc (.cells #[.pointer q6] 26)=w3∧w.heap.size=b∧Hid (w3.heap[b]? = some (.cells #[.pointer q6] 26 (0,0)))∧Hid (Below w.heap.size w w3):=⟨_,_,rfl,rfl,jD w _,(jV w _).out⟩
       have HB6:Hid (Below w5.heap.size w5 w6):=Below.trans' hb.out HK6.out
       have HS6:=jH (HS5.out.below HB6.out)
       have HI6:Hid (ok6=true→IsN w6 (.agg #[.pointer q6]) _):=fun h=>(hq.out h).below HK6.out
       clear hM hb hq cc6
       have cc7:w6.cell? ⟨B,2,none⟩=some (.slice a3 k3 c3):=by rw[jB HS6.out.eb.b0];rfl
       have hM:=made_calls _ (RIn.below HS6.out.bl H3.out) (rvA_some HY3.out).2.1 (rvA_some HY3.out).1
       go_wp2_with fail
       refine hM.mono ?_
       rintro e w ⟨q7,ok7,rfl,hb,hq⟩
       obtain⟨w7,b7,hw7,hb7,HD7,HK7⟩:∃ w3 b,w.alloc (.cells #[.pointer q7] 26)=w3∧w.heap.size=b∧Hid (w3.heap[b]? = some (.cells #[.pointer q7] 26 (0,0)))∧Hid (Below w.heap.size w w3):=⟨_,_,rfl,rfl,jD w _,(jV w _).out⟩
       have HB7:Hid (Below w6.heap.size w6 w7):=Below.trans' hb.out HK7.out
       have HS7:=jH (HS6.out.below HB7.out)
       have HI7:Hid (ok7=true→IsN w7 (.agg #[.pointer q7]) _):=fun h=>(hq.out h).below HK7.out
       clear hM hb hq cc7
       have d5:w7.cell? ⟨b5,0,none⟩=some (.pointer q5):=by rw[jB (Below.here HB7.out (Below.here HB6.out HD5.out))];rfl
       have d6:w7.cell? ⟨b6,0,none⟩=some (.pointer q6):=by rw[jB (Below.here HB7.out HD6.out)];rfl
       have d7:w7.cell? ⟨b7,0,none⟩=some (.pointer q7):=by rw[jB HD7.out];rfl
       have f1:=fun o=>jF HS7.out.eb.b1 o
       have f2:=fun o=>jF HS7.out.eb.b2 o
       have e10:w7.cell? ⟨B+1,0,none⟩=some (.pointer none):=by rw[jB HS7.out.eb.b1];rfl
       have e11:w7.cell? ⟨B+1,1,none⟩=some (.pointer none):=by rw[jB HS7.out.eb.b1];rfl
       have e12:w7.cell? ⟨B+1,2,none⟩=some (.pointer none):=by rw[jB HS7.out.eb.b1];rfl
       have e20:w7.cell? ⟨B+2,0,none⟩=some (.int .i64 0):=by rw[jB HS7.out.eb.b2];rfl
       have e21:w7.cell? ⟨B+2,1,none⟩=some (.int .i64 0):=by rw[jB HS7.out.eb.b2];rfl
       have e22:w7.cell? ⟨B+2,2,none⟩=some (.int .i64 0):=by rw[jB HS7.out.eb.b2];rfl
       go_wp2_with fail
       all_goals
        have hfin:∀ o:Bool,(o=true→ok5=true∧ok6=true∧ok7=true)→EltQ C W p fv fl vs (.returned (.tuple #[.agg #[.pointer q5,.pointer q6,.pointer q7],.agg #[.int .i64 (X2:Nat),.int .i64 (X3:Nat),.int .i64 (X4:Nat)],.bool o])) (Sr.set3 (Sr.set3 w7 (B+1) (.pointer q5) (.pointer q6) (.pointer q7)) (B+2) (.int .i64 (X2:Nat)) (.int .i64 (X3:Nat)) (.int .i64 (X4:Nat))):=fun o ho=>by
         refine⟨q5,q6,q7,X2,X3,X4,o,_,_,_,_,rfl,by have:=HC2.out; have:=HC3.out; have:=HC4.out; omega,HS7.out.eb.store _ _ _ _ _ _ HS7.out.rw,(RE.store (RE.store HS7.out.re (by have:=HBs.out; omega) _ _ _) (by have:=HBs.out; omega) _ _ _),fun h=>?_⟩
         obtain⟨o5,o6,o7⟩:=ho h
         have hE:IsE w7 (.agg #[.pointer q5,.pointer q6,.pointer q7]) ⟨x1,x2,x3⟩:=⟨q5,q6,q7,rfl,((HI5.out o5).below HB6.out).below HB7.out,(HI6.out o6).below HB7.out,HI7.out o7⟩
         exact⟨⟨x1,x2,x3⟩,⟨(rvA_some HY1.out).2.2,(rvA_some HY2.out).2.2,(rvA_some HY3.out).2.2⟩,IsE.store3 (IsE.store3 hE HS7.out.eb.b1) ((ji _ (by omega) _ _ _).trans HS7.out.eb.b2),jW HX4.out (jW HX3.out HZ1.out),jW HX4.out HZ2.out,HZ3.out⟩
        first
         | (refine bodyPost_ret (v:=.tuple #[.agg #[.pointer q5,.pointer q6,.pointer q7],.agg #[.int .i64 (X2:Nat),.int .i64 (X3:Nat),.int .i64 (X4:Nat)],.bool false]) ?_ rfl ?_
            rotate_left
            exact hfin false (fun h=>nomatch h)
            simp[results,Tryz.results39,go_sem,e10,e11,e12,e20,e21,e22]
            done)
         | (refine bodyPost_ret (v:=.tuple #[.agg #[.pointer q5,.pointer q6,.pointer q7],.agg #[.int .i64 (X2:Nat),.int .i64 (X3:Nat),.int .i64 (X4:Nat)],.bool ok7]) ?_ rfl ?_
            rotate_left
            exact hfin ok7 (fun h=>by simp_all)
            simp[results,Tryz.results39,go_sem,e10,e11,e12,e20,e21,e22]
            done)
end
theorem IsE.keptT {w w':World}{V:Value}{x:E3}(h:IsE w V x)(hk:∀ (b:Nat) (c:Array Value) (T:TypeId),w.heap[b]? = some (.cells c T (0,0))→(T=158∨T=111∨T=154)→w'.heap[b]? = w.heap[b]?): IsE w' V x:=by
 obtain⟨a,b,c,e,h1,h2,h3⟩:=h
 exact⟨a,b,c,e,h1.kept hk,h2.kept hk,h3.kept hk⟩
theorem IsE.fr {C:List Int}{W W':World}{p:Nat}{fv:Value}{fl:List Value}{vs:List Int}{V:Value}{x:E3}(h:IsE W V x)(H:RW C W p fv fl vs)(hf:Fr (rF p fv) W W'): IsE W' V x :=
 h.keptT fun b cs T hb hT=>by
  rw[hb];exact fr_type H hf hb (by rcases hT with rfl | rfl | rfl <;>decide) (by rcases hT with rfl | rfl | rfl <;>decide)
def TIn (W:World)(V:Value): Prop:=∃ (n1 n2 n3:Nat) (a1 a2 a3:Option Addr) (k1 c1 k2 c2 k3 c3:Nat) (l1 l2 l3:List Raw),V=.agg #[.slice a1 k1 c1,.slice a2 k2 c2,.slice a3 k3 c3]∧RIn W n1 (.slice a1 k1 c1) l1∧RIn W n2 (.slice a2 k2 c2) l2∧RIn W n3 (.slice a3 k3 c3) l3
structure MS2 (W w:World)(p:Nat)(C:List Int)(fv:Value)(fl:List Value)(vs:List Int)(L:List (Nat×Array Value×TypeId)): Prop where
 rw:RW C w p fv fl vs
 bl:Below W.heap.size W w
 rb:∀ b∈rB p fv fl,W.heap.size≤b
 hs:Has w L
 ty:∀ q∈L,q.2.2=28∨q.2.2=35∨q.2.2=88
section
variable {W w w':World} {p:Nat} {C C':List Int} {fv fv':Value} {fl fl':List Value} {vs vs':List Int} {L:List (Nat×Array Value×TypeId)}
theorem MS2.below (h:MS2 W w p C fv fl vs L)(k:Below w.heap.size w w'): MS2 W w' p C fv fl vs L:=⟨h.rw.below k,Below.trans' h.bl k,h.rb,h.hs.below k,h.ty⟩
theorem MS2.re (h:MS2 W w p C fv fl vs L)(k:RE w w' p fv fv' fl fl' vs vs')(hr:RW C' w' p fv' fl' vs'): MS2 W w' p C' fv' fl' vs' L :=
 ⟨hr,jy h.bl (jR _) (fun b hb=>h.rb b (rF_rB hb)) k.fr,k.sub h.rb h.bl.size,fun q hq=>fr_type h.rw k.fr (h.hs q hq) (by rcases h.ty q hq with e | e | e <;>rw[e] <;>decide) (by rcases h.ty q hq with e | e | e <;>rw[e] <;>decide),h.ty⟩
theorem MS2.add (h:MS2 W w p C fv fl vs L)(cs:Array Value)(T:TypeId)(hT:T=28∨T=35∨T=88){a:Nat}(ha:w.heap.size=a): MS2 W (w.alloc (.cells cs T)) p C fv fl vs ((a,cs,T)::L):=by
 subst ha
 have hb:=(Below.refl w.heap.size w).alloc (jR _) (.cells cs T)
 refine⟨h.rw.below hb,Below.trans' h.bl hb,h.rb,h.hs.add cs T,fun q hq=>?_⟩
 rcases List.mem_cons.1 hq with rfl | hq
 ·exact hT
 ·exact h.ty q hq
end
theorem isUnit_calls {W:World}{qu qv qm:Option Addr}(h:IsE W (.agg #[.pointer qu,.pointer qv,.pointer qm]) ⟨0,0,0⟩): Calls Tryz.prog 41 #[.agg #[.pointer qu,.pointer qv,.pointer qm]] W fun e W'=>e=.returned (.bool true)∧Hid (Below W.heap.size W W'):=by
 have HB1:=jH (jV W (.cells #[.pointer qu,.pointer qv,.pointer qm] 28)).out
 have hE:=equal_calls (W:=W.alloc (.cells #[.pointer qu,.pointer qv,.pointer qm] 28)) (h.below HB1.out) (isE_zero _)
 rw[decide_eq_true (rfl:(⟨0,0,0⟩:E3)=⟨0,0,0⟩)] at hE
 clear h
 go_enter Tryz.func41,Tryz.ntmps41
 go_wp2_with fail
 refine hE.mono ?_
 rintro e w2 ⟨rfl,hb2⟩
 go_wp2_with fail
 go_ret
 exact⟨rfl,Below.trans' HB1.out hb2.out⟩
end Sr

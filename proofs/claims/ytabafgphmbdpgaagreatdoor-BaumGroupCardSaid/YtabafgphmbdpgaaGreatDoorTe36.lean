/- Texts of this claim, joined: RAl, RBy, RByt, RNew, RCalc, RLow. -/
import Derived.Test.YtabafgphmbdpgaaGreatDoorTe1
import Derived.Test.YtabafgphmbdpgaaGreatDoorTe20
import Derived.Test.YtabafgphmbdpgaaGreatDoorTe35
set_option maxHeartbeats 8000000
set_option maxRecDepth 100000
namespace Sr
open Go Go.Proofs Go.RowKit Go.Maps Go.WideMaps
section
variable {vs:List Int} {X:Nat}
theorem rheight_le (hw:WV vs): ∀ (i:Nat) (y:Int),vs[i]? = some y→height y≤i:=by
 intro i
 induction i using Nat.strongRecOn with
 | ind i ih =>
   intro y hy
   rw[qs]
   have key:∀ l:List Nat,(∀ h∈l,h≤i)→maxl l≤i:=fun l=>by
    induction l with
    | nil=>intro _; simp[maxl]
    | cons a l ih2 =>
      intro h
      have h1:=h a (by simp)
      have h2:=ih2 (fun b hb=>h b (by simp[hb]))
      simp only[maxl];omega
   refine key _ fun h hh=>?_
   obtain⟨e,he,rfl⟩:=List.mem_map.1 hh
   obtain⟨k,hk,hke⟩:=hw.closed i y hy e he
   have:=ih k hk _ hke; omega
theorem rmaxl_append (a b:List Nat): maxl (a++b)=max (maxl a) (maxl b):=by
 induction a with
 | nil=>simp[maxl]
 | cons x a ih=>simp only[List.cons_append,maxl,ih];omega
structure HSt (vs:List Int)(X i m:Nat)(h:List Nat): Prop where
 len:h.length=X+1
 done:∀ j y,j<i→vs[j]? = some y→h[j]? = some (height y)
 mid:∀ y,vs[i]? = some y→i≤X→h[i]? = some (maxl (((exps y).take m).map fun (e:Nat)=>height (e:Int)+1))
 rest:∀ j,i<j→j≤X→h[j]? = some 0
theorem HSt.start (hw:WV vs)(X:Nat): HSt vs X 1 0 (List.replicate (X+1) 0) where
 len:=by simp
 done:=fun j y hj hy=>by
  obtain rfl:j=0:=by omega
  rw[hw.zero] at hy; cases hy
  have:height 0=0:=by rw[qs];simp[exps,j5,maxl]
  rw[this];simp
 mid:=fun y _ hX=>by simp[maxl,List.getElem?_replicate];omega
 rest:=fun j _ hj=>by simp[List.getElem?_replicate];omega
theorem HSt.step {i m e k:Nat}{y:Int}{h:List Nat}{a:Nat}(hs:HSt vs X i m h)(hy:vs[i]? = some y)(hi:i≤X)(he:(exps y)[m]? = some e)(hk:vs[k]? = some (e:Int))(hki:k<i)(ha:h[i]? = some a): h[k]? = some (height (e:Int))∧HSt vs X i (m+1) (h.set i (max a (height (e:Int)+1))):=by
 refine⟨hs.done k _ hki hk,by rw[List.length_set];exact hs.len,fun j z hj hz=>?_,fun z hz _=>?_,fun j hj hj2=>?_⟩
 ·rw[List.getElem?_set_ne (by omega)];exact hs.done j z hj hz
 ·rw[hy] at hz; cases hz
  have:=hs.mid y hy hi
  rw[ha] at this
  have e1:=Option.some.inj this
  rw[List.getElem?_set_self (jL ha).1,List.take_add_one,he,e1]
  simp only[Option.toList_some,List.map_append,List.map_cons,List.map_nil,rmaxl_append,maxl]
  (try congr 1);(try omega)
 ·rw[List.getElem?_set_ne (by omega)];exact hs.rest j hj hj2
theorem HSt.next {i m:Nat}{y:Int}{h:List Nat}(hs:HSt vs X i m h)(hy:vs[i]? = some y)(hi:i≤X)(hm:(exps y).length≤m): HSt vs X (i+1) 0 h :=
 ⟨hs.len,fun j z hj hz=>by
  rcases Nat.lt_or_ge j i with h1 | h1
  ·exact hs.done j z h1 hz
  ·obtain rfl:j=i:=by omega
   rw[hy] at hz; cases hz
   rw[hs.mid y hy hi,List.take_of_length_le hm,← qs],fun z _ hX=>by
  rw[List.take_zero,List.map_nil];exact hs.rest (i+1) (by omega) hX,fun j hj hj2=>hs.rest j (by omega) hj2⟩
theorem rHeight_calls {C:List Int}{W:World}{p:Nat}{fv:Value}{fl:List Value}(H:RW C W p fv fl vs){x:Int}(hX:vs[X]? = some x):
 Calls Tryz.prog 138 #[.pointer (some ⟨p,0,none⟩),.int .i64 (X:Nat)] W fun e W'=>e=.returned (.int .i64 (height x:Nat))∧Hid (Below W.heap.size W W'):=by
 have hwv:=jH H.wv
 have hvl:=H.vlen
 have HX:=jH hX
 have hXl:X<vs.length:=(jL hX).1
 have hXw:IntKind.i64.wrap ((X:Int)+1)=(X:Int)+1:=by rw[IntKind.wrap_i64];omega
 have X0:(0:Int)≤(X:Int):=by omega
 have X1:(X:Int)<(X:Int)+1:=by omega
 have hmk1:∀ w,(Instr.makeSlice 80 (.int .i64 ((X:Int)+1)) (.int .i64 ((X:Int)+1))).run Tryz.prog w=.ok (.slice (some ⟨w.heap.size,0,none⟩) (X+1) (X+1)) (w.alloc (.cells (madeCells #[.int .i64 0] (X+1)) 3)):=fun w =>
  run_make_row' (P:=Tryz.prog) 80 3 (.int .i64 0) 8 un80 info3 rfl .i64 .i64 (X+1) (by omega) (by omega) w
 have hrowM:=made_row (W:=W) 3 (.int .i64 0) (X+1) (by simp only[maxLen];omega)
 obtain⟨w1,bh,hw1,hbh,HR0,HB0⟩:∃ w1 bh,W.alloc (.cells (madeCells #[.int .i64 0] (X+1)) 3)=w1∧W.heap.size=bh∧Hid (IRow w1 (.slice (some ⟨bh,0,none⟩) (X+1) (X+1)) (List.replicate (X+1) 0))∧Hid (Below W.heap.size W w1):=by
  refine⟨_,_,rfl,rfl,?_,(Below.refl _ _).alloc (jR _) _⟩
  show World.ownsRow _ _ _ _ _ _ _
  rw[List.map_replicate,List.length_replicate];exact hrowM
 have HH:=jH H
 have hbW:Hid (W.heap.size≤bh):=Nat.le_of_eq hbh
 have S0:=jH (HSt.start hwv.out X)
 obtain⟨g,cap,hfv,-⟩:=H.formAt
 subst hfv
 clear hrowM H hX
 go_enter Tryz.func138,Tryz.ntmps138
 go_wp2_with fail
 clear hmk1 hw1 hbh
 go_loopg [6] X (fun g1 vi wr=>∃ (i:Nat) (h:List Nat),vi=.int .i64 i∧1≤i∧i≤X+1∧X+1 - i≤g1∧Hid (IRow wr (.slice (some ⟨bh,0,none⟩) (X+1) (X+1)) h)∧Hid (HSt vs X i 0 h)∧Hid (Below W.heap.size W wr))
 case atStart=>exact⟨1,_,rfl,by omega,by omega,by omega,HR0,S0,HB0⟩
 case round =>
  clear HR0 S0 HB0
  obtain⟨i,h,rfl,hi1,hiX,hg,HR,HS,HB⟩:=hrel
  have i0:(0:Int)≤(i:Int):=by omega
  have hiw:IntKind.i64.wrap ((i:Int)+1)=(i:Int)+1:=IntWalk.i64_in _ (by omega)
  by_cases hi:i≤X
  ·have hiz:(i:Int)≤(X:Int):=by omega
   have hiz1:(i:Int)<(X:Int)+1:=by omega
   have hizv:(i:Int)<(vs.length:Int):=by omega
   obtain⟨y,hy⟩:∃ y,vs[i]? = some y:=⟨_,jG (by omega)⟩
   have HY:=jH hy
   obtain⟨n,hn⟩:∃ n,n=(form y).length:=⟨_,rfl⟩
   have HN:=jH hn
   have hnl:n≤vs.length:=by rw[hn];have:=yz (vs:=vs) (x:=y) (fun e he=>hwv.out.mem_exps (jM hy) he);simpa [pf] using this
   clear hy hn
   go_wp2_with fail
   go_loopg [7] n (fun g2 vj wr=>∃ (m:Nat) (h:List Nat),vj=.int .i64 m∧m≤n∧n - m≤g2∧Hid (IRow wr (.slice (some ⟨bh,0,none⟩) (X+1) (X+1)) h)∧Hid (HSt vs X i m h)∧Hid (Below W.heap.size W wr))
   case atStart=>exact⟨0,h,rfl,by omega,by omega,HR,HS,HB⟩
   case round =>
    clear HR HS HB
    obtain⟨m,h,rfl,hmn,hg2,HR,HS,HB⟩:=hrel
    have m0:(0:Int)≤(m:Int):=Int.natCast_nonneg m
    have hmw:IntKind.i64.wrap ((m:Int)+1)=(m:Int)+1:=IntWalk.i64_in _ (by omega)
    have hw:=HH.out.below HB.out
    have c0:=hw.c0
    obtain⟨ra,rc,cr,hterm⟩:=hw.rowAt rfl HY.out
    rw[← HN.out] at cr
    by_cases hm:m<n
    ·have hmz:(m:Int)<(n:Int):=by omega
     obtain⟨⟨s,e⟩,ht⟩:∃ t,(form y)[m]? = some t:=⟨_,jG (by rw[← HN.out];exact hm)⟩
     obtain⟨b,rfl,d0,d1⟩:=hterm m _ ht
     dsimp only at d0 d1
     have hee:(exps y)[m]? = some e:=by unfold exps; rw[List.getElem?_map,ht];rfl
     obtain⟨k,hk,hke⟩:=hwv.out.closed i y HY.out e (jM hee)
     rw[hwv.out.idx_get hke] at d1
     obtain⟨a,ha⟩:∃ a,h[i]? = some a:=⟨_,jG (by have:=HS.out.len; omega)⟩
     obtain⟨hkh,hs2⟩:=HS.out.step HY.out hi hee hke hk ha
     have hhl:=rheight_le hwv.out k _ hke
     obtain⟨q,hq⟩:∃ q,q=height (e:Int):=⟨_,rfl⟩
     rw[← hq] at hkh hs2 hhl
     have ca:=HR.out.at ha
     have cq:=HR.out.at hkh
     have fa:=HR.out.free i
     have k0:(0:Int)≤(k:Int):=Int.natCast_nonneg k
     have kz:(k:Int)<(X:Int)+1:=by omega
     have hqw:IntKind.i64.wrap ((q:Int)+1)=(q:Int)+1:=IntWalk.i64_in _ (by omega)
     have HS2:=jH hs2
     have HR2:Hid (∀ v:Nat,v=max a (q+1)→IRow (wr.setCell ⟨bh,i,none⟩ (.int .i64 (v:Nat))) (.slice (some ⟨bh,0,none⟩) (X+1) (X+1)) (h.set i (max a (q+1)))):=fun v hv=>by subst hv; exact HR.out.set i _
     have HB2:Hid (∀ v,Below W.heap.size W (wr.setCell ⟨bh,i,none⟩ v)):=fun v=>⟨HB.out.os,HB.out.tape,HB.out.output,by have:=HB.out.size; simpa using this,fun z hz=>(jS _ _ _ _ (by show z≠bh; have:=hbW.out; omega)).trans (HB.out.block z hz)⟩
     have hmx:max (a:Int) ((q:Int)+1)=((max a (q+1):Nat):Int):=by omega
     clear hw hterm hee hke ht d0 ha hkh hq hs2 HS
     go_wp2_with fail
     go_region
     go_wp2_with fail
     go_roundg (n - (m+1))
     case measure=>omega
     case rel=>exact⟨m+1,_,by go_num,by omega,by omega,jK (HR2.out _ rfl) ((Below.refl _ _).drew),HS2,(HB2.out _).drew⟩
    ·have hmz:¬ ((m:Int)<(n:Int)):=by omega
     have HS2:=jH (HS.out.next HY.out hi (by rw[js,← HN.out];omega))
     clear hw hterm HS
     go_wp2_with fail
     go_roundg (X+1 - (i+1))
     case measure=>omega
     case rel=>exact⟨i+1,h,by go_num,by omega,by omega,by omega,HR,HS2,HB⟩
  ·have hiz:¬ ((i:Int)≤(X:Int)):=by omega
   have hx:=HS.out.done X x (by omega) HX.out
   have cx:=HR.out.at hx
   clear hx HS HR
   go_wp2_with fail
   go_ret
   exact⟨rfl,HB⟩
open Classical in
theorem rAllowed_calls {C:List Int}{W:World}{p:Nat}{fv:Value}{fl:List Value}(H:RW C W p fv fl vs){x:Int}(hX:vs[X]? = some x):
 Calls Tryz.prog 117 #[.pointer (some ⟨p,0,none⟩),.int .i64 (X:Nat)] W fun e W'=>e=.returned (.bool (decide (allowed x)))∧Hid (Below W.heap.size W W'):=by
 have hwv:=jH H.wv
 have hvl:=H.vlen
 have HX:=jH hX
 have HH:=jH H
 have hP:=rParts_calls H hX
 have hm:∀ q∈Sr.parts x,(q:Int)∈vs:=fun q hq=>H.wv.mem_parts (jM hX) (mem_parts.1 hq)
 have Hm:=jH hm
 obtain⟨L,hL⟩:∃ L,L=((Sr.parts x).map fun (q:Nat)=>vs.idxOf (q:Int))++[X]:=⟨_,rfl⟩
 rw[← hL] at hP
 have HL:=jH hL
 obtain⟨g,cap,hfv,-⟩:=H.formAt
 subst hfv
 have HG:Hid (∀ (i j:Nat),L[i]? = some j→∃ y,vs[j]? = some y∧((i<(Sr.parts x).length∧∃ q:Nat,(Sr.parts x)[i]? = some q∧y=(q:Int))∨(i=(Sr.parts x).length∧y=x))):=fun i j hij=>by
  rw[hL] at hij
  rcases Nat.lt_or_ge i (Sr.parts x).length with h | h
  ·rw[List.getElem?_append_left (by simpa using h),List.getElem?_map] at hij
   obtain⟨q,hq,rfl⟩:=Option.map_eq_some_iff.1 hij
   exact⟨(q:Int),jU (hm q (jM hq)),.inl ⟨h,q,hq,rfl⟩⟩
  ·rw[List.getElem?_append_right (by simpa using h)] at hij
   have h2:=(jL hij).1
   simp at h2
   have h3:i=(Sr.parts x).length:=by omega
   rw[h3] at hij
   simp at hij
   subst hij
   exact⟨x,hX,.inr ⟨h3,rfl⟩⟩
 have hLl:L.length=(Sr.parts x).length+1:=by rw[hL];simp
 obtain⟨n,hn⟩:∃ n,n=L.length:=⟨_,rfl⟩
 have HN:=jH hn
 have hnn:n=(Sr.parts x).length+1:=hn.trans hLl
 have HNn:=jH hnn
 have hn1:n≤6000000000000:=by
  have h1:=jT (Sr.parts x) (vs.map Int.toNat) (qE x) (fun q hq=>List.mem_map.2 ⟨(q:Int),hm q hq,by simp⟩)
  rw[List.length_map] at h1; omega
 clear H hX hL hm hn hnn hLl
 go_enter Tryz.func117,Tryz.ntmps117
 go_wp2_with fail
 refine hP.mono ?_
 rintro e w1 ⟨v1,rfl,hr1,hb1⟩
 obtain⟨a1,n1,c1,hv1⟩:∃ a n c,v1=.slice a n c:=by
  obtain⟨_,⟨h,_⟩ | ⟨g',cap',cur,h,_⟩⟩:=hr1.out
  ·exact⟨_,_,_,h⟩
  ·exact⟨_,_,_,h⟩
 subst hv1
 obtain rfl:n1=n:=by rw[HN.out];exact hr1.out.len
 have hH:=jH (fun M=>rHeight_calls ((HH.out.below hb1.out).drewN M) HX.out)
 clear hP
 go_wp2_with fail
 go_loopg [6] n1 (fun g1 vi wr=>∃ (i m:Nat),vi=.int .i64 i∧i≤n1∧n1 - i≤g1∧wr=w1.drewN m∧Hid (∀ j<i,∀ d y,L[j]? = some d→vs[d]? = some y→(form y).length≤300))
 case atStart=>exact⟨0,0,rfl,by omega,by omega,rfl,fun j hj=>by omega⟩
 case round =>
  obtain⟨i,m,rfl,hi,hg,rfl,HA⟩:=hrel
  have i0:(0:Int)≤(i:Int):=Int.natCast_nonneg i
  have hiw:IntKind.i64.wrap ((i:Int)+1)=(i:Int)+1:=IntWalk.i64_in _ (by omega)
  by_cases hin:i<n1
  ·have hiz:(i:Int)<(n1:Int):=by omega
   obtain⟨d,hd⟩:∃ d,L[i]? = some d:=⟨_,jG (by rw[← HN.out];exact hin)⟩
   obtain⟨y,hy,hwho⟩:=HG.out i d hd
   obtain⟨gl,hgl,cl⟩:∃ b,a1=some ⟨b,0,none⟩∧w1.cell? ⟨b,i,none⟩=some (.int .i64 (d:Nat)):=by
    obtain⟨g',cap',hv,hc⟩:=qS (k:=i) (x:=.int .i64 (d:Nat)) hr1.out (by rw[List.getElem?_map,hd];rfl)
    obtain⟨e1,_,_⟩:=Value.slice.inj hv
    exact⟨g',e1,hc⟩
   subst hgl
   have hw:=HH.out.below hb1.out
   have c0:=hw.c0
   obtain⟨ra,rc,cr,-⟩:=hw.rowAt rfl hy
   have hdl:=(jL hy).1
   have d0:(0:Int)≤(d:Int):=Int.natCast_nonneg d
   have dz:(d:Int)<(vs.length:Int):=by omega
   obtain⟨k,hk⟩:∃ k,k=(form y).length:=⟨_,rfl⟩
   rw[← hk] at cr
   by_cases h300:k≤300
   ·have hz:¬ ((300:Int)<(k:Int)):=by omega
    have hz2:decide ((300:Int)<(k:Int))=false:=by simpa using hz
    have HA2:Hid (∀ j<i+1,∀ d y,L[j]? = some d→vs[d]? = some y→(form y).length≤300):=fun j hj d' y' h1 h2=>by
     by_cases hji:j=i
     ·subst hji; rw[hd] at h1; cases h1; rw[hy] at h2; cases h2; omega
     ·exact HA.out j (by omega) d' y' h1 h2
    clear hw hd hy hwho hk HA
    go_wp2_with fail
    go_quiet (fail)
    go_wp2_with fail
    go_roundg (n1 - (i+1))
    case measure=>omega
    case rel=>exact⟨i+1,_,by go_num,by omega,by omega,(by first | rfl | exact World.drewN_drewN _ _ _),HA2⟩
   ·have hz:(300:Int)<(k:Int):=by omega
    have hno:Hid (¬ allowed x):=fun ha=>by
     rcases hwho with ⟨_,q,hq,rfl⟩ | ⟨_,rfl⟩
     ·have:=ha.2.1 q (jM hq);omega
     ·have:=ha.1; omega
    clear hw hd hy hwho hk HA
    go_wp2_with fail
    go_quiet (fail)
    go_wp2_with fail
    go_ret
    refine⟨?_,Below.trans' (Below.trans' hb1.out (jN _ _)) (jN _ _)⟩
    show Ending.returned (.bool false)=_
    rw[decide_eq_false hno.out]
  ·have hall:Hid ((form x).length≤300∧∀ q∈Sr.parts x,(form (q:Int)).length≤300):=by
    have key:∀ (j d:Nat) (y:Int),L[j]? = some d→vs[d]? = some y→(form y).length≤300:=fun j d y h1 h2=>HA.out j (by have:=(jL h1).1; rw[← HN.out] at this; omega) d y h1 h2
    refine⟨key (Sr.parts x).length X x ?_ HX.out,fun q hq=>?_⟩
    ·rw[HL.out,List.getElem?_append_right (by simp)];simp
    ·have hg:=qY hq
     refine key ((Sr.parts x).idxOf q) (vs.idxOf (q:Int)) q ?_ (jU (Hm.out q hq))
     rw[HL.out,List.getElem?_append_left (by simpa using (jL hg).1),List.getElem?_map,hg];rfl
   obtain⟨ht,hht⟩:∃ h,h=height x:=⟨_,rfl⟩
   by_cases h2000:n1≤2000
   ·have hz:(n1:Int)≤2000:=by omega
    have hC:=hH.out m
    rw[← hht] at hC
    clear HA
    go_wp2_with fail
    refine hC.mono ?_
    rintro y w2 ⟨rfl,hb2⟩
    have HB2:=jH hb2.out
    by_cases h100:ht≤100
    ·have hz1:(ht:Int)≤100:=by omega
     have hyes:allowed x:=⟨hall.out.1,hall.out.2,by have:=HNn.out; omega,by omega⟩
     clear hC hb2 hht
     go_wp2_with fail
     go_ret
     refine⟨?_,Below.trans' (Below.trans' hb1.out (jN _ _)) HB2.out⟩
     show Ending.returned (.bool true)=_
     rw[decide_eq_true hyes]
    ·have hz1:¬ ((ht:Int)≤100):=by omega
     have hz2:decide ((ht:Int)≤100)=false:=by simpa using hz1
     have hno:¬ allowed x:=fun ha=>by have:=ha.2.2.2; omega
     clear hC hb2 hht
     go_wp2_with fail
     go_ret
     refine⟨?_,Below.trans' (Below.trans' hb1.out (jN _ _)) HB2.out⟩
     show Ending.returned (.bool false)=_
     rw[decide_eq_false hno]
   ·have hz:¬ ((n1:Int)≤2000):=by omega
    have hz2:decide ((n1:Int)≤2000)=false:=by simpa using hz
    have hno:¬ allowed x:=fun ha=>by have:=ha.2.2.1; have:=HNn.out; omega
    clear HA hht
    go_wp2_with fail
    go_ret
    refine⟨?_,Below.trans' hb1.out (jN _ _)⟩
    show Ending.returned (.bool false)=_
    first | rfl | rw[decide_eq_false hno]
end
section
variable {ops:Array Oper} {rest:List Oper} {o:Oper} {a:Act} {Q:Exit→Act→World→Prop} {K:Act→World→Prop} {W:World} {E:Prop}
theorem wp_B (s x:Operand)(ho:o.op=.call { callee:=.builtin .append,args:=#[s,x],argTypes:=#[40,40] }) 
 (v:Value) (l:List UInt8) (hs:a.eval s=v) (hown:BRow W v l) (B m c:Nat) (l2:List UInt8) (hx:a.eval x=.slice (some ⟨B,0,none⟩) m c) (hm:l2.length=m) (hm0:0<m) (cs:Array Value) (hcs:cs.toList=l2.map fun b=>.int .u8 (b.toNat:Nat))
 (hB:W.heap[B]? = some (.cells cs 5 (0,0))) (n:Nat) (hn:l.length+m=n) (hb:n≤1099511627776) (H:Nat) (hH:W.heap.size=H)
 (h:∀ g cap w',BRow w' (.slice (some ⟨g,0,none⟩) n cap) (l++l2)→W.grownBy w' v.ownBlock→(v.ownBlock=some g∨g=H)→g<w'.heap.size→K (a.put o.dst (.slice (some ⟨g,0,none⟩) n cap)) w'):o.wp Tryz.prog a W K Q:=by
 obtain⟨i,hi,hz0,hz1,hz2⟩:=info_parts info5
 subst hm hn
 refine wp_append_lies W s x 40 ho 0 5 i _ 1 1 un40 hi hz0 hz1 hz2 rfl (by decide) v l.length _ hs hown ⟨B,0,none⟩ l2.length c (l2.map fun b=>.int .u8 (b.toNat:Nat)) hx (by simp) (fun j u hu=>World.news_of_block hB j u (by rw[hcs];exact hu)) (by intro u hu; obtain⟨b,_,rfl⟩:=List.mem_map.1 hu; rfl) hm0 (by simp only[maxLen];omega) (by omega) (Nat.zero_le _) H hH ?_
 intro g cap w' k1 k2 k3 k4
 refine h g cap w' ?_ k2 k3 k4
 unfold BRow
 rw[List.length_append,List.map_append];exact k1
theorem app_B2 (hgd:o.guard=none)(s x:Operand)(ho:o.op=.call { callee:=.builtin .append,args:=#[s,x],argTypes:=#[40,40] }) 
 (v:Value) (l:List UInt8) (hs:a.eval s=v) (hown:BRow W v l) (B m c:Nat) (l2:List UInt8) (hx:a.eval x=.slice (some ⟨B,0,none⟩) m c) (hm:l2.length=m) (hm0:0<m) (cs:Array Value) (hcs:cs.toList=l2.map fun b=>.int .u8 (b.toNat:Nat))
 (hB:W.heap[B]? = some (.cells cs 5 (0,0))) (n:Nat) (hn:l.length+m=n) (hb:n≤1099511627776) (H:Nat) (hH:W.heap.size=H)
 (h:∀ g cap w',BRow w' (.slice (some ⟨g,0,none⟩) n cap) (l++l2)→W.grownBy w' v.ownBlock→(v.ownBlock=some g∨g=H)→g<w'.heap.size→wpList Tryz.prog ops Q rest (a.put o.dst (.slice (some ⟨g,0,none⟩) n cap)) w'):wpList Tryz.prog ops Q (o::rest) a W :=
 wpList_plain hgd fun _ hK=>wp_B s x ho v l hs hown B m c l2 hx hm hm0 cs hcs hB n hn hb H hH fun g cap w' h2 h3 h4 h5=>hK _ _ (h g cap w' h2 h3 h4 h5)
theorem step_B2 (hgd:o.guard=none)(s x:Operand)(ho:o.op=.call { callee:=.builtin .append,args:=#[s,x],argTypes:=#[40,40] }) 
 (v:Value) (l:List UInt8) (hs:a.eval s=v) (hown:BRow W v l) (B m c:Nat) (l2:List UInt8) (hx:a.eval x=.slice (some ⟨B,0,none⟩) m c) (hm:l2.length=m) (hm0:0<m) (cs:Array Value) (hcs:cs.toList=l2.map fun b=>.int .u8 (b.toNat:Nat))
 (hB:W.heap[B]? = some (.cells cs 5 (0,0))) (n:Nat) (hn:l.length+m=n) (hb:n≤1099511627776) (H:Nat) (hH:W.heap.size=H)
 (h:∀ g cap w',BRow w' (.slice (some ⟨g,0,none⟩) n cap) (l++l2)→W.grownBy w' v.ownBlock→(v.ownBlock=some g∨g=H)→g<w'.heap.size→K (a.put o.dst (.slice (some ⟨g,0,none⟩) n cap)) w') :
 if Region.wanted o (yielded ops a.tmps)=true then Oper.wp Tryz.prog o a W K Q else E:=by
 rw[show Region.wanted o (yielded ops a.tmps)=true by simp[Region.wanted,hgd]]
 exact wp_B s x ho v l hs hown B m c l2 hx hm hm0 cs hcs hB n hn hb H hH h
end
def twC (n:Nat): Array Value:=#[.int .u8 ((n:Int) / 256 % 256),.int .u8 ((n:Int) % 256)]
theorem xK (W:World)(n:Nat): Calls Tryz.prog 77 #[.int .i64 (n:Nat)] W fun e W'=>e=.returned (.slice (some ⟨W.heap.size,0,none⟩) 2 2)∧W'=W.alloc (.cells (twC n) 5):=by
 have n0:(0:Int)≤(n:Int):=Int.natCast_nonneg n
 go_enter Tryz.func77,Tryz.ntmps77
 go_wp2_with fail
 go_ret
 exact⟨rfl,rfl⟩
theorem rplace_calls {W:World}{v:Value}{l:List Nat}(hl:IRow W v l){i d:Nat}(hi:l[i]? = some d)(hn:∀ j<i,l[j]?≠some d)(hb:l.length≤6000000000000):
 Calls Tryz.prog 78 #[v,.int .i64 (d:Nat)] W fun e W'=>e=.returned (.int .i64 (i:Nat))∧W'=W:=by
 have hil:=(jL hi).1
 obtain⟨g,n,c,rfl⟩:∃ g n c,v=.slice (some ⟨g,0,none⟩) n c:=by
  obtain⟨_,⟨_,h⟩ | ⟨g',cap',cur,h,_⟩⟩:=hl
  ·omega
  ·exact⟨_,_,_,h⟩
 have hln:=hl.len
 have HL:=jH hl
 have HI:=jH hi
 have HN:=jH hn
 have hin:i<n:=by omega
 have hnb:n≤6000000000000:=by omega
 have Hln:=jH hln
 clear hl hi hn hln hil hb
 go_enter Tryz.func78,Tryz.ntmps78
 go_wp2_with fail
 go_loopg [5] i (fun g1 vi wr=>∃ k:Nat,vi=.int .i64 k∧k≤i∧i - k≤g1∧wr=W)
 case atStart=>exact⟨0,rfl,by omega,by omega,rfl⟩
 case round =>
  obtain⟨k,rfl,hki,hg,rfl⟩:=hrel
  have k0:(0:Int)≤(k:Int):=Int.natCast_nonneg k
  have kz:(k:Int)<(n:Int):=by omega
  have hkw:IntKind.i64.wrap ((k:Int)+1)=(k:Int)+1:=IntWalk.i64_in _ (by omega)
  obtain⟨q,hq⟩:∃ q,l[k]? = some q:=⟨_,jG (by rw[← Hln.out];omega)⟩
  have cq:=HL.out.at hq
  by_cases hk:k=i
  ·subst hk
   rw[HI.out] at hq
   cases hq
   go_wp2_with fail
   go_ret
   exact⟨rfl,rfl⟩
  ·have hne:¬ ((q:Int)=(d:Int)):=fun h=>HN.out k (by omega) (by rw[hq];congr 1; omega)
   have hne2:((q:Int)==(d:Int))=false:=by simpa using hne
   clear hq
   go_wp2_with fail
   go_roundg (i - (k+1))
   case measure=>omega
   case rel=>exact⟨k+1,by go_num,by omega,by omega,rfl⟩
section
noncomputable def byY (x:Int): List Int:=((Sr.parts x).map fun (q:Nat)=>(q:Int))++[x]
noncomputable def byL (vs:List Int)(x:Int)(X:Nat): List Nat:=((Sr.parts x).map fun (q:Nat)=>vs.idxOf (q:Int))++[X]
noncomputable def byB (x:Int)(i:Nat): List UInt8:=tw ((Sr.parts x).length+1)++((byY x).take i).flatMap fun y=>wl (atPl (Sr.parts x) y)
def byT (l:List PT): List UInt8:=l.flatMap fun t=>sb t.1::tw t.2
theorem byB_end (x:Int): byB x ((Sr.parts x).length+1)=nbytes x:=by
 unfold byB nbytes byY
 rw[List.take_of_length_le (by simp),List.flatMap_append,List.flatMap_map]
 simp[List.append_assoc]
variable {x:Int} {vs:List Int} {X:Nat}
theorem byB_next {i:Nat}{y:Int}(h:(byY x)[i]? = some y): byB x (i+1)=byB x i++(tw (form y).length++byT (atPl (Sr.parts x) y)):=by
 unfold byB
 rw[j8 h,List.flatMap_append,← List.append_assoc]
 congr 1
 simp[wl,byT,atPl]
theorem byT_snoc {l:List PT}{k:Nat}{t:PT}(h:l[k]? = some t): byT (l.take (k+1))=byT (l.take k)++[sb t.1]++tw t.2:=by
 unfold byT; rw[j8 h,List.flatMap_append];simp
theorem byL_get (hw:WV vs)(hX:vs[X]? = some x){i d:Nat}(h:(byL vs x X)[i]? = some d): ∃ y,(byY x)[i]? = some y∧vs[d]? = some y∧(y=x∨∃ q:Nat,y=(q:Int)∧q∈Sr.parts x):=by
 unfold byL at h
 unfold byY
 rcases Nat.lt_or_ge i (Sr.parts x).length with h1 | h1
 ·rw[List.getElem?_append_left (by simpa using h1),List.getElem?_map] at h
  obtain⟨q,hq,rfl⟩:=Option.map_eq_some_iff.1 h
  have hm:=jM hq
  exact⟨(q:Int),by rw[List.getElem?_append_left (by simpa using h1),List.getElem?_map,hq];rfl,jU (hw.mem_parts (jM hX) (mem_parts.1 hm)),.inr ⟨q,rfl,hm⟩⟩
 ·rw[List.getElem?_append_right (by simpa using h1)] at h
  have h2:=(jL h).1
  simp at h2
  have h3:i=(Sr.parts x).length:=by omega
  subst h3
  simp at h; subst h
  exact⟨x,by rw[List.getElem?_append_right (by simp)];simp,hX,.inl rfl⟩
theorem byL_place (hw:WV vs)(hX:vs[X]? = some x){e:Nat}(he:e∈Sr.parts x): (byL vs x X)[(Sr.parts x).idxOf e]? = some (vs.idxOf (e:Int))∧∀ j<(Sr.parts x).idxOf e,(byL vs x X)[j]?≠some (vs.idxOf (e:Int)):=by
 have hg:=qY he
 have hl:=(jL hg).1
 refine⟨by unfold byL; rw[List.getElem?_append_left (by simpa using hl),List.getElem?_map,hg];rfl,fun j hj h=>?_⟩
 unfold byL at h
 rw[List.getElem?_append_left (by rw[List.length_map];omega),List.getElem?_map] at h
 obtain⟨q,hq,h2⟩:=Option.map_eq_some_iff.1 h
 have hqm:=hw.mem_parts (jM hX) (mem_parts.1 (jM hq))
 have hem:=hw.mem_parts (jM hX) (mem_parts.1 he)
 have h3:=jU hqm
 rw[h2,jU hem] at h3
 have h4:q=e:=by have:=Option.some.inj h3; omega
 subst h4
 have h5:=parts_inj hq hg
 omega
theorem byL_len (vs:List Int)(x:Int)(X:Nat): (byL vs x X).length=(Sr.parts x).length+1:=by simp[byL]
structure BtS (x:Int): Prop where
 n:(Sr.parts x).length≤99999999
 f:(form x).length≤2600
 p:∀ q∈Sr.parts x,(form (q:Int)).length≤2600
theorem BtS.of_allowed (h:allowed x): BtS x:=⟨by have:=h.2.2.1; omega,by have:=h.1; omega,fun q hq=>by have:=h.2.1 q hq; omega⟩
theorem rBytesS_calls {C:List Int}{W:World}{p:Nat}{fv:Value}{fl:List Value}(H:RW C W p fv fl vs)(hX:vs[X]? = some x)(hal:BtS x):
 Calls Tryz.prog 37 #[.pointer (some ⟨p,0,none⟩),.int .i64 (X:Nat)] W (BtQ x W):=by
 have hwv:=jH H.wv
 have hvl:=H.vlen
 have HX:=jH hX
 have HH:=jH H
 have HAl:=jH hal
 have hP:=rParts_calls H hX
 have hLl:=byL_len vs x X
 obtain⟨L,hL⟩:∃ L,L=byL vs x X:=⟨_,rfl⟩
 have hP2:Calls Tryz.prog 76 #[.pointer (some ⟨p,0,none⟩),.int .i64 (X:Nat)] W fun e W'=>∃ v',e=.returned v'∧Hid (IRow W' v' L)∧Hid (Below W.heap.size W W'):=by rw[hL];exact hP
 rw[← hL] at hLl
 have HG:Hid (∀ (i d:Nat),L[i]? = some d→∃ y,(byY x)[i]? = some y∧vs[d]? = some y∧(y=x∨∃ q:Nat,y=(q:Int)∧q∈Sr.parts x)):=fun i d h=>byL_get hwv.out hX (by rw[← hL];exact h)
 have HPl:Hid (∀ e∈Sr.parts x,L[(Sr.parts x).idxOf e]? = some (vs.idxOf (e:Int))∧∀ j<(Sr.parts x).idxOf e,L[j]?≠some (vs.idxOf (e:Int))):=fun e he=>by rw[hL];exact byL_place hwv.out hX he
 obtain⟨N,hN⟩:∃ N,N=L.length:=⟨_,rfl⟩
 have hN2:N=(Sr.parts x).length+1:=hN.trans hLl
 have hNb:N≤100000000:=by have:=hal.n; omega
 have HN:=jH hN
 have HN2:=jH hN2
 obtain⟨g,cap,hfv,-⟩:=H.formAt
 subst hfv
 clear H hX hL hLl hP hN hN2 hal
 go_enter Tryz.func37,Tryz.ntmps37
 go_wp2_with fail
 refine hP2.mono ?_
 rintro e w1 ⟨v1,rfl,hr1,hb1⟩
 obtain⟨gl,n1,c1,hv1⟩:∃ a n c,v1=.slice (some ⟨a,0,none⟩) n c:=by
  obtain⟨_,⟨_,h⟩ | ⟨g',cap',cur,h,_⟩⟩:=hr1.out
  ·have:=HN.out; have:=HN2.out; omega
  ·exact⟨_,_,_,h⟩
 subst hv1
 obtain rfl:n1=N:=by rw[HN.out];exact hr1.out.len
 have hT:=xK w1 n1
 clear hP2
 go_wp2_with fail
 refine hT.mono ?_
 rintro e w2 ⟨rfl,hw2⟩
 have HB2:Hid (Below w1.heap.size w1 w2):=by show Below _ _ _; rw[hw2];exact (Below.refl _ _).alloc (jR _) _
 have HO2:Hid (BRow w2 (.slice (some ⟨w1.heap.size,0,none⟩) 2 2) (byB x 0)):=by
  show BRow _ _ _
  have e1:byB x 0=tw n1:=by unfold byB; rw[HN2.out];simp
  rw[e1,hw2]
  exact⟨rfl,.inr ⟨w1.heap.size,2,_,rfl,Nat.zero_le _,jD _ _,jR _,by decide,rfl,tw_cells n1⟩⟩
 clear hT hw2
 go_wp2_with fail
 go_loopg [6,7] n1 (fun g1 vo vi wr=>∃ (i b n c:Nat),vo=.slice (some ⟨b,0,none⟩) n c∧vi=.int .i64 i∧i≤n1∧n1 - i≤g1∧n≤2+i*7802∧Hid (BRow wr (.slice (some ⟨b,0,none⟩) n c) (byB x i))∧Hid (w1.heap.size≤b)∧Hid (Below w1.heap.size w1 wr))
 case atStart=>exact⟨0,w1.heap.size,2,2,rfl,rfl,by omega,by omega,by omega,HO2,jR _,HB2⟩
 case round =>
  clear HO2 HB2
  obtain⟨i,b,n,c,rfl,rfl,hin,hg,hnb,HO,HOb,HB⟩:=hrel
  have i0:(0:Int)≤(i:Int):=Int.natCast_nonneg i
  have hiw:IntKind.i64.wrap ((i:Int)+1)=(i:Int)+1:=IntWalk.i64_in _ (by omega)
  by_cases hi:i<n1
  ·have hiz:(i:Int)<(n1:Int):=by omega
   obtain⟨d,hd⟩:∃ d,L[i]? = some d:=⟨_,jG (by rw[← HN.out];exact hi)⟩
   obtain⟨y,hyY,hy,hwho⟩:=HG.out i d hd
   have hrl:IRow wr (.slice (some ⟨gl,0,none⟩) n1 c1) L:=jK hr1.out HB.out
   have cl:=hrl.at hd
   have hw:=(HH.out.below hb1.out).below HB.out
   have c0:=hw.c0
   obtain⟨ra,rc,cr1,hterm⟩:=(HH.out.below hb1.out).rowAt rfl hy
   have cr:=qn HB.out cr1
   have HTm:=jH hterm
   have d0:(0:Int)≤(d:Int):=Int.natCast_nonneg d
   have dz:(d:Int)<(vs.length:Int):=by have:=(jL hy).1; omega
   have hf300:(form y).length≤2600:=by
    rcases hwho with rfl | ⟨q,rfl,hq⟩
    ·exact HAl.out.f
    ·exact HAl.out.p q hq
   have hpart:∀ e∈exps y,e∈Sr.parts x:=fun e he=>by
    rcases hwho with rfl | ⟨q,rfl,hq⟩
    ·exact mem_parts.2 (.here he)
    ·exact mem_parts.2 (.step (mem_parts.1 hq) he)
   obtain⟨m,hm⟩:∃ m,m=(form y).length:=⟨_,rfl⟩
   rw[← hm] at cr hf300
   have HM:=jH hm
   have HYY:=jH hyY
   have Hy:=jH hy
   have HPt:=jH hpart
   have HBm:=jH HB.out
   have hT:=fun M=>xK (wr.drewN M) m
   obtain⟨wm,rfl⟩:∃ w,w=wr:=⟨_,rfl⟩
   clear hw hterm hd hyY hy hwho hm hpart hrl cr1
   go_wp2_with fail
   go_quiet (fail)
   go_wp2_with fail
   refine (hT _).mono ?_
   rintro e w3 ⟨rfl,hw3⟩
   have HB3:Hid (Below w1.heap.size w1 w3):=by show Below _ _ _; rw[hw3];exact Below.trans HB.out ⟨rfl,rfl,rfl,by simp,fun q hq=>jE (wm.drewN _) _ (by have:=HB.out.size; show q<wm.heap.size; omega)⟩
   have hb3:w3.heap[wm.heap.size]? = some (.cells (twC m) 5 (0,0)):=by rw[hw3];exact jD (wm.drewN _) _
   have HO3:Hid (BRow w3 (.slice (some ⟨b,0,none⟩) n c) (byB x i)):=by show BRow _ _ _; rw[hw3];exact World.ownsRow.alloc (w:=wm.drewN _) HO.out _
   have hln:(byB x i).length=n:=by
    obtain⟨_,⟨h,_⟩ | ⟨g',cap',cur,h,_⟩⟩:=HO.out
    ·cases h
    ·cases h; rfl
   have hl2:(byB x i).length+2=n+2:=by rw[hln]
   have hbd:n+2≤1099511627776:=by omega
   clear hT hw3 hln HO HB
   go_wp2_with (at_builtin; go_loud (refine app_B2 rfl _ _ rfl (.slice (some ⟨b,0,none⟩) n c) (byB x i) rfl HO3.out _ 2 2 (tw m) rfl rfl (by decide) (twC m) (tw_cells m) hb3 (n+2) hl2 hbd _ rfl ?_);intro b4 c4 w4 R4 G4 A4 L4)
   have HB4:Hid (Below w1.heap.size w1 w4):=Below.trans HB3.out (j9 G4 (fun q hq=>by cases hq; exact HOb.out) HB3.out.size)
   have HO4:Hid (w1.heap.size≤b4):=by
    rcases A4 with h | h
    ·cases h; exact HOb.out
    ·show w1.heap.size≤b4
     rw[h];exact HB3.out.size
   have HR4:Hid (BRow w4 (.slice (some ⟨b4,0,none⟩) (n+2) c4) (byB x i++(tw m++byT ((atPl (Sr.parts x) y).take 0)))):=by
    show BRow _ _ _
    have:byT ((atPl (Sr.parts x) y).take 0)=[]:=rfl
    rw[this,List.append_nil];exact R4
   clear R4 G4 A4 L4 HB3 HO3 hb3 HOb hbd hl2
   go_loopg [6,9] m (fun g2 vo vk wr=>∃ (k b n' c:Nat),vo=.slice (some ⟨b,0,none⟩) n' c∧vk=.int .i64 k∧k≤m∧m - k≤g2∧n'≤4+i*7802+3*k∧Hid (BRow wr (.slice (some ⟨b,0,none⟩) n' c) (byB x i++(tw m++byT ((atPl (Sr.parts x) y).take k))))∧Hid (w1.heap.size≤b)∧Hid (Below w1.heap.size w1 wr))
   case atStart=>exact⟨0,b4,n+2,c4,rfl,rfl,by omega,by omega,by omega,HR4,HO4,HB4⟩
   case round =>
    clear HR4 HO4 HB4
    obtain⟨k,b,n',c,rfl,rfl,hkm,hg2,hn',HO,HOb,HB⟩:=hrel
    have k0:(0:Int)≤(k:Int):=Int.natCast_nonneg k
    have hkw:IntKind.i64.wrap ((k:Int)+1)=(k:Int)+1:=IntWalk.i64_in _ (by omega)
    by_cases hk:k<m
    ·have hkz:(k:Int)<(m:Int):=by omega
     obtain⟨⟨s,e⟩,ht⟩:∃ t,(form y)[k]? = some t:=⟨_,jG (by rw[← HM.out];exact hk)⟩
     obtain⟨fb,rfl,d0,d1⟩:=HTm.out k _ ht
     dsimp only at d0 d1
     have hee:e∈exps y:=Sr.mem_exps (jM ht)
     obtain⟨hpl1,hpl2⟩:=HPl.out e (HPt.out e hee)
     obtain⟨q,hq⟩:∃ q,q=(Sr.parts x).idxOf e:=⟨_,rfl⟩
     obtain⟨d2,hd2⟩:∃ d,d=vs.idxOf (e:Int):=⟨_,rfl⟩
     rw[← hd2] at d1 hpl1 hpl2
     rw[← hq] at hpl1 hpl2
     have hti:(atPl (Sr.parts x) y)[k]? = some (s,q):=by unfold atPl; rw[List.getElem?_map,ht,hq];rfl
     have HSn:=jH (byT_snoc hti)
     have c0:=qn HB.out d0
     have c1':=qn HB.out d1
     have HK:Hid (∀ w',Below w1.heap.size w1 w'→w'.cell? ⟨fb,k*2+1,none⟩=some (.int .i64 (d2:Nat))):=fun w' h=>qn h d1
     have HPw:Hid (∀ w',Below w1.heap.size w1 w'→Calls Tryz.prog 78 #[.slice (some ⟨gl,0,none⟩) n1 c1,.int .i64 (d2:Nat)] w' fun e W'=>e=.returned (.int .i64 (q:Nat))∧W'=w'):=fun w' h=>rplace_calls (jK hr1.out h) hpl1 hpl2 (by rw[← HN.out];omega)
     have hk1:=fun o=>HK.out (wr.alloc o) (HB.out.alloc HB.out.size o)
     obtain⟨ob,hob⟩:∃ ob,ob=byB x i++(tw m++byT ((atPl (Sr.parts x) y).take k)):=⟨_,rfl⟩
     rw[← hob] at HO
     have HOB:=jH hob
     have hln:ob.length=n':=by
      obtain⟨_,⟨h,_⟩ | ⟨g',cap',cur,h,_⟩⟩:=HO.out
      ·cases h
      ·cases h; rfl
     have hl1:ob.length+1=n'+1:=by rw[hln]
     have hb1':n'+1≤1099511627776:=by omega
     have hl2:(ob++[sb s]).length+2=n'+1+2:=by rw[List.length_append,hln];rfl
     have hb2':n'+1+2≤1099511627776:=by omega
     clear ht hee hpl1 hpl2 hq hd2 hti d0 d1 hob hln
     cases s
     all_goals
      go_wp2_with fail
      go_region_law (first
       | (refine step_B2 rfl (.tmp 49) (.tmp 51) rfl (.slice (some ⟨b,0,none⟩) n' c) ob rfl (World.ownsRow.alloc HO.out _) _ 1 1 [sb false] rfl rfl (by decide) #[.int .u8 0] rfl (jD wr _) (n'+1) hl1 hb1' _ rfl ?_; intro g5 c5 w5 R5 G5 A5 L5
          have B5:Hid (Below w1.heap.size w1 w5):=Below.trans ((HB.out.alloc HB.out.size _).drew) (j9 G5 (fun q hq=>by cases hq; exact HOb.out) (by have:=HB.out.size; simp; omega))
          have O5:Hid (w1.heap.size≤g5):=by
           rcases A5 with h | h
           ·cases h; exact HOb.out
           ·show w1.heap.size≤g5
            rw[h];have:=HB.out.size; simp; omega
          have R5':=jH R5
          have k5:=HK.out _ B5.out
          have hpc:=HPw.out _ B5.out
          have htw:=xK w5 q
          clear R5 G5 A5 L5)
       | (refine step_B2 rfl (.tmp 49) (.tmp 51) rfl (.slice (some ⟨b,0,none⟩) n' c) ob rfl (World.ownsRow.alloc HO.out _) _ 1 1 [sb true] rfl rfl (by decide) #[.int .u8 1] rfl (jD wr _) (n'+1) hl1 hb1' _ rfl ?_; intro g5 c5 w5 R5 G5 A5 L5
          have B5:Hid (Below w1.heap.size w1 w5):=Below.trans ((HB.out.alloc HB.out.size _).drew) (j9 G5 (fun q hq=>by cases hq; exact HOb.out) (by have:=HB.out.size; simp; omega))
          have O5:Hid (w1.heap.size≤g5):=by
           rcases A5 with h | h
           ·cases h; exact HOb.out
           ·show w1.heap.size≤g5
            rw[h];have:=HB.out.size; simp; omega
          have R5':=jH R5
          have k5:=HK.out _ B5.out
          have hpc:=HPw.out _ B5.out
          have htw:=xK w5 q
          clear R5 G5 A5 L5)
       | (go_simp; go_at_call 78; refine hpc.mono ?_; rintro y2 w6 ⟨rfl,rfl⟩)
       | (go_simp; go_at_call 77; refine htw.mono ?_; rintro y2 w6 ⟨rfl,rfl⟩)
       | (refine step_B2 rfl (.tmp 52) (.tmp 60) rfl (.slice (some ⟨g5,0,none⟩) (n'+1) c5) _ rfl (World.ownsRow.alloc R5'.out _) _ 2 2 (tw q) rfl rfl (by decide) (twC q) (tw_cells q) (jD _ _) (n'+1+2) hl2 hb2' _ rfl ?_; intro g7 c7 w7 R7 G7 A7 L7
          have B7:Hid (Below w1.heap.size w1 w7):=Below.trans (B5.out.alloc B5.out.size _) (j9 G7 (fun q hq=>by cases hq; exact O5.out) (by have:=B5.out.size; simp; omega))
          have O7:Hid (w1.heap.size≤g7):=by
           rcases A7 with h | h
           ·cases h; exact O5.out
           ·show w1.heap.size≤g7
            rw[h];have:=B5.out.size; simp; omega
          have R7':=jH R7
          clear R7 G7 A7 L7))
      all_goals
       have HR8:Hid (BRow w7 (.slice (some ⟨g7,0,none⟩) (n'+1+2) c7) (byB x i++(tw m++byT ((atPl (Sr.parts x) y).take (k+1))))):=by
        show BRow _ _ _
        have h:=R7'.out
        rw[HOB.out] at h
        rw[HSn.out]
        simpa [List.append_assoc] using h
       go_wp2_with fail
       go_roundg (m - (k+1))
       case measure=>omega
       case rel=>exact⟨k+1,g7,n'+1+2,c7,rfl,by go_num,by omega,by omega,by omega,HR8,O7,B7⟩
    ·obtain rfl:m=k:=by omega
     have HN:Hid (BRow wr (.slice (some ⟨b,0,none⟩) n' c) (byB x (i+1))):=by
      show BRow _ _ _
      rw[byB_next HYY.out]
      have h:=HO.out
      rw[List.take_of_length_le (by rw[HM.out];simp[atPl])] at h
      rw[← HM.out];exact h
     clear HO
     go_wp2_with fail
     go_roundg (n1 - (i+1))
     case measure=>omega
     case rel=>exact⟨i+1,b,n',c,rfl,by go_num,by omega,by omega,by omega,HN,HOb,HB⟩
  ·obtain rfl:n1=i:=by omega
   have HE:=HO.out
   rw[HN2.out,byB_end] at HE
   have HE2:=jH HE
   clear HE HO
   go_wp2_with fail
   go_ret
   exact⟨_,rfl,HE2,Below.trans hb1.out ⟨HB.out.os,HB.out.tape,HB.out.output,HB.out.size,fun q hq=>HB.out.block q (by have:=hb1.out.size; omega)⟩,fun q hq=>by
    have e1:b=q:=by simpa [Value.ownBlock] using hq
    subst e1
    have:=hb1.out.size; have:=HOb.out; omega⟩
theorem xL {C:List Int}{W:World}{p:Nat}{fv:Value}{fl:List Value}(H:RW C W p fv fl vs)(hX:vs[X]? = some x)(hal:allowed x):
 Calls Tryz.prog 37 #[.pointer (some ⟨p,0,none⟩),.int .i64 (X:Nat)] W (BtQ x W):=rBytesS_calls H hX (BtS.of_allowed hal)
end
theorem xM (W:World): Calls Tryz.prog 15 #[] W fun e W'=>∃ p fv fl,e=.returned (.pointer (some ⟨p,0,none⟩))∧Hid (RW [] W' p fv fl [0])∧Hid (Below W.heap.size W W')∧Hid (∀ b∈rB p fv fl,W.heap.size≤b):=by
 go_enter Tryz.func15,Tryz.ntmps15
 go_wp2_with fail
 go_ret
 have z:∀ (i:Nat) (x:Int),([0]:List Int)[i]? = some x→i=0∧x=0:=fun i x h=>by
  cases i with
  | zero=>simp at h; exact⟨rfl,h.symm⟩
  | succ i=>simp at h
 have hpf:pf [0] 0=[]:=by simp[pf,j5]
 refine⟨_,.slice (some ⟨W.heap.size,0,none⟩) 1 1,[.slice none 0 0],rfl,?_,?_,?_⟩
 ·exact {
   wv:=⟨rfl,by simp,fun i x h e he=>by obtain⟨_,rfl⟩:=z i x h; simp[exps,j5] at he⟩
   obj:=qA W _ _
   forms:=⟨rfl,.inr ⟨W.heap.size,1,_,rfl,Nat.zero_le _,qU W _ _,jR _,by decide,rfl,rfl⟩⟩
   rows:=fun i x h=>by
    obtain⟨rfl,rfl⟩:=z i x h
    exact⟨_,rfl,by rw[hpf];exact⟨rfl,.inl ⟨rfl,rfl⟩⟩⟩
   cov:=fun v hv=>by simp at hv; subst hv; exact .inr ⟨by omega,by omega⟩
   bnd:=by simp }
 ·exact ((Below.refl _ _).alloc (jR _) _).alloc (by simp) _
 ·intro b hb
  rcases yK.1 hb with rfl | h | ⟨v,hv,h⟩
  ·omega
  ·cases h; exact jR _
  ·simp at hv; subst hv; cases h
theorem rOf1_calls {C:List Int}{W:World}{p:Nat}{fv:Value}{fl:List Value}{vs:List Int}(H:RW C W p fv fl vs): Calls Tryz.prog 71 #[.pointer (some ⟨p,0,none⟩),.int .i64 1] W (RNumQ C W p fv fl vs 1):=by
 obtain⟨W0,o0,hW0,ho0,HB0,HE0⟩:∃ W0 o0,W.alloc (.cells #[] 139)=W0∧W.heap.size=o0∧Hid (Below W.heap.size W W0)∧Hid (RRow W0 (.slice (some ⟨o0,0,none⟩) 0 0) []):=⟨_,_,rfl,rfl,(Below.refl _ _).alloc (jR _) _,RRow.nil (jD _ _)⟩
 have hpf:pf vs 0=[]:=by simp[pf,j5]
 have HW0:=jH (H.below HB0.out)
 have hP:=rplus (C:=C) (x:=0) (s:=false) (e:=0) (fun j hj=>by
  obtain⟨u,hu,_⟩:=hj.top (fun d hd=>by omega)
  simp[exps,j5] at hu) W0 p fv fl vs (.slice (some ⟨o0,0,none⟩) 0 0) 0 HW0.out (by simp[exps,j5]) (by rw[hpf];exact HE0.out) H.wv.zero
 rw[show (0:Int)+tv (false,0)=1 from rfl] at hP
 have hN:=rnext (C:=C) 0 (.inr ⟨by omega,by omega⟩) (by simp[j5])
 have HN:=jH hN
 have Hz:=jH H.wv.zero
 clear H hpf hN
 go_enter Tryz.func71,Tryz.ntmps71
 go_wp2_with fail
 go_loopg [5,6,7] 1 (fun g1 vl vn ve wr=>∃ (l:Value) (r:Nat),vl=l∧vn=.int .i64 r∧r≤1∧r≤g1∧((r=1∧l=.slice (some ⟨o0,0,none⟩) 0 0∧ve=.int .i64 0∧wr=W0)∨(r=0∧∃ fv1 fl1 vs1,Hid (RPut C W wr p fv fv1 fl fl1 vs vs1)∧Hid (∀ j∈exps 1,(j:Int)∈vs1)∧Hid (RRow wr l (pf vs1 1)))))
 case atStart=>exact⟨_,1,rfl,rfl,by omega,by omega,.inl ⟨rfl,rfl,rfl,rfl⟩⟩
 case round =>
  obtain⟨l,r,rfl,rfl,hr1,hg,hcase⟩:=hrel
  rcases hcase with ⟨rfl,rfl,rfl,rfl⟩ | ⟨rfl,fv1,fl1,vs1,hp1,hx1,hr1'⟩
  ·go_wp2_with fail
   refine hP.mono ?_
   rintro y w1 ⟨v1,fv1,fl1,vs1,rfl,hp1,hx1,hr1⟩
   have hN:=HN.out w1 p fv1 fl1 vs1 0 hp1.out.rw (jW hp1.out.ext Hz.out)
   clear hP
   go_wp2_with fail
   refine hN.mono ?_
   rintro y w2 ⟨i2,fv2,fl2,vs2,rfl,hp2,hi2⟩
   have HP:Hid (RPut C W w2 p fv fv2 fl fl2 vs vs2):=(hp1.out.pre HB0.out).trans hp2.out
   have HX:Hid (∀ j∈exps 1,(j:Int)∈vs2):=fun j hj=>qN hp2.out.ext (hx1.out j hj)
   have HR:Hid (RRow w2 v1 (pf vs2 1)):=by
    show RRow _ _ _
    rw[pf_put hp2.out hp1.out.rw.wv hx1.out];exact hr1.out.fr hp1.out.rw hp2.out.fr
   clear hN
   go_wp2_with fail
   go_roundg 0
   case measure=>omega
   case rel=>exact⟨v1,0,rfl,rfl,by omega,by omega,.inr ⟨rfl,fv2,fl2,vs2,HP,HX,HR⟩⟩
  ·have hA:=yk hp1.out.rw hx1.out hr1'.out (.inr ⟨by omega,by omega⟩)
   clear hP
   go_wp2_with fail
   refine hA.mono ?_
   rintro y w2 ⟨fv2,fl2,rfl,hp2⟩
   go_wp2_with fail
   go_ret
   exact⟨_,fv2,fl2,_,rfl,hp1.out.trans hp2.out,jU (qt _ _)⟩
section
structure RC (b:Nat)(W:World)(c p:Nat)(fv:Value)(fl:List Value)(vs:List Int)(full:Bool): Prop where
 rw:∃ C:List Int,C.length≤b∧RW C W p fv fl vs
 obj:W.heap[c]? = some (.cells #[.pointer (some ⟨p,0,none⟩),.bool full] 75 (0,0))
structure RK (b:Nat)(W W':World)(c p:Nat)(fv fv':Value)(fl fl':List Value)(vs vs':List Int)(full':Bool): Prop where
 rc:RC b W' c p fv' fl' vs' full'
 ext:vs <+: vs'
 fr:Fr (c::rF p fv) W W'
 fvb:∀ b,fv'.ownBlock=some b→fv.ownBlock=some b∨W.heap.size≤b
section
variable {b b':Nat} {W W' W2:World} {c p:Nat} {fv fv' fv2:Value} {fl fl' fl2:List Value} {vs vs' vs2:List Int} {full full' full2:Bool}
theorem RC.below (h:RC b W c p fv fl vs full)(hb:Below W.heap.size W W'): RC b W' c p fv fl vs full:=by
 obtain⟨C,h1,h2⟩:=h.rw
 exact⟨⟨C,h1,h2.below hb⟩,(hb.block c (jA h.obj).1).trans h.obj⟩
theorem RC.mono (h:RC b W c p fv fl vs full)(hb:b≤b'): RC b' W c p fv fl vs full:=by
 obtain⟨C,h1,h2⟩:=h.rw
 exact⟨⟨C,Nat.le_trans h1 hb,h2⟩,h.obj⟩
theorem RC.c0 (h:RC b W c p fv fl vs full): W.cell? ⟨c,0,none⟩=some (.pointer (some ⟨p,0,none⟩)):=by rw[jB h.obj];rfl
theorem RC.c1 (h:RC b W c p fv fl vs full): W.cell? ⟨c,1,none⟩=some (.bool full):=by rw[jB h.obj];rfl
theorem RC.wv (h:RC b W c p fv fl vs full): WV vs:=by obtain⟨_,_,h2⟩:=h.rw; exact h2.wv
theorem RK.refl (h:RC b W c p fv fl vs full): RK b W W c p fv fv fl fl vs vs full:=⟨h,List.prefix_refl _,Fr.refl _ _,fun _ h=>.inl h⟩
theorem RK.pre {W0:World}(h0:Below W0.heap.size W0 W)(h:RK b W W' c p fv fv' fl fl' vs vs' full'): RK b W0 W' c p fv fv' fl fl' vs vs' full' :=
 ⟨h.rc,h.ext,Fr.pre (Fr.of_below h0) h.fr,fun b hb=>(h.fvb b hb).imp id (fun k=>Nat.le_trans h0.size k)⟩
theorem RK.trans (h:RK b W W' c p fv fv' fl fl' vs vs' full')(k:RK b' W' W2 c p fv' fv2 fl' fl2 vs' vs2 full2): RK b' W W2 c p fv fv2 fl fl2 vs vs2 full2:=by
 refine⟨k.rc,h.ext.trans k.ext,?_,fun b hb=>?_⟩
 ·refine (FE.trans (F:=c::rF p fv) (F1:=c::rF p fv') (F2:=c::rF p fv') ⟨h.fr,fun b hb=>?_⟩ ⟨k.fr,fun b hb=>.inl hb⟩).fr
  rcases List.mem_cons.1 hb with rfl | hb
  ·exact .inl (List.mem_cons_self ..)
  ·exact (rF_sub h.fvb b hb).imp (List.mem_cons_of_mem _) id
 ·rcases k.fvb b hb with h1 | h1
  ·exact h.fvb b h1
  ·exact .inr (Nat.le_trans h.fr.size h1)
theorem RK.post (h:RK b W W' c p fv fv' fl fl' vs vs' full')(k:Below W'.heap.size W' W2): RK b W W2 c p fv fv' fl fl' vs vs' full' :=
 h.trans ((RK.refl (h.rc.below k)).pre k)
theorem RC.put {C:List Int}(h:RC b W c p fv fl vs full)(k:RPut C W W' p fv fv' fl fl' vs vs')(hC:C.length≤b'): RK b' W W' c p fv fv' fl fl' vs vs' full:=by
 obtain⟨C0,_,h2⟩:=h.rw
 refine⟨⟨⟨C,hC,k.rw⟩,fr_type h2 k.fr h.obj (by decide) (by decide)⟩,k.ext,?_,k.fvb⟩
 exact⟨k.fr.os,k.fr.tape,k.fr.output,k.fr.size,fun b hb hn=>k.fr.block b hb (fun h=>hn (List.mem_cons_of_mem _ h))⟩
theorem jd {T:TypeId}{q:Nat}{cs:Array Value}{z:Nat×Nat}(h:RC b W c p fv fl vs full)(k:RK b' W W' c p fv fv' fl fl' vs vs' full')(hq:W.heap[q]? = some (.cells cs T z))(h0:T≠75)(h1:T≠105)(h2:T≠137): W'.heap[q]? = some (.cells cs T z):=by
 obtain⟨C,_,hw⟩:=h.rw
 refine (k.fr.block q (jA hq).1 (fun hm=>?_)).trans hq
 rcases List.mem_cons.1 hm with rfl | hm
 ·exact jI h.obj hq (Ne.symm h0) rfl
 ·rcases List.mem_cons.1 hm with rfl | hm
  ·exact jI hw.obj hq (Ne.symm h1) rfl
  ·have hm:fv.ownBlock=some q:=by simpa using hm
   obtain⟨c',hc⟩:=jO hw.forms hm
   exact jI hc hq (Ne.symm h2) rfl
theorem RC.full_set (h:RC b W c p fv fl vs full)(f:Bool): RK b W (W.setCell ⟨c,1,none⟩ (.bool f)) c p fv fv fl fl vs vs f:=by
 obtain⟨C,h1,h2⟩:=h.rw
 have e:=heap_setCell_same W c 1 _ 75 (.bool f) h.obj
 refine⟨⟨⟨C,h1,h2.setCell (h2.other h.obj (by decide) (by decide) (by decide)) _⟩,e⟩,List.prefix_refl _,⟨rfl,rfl,rfl,by simp,fun q hq hn=>jS _ _ _ _ (by show q≠c; rintro rfl; exact hn (List.mem_cons_self ..))⟩,fun _ h=>.inl h⟩
end
open Classical in
noncomputable def orFull (full:Bool)(x:Int): Bool:=full||!decide (allowed x)
variable {i:Nat} {x:Int}
theorem qB {b:Nat}{W:World}{c p:Nat}{fv:Value}{fl:List Value}{vs:List Int}{full:Bool}(H:RC b W c p fv fl vs full)(hi:vs[i]? = some x):
 Calls Tryz.prog 74 #[.pointer (some ⟨c,0,none⟩),.int .i64 (i:Nat)] W fun e W'=>e=.returned (.int .i64 (i:Nat))∧Hid (RK b W W' c p fv fv fl fl vs vs (orFull full x)):=by
 have c0:=H.c0
 have c1:=H.c1
 have fz:W.frozen? ⟨c,1,none⟩=false:=jF H.obj 1
 have HH:=jH H
 obtain⟨C,_,hw⟩:=H.rw
 have hA:=rAllowed_calls hw hi
 obtain⟨ab,hab⟩:∃ ab,ab=@decide (allowed x) (Classical.propDecidable _):=⟨_,rfl⟩
 rw[← hab] at hA
 have HO:Hid (orFull false x=!ab):=by show _=_; rw[hab];rfl
 clear H hw hi hab
 cases full with
 | true =>
   have HS:Hid (RK b W (W.setCell ⟨c,1,none⟩ (.bool true)) c p fv fv fl fl vs vs (orFull true x)):=HH.out.full_set true
   clear hA
   go_enter Tryz.func74,Tryz.ntmps74
   go_wp2_with fail
   go_ret
   exact⟨rfl,HS⟩
 | false =>
   go_enter Tryz.func74,Tryz.ntmps74
   go_wp2_with fail
   refine hA.mono ?_
   rintro e w1 ⟨rfl,hb1⟩
   have H1:=HH.out.below hb1.out
   have d1:=H1.c1
   have fz1:w1.frozen? ⟨c,1,none⟩=false:=jF H1.obj 1
   have HS:Hid (RK b W (w1.setCell ⟨c,1,none⟩ (.bool (!ab))) c p fv fv fl fl vs vs (orFull false x)):=by show RK _ _ _ _ _ _ _ _ _ _ _ _; rw[HO.out];exact (H1.full_set _).pre hb1.out
   clear H1 hA
   go_wp2_with fail
   go_ret
   exact⟨rfl,HS⟩
theorem xN {b k:Nat}{W:World}{c p:Nat}{fv:Value}{fl:List Value}{vs:List Int}{full:Bool}(H:RC b W c p fv fl vs full){j:Nat}{y:Int}(hi:vs[i]? = some x)(hj:vs[j]? = some y){n0 m a b1 c1:Nat}(hx:Sz n0 a b1 x)(hy:Sz m b1 c1 y)(ham:a+m≤2600)(hb:b1≤1286)(hok:shOK x y)(hk:(shAsk x y).length≤k)(hbk:b+k≤5000000000000):
 Calls Tryz.prog 75 #[.pointer (some ⟨c,0,none⟩),.int .i64 (i:Nat),.int .i64 (j:Nat)] W fun e W'=>∃ (q:Nat) (fv':Value) (fl':List Value) (vs':List Int),e=.returned (.int .i64 (q:Nat))∧Hid (RK (b+k) W W' c p fv fv' fl fl' vs vs' full)∧Hid (vs'[q]? = some (shx x y)):=by
 have c0:=H.c0
 have HH:=jH H
 obtain⟨C,hC,hw⟩:=H.rw
 have hw2:=hw.weaken (C':=C++shAsk x y) (fun v hv=>.inl (List.mem_append.2 (.inl hv))) (by rw[List.length_append];omega)
 have hS:=rShift_calls hw2 hi hj hx hy ham hb hok (fun z hz=>List.mem_append.2 (.inr hz))
 have hCl:Hid ((C++shAsk x y).length≤b+k):=by show _≤_; rw[List.length_append];omega
 clear H hC hw hw2 hi hj hx hy hok hk
 go_enter Tryz.func75,Tryz.ntmps75
 go_wp2_with fail
 refine hS.mono ?_
 rintro e w1 ⟨q,fv',fl',vs',rfl,hp,hq⟩
 have HK:=jH (HH.out.put hp.out hCl.out)
 go_wp2_with fail
 go_ret
 exact⟨q,fv',fl',vs',rfl,HK,hq⟩
def hvAsk (x l:Int): List Int:=-l::shAsk x (-l)
theorem yA {b k:Nat}{W:World}{c p:Nat}{fv:Value}{fl:List Value}{vs:List Int}{full:Bool}(H:RC b W c p fv fl vs full){j:Nat}{y:Int}(hi:vs[i]? = some x)(hj:vs[j]? = some y){n0 m a b1 c1:Nat}(hx:Sz n0 a b1 x)(hy:Sz m b1 c1 y)(ham:a+m≤2600)(hb:b1≤1286)(hok:shOK x (-y))(hk:(hvAsk x y).length≤k)(hbk:b+k≤5000000000000):
 Calls Tryz.prog 80 #[.pointer (some ⟨c,0,none⟩),.int .i64 (i:Nat),.int .i64 (j:Nat)] W fun e W'=>∃ (q:Nat) (fv':Value) (fl':List Value) (vs':List Int),e=.returned (.int .i64 (q:Nat))∧Hid (RK (b+k) W W' c p fv fv' fl fl' vs vs' full)∧Hid (vs'[q]? = some (shx x (-y))):=by
 have c0:=H.c0
 have HH:=jH H
 obtain⟨C,hC,hw⟩:=H.rw
 have hw2:=hw.weaken (C':=C++hvAsk x y) (fun v hv=>.inl (List.mem_append.2 (.inl hv))) (by rw[List.length_append];omega)
 have hN:=fun M=>rNeg_calls (hw2.drewN M) hj (List.mem_append.2 (.inr (by unfold hvAsk; simp)))
 have HS:=jH (fun (W1:World) (fv1:Value) (fl1:List Value) (vs1:List Int) (h:RW (C++hvAsk x y) W1 p fv1 fl1 vs1) (j1:Nat) (hi1:vs1[i]? = some x) (hj1:vs1[j1]? = some (-y))=>rShift_calls h hi1 hj1 hx hy.neg ham hb hok (fun z hz=>List.mem_append.2 (.inr (by unfold hvAsk; exact List.mem_cons_of_mem _ hz))))
 have HI:=jH hi
 have hCl:Hid ((C++hvAsk x y).length≤b+k):=by show _≤_; rw[List.length_append];omega
 clear H hC hw hw2 hi hj hx hy hok hk
 go_enter Tryz.func80,Tryz.ntmps80
 go_wp2_with fail
 go_region_held3 (fun w'=>w'.cell? ⟨c,0,none⟩=some (.pointer (some ⟨p,0,none⟩))) (first | exact hkk | go_keep)
  (first
    | (go_at_call 72; refine (hN _).mono ?_; rintro e w1 ⟨j1,fv1,fl1,vs1,rfl,hp1,hj1⟩
       have hp1':=jH (hp1.out.pre (jN W _))
       have hkk:=(HH.out.put hp1'.out hCl.out).rc.c0
       have hS:=HS.out w1 fv1 fl1 vs1 hp1.out.rw j1 (jW hp1.out.ext HI.out) hj1.out
       clear hp1)
    | (go_at_call 118; refine hS.mono ?_; rintro e w2 ⟨q,fv2,fl2,vs2,rfl,hp2,hq⟩
       have HK:=jH (HH.out.put (hp1'.out.trans hp2.out) hCl.out)
       have hkk:=HK.out.rc.c0))
 go_wp2_with fail
 go_ret
 exact⟨q,fv2,fl2,vs2,rfl,HK,hq⟩
end
section
variable {x:Int}
theorem exps_ne (h:x≠0): 0<(form x).length:=by
 rcases Nat.eq_zero_or_pos (form x).length with h1 | h1
 ·exfalso; apply h
  have:=jc x
  rw[List.length_eq_zero_iff.1 h1] at this
  simpa [lv] using this.symm
 ·exact h1
theorem lowE_at {k:Nat}(h:(form x).length=k+1): ∃ s,(form x)[k]? = some (s,lowE x):=by
 obtain⟨⟨s,e⟩,he⟩:∃ t,(form x)[k]? = some t:=⟨_,jG (by omega)⟩
 refine⟨s,?_⟩
 rw[he]
 have h1:(exps x)[k]? = some e:=by unfold exps; rw[List.getElem?_map,he];rfl
 have h2:(exps x).length=k+1:=by rw[js];exact h
 have:lowE x=e:=by
  unfold lowE
  rw[List.getLastD_eq_getLast?,List.getLast?_eq_getElem?,h2,Nat.add_sub_cancel,h1];rfl
 rw[this]
theorem zI (h:x≠0): lowE x∈exps x:=by
 obtain⟨k,hk⟩:∃ k,(form x).length=k+1:=⟨(form x).length - 1,by have:=exps_ne h; omega⟩
 obtain⟨s,hs⟩:=lowE_at hk
 exact Sr.mem_exps (jM hs)
theorem low_calls {b:Nat}{W:World}{c p:Nat}{fv:Value}{fl:List Value}{vs:List Int}{full:Bool}(H:RC b W c p fv fl vs full){i:Nat}(hi:vs[i]? = some x)(hx:x≠0):
 Calls Tryz.prog 79 #[.pointer (some ⟨c,0,none⟩),.int .i64 (i:Nat)] W fun e W'=>∃ d:Nat,e=.returned (.int .i64 (d:Nat))∧W'=W∧Hid (vs[d]? = some ((lowE x:Nat):Int)):=by
 have c0:=H.c0
 obtain⟨C,_,hw⟩:=H.rw
 have p0:=hw.c0
 obtain⟨g,cap,rfl,-⟩:=hw.formAt
 obtain⟨ra,rc,cr,hterm⟩:=hw.rowAt rfl hi
 obtain⟨k,hk⟩:∃ k,(form x).length=k+1:=⟨(form x).length - 1,by have:=exps_ne hx; omega⟩
 obtain⟨s,hs⟩:=lowE_at hk
 obtain⟨fb,rfl,d0,d1⟩:=hterm k _ hs
 dsimp only at d1
 rw[hk] at cr
 have hm:=hw.wv.mem_exps (jM hi) (zI hx)
 have HD:=jH (jU hm)
 have hvl:=hw.vlen
 have hkl:k+1≤vs.length:=by rw[← hk];have:=yz (vs:=vs) (x:=x) (fun e he=>hw.wv.mem_exps (jM hi) he);simpa [pf] using this
 have hil:=(jL hi).1
 have i0:(0:Int)≤(i:Int):=by omega
 have iz:(i:Int)<(vs.length:Int):=by omega
 have k0:(0:Int)≤(k:Int):=by omega
 have kz:(k:Int)<(k:Int)+1:=by omega
 have kw:IntKind.i64.wrap ((k:Int)+1 - 1)=(k:Int):=by rw[IntKind.wrap_i64];omega
 obtain⟨q,hq⟩:∃ q,q=vs.idxOf ((lowE x:Nat):Int):=⟨_,rfl⟩
 rw[← hq] at d1 HD
 clear H hw hi hx hterm hk hs d0 hm hil hq
 go_enter Tryz.func79,Tryz.ntmps79
 go_wp2_with fail
 go_ret
 exact⟨q,rfl,rfl,HD⟩
end
end Sr

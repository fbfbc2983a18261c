/- Texts of this claim, joined: OrdP, ParB, OrdW. -/
import Derived.Test.YtabafgphmbdpgaaGreatDoorTe1
import Derived.Test.YtabafgphmbdpgaaGreatDoorTe27
import Derived.Test.YtabafgphmbdpgaaGreatDoorTe28
import Derived.Test.YtabafgphmbdpgaaGreatDoorTe29
import Derived.Test.YtabafgphmbdpgaaGreatDoorTe36
import Derived.Test.YtabafgphmbdpgaaGreatDoorTe37
import Derived.Test.YtabafgphmbdpgaaGreatDoorTe40
import Derived.Test.YtabafgphmbdpgaaGreatDoorTe41
set_option maxHeartbeats 8000000
set_option maxRecDepth 100000
namespace Sr
open Go Go.Proofs Go.RowKit Go.Maps Go.WideMaps
section
structure OInv (l:List UInt8)(S:List Stp)(o:List UInt8)(G:List E3): Prop where
 chk:∀ R,chkE (S++R) (readE l).1 (readE l).2=chkE R o G
 len:G.length=o.length+1
 bs:Bs o
 pl:∀ x∈G,Plain x
 ev:Sr.ev o G base=actW l base
variable {l:List UInt8}
theorem OInv.start (hl:Lt l): OInv l [] (readE l).1 (readE l).2:=by
 obtain⟨b1,b2,b3⟩:=read_bs hl
 exact⟨fun R=>rfl,b3,b1,b2,ev_read l base⟩
theorem OInv.step {S:List Stp}{o:List UInt8}{G:List E3}(h:OInv l S o G){i:Nat}(hp:pinR o G (i:Nat)=true)(hal:allowed (pinK o G i))(hF:makeF o G i (pinK o G i)=false):
 OInv l (S++[((i:Int),nbytes (pinK o G i))]) (pinO o i) (makeG o G i (pinK o G i)):=by
 have hi:=(zg hp).1
 have hpa:=(zg hp).2
 have hA:=(makeF_iff hal).1 hF
 rw[makeG_ok hal hF]
 refine⟨fun R=>?_,pinG_len hi h.len,fun c hc=>h.bs c (by
  unfold pinO at hc
  rcases List.mem_append.1 hc with h | h
  ·exact List.mem_of_mem_take h
  ·exact List.mem_of_mem_drop h),fun x hx=>?_,(ev_pin (S:=base) h.len h.bs h.pl trivial hi hpa).trans h.ev⟩
 ·rw[List.append_assoc,h.chk]
  refine (chkE_yes (s:=((i:Int),nbytes (pinK o G i))) ?_ ?_ ?_ ?_).trans ?_
  ·show pinI o G (i:Int)=true
   unfold pinI
   rw[Int.toNat_natCast,hpa]
   simp; omega
  ·rw[Int.toNat_natCast];exact hal
  ·rw[Int.toNat_natCast]
  ·rw[Int.toNat_natCast];exact hA.2
  ·rw[Int.toNat_natCast];rfl
 ·unfold pinG at hx
  rcases List.mem_append.1 hx with h' | h'
  ·rcases List.mem_append.1 h' with h' | h'
   ·exact h.pl x (List.mem_of_mem_take h')
   ·rw[List.mem_singleton] at h'; subst h'; exact qH _ _
  ·exact h.pl x (List.mem_of_mem_drop h')
theorem OInv.done (hl:Lt l){S:List Stp}{o:List UInt8}{G:List E3}(h:OInv l S o G)(hn:∀ i,i+1<o.length→pinAt o G i=false){st:List (Nat×Int)}{o':List UInt8}{G':List E3}(ht:traceE l=some (st,o',G')):
 o.length=o'.length∧endE o G=endE o' G':=by
 obtain⟨t1,t2,-,t4,t5⟩:=trace_act hl ht
 obtain⟨e1,e2⟩:=ev_red h.len h.bs h.pl hn
 rw[h.ev] at e1 e2
 have hlen:o.length=o'.length:=by omega
 refine⟨hlen,?_⟩
 unfold endE
 by_cases ho:o=[]
 ·have ho':o'=[]:=by subst ho; exact List.length_eq_zero_iff.1 hlen.symm
  rw[if_pos ho,if_pos ho']
  have hem:∀ g:E3,emul (el g) one=el g:=fun g=>by
   unfold emul one el; refine Prod.ext ?_ (by dsimp only; omega)
   dsimp only; grind
  have a1:=t2 ho'
  have a2:actW l base=(el (G.getD 0 Zero),[]):=by
   subst ho
   have hG:=h.len
   have hev:=h.ev
   obtain⟨g,rfl⟩:∃ g,G=[g]:=by
    cases G with
    | nil=>simp at hG
    | cons g G=>cases G with
      | nil=>exact⟨g,rfl⟩
      | cons _ _=>simp at hG
   rw[← hev]
   show (emul (el g) one,([]:List (Bool×El)))=_
   rw[hem];rfl
  have pl:∀ {o:List UInt8} {G:List E3},(∀ x∈G,Plain x)→Plain (G.getD 0 Zero):=fun {o G} hg=>by
   cases G with
   | nil=>exact yV
   | cons g G=>exact hg g (by simp)
  have e:=el_inj (pl (o:=o) h.pl) (pl (o:=o) t4) (congrArg Prod.fst (a2.symm.trans a1))
  exact e
 ·have ho':o'≠[]:=fun e=>ho (by subst e; exact List.length_eq_zero_iff.1 hlen)
  rw[if_neg ho,if_neg ho']
end
end Sr
namespace Sr
open Go
theorem sum_exps (n:Nat): ∀ (l:List Tm) (x:Int),(form x).length+l.length≤n→∀ j∈exps (x+lv l),j∈exps x∨∃ t∈l,∃ k,k≤3*n+2∧j=t.2+k:=by
 intro l
 induction l with
 | nil=>intro x _ j hj; simp only[lv,Int.add_zero] at hj; exact .inl hj
 | cons t l ih =>
   intro x hn j hj
   obtain⟨s,e⟩:=t
   have h1:=plus_len x s e
   simp only[List.length_cons] at hn
   rw[lv,show x+(tv (s,e)+lv l)=x+tv (s,e)+lv l by omega] at hj
   rcases ih (x+tv (s,e)) (by omega) j hj with h | ⟨t,ht,k,hk,e1⟩
   ·rcases xE x s e j h with h | h
    ·exact .inl h
    ·have:=ups_len x e
     have:=qF x e
     exact .inr ⟨(s,e),by simp,j - e,by omega,by dsimp only; omega⟩
   ·exact .inr ⟨t,by simp[ht],k,hk,e1⟩
noncomputable def nearP (P:List Nat): List Nat:=P.flatMap fun p=>(List.range 4097).map (p+·)
theorem mem_nearP {P:List Nat}{q:Nat}: q∈nearP P↔∃ p∈P,∃ j,j≤4096∧q=p+j:=by
 unfold nearP
 simp only[List.mem_flatMap,List.mem_map,List.mem_range]
 constructor
 ·rintro⟨p,hp,j,hj,rfl⟩;exact⟨p,hp,j,by omega,rfl⟩
 ·rintro⟨p,hp,j,hj,rfl⟩;exact⟨p,hp,j,by omega,rfl⟩
theorem nearP_len:∀ (P:List Nat),(nearP P).length=P.length*4097
 | []=>by simp[nearP]
 | p::P=>by
   have:=nearP_len P
   unfold nearP at *
   rw[List.flatMap_cons,List.length_append,this,List.length_map,List.length_range,List.length_cons];omega
theorem big_sz {u v:Int}(hu:allowed u)(hv:allowed v)(hok:shOK u v): Sz 300 600 314 (shx u v) :=
 (Sz.of_allowed hu).shx (Sz.of_allowed hv) hok (by omega) (by omega)
theorem big_bts {u v:Int}(hu:allowed u)(hv:allowed v)(hok:shOK u v): BtS (shx u v):=by
 have hs:=big_sz hu hv hok
 obtain⟨P,hP⟩:∃ P,P=baseOf [u,v]:=⟨_,rfl⟩
 have hall:∀ x∈[u,v],allowed x:=fun x hx=>by
  rcases List.mem_cons.1 hx with rfl | hx
  ·exact hu
  ·obtain rfl:x=v:=by simpa using hx
   exact hv
 have hB:Base P 4096:=by rw[hP];exact base_parts hall
 have hPl:P.length≤4615:=by
  have:=baseOf_len hall
  rw[← hP] at this; simpa using this
 have hPu:∀ e∈exps u,e∈P:=fun e he=>by rw[hP];exact yX (by simp) e he
 have hPv:∀ e∈exps v,e∈P:=fun e he=>by rw[hP];exact yX (by simp) e he
 have hPe:∀ p∈P,∀ e∈exps (p:Int),e∈P:=fun p hp e he=>by
  have:=hB.exps p hp 0 (by omega) e
  rw[Nat.add_zero] at this
  exact this he
 have hle:∀ e∈exps u,(form (e:Int)).length≤300:=fun e he=>hu.2.1 e (mem_parts.2 (.here he))
 have h1:∀ q∈exps (shx u v),(form (q:Int)).length≤600∧∀ j∈exps (q:Int),j∈nearP P:=fun q hq=>by
  refine⟨hs.ex q hq,fun j hj=>?_⟩
  rw[exps_shx hok] at hq
  obtain⟨e,he,rfl⟩:=List.mem_map.1 hq
  have h0:=hok e he
  have e1:((((e:Int)+v).toNat:Nat):Int)=(e:Int)+lv (form v):=by rw[jc];omega
  rw[e1] at hj
  rw[mem_nearP]
  rcases sum_exps 600 (form v) (e:Int) (by have:=hle e he; have:=hv.1; omega) j hj with h | ⟨t,ht,k,hk,rfl⟩
  ·exact⟨j,hPe e (hPu e he) j h,0,by omega,rfl⟩
  ·exact⟨t.2,hPv t.2 (mem_exps ht),k,by omega,rfl⟩
 have h2:∀ q∈nearP P,(form (q:Int)).length≤1022∧∀ j∈exps (q:Int),j∈nearP P:=fun q hq=>by
  obtain⟨p,hp,j,hj,rfl⟩:=mem_nearP.1 hq
  refine⟨by have:=hB.len p hp j hj; omega,fun i hi=>mem_nearP.2 ⟨i,hB.exps p hp j hj i hi,0,by omega,rfl⟩⟩
 have h3:∀ q,IsPart (shx u v) q→q∈exps (shx u v)++nearP P:=fun q h=>by
  induction h with
  | here h=>exact List.mem_append.2 (.inl h)
  | step _ h ih =>
    rcases List.mem_append.1 ih with ih | ih
    ·exact List.mem_append.2 (.inr ((h1 _ ih).2 _ h))
    ·exact List.mem_append.2 (.inr ((h2 _ ih).2 _ h))
 refine⟨?_,by have:=hs.len; omega,fun q hq=>?_⟩
 ·have h4:=jT _ _ (qE (shx u v)) (fun q hq=>h3 q (mem_parts.1 hq))
  rw[List.length_append,nearP_len,js] at h4
  have:=hs.len
  omega
 ·rcases List.mem_append.1 (h3 q (mem_parts.1 hq)) with h | h
  ·have:=(h1 q h).1; omega
  ·have:=(h2 q h).1; omega
end Sr
namespace Sr
open Go Go.Proofs Go.RowKit Go.Maps Go.WideMaps
section
theorem GRow.kept {B0:Nat}{w w':World}{v:Value}{S:List Stp}(h:GRow B0 w v S)(hk:∀ (q:Nat) (cs:Array Value) (T:TypeId),w.heap[q]? = some (.cells cs T (0,0))→T=42∨T=5→w'.heap[q]? = w.heap[q]?): GRow B0 w' v S:=by
 obtain⟨⟨us,h1,h2,h3⟩,h4⟩:=h
 exact⟨⟨us,h1,qZ h2 fun g cur hg=>hk g cur 42 hg (.inl rfl),fun i u s hi hs=>qZ (h3 i u s hi hs) fun g cur hg=>hk g cur 5 hg (.inr rfl)⟩,h4⟩
structure OdS (W w:World)(c D b p:Nat)(fv0 fv:Value)(fl0 fl:List Value)(vs0 vs:List Int)(full:Bool)(s:ByteArray)(gv:Value)(l:List N3)(G:List E3)(sv:Value)(S:List Stp): Prop where
 rk:RK b W w c p fv0 fv fl0 fl vs0 vs full
 b6:w.heap[D]? = some (.cells #[.string s,gv] 78 (0,0))
 pr:PR 0 w vs gv l G
 st:GRow W.heap.size w sv S
 h6:W.heap.size≤D
section
variable {W w w':World} {c D b b' p:Nat} {fv0 fv fv':Value} {fl0 fl fl':List Value} {vs0 vs vs':List Int} {full full':Bool} {s:ByteArray} {gv:Value} {l:List N3} {G:List E3} {sv:Value} {S:List Stp}
theorem OdS.call (h:OdS W w c D b p fv0 fv fl0 fl vs0 vs full s gv l G sv S)(k:RK b' w w' c p fv fv' fl fl' vs vs' full'): OdS W w' c D b' p fv0 fv' fl0 fl' vs0 vs' full' s gv l G sv S:={
 rk:=h.rk.trans k
 b6:=jd h.rk.rc k h.b6 (by decide) (by decide) (by decide)
 pr:=h.pr.rk h.rk.rc k
 st:=h.st.kept fun q cs T hq ht=>by
  rw[hq];exact jd h.rk.rc k hq (by rcases ht with rfl | rfl <;>decide) (by rcases ht with rfl | rfl <;>decide) (by rcases ht with rfl | rfl <;>decide)
 h6:=h.h6 }
theorem OdS.below (h:OdS W w c D b p fv0 fv fl0 fl vs0 vs full s gv l G sv S)(k:Below w.heap.size w w'): OdS W w' c D b p fv0 fv fl0 fl vs0 vs full s gv l G sv S:={
 rk:=h.rk.post k,b6:=Below.here k h.b6,pr:=h.pr.below k,st:=h.st.below k,h6:=h.h6 }
theorem OdS.mono (h:OdS W w c D b p fv0 fv fl0 fl vs0 vs full s gv l G sv S)(hb:b≤b'): OdS W w c D b' p fv0 fv fl0 fl vs0 vs full s gv l G sv S:={
 rk:=h.rk.mono hb,b6:=h.b6,pr:=h.pr,st:=h.st,h6:=h.h6 }
theorem OdS.set6 (h:OdS W w c D b p fv0 fv fl0 fl vs0 vs full s gv l G sv S){s':ByteArray}{gv':Value}{l':List N3}{G':List E3}(hp:PR 0 w vs gv' l' G'):
 OdS W ((w.setCell ⟨D,0,none⟩ (.string s')).setCell ⟨D,1,none⟩ gv') c D b p fv0 fv fl0 fl vs0 vs full s' gv' l' G' sv S:=by
 obtain⟨f1,e1⟩:=h.rk.setT h.b6 (by decide) h.h6 0 (.string s')
 obtain⟨f2,e2⟩:=f1.setT e1 (by decide) h.h6 1 gv'
 have ke:∀ q:Nat,q≠D→((w.setCell ⟨D,0,none⟩ (.string s')).setCell ⟨D,1,none⟩ gv').heap[q]? = w.heap[q]?:=fun q hq=>(jS _ _ _ _ hq).trans (jS _ _ _ _ hq)
 exact {
  rk:=f2
  b6:=e2
  pr:=⟨qP hp.row fun q hq=>by
   obtain⟨cs,hc⟩:=jl hp.row hq
   exact ke q (jI hc h.b6 (by decide)),hp.at_,hp.hg⟩
  st:=h.st.kept fun q cs T hq ht=>ke q (jI hq h.b6 (by rcases ht with rfl | rfl <;>decide))
  h6:=h.h6 }
theorem OdS.app (h:OdS W w c D b p fv0 fv fl0 fl vs0 vs full s gv l G sv S){sv':Value}{S':List Stp}(Gr:w.grownBy w' sv.ownBlock)(hs:GRow W.heap.size w' sv' S'):
 OdS W w' c D b p fv0 fv fl0 fl vs0 vs full s gv l G sv' S':=by
 have hbl:Below W.heap.size w w':=j9 Gr (fun q hq=>h.st.own q hq) h.rk.fr.size
 have hT:∀ (q:Nat) (cs:Array Value) (T:TypeId),w.heap[q]? = some (.cells cs T (0,0))→T≠42→w'.heap[q]? = w.heap[q]?:=fun q cs T hq ht=>Gr.block q (jA hq).1 fun e=>by
  obtain⟨us,h1,h2,h3⟩:=h.st.row
  obtain⟨cs',hc⟩:=jl h2 e.symm
  exact jI hq hc ht rfl
 exact {
  rk:=h.rk.kept2 42 (by decide) hbl hT
  b6:=(hT _ _ _ h.b6 (by decide)).trans h.b6
  pr:=⟨qP h.pr.row fun q hq=>by
   obtain⟨cs,hc⟩:=jl h.pr.row hq
   exact hT _ _ _ hc (by decide),h.pr.at_,h.pr.hg⟩
  st:=hs
  h6:=h.h6 }
end
section
variable {ops:Array Oper} {rest:List Oper} {o:Oper} {a:Act} {Q:Exit→Act→World→Prop} {W:World}
theorem app_Sd (hgd:o.guard=none)(s x:Operand)(ho:o.op=.call { callee:=.builtin .append,args:=#[s,x],argTypes:=#[23,23] }) 
 (v:Value) (n:Nat) (l:List Value) (hs:a.eval s=v) (hown:W.ownsRow 0 42 2 v n l) (B:Nat) (i:Int) (t:Value) (h1:t.oneCell'=true) (hx:a.eval x=.slice (some ⟨B,0,none⟩) 1 1)
 (hB:W.heap[B]? = some (.cells #[.int .i64 i,t] 42 (0,0))) (hb:n+1≤1099511627776) (H:Nat) (hH:W.heap.size=H)
 (h:∀ g cap w',w'.ownsRow 0 42 2 (.slice (some ⟨g,0,none⟩) (n+1) cap) (n+1) (l++[.int .i64 i,t])→W.grownBy w' v.ownBlock→(v.ownBlock=some g∨g=H)→wpList Tryz.prog ops Q rest (a.put o.dst (.slice (some ⟨g,0,none⟩) (n+1) cap)) w') :
 wpList Tryz.prog ops Q (o::rest) a W:=by
 obtain⟨ii,hi,hz0,hz1,hz2⟩:=info_parts info42
 exact wpList_append_lies W hgd s x 23 ho 0 42 ii _ 2 32 un23 hi hz0 hz1 hz2 rfl (by decide) v n _ hs hown ⟨B,0,none⟩ 1 1 [.int .i64 i,t] hx rfl (fun j u hu=>World.news_of_block hB j u hu) (by simp[h1];rfl) (by omega) (by simp only[maxLen];omega) (by omega) (Nat.zero_le _) H hH (fun g cap w' k1 k2 k3 _=>h g cap w' k1 k2 k3)
end
def pchs (o:List UInt8)(G:List E3)(i:Nat): List Nat:=(List.range i).filter fun j=>pinR o G (j:Nat)
variable {i:Nat}
theorem pchs_yes {o:List UInt8}{G:List E3}(h:pinR o G (i:Nat)=true): pchs o G (i+1)=pchs o G i++[i]:=by unfold pchs; rw[List.range_succ,List.filter_append];simp[h]
theorem pchs_no {o:List UInt8}{G:List E3}(h:pinR o G (i:Nat)=false): pchs o G (i+1)=pchs o G i:=by unfold pchs; rw[List.range_succ,List.filter_append];simp[h]
theorem pchs_len (o:List UInt8)(G:List E3)(i:Nat): (pchs o G i).length≤i:=by
 have:=List.length_filter_le (fun j=>pinR o G ((j:Nat):Int)) (List.range i)
 unfold pchs; simpa using this
theorem pchs_at {o:List UInt8}{G:List E3}{j k:Nat}(h:(pchs o G i)[j]? = some k): pinR o G (k:Nat)=true:=by
 have:=jM h
 unfold pchs at this
 exact (List.mem_filter.1 this).2
theorem pchs_nil {o:List UInt8}{G:List E3}(h:pchs o G o.length=[]): ∀ i,i+1<o.length→pinAt o G i=false:=fun i hi=>by
 cases hp:pinAt o G i with
 | false=>rfl
 | true =>
   have:i∈pchs o G o.length:=by
    unfold pchs
    refine List.mem_filter.2 ⟨List.mem_range.2 (by omega),?_⟩
    unfold pinR
    rw[Int.toNat_natCast,hp]
    simp; omega
   rw[h] at this; cases this
theorem makeGo_len {full:Bool}{o:List UInt8}{G:List E3}{K:Int}(h:i+1<o.length)(hg:G.length=o.length+1): (makeGo full o G i K).length=(pinO o i).length+1:=by
 unfold pinO makeGo; simp; omega
theorem orders_calls {W:World}{s:ByteArray}(hs:s.size≤9223372036854775807){v:Value}{cl:List UInt8}(hv:BIn W v cl): Calls Tryz.prog 10 #[.string s,v] W fun e W'=>e=.returned (.bool true)∧Hid (Below W.heap.size W W'):=by
 have HV:=jH hv
 obtain⟨ca,cc,rfl⟩:=hv.shape
 clear hv
 obtain⟨cn,hcn⟩:∃ n,n=cl.length:=⟨_,rfl⟩
 rw[← hcn] at HV ⊢
 have Hcn:=jH hcn
 have hI:=yU (W:=W) hs (n:=400) (by decide)
 have hwl:(isLt s.data.toList&&decide (s.size≤400))=isWordL s.data.toList:=by
  have hsz:s.data.toList.length=s.size:=by simp
  rw[Bool.eq_iff_iff,Bool.and_eq_true,decide_eq_true_eq,jf,hsz]
 rw[hwl] at hI
 obtain⟨tb,htb⟩:∃ tb,isWordL s.data.toList=tb:=⟨_,rfl⟩
 rw[htb] at hI
 have Htb:=jH htb
 clear hwl htb hcn
 by_cases h1:130<s.size
 ·have q1:decide ((130:Int)<(s.size:Int))=true:=by rw[decide_eq_true_eq];omega
  go_enter Tryz.func10,Tryz.ntmps10
  go_wp2_with fail
  have hS:=jx W
  go_wp2_with fail
  refine hS.mono ?_
  rintro e wz ⟨rfl,hbz⟩
  go_wp2_with fail
  go_ret
  exact⟨by first | rfl | simp,Below.trans' (Below.refl _ _) hbz.out⟩
 ·have q1:decide ((130:Int)<(s.size:Int))=false:=by rw[decide_eq_false_iff_not];omega
  by_cases h2:200<cn
  ·have q2:decide ((200:Int)<(cn:Int))=true:=by rw[decide_eq_true_eq];omega
   go_enter Tryz.func10,Tryz.ntmps10
   go_wp2_with fail
   have hS:=jx W
   go_wp2_with fail
   refine hS.mono ?_
   rintro e wz ⟨rfl,hbz⟩
   go_wp2_with fail
   go_ret
   exact⟨by first | rfl | simp,Below.trans' (Below.refl _ _) hbz.out⟩
  ·have q2:decide ((200:Int)<(cn:Int))=false:=by rw[decide_eq_false_iff_not];omega
   obtain⟨oc,hoc⟩:∃ oc,oc=outc s.data.toList:=⟨_,rfl⟩
   have HT0:=jH (fun w=>trU (W:=w) hs)
   rw[← hoc] at HT0
   obtain⟨st0,left,x,er⟩:=oc
   have Hoc:=jH hoc
   clear hoc
   go_enter Tryz.func10,Tryz.ntmps10
   go_wp2_with fail
   refine hI.mono ?_
   rintro e w0 ⟨rfl,hb0⟩
   have HB0:=jH hb0.out
   clear hI hb0
   cases tb with
   | false =>
     go_wp2_with fail
     have hS:=jx w0
     go_wp2_with fail
     refine hS.mono ?_
     rintro e wz ⟨rfl,hbz⟩
     go_wp2_with fail
     go_ret
     exact⟨by first | rfl | simp,Below.trans' HB0.out hbz.out⟩
   | true =>
     have Hle:Hid (s.size≤130):=by show _≤_; omega
     have hT:=HT0.out w0
     clear h1
     go_wp2_with fail
     refine hT.mono ?_
     rintro e w1 ⟨sa,sn,sc,qu,qv,qm,rfl,hb1,-,hie1⟩
     dsimp only at hie1 ⊢
     obtain⟨W1,hW1⟩:∃ w,w1.alloc (.cells #[.pointer qu,.pointer qv,.pointer qm] 28)=w:=⟨_,rfl⟩
     obtain⟨D7,hD7⟩:∃ D,w1.heap.size=D:=⟨_,rfl⟩
     have hbl1:Below w1.heap.size w1 W1:=by rw[← hW1];exact (jV w1 _).out
     have HB1:Hid (Below W.heap.size W W1):=Below.trans' (Below.trans' HB0.out hb1.out) hbl1
     have HX1:Hid (W1.heap[D7]? = some (.cells #[.pointer qu,.pointer qv,.pointer qm] 28 (0,0))):=by show _=_; rw[← hW1,← hD7];exact jD w1 _
     have HE1:Hid (IsE W1 (.agg #[.pointer qu,.pointer qv,.pointer qm]) x):=IsE.below hie1.out hbl1
     clear hT hb1 hie1 hbl1
     by_cases h0:er=0
     ·subst h0
      obtain⟨o',G',HTr,HLx⟩:∃ o' G',Hid (traceE s.data.toList=some (st0,o',G'))∧Hid (left=o'.length∧x=endE o' G'):=by
       cases ht:traceE s.data.toList with
       | none =>
         have:=Hoc.out
         rw[outc_full Htb.out ht] at this
         exact absurd (congrArg (fun q:List (Nat×Int)×Nat×E3×Int=>q.2.2.2) this) (by simp)
       | some r =>
         obtain⟨a,o,G⟩:=r
         have h:=Hoc.out
         rw[outc_ok Htb.out ht] at h
         have e1:=congrArg (fun q:List (Nat×Int)×Nat×E3×Int=>q.1) h
         have e2:=congrArg (fun q:List (Nat×Int)×Nat×E3×Int=>q.2.1) h
         have e3:=congrArg (fun q:List (Nat×Int)×Nat×E3×Int=>q.2.2.1) h
         dsimp only at e1 e2 e3
         subst e1
         exact⟨o,G,rfl,e2,e3⟩
      have hN:=xM W1
      clear Hoc
      go_wp2_with fail
      refine hN.mono ?_
      rintro e w2 ⟨p,fv,fl,rfl,hrw,hb2,hnew⟩
      obtain⟨W3,hW3⟩:∃ W3,w2.alloc (.cells #[.pointer (some ⟨p,0,none⟩),.bool false] 75)=W3:=⟨_,rfl⟩
      obtain⟨c,hc⟩:∃ c,w2.heap.size=c:=⟨_,rfl⟩
      have hbl3:Below w2.heap.size w2 W3:=by rw[← hW3];exact (jV w2 _).out
      have HR3:Hid (RC 1000000000 W3 c p fv fl [0] false):=⟨⟨[],by decide,hrw.out.below hbl3⟩,by rw[← hW3,← hc];exact jD w2 _⟩
      have HB3:Hid (Below W1.heap.size W1 W3):=Below.trans' hb2.out hbl3
      have HN3:Hid (∀ b∈c::rF p fv,W1.heap.size≤b):=fun b hb=>by
       rcases List.mem_cons.1 hb with rfl | hb
       ·rw[← hc];exact hb2.out.size
       ·exact hnew.out b (rF_rB hb)
      have hRd:=rread_calls HR3.out Hle.out (jf.1 Htb.out).1 (by have:=Hle.out; omega)
      clear hN hrw hb2 hnew hbl3
      go_wp2_with fail
      refine hRd.mono ?_
      rintro e w4 ⟨s1,gv1,l1,fv1,fl1,vs1,rfl,hs1,hz1,hp1,hA1,hk1⟩
      obtain⟨ga1,gc1,hgv⟩:=ja hp1.out.row
      subst hgv
      obtain⟨n1,hn1⟩:∃ n,n=l1.length:=⟨_,rfl⟩
      rw[← hn1] at hp1
      rw[← hn1]
      clear hn1 hRd
      have HEO:Hid (∀ x∈(readE s.data.toList).2,EOK x):=fun x hx=>by
       obtain⟨i,hi⟩:=List.getElem?_of_mem hx
       obtain⟨n,rfl,hn⟩:=hA1.out i x hi
       exact powA_eok (by have:=Hle.out; omega)
      have HLn:Hid ((readE s.data.toList).2.length=s1.size+1):=by
       have h:=z8 s.data.toList ([],[Zero]) rfl
       have h2:(readE s.data.toList).1.length=s1.size:=by rw[← hs1.out];simp
       show _=_
       rw[← h2];exact h
      have HLt:Hid (∀ x∈s1.data.toList,x=98∨x=66):=by
       show ∀ x∈s1.data.toList,_
       rw[hs1.out];exact xO (zQ.1 (jf.1 Htb.out).1)
      obtain⟨D,hD⟩:∃ D,w4.heap.size=D:=⟨_,rfl⟩
      obtain⟨W5,hW5⟩:∃ w,w4.alloc (.cells #[.string s1,.slice ga1 n1 gc1] 78)=w:=⟨_,rfl⟩
      have HS5:Hid (OdS W3 W5 c D (1000000000+21000000000*(s.size - s1.size)) p fv fv1 fl fl1 [0] vs1 false s1 (.slice ga1 n1 gc1) l1 (readE s.data.toList).2 (.slice none 0 0) []):=by
       show OdS _ _ _ _ _ _ _ _ _ _ _ _ _ _ _ _ _ _ _
       have hbl:Below w4.heap.size w4 W5:=by rw[← hW5];exact (jV w4 _).out
       exact {
        rk:=hk1.out.post hbl
        b6:=by rw[← hW5,← hD];exact jD w4 _
        pr:=hp1.out.below hbl
        st:=GRow.nil _ _
        h6:=by rw[← hD];exact hk1.out.fr.size }
      have Hs1:=jH hs1.out
      have Hz1:=jH hz1.out
      have HLtw:=jH (zQ.1 (jf.1 Htb.out).1)
      have HOI:Hid (OInv s.data.toList [] s1.data.toList (readE s.data.toList).2):=by
       show OInv _ _ _ _
       rw[Hs1.out];exact OInv.start HLtw.out
      clear hs1 hz1 hp1 hA1 hk1
      go_wp2_with fail
      go_loopg [11,12] s.size (fun g1 v11 v12 wr=>∃ (n:Nat) (so:ByteArray) (ga:Option Addr) (gn gc:Nat) (l:List N3) (G:List E3) (fv':Value) (fl':List Value) (vs':List Int) (full:Bool) (S:List Stp),v12=.int .i64 n∧so.size≤g1∧2*n+so.size≤s.size∧Hid (S.length=n)∧Hid (G.length=so.size+1)∧Hid (∀ x∈so.data.toList,x=98∨x=66) ∧
       Hid (OdS W3 wr c D (1000000000+21000000000*(s.size - so.size)) p fv fv' fl fl' [0] vs' full so (.slice ga gn gc) l G v11 S)∧Hid (∀ s∈S,-9223372036854775808≤s.1∧s.1≤9223372036854775807)∧Hid ((full=false∧(∀ x∈G,EOK x)∧OInv s.data.toList S so.data.toList G)∨full=true))
      case atStart=>exact⟨0,s1,ga1,n1,gc1,l1,_,fv1,fl1,vs1,false,[],rfl,Hz1.out,by have:=Hz1.out; omega,rfl,HLn,HLt,HS5,fun s h=>by simp at h,.inl ⟨rfl,HEO.out,HOI.out⟩⟩
      case round =>
       clear HS5 HOI HEO HLn HLt Hs1 Hz1
       obtain⟨n,so,ga,gn,gc,l,G,fv',fl',vs',full,S,rfl,hg,hss,HSl,HGl,HLe,HR,HSz,HIn⟩:=hrel
       obtain⟨wo,rfl⟩:∃ w,w=wr:=⟨_,rfl⟩
       have HBo:Hid (Below W1.heap.size W1 wo):=jy HB3.out (jR _) (fun b hb=>HN3.out b hb) HR.out.rk.fr
       have hso:so.size≤130:=by have:=Hle.out; omega
       have hnw:IntKind.i64.wrap ((n:Int)+1)=(n:Int)+1:=IntWalk.i64_in _ (by omega)
       go_wp2_with fail
       go_loopg [13,14] so.size (fun g2 v13 v14 wr=>∃ (i:Nat) (pa:Option Addr) (pn pc:Nat),v13=.slice pa pn pc∧v14=.int .i64 i∧i≤so.size∧so.size - i≤g2∧Hid (IRow wr (.slice pa pn pc) (pchs so.data.toList G i))∧Hid (∀ b,(Value.slice pa pn pc).ownBlock=some b→wo.heap.size≤b)∧Hid (Below wo.heap.size wo wr))
       case atStart=>exact⟨0,none,0,0,rfl,rfl,Nat.zero_le _,jR _,⟨by simp[pchs],.inl ⟨rfl,rfl⟩⟩,fun b h=>by simp[Value.ownBlock] at h,Below.refl _ _⟩
       case round =>
        obtain⟨i,pa,pn,pc,rfl,rfl,hin,hg2,HO,HOb,HBi⟩:=hrel
        have HRi:=jH (HR.out.below HBi.out)
        have hln:pn=(pchs so.data.toList G i).length:=by
         obtain⟨_,_,e⟩:=ja HO.out
         cases e; rfl
        have hiw:IntKind.i64.wrap ((i:Int)+1)=(i:Int)+1:=IntWalk.i64_in _ (by omega)
        have y0:wr.cell? ⟨D,0,none⟩=some (.string so):=by rw[jB HRi.out.b6];rfl
        have y1:wr.cell? ⟨D,1,none⟩=some (.slice ga gn gc):=by rw[jB HRi.out.b6];rfl
        by_cases hi:i<so.size
        ·have hiz:decide ((i:Int)<(so.size:Int))=true:=by rw[decide_eq_true_eq];omega
         have hP:=rpin_calls HRi.out.rk.rc HRi.out.pr HGl.out (by omega) HLe.out (i:Int)
         obtain⟨pb,hpb⟩:∃ pb,pinR so.data.toList G (i:Nat)=pb:=⟨_,rfl⟩
         rw[hpb] at hP
         have Hln:=jH hln
         have Hpb:=jH hpb
         clear hln hpb
         go_wp2_with fail
         refine hP.mono ?_
         rintro e w6 ⟨rfl,hb6⟩
         have HB6:Hid (Below wo.heap.size wo w6):=Below.trans' HBi.out hb6.out
         have HO6:Hid (IRow w6 (.slice pa pn pc) (pchs so.data.toList G i)):=jK HO.out hb6.out
         clear hP hb6 y0 y1 HO HRi
         cases pb with
         | false =>
           have e:=pchs_no Hpb.out
           rw[← e] at HO6
           clear e
           go_wp2_with fail
           go_roundg (so.size - (i+1))
           case measure=>omega
           case rel=>exact⟨i+1,pa,pn,pc,rfl,by go_num,by omega,by omega,HO6,HOb,HB6⟩
         | true =>
           have hbn:pn+1≤8000000000000:=by have:=pchs_len so.data.toList G i; have:=Hln.out; omega
           have hl1:(pchs so.data.toList G i).length+1=pn+1:=by rw[Hln.out]
           go_wp2_with (at_builtin; go_loud (refine app_I2 rfl _ _ rfl (.slice pa pn pc) (pchs so.data.toList G i) rfl (World.ownsRow.alloc HO6.out _) _ i rfl (jD w6 _) (pn+1) hl1 hbn _ rfl ?_);intro b2 c2 w7 R7 G7 A7 L7)
           have HB7:Hid (Below wo.heap.size wo w7):=below_grownO (HB6.out.alloc HB6.out.size _) HOb.out G7
           have HO7:Hid (∀ b,(Value.slice (some ⟨b2,0,none⟩) (pn+1) c2).ownBlock=some b→wo.heap.size≤b):=fun b hb=>by
            have e:b2=b:=by simpa [Value.ownBlock] using hb
            subst e
            rcases A7 with h | h
            ·exact HOb.out _ h
            ·rw[h];exact (HB6.out.alloc HB6.out.size _).size
           have HR7:Hid (IRow w7 (.slice (some ⟨b2,0,none⟩) (pn+1) c2) (pchs so.data.toList G (i+1))):=by rw[pchs_yes Hpb.out];exact R7
           clear R7 G7 A7 L7
           go_wp2_with fail
           go_roundg (so.size - (i+1))
           case measure=>omega
           case rel=>exact⟨i+1,some ⟨b2,0,none⟩,pn+1,c2,rfl,by go_num,by omega,by omega,HR7,HO7,HB7⟩
        ·obtain rfl:i=so.size:=by omega
         have hiz:decide ((so.size:Int)<(so.size:Int))=false:=by rw[decide_eq_false_iff_not];omega
         have HBr:Hid (Below W1.heap.size W1 wr):=Below.trans' HBo.out HBi.out
         have cf:=HRi.out.rk.rc.c1
         have Hln:=jH hln
         obtain⟨wi,rfl⟩:∃ w,w=wr:=⟨_,rfl⟩
         clear hi hin hg2 hiw hln
         by_cases hp0:pn=0
         ·subst hp0
          have Hnil:Hid (pchs so.data.toList G so.data.toList.length=[]):=by
           show _=_
           have:so.data.toList.length=so.size:=by simp
           rw[this];exact List.length_eq_zero_iff.1 Hln.out.symm
          cases full with
          | true =>
            go_wp2_with fail
            have hS:=jx wi
            go_wp2_with fail
            refine hS.mono ?_
            rintro e wz ⟨rfl,hbz⟩
            go_wp2_with fail
            go_ret
            exact⟨by first | rfl | simp,Below.trans' (Below.trans' HB1.out HBr.out) hbz.out⟩
          | false =>
            have hOI:OInv s.data.toList S so.data.toList G:=by
             rcases HIn.out with h | h
             ·exact h.2.2
             ·exact absurd h (by decide)
            have HCk:Hid (ckOut s.data.toList S=(left,x,0)):=by
             show _=_
             have h1:checkE s.data.toList S=.ok (so.data.toList,G):=by
              have:=hOI.chk []
              rw[List.append_nil] at this
              exact this
             obtain⟨d1,d2⟩:=hOI.done HLtw.out (pchs_nil Hnil.out) HTr.out
             unfold ckOut; rw[if_pos Htb.out,h1]
             rw[HLx.out.1,HLx.out.2,← d1,← d2]
            have hC:=ckU (W:=wi) hs (HRi.out.st.srd HSz.out) (by have:=HSl.out; have:=Hle.out; omega)
            rw[HCk.out] at hC
            clear hOI
            go_wp2_with fail
            refine hC.mono ?_
            rintro e w8 ⟨ru,rv,rm,rfl,hb8,hie8⟩
            dsimp only at hie8 ⊢
            obtain⟨w9,hw9⟩:∃ w,w8.alloc (.cells #[.pointer ru,.pointer rv,.pointer rm] 28)=w:=⟨_,rfl⟩
            obtain⟨D18,hD18⟩:∃ D,w8.heap.size=D:=⟨_,rfl⟩
            have hbl9:Below w8.heap.size w8 w9:=by rw[← hw9];exact (jV w8 _).out
            have HX9:Hid (w9.heap[D18]? = some (.cells #[.pointer ru,.pointer rv,.pointer rm] 28 (0,0))):=by show _=_; rw[← hw9,← hD18];exact jD w8 _
            have HE9:Hid (IsE w9 (.agg #[.pointer ru,.pointer rv,.pointer rm]) x):=IsE.below hie8.out hbl9
            have HB9:Hid (Below W1.heap.size W1 w9):=Below.trans' (Below.trans' HBr.out hb8.out) hbl9
            have hS:=jx w9
            clear hC hb8 hie8 hbl9
            go_wp2_with fail
            refine hS.mono ?_
            rintro e w10 ⟨rfl,hb10⟩
            have HB10:Hid (Below W1.heap.size W1 w10):=Below.trans' HB9.out hb10.out
            have hE:=equal_calls (IsE.below HE9.out hb10.out) (IsE.below HE1.out HB10.out)
            have HX10:=jH (Below.here hb10.out HX9.out)
            have HY10:=jH (Below.here HB10.out HX1.out)
            have c0:w10.cell? ⟨D7,0,none⟩=some (.pointer qu):=by rw[jB HY10.out];rfl
            have c1:w10.cell? ⟨D7,1,none⟩=some (.pointer qv):=by rw[jB HY10.out];rfl
            have c2:w10.cell? ⟨D7,2,none⟩=some (.pointer qm):=by rw[jB HY10.out];rfl
            have d0:w10.cell? ⟨D18,0,none⟩=some (.pointer ru):=by rw[jB HX10.out];rfl
            have d1:w10.cell? ⟨D18,1,none⟩=some (.pointer rv):=by rw[jB HX10.out];rfl
            have d2:w10.cell? ⟨D18,2,none⟩=some (.pointer rm):=by rw[jB HX10.out];rfl
            clear hS hb10
            go_wp2_with fail
            refine hE.mono ?_
            rintro e w11 ⟨rfl,hb11⟩
            go_wp2_with fail
            go_ret
            exact⟨by first | rfl | simp,Below.trans' (Below.trans' HB1.out HB10.out) hb11.out⟩
         ·have hpz:decide ((pn:Int)=0)=false:=by rw[decide_eq_false_iff_not];omega
          have hpz2:((pn:Int)==0)=false:=by simpa using hp0
          cases full with
          | true =>
            go_wp2_with fail
            have hS:=jx wi
            go_wp2_with fail
            refine hS.mono ?_
            rintro e wz ⟨rfl,hbz⟩
            go_wp2_with fail
            go_ret
            exact⟨by first | rfl | simp,Below.trans' (Below.trans' HB1.out HBr.out) hbz.out⟩
          | false =>
            obtain⟨HGo,HOI⟩:Hid (∀ x∈G,EOK x)∧Hid (OInv s.data.toList S so.data.toList G):=by
             rcases HIn.out with h | h
             ·exact⟨h.2.1,h.2.2⟩
             ·exact absurd h (by decide)
            obtain⟨pb,rfl⟩:∃ b,pa=some ⟨b,0,none⟩:=by
             obtain⟨g,cap,e,_,_⟩:=zr HO.out (by have:=Hln.out; omega)
             exact⟨g,(Value.slice.inj e).1⟩
            obtain⟨pm,hpm⟩:∃ m,pn=m+1:=⟨pn - 1,by omega⟩
            obtain⟨kl,hkl⟩:∃ k,(pchs so.data.toList G so.size)[pm]? = some k:=⟨_,jG (by have:=Hln.out; omega)⟩
            have hp130:pn≤130:=by have:=pchs_len so.data.toList G so.size; have:=Hln.out; omega
            have cl0:=IRow.at HO.out hkl
            have pw1:IntKind.i64.wrap ((pn:Int) - 1)=(pm:Int):=by rw[IntKind.wrap_i64];omega
            have pw2:((pm:Int)).toNat=pm:=by omega
            have pw3:(pm:Int)<(pn:Int):=by omega
            have pw4:(0:Int)≤(pm:Int):=by omega
            have n0:(0:Int)≤(n:Int):=by omega
            have Hkl:=jH hkl
            have Hpm:=jH hpm
            have Hp130:=jH hp130
            clear hkl hpm
            go_upto_if 85 with fail
            go_cut [15] from 85 to 96 (fun v15 wq=>∃ k:Nat,v15=.int .i64 k∧Hid (pinR so.data.toList G (k:Nat)=true)∧wq=wi)
            case first =>
             by_cases hnc:n<cn
             ·have nz:decide ((n:Int)<(cn:Int))=true:=by rw[decide_eq_true_eq];omega
              have nz2:(n:Int)<(cn:Int):=by omega
              have nt:((n:Int)).toNat=n:=by omega
              obtain⟨cb,hcb⟩:∃ b,cl[n]? = some b:=⟨_,jG (by have:=Hcn.out; omega)⟩
              obtain⟨cg,co,rfl,hcell⟩:∃ g o,ca=some ⟨g,o,none⟩∧wi.cell? ⟨g,o+n,none⟩=some (.int .u8 (cb.toNat:Nat)):=by
               rcases HV.out.below (Below.trans' HB1.out HBr.out) with ⟨_,h⟩ | ⟨_,_,_,h⟩ | ⟨g,o,c',he,h⟩
               ·rw[h] at hcb; simp at hcb
               ·rw[h] at hcb; simp at hcb
               ·exact⟨g,o,(Value.slice.inj he).1,h n cb hcb⟩
              obtain⟨j,hj⟩:∃ j,j=cb.toNat % pn:=⟨_,rfl⟩
              have hjl:j<pn:=by rw[hj];exact Nat.mod_lt _ (by omega)
              have m1:Int.tmod ((cb.toNat:Nat):Int) (pn:Int)=(j:Int):=by rw[hj,Int.ofNat_tmod]
              have hcb2:cb.toNat<256:=cb.toNat_lt
              have m2:IntKind.i64.wrap ((cb.toNat:Nat):Int)=((cb.toNat:Nat):Int):=by rw[IntKind.wrap_i64];omega
              have m3:((j:Int)).toNat=j:=by omega
              have m4:(j:Int)<(pn:Int):=by omega
              have m5:(0:Int)≤(j:Int):=by omega
              have m6:¬ ((pn:Int)=0):=by omega
              have m7:IntKind.i64.wrap (j:Int)=(j:Int):=by rw[IntKind.wrap_i64];omega
              obtain⟨kj,hkj⟩:∃ k,(pchs so.data.toList G so.size)[j]? = some k:=⟨_,jG (by have:=Hln.out; omega)⟩
              have cj:=IRow.at HO.out hkj
              have Hkj:=jH hkj
              clear hkj hj hcb
              go_wp2_with fail
              go_meet
              case rel=>exact⟨kj,rfl,pchs_at Hkj.out,rfl⟩
             ·have nz:decide ((n:Int)<(cn:Int))=false:=by rw[decide_eq_false_iff_not];omega
              go_wp2_with fail
              go_meet
              case rel=>exact⟨kl,rfl,pchs_at Hkl.out,rfl⟩
            case rest =>
             obtain⟨k,rfl,HPk,rfl⟩:=hcut
             obtain⟨wi,rfl⟩:∃ w,w=wc:=⟨_,rfl⟩
             clear cl0 pw1 pw2 pw3 pw4 n0 hpz hpz2 hp0 hp130
             have hi:=(zg HPk.out).1
             have hpa:=(zg HPk.out).2
             have hn1:k+1<so.size:=by simpa using hi
             have i7:k<so.size:=by omega
             obtain⟨g1,hgg⟩:∃ g,G[k+1]? = some g:=⟨_,jG (by have:=HGl.out; omega)⟩
             have hgd:so.data.toList.getD k 0=so[k]:=ba_get i7
             have hx1:=HLe.out so[k] (by rw[← hgd,List.getD_eq_getElem?_getD,jG (by simpa using i7)];exact List.getElem_mem _)
             have HKe:Hid (pinK so.data.toList G k=powE so[k] g1):=by show _=_; unfold pinK; rw[hgd,List.getD_eq_getElem?_getD,hgg];rfl
             have hv2:so[k]=98→g1.u≠0→0≤g1.v:=by
              intro h1 h2
              unfold pinAt at hpa
              have hg2:G.getD (k+1) Zero=g1:=by rw[List.getD_eq_getElem?_getD,hgg];rfl
              rw[hgd,h1,hg2,Bool.and_eq_true] at hpa
              have h3:=hpa.2
              unfold pinB at h3
              rw[if_pos rfl,decide_eq_true_eq] at h3
              rcases h3.2 with h4 | h4
              ·exact absurd h4 h2
              ·exact h4
             have HBb:Hid (1000000000+21000000000*(s.size - so.size)+42000000000≤5000000000000):=by show _≤_; have:=Hle.out; omega
             have hE1:=HGo.out g1 (jM hgg)
             have HBt:Hid (BtS (powE so[k] g1)∧MkH (orFull false (powE so[k] g1)) so[k] (powE so[k] g1)):=by
              by_cases hal:allowed (powE so[k] g1)
              ·exact⟨BtS.of_allowed hal,MkH.of_allowed hal⟩
              ·have hff:orFull false (powE so[k] g1)=true:=by
                cases h:orFull false (powE so[k] g1) with
                | true=>rfl
                | false=>exact absurd (zN.1 h) hal
               rw[hff]
               rcases hx1 with h98 | h66
               ·rw[h98] at hal ⊢
                have hp:powE 98 g1=shx g1.u g1.v:=rfl
                rw[hp] at hal ⊢
                have hu0:g1.u≠0:=fun h=>hal (by
                 rw[h]
                 have:shx 0 g1.v=0:=by unfold shx shl; rw[j5];rfl
                 rw[this];exact jX)
                have hok:shOK g1.u g1.v:=fun e _=>by have:=hv2 h98 hu0; omega
                exact⟨big_bts hE1.u hE1.v hok,MkH.big rfl (big_sz hE1.u hE1.v hok)⟩
               ·rw[h66] at hal
                exact absurd hE1.m hal
             have hP2:=rpow_calls HRi.out.rk.rc HRi.out.pr HGl.out (by omega) hn1 hx1 hgg hE1 hv2 (by have:=HBb.out; omega)
             clear y0 y1
             have y0:wi.cell? ⟨D,0,none⟩=some (.string so):=by rw[jB HRi.out.b6];rfl
             have y1:wi.cell? ⟨D,1,none⟩=some (.slice ga gn gc):=by rw[jB HRi.out.b6];rfl
             have Hn1:=jH hn1
             have Hx1:=jH hx1
             clear hi hpa hgg hgd hx1 hv2 hE1 cf
             go_wp2_with fail
             refine hP2.mono ?_
             rintro e w7 ⟨q,fv2,fl2,vs2,rfl,hk2,hq2⟩
             have HR7:=jH (HRi.out.call hk2.out)
             clear hP2 hk2 y0 y1
             rw[← HKe.out] at HR7 hq2 HBt
             obtain⟨K,hK⟩:∃ K,K=pinK so.data.toList G k:=⟨_,rfl⟩
             rw[← hK] at HR7 hq2 HBt
             have HK:=jH hK
             obtain⟨ff,hff⟩:∃ ff,orFull false K=ff:=⟨_,rfl⟩
             rw[hff] at HR7 HBt
             have Hff:=jH hff
             clear hK hff
             have cp:=HR7.out.rk.rc.c0
             obtain⟨C2,hC2⟩:=HR7.out.rk.rc.rw
             have hBy:=rBytesS_calls hC2.2 hq2.out HBt.out.1
             clear hC2
             go_wp2_with fail
             refine hBy.mono ?_
             rintro e w8 ⟨bv,rfl,hbv,hb8,-⟩
             obtain⟨ba,bc,hbe⟩:=ja hbv.out
             subst hbe
             have HR8:=jH (HR7.out.below hb8.out)
             have HBv:=jH hbv.out
             clear hBy hbv hb8 cp
             obtain⟨us,hul,hrow,hus⟩:=HR8.out.st.row
             have Hrow:=jH hrow
             have Hus:=jH hus
             have Hul:=jH hul
             have hbS:S.length+1≤1099511627776:=by have:=HSl.out; have:=Hle.out; omega
             clear hul hrow hus
             go_wp2_with (at_builtin; go_loud (refine app_Sd rfl _ _ rfl u11 S.length (stv S us) rfl (zJ Hrow.out (jV w8 _).out) _ (k:Int) (.slice ba (nbytes K).length bc) rfl rfl (jD w8 _) hbS _ rfl ?_);intro g9 c9 w9 K9 G9 A9
                          have HRa:=jH (HR8.out.below (jV w8 (.cells #[.int .i64 (k:Int),.slice ba (nbytes K).length bc] 42)).out)
                          have HG9:Hid (GRow W3.heap.size w9 (.slice (some ⟨g9,0,none⟩) (S.length+1) c9) (S++[((k:Int),nbytes K)])):=by
                           show GRow _ _ _ _
                           refine GRow.snoc (s:=((k:Int),nbytes K)) Hul.out (fun i u s h1 h2=>jK (Hus.out i u s h1 h2) (jV w8 _).out) (jK HBv.out (jV w8 _).out) (fun b e=>⟨HR8.out.st.own b e,?_⟩) HRa.out.rk.fr.size K9 G9 A9
                           obtain⟨c',hc'⟩:=jO Hrow.out e
                           exact⟨c',Below.here (jV w8 _).out hc'⟩
                          have HR9:=jH (HRa.out.app G9 HG9.out)
                          clear K9 G9 A9
                          have y0:w9.cell? ⟨D,0,none⟩=some (.string so):=by rw[jB HR9.out.b6];rfl
                          have y1:w9.cell? ⟨D,1,none⟩=some (.slice ga gn gc):=by rw[jB HR9.out.b6];rfl)
             have hMk:=rmakeO_calls HR9.out.rk.rc HR9.out.pr HGl.out (by omega) Hn1.out Hx1.out HGo.out hq2.out HBt.out.2 (by have:=HBb.out; omega)
             refine hMk.mono ?_
             rintro e w10 ⟨s3,gv3,l3,fv3,fl3,vs3,rfl,hs3,hp3,hk3⟩
             obtain⟨ga3,gc3,hgv3⟩:=ja hp3.out.row
             subst hgv3
             obtain⟨n3,hn3⟩:∃ n,n=l3.length:=⟨_,rfl⟩
             rw[← hn3] at hp3
             rw[← hn3]
             clear hn3 hMk y0 y1
             have HR10:=jH (HR9.out.call hk3.out)
             have HR11:=jH (HR10.out.set6 (s':=s3) hp3.out)
             have Hs3:=jH hs3.out
             have Hz3:Hid (s3.size+2=so.size):=by
              have h1:=zd (o:=so.data.toList) (i:=k) (by have:=Hn1.out; simpa using this)
              rw[← Hs3.out] at h1
              show _=_
              simpa using h1
             have HL3:Hid ((makeGo ff so.data.toList G k K).length=s3.size+1):=by
              have h1:=makeGo_len (full:=ff) (o:=so.data.toList) (G:=G) (i:=k) (K:=K) (by have:=Hn1.out; simpa using this) (by have:=HGl.out; simpa using this)
              rw[← Hs3.out] at h1
              show _=_
              simpa using h1
             have HLe3:Hid (∀ x∈s3.data.toList,x=98∨x=66):=by
              show ∀ x∈s3.data.toList,_
              rw[Hs3.out];exact xP HLe.out
             have y0:w10.cell? ⟨D,0,none⟩=some (.string so):=by rw[jB HR10.out.b6];rfl
             have y1:w10.cell? ⟨D,1,none⟩=some (.slice ga gn gc):=by rw[jB HR10.out.b6];rfl
             have fy:=fun o=>jF HR10.out.b6 o
             clear hs3 hp3 hk3
             go_wp2_with fail
             go_roundg (s3.size)
             case measure=>have:=Hz3.out; omega
             case rel=>exact⟨n+1,s3,ga3,n3,gc3,l3,makeGo ff so.data.toList G k K,fv3,fl3,vs3,makeFo ff so.data.toList G k K,S++[((k:Int),nbytes K)],by go_num,jR _,by have:=Hz3.out; omega,by show _=_; rw[List.length_append];have:=HSl.out; simp; omega,HL3,HLe3,HR11.out.mono (by have:=Hz3.out; omega),by
              show ∀ s∈_,_
              intro t ht
              rcases List.mem_append.1 ht with h | h
              ·exact HSz.out t h
              ·rw[List.mem_singleton] at h; subst h
               dsimp only
               have:=Hn1.out; omega,by
              show _∨_
              cases hmf:makeFo ff so.data.toList G k K with
              | true=>exact .inr rfl
              | false =>
                have hff:ff=false:=by
                 cases ff with
                 | false=>rfl
                 | true=>rw[makeFo_full] at hmf; exact absurd hmf (by decide)
                have hal:allowed K:=zN.1 (Hff.out.trans hff)
                have hKe:=HK.out
                subst hff
                subst hKe
                refine .inl ⟨rfl,makeG_eok hal hmf HGo.out,?_⟩
                rw[Hs3.out]
                exact HOI.out.step HPk.out hal hmf⟩
     ·have h3:decide (er=0)=false:=by simpa using h0
      have h4:(er==0)=false:=by simpa using h0
      have h5:(er != 0)=true:=by simpa using h0
      go_wp2_with fail
      have hS:=jx W1
      go_wp2_with fail
      refine hS.mono ?_
      rintro e wz ⟨rfl,hbz⟩
      go_wp2_with fail
      go_ret
      exact⟨by first | rfl | simp,Below.trans' HB1.out hbz.out⟩
end
end Sr

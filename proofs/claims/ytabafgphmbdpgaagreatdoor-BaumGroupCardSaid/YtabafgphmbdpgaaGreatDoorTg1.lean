/- Texts of this claim, joined: Mc, NSum, RawP, Made, GrpP. -/
import Derived.Test.YtabafgphmbdpgaaGreatDoorTe1
import Derived.Test.YtabafgphmbdpgaaGreatDoorTe36
import Derived.Test.YtabafgphmbdpgaaGreatDoorTe20
import Derived.Test.YtabafgphmbdpgaaGreatDoorTe34
import Derived.Test.YtabafgphmbdpgaaGreatDoorTe28
import Derived.Test.YtabafgphmbdpgaaGreatDoorTe16
import Derived.Test.YtabafgphmbdpgaaGreatDoorTe25
import Derived.Deep.AppendLies
import Derived.Test.YtabafgphmbdpgaaGreatDoorTe23
import Derived.Test.YtabafgphmbdpgaaGreatDoorTe22
set_option maxHeartbeats 8000000
set_option maxRecDepth 100000
namespace Sr
open Go Go.Proofs Go.RowKit Go.Maps Go.WideMaps
theorem sum_exps (n:Nat): ∀ (l:List Tm) (x:Int),(form x).length+l.length≤n→∀ j∈exps (x+lv l),j∈exps x∨∃ t∈l,∃ k,k≤3*n+2∧j=t.2+k:=by
 intro l
 induction l with
 | nil=>intro x _ j hj; simp only[lv,Int.add_zero] at hj; exact .inl hj
 | cons t l ih =>
   intro x hn j hj
   obtain⟨s,e⟩:=t
   have h1:=plus_len x s e
   simp only[List.length_cons] at hn
   rw[lv,show x+(tv (s,e)+lv l)=x+tv (s,e)+lv l by omega] at hj
   rcases ih (x+tv (s,e)) (by omega) j hj with h | ⟨t,ht,k,hk,e1⟩
   ·rcases xE x s e j h with h | h
    ·exact .inl h
    ·have:=ups_len x e
     have:=qF x e
     exact .inr ⟨(s,e),by simp,j - e,by omega,by dsimp only; omega⟩
   ·exact .inr ⟨t,by simp[ht],k,hk,e1⟩
theorem jV (W:World)(o:Obj): Hid (Below W.heap.size W (W.alloc o)):=(Below.refl _ W).alloc (jR _) o
theorem rF_rB {p b:Nat}{fv:Value}{fl:List Value}(h:b∈rF p fv): b∈rB p fv fl:=by
 rcases List.mem_cons.1 h with rfl | h
 ·exact yK.2 (.inl rfl)
 ·exact yK.2 (.inr (.inl (by simpa using h)))
section
structure NtR (w:World)(v:Value)(l:List (Bool×Option Addr))(xs:List Int): Prop where
 row:w.ownsRow 0 179 2 v l.length (tcl l)
 len:xs.length=l.length
 nums:∀ (j:Nat) (u:Bool×Option Addr) (x:Int),l[j]? = some u→xs[j]? = some x→IsN w (.agg #[.pointer u.2]) x
theorem NtR.below {w w':World}{v:Value}{l:List (Bool×Option Addr)}{xs:List Int}(h:NtR w v l xs)(hb:Below w.heap.size w w'): NtR w' v l xs :=
 ⟨jK h.row hb,h.len,fun j u x h1 h2=>(h.nums j u x h1 h2).below hb⟩
variable {w:World} {v:Value} {xs vs:List Int} {es:List Nat}
theorem NtR.at {l:List (Bool×Option Addr)}(h:NtR w v l xs){j:Nat}{u:Bool×Option Addr}(hj:l[j]? = some u): ∃ g c x,v=.slice (some ⟨g,0,none⟩) l.length c∧w.cell? ⟨g,j*2,none⟩=some (.bool u.1)∧w.cell? ⟨g,j*2+1,none⟩=some (.pointer u.2)∧xs[j]? = some x∧IsN w (.agg #[.pointer u.2]) x:=by
 have hlt:=(jL hj).1
 obtain⟨g,cap,e,_,_⟩:=zr h.row (by omega)
 subst e
 obtain⟨x,hx⟩:∃ x,xs[j]? = some x:=⟨_,jG (by rw[h.len];exact hlt)⟩
 obtain⟨k1,k2⟩:=tcl_get hj
 exact⟨g,cap,x,rfl,zx h.row k1,zx h.row k2,hx,h.nums j u x hj hx⟩
def nts (l:List (Bool×Option Addr))(xs:List Int): List Tm:=(l.zip xs).map fun p=>(p.1.1,p.2.toNat)
theorem nts_at {l:List (Bool×Option Addr)}{j:Nat}{u:Bool×Option Addr}{x:Int}(hj:l[j]? = some u)(hx:xs[j]? = some x): (nts l xs)[j]? = some (u.1,x.toNat):=by
 unfold nts
 rw[List.getElem?_map,List.getElem?_zip_eq_some (z:=(u,x)) |>.2 ⟨hj,hx⟩];rfl
theorem s140_calls {W:World}{s:Bool}{q:Option Addr}{x:Int}(hx:IsN W (.agg #[.pointer q]) x): Calls Tryz.prog 140 #[.agg #[.bool s,.pointer q]] W fun e W'=>e=.returned (.bool (decide (x<0)))∧Hid (Below W.heap.size W W'):=by
 obtain⟨W0,b,hW0,hb,HX,HB0⟩:∃ W0 b,W.alloc (.cells #[.bool s,.pointer q] 179)=W0∧W.heap.size=b∧Hid (W0.heap[b]? = some (.cells #[.bool s,.pointer q] 179 (0,0)))∧Hid (Below W.heap.size W W0) :=
  ⟨_,_,rfl,rfl,jD W _,(jV W _).out⟩
 have hS:=qQ (hx.below HB0.out)
 have c1:W0.cell? ⟨b,1,none⟩=some (.pointer q):=by rw[jB HX.out];rfl
 have hsg:decide (isg x<0)=decide (x<0):=by
  by_cases h:x<0
  ·rw[za h,decide_eq_true h];decide
  ·rw[decide_eq_false h,decide_eq_false (isg_n0 (by omega))]
 obtain⟨sg,hsge⟩:∃ s,isg x=s:=⟨_,rfl⟩
 rw[hsge] at hS hsg
 have Hsg:=jH hsg
 clear hx hsg hsge
 go_enter Tryz.func140,Tryz.ntmps140
 go_wp2_with fail
 refine hS.mono ?_
 rintro e w1 ⟨rfl,hb1⟩
 go_wp2_with fail
 go_ret
 exact⟨by rw[← Hsg.out];rfl,Below.trans' HB0.out hb1.out⟩
theorem ix_calls {W:World}{l:List (Bool×Option Addr)}(h:NtR W v l xs)(hn:l.length≤1000)(h0:∀ x∈xs,0≤x): Calls Tryz.prog 156 #[v,.func (.func 140) #[] #[]] W fun e W'=>e=.returned (.int .i64 (-1))∧Hid (Below W.heap.size W W'):=by
 obtain⟨va,vc,hv⟩:=ja h.row
 subst hv
 have HH:=jH h
 have HN:=jH h0
 obtain⟨ln,hln⟩:∃ n,n=l.length:=⟨_,rfl⟩
 rw[← hln] at HH hn ⊢
 have Hln:=jH hln
 clear h h0 hln
 go_enter Tryz.func156,Tryz.ntmps156
 go_wp2_with fail
 go_loopg [8] ln (fun g1 v8 wr=>∃ i:Nat,v8=.int .i64 (i:Nat)∧i≤ln∧ln - i≤g1∧Hid (Below W.heap.size W wr))
 case atStart=>exact⟨0,rfl,Nat.zero_le _,jR _,Below.refl _ _⟩
 case round =>
  obtain⟨i,rfl,hin,hg,HB⟩:=hrel
  have i0:(0:Int)≤(i:Int):=by omega
  by_cases hi:i<ln
  ·have q1:decide ((i:Int)<(ln:Int))=true:=by rw[decide_eq_true_eq];omega
   have q2:(i:Int)<(ln:Int):=by omega
   have it:((i:Int)).toNat=i:=by omega
   have iw:IntKind.i64.wrap ((i:Int)+1)=((i+1:Nat):Int):=by rw[IntKind.wrap_i64];omega
   obtain⟨u,hu⟩:∃ u,l[i]? = some u:=⟨_,jG (by have:=Hln.out; omega)⟩
   obtain⟨g,c,x,he,c0,c1,hx,hin⟩:=(HH.out.below HB.out).at hu
   obtain⟨rfl,-,-⟩:=Value.slice.inj he
   have hC:=s140_calls (s:=u.1) hin
   have hx0:decide (x<0)=false:=by rw[decide_eq_false_iff_not];have:=HN.out x (jM hx);omega
   rw[hx0] at hC
   clear he hu hx hx0 hin
   go_wp2_with fail
   refine hC.mono ?_
   rintro e w2 ⟨rfl,hb2⟩
   go_wp2_with fail
   go_roundg (ln - (i+1))
   case measure=>omega
   case rel=>exact⟨i+1,by go_num,by omega,by omega,Below.trans' HB.out hb2.out⟩
  ·have q1:decide ((i:Int)<(ln:Int))=false:=by rw[decide_eq_false_iff_not];omega
   go_wp2_with fail
   go_ret
   exact⟨rfl,HB⟩
theorem cf_calls {W:World}{l:List (Bool×Option Addr)}(h:NtR W v l xs)(hn:l.length≤1000)(h0:∀ x∈xs,0≤x): Calls Tryz.prog 139 #[v,.func (.func 140) #[] #[]] W fun e W'=>e=.returned (.bool false)∧Hid (Below W.heap.size W W'):=by
 have hI:=ix_calls h hn h0
 clear h h0
 go_enter Tryz.func139,Tryz.ntmps139
 go_wp2_with fail
 refine hI.mono ?_
 rintro e w1 ⟨rfl,hb1⟩
 go_wp2_with fail
 go_ret
 exact⟨by first | rfl | simp,hb1⟩
noncomputable def baseN (es:List Nat): List Nat:=List.range 615++es++es.flatMap fun (e:Nat)=>parts (e:Int)
theorem baseN_base (h:∀ e∈es,allowed (e:Int)): Base (baseN es) 4096:=by
 refine base_of (fun e he=>by unfold baseN; simp; omega) (fun p hp=>?_) (fun p hp e he=>?_)
 ·unfold baseN at hp
  rcases List.mem_append.1 hp with hp | hp
  ·rcases List.mem_append.1 hp with hp | hp
   ·have hp:=List.mem_range.1 hp
    have:=yW (jb (p:Int)) (small_form (by omega))
    omega
   ·exact (h p hp).1
  ·obtain⟨x,hx,hp⟩:=List.mem_flatMap.1 hp
   exact (h x hx).2.1 p hp
 ·unfold baseN at hp ⊢
  rcases List.mem_append.1 hp with hp | hp
  ·rcases List.mem_append.1 hp with hp | hp
   ·have hp:=List.mem_range.1 hp
    have:=qz he
    exact List.mem_append.2 (.inl (List.mem_append.2 (.inl (List.mem_range.2 (by omega)))))
   ·exact List.mem_append.2 (.inr (List.mem_flatMap.2 ⟨p,hp,mem_parts.2 (.here he)⟩))
  ·obtain⟨x,hx,hp⟩:=List.mem_flatMap.1 hp
   exact List.mem_append.2 (.inr (List.mem_flatMap.2 ⟨x,hx,mem_parts.2 (.step (mem_parts.1 hp) he)⟩))
theorem baseN_len (h:∀ e∈es,allowed (e:Int)): (baseN es).length≤615+2001*es.length:=by
 have key:∀ es:List Nat,(∀ e∈es,allowed (e:Int))→(es.flatMap fun (e:Nat)=>parts (e:Int)).length≤2000*es.length:=by
  intro es
  induction es with
  | nil=>intro _; simp
  | cons e es ih =>
    intro h
    have h1:=ih (fun x hx=>h x (by simp[hx]))
    have h2:=(h e (by simp)).2.2.1
    rw[List.flatMap_cons,List.length_append,List.length_cons]
    omega
 have:=key es h
 unfold baseN
 rw[List.length_append,List.length_append,List.length_range]
 omega
noncomputable def covN (es:List Nat): List Nat:=(baseN es).flatMap fun q=>(List.range 4097).map (q+·)
theorem covN_cov (h:∀ e∈es,allowed (e:Int))(hl:es.length≤150): Cov (baseN es) (covN es) 400000∧(covN es).length≤1232300000:=by
 have hb:=baseN_len h
 have key:∀ l:List Nat,(l.flatMap fun q=>(List.range 4097).map (q+·)).length=l.length*4097:=by
  intro l
  induction l with
  | nil=>rfl
  | cons a l ih=>rw[List.flatMap_cons,List.length_append,ih];simp; omega
 have hc:(covN es).length≤1232300000:=by unfold covN; rw[key];omega
 exact⟨⟨baseN_base h,fun q hq j hj=>List.mem_flatMap.2 ⟨q,hq,List.mem_map.2 ⟨j,List.mem_range.2 (by omega),rfl⟩⟩,by omega⟩,hc⟩
section
variable {ops:Array Oper} {o:Oper} {a:Act} {Q:Exit→Act→World→Prop} {K:Act→World→Prop} {W:World} {E:Prop}
theorem step_TR (hgd:o.guard=none)(s x:Operand)(ho:o.op=.call { callee:=.builtin .append,args:=#[s,x],argTypes:=#[111,111] }) 
 (v:Value) (l:List PT) (hs:a.eval s=v) (hown:TRow W v l) (B:Nat) (t:PT) (hx:a.eval x=.slice (some ⟨B,0,none⟩) 1 1)
 (hB:W.heap[B]? = some (.cells #[.bool t.1,.int .i64 (t.2:Nat)] 154 (0,0))) (n:Nat) (hn:l.length+1=n) (hb:n≤1099511627776) (H:Nat) (hH:W.heap.size=H)
 (h:∀ g cap w',TRow w' (.slice (some ⟨g,0,none⟩) n cap) (l++[t])→W.grownBy w' v.ownBlock→(v.ownBlock=some g∨g=H)→K (a.put o.dst (.slice (some ⟨g,0,none⟩) n cap)) w') :
 if Region.wanted o (yielded ops a.tmps)=true then Oper.wp Tryz.prog o a W K Q else E:=by
 subst hn
 obtain⟨i,hi,hz0,hz1,hz2⟩:=info_parts info154
 refine step_append_lies W hgd s x 111 ho 0 154 i _ 2 16 un111 hi hz0 hz1 hz2 rfl (by decide) v l.length (tcells l) hs hown ⟨B,0,none⟩ 1 1 [.bool t.1,.int .i64 (t.2:Nat)] hx rfl (fun j u hu=>World.news_of_block hB j u hu) (by simp; exact⟨rfl,rfl⟩) (by omega) (by simp only[maxLen];omega) (by omega) (Nat.zero_le _) H hH ?_
 intro g cap w' k1 k2 k3 _
 refine h g cap w' ?_ k2 k3
 unfold TRow
 rw[List.length_append,List.length_singleton,tcells_append];exact k1
end
def pltN (vs:List Int)(ts:List Tm): List PT:=ts.map fun t=>(t.1,vs.idxOf (t.2:Int))
theorem pltN_ext {vs':List Int}(hp:vs <+: vs'){ts:List Tm}(h:∀ t∈ts,(t.2:Int)∈vs): pltN vs' ts=pltN vs ts:=List.map_congr_left fun t ht=>by rw[zV hp (h t ht)]
theorem ptv_pltN (_hw:WV vs){ts:List Tm}(h:∀ t∈ts,(t.2:Int)∈vs): ptv vs (pltN vs ts)=lv ts:=by
 unfold ptv pltN
 rw[List.map_map]
 congr 1
 conv=>rhs; rw[← List.map_id ts]
 refine List.map_congr_left fun t ht=>?_
 show (t.1,(zb vs (vs.idxOf (t.2:Int))).toNat)=t
 rw[WV.at_idx (h t ht)]
 rfl
theorem Wt.grown {C:List Nat}{W0 W:World}{p:Nat}{F:List Nat}{D:WD}{gk:List Nat}{m:Nat}{vo:Option Nat}(h:Wt C W0 W p F D vs gk m)(G:W.grownBy w vo)(hb:∀ b,vo=some b→W0.heap.size≤b∧b∉F): Wt C W0 w p F D vs gk m :=
 ⟨h.wo.kept fun b hbF=>G.block b (h.wo.blt b hbF) (fun e=>(hb b e.symm).2 hbF),
  ⟨G.os.trans h.low.os,G.tape.trans h.low.tape,G.output.trans h.low.output,Nat.le_trans h.low.size G.size,fun b hbl=>(G.block b (Nat.lt_of_lt_of_le hbl h.low.size) (fun e=>by have:=(hb b e.symm).1; omega)).trans (h.low.block b hbl)⟩,h.hi⟩
theorem NSum_calls {W:World}{l:List (Bool×Option Addr)}(h:NtR W v l xs)(hn:l.length≤150)(h0:∀ x∈xs,0≤x): Calls Tryz.prog 121 #[v] W (NQ (lv (nts l xs)) W):=by
 obtain⟨va,vc,hv⟩:=ja h.row
 subst hv
 obtain⟨es,hes⟩:∃ es,es=xs.map Int.toNat:=⟨_,rfl⟩
 have hal:∀ e∈es,allowed (e:Int):=fun e he=>by
  rw[hes] at he
  obtain⟨x,hx,rfl⟩:=List.mem_map.1 he
  obtain⟨j,hj⟩:=List.getElem?_of_mem hx
  obtain⟨u,hu⟩:∃ u,l[j]? = some u:=⟨_,jG (by have:=(jL hj).1; have:=h.len; omega)⟩
  have h1:=(h.nums j u x hu hj).1
  have h2:=h0 x hx
  rwa [show ((x.toNat:Nat):Int)=x by omega]
 obtain⟨hcov,hcl⟩:=covN_cov hal (by rw[hes,List.length_map,h.len];exact hn)
 obtain⟨ln,hln⟩:∃ n,n=l.length:=⟨_,rfl⟩
 obtain⟨ts,hts⟩:∃ ts,ts=nts l xs:=⟨_,rfl⟩
 have Htl:Hid (ts.length=ln):=by show _=_; rw[hts,hln];unfold nts; simp[h.len]
 have HTa:Hid (∀ (j:Nat) (u:Bool×Option Addr) (x:Int),l[j]? = some u→xs[j]? = some x→ts[j]? = some (u.1,x.toNat)):=fun j u x h1 h2=>by rw[hts];exact nts_at h1 h2
 have HEs:Hid (∀ t∈ts,t.2∈es):=fun t ht=>by
  rw[hts] at ht
  obtain⟨q,hq,rfl⟩:=List.mem_map.1 ht
  rw[hes]
  exact List.mem_map.2 ⟨q.2,(List.of_mem_zip hq).2,rfl⟩
 rw[← hts]
 obtain⟨W0,b0,hW0,hb0,HX0,HB0⟩:∃ W0 b,W.alloc (.cells #[.pointer none] 26)=W0∧W.heap.size=b∧Hid (W0.heap[b]? = some (.cells #[.pointer none] 26 (0,0)))∧Hid (Below W.heap.size W W0) :=
  ⟨_,_,rfl,rfl,jD W _,(jV W _).out⟩
 have hCf:=cf_calls (h.below HB0.out) (by omega) h0
 have HH:=jH (h.below HB0.out)
 have HP:=jH h0
 have HCov:=jH hcov
 have HCl:=jH hcl
 rw[← hln] at HH hCf hn ⊢
 have Hln:=jH hln
 have q1:decide ((1000:Int)<(ln:Int))=false:=by rw[decide_eq_false_iff_not];omega
 obtain⟨C,hC⟩:∃ C,C=covN es:=⟨_,rfl⟩
 obtain⟨P,hP⟩:∃ P,P=baseN es:=⟨_,rfl⟩
 have HPe:Hid (∀ e∈es,e∈P):=fun e he=>by rw[hP];unfold baseN; exact List.mem_append.2 (.inl (List.mem_append.2 (.inr he)))
 rw[← hC] at HCl
 rw[← hC,← hP] at HCov
 clear h h0 hal hcov hcl hln hts hes hC hP
 go_enter Tryz.func121,Tryz.ntmps121
 go_wp2_with fail
 refine hCf.mono ?_
 rintro e w1 ⟨rfl,hb1⟩
 have HH1:=jH (HH.out.below hb1.out)
 have HX1:=jH (Below.here hb1.out HX0.out)
 have HB1:=jH (Below.trans' HB0.out hb1.out)
 have HN:=zc C (by have:=HCl.out; omega) w1
 clear hCf hb1
 go_wp2_with fail
 refine HN.mono ?_
 rintro e w2 ⟨p,F,D,rfl,HWO,HFE⟩
 have HT2:=jH (wt_new HWO.out HFE.out)
 clear HN HWO HFE
 go_wp2_with fail
 go_loopg [5,18] ln (fun g1 v5 v18 wr=>∃ (i:Nat) (ta:Option Addr) (tc:Nat) (F:List Nat) (D:WD) (vs:List Int),v5=.slice ta i tc∧v18=.int .i64 (i:Nat)∧i≤ln∧ln - i≤g1∧Hid (Wt C w1 wr p F D vs [] (1+2000*i))∧Hid (TRow wr (.slice ta i tc) (pltN vs (ts.take i)))∧Hid (∀ t∈ts.take i,(t.2:Int)∈vs)∧Hid (∀ b,(Value.slice ta i tc).ownBlock=some b→w1.heap.size≤b∧b∉F))
 case atStart=>exact⟨0,none,0,F,D,[0],rfl,rfl,Nat.zero_le _,jR _,HT2,⟨by simp[pltN,tcells],.inl ⟨rfl,by simp[pltN]⟩⟩,fun t h=>by simp at h,fun b h=>by simp[Value.ownBlock] at h⟩
 case round =>
  obtain⟨i,ta,tc,F,D,vs,rfl,rfl,hin,hg,HT,HR,Hm,HO⟩:=hrel
  have i0:(0:Int)≤(i:Int):=by omega
  by_cases hi:i<ln
  ·have q2:decide ((i:Int)<(ln:Int))=true:=by rw[decide_eq_true_eq];omega
   have q3:(i:Int)<(ln:Int):=by omega
   have it:((i:Int)).toNat=i:=by omega
   have iw:IntKind.i64.wrap ((i:Int)+1)=((i+1:Nat):Int):=by rw[IntKind.wrap_i64];omega
   obtain⟨u,hu⟩:∃ u,l[i]? = some u:=⟨_,jG (by have:=Hln.out; omega)⟩
   obtain⟨g,c,x,he,-,-,hx,hxn⟩:=HH1.out.at hu
   obtain⟨rfl,-,-⟩:=Value.slice.inj he
   obtain⟨_,_,x',he',c0,c1,_,_⟩:=(HH1.out.below HT.out.low).at hu
   cases (Value.slice.inj he').1
   obtain⟨w3,b7,hw3,hb7,HX7,HT3,HB3⟩:∃ w3 b7,wr.alloc (.cells #[.bool u.1,.pointer u.2] 179)=w3∧wr.heap.size=b7∧Hid (w3.heap[b7]? = some (.cells #[.bool u.1,.pointer u.2] 179 (0,0)))∧Hid (Wt C w1 w3 p F D vs [] (1+2000*i))∧Hid (Below wr.heap.size wr w3) :=
    ⟨_,_,rfl,rfl,jD wr _,⟨HT.out.wo.alloc _,HT.out.low.alloc HT.out.low.size _,HT.out.hi⟩,(jV wr _).out⟩
   have HR3:Hid (TRow w3 (.slice ta i tc) (pltN vs (ts.take i))):=jK HR.out HB3.out
   have HTd:Hid (Wt C w1 w3.drew p F D vs [] (1+2000*i)):=⟨HT3.out.wo.drew,HT3.out.low.drew,HT3.out.hi⟩
   have Hx0:=jH (HP.out x (jM hx))
   have Hti:=jH (HTa.out i u x hu hx)
   have Hxn:=jH hxn
   have hpl:(pltN vs (ts.take i)).length=i:=by unfold pltN; rw[List.length_map,List.length_take];have:=Htl.out; omega
   have Hpl:=jH hpl
   have hlb:1+2000*i+2000+C.length≤2147483648:=by have:=HCl.out; omega
   have HC7:Hid (∀ w:World,w.heap[b7]? = some (.cells #[.bool u.1,.pointer u.2] 179 (0,0))→w.cell? ⟨b7,0,none⟩=some (.bool u.1)∧w.cell? ⟨b7,1,none⟩=some (.pointer u.2)):=fun w hb=>⟨by rw[jB hb];rfl,by rw[jB hb];rfl⟩
   have Hb7:Hid (b7=wr.heap.size∧b7<w3.heap.size∧∀ b∈F,b≠b7):=⟨hb7.symm,(jA HX7.out).1,fun b hb=>by have:=HT.out.wo.blt b hb; omega⟩
   have b70:=(HC7.out w3 HX7.out).1
   have b71:=(HC7.out w3 HX7.out).2
   clear he he' hu hx hxn hpl
   go_upto_region 10 with fail
   go_region_held3 (fun w=>w.cell? ⟨b7,0,none⟩=some (.bool u.1)∧w.cell? ⟨b7,1,none⟩=some (.pointer u.2))
    (first | exact HC7.out _ HX5.out | exact HC7.out _ ((jE _ _ (jA HX4.out).1).trans HX4.out) | exact HC7.out _ HX4.out | exact HC7.out _ HX7.out)
    (first
      | (go_at_call 60
         first
          | (refine (zn HT3 Hxn.out hlb).mono ?_; rintro e w4 ⟨F2,D2,vs2,rfl,hxm,hpre,HT4,hfe⟩;have hf4:=jH hfe.out)
          | (refine (zn HTd Hxn.out hlb).mono ?_; rintro e w4 ⟨F2,D2,vs2,rfl,hxm,hpre,HT4,hfe⟩;have hf4:Hid (FE F w3 F2 w4):=⟨⟨hfe.out.fr.os,hfe.out.fr.tape,hfe.out.fr.output,hfe.out.fr.size,hfe.out.fr.block⟩,hfe.out.sub⟩)
         have HX4:Hid (w4.heap[b7]? = some (.cells #[.bool u.1,.pointer u.2] 179 (0,0))):=(hf4.out.fr.block b7 Hb7.out.2.1 (fun hm=>Hb7.out.2.2 _ hm rfl)).trans HX7.out
         have HR4:Hid (TRow w4 (.slice ta i tc) (pltN vs2 (ts.take i))):=by
          show TRow _ _ _
          rw[pltN_ext hpre.out Hm.out]
          exact jJ HR3.out fun b e=>hf4.out.fr.block b (jP HR3.out e) (HO.out b e).2
         have HO4:Hid (∀ b,(Value.slice ta i tc).ownBlock=some b→w1.heap.size≤b∧b∉F2):=fun b e=>⟨(HO.out b e).1,fun hm=>by
          rcases hf4.out.sub b hm with h | h
          ·exact (HO.out b e).2 h
          ·have:=jP HR3.out e; omega⟩
         have hpl4:(pltN vs2 (ts.take i)).length+1=i+1:=by unfold pltN; rw[List.length_map,List.length_take];have:=Htl.out; omega
         have hpb4:i+1≤1099511627776:=by omega
         have Hxm:=jH hxm.out
         have Hpre:=jH hpre.out
         clear hfe hxm hpre)
      | (refine step_TR (by rfl) (.tmp 22) (.tmp 30) (by rfl) (.slice ta i tc) (pltN vs2 (ts.take i)) (by rfl) (World.ownsRow.alloc HR4.out _) w4.heap.size (u.1,vs2.idxOf x) (by rfl) (jD w4 _) (i+1) hpl4 hpb4 _ (by rfl) ?_; intro g5 c5 w5 R5 G5 A5
         have HX5:Hid (w5.heap[b7]? = some (.cells #[.bool u.1,.pointer u.2] 179 (0,0))):=(G5.block b7 (by have:=(jA HX4.out).1; simp; omega) (fun e=>by have:=jP HR.out e.symm; have:=Hb7.out.1; omega)).trans ((jE _ _ (jA HX4.out).1).trans HX4.out)
         have HT5:Hid (Wt C w1 w5 p F2 D2 vs2 [] (1+2000*(i+1))):=by
          show Wt _ _ _ _ _ _ _ _ _
          rw[show 1+2000*(i+1)=1+2000*i+2000 by omega]
          exact Wt.grown (W:=w4.alloc _) ⟨HT4.out.wo.alloc _,HT4.out.low.alloc HT4.out.low.size _,HT4.out.hi⟩ G5 HO4.out
         have HR5:=jH R5
         have HO5:Hid (∀ b,(Value.slice (some ⟨g5,0,none⟩) (i+1) c5).ownBlock=some b→w1.heap.size≤b∧b∉F2):=fun b e=>by
          have e1:g5=b:=by simpa [Value.ownBlock] using e
          subst e1
          rcases A5 with h | h
          ·exact HO4.out _ h
          ·have h2:=HT4.out.low.size
           rw[h]
           exact⟨by simp; omega,fun hm=>by have:=HT4.out.wo.blt _ hm; simp at this; omega⟩
         clear R5 G5 A5))
   all_goals
    have Htk:Hid (ts.take (i+1)=ts.take i++[(u.1,x.toNat)]):=by
     show _=_
     rw[List.take_add_one,Hti.out];rfl
    have ex:((x.toNat:Nat):Int)=x:=by have:=Hx0.out; omega
    have HR6:Hid (TRow w5 (.slice (some ⟨g5,0,none⟩) (i+1) c5) (pltN vs2 (ts.take (i+1)))):=by
     show TRow _ _ _
     rw[Htk.out]
     unfold pltN
     rw[List.map_append,List.map_singleton]
     dsimp only
     rw[ex]
     exact HR5.out
    have Hm6:Hid (∀ t∈ts.take (i+1),(t.2:Int)∈vs2):=by
     show ∀ t∈_,_
     rw[Htk.out]
     intro t ht
     rcases List.mem_append.1 ht with h | h
     ·exact qN Hpre.out (Hm.out t h)
     ·rw[List.mem_singleton] at h; subst h
      dsimp only
      rw[ex];exact Hxm.out
    clear ex
    go_wp2_with fail
    go_roundg (ln - (i+1))
    case measure=>omega
    case rel=>exact⟨i+1,some ⟨g5,0,none⟩,c5,F2,D2,vs2,rfl,by go_num,by omega,by omega,HT5,HR6,Hm6,HO5⟩
  ·have q2:decide ((i:Int)<(ln:Int))=false:=by rw[decide_eq_false_iff_not];omega
   obtain rfl:i=ln:=by omega
   have htk:ts.take i=ts:=List.take_of_length_le (by have:=Htl.out; omega)
   rw[htk] at HR Hm
   have hS:=wsum_calls (P:=P) (HCov.out.weak (m':=1+2000*i) (by omega)) HT.out.wo HR.out (by unfold pltN; rw[List.length_map];have:=Htl.out; omega) (fun t ht=>by
    obtain⟨tm,h1,rfl⟩:=List.mem_map.1 ht
    exact⟨tm.2,jU (Hm.out tm h1),HPe.out _ (HEs.out tm h1)⟩)
   rw[ptv_pltN HT.out.wo.wv Hm.out] at hS
   clear htk
   go_wp2_with fail
   refine hS.mono ?_
   rintro e w6 ⟨F6,D6,vs6,gk6,v6,rfl,hr6,he6,ho6,hg6⟩
   have HL6:=jH (qL HT.out.low HT.out.hi hg6.out.fe.fr)
   have Hi6:Hid (∀ b∈F6,w1.heap.size≤b):=fun b hb=>by
    rcases hg6.out.fe.sub b hb with h | h
    ·exact HT.out.hi b h
    ·have:=HT.out.low.size; omega
   have HG:=xH (jH hg6.out.wo) (v:=v6) (x:=lv ts) (fun W' _ hf=>jJ hr6.out fun b e=>hf.block b (jP hr6.out e) (ho6.out b e).2) he6.out
   clear hr6 he6 ho6 hg6 hS
   go_wp2_with fail
   refine HG.mono ?_
   rintro e w7 ⟨q,er,rfl,hf7,hn7⟩
   have HL7:=jH (qL HL6.out Hi6.out hf7.out)
   have HX7:=jH (Below.here HL7.out HX1.out)
   have c4:w7.cell? ⟨b0,0,none⟩=some (.pointer none):=by rw[jB HX7.out];rfl
   have f4:w7.frozen? ⟨b0,0,none⟩=false:=jF HX7.out 0
   clear HG hf7
   go_wp2_with fail
   refine bodyPost_ret (v:=.tuple #[.agg #[.pointer q],.int .i64 er]) (by simp[results,Tryz.results121,go_sem,c4]) rfl ?_
   refine⟨q,er,rfl,(Below.trans' HB1.out HL7.out).setCell (by show W.heap.size≤b0; omega) _,hn7.out.setCell HX7.out (by decide) _⟩
end
inductive Raw where
 | t (minus:Bool) (exp:List Raw):Raw
def Raw.m:Raw→Bool
 | .t b _=>b
def Raw.e:Raw→List Raw
 | .t _ l=>l
def RIn (w:World): Nat→Value→List Raw→Prop
 | 0,_,_=>False
 | n+1,v,l=>l.length≤140737488355328∧∃ a c,v=.slice a l.length c∧∀ (j:Nat) (r:Raw),l[j]? = some r→∃ g off u,a=some (⟨g,off,none⟩:Addr)∧w.cell? ⟨g,off+j*2,none⟩=some (.bool r.m)∧w.cell? ⟨g,off+j*2+1,none⟩=some u∧RIn w n u r.e
theorem RIn.below {w w':World}(hb:Below w.heap.size w w'): ∀ {n:Nat} {v:Value} {l:List Raw},RIn w n v l→RIn w' n v l
 | 0,_,_,h=>h
 | n+1,v,l,h=>by
   obtain⟨h0,a,c,h1,h2⟩:=h
   refine⟨h0,a,c,h1,fun j r hr=>?_⟩
   obtain⟨g,off,u,k1,k2,k3,k4⟩:=h2 j r hr
   exact⟨g,off,u,k1,jQ hb k2,jQ hb k3,RIn.below hb k4⟩
theorem RIn.len {w:World}{n:Nat}{v:Value}{l:List Raw}(h:RIn w n v l): l.length≤140737488355328:=by
 cases n with
 | zero=>exact h.elim
 | succ n=>exact h.1
theorem RIn.shape {w:World}{n:Nat}{v:Value}{l:List Raw}(h:RIn w n v l): ∃ a c,v=.slice a l.length c:=by
 cases n with
 | zero=>exact h.elim
 | succ n=>exact⟨_,_,h.2.choose_spec.choose_spec.1⟩
theorem RIn.at {w:World}{n:Nat}{v:Value}{l:List Raw}(h:RIn w (n+1) v l){j:Nat}{r:Raw}(hr:l[j]? = some r): ∃ g off c u,v=.slice (some ⟨g,off,none⟩) l.length c∧w.cell? ⟨g,off+j*2,none⟩=some (.bool r.m)∧w.cell? ⟨g,off+j*2+1,none⟩=some u∧RIn w n u r.e:=by
 obtain⟨-,a,c,h1,h2⟩:=h
 obtain⟨g,off,u,k1,k2,k3,k4⟩:=h2 j r hr
 exact⟨g,off,c,u,by rw[h1,k1],k2,k3,k4⟩
def cntS (f:List Raw→Nat): List Raw→Nat→Nat
 | [],k=>k
 | r::l,k=>if k≤150 then cntS f l (k+f r.e) else k
def cnt:Nat→Nat→List Raw→Nat
 | 0,_,_=>151
 | n+1,d,l=>if 30<d then 151 else cntS (cnt n (d+1)) l l.length
def tot:Nat→List Raw→Nat
 | 0,_=>0
 | n+1,l=>l.length+(l.map fun r=>tot n r.e).sum
noncomputable def rvS (f:List Raw→Option Int): List Raw→Option (List Tm)
 | []=>some []
 | r::l=>match f r.e with
   | none=>none
   | some x=>if x<0 then none else (rvS f l).map fun ts=>(r.m,x.toNat)::ts
noncomputable def rv:Nat→List Raw→Option Int
 | 0,_=>none
 | n+1,l=>(rvS (rv n) l).map lv
theorem cntS_le {f:List Raw→Nat}{B:Nat}(hB:150≤B): ∀ (l:List Raw) (k:Nat),(∀ r∈l,f r.e≤B)→k≤B+150→cntS f l k≤B+150
 | [],_,_,h=>h
 | r::l,k,hf,h=>by
   unfold cntS
   split
   ·exact cntS_le hB l _ (fun r hr=>hf r (by simp[hr])) (by have:=hf r (by simp);omega)
   ·exact h
theorem RIn.sub {w:World}{n:Nat}{v:Value}{l:List Raw}(h:RIn w (n+1) v l){r:Raw}(hr:r∈l): ∃ u,RIn w n u r.e:=by
 obtain⟨-,a,c,-,h2⟩:=h
 obtain⟨j,hj⟩:=List.getElem?_of_mem hr
 obtain⟨g,off,u,-,-,-,k⟩:=h2 j r hj
 exact⟨u,k⟩
theorem cnt_le:∀ (n d:Nat) {w:World} {v:Value} {l:List Raw},RIn w n v l→cnt n d l≤140737488355328+150*(32 - d)+151
 | 0,_,_,_,_,h=>h.elim
 | n+1,d,w,v,l,h=>by
   unfold cnt
   split
   ·omega
   ·rename_i hd
    have:=cntS_le (f:=cnt n (d+1)) (B:=140737488355328+150*(31 - d)+151) (by omega) l l.length (fun r hr=>by
     obtain⟨u,hu⟩:=h.sub hr
     have:=cnt_le n (d+1) hu
     omega) (by have:=h.1; omega)
    omega
theorem cntS_mono {f:List Raw→Nat}: ∀ (l:List Raw) (k:Nat),k≤cntS f l k
 | [],_=>jR _
 | r::l,k=>by
   unfold cntS
   split
   ·exact Nat.le_trans (Nat.le_add_right _ _) (cntS_mono l _)
   ·exact jR _
theorem cntS_tot {f g:List Raw→Nat}(h:∀ l,f l≤150→g l≤f l): ∀ (l:List Raw) (k:Nat),cntS f l k≤150→k+(l.map fun r=>g r.e).sum≤cntS f l k
 | [],k,_=>by simp[cntS]
 | r::l,k,hk=>by
   have hm:k≤150:=Nat.le_trans (cntS_mono (f:=f) (r::l) k) hk
   unfold cntS at hk ⊢
   rw[if_pos hm] at hk ⊢
   have h1:=cntS_tot h l _ hk
   have h2:=cntS_mono (f:=f) l (k+f r.e)
   have h3:=h r.e (by omega)
   simp only[List.map_cons,List.sum_cons]
   omega
theorem cnt_tot:∀ (n d:Nat) (l:List Raw),cnt n d l≤150→tot n l≤cnt n d l
 | 0,_,_,h=>by simp[cnt] at h
 | n+1,d,l,h=>by
   unfold cnt at h ⊢
   split at h
   ·omega
   ·rename_i hd
    rw[if_neg hd]
    exact cntS_tot (fun l hl=>cnt_tot n (d+1) l hl) l _ h
theorem lv_len:∀ (l:List Tm) (x:Int),(form (x+lv l)).length≤(form x).length+l.length
 | [],x=>by simp[lv]
 | t::l,x=>by
   obtain⟨s,e⟩:=t
   have h1:=plus_len x s e
   have h2:=lv_len l (x+tv (s,e))
   rw[lv,show x+(tv (s,e)+lv l)=x+tv (s,e)+lv l by omega]
   simp only[List.length_cons];omega
theorem rvS_len {f:List Raw→Option Int}: ∀ {l:List Raw} {ts:List Tm},rvS f l=some ts→ts.length=l.length
 | [],ts,h=>by simp[rvS] at h; subst h; rfl
 | r::l,ts,h=>by
   unfold rvS at h
   split at h
   ·cases h
   ·split at h
    ·cases h
    ·obtain⟨ts',h1,rfl⟩:=Option.map_eq_some_iff.1 h
     simp[rvS_len h1]
theorem rvS_mem {f:List Raw→Option Int}: ∀ {l:List Raw} {ts:List Tm},rvS f l=some ts→∀ t∈ts,∃ r∈l,∃ x,f r.e=some x∧0≤x∧t=(r.m,x.toNat)
 | [],ts,h,t,ht=>by simp[rvS] at h; subst h; cases ht
 | r::l,ts,h,t,ht=>by
   unfold rvS at h
   split at h
   ·cases h
   ·rename_i x hx
    split at h
    ·cases h
    ·obtain⟨ts',h1,rfl⟩:=Option.map_eq_some_iff.1 h
     rcases List.mem_cons.1 ht with rfl | ht
     ·exact⟨r,by simp,x,hx,by omega,rfl⟩
     ·obtain⟨r',h2,h3⟩:=rvS_mem h1 t ht
      exact⟨r',by simp[h2],h3⟩
theorem sum_mem {l:List Raw}{g:List Raw→Nat}{r:Raw}(h:r∈l): g r.e≤(l.map fun r=>g r.e).sum:=by
 induction l with
 | nil=>cases h
 | cons a l ih =>
   simp only[List.map_cons,List.sum_cons]
   rcases List.mem_cons.1 h with rfl | h
   ·omega
   ·have:=ih h; omega
theorem rv_sz:∀ {n:Nat} {l:List Raw} {x:Int},rv n l=some x→tot n l≤150→(form x).length≤150∧∀ f∈exps x,(form (f:Int)).length≤164
 | 0,_,_,h,_=>by simp[rv] at h
 | n+1,l,x,h,ht=>by
   obtain⟨ts,h1,rfl⟩:=Option.map_eq_some_iff.1 h
   have hl:=rvS_len h1
   have h0:=lv_len ts 0
   rw[Int.zero_add,j5] at h0
   simp only[tot] at ht
   refine⟨by simp at h0; omega,fun f hf=>?_⟩
   rcases sum_exps 150 ts 0 (by rw[j5];simp; omega) f (by rw[Int.zero_add];exact hf) with h2 | ⟨t,ht',k,hk,rfl⟩
   ·simp[exps,j5] at h2
   ·obtain⟨r,hr,y,hy,hy0,rfl⟩:=rvS_mem h1 t ht'
    have h3:=(rv_sz hy (by have:=sum_mem (g:=tot n) hr; omega)).1
    have h4:=near_len (e:=y.toNat) (k:=k) (by omega)
    have e:((y.toNat:Nat):Int)=y:=by omega
    rw[e] at h4
    dsimp only
    omega
noncomputable def rAsk:Nat→List Raw→List Int
 | 0,_=>[]
 | n+1,l=>(match rvS (rv n) l with | some ts=>sumAsk 0 ts | none=>[])++l.flatMap fun r=>rAsk n r.e
theorem rAsk_len:∀ (n:Nat) (l:List Raw),tot n l≤150→(rAsk n l).length≤604*tot n l+(if n=0 then 0 else 1)+tot n l
 | 0,_,_=>by simp[rAsk]
 | n+1,l,h=>by
   have key:∀ (l:List Raw),(l.map fun r=>tot n r.e).sum≤150→(l.flatMap fun r=>rAsk n r.e).length≤604*(l.map fun r=>tot n r.e).sum+l.length+(l.map fun r=>tot n r.e).sum:=by
    intro l
    induction l with
    | nil=>intro _; simp
    | cons r l ih =>
      intro h
      simp only[List.map_cons,List.sum_cons] at h
      have h1:=ih (by omega)
      have h2:=rAsk_len n r.e (by omega)
      simp only[List.flatMap_cons,List.length_append,List.map_cons,List.sum_cons,List.length_cons]
      have h3:(if n=0 then 0 else 1)≤1:=by split <;>omega
      omega
   simp only[tot] at h
   have h1:=key l (by omega)
   have h2:(match rvS (rv n) l with | some ts=>sumAsk 0 ts | none=>[]).length≤603*l.length+1:=by
    split
    ·rename_i ts hts
     have hl:=rvS_len hts
     have:=sumAsk_len 150 ts 0 (by rw[j5];simp; omega)
     have e:ts.length*(4*150+3)=603*ts.length:=by omega
     omega
    ·simp
   simp only[rAsk,tot,List.length_append]
   rw[if_neg (by omega)]
   omega
def MadeQ (x:Int)(W:World)(e:Ending)(W':World): Prop:=∃ (q:Option Addr) (ok:Bool),e=.returned (.tuple #[.agg #[.pointer q],.bool ok])∧Hid (Below W.heap.size W W')∧Hid (ok=true→IsN W' (.agg #[.pointer q]) x)
theorem nts_snoc {l:List (Bool×Option Addr)}{xs:List Int}(h:xs.length=l.length)(u:Bool×Option Addr)(x:Int): nts (l++[u]) (xs++[x])=nts l xs++[(u.1,x.toNat)]:=by
 unfold nts
 rw[List.zip_append h.symm,List.map_append];rfl
theorem NtR.grown {w w':World}{v:Value}{l:List (Bool×Option Addr)}{xs:List Int}(h:NtR w v l xs){u:Bool×Option Addr}{x:Int}(hx:IsN w (.agg #[.pointer u.2]) x){g c n:Nat}(hn:n=l.length) 
 (K:w'.ownsRow 0 179 2 (.slice (some ⟨g,0,none⟩) (n+1) c) (n+1) (tcl l++[.bool u.1,.pointer u.2])) (G:w.grownBy w' v.ownBlock):NtR w' (.slice (some ⟨g,0,none⟩) (n+1) c) (l++[u]) (xs++[x]):=by
 subst hn
 have key:∀ {v':Value} {z:Int},IsN w v' z→IsN w' v' z:=fun {v' z} hi=>hi.kept fun b cs T hb hT=>G.block b (jA hb).1 fun e=>by
  obtain⟨c',hc'⟩:=jO h.row e.symm
  exact jI hb hc' (by rintro rfl; rcases hT with h | h | h <;>cases h) rfl
 refine⟨?_,by simp[h.len],fun j u' x' h1 h2=>?_⟩
 ·rw[List.length_append,tcl_append];exact K
 ·rcases Nat.lt_or_ge j l.length with hj | hj
  ·rw[List.getElem?_append_left hj] at h1
   rw[List.getElem?_append_left (by rw[h.len];exact hj)] at h2
   exact key (h.nums j u' x' h1 h2)
  ·have hj2:=(jL h1).1
   simp at hj2
   obtain rfl:j=l.length:=by omega
   rw[List.getElem?_append_right (jR _),Nat.sub_self] at h1
   rw[← h.len,List.getElem?_append_right (jR _),Nat.sub_self] at h2
   simp at h1 h2
   subst h1 h2
   exact key hx
theorem made_calls:∀ (n:Nat) {W:World} {v:Value} {l:List Raw} {x:Int},RIn W n v l→tot n l≤150→rv n l=some x→Calls Tryz.prog 82 #[v] W (MadeQ x W)
 | 0,_,_,_,_,h,_,_=>h.elim
 | n+1,W,v,l,x,h,ht,hx=>by
   have HI:Hid (∀ (W:World) (v:Value) (l:List Raw) (x:Int),RIn W n v l→tot n l≤150→rv n l=some x→Calls Tryz.prog 82 #[v] W (MadeQ x W)):=fun W v l x=>made_calls n
   obtain⟨ts,hts,hxl⟩:=Option.map_eq_some_iff.1 hx
   have HH:=jH h
   obtain⟨va,vc,rfl⟩:=h.shape
   obtain⟨ln,hln⟩:∃ n,n=l.length:=⟨_,rfl⟩
   rw[← hln] at HH ⊢
   have Hln:=jH hln
   have hlt:ln+(l.map fun r=>tot n r.e).sum≤150:=by rw[hln];exact ht
   have Htot:Hid ((l.map fun r=>tot n r.e).sum≤150):=by show _≤_; omega
   have hlb:ln≤150:=by omega
   have Htl:Hid (ts.length=ln):=by show _=_; rw[hln];exact rvS_len hts
   have HTs:Hid (∀ (i:Nat) (r:Raw),l[i]? = some r→∃ y,rv n r.e=some y∧0≤y∧ts[i]? = some (r.m,y.toNat)):=by
    have key:∀ (l:List Raw) (ts:List Tm),rvS (rv n) l=some ts→∀ (i:Nat) (r:Raw),l[i]? = some r→∃ y,rv n r.e=some y∧0≤y∧ts[i]? = some (r.m,y.toNat):=by
     intro l
     induction l with
     | nil=>intro ts _ i r h; simp at h
     | cons a l ih =>
       intro ts h i r hr
       unfold rvS at h
       split at h
       ·cases h
       ·rename_i y hy
        split at h
        ·cases h
        ·obtain⟨ts',h1,rfl⟩:=Option.map_eq_some_iff.1 h
         cases i with
         | zero=>simp at hr; subst hr; exact⟨y,hy,by omega,rfl⟩
         | succ i=>exact ih ts' h1 i r (by simpa using hr)
    exact key l ts hts
   have Hxl:=jH hxl
   clear h hln ht hx hlt hts hxl
   obtain⟨W0,b2,hW0,hb2,HX0,HB0⟩:∃ W0 b,W.alloc (.cells #[.pointer none] 26)=W0∧W.heap.size=b∧Hid (W0.heap[b]? = some (.cells #[.pointer none] 26 (0,0)))∧Hid (Below W.heap.size W W0) :=
    ⟨_,_,rfl,rfl,jD W _,(jV W _).out⟩
   go_enter Tryz.func82,Tryz.ntmps82
   go_wp2_with fail
   go_loopg [4,5] ln (fun g1 v4 v5 wr=>∃ (i:Nat) (ta:Option Addr) (tc:Nat) (ll:List (Bool×Option Addr)) (xs:List Int),v4=.slice ta i tc∧v5=.int .i64 (i:Nat)∧i≤ln∧ln - i≤g1∧Hid (ll.length=i)∧Hid (nts ll xs=ts.take i)∧Hid (∀ x∈xs,0≤x)∧Hid (Below W0.heap.size W0 wr)∧Hid (NtR wr (.slice ta i tc) ll xs)∧Hid (∀ b,(Value.slice ta i tc).ownBlock=some b→W0.heap.size≤b))
   case atStart=>exact⟨0,none,0,[],[],rfl,rfl,Nat.zero_le _,jR _,rfl,(by show _=_; simp[nts]),fun x h=>(by cases h),Below.refl _ _,⟨⟨(by simp[tcl]),.inl ⟨rfl,rfl⟩⟩,rfl,fun j u x h=>(by simp at h)⟩,fun b h=>(by simp[Value.ownBlock] at h)⟩
   case round =>
    obtain⟨i,ta,tc,ll,xs,rfl,rfl,hin,hg,Hll,Hnt,Hx0,HB,HR,HO⟩:=hrel
    have i0:(0:Int)≤(i:Int):=by omega
    have HXr:=jH (Below.here HB.out HX0.out)
    by_cases hi:i<ln
    ·have q2:decide ((i:Int)<(ln:Int))=true:=by rw[decide_eq_true_eq];omega
     have q3:(i:Int)<(ln:Int):=by omega
     have it:((i:Int)).toNat=i:=by omega
     have iw:IntKind.i64.wrap ((i:Int)+1)=((i+1:Nat):Int):=by rw[IntKind.wrap_i64];omega
     obtain⟨r,hr⟩:∃ r,l[i]? = some r:=⟨_,jG (by have:=Hln.out; omega)⟩
     have hrm:=jM hr
     have HBW:=jH (Below.trans' HB0.out HB.out)
     obtain⟨g,off,c,u,he,k1W,k2W,hu⟩:=RIn.at HH.out hr
     obtain⟨rfl,-,-⟩:=Value.slice.inj he
     have k1:=jQ HBW.out k1W
     have k2:=jQ HBW.out k2W
     obtain⟨y,hy,hy0,hty⟩:=HTs.out i r hr
     have hM:=HI.out _ _ _ _ (RIn.below HBW.out hu) (by have:=sum_mem (g:=tot n) hrm; have:=Htot.out; omega) hy
     have Hk1:=jH k1W
     have Hy0:=jH hy0
     have Hty:=jH hty
     clear he hr hrm hu hy hy0 hty k1W k2W
     go_wp2_with fail
     refine hM.mono ?_
     rintro e w2 ⟨q,ok,rfl,hb2',hq⟩
     have HXq:=jH (Below.here hb2'.out HXr.out)
     have HB2:=jH (Below.trans' HB.out hb2'.out)
     have HBx:=jH hb2'.out
     have Hq:=jH hq.out
     clear hM hb2' hq k1 k2
     cases ok with
     | false =>
       have hlt:=(jA HXq.out).1
       have c0:w2.cell? ⟨b2,0,none⟩=some (.pointer none):=by rw[jB HXq.out];rfl
       have f0:w2.frozen? ⟨b2,0,none⟩=false:=jF HXq.out 0
       have hne:b2≠w2.heap.size:=Nat.ne_of_lt hlt
       have hself:=jq c0
       have c0a:(w2.alloc (.cells #[.pointer q] 26)).cell? ⟨b2,0,none⟩=some (.pointer none):=by rw[jB (Below.here (jV w2 _).out HXq.out)];rfl
       go_wp2_with fail
       refine bodyPost_ret (v:=.tuple #[.agg #[.pointer none],.bool false]) (by simp[results,Tryz.results82,go_sem,c0a]) rfl ?_
       exact⟨none,false,rfl,(Below.trans' HB0.out HB2.out).alloc (Below.trans' HB0.out HB2.out).size _,fun h=>(by cases h)⟩
     | true =>
       have HIq:=jH (Hq.out rfl)
       obtain⟨w3,b6,hw3,hb6,HX6,HB3⟩:∃ w3 b6,w2.alloc (.cells #[.pointer q] 26)=w3∧w2.heap.size=b6∧Hid (w3.heap[b6]? = some (.cells #[.pointer q] 26 (0,0)))∧Hid (Below w2.heap.size w2 w3) :=
        ⟨_,_,rfl,rfl,jD w2 _,(jV w2 _).out⟩
       have HR3:=jH ((HR.out.below HBx.out).below HB3.out)
       have HI3:=jH (HIq.out.below HB3.out)
       have HBw:=jH (Below.trans' HB2.out HB3.out)
       have Hcells:Hid (∀ w,Below w3.heap.size w3 w→w.cell? ⟨g,off+i*2,none⟩=some (.bool r.m)∧w.cell? ⟨b6,0,none⟩=some (.pointer q)):=fun w hb =>
        ⟨jQ (Below.trans' (Below.trans' HB0.out HBw.out) hb) Hk1.out,by rw[jB (Below.here hb HX6.out)];rfl⟩
       have k61:=(Hcells.out w3 (Below.refl _ _)).1
       have k62:=(Hcells.out w3 (Below.refl _ _)).2
       have hlb9:ll.length+1≤1099511627776:=by have:=Hll.out; omega
       have hll:=Hll.out
       subst hll
       clear Hq
       go_wp2_with fail
       go_region_held3 (fun w=>w.cell? ⟨g,off+ll.length*2,none⟩=some (.bool r.m)∧w.cell? ⟨b6,0,none⟩=some (.pointer q))
        (first | exact Hcells.out _ (Below.refl _ _) | exact Hcells.out _ (Below.refl _ _).drew | exact Hcells.out _ ((Below.refl _ _).alloc (jR _) _) | exact Hcells.out _ ((Below.refl _ _).alloc (jR _) _).drew | exact HC8.out)
        (first
          | (refine step_T2 (by rfl) (.tmp 28) (.tmp 36) (by rfl) (.slice ta ll.length tc) ll.length (tcl ll) (by rfl) (jK HR3.out.row (jV w3 _).out.drew) w3.heap.size (.bool r.m) (.pointer q) (by rfl) (by rfl) (by rfl) (jD w3 _) hlb9 _ (by rfl) ?_; intro g8 c8 w8 K8 G8 A8 L8
             have HB8:Hid (Below W0.heap.size W0 w8):=below_grownO ((HBw.out.alloc HBw.out.size _).drew) HO.out G8
             have HC8:Hid (w8.cell? ⟨g,off+ll.length*2,none⟩=some (.bool r.m)∧w8.cell? ⟨b6,0,none⟩=some (.pointer q)):=by
              have hk:∀ (bb:Nat) (cs:Array Value) (T:TypeId),w3.heap[bb]? = some (.cells cs T (0,0))→T≠179→w8.heap[bb]? = some (.cells cs T (0,0)):=fun bb cs T hb hT=>by
               have hl:=(jA hb).1
               rw[G8.block bb (by simp; omega) (fun e=>by
                obtain⟨c',hc'⟩:=jO HR3.out.row e.symm
                exact jI hb hc' hT rfl)]
               exact (jE _ _ (by show bb<w3.heap.size; exact hl)).trans hb
              refine⟨?_,by rw[jB (hk _ _ _ HX6.out (by decide))];rfl⟩
              exact jQ (Below.trans' HB0.out HB8.out) Hk1.out
             have HR8:=jH (NtR.grown (u:=(r.m,q)) (x:=y) (HR3.out.below (jV w3 _).out.drew) (HI3.out.below (jV w3 _).out.drew) rfl K8 G8)
             have HO8:Hid (∀ b,(Value.slice (some ⟨g8,0,none⟩) (ll.length+1) c8).ownBlock=some b→W0.heap.size≤b):=fun b e=>by
              have e1:g8=b:=by simpa [Value.ownBlock] using e
              subst e1
              rcases A8 with h | h
              ·exact HO.out _ h
              ·have h2:=HBw.out.size
               rw[h];simp; omega
             clear K8 G8 A8 L8))
       all_goals
        have Hnt8:Hid (nts (ll++[(r.m,q)]) (xs++[y])=ts.take (ll.length+1)):=by
         show _=_
         rw[nts_snoc HR.out.len,Hnt.out,List.take_add_one,Hty.out];rfl
        have Hx8:Hid (∀ x∈xs++[y],0≤x):=fun z hz=>by
         rcases List.mem_append.1 hz with h | h
         ·exact Hx0.out z h
         ·rw[List.mem_singleton] at h; subst h; exact Hy0.out
        go_wp2_with fail
        go_roundg (ln - (ll.length+1))
        case measure=>omega
        case rel=>exact⟨ll.length+1,some ⟨g8,0,none⟩,c8,ll++[(r.m,q)],xs++[y],rfl,by go_num,by omega,by omega,(by show _=_; simp),Hnt8,Hx8,HB8,HR8,HO8⟩
    ·have q2:decide ((i:Int)<(ln:Int))=false:=by rw[decide_eq_false_iff_not];omega
     have hS:=NSum_calls HR.out (by have:=Hll.out; omega) Hx0.out
     have hsum:lv (nts ll xs)=x:=by
      rw[Hnt.out,List.take_of_length_le (by have:=Htl.out; omega)];exact Hxl.out
     have hll:=Hll.out
     subst hll
     rw[hsum] at hS
     clear hsum
     go_wp2_with fail
     refine hS.mono ?_
     rintro e w2 ⟨q,er,rfl,hb2',hn2⟩
     obtain⟨w3,b8,hw3,hb8,HX8,HB3⟩:∃ w3 b8,w2.alloc (.cells #[.pointer q] 26)=w3∧w2.heap.size=b8∧Hid (w3.heap[b8]? = some (.cells #[.pointer q] 26 (0,0)))∧Hid (Below w2.heap.size w2 w3) :=
      ⟨_,_,rfl,rfl,jD w2 _,(jV w2 _).out⟩
     have HX3:=jH (Below.here HB3.out (Below.here hb2'.out HXr.out))
     have HBW3:=jH (Below.trans' HB0.out (Below.trans' HB.out (Below.trans' hb2'.out HB3.out)))
     have c8:w3.cell? ⟨b8,0,none⟩=some (.pointer q):=by rw[jB HX8.out];rfl
     have c0:w3.cell? ⟨b2,0,none⟩=some (.pointer none):=by rw[jB HX3.out];rfl
     have f0:w3.frozen? ⟨b2,0,none⟩=false:=jF HX3.out 0
     have Hn2:=jH hn2.out
     clear hS hb2' hn2
     go_wp2_with fail
     refine bodyPost_ret (v:=.tuple #[.agg #[.pointer q],.bool ((er==0))]) (by simp[results,Tryz.results82,go_sem,c0]) rfl ?_
     refine⟨q,(er==0),rfl,HBW3.out.setCell (by show W.heap.size≤b2; omega) _,fun h=>?_⟩
     have h2:er=0:=by simpa using h
     exact ((Hn2.out.er.1 h2).2.below HB3.out).setCell HX3.out (by decide) _
end Sr
namespace Sr
def invE (x:E3): E3:=if x.u=0 then ⟨0,0,-x.m⟩ else plainE (-x.u) (x.v - x.m) (-x.m)
def InvOK (x:E3): Prop:=x.u=0∨(allowed (x.v - x.m)∧plainOK (-x.u) (x.v - x.m))
theorem invE_m (x:E3): (invE x).m = -x.m:=by
 unfold invE; split
 ·rfl
 ·exact plainE_m _ _ _
theorem invE_tq (x:E3): tq (invE x) = -(tq x)*tp (-x.m):=by
 unfold invE; split
 ·rename_i h
  have e1:tq ⟨0,0,-x.m⟩=0:=by unfold tq; simp
  have e2:tq x=0:=by unfold tq; rw[h];simp
  rw[e1,e2];simp
 ·rw[yn,show x.v - x.m=x.v+-x.m by omega,yc]
  unfold tq
  rw[Rat.intCast_neg]
  grind
theorem invE_plain (x:E3): Plain (invE x):=by
 unfold invE; split
 ·exact .inl ⟨rfl,rfl⟩
 ·exact yB _ _ _
theorem plain_one:Plain ⟨0,0,0⟩:=.inl ⟨rfl,rfl⟩
theorem tq_one:tq ⟨0,0,0⟩=0:=by unfold tq; simp
theorem timesE_invE (x:E3): timesE x (invE x)=⟨0,0,0⟩:=by
 refine yI (qH _ _) plain_one ?_ ?_
 ·rw[zw,invE_m];show x.m+-x.m=0; omega
 ·rw[yH,invE_tq,tq_one]
  have:=tp_inv x.m
  grind
theorem invE_timesE (x:E3): timesE (invE x) x=⟨0,0,0⟩:=by
 refine yI (qH _ _) plain_one ?_ ?_
 ·rw[zw,invE_m];show -x.m+x.m=0; omega
 ·rw[yH,invE_tq,invE_m,tq_one]
  grind
theorem invE_mul (x y:E3): timesE (invE y) (invE x)=invE (timesE x y):=by
 refine yI (qH _ _) (invE_plain _) ?_ ?_
 ·rw[zw,invE_m,invE_m,invE_m,zw];omega
 ·rw[yH,invE_tq,invE_tq,invE_tq,invE_m,yH,zw,show -(x.m+y.m) = -x.m+-y.m by omega,yc]
  have:=tp_inv x.m
  grind
end Sr

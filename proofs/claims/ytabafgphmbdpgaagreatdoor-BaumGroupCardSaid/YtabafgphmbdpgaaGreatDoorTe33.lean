/- Texts of this claim, joined: RPlL, RSz, RNx. -/
import Derived.Test.YtabafgphmbdpgaaGreatDoorTe1
import Derived.Test.YtabafgphmbdpgaaGreatDoorTe30
import Derived.Test.YtabafgphmbdpgaaGreatDoorTe32
import Derived.Deep.CutBlock
import Derived.Deep.CutRange
set_option maxHeartbeats 8000000
set_option maxRecDepth 100000
namespace Sr
open Go Go.Proofs Go.RowKit Go.Maps Go.WideMaps
section
variable {W:World} {g n k i e d:Nat} {l:List PT} {C vs:List Int} {x:Int} {s:Bool}
theorem setSg {cap:Nat}{t:PT}(b:Bool)(hi:l[k]? = some t)(h:W.ownsRow 0 139 2 (.slice (some ⟨g,0,none⟩) n cap) n (tcells l)):
 (W.setCell ⟨g,k*2,none⟩ (.bool b)).ownsRow 0 139 2 (.slice (some ⟨g,0,none⟩) n cap) n (tcells (l.set k (b,t.2))):=by
 obtain⟨h1,⟨h2,_⟩ | ⟨g',cap',cur,hv,_,h4,h5,h6,h7,h8⟩⟩:=h
 ·cases h2
 ·cases hv
  have k2:=heap_setCell_same W g (k*2) _ 139 (.bool b) h4
  obtain⟨_,e1⟩:=qG hi
  have hs:((tcells l).set (k*2) (.bool b)).set (k*2+1) (.int .i64 (t.2:Nat))=(tcells l).set (k*2) (.bool b):=by
   refine List.ext_getElem? fun j=>?_
   by_cases hj:j=k*2+1
   ·subst hj
    have hl:=(jL e1).1
    rw[List.getElem?_set_self (by simpa using hl),List.getElem?_set_ne (by omega),e1]
   ·rw[List.getElem?_set_ne (Ne.symm hj)]
  refine⟨?_,.inr ⟨g,cap,_,rfl,Nat.zero_le _,k2,h5,h6,by simp[h7],?_⟩⟩
  ·rw[qT,hs];simp[h1]
  ·rw[qT,hs,Array.toList_setIfInBounds,List.take_set,h8]
theorem setEx {cap:Nat}{t:PT}(q:Nat)(hi:l[k]? = some t)(h:W.ownsRow 0 139 2 (.slice (some ⟨g,0,none⟩) n cap) n (tcells l)):
 (W.setCell ⟨g,k*2+1,none⟩ (.int .i64 (q:Nat))).ownsRow 0 139 2 (.slice (some ⟨g,0,none⟩) n cap) n (tcells (l.set k (t.1,q))):=by
 obtain⟨h1,⟨h2,_⟩ | ⟨g',cap',cur,hv,_,h4,h5,h6,h7,h8⟩⟩:=h
 ·cases h2
 ·cases hv
  have k2:=heap_setCell_same W g (k*2+1) _ 139 (.int .i64 (q:Nat)) h4
  obtain⟨e0,_⟩:=qG hi
  have hs:(tcells l).set (k*2) (.bool t.1)=tcells l:=by
   refine List.ext_getElem? fun j=>?_
   by_cases hj:j=k*2
   ·subst hj
    rw[List.getElem?_set_self (jL e0).1,e0]
   ·rw[List.getElem?_set_ne (Ne.symm hj)]
  refine⟨?_,.inr ⟨g,cap,_,rfl,Nat.zero_le _,k2,h5,h6,by simp[h7],?_⟩⟩
  ·rw[qT];simp[h1]
  ·rw[qT,Array.toList_setIfInBounds,List.take_set,h8,hs]
theorem PSt.store {w:World}{p:Nat}{fv:Value}{fl:List Value}{v:Value}{bt:Nat}(h:PSt C w p fv fl vs x v bt s i e)(k:Nat)(y:Value)(hg:g∉rB p fv fl)(hb:bt≠g)(hv:v.ownBlock≠some g):
 PSt C (w.setCell ⟨g,k,none⟩ y) p fv fl vs x v bt s i e :=
 ⟨h.rw.setCell hg y,h.exs,jJ h.row (fun b hbo=>jS _ _ _ _ (by show b≠g; rintro rfl; exact hv hbo)),(jS _ _ _ _ hb).trans h.box,h.plc⟩
theorem RPut.store {w:World}{p:Nat}{fv fv':Value}{fl fl':List Value}{vs':List Int}(h:RPut C W w p fv fv' fl fl' vs vs')(o:Nat)(y:Value)(hg:g∉rB p fv' fl')(hW:W.heap.size≤g): RPut C W (w.setCell ⟨g,o,none⟩ y) p fv fv' fl fl' vs vs' :=
 ⟨h.rw.setCell hg y,h.ext,⟨h.fr.os,h.fr.tape,h.fr.output,by have:=h.fr.size; simpa using this,fun b hb hn=>(jS _ _ _ _ (by show b≠g; omega)).trans (h.fr.block b hb hn)⟩,h.fvb,h.flb⟩
theorem RSrc.one {b:Nat}(h:W.heap[b]? = some (.cells #[.bool s,.int .i64 (i:Nat)] 139 (0,0))): RSrc W (.slice (some ⟨b,0,none⟩) 1 1) [(s,i)]:=.inr ⟨_,_,rfl,fun j u hu=>World.news_of_block h j u hu⟩
theorem rfree {c:Nat}(h:RRow W (.slice (some ⟨g,0,none⟩) n c) l)(o:Nat): W.frozen? ⟨g,o,none⟩=false:=by
 obtain⟨_,⟨h2,_⟩ | ⟨g',cap',cur,hv,_,h4,_⟩⟩:=h
 ·cases h2
 ·cases hv; exact jF h4 o
theorem pf_flip {su:Bool}(h:(form x)[k]? = some (su,d)): (pf vs x).set k (!su,vs.idxOf (d:Int))=pf vs (x - 2*tv (su,d)):=by
 have h1:=split_at h
 have hk:=(jL h).1
 unfold pf
 rw[form_flip h1]
 conv=>lhs; rw[h1]
 rw[List.map_append,List.map_append,List.map_cons,List.map_cons,List.set_append_right _ _ (by simp; omega)]
 simp[Nat.min_eq_left (Nat.le_of_lt hk)]
theorem exs_flip {su:Bool}(h:(form x)[k]? = some (su,d))(hx:∀ j∈exps x,(j:Int)∈vs): ∀ j∈exps (x - 2*tv (su,d)),(j:Int)∈vs:=by
 rw[zL (jM h)];exact hx
theorem pf_ins (hw:WV vs)(hc:(∀ u∈(form x).take k,e<u.2)∧∀ u∈(form x).drop k,u.2≤e)(h0:e∉exps x)(h1:e+1∉exps x)(h2:¬ ∃ u,(form x)[k]? = some u∧u.2+1=e)(hi:vs[i]? = some (e:Int)):
 (pf vs x).take k++[(s,i)]++(pf vs x).drop k=pf vs (x+tv (s,e))∧∀ j∈exps (x+tv (s,e)),j∈exps x∨j=e:=by
 have hm:∀ u∈form x,u.2≠e∧u.2≠e+1:=fun u hu=>⟨fun h=>h0 (h▸Sr.mem_exps hu),fun h=>h1 (h▸Sr.mem_exps hu)⟩
 have hf:form (x+tv (s,e))=(form x).take k++(s,e)::(form x).drop k:=by
  refine form_ins (List.take_append_drop _ _).symm (fun u hu=>?_) (fun u hu=>?_)
  ·have:=hc.1 u hu; have:=(hm u (List.mem_of_mem_take hu)).2; omega
  ·have h3:=hc.2 u hu
   have h4:=(hm u (List.mem_of_mem_drop hu)).1
   have:u.2+1≠e:=fun h5=>by
    cases hd:(form x)[k]? with
    | none=>rw[List.drop_eq_nil_of_le (List.getElem?_eq_none_iff.1 hd)] at hu; simp at hu
    | some t =>
      have e2:(form x).drop k=t::(form x).drop (k+1):=by
       obtain⟨h6,h7⟩:=jL hd
       rw[← h7,← List.drop_eq_getElem_cons h6]
      have ht:=hc.2 t (by rw[e2];simp)
      have ht2:=(hm t (jM hd)).1
      have hn:=jb x
      rw[split_at hd] at hn
      rw[e2] at hu
      rcases List.mem_cons.1 hu with rfl | hu
      ·exact h2 ⟨_,hd,h5⟩
      ·have:=(List.pairwise_cons.1 (List.pairwise_append.1 hn).2.1).1 u hu; omega
   omega
 refine⟨?_,fun j hj=>?_⟩
 ·conv=>rhs; unfold pf; rw[hf]
  rw[List.map_append,List.map_cons,hw.idx_get hi,List.map_take,List.map_drop]
  unfold pf; simp
 ·rw[q8 hf,List.map_append,List.map_cons,List.mem_append,List.mem_cons] at hj
  rcases hj with hj | hj | hj
  ·left; unfold exps; rw[← List.take_append_drop k (form x),List.map_append];exact List.mem_append.2 (.inl hj)
  ·exact .inr hj
  ·left; unfold exps; rw[← List.take_append_drop k (form x),List.map_append];exact List.mem_append.2 (.inr hj)
theorem add_len {a b c:Nat}(h:a=c)(k:b=d): a+b=c+d:=by rw[h,k]
theorem qU (w:World)(a b:Obj): ((w.alloc a).alloc b).heap[w.heap.size]? = some a:=(jE _ _ (by simp)).trans (jD w a)
theorem yD (w:World)(a:Obj): Below w.heap.size w (w.alloc a).drew:=⟨rfl,rfl,rfl,by simp,fun _ hb=>jE _ _ hb⟩
theorem zG (w:World)(a b:Obj): Below w.heap.size w ((w.alloc a).alloc b).drew:=⟨rfl,rfl,rfl,by simp; omega,fun k hb=>(jE _ _ (by simp; omega)).trans (jE _ _ hb)⟩
theorem plus_lo (he:e∉exps x)(he1:e+1∉exps x)(hn:((∃ u∈exps x,e<u)∨∃ d,d+1=e∧(s,d)∈form x)→RNext C e)(hnl:∀ d∈exps x,d<e→RNext C d) 
 (hls:∀ d,d+1=e→(s,d)∈form x→RPlus C (x - 2*tv (s,d)) s (e+1)):RPlus C x s e:=by
 intro W p fv fl vs v i H hx hr hi
 obtain⟨W0,bt,hW0,hbt,HP,HB⟩:=pst_start (s:=s) H hx hr hi
 obtain⟨va,vc,rfl⟩:=HP.out.shape
 have hlen:=HP.out.len
 have b0:=HP.out.b0
 have b1:=HP.out.b1
 obtain⟨n,hnn⟩:∃ n,n=(form x).length:=⟨_,rfl⟩
 rw[← hnn] at HP hlen
 rw[← hnn]
 have HN:=jH hnn
 have HQ:Hid (∀ y w',RPlusQ C W0 p fv fl vs (x+tv (s,e)) y w'→RPlusQ C W p fv fl vs (x+tv (s,e)) y w'):=fun y w' h=>h.pre HB.out
 have HNx:=jH hn
 have HNl:=jH hnl
 have Hls:=jH hls
 clear hnn H hx hr hi hn hnl hls
 go_enter Tryz.func113,Tryz.ntmps113
 go_upto_block 0 with fail
 go_cut [7] from 12 to 29 (fun vk wq=>∃ (k m:Nat),vk=.int .i64 k∧k≤n∧wq=W0.drewN m∧Hid ((∀ u∈(form x).take k,e<u.2)∧∀ u∈(form x).drop k,u.2≤e))
 case first =>
  go_wp2_with fail
  go_loopg [7] n (fun g1 vi wr=>∃ (k m:Nat),vi=.int .i64 k∧k≤n∧n - k≤g1∧wr=W0.drewN m∧Hid (∀ i<k,∀ u,(form x)[i]? = some u→e<u.2))
  case atStart=>exact⟨0,0,rfl,by omega,by omega,rfl,fun i hi=>by omega⟩
  case round =>
   obtain⟨k,m,rfl,hkn,hg,rfl,HK⟩:=hrel
   have hk0:(0:Int)≤(k:Int):=Int.natCast_nonneg k
   have hkw:IntKind.i64.wrap ((k:Int)+1)=(k:Int)+1:=IntWalk.i64_in _ (by omega)
   by_cases hk:k<n
   ·have hkz:(k:Int)<(n:Int):=by omega
    obtain⟨⟨su,eu⟩,hu⟩:∃ u,(form x)[k]? = some u:=⟨_,jG (by rw[← HN.out];exact hk)⟩
    obtain⟨ga,ca,d,hv,cu0,cu1,hd⟩:=HP.out.term hu
    rw[← HN.out] at hv
    cases hv
    have Hu:=jH hu
    have hC:∀ n,Calls Tryz.prog 84 #[.pointer (some ⟨p,0,none⟩),.int .i64 (d:Nat),.int .i64 (i:Nat)] (W0.drewN n) fun e' W'=>e'=.returned (.int .i64 (isg ((eu:Int) - e)))∧∃ m,W'=(W0.drewN n).drewN m:=fun n=>yO (HP.out.drewN n).rw hd HP.out.plc
    clear hd hu
    dsimp only at cu0 cu1
    by_cases hgt:e<eu
    ·have HK2:Hid (∀ i<k+1,∀ u,(form x)[i]? = some u→e<u.2):=fun i hi u hu=>if h:i=k then by
      subst h; rw[Hu.out] at hu; cases hu; exact hgt else HK.out i (by omega) u hu
     rw[isg_one hgt] at hC
     clear HK
     go_wp2_with fail
     go_quiet (first | (go_at_call 84; exact yN (hC _)))
     go_wp2_with fail
     go_roundg (n - (k+1))
     case measure=>omega
     case rel=>exact⟨k+1,m+nq,by go_num,by omega,by omega,rfl,HK2⟩
    ·have HCut:=jH (cut_at HK.out (fun u hu=>by rw[Hu.out] at hu; cases hu; show eu≤e; omega))
     have hc0:=isg_no hgt
     generalize isg ((eu:Int) - e)=c at hC hc0
     have hc1:¬ (0<c):=by simpa using hc0
     clear HK hg
     go_wp2_with fail
     go_quiet (first | (go_at_call 84; exact yN (hC _)))
     go_wp2_with fail
     go_meet
     case rel=>exact⟨k,_,rfl,hkn,(by first | rfl | exact World.drewN_drewN _ _ _),HCut⟩
   ·obtain rfl:n=k:=by omega
    have HCut:=jH (cut_at HK.out (fun u hu=>absurd (jL hu).1 (by rw[← HN.out];omega)))
    clear HK hg hk
    go_wp2_with fail
    go_quiet (fail)
    go_wp2_with fail
    go_meet
    case rel=>exact⟨n,_,rfl,jR _,(by first | rfl | exact World.drewN_drewN _ _ _),HCut⟩
 case rest =>
  obtain⟨k,m,rfl,hkn,rfl,HCut⟩:=hcut
  have hk0:(0:Int)≤(k:Int):=Int.natCast_nonneg k
  go_upto_region 4 with fail
  go_cut [43] from 30 to 43 (fun v4 wq=>v4=.bool false∧∃ m,wq=W0.drewN m)
  case first =>
   by_cases hk:k<n
   ·have hkz:(k:Int)<(n:Int):=by omega
    obtain⟨⟨su,eu⟩,hu⟩:∃ u,(form x)[k]? = some u:=⟨_,jG (by rw[← HN.out];exact hk)⟩
    obtain⟨ga,ca,d,hv,cu0,cu1,hd⟩:=HP.out.term hu
    rw[← HN.out] at hv
    cases hv
    have hne:¬ ((d:Int)=(i:Int)):=fun h=>he (by
     have h1:eu=e:=by
      have:=(HP.out.rw.wv.same hd HP.out.plc).1 (by omega);simp at this; omega
     exact h1▸Sr.mem_exps (jM hu))
    have hne1:decide ((d:Int)=(i:Int))=false:=by simpa using hne
    have hne2:((d:Int)==(i:Int))=false:=by simpa using hne
    clear hu hd
    go_quiet (fail)
    go_wp2_with fail
    go_meet
    case rel=>exact⟨rfl,_,(by first | rfl | exact World.drewN_drewN _ _ _)⟩
   ·obtain rfl:n=k:=by omega
    go_quiet (fail)
    go_wp2_with fail
    go_meet
    case rel=>exact⟨rfl,_,(by first | rfl | exact World.drewN_drewN _ _ _)⟩
  case rest =>
   obtain⟨rfl,m4,rfl⟩:=hcut
   go_upto_region 8 with fail
   go_cut [81] from 67 to 81 (fun v8 wq=>v8=.bool false∧∃ fv2 fl2 vs2,Hid (PSt C wq p fv2 fl2 vs2 x (.slice va n vc) bt s i e)∧Hid (RPut C W0 wq p fv fv2 fl fl2 vs vs2))
   case first =>
    by_cases hk:0<k
    ·obtain⟨j,hj⟩:∃ j,k=j+1:=⟨k - 1,by omega⟩
     obtain⟨⟨sh,eh⟩,hh⟩:∃ u,(form x)[j]? = some u:=⟨_,jG (by rw[← HN.out];omega)⟩
     obtain⟨ga,ca,dh,hv,ch0,ch1,hdh⟩:=HP.out.term hh
     rw[← HN.out] at hv
     cases hv
     have hge:e<eh:=HCut.out.1 (sh,eh) (jM (by rw[List.getElem?_take,if_pos (by omega:j<k)];exact hh))
     have hgn:eh≠e+1:=fun h=>he1 (h▸Sr.mem_exps (jM hh))
     dsimp only at ch0 ch1 hdh
     have Hh:=jH hh
     have Hdh:=jH hdh
     have j0:(0:Int)≤(j:Int):=Int.natCast_nonneg j
     have jn:(j:Int)<(n:Int):=by omega
     have jw:IntKind.i64.wrap ((k:Int) - 1)=(j:Int):=by rw[IntKind.wrap_i64];omega
     have jp:(0:Int)<(k:Int):=by omega
     have hcN:=fun M=>HNx.out (.inl ⟨eh,Sr.mem_exps (jM hh),hge⟩) (W0.drewN M) p fv fl vs i (HP.out.drewN M).rw HP.out.plc
     clear hh hdh hj
     go_region_held3 (fun w'=>w'.cell? ⟨bt,1,none⟩=some (.int .i64 (i:Nat))∧w'.cell? ⟨ga,j*2+1,none⟩=some (.int .i64 (dh:Nat))) (first | go_keep | exact⟨hk1',hk3'⟩)
      (first
        | (go_at_call 114; refine (hcN _).mono ?_; rintro y w2 ⟨d2,fv2,fl2,vs2,rfl,hp2,hd2⟩
           have HP2:=jH ((HP.out.drewN _).put hp2.out)
           have HP02:=jH (hp2.out.pre (jN W0 _))
           have hk1':=HP2.out.b1
           obtain⟨g3,c3,d3,hv3,_,hk3',hd3⟩:=HP2.out.term Hh.out
           rw[← HN.out] at hv3
           cases hv3
           have e3:d3=dh:=(HP2.out.rw.wv.same hd3 (jW hp2.out.ext Hdh.out)).2 rfl
           subst e3
           have hne:¬ ((d2:Int)=(d3:Int)):=fun h=>hgn (by
            have:=(HP2.out.rw.wv.same hd2.out hd3).1 (by omega);simp at this; omega)
           have hne1:decide ((d2:Int)=(d3:Int))=false:=by simpa using hne
           have hne2:((d2:Int)==(d3:Int))=false:=by simpa using hne
           clear hd3))
     go_wp2_with fail
     go_meet
     case rel=>exact⟨rfl,fv2,fl2,vs2,HP2,HP02⟩
    ·obtain rfl:k=0:=by omega
     go_quiet (fail)
     go_wp2_with fail
     go_meet
     case rel=>exact⟨rfl,fv,fl,vs,(HP.out.drewN _).drewN _,((RPut.refl HP.out.rw).post (jN _ _)).post (jN _ _)⟩
   case rest =>
    obtain⟨rfl,fv2,fl2,vs2,HP2,HB2⟩:=hcut
    have hpl:(pf vs2 x).length=n:=by rw[show (pf vs2 x).length=(form x).length by simp[pf],← HN.out]
    have hb1:n≤8000000000000:=by omega
    go_upto_region 16 with (at_builtin; go_loud (refine app_R rfl _ _ rfl (.slice (some ⟨wc.heap.size,0,none⟩) 0 0) [] rfl (RRow.nil (jD wc _)) qO _ (pf vs2 x) rfl (HP2.out.row.src.below ((Below.refl _ _).alloc (jR _) _)) n ((Nat.zero_add _).trans hpl) (pf vs2 x) rfl hb1 _ rfl ?_);intro g3 c3 w3 R3 G3 A3 L3)
    have B3:Hid (Below wc.heap.size wc w3):=Below.trans ((Below.refl wc.heap.size wc).alloc (jR _) (.cells #[] 139)) (j9 G3 (fun b hb=>by cases hb; exact jR _) (by simp))
    have O3:wc.heap.size≤g3:=by
     rcases A3 with h | h
     ·cases h; exact jR _
     ·rw[h];simp
    have HP3:=jH (HP2.out.below B3.out)
    have HB3:=jH (HB2.out.post B3.out)
    have HR3:=jH R3
    have HG3:=jH L3
    have HNo:Hid (g3∉rB p fv2 fl2):=fun hm=>by have:=HP2.out.rw.blt g3 hm; omega
    have O0:W0.heap.size≤g3:=Nat.le_trans HB2.out.fr.size O3
    have Hva:Hid ((Value.slice va n vc).ownBlock≠some g3):=fun h=>by have:=jP HP.out.row h; omega
    have Hbt:Hid (bt≠g3):=fun h=>by have:=(jA HP.out.box).1; omega
    have b0:=HP3.out.b0
    have b1:=HP3.out.b1
    have HO0:=jH O0
    clear B3 O3 O0 R3 G3 A3 L3 hpl hb1
    go_cut [141] from 126 to 141 (fun v16 wq=>∃ (bq:Bool) (fv5:Value) (fl5:List Value) (vs5:List Int),v16=.bool bq∧Hid (bq=true↔∃ u,(form x)[k]? = some u∧u.2+1=e)∧Hid (PSt C wq p fv5 fl5 vs5 x (.slice va n vc) bt s i e)∧Hid (RPut C W0 wq p fv fv5 fl fl5 vs vs5)∧Hid (RRow wq (.slice (some ⟨g3,0,none⟩) n c3) (pf vs5 x))∧Hid (g3∉rB p fv5 fl5))
    case first =>
     by_cases hk:k<n
     ·have hkz:(k:Int)<(n:Int):=by omega
      obtain⟨⟨su,du⟩,hu⟩:∃ u,(form x)[k]? = some u:=⟨_,jG (by rw[← HN.out];exact hk)⟩
      obtain⟨ga,ca,di,hv,cu0,cu1,hd⟩:=HP3.out.term hu
      rw[← HN.out] at hv
      cases hv
      dsimp only at cu0 cu1 hd
      have Hu:=jH hu
      have Hd:=jH hd
      have hlt:du<e:=by
       have h1:=HCut.out.2 (su,du) (jM (i:=0) (by rw[List.getElem?_drop,Nat.add_zero];exact hu))
       have h2:du≠e:=fun h=>he (h▸Sr.mem_exps (jM hu))
       dsimp only at h1; omega
      have hcN:=fun M=>HNl.out du (Sr.mem_exps (jM hu)) hlt (w3.drewN M) p fv2 fl2 vs2 di (HP3.out.drewN M).rw hd
      clear hu hd
      by_cases hde:du+1=e
      ·go_region_held3 (fun w'=>w'.cell? ⟨bt,1,none⟩=some (.int .i64 (i:Nat))∧w'.cell? ⟨ga,k*2+1,none⟩=some (.int .i64 (di:Nat))) (first | go_keep | exact⟨hk1',hk3'⟩)
        (first
          | (go_at_call 114; refine (hcN _).mono ?_; rintro y w4 ⟨d4,fv4,fl4,vs4,rfl,hp4,hd4⟩
             have HP4:=jH ((HP3.out.drewN _).put hp4.out)
             have HB4:=jH (HB3.out.trans (hp4.out.pre (jN w3 _)))
             have HR4:Hid (RRow w4 (.slice (some ⟨g3,0,none⟩) n c3) (pf vs4 x)):=by
              have h:=RRow.fr (W:=w3.drewN _) HR3.out (HP3.out.drewN _).rw hp4.out.fr
              rw[← pf_put hp4.out HP3.out.rw.wv HP3.out.exs] at h
              exact h
             have HN4:Hid (g3∉rB p fv4 fl4):=hp4.out.notin HG3.out HNo.out
             have hk1':=HP4.out.b1
             obtain⟨g4,c4,d5,hv4,_,hk3',hd5⟩:=HP4.out.term Hu.out
             rw[← HN.out] at hv4
             cases hv4
             have e3:d5=di:=(HP4.out.rw.wv.same hd5 (jW hp4.out.ext Hd.out)).2 rfl
             subst e3
             clear hd5
             have hdd:d4=i:=(HP4.out.rw.wv.same hd4.out HP4.out.plc).2 (by simp; omega)
             subst hdd
             have Hde:=jH hde))
       go_wp2_with fail
       go_meet
       case rel=>exact⟨true,fv4,fl4,vs4,rfl,⟨fun _=>⟨_,Hu.out,Hde.out⟩,fun _=>rfl⟩,HP4,HB4,HR4,HN4⟩
      ·go_region_held3 (fun w'=>w'.cell? ⟨bt,1,none⟩=some (.int .i64 (i:Nat))∧w'.cell? ⟨ga,k*2+1,none⟩=some (.int .i64 (di:Nat))) (first | go_keep | exact⟨hk1',hk3'⟩)
        (first
          | (go_at_call 114; refine (hcN _).mono ?_; rintro y w4 ⟨d4,fv4,fl4,vs4,rfl,hp4,hd4⟩
             have HP4:=jH ((HP3.out.drewN _).put hp4.out)
             have HB4:=jH (HB3.out.trans (hp4.out.pre (jN w3 _)))
             have HR4:Hid (RRow w4 (.slice (some ⟨g3,0,none⟩) n c3) (pf vs4 x)):=by
              have h:=RRow.fr (W:=w3.drewN _) HR3.out (HP3.out.drewN _).rw hp4.out.fr
              rw[← pf_put hp4.out HP3.out.rw.wv HP3.out.exs] at h
              exact h
             have HN4:Hid (g3∉rB p fv4 fl4):=hp4.out.notin HG3.out HNo.out
             have hk1':=HP4.out.b1
             obtain⟨g4,c4,d5,hv4,_,hk3',hd5⟩:=HP4.out.term Hu.out
             rw[← HN.out] at hv4
             cases hv4
             have e3:d5=di:=(HP4.out.rw.wv.same hd5 (jW hp4.out.ext Hd.out)).2 rfl
             subst e3
             clear hd5
             have hne:¬ ((d4:Int)=(i:Int)):=fun h=>hde (by have:=(HP4.out.rw.wv.same hd4.out HP4.out.plc).1 (by omega);simp at this; omega)
             have hne1:decide ((d4:Int)=(i:Int))=false:=by simpa using hne
             have hne2:((d4:Int)==(i:Int))=false:=by simpa using hne))
       go_wp2_with fail
       go_meet
       case rel=>exact⟨false,fv4,fl4,vs4,rfl,⟨(fun h=>by cases h),fun ⟨u,h1,h2⟩=>by rw[Hu.out] at h1; cases h1; exact absurd h2 hde⟩,HP4,HB4,HR4,HN4⟩
     ·obtain rfl:n=k:=by omega
      go_quiet (fail)
      go_wp2_with fail
      go_meet
      case rel=>exact⟨false,fv2,fl2,vs2,rfl,⟨(fun h=>by cases h),fun ⟨u,h1,_⟩=>by have:=(jL h1).1; have:=HN.out; omega⟩,HP3.out.drewN _,HB3.out.post (jN _ _),HR3.out,HNo⟩
    case rest =>
     obtain⟨bq,fv5,fl5,vs5,rfl,HIf,HP5,HB5,HR5,HN5⟩:=hcut
     have b0:=HP5.out.b0
     have b1:=HP5.out.b1
     cases bq with
     | false =>
       have hpl:(pf vs5 x).length=n:=by rw[show (pf vs5 x).length=(form x).length by simp[pf],← HN.out]
       obtain⟨hins,hexs⟩:=pf_ins (s:=s) HP5.out.rw.wv HCut.out he he1 (fun h=>by have:=HIf.out.2 h; cases this) HP5.out.plc
       have hz1:(x+tv (s,e):Int)=x+tv (s,e):=rfl
       have HI:=jH hins
       have HXi:Hid (∀ j∈exps (x+tv (s,e)),(j:Int)∈vs5):=fun j hj=>by
        rcases hexs j hj with h | h
        ·exact HP5.out.exs j h
        ·rw[h];exact jM HP5.out.plc
       have hl1:((pf vs5 x).take k).length=k:=by rw[List.length_take,hpl];omega
       have hl2:((pf vs5 x).drop k).length=n - k:=by rw[List.length_drop,hpl]
       have Bb:=(jA HP5.out.box).1
       have ca0:∀ o,(wc.alloc o).cell? ⟨bt,0,none⟩=some (.bool s):=fun o=>by rw[jB ((jE wc _ Bb).trans HP5.out.box)];rfl
       have ca1:∀ o,(wc.alloc o).cell? ⟨bt,1,none⟩=some (.int .i64 (i:Nat)):=fun o=>by rw[jB ((jE wc _ Bb).trans HP5.out.box)];rfl
       have hbk:k≤8000000000000:=by omega
       have hbk1:k+1≤8000000000000:=by omega
       have hbn1:n+1≤8000000000000:=by omega
       have hl3:((pf vs5 x).take k++[(s,i)]).length=k+1:=by rw[List.length_append,hl1];rfl
       have hl4:k+1+(n - k)=n+1:=by omega
       have hE:=(HP5.out.row).srcs
       clear hins hexs hz1 hpl HIf
       cases va with
       | none =>
         obtain⟨a',c',hv,-,-,-,hnone,-⟩:=hE
         have hv1:=(Value.slice.inj hv)
         obtain⟨rfl,hv2,rfl⟩:=hv1
         obtain⟨hnil,rfl⟩:=hnone rfl
         rw[hnil] at hv2
         have hn0:n=0:=hv2
         subst hn0
         obtain rfl:k=0:=by omega
         have T1:Hid (RSrc wc (.slice none 0 0) ((pf vs5 x).take 0)):=.inl ⟨rfl,rfl⟩
         have T2:Hid (RSrc wc (.slice none 0 0) ((pf vs5 x).drop 0)):=.inl ⟨by rw[hnil];rfl,rfl⟩
         clear hv hv2 hnil hnone
         go_upto_region 22 with fail
         go_region_law (first
          | (refine zj rfl (.tmp 173) (.tmp 176) rfl (.slice (some ⟨_,0,none⟩) 0 0) [] rfl (RRow.nil (jD wc _)) qO _ ((pf vs5 x).take 0) rfl (T1.out.below (yD _ _)) 0 ((Nat.zero_add _).trans hl1) _ rfl hbk _ rfl ?_; intro g6 c6 w6 R6 G6 A6 L6
             have B6:Hid (Below wc.heap.size wc w6):=Below.trans (yD wc _) (j9 G6 (fun b hb=>by cases hb; simp) (by simp; try omega))
             have O6:Hid (wc.heap.size≤g6):=by
              rcases A6 with h | h
              ·cases h; show wc.heap.size≤_; first | exact jR _ | exact Nat.le_succ _
              ·show wc.heap.size≤g6
               rw[h];simp; try omega
             have R6':=jH R6
             have hp6:=(B6.out.block bt Bb).trans HP5.out.box
             have c60:w6.cell? ⟨bt,0,none⟩=some (.bool s):=by rw[jB hp6];rfl
             have c61:w6.cell? ⟨bt,1,none⟩=some (.int .i64 (i:Nat)):=by rw[jB hp6];rfl
             clear G6 A6 L6 R6)
          | (refine zj rfl (.tmp 173) (.tmp 176) rfl (.slice (some ⟨_,0,none⟩) 0 0) [] rfl (RRow.nil (qU wc _ _)) qO _ ((pf vs5 x).take 0) rfl (T1.out.below (zG _ _ _)) 0 ((Nat.zero_add _).trans hl1) _ rfl hbk _ rfl ?_; intro g6 c6 w6 R6 G6 A6 L6
             have B6:Hid (Below wc.heap.size wc w6):=Below.trans (zG wc _ _) (j9 G6 (fun b hb=>by cases hb; simp) (by simp; try omega))
             have O6:Hid (wc.heap.size≤g6):=by
              rcases A6 with h | h
              ·cases h; show wc.heap.size≤_; first | exact jR _ | exact Nat.le_succ _
              ·show wc.heap.size≤g6
               rw[h];simp; try omega
             have R6':=jH R6
             have hp6:=(B6.out.block bt Bb).trans HP5.out.box
             have c60:w6.cell? ⟨bt,0,none⟩=some (.bool s):=by rw[jB hp6];rfl
             have c61:w6.cell? ⟨bt,1,none⟩=some (.int .i64 (i:Nat)):=by rw[jB hp6];rfl
             have HX6:=jH ((G6.block (wc.heap.size+1) (by simp) (by simp[Value.ownBlock])).trans (qA wc _ _))
             clear G6 A6 L6 R6)
          | (refine zj rfl (.tmp 173) (.tmp 176) rfl (.slice (some ⟨_,0,none⟩) 0 0) [] rfl (RRow.nil (qA wc _ _)) qO _ ((pf vs5 x).take 0) rfl (T1.out.below (zG _ _ _)) 0 ((Nat.zero_add _).trans hl1) _ rfl hbk _ rfl ?_; intro g6 c6 w6 R6 G6 A6 L6
             have B6:Hid (Below wc.heap.size wc w6):=Below.trans (zG wc _ _) (j9 G6 (fun b hb=>by cases hb; simp) (by simp; try omega))
             have O6:Hid (wc.heap.size≤g6):=by
              rcases A6 with h | h
              ·cases h; show wc.heap.size≤_; first | exact jR _ | exact Nat.le_succ _
              ·show wc.heap.size≤g6
               rw[h];simp; try omega
             have R6':=jH R6
             have hp6:=(B6.out.block bt Bb).trans HP5.out.box
             have c60:w6.cell? ⟨bt,0,none⟩=some (.bool s):=by rw[jB hp6];rfl
             have c61:w6.cell? ⟨bt,1,none⟩=some (.int .i64 (i:Nat)):=by rw[jB hp6];rfl
             have HX6:=jH ((G6.block wc.heap.size (by simp; omega) (by simp[Value.ownBlock])).trans (qU wc _ _))
             clear G6 A6 L6 R6)
          | (refine zj rfl (.tmp 177) (.tmp 179) rfl (.slice (some ⟨g6,0,none⟩) 0 c6) ((pf vs5 x).take 0) rfl (World.ownsRow.alloc R6'.out _) qO _ [(s,i)] rfl (RSrc.one (jD _ _)) (0+1) (by rw[hl1];rfl) _ rfl hbk1 _ rfl ?_; intro g7 c7 w7 R7 G7 A7 L7
             have B7:Hid (Below wc.heap.size wc w7):=Below.trans (Below.trans B6.out ((Below.refl _ _).alloc B6.out.size _)) (j9 G7 (fun b hb=>by cases hb; exact O6.out) (by have:=B6.out.size; simp; omega))
             have O7:Hid (wc.heap.size≤g7):=by
              rcases A7 with h | h
              ·cases h; exact O6.out
              ·show wc.heap.size≤g7
               rw[h];have:=B6.out.size; simp; omega
             have R7':=jH R7
             clear G7 A7 L7 R7 R6' B6 O6)
          | (refine zj rfl (.tmp 177) (.tmp 179) rfl (.slice (some ⟨g6,0,none⟩) 0 c6) ((pf vs5 x).take 0) rfl R6'.out qO _ [(s,i)] rfl (RSrc.one HX6.out) (0+1) (by rw[hl1];rfl) _ rfl hbk1 _ rfl ?_; intro g7 c7 w7 R7 G7 A7 L7
             have B7:Hid (Below wc.heap.size wc w7):=Below.trans (B6.out) (j9 G7 (fun b hb=>by cases hb; exact O6.out) (B6.out.size))
             have O7:Hid (wc.heap.size≤g7):=by
              rcases A7 with h | h
              ·cases h; exact O6.out
              ·show wc.heap.size≤g7
               rw[h];exact B6.out.size
             have R7':=jH R7
             clear G7 A7 L7 R7 R6' B6 O6))
         all_goals
          go_wp2_with (at_builtin; go_loud (refine app_R rfl _ _ rfl (.slice (some ⟨g7,0,none⟩) (0+1) c7) ((pf vs5 x).take 0++[(s,i)]) rfl R7'.out qO _ ((pf vs5 x).drop 0) rfl (T2.out.below B7.out) (0+1) ((add_len hl3 hl2).trans hl4) _ HI.out hbn1 _ rfl ?_);intro g8 c8 w8 R8 G8 A8 L8)
          go_ret
          exact HQ.out _ _ ⟨_,fv5,fl5,vs5,rfl,HB5.out.post (Below.trans B7.out (j9 G8 (fun b hb=>by cases hb; exact O7.out) B7.out.size)),HXi,R8⟩
       | some gA =>
         obtain⟨a',c',hv,hnc,-,-,-,hsome⟩:=hE
         have hv1:=(Value.slice.inj hv)
         obtain⟨rfl,hv2,rfl⟩:=hv1
         obtain⟨hg1,hg2,htk,hdr⟩:=hsome gA rfl
         obtain⟨gb,go,gs⟩:=gA
         dsimp only at hg1 hg2
         subst hg1 hg2
         rw[← hv2] at htk hdr hnc
         have T1:=jH (htk k (by omega))
         obtain⟨A,hA,hT2⟩:∃ A:Addr,(if vc=k then some (⟨gb,0,none⟩:Addr) else some ⟨gb,k*2,none⟩)=some A∧RSrc wc (.slice (some A) (n - k) (vc - k)) ((pf vs5 x).drop k):=by
          have h:=hdr k (by omega)
          by_cases hck:vc=k
          ·rw[if_pos hck] at h ⊢;exact⟨_,rfl,h⟩
          ·rw[if_neg hck] at h ⊢;exact⟨_,rfl,h⟩
         have T2:=jH hT2
         have kz:(k:Int)≤(vc:Int):=by omega
         have kz2:(k:Int)≤(n:Int):=by omega
         have kc:k≤vc:=by omega
         clear hv hv2 htk hdr hT2 hsome
         go_upto_region 22 with fail
         go_region_law (first
          | (refine zj rfl (.tmp 173) (.tmp 176) rfl (.slice (some ⟨_,0,none⟩) 0 0) [] rfl (RRow.nil (jD wc _)) qO _ ((pf vs5 x).take k) rfl (T1.out.below (yD _ _)) k ((Nat.zero_add _).trans hl1) _ rfl hbk _ rfl ?_; intro g6 c6 w6 R6 G6 A6 L6
             have B6:Hid (Below wc.heap.size wc w6):=Below.trans (yD wc _) (j9 G6 (fun b hb=>by cases hb; simp) (by simp; try omega))
             have O6:Hid (wc.heap.size≤g6):=by
              rcases A6 with h | h
              ·cases h; show wc.heap.size≤_; first | exact jR _ | exact Nat.le_succ _
              ·show wc.heap.size≤g6
               rw[h];simp; try omega
             have R6':=jH R6
             have hp6:=(B6.out.block bt Bb).trans HP5.out.box
             have c60:w6.cell? ⟨bt,0,none⟩=some (.bool s):=by rw[jB hp6];rfl
             have c61:w6.cell? ⟨bt,1,none⟩=some (.int .i64 (i:Nat)):=by rw[jB hp6];rfl
             clear G6 A6 L6 R6)
          | (refine zj rfl (.tmp 173) (.tmp 176) rfl (.slice (some ⟨_,0,none⟩) 0 0) [] rfl (RRow.nil (qU wc _ _)) qO _ ((pf vs5 x).take k) rfl (T1.out.below (zG _ _ _)) k ((Nat.zero_add _).trans hl1) _ rfl hbk _ rfl ?_; intro g6 c6 w6 R6 G6 A6 L6
             have B6:Hid (Below wc.heap.size wc w6):=Below.trans (zG wc _ _) (j9 G6 (fun b hb=>by cases hb; simp) (by simp; try omega))
             have O6:Hid (wc.heap.size≤g6):=by
              rcases A6 with h | h
              ·cases h; show wc.heap.size≤_; first | exact jR _ | exact Nat.le_succ _
              ·show wc.heap.size≤g6
               rw[h];simp; try omega
             have R6':=jH R6
             have hp6:=(B6.out.block bt Bb).trans HP5.out.box
             have c60:w6.cell? ⟨bt,0,none⟩=some (.bool s):=by rw[jB hp6];rfl
             have c61:w6.cell? ⟨bt,1,none⟩=some (.int .i64 (i:Nat)):=by rw[jB hp6];rfl
             have HX6:=jH ((G6.block (wc.heap.size+1) (by simp) (by simp[Value.ownBlock])).trans (qA wc _ _))
             clear G6 A6 L6 R6)
          | (refine zj rfl (.tmp 173) (.tmp 176) rfl (.slice (some ⟨_,0,none⟩) 0 0) [] rfl (RRow.nil (qA wc _ _)) qO _ ((pf vs5 x).take k) rfl (T1.out.below (zG _ _ _)) k ((Nat.zero_add _).trans hl1) _ rfl hbk _ rfl ?_; intro g6 c6 w6 R6 G6 A6 L6
             have B6:Hid (Below wc.heap.size wc w6):=Below.trans (zG wc _ _) (j9 G6 (fun b hb=>by cases hb; simp) (by simp; try omega))
             have O6:Hid (wc.heap.size≤g6):=by
              rcases A6 with h | h
              ·cases h; show wc.heap.size≤_; first | exact jR _ | exact Nat.le_succ _
              ·show wc.heap.size≤g6
               rw[h];simp; try omega
             have R6':=jH R6
             have hp6:=(B6.out.block bt Bb).trans HP5.out.box
             have c60:w6.cell? ⟨bt,0,none⟩=some (.bool s):=by rw[jB hp6];rfl
             have c61:w6.cell? ⟨bt,1,none⟩=some (.int .i64 (i:Nat)):=by rw[jB hp6];rfl
             have HX6:=jH ((G6.block wc.heap.size (by simp; omega) (by simp[Value.ownBlock])).trans (qU wc _ _))
             clear G6 A6 L6 R6)
          | (refine zj rfl (.tmp 177) (.tmp 179) rfl (.slice (some ⟨g6,0,none⟩) k c6) ((pf vs5 x).take k) rfl (World.ownsRow.alloc R6'.out _) qO _ [(s,i)] rfl (RSrc.one (jD _ _)) (k+1) (by rw[hl1];rfl) _ rfl hbk1 _ rfl ?_; intro g7 c7 w7 R7 G7 A7 L7
             have B7:Hid (Below wc.heap.size wc w7):=Below.trans (Below.trans B6.out ((Below.refl _ _).alloc B6.out.size _)) (j9 G7 (fun b hb=>by cases hb; exact O6.out) (by have:=B6.out.size; simp; omega))
             have O7:Hid (wc.heap.size≤g7):=by
              rcases A7 with h | h
              ·cases h; exact O6.out
              ·show wc.heap.size≤g7
               rw[h];have:=B6.out.size; simp; omega
             have R7':=jH R7
             clear G7 A7 L7 R7 R6' B6 O6)
          | (refine zj rfl (.tmp 177) (.tmp 179) rfl (.slice (some ⟨g6,0,none⟩) k c6) ((pf vs5 x).take k) rfl R6'.out qO _ [(s,i)] rfl (RSrc.one HX6.out) (k+1) (by rw[hl1];rfl) _ rfl hbk1 _ rfl ?_; intro g7 c7 w7 R7 G7 A7 L7
             have B7:Hid (Below wc.heap.size wc w7):=Below.trans (B6.out) (j9 G7 (fun b hb=>by cases hb; exact O6.out) (B6.out.size))
             have O7:Hid (wc.heap.size≤g7):=by
              rcases A7 with h | h
              ·cases h; exact O6.out
              ·show wc.heap.size≤g7
               rw[h];exact B6.out.size
             have R7':=jH R7
             clear G7 A7 L7 R7 R6' B6 O6))
         all_goals
          go_wp2_with (at_builtin; go_loud (refine app_R rfl _ _ rfl (.slice (some ⟨g7,0,none⟩) (k+1) c7) ((pf vs5 x).take k++[(s,i)]) rfl R7'.out qO _ ((pf vs5 x).drop k) rfl (T2.out.below B7.out) (n+1) ((add_len hl3 hl2).trans hl4) _ HI.out hbn1 _ rfl ?_);intro g8 c8 w8 R8 G8 A8 L8)
          go_ret
          exact HQ.out _ _ ⟨_,fv5,fl5,vs5,rfl,HB5.out.post (Below.trans B7.out (j9 G8 (fun b hb=>by cases hb; exact O7.out) B7.out.size)),HXi,R8⟩
     | true =>
       obtain⟨⟨su,du⟩,hu,hde⟩:=HIf.out.1 rfl
       dsimp only at hde
       subst hde
       have hkn2:k<n:=by have:=(jL hu).1; have:=HN.out; omega
       have hkz:(k:Int)<(n:Int):=by omega
       obtain⟨ga,ca,di,hv,cu0,cu1,hd⟩:=HP5.out.term hu
       rw[← HN.out] at hv
       cases hv
       dsimp only at cu0 cu1 hd
       have hri:(pf vs5 x)[k]? = some (su,vs5.idxOf (du:Int)):=by unfold pf; rw[List.getElem?_map,hu];rfl
       have hpl:(pf vs5 x).length=n:=by rw[show (pf vs5 x).length=(form x).length by simp[pf],← HN.out]
       obtain⟨_,_,hv3,hs3⟩:=HR5.out.get
       rw[hpl] at hv3
       obtain⟨g3',hg3,co0,co1⟩:=hs3 k _ hri
       cases hv3
       cases hg3
       dsimp only at co0
       have hfr:wc.frozen? ⟨g3,k*2,none⟩=false:=rfree HR5.out _
       have Hu:=jH hu
       have HXf:=jH (exs_flip hu HP5.out.exs)
       have HR6:Hid (∀ M,RRow ((wc.drewN M).setCell ⟨g3,k*2,none⟩ (.bool (!su))) (.slice (some ⟨g3,0,none⟩) n c3) (pf vs5 (x - 2*tv (su,du)))):=fun M=>by
        have h:=setSg (W:=wc.drewN M) (!su) hri (by have:RRow (wc.drewN M) _ _:=jK HR5.out (jN _ _);unfold RRow at this; rwa [hpl] at this)
        rw[pf_flip hu] at h
        have hpl2:(pf vs5 (x - 2*tv (su,du))).length=n:=by rw[← pf_flip hu,List.length_set,hpl]
        show World.ownsRow _ _ _ _ _ _ _
        rw[hpl2];exact h
       have HP6:=jH (fun M=>(HP5.out.drewN M).store (k*2) (.bool (!su)) HN5.out Hbt.out Hva.out)
       have HB6:=jH (fun M=>(HB5.out.post (jN wc M)).store (k*2) (.bool (!su)) HN5.out HO0.out)
       clear hri hs3 co1 hd hu HIf hpl
       by_cases hs:su=s
       ·subst hs
        have HRe:=jH (Hls.out du rfl (jM Hu.out))
        have HZ:Hid (x - 2*tv (su,du)+tv (su,du+1+1)=x+tv (su,du+1)):=by show _=_; rw[j6 su (du+1),j6];omega
        go_wp2_with fail
        go_quiet (fail)
        go_wp2_with fail
        obtain⟨w6,hw6⟩:∃ w,(wc.drewN nq).setCell ⟨g3,k*2,none⟩ (.bool (!su))=w:=⟨_,rfl⟩
        have HP7:=HP6.out nq
        have HB7:=HB6.out nq
        have HR7:=HR6.out nq
        rw[hw6] at HP7 HB7 HR7 ⊢
        have b0:=HP7.b0
        have b1:=HP7.b1
        have HP8:=jH HP7
        have HB8:=jH HB7
        have HR8:=jH HR7
        have hcN:=fun M=>HNx.out (.inr ⟨du,rfl,jM Hu.out⟩) (w6.drewN M) p fv5 fl5 vs5 i (HP8.out.drewN M).rw HP8.out.plc
        clear HP7 HB7 HR7 HP6 HB6 HR6 hw6 co0 hfr
        go_region_held3 (fun w'=>w'.cell? ⟨bt,0,none⟩=some (.bool su)∧w'.cell? ⟨bt,1,none⟩=some (.int .i64 (i:Nat))) (first | go_keep | exact⟨hk0',hk1'⟩)
         (first
           | (go_at_call 114; refine (hcN _).mono ?_; rintro y w9 ⟨d9,fv9,fl9,vs9,rfl,hp9,hd9⟩
              have HP9:=jH ((HP8.out.drewN _).put hp9.out)
              have HB9:=jH (HB8.out.trans (hp9.out.pre (jN w6 _)))
              have hk0':=HP9.out.b0
              have hk1':=HP9.out.b1
              have hr9:=RRow.fr (W:=w6.drewN _) HR8.out (HP8.out.drewN _).rw hp9.out.fr
              rw[← pf_put hp9.out HP8.out.rw.wv HXf.out] at hr9
              have hcP:=HRe.out w9 p fv9 fl9 vs9 (.slice (some ⟨g3,0,none⟩) n c3) d9 HP9.out.rw (fun j hj=>qN hp9.out.ext (HXf.out j hj)) hr9 hd9.out
              clear hr9)
           | (go_at_call 113; refine hcP.mono ?_; rintro y w10 ⟨v10,fv10,fl10,vs10,rfl,hp10,hx10,hr10⟩
              have hk0':=(HP9.out.put hp10.out).b0
              have hk1':=(HP9.out.put hp10.out).b1))
        go_wp2_with fail
        go_ret
        rw[HZ.out] at hx10 hr10
        exact HQ.out _ _ ⟨v10,fv10,fl10,vs10,rfl,HB9.out.trans hp10.out,hx10,hr10⟩
       ·have hso:=bool_ne hs
        subst hso
        have hsn:(su==!su)=false:=by cases su <;>rfl
        have HZ:Hid (x - 2*tv (su,du)=x+tv (!su,du+1)):=by show _=_; rw[j6,qX];omega
        go_wp2_with fail
        go_quiet (fail)
        go_wp2_with fail
        go_ret
        refine HQ.out _ _ ⟨_,fv5,fl5,vs5,rfl,?_,?_,?_⟩
        ·exact HB6.out _
        ·rw[← HZ.out];exact HXf
        ·rw[← HZ.out];exact HR6.out _
end
end Sr
namespace Sr
section
theorem xE:∀ x s e,∀ j∈exps (x+tv (s,e)),j∈exps x∨(e≤j∧j≤e+3*ups x e+below1 x e+1):=by
 refine plus_ind ?_ ?_ ?_ ?_ ?_ ?_ ?_
 ·intro x s e h j hj
  rcases plus_exps x s e j hj with h1 | h1
  ·exact .inl h1
  ·have:=(qK h j).1 (by rw[qX];rwa [show x - -tv (s,e)=x+tv (s,e) by omega])
   exact .inl this.1
 ·intro x s e h ih j hj
  have k1:=yY (e:=e) (e':=e+1) h (by omega) (by omega)
  have k2:=qF (x - tv (s,e)) (e+1)
  rcases ih j (by rw[j6];rwa [show x - tv (s,e)+2*tv (s,e)=x+tv (s,e) by omega]) with h1 | h1
  ·exact .inl ((qK h j).1 h1).1
  ·exact .inr (by omega)
 ·intro x s e _ h ih j hj
  have k1:=yY (e:=e) (e':=e) h (by omega) (by omega)
  have k2:=qF (x - tv (!s,e+1)) e
  rcases ih j (by rw[j6,qX];rwa [show x - 2*-tv (s,e)+-tv (s,e)=x+tv (s,e) by omega]) with h1 | h1
  ·exact .inl ((qK h j).1 h1).1
  ·exact .inr (by omega)
 ·intro x s e _ h ih1 ih2 j hj
  have k1:=ups_carry h
  have k2:=qF (x - tv (s,e+1) - tv (s,e)) (e+2)
  rcases ih2 j (by rw[show e+2=e+1+1 from rfl,j6 s (e+1),j6];rwa [show x - 2*tv (s,e) - tv (s,e)+2*(2*tv (s,e))=x+tv (s,e) by omega]) with h1 | h1
  ·rcases carry_exps h h1 with h2 | h2 | h2
   ·exact .inl h2
   ·exact .inr (by omega)
   ·exact .inr (by omega)
  ·exact .inr (by omega)
 ·intro x s e _ _ h j hj
  have:=zL h
  rw[qX,show x - 2*-tv (s,e)=x+tv (s,e+1) by rw[j6];omega] at this
  exact .inl (this▸hj)
 ·intro x s e h0 _ h ih j hj
  have hex:=zL h
  have k1:=ups_mono (e:=e+1) (e':=e+2) hex (by omega)
  have e0:below1 (x - 2*tv (s,e)) (e+2)=0:=by unfold below1; rw[hex,if_neg];rintro⟨_,h⟩;exact h0 (by simpa using h)
  have e1:below1 x (e+1)=1:=by unfold below1; rw[if_pos];exact⟨by omega,by simpa using mem_exps h⟩
  rcases ih j (by rw[show e+2=e+1+1 from rfl,j6 s (e+1),j6];rw[j6] at hj; rwa [show x - 2*tv (s,e)+2*(2*tv (s,e))=x+2*tv (s,e) by omega]) with h1 | h1
  ·exact .inl (hex▸h1)
  ·exact .inr (by omega)
 ·intro x s e h0 h1 h2 j hj
  obtain⟨hi,lo,hab,k1,k2⟩:=form_cut x e
  have k1':∀ u∈hi,e+1<u.2:=fun u hu=>by
   have:=k1 u hu
   have:u.2≠e+1:=fun h=>h1 (h▸mem_exps (hab▸List.mem_append.2 (.inl hu)))
   omega
  have k2':∀ u∈lo,u.2+1<e:=fun u hu=>by
   have:=k2 u hu
   have h3:u.2∈exps x:=mem_exps (hab▸List.mem_append.2 (.inr hu))
   have:u.2≠e:=fun h=>h0 (h▸h3)
   have:u.2+1≠e:=fun h=>h2 _ h h3
   omega
  rw[q8 (form_ins hab k1' k2')] at hj
  rw[q8 hab]
  simp only[List.map_append,List.map_cons,List.mem_append,List.mem_cons] at hj ⊢
  rcases hj with h | h | h
  ·exact .inl (.inl h)
  ·exact .inr (by omega)
  ·exact .inl (.inr h)
theorem lv_exps (n m:Nat): ∀ (l:List Tm) (x:Int),(form x).length+l.length≤n→(∀ t∈l,t.2≤m)→∀ j∈exps (x+lv l),j∈exps x∨j≤m+3*n+2:=by
 intro l
 induction l with
 | nil=>intro x _ _ j hj; simp only[lv,Int.add_zero] at hj; exact .inl hj
 | cons t l ih =>
   intro x hn hm j hj
   obtain⟨s,e⟩:=t
   have h1:=plus_len x s e
   simp only[List.length_cons] at hn
   rw[lv,show x+(tv (s,e)+lv l)=x+tv (s,e)+lv l by omega] at hj
   rcases ih (x+tv (s,e)) (by omega) (fun t ht=>hm t (by simp[ht])) j hj with h | h
   ·rcases xE x s e j h with h | h
    ·exact .inl h
    ·have:=hm (s,e) (by simp)
     have:=ups_len x e
     have:=qF x e
     right; dsimp only at *;omega
   ·exact .inr h
variable {j e n a b:Nat} {x:Int} {s:Bool}
theorem small_ln (h:j≤8000): (form (j:Int)).length≤14:=by
 have:=yW (jb (j:Int)) (m:=13) (yi (by omega) (by omega))
 omega
theorem near_len {k:Nat}(hk:k≤8000): (form ((e+k:Nat):Int)).length≤(form (e:Int)).length+14:=by
 have:=sum_len (e:Int) (k:Int)
 have:=small_ln hk
 rw[show ((e+k:Nat):Int)=(e:Int)+k by push_cast; rfl];omega
theorem near_exps {k:Nat}(hk:k≤8000)(he:(form (e:Int)).length≤2600): ∀ f∈exps ((e+k:Nat):Int),f∈exps (e:Int)∨(form (f:Int)).length≤14:=by
 intro f hf
 have h1:=yi (x:=(k:Int)) (m:=13) (by omega) (by omega)
 have h2:=small_ln hk
 rw[show ((e+k:Nat):Int)=(e:Int)+k by push_cast; rfl] at hf
 conv at hf=>rw[← jc (k:Int)]
 rcases lv_exps 2614 13 (form (k:Int)) (e:Int) (by omega) h1 f hf with h | h
 ·exact .inl h
 ·exact .inr (small_ln (by omega))
structure Sz (n a b:Nat)(x:Int): Prop where
 len:(form x).length≤n
 ex:∀ e∈exps x,(form (e:Int)).length≤a
 ex2:∀ e∈exps x,∀ f∈exps (e:Int),(form (f:Int)).length≤b
theorem Sz.mono {n' a' b':Nat}(h:Sz n a b x)(h1:n≤n')(h2:a≤a')(h3:b≤b'): Sz n' a' b' x :=
 ⟨Nat.le_trans h.len h1,fun e he=>Nat.le_trans (h.ex e he) h2,fun e he f hf=>Nat.le_trans (h.ex2 e he f hf) h3⟩
theorem Sz.neg (h:Sz n a b x): Sz n a b (-x):=by
 refine⟨by rw[yh,List.length_map];exact h.len,?_,?_⟩ <;>rw[exps_neg]
 ·exact h.ex
 ·exact h.ex2
theorem Sz.zero (n a b:Nat): Sz n a b 0:=⟨by rw[j5];simp,by simp[exps,j5],by simp[exps,j5]⟩
theorem Sz.of_allowed (h:allowed x): Sz 300 300 300 x :=
 ⟨h.1,fun e he=>h.2.1 e (mem_parts.2 (.here he)),fun _ he f hf=>h.2.1 f (mem_parts.2 (.step (.here he) hf))⟩
theorem Sz.plus (h:Sz n (a+14) b x)(hn:n≤2600)(he:(form (e:Int)).length≤a)(ha:a≤2600)(he2:∀ f∈exps (e:Int),(form (f:Int)).length≤b)(hb:14≤b): Sz (n+1) (a+14) b (x+tv (s,e)):=by
 have hl:=h.len
 have h1:=ups_len x e
 have h2:=qF x e
 refine⟨by have:=plus_len x s e; omega,fun j hj=>?_,fun j hj f hf=>?_⟩
 ·rcases xE x s e j hj with h3 | h3
  ·exact h.ex j h3
  ·obtain⟨k,rfl⟩:∃ k,j=e+k:=⟨j - e,by omega⟩
   have:=near_len (e:=e) (k:=k) (by omega);omega
 ·rcases xE x s e j hj with h3 | h3
  ·exact h.ex2 j h3 f hf
  ·obtain⟨k,rfl⟩:∃ k,j=e+k:=⟨j - e,by omega⟩
   rcases near_exps (e:=e) (k:=k) (by omega) (by omega) f hf with h4 | h4
   ·exact he2 f h4
   ·omega
def asks (x:Int)(e:Nat): List Int:=(exps x).map (fun (u:Nat)=>(u:Int)+1)++(List.range (3*(form x).length+3)).map (fun (k:Nat)=>(e:Int)+k+1)
theorem asks_len (x:Int)(e:Nat): (asks x e).length=4*(form x).length+3:=by unfold asks; rw[List.length_append,List.length_map,List.length_map,List.length_range,js];omega
theorem Ask.mem (h:Ask x s e j): ((j+1:Nat):Int)∈asks x e:=by
 have h1:=ups_len x e
 have h2:=qF x e
 unfold asks
 rcases h.bound with ⟨_,h3⟩ | ⟨h3,h4⟩
 ·exact List.mem_append.2 (.inl (List.mem_map.2 ⟨j,h3,by push_cast; rfl⟩))
 ·exact List.mem_append.2 (.inr (List.mem_map.2 ⟨j - e,List.mem_range.2 (by omega),by omega⟩))
theorem Ask.lens (h:Ask x s e j)(hx:Sz n (a+14) b x)(hn:n≤2600)(he:(form (e:Int)).length≤a): (form (j:Int)).length≤a+14:=by
 have h1:=ups_len x e
 have h2:=qF x e
 have h3:=hx.len
 rcases h.bound with ⟨_,h3⟩ | ⟨h3,h4⟩
 ·exact hx.ex j h3
 ·obtain⟨k,rfl⟩:∃ k,j=e+k:=⟨j - e,by omega⟩
  have:=near_len (e:=e) (k:=k) (by omega);omega
def sumAsk:Int→List Tm→List Int
 | x,[]=>[x]
 | x,t::l=>asks x t.2++sumAsk (x+tv t) l
theorem sumAsk_len (n:Nat): ∀ (l:List Tm) (x:Int),(form x).length+l.length≤n→(sumAsk x l).length≤l.length*(4*n+3)+1
 | [],x,_=>by simp[sumAsk]
 | t::l,x,h=>by
   obtain⟨s,e⟩:=t
   have h1:=plus_len x s e
   simp only[List.length_cons] at h
   have:=sumAsk_len n l (x+tv (s,e)) (by omega)
   rw[sumAsk,List.length_append,asks_len,List.length_cons,Nat.add_mul]
   omega
theorem sumAsk_end:∀ (l:List Tm) (x:Int),x+lv l∈sumAsk x l
 | [],x=>by simp[sumAsk,lv]
 | t::l,x=>by
   rw[sumAsk,lv,show x+(tv t+lv l)=x+tv t+lv l by omega]
   exact List.mem_append.2 (.inr (sumAsk_end l _))
theorem sumAsk_drop:∀ (k:Nat) (l:List Tm) (x:Int),∀ z∈sumAsk (x+lv (l.take k)) (l.drop k),z∈sumAsk x l
 | 0,l,x,z,h=>by simpa [lv] using h
 | k+1,[],x,z,h=>by simpa [lv] using h
 | k+1,t::l,x,z,h=>by
   rw[List.take_succ_cons,List.drop_succ_cons,lv,show x+(tv t+lv (l.take k))=x+tv t+lv (l.take k) by omega] at h
   rw[sumAsk]
   exact List.mem_append.2 (.inr (sumAsk_drop k l _ z h))
theorem Sz.sums {a b:Nat}(ha:a≤2600)(hb:14≤b): ∀ (l:List Tm) (n:Nat) (x:Int),Sz n (a+14) b x→n+l.length≤2600→(∀ t∈l,(form (t.2:Int)).length≤a∧∀ f∈exps (t.2:Int),(form (f:Int)).length≤b)→Sz (n+l.length) (a+14) b (x+lv l)
 | [],n,x,h,_,_=>by simpa [lv] using h
 | t::l,n,x,h,hn,ht=>by
   obtain⟨s,e⟩:=t
   simp only[List.length_cons] at hn
   have h1:=h.plus (s:=s) (by omega) (ht (s,e) (by simp)).1 ha (ht (s,e) (by simp)).2 hb
   have:=Sz.sums ha hb l (n+1) (x+tv (s,e)) h1 (by omega) (fun t ht'=>ht t (by simp[ht']))
   rw[lv,show x+(tv (s,e)+lv l)=x+tv (s,e)+lv l by omega,List.length_cons,show n+(l.length+1)=n+1+l.length by omega]
   exact this
end
end Sr
namespace Sr
open Go Go.Proofs Go.RowKit Go.Maps Go.WideMaps
section
variable {C:List Int}
theorem rplus_ask:∀ x s e,(∀ j,Ask x s e j→RNext C j)→RPlus C x s e:=by
 refine plus_ind ?_ ?_ ?_ ?_ ?_ ?_ ?_
 ·intro x s e h hn
  exact plus_eq (Sr.mem_exps h) (fun h'=>by have:=mem_sign h h'; cases s <;>cases this) (fun h'=>by have:=mem_sign h h'; cases s <;>cases this)
 ·intro x s e h ih hn
  exact plus_eq (Sr.mem_exps h) (fun _=>hn e (.eq h)) (fun _=>ih fun j hj=>hn j (.eqr h hj))
 ·intro x s e h0 h ih hn
  have hm:=Sr.mem_exps h
  exact plus_h h0 h (hn e (.hi hm (by simp))) (hn (e+1) (.h h0 hm)) (fun _=>ih fun j hj=>hn j (.ho h0 h hj)) (fun h'=>by cases s <;>cases h') (fun h'=>by cases s <;>cases h')
 ·intro x s e h0 h ih1 ih2 hn
  have hm:=Sr.mem_exps h
  exact plus_h h0 h (hn e (.hi hm (by simp))) (hn (e+1) (.h h0 hm)) (fun h'=>by cases s <;>cases h') (fun _=>ih1 fun j hj=>hn j (.hs1 h0 h hj)) (fun _=>ih2 fun j hj=>hn j (.hs2 h0 h hj))
 ·intro x s e h0 h1 h hn
  refine plus_lo h0 h1 ?_ (fun d hd hlt=>hn d (.lo h0 hd hlt)) (fun d hd h'=>?_)
  ·rintro (⟨u,hu,h2⟩ | ⟨d,hd,h2⟩)
   ·exact hn (e+1) (.hi hu h2)
   ·obtain rfl:d=e:=by omega
    have:=mem_sign h h2; cases s <;>cases this
  ·obtain rfl:d=e:=by omega
   have:=mem_sign h h'; cases s <;>cases this
 ·intro x s e h0 h1 h ih hn
  refine plus_lo h0 h1 (fun _=>hn (e+1) (.ls h0 h1 h)) (fun d hd hlt=>hn d (.lo h0 hd hlt)) (fun d hd h'=>?_)
  obtain rfl:d=e:=by omega
  exact ih fun j hj=>hn j (.lsr h0 h1 h hj)
 ·intro x s e h0 h1 h2 hn
  refine plus_lo h0 h1 ?_ (fun d hd hlt=>hn d (.lo h0 hd hlt)) (fun d hd h'=>absurd (Sr.mem_exps h') (h2 d hd))
  rintro (⟨u,hu,h3⟩ | ⟨d,hd,h3⟩)
  ·exact hn e (.hi hu h3)
  ·exact absurd (Sr.mem_exps h3) (h2 d hd)
theorem rnext_step {j:Nat}(hc:((j+1:Nat):Int)∈C∨Sml ((j+1:Nat):Int))(hp:RPlus C (j:Int) false 0): RNext C j:=by
 intro W p fv fl vs i H hi
 have c0:=H.c0
 have HH:=jH H
 have hz:=H.wv.zero
 obtain⟨g,cap,rfl,hrow⟩:=H.formAt
 obtain⟨v,_,cv,hr⟩:=hrow i _ hi
 have hlt:i<vs.length:=(jL hi).1
 have i0:(0:Int)≤(i:Int):=by omega
 have iz:(i:Int)<(vs.length:Int):=by omega
 have hP:=hp W p (.slice (some ⟨g,0,none⟩) vs.length cap) fl vs v 0 H (fun e he=>H.wv.mem_exps (jM hi) he) hr hz
 have hj:((j:Int)+tv (false,0))=((j+1:Nat):Int):=by show (j:Int)+1=_; push_cast; rfl
 rw[hj] at hP
 have HA:=jH (fun (W1:World) (fv1:Value) (fl1:List Value) (vs1:List Int) (h:RW C W1 p fv1 fl1 vs1) (v1:Value) (hx:∀ e∈exps ((j+1:Nat):Int),(e:Int)∈vs1) (hr:RRow W1 v1 (pf vs1 ((j+1:Nat):Int)))=>yk h hx hr hc)
 clear H hrow hr hi hlt hz hj hp
 go_enter Tryz.func114,Tryz.ntmps114
 go_wp2_with fail
 refine hP.mono ?_
 rintro y w1 ⟨v1,fv1,fl1,vs1,rfl,hp1,hx1,hr1⟩
 have hA:=HA.out w1 fv1 fl1 vs1 hp1.out.rw v1 hx1.out hr1.out
 clear hP
 go_wp2_with fail
 refine hA.mono ?_
 rintro y w2 ⟨fv2,fl2,rfl,hp2⟩
 go_wp2_with fail
 go_ret
 exact⟨_,fv2,fl2,_,rfl,hp1.out.trans hp2.out,jU (qt _ _)⟩
theorem rnext:∀ j:Nat,(((j+1:Nat):Int)∈C∨Sml ((j+1:Nat):Int))→(form (j:Int)).length≤1300→RNext C j:=by
 intro j
 induction j using Nat.strongRecOn with
 | ind j ih =>
   intro hc hl
   refine rnext_step hc (rplus_ask _ _ _ fun a ha=>?_)
   obtain⟨u,hu,hau⟩:=ha.top (fun d hd=>by omega)
   have h1:=qz hu
   have hb:=ha.bound
   have h2:=ups_len (j:Int) 0
   have h3:=qF (j:Int) 0
   have h4:a≤3*1300+2:=by rcases hb with ⟨h,_⟩ | ⟨_,h⟩ <;>omega
   refine ih a (by omega) (.inr ⟨by omega,by omega⟩) ?_
   have:=small_ln (j:=a) (by omega);omega
theorem rplus {x:Int}{s:Bool}{e:Nat}(hc:∀ j,Ask x s e j→(((j+1:Nat):Int)∈C∨Sml ((j+1:Nat):Int))∧(form (j:Int)).length≤1300): RPlus C x s e :=
 rplus_ask x s e fun j hj=>rnext j (hc j hj).1 (hc j hj).2
end
end Sr

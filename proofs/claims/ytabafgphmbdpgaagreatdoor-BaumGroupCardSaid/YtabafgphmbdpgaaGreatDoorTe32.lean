/- Texts of this claim, joined: RPlH. -/
import Derived.Test.YtabafgphmbdpgaaGreatDoorTe1
import Derived.Test.YtabafgphmbdpgaaGreatDoorTe31
set_option maxHeartbeats 8000000
set_option maxRecDepth 100000
namespace Sr
open Go Go.Proofs Go.RowKit Go.Maps Go.WideMaps
theorem box_put {C:List Int}{w w':World}{p:Nat}{fv fv':Value}{fl fl':List Value}{vs vs':List Int}{b:Nat}{c:Array Value}(h:w.heap[b]? = some (.cells c 139 (0,0)))(hw:RW C w p fv fl vs)(k:RPut C w w' p fv fv' fl fl' vs vs'): w'.heap[b]? = some (.cells c 139 (0,0)) :=
 fr_type hw k.fr h (by decide) (by decide)
theorem cut_h {x:Int}{k e:Nat}{s:Bool}(h:(s,e+1)∈form x)(hc:(∀ u∈(form x).take k,e<u.2)∧∀ u∈(form x).drop k,u.2≤e)(hk:k≤(form x).length): ∃ j,k=j+1∧(form x)[j]? = some (s,e+1):=by
 obtain⟨hi,lo,hab,h1,h2⟩:=zi h
 have e1:hi.length<k:=by
  rcases Nat.lt_or_ge hi.length k with h3 | h3
  ·exact h3
  ·exfalso
   have:(s,e+1)∈(form x).drop k:=by
    rw[hab,List.drop_append_of_le_length h3];exact List.mem_append.2 (.inr (by simp))
   have:=hc.2 _ this
   simp at this; omega
 have e2:k≤hi.length+1:=by
  rcases Nat.lt_or_ge (hi.length+1) k with h3 | h3
  ·exfalso
   have hl:(form x).length=hi.length+(lo.length+1):=by rw[hab];simp
   obtain⟨u,hu⟩:∃ u,(form x)[hi.length+1]? = some u:=⟨_,jG (by omega)⟩
   have hm:u∈(form x).take k:=jM (by rw[List.getElem?_take,if_pos (by omega:hi.length+1<k)];exact hu)
   have h4:=hc.1 u hm
   rw[hab,List.getElem?_append_right (by omega),show hi.length+1 - hi.length=0+1 by omega,List.getElem?_cons_succ] at hu
   have:=h2 u (jM hu)
   simp at this; omega
  ·exact h3
 refine⟨hi.length,by omega,?_⟩
 rw[hab,List.getElem?_append_right (jR _),Nat.sub_self];rfl
theorem plus_h {C:List Int}{x:Int}{s sh:Bool}{e:Nat}(he:e∉exps x)(hm:(sh,e+1)∈form x)(hn:RNext C e)(hn1:RNext C (e+1)) 
 (ho:sh=!s→RPlus C (x - tv (sh,e+1)) sh e) (hs1:sh=s→RPlus C (x - tv (sh,e+1)) (!s) e) (hs2:sh=s→RPlus C (x - tv (sh,e+1) - tv (s,e)) s (e+2)):RPlus C x s e:=by
 intro W p fv fl vs v i H hx hr hi
 obtain⟨W0,bt,hW0,hbt,HP,HB⟩:=pst_start (s:=s) H hx hr hi
 obtain⟨va,vc,rfl⟩:=HP.out.shape
 have hlen:=HP.out.len
 have b0:=HP.out.b0
 have b1:=HP.out.b1
 obtain⟨n,hnl⟩:∃ n,n=(form x).length:=⟨_,rfl⟩
 rw[← hnl] at HP hlen
 rw[← hnl]
 have HN:=jH hnl
 have HQ:Hid (∀ y w',RPlusQ C W0 p fv fl vs (x+tv (s,e)) y w'→RPlusQ C W p fv fl vs (x+tv (s,e)) y w'):=fun y w' h=>h.pre HB.out
 have HNx:=jH hn
 have HNh:=jH hn1
 have Ho:=jH ho
 have Hs1:=jH hs1
 have Hs2:=jH hs2
 clear hnl H hx hr hi hn hn1 ho hs1 hs2
 go_enter Tryz.func113,Tryz.ntmps113
 go_wp2_with fail
 go_loopg [7] n (fun g1 vi wr=>∃ (k m:Nat),vi=.int .i64 k∧k≤n∧n - k≤g1∧wr=W0.drewN m∧Hid (∀ i<k,∀ u,(form x)[i]? = some u→e<u.2))
 case atStart=>exact⟨0,0,rfl,by omega,by omega,rfl,fun i hi=>by omega⟩
 case round =>
  obtain⟨k,m,rfl,hkn,hg,rfl,HK⟩:=hrel
  have hk0:(0:Int)≤(k:Int):=Int.natCast_nonneg k
  have hkw:IntKind.i64.wrap ((k:Int)+1)=(k:Int)+1:=IntWalk.i64_in _ (by omega)
  by_cases hk:k<n
  ·have hkz:(k:Int)<(n:Int):=by omega
   obtain⟨⟨su,eu⟩,hu⟩:∃ u,(form x)[k]? = some u:=⟨_,jG (by rw[← HN.out];exact hk)⟩
   obtain⟨ga,ca,d,hv,cu0,cu1,hd⟩:=HP.out.term hu
   rw[← HN.out] at hv
   cases hv
   have Hu:=jH hu
   have Hd:=jH hd
   have hC:∀ n,Calls Tryz.prog 84 #[.pointer (some ⟨p,0,none⟩),.int .i64 (d:Nat),.int .i64 (i:Nat)] (W0.drewN n) fun e' W'=>e'=.returned (.int .i64 (isg ((eu:Int) - e)))∧∃ m,W'=(W0.drewN n).drewN m:=fun n=>yO (HP.out.drewN n).rw hd HP.out.plc
   clear hd hu
   dsimp only at cu0 cu1
   by_cases hgt:e<eu
   ·have HK2:Hid (∀ i<k+1,∀ u,(form x)[i]? = some u→e<u.2):=fun i hi u hu=>if h:i=k then by
     subst h; rw[Hu.out] at hu; cases hu; exact hgt else HK.out i (by omega) u hu
    rw[isg_one hgt] at hC
    clear HK
    go_wp2_with fail
    go_quiet (first | (go_at_call 84; exact yN (hC _)))
    go_wp2_with fail
    go_roundg (n - (k+1))
    case measure=>omega
    case rel=>exact⟨k+1,m+nq,by go_num,by omega,by omega,rfl,HK2⟩
   ·have HCut:=jH (cut_at HK.out (fun u hu=>by rw[Hu.out] at hu; cases hu; show eu≤e; omega))
    have hc0:=isg_no hgt
    generalize isg ((eu:Int) - e)=c at hC hc0
    have hc1:¬ (0<c):=by simpa using hc0
    clear HK hg
    have hne:¬ ((d:Int)=(i:Int)):=fun h=>he (by
     have h1:eu=e:=by
      have:=(HP.out.rw.wv.same Hd.out HP.out.plc).1 (by omega);omega
     exact h1▸Sr.mem_exps (jM Hu.out))
    have hne1:decide ((d:Int)=(i:Int))=false:=by simpa using hne
    have hne2:((d:Int)==(i:Int))=false:=by simpa using hne
    obtain⟨j,hj,hh⟩:=cut_h hm HCut.out (by rw[← HN.out];omega)
    have Hj:=jH hj
    obtain⟨ga',ca',dh,hv',ch0,ch1,hdh⟩:=HP.out.term hh
    rw[← HN.out] at hv'
    cases hv'
    dsimp only at ch0 ch1 hdh
    have Hh:=jH hh
    have Hdh:=jH hdh
    have j0:(0:Int)≤(j:Int):=Int.natCast_nonneg j
    have jn:(j:Int)<(n:Int):=by omega
    have jw:IntKind.i64.wrap ((k:Int) - 1)=(j:Int):=by rw[IntKind.wrap_i64];omega
    have jp:(0:Int)<(k:Int):=by omega
    have jp2:0<k:=by omega
    clear hj
    have hcN:=fun M=>HNx.out (W0.drewN M) p fv fl vs i (HP.out.drewN M).rw HP.out.plc
    clear hh hdh
    go_wp2_with fail
    go_quiet (first | (go_at_call 84; exact yN (hC _)))
    go_wp2_with fail
    go_quiet (fail)
    go_wp2_with fail
    go_region_held3 (fun w'=>(w'.cell? ⟨bt,0,none⟩=some (.bool s)∧w'.cell? ⟨bt,1,none⟩=some (.int .i64 (i:Nat)))∧w'.cell? ⟨ga,j*2,none⟩=some (.bool sh)∧w'.cell? ⟨ga,j*2+1,none⟩=some (.int .i64 (dh:Nat))) (first | go_keep | exact⟨⟨hk0',hk1'⟩,hk2',hk3'⟩)
     (first
       | (go_at_call 114; refine (hcN _).mono ?_; rintro y w2 ⟨d2,fv2,fl2,vs2,rfl,hp2,hd2⟩
          have HP2:=jH ((HP.out.drewN _).put hp2.out)
          have HP02:=jH (hp2.out.pre (jN W0 _))
          have hk0':=HP2.out.b0
          have hk1':=HP2.out.b1
          obtain⟨g3,c3,d3,hv3,hk2',hk3',hd3⟩:=HP2.out.term Hh.out
          rw[← HN.out] at hv3
          cases hv3
          have e3:d3=dh:=(HP2.out.rw.wv.same hd3 (jW hp2.out.ext Hdh.out)).2 rfl
          subst e3
          have hdd:d2=d3:=(HP2.out.rw.wv.same hd2.out hd3).2 (by simp)
          subst hdd
          clear hd3))
    obtain⟨w3,bh,hw3,hbh,HP3,HB3,HX3⟩:∃ w3 bh,w2.alloc (.cells #[.bool sh,.int .i64 (d2:Nat)] 139)=w3∧w2.heap.size=bh∧Hid (PSt C w3 p fv2 fl2 vs2 x (.slice (some ⟨ga,0,none⟩) n vc) bt s i e)∧Hid (RPut C W0 w3 p fv fv2 fl fl2 vs vs2)∧Hid (w3.heap[bh]? = some (.cells #[.bool sh,.int .i64 (d2:Nat)] 139 (0,0))) :=
     ⟨_,_,rfl,rfl,HP2.out.below ((Below.refl _ _).alloc (jR _) _),HP02.out.post ((Below.refl _ _).alloc (jR _) _),jD _ _⟩
    have hpl:(pf vs2 x).length=n:=by rw[show (pf vs2 x).length=(form x).length by simp[pf],← HN.out]
    have HWo:=y9 HP3.out.row (k:=j) (by rw[hpl];omega) (by rw[hpl];exact hlen)
    rw[pf_del Hh.out] at HWo
    clear hk0' hk1' hk2' hk3' hcN hpl
    go_wp2_with fail
    refine HWo.mono ?_
    rintro y w4 ⟨v1,rfl,hr1,hb1,-⟩
    have HP4:=jH (HP3.out.below hb1.out)
    have HB4:=jH (HB3.out.post hb1.out)
    have HX4:Hid (w4.heap[bh]? = some (.cells #[.bool sh,.int .i64 (d2:Nat)] 139 (0,0))):=(hb1.out.block _ (jA HX3.out).1).trans HX3.out
    have hb0:=HP4.out.b0
    have hb1':=HP4.out.b1
    have hx0:w4.cell? ⟨bh,0,none⟩=some (.bool sh):=by rw[jB HX4.out];rfl
    have hx1:w4.cell? ⟨bh,1,none⟩=some (.int .i64 (d2:Nat)):=by rw[jB HX4.out];rfl
    have HEx:=jH (exs_del Hh.out HP4.out.exs)
    clear HWo hb1 HP3 HB3 HX3 hw3 hbh
    by_cases hs:sh=s
    ·subst hs
     have HZ:Hid (x - tv (sh,e+1)+tv (!sh,e)=x - tv (sh,e+1) - tv (sh,e)):=by show _=_; rw[qX];omega
     have HZ2:Hid (x - tv (sh,e+1) - tv (sh,e)+tv (sh,e+2)=x+tv (sh,e)):=by show _=_; rw[show e+2=e+1+1 from rfl,j6 sh (e+1),j6];omega
     have hcP:=Hs1.out rfl w4 p fv2 fl2 vs2 v1 i HP4.out.rw HEx.out hr1.out HP4.out.plc
     go_wp2_with fail
     refine hcP.mono ?_
     rintro y w5 ⟨v5,fv5,fl5,vs5,rfl,hp5,hx5,hr5⟩
     have HP5:=jH (HP4.out.put hp5.out)
     have HB5:=jH (HB4.out.trans hp5.out)
     have HX5:=jH (box_put HX4.out HP4.out.rw hp5.out)
     have hb0:=HP5.out.b0
     have hb1':=HP5.out.b1
     have hx0:w5.cell? ⟨bh,0,none⟩=some (.bool sh):=by rw[jB HX5.out];rfl
     have hx1:w5.cell? ⟨bh,1,none⟩=some (.int .i64 (d2:Nat)):=by rw[jB HX5.out];rfl
     have hcN:=fun M=>HNh.out (w5.drewN M) p fv5 fl5 vs5 d2 (HP5.out.drewN M).rw (jW hp5.out.ext hd2.out)
     rw[HZ.out] at hx5 hr5
     clear hcP
     go_wp2_with fail
     go_region_held3 (fun w'=>w'.cell? ⟨bt,0,none⟩=some (.bool sh)∧w'.cell? ⟨bh,1,none⟩=some (.int .i64 (d2:Nat))) (first | go_keep | exact⟨hk0',hk1'⟩)
      (first
        | (go_at_call 114; refine (hcN _).mono ?_; rintro y w6 ⟨d6,fv6,fl6,vs6,rfl,hp6,hd6⟩
           have HP6:=jH ((HP5.out.drewN _).put hp6.out)
           have HB6:=jH (HB5.out.trans (hp6.out.pre (jN w5 _)))
           have HX6:=jH (box_put (w:=w5.drewN _) HX5.out (HP5.out.drewN _).rw hp6.out)
           have hk0':=HP6.out.b0
           have hk1':w6.cell? ⟨bh,1,none⟩=some (.int .i64 (d2:Nat)):=by rw[jB HX6.out];rfl
           have hr6:=RRow.fr (W:=w5.drewN _) hr5.out (HP5.out.drewN _).rw hp6.out.fr
           rw[← pf_put hp6.out HP5.out.rw.wv hx5.out] at hr6
           have hcP:=Hs2.out (by simp) w6 p fv6 fl6 vs6 v5 d6 HP6.out.rw (fun j hj=>qN hp6.out.ext (hx5.out j hj)) hr6 hd6.out
           clear hr6)
        | (go_at_call 113; refine hcP.mono ?_; rintro y w7 ⟨v7,fv7,fl7,vs7,rfl,hp7,hx7,hr7⟩
           have hk0':=(HP6.out.put hp7.out).b0
           have hk1':w7.cell? ⟨bh,1,none⟩=some (.int .i64 (d2:Nat)):=by rw[jB (box_put HX6.out HP6.out.rw hp7.out)];rfl))
     go_wp2_with fail
     go_ret
     rw[HZ2.out] at hx7 hr7
     exact HQ.out _ _ ⟨v7,fv7,fl7,vs7,rfl,HB6.out.trans hp7.out,hx7,hr7⟩
    ·have hso:=bool_ne (Ne.symm hs)
     subst hso
     clear hs
     have HZ:Hid (x - tv (!s,e+1)+tv (!s,e)=x+tv (s,e)):=by show _=_; rw[j6,qX];omega
     have hcP:=Ho.out rfl w4 p fv2 fl2 vs2 v1 i HP4.out.rw HEx.out hr1.out HP4.out.plc
     have hsn:(!s != s)=true:=by cases s <;>rfl
     go_wp2_with fail
     refine hcP.mono ?_
     rintro y w5 ⟨v5,fv5,fl5,vs5,rfl,hp5,hx5,hr5⟩
     go_wp2_with fail
     go_ret
     rw[HZ.out] at hx5 hr5
     exact HQ.out _ _ ⟨v5,fv5,fl5,vs5,rfl,HB4.out.trans hp5.out,hx5,hr5⟩
  ·obtain rfl:n=k:=by omega
   have HCut:=jH (cut_at HK.out (fun u hu=>absurd (jL hu).1 (by rw[← HN.out];omega)))
   clear HK hg hk
   obtain⟨j,hj,hh⟩:=cut_h hm HCut.out (by rw[← HN.out];omega)
   have Hj:=jH hj
   obtain⟨ga',ca',dh,hv',ch0,ch1,hdh⟩:=HP.out.term hh
   rw[← HN.out] at hv'
   cases hv'
   dsimp only at ch0 ch1 hdh
   have Hh:=jH hh
   have Hdh:=jH hdh
   have j0:(0:Int)≤(j:Int):=Int.natCast_nonneg j
   have jn:(j:Int)<(n:Int):=by omega
   have jw:IntKind.i64.wrap ((n:Int) - 1)=(j:Int):=by rw[IntKind.wrap_i64];omega
   have jp:(0:Int)<(n:Int):=by omega
   have jp2:0<n:=by omega
   clear hj
   have hcN:=fun M=>HNx.out (W0.drewN M) p fv fl vs i (HP.out.drewN M).rw HP.out.plc
   clear hh hdh
   go_wp2_with fail
   go_quiet (fail)
   go_wp2_with fail
   go_quiet (fail)
   go_wp2_with fail
   go_region_held3 (fun w'=>(w'.cell? ⟨bt,0,none⟩=some (.bool s)∧w'.cell? ⟨bt,1,none⟩=some (.int .i64 (i:Nat)))∧w'.cell? ⟨ga',j*2,none⟩=some (.bool sh)∧w'.cell? ⟨ga',j*2+1,none⟩=some (.int .i64 (dh:Nat))) (first | go_keep | exact⟨⟨hk0',hk1'⟩,hk2',hk3'⟩)
    (first
      | (go_at_call 114; refine (hcN _).mono ?_; rintro y w2 ⟨d2,fv2,fl2,vs2,rfl,hp2,hd2⟩
         have HP2:=jH ((HP.out.drewN _).put hp2.out)
         have HP02:=jH (hp2.out.pre (jN W0 _))
         have hk0':=HP2.out.b0
         have hk1':=HP2.out.b1
         obtain⟨g3,c3,d3,hv3,hk2',hk3',hd3⟩:=HP2.out.term Hh.out
         rw[← HN.out] at hv3
         cases hv3
         have e3:d3=dh:=(HP2.out.rw.wv.same hd3 (jW hp2.out.ext Hdh.out)).2 rfl
         subst e3
         have hdd:d2=d3:=(HP2.out.rw.wv.same hd2.out hd3).2 (by simp)
         subst hdd
         clear hd3))
   obtain⟨w3,bh,hw3,hbh,HP3,HB3,HX3⟩:∃ w3 bh,w2.alloc (.cells #[.bool sh,.int .i64 (d2:Nat)] 139)=w3∧w2.heap.size=bh∧Hid (PSt C w3 p fv2 fl2 vs2 x (.slice (some ⟨ga',0,none⟩) n vc) bt s i e)∧Hid (RPut C W0 w3 p fv fv2 fl fl2 vs vs2)∧Hid (w3.heap[bh]? = some (.cells #[.bool sh,.int .i64 (d2:Nat)] 139 (0,0))) :=
    ⟨_,_,rfl,rfl,HP2.out.below ((Below.refl _ _).alloc (jR _) _),HP02.out.post ((Below.refl _ _).alloc (jR _) _),jD _ _⟩
   have hpl:(pf vs2 x).length=n:=by rw[show (pf vs2 x).length=(form x).length by simp[pf],← HN.out]
   have HWo:=y9 HP3.out.row (k:=j) (by rw[hpl];omega) (by rw[hpl];exact hlen)
   rw[pf_del Hh.out] at HWo
   clear hk0' hk1' hk2' hk3' hcN hpl
   go_wp2_with fail
   refine HWo.mono ?_
   rintro y w4 ⟨v1,rfl,hr1,hb1,-⟩
   have HP4:=jH (HP3.out.below hb1.out)
   have HB4:=jH (HB3.out.post hb1.out)
   have HX4:Hid (w4.heap[bh]? = some (.cells #[.bool sh,.int .i64 (d2:Nat)] 139 (0,0))):=(hb1.out.block _ (jA HX3.out).1).trans HX3.out
   have hb0:=HP4.out.b0
   have hb1':=HP4.out.b1
   have hx0:w4.cell? ⟨bh,0,none⟩=some (.bool sh):=by rw[jB HX4.out];rfl
   have hx1:w4.cell? ⟨bh,1,none⟩=some (.int .i64 (d2:Nat)):=by rw[jB HX4.out];rfl
   have HEx:=jH (exs_del Hh.out HP4.out.exs)
   clear HWo hb1 HP3 HB3 HX3 hw3 hbh
   by_cases hs:sh=s
   ·subst hs
    have HZ:Hid (x - tv (sh,e+1)+tv (!sh,e)=x - tv (sh,e+1) - tv (sh,e)):=by show _=_; rw[qX];omega
    have HZ2:Hid (x - tv (sh,e+1) - tv (sh,e)+tv (sh,e+2)=x+tv (sh,e)):=by show _=_; rw[show e+2=e+1+1 from rfl,j6 sh (e+1),j6];omega
    have hcP:=Hs1.out rfl w4 p fv2 fl2 vs2 v1 i HP4.out.rw HEx.out hr1.out HP4.out.plc
    go_wp2_with fail
    refine hcP.mono ?_
    rintro y w5 ⟨v5,fv5,fl5,vs5,rfl,hp5,hx5,hr5⟩
    have HP5:=jH (HP4.out.put hp5.out)
    have HB5:=jH (HB4.out.trans hp5.out)
    have HX5:=jH (box_put HX4.out HP4.out.rw hp5.out)
    have hb0:=HP5.out.b0
    have hb1':=HP5.out.b1
    have hx0:w5.cell? ⟨bh,0,none⟩=some (.bool sh):=by rw[jB HX5.out];rfl
    have hx1:w5.cell? ⟨bh,1,none⟩=some (.int .i64 (d2:Nat)):=by rw[jB HX5.out];rfl
    have hcN:=fun M=>HNh.out (w5.drewN M) p fv5 fl5 vs5 d2 (HP5.out.drewN M).rw (jW hp5.out.ext hd2.out)
    rw[HZ.out] at hx5 hr5
    clear hcP
    go_wp2_with fail
    go_region_held3 (fun w'=>w'.cell? ⟨bt,0,none⟩=some (.bool sh)∧w'.cell? ⟨bh,1,none⟩=some (.int .i64 (d2:Nat))) (first | go_keep | exact⟨hk0',hk1'⟩)
     (first
       | (go_at_call 114; refine (hcN _).mono ?_; rintro y w6 ⟨d6,fv6,fl6,vs6,rfl,hp6,hd6⟩
          have HP6:=jH ((HP5.out.drewN _).put hp6.out)
          have HB6:=jH (HB5.out.trans (hp6.out.pre (jN w5 _)))
          have HX6:=jH (box_put (w:=w5.drewN _) HX5.out (HP5.out.drewN _).rw hp6.out)
          have hk0':=HP6.out.b0
          have hk1':w6.cell? ⟨bh,1,none⟩=some (.int .i64 (d2:Nat)):=by rw[jB HX6.out];rfl
          have hr6:=RRow.fr (W:=w5.drewN _) hr5.out (HP5.out.drewN _).rw hp6.out.fr
          rw[← pf_put hp6.out HP5.out.rw.wv hx5.out] at hr6
          have hcP:=Hs2.out (by simp) w6 p fv6 fl6 vs6 v5 d6 HP6.out.rw (fun j hj=>qN hp6.out.ext (hx5.out j hj)) hr6 hd6.out
          clear hr6)
       | (go_at_call 113; refine hcP.mono ?_; rintro y w7 ⟨v7,fv7,fl7,vs7,rfl,hp7,hx7,hr7⟩
          have hk0':=(HP6.out.put hp7.out).b0
          have hk1':w7.cell? ⟨bh,1,none⟩=some (.int .i64 (d2:Nat)):=by rw[jB (box_put HX6.out HP6.out.rw hp7.out)];rfl))
    go_wp2_with fail
    go_ret
    rw[HZ2.out] at hx7 hr7
    exact HQ.out _ _ ⟨v7,fv7,fl7,vs7,rfl,HB6.out.trans hp7.out,hx7,hr7⟩
   ·have hso:=bool_ne (Ne.symm hs)
    subst hso
    clear hs
    have HZ:Hid (x - tv (!s,e+1)+tv (!s,e)=x+tv (s,e)):=by show _=_; rw[j6,qX];omega
    have hcP:=Ho.out rfl w4 p fv2 fl2 vs2 v1 i HP4.out.rw HEx.out hr1.out HP4.out.plc
    have hsn:(!s != s)=true:=by cases s <;>rfl
    go_wp2_with fail
    refine hcP.mono ?_
    rintro y w5 ⟨v5,fv5,fl5,vs5,rfl,hp5,hx5,hr5⟩
    go_wp2_with fail
    go_ret
    rw[HZ.out] at hx5 hr5
    exact HQ.out _ _ ⟨v5,fv5,fl5,vs5,rfl,HB4.out.trans hp5.out,hx5,hr5⟩
end Sr

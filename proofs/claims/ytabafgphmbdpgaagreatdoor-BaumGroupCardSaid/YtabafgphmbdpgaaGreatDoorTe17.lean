/- Texts of this claim, joined: Shf, OfP, Small. -/
import Derived.Test.YtabafgphmbdpgaaGreatDoorTe1
import Derived.Test.YtabafgphmbdpgaaGreatDoorTe13
import Derived.Test.YtabafgphmbdpgaaGreatDoorTe16
import Derived.Maps.RangeWalk
set_option maxHeartbeats 8000000
set_option maxRecDepth 100000
namespace Sr
open Go Go.Proofs Go.RowKit Go.Maps Go.WideMaps
section
def dn (vs:List Int)(x y:Int)(k:Nat): List PT:=((form x).take k).map fun t=>(t.1,vs.idxOf ((t.2:Int)+y))
structure ShSt (C:List Nat)(w1:World)(p:Nat)(F:List Nat)(vs:List Int)(m:Nat)(x y:Int)(rv:Value)(n k:Nat)(F':List Nat)(D':WD)(vs':List Int)(gk':List Nat)(wr:World): Prop where
 wo:WO C wr p F' D' vs' gk' (m+k)
 fr:Fr (rv.ownBlock.toList++F) w1 wr
 sub:∀ b∈F',b∈F∨w1.heap.size≤b
 pre:vs <+: vs'
 mem:∀ e∈(exps x).take k,0≤((e:Nat):Int)+y∧((e:Nat):Int)+y∈vs'
 row:wr.ownsRow 0 154 2 rv n (tcells (dn vs' x y k++(pf vs x).drop k))
 far:∀ b,rv.ownBlock=some b→b∉F∧b<w1.heap.size
section
variable {C:List Nat} {w1 wr:World} {p:Nat} {F:List Nat} {vs:List Int} {m:Nat} {x y:Int} {rv:Value} {n k:Nat} {F':List Nat} {D':WD} {vs':List Int} {gk':List Nat}
theorem ShSt.notF (S:ShSt C w1 p F vs m x y rv n k F' D' vs' gk' wr): ∀ b,rv.ownBlock=some b→b∉F':=fun b e h=>by
 obtain⟨h1,h2⟩:=S.far b e
 rcases S.sub b h with h | h
 ·exact h1 h
 ·omega
theorem dn_len (S:ShSt C w1 p F vs m x y rv n k F' D' vs' gk' wr){t:Tm}(ht:(form x)[k]? = some t): (dn vs' x y k).length=k:=by
 have _:=S
 have:=(jL ht).1
 unfold dn; rw[List.length_map,List.length_take];omega
theorem ShSt.here (S:ShSt C w1 p F vs m x y rv n k F' D' vs' gk' wr){t:Tm}(ht:(form x)[k]? = some t): (dn vs' x y k++(pf vs x).drop k)[k]? = some (t.1,vs.idxOf (t.2:Int)):=by
 have e2:=dn_len S ht
 rw[List.getElem?_append_right (by omega),e2,Nat.sub_self,List.getElem?_drop,Nat.add_zero]
 unfold pf; rw[List.getElem?_map,ht];rfl
theorem ShSt.next {g c1:Nat}(S:ShSt C w1 p F vs m x y (.slice (some ⟨g,0,none⟩) n c1) n k F' D' vs' gk' wr){t:Tm}(ht:(form x)[k]? = some t)(hz:0≤(t.2:Int)+y){w7:World}{F7:List Nat}{D7:WD}{vs7:List Int}{gk7:List Nat} 
 (hwo:WO C w7 p F7 D7 vs7 gk7 (m+k+1)) (hpre:vs' <+: vs7) (hzm:(t.2:Int)+y∈vs7) (hfr:Fr F' wr w7) (hsub:∀ b∈F7,b∈F'∨wr.heap.size≤b) :
 ShSt C w1 p F vs m x y (.slice (some ⟨g,0,none⟩) n c1) n (k+1) F7 D7 vs7 gk7 (w7.setCell ⟨g,k*2+1,none⟩ (.int .i64 (vs7.idxOf ((t.2:Int)+y):Nat))) ∧
 (∃ u,w7.cell? ⟨g,k*2+1,none⟩=some u)∧w7.frozen? ⟨g,k*2+1,none⟩=false:=by
 have hgF:=S.notF g rfl
 have hgl:g<wr.heap.size:=jP S.row rfl
 have hsz:=S.fr.size
 have hgF7:g∉F7:=fun h=>by
  rcases hsub g h with h | h
  ·exact hgF h
  ·omega
 have hrow7:w7.ownsRow 0 154 2 (.slice (some ⟨g,0,none⟩) n c1) n (tcells (dn vs' x y k++(pf vs x).drop k)):=jJ S.row fun b e=>by
  have:g=b:=Option.some.inj e
  subst this; exact hfr.block g hgl hgF
 have hh:=S.here ht
 have hset:=setP (vs7.idxOf ((t.2:Int)+y)) hh hrow7
 have hdn:dn vs7 x y (k+1)++(pf vs x).drop (k+1)=(dn vs' x y k++(pf vs x).drop k).set k (t.1,vs7.idxOf ((t.2:Int)+y)):=by
  have e2:=dn_len S ht
  have e3:dn vs7 x y (k+1)=dn vs' x y k++[(t.1,vs7.idxOf ((t.2:Int)+y))]:=by
   unfold dn
   rw[j8 ht,List.map_append]
   congr 1
   refine List.map_congr_left fun u hu=>?_
   have:=(S.mem u.2 (by unfold exps; rw[← List.map_take];exact List.mem_map.2 ⟨u,hu,rfl⟩)).2
   rw[zV hpre this]
  have hpk:(pf vs x)[k]? = some (t.1,vs.idxOf (t.2:Int)):=by unfold pf; rw[List.getElem?_map,ht];rfl
  rw[e3,zy hpk,List.append_assoc,List.set_append_right _ _ (by omega),e2,Nat.sub_self]
  simp
 obtain⟨h1,⟨h2,_⟩ | ⟨g',cap',cur,hv,_,h4,h5,h6,h7,h8⟩⟩:=hrow7
 ·cases h2
 ·cases hv
  refine⟨⟨?_,?_,?_,S.pre.trans hpre,?_,?_,S.far⟩,?_,jF h4 _⟩
  ·exact hwo.setCell hgF7 _
  ·refine⟨hfr.os.trans S.fr.os,hfr.tape.trans S.fr.tape,hfr.output.trans S.fr.output,by have:=hfr.size; simp; omega,fun b hb hn=>?_⟩
   have hne:b≠g:=fun e=>hn (by simp[e,Value.ownBlock])
   rw[jS _ _ _ _ (by show b≠g; exact hne),hfr.block b (by omega) (fun h=>by
    rcases S.sub b h with h | h
    ·exact hn (List.mem_append.2 (.inr h))
    ·omega)]
   exact S.fr.block b hb hn
  ·intro b hb
   rcases hsub b hb with h | h
   ·exact S.sub b h
   ·exact .inr (by omega)
  ·intro e he
   have hek:(exps x)[k]? = some t.2:=by unfold exps; rw[List.getElem?_map,ht];rfl
   rw[j8 hek] at he
   rcases List.mem_append.1 he with he | he
   ·obtain⟨q1,q2⟩:=S.mem e he
    exact⟨q1,qN hpre q2⟩
   ·simp at he; subst he; exact⟨hz,hzm⟩
  ·rw[hdn];exact hset
  ·have hk2:k*2+1<cur.size:=by
    have h9:=tcells_len (dn vs' x y k++(pf vs x).drop k)
    have h10:k<(dn vs' x y k++(pf vs x).drop k).length:=(jL hh).1
    have h11:(cur.toList.take (n*2)).length=(tcells (dn vs' x y k++(pf vs x).drop k)).length:=by rw[h8]
    rw[List.length_take] at h11
    simp only[Array.length_toList] at h11
    omega
   exact⟨cur[k*2+1],by rw[jB h4,Array.getElem?_eq_getElem hk2]⟩
end
theorem isg_nn {x:Int}(h:0≤x): ¬ (isg x<0):=by unfold isg; split <;>(try split) <;>omega
theorem isg_lt {x:Int}(h:¬ 0≤x): isg x<0:=by rw[za (by omega)];omega
variable {W:World} {v:Value}
theorem sh_fe {C:List Nat}{w1 wr w6:World}{p:Nat}{F F6:List Nat}{vs:List Int}{m:Nat}{x y:Int}{rv:Value}{n k:Nat}{F':List Nat}{D':WD}{vs':List Int}{gk':List Nat}(hb:Below W.heap.size W w1)(S:ShSt C w1 p F vs m x y rv n k F' D' vs' gk' wr) 
 (ho:∀ b,rv.ownBlock=some b→W.heap.size≤b) (hf:FE F' wr F6 w6):FE F W F6 w6:=by
 have h1:=hb.size
 have h2:=S.fr.size
 refine⟨⟨hf.fr.os.trans (S.fr.os.trans hb.os),hf.fr.tape.trans (S.fr.tape.trans hb.tape),hf.fr.output.trans (S.fr.output.trans hb.output),by have:=hf.fr.size; omega,fun b hbl hn=>?_⟩,fun b h=>?_⟩
 ·rw[hf.fr.block b (by omega) (fun h=>by rcases S.sub b h with h | h; exact hn h; omega),S.fr.block b (by omega) (fun h=>by
   rcases List.mem_append.1 h with h | h
   ·have:=ho b (by simpa using h);omega
   ·exact hn h)]
  exact hb.block b hbl
 ·rcases hf.sub b h with h | h
  ·rcases S.sub b h with h | h
   ·exact .inl h
   ·exact .inr (by omega)
  ·exact .inr (by omega)
def ShQ (C:List Nat)(W:World)(p:Nat)(F:List Nat)(vs:List Int)(m:Nat)(x y:Int)(e:Ending)(W':World): Prop :=
 ∃ (F':List Nat) (D':WD) (vs':List Int) (gk':List Nat) (v':Value) (ok:Bool),e=.returned (.tuple #[v',.bool ok])∧Hid (WO C W' p F' D' vs' gk' (m+300))∧Hid (FE F W F' W')∧Hid (vs <+: vs') ∧
  Hid ((ok=true∧shOK x y∧TRow W' v' (pf vs' (shx x y))∧(∀ e∈exps (shx x y),(e:Int)∈vs')∧∀ b,v'.ownBlock=some b→W.heap.size≤b∧b∉F')∨(ok=false∧¬ shOK x y))
theorem xI {a:Addr}(o:Obj)(h:W.cell? a=some v): (W.alloc o).drew.cell? a=some v:=(World.cell?_alloc_some W a o (by rw[h];rfl)).trans h
theorem cell_kept {w:World}(h:Below W.heap.size W w){b o:Nat}(hc:W.cell? ⟨b,o,none⟩=some v): w.cell? ⟨b,o,none⟩=some v:=by
 have hb:=h.block b (jg hc)
 rw[← hc];simp only[World.cell?,hb]
theorem shifted_calls {P C:List Nat}{m m0:Nat}(hc:Cov P C m0){p:Nat}{F:List Nat}{D:WD}{vs:List Int}{gk:List Nat}(H:Hid (WO C W p F D vs gk m)){x y:Int}(hl:TRow W v (pf vs x))(hm:m+301≤m0) 
 (hx:∀ e∈exps x,(e:Int)∈vs∧(form (e:Int)).length≤300∧∀ a∈exps (e:Int),a∈P) (hxl:(form x).length≤300) (hy:y∈vs∧(form y).length≤300∧∀ a∈exps y,a∈P) :
 Calls Tryz.prog 61 #[.pointer (some ⟨p,0,none⟩),v,.int .i64 (vs.idxOf y:Nat)] W (ShQ C W p F vs m x y):=by
 have hpl:(pf vs x).length=(form x).length:=by simp[pf]
 have HCov:=jH hc
 have HX:Hid (∀ e∈exps x,(e:Int)∈vs∧(form (e:Int)).length≤300∧∀ a∈exps (e:Int),a∈P):=hx
 have HY:=jH hy
 have HM:Hid (m+301≤m0):=hm
 have HCl:=zX hl (by omega)
 obtain⟨n,hn⟩:∃ n,n=(pf vs x).length:=⟨_,rfl⟩
 have HN:Hid (n=(form x).length):=hn.trans hpl
 have hnb:n≤300:=by omega
 obtain⟨b,hb⟩:∃ b,b=vs.idxOf y:=⟨_,rfl⟩
 have HB:Hid (b=vs.idxOf y):=hb
 rw[← hb]
 have HVB:Hid (∀ b,v.ownBlock=some b→b<W.heap.size):=fun b e=>jP hl e
 clear hc hx hy hm hb hl hpl hxl
 go_enter Tryz.func61,Tryz.ntmps61
 go_wp2_with fail
 refine HCl.mono ?_
 rintro z w1 ⟨v1,rfl,hr1,hb1,ho1⟩
 clear HCl
 obtain⟨a1,c1,rfl,_,_⟩:=hr1.out.shape
 rw[← hn] at hr1 ho1 ⊢
 have S0:Hid (ShSt C w1 p F vs m x y (.slice a1 n c1) n 0 F D vs gk w1) :=
  ⟨H.out.below hb1.out,Fr.refl _ _,fun _ h=>.inl h,List.prefix_refl _,by simp,by have:=hr1.out; unfold TRow at this; rw[← hn] at this; simpa [dn] using this,fun b e=>by
   have:=ho1.out b e
   exact⟨fun h=>by have:=H.out.blt b h; omega,jP hr1.out e⟩⟩
 have HO1:Hid (∀ b,(Value.slice a1 n c1).ownBlock=some b→W.heap.size≤b):=ho1
 have HFW:Hid (Below W.heap.size W w1):=hb1
 clear hr1 hb1 ho1 hn
 go_wp2_with fail
 go_loopg [15] n (fun g1 vi wr=>∃ (k:Nat) (F':List Nat) (D':WD) (vs':List Int) (gk':List Nat),vi=.int .i64 k∧k≤n∧n - k≤g1∧Hid (ShSt C w1 p F vs m x y (.slice a1 n c1) n k F' D' vs' gk' wr))
 case atStart=>exact⟨0,F,D,vs,gk,rfl,by omega,by omega,S0⟩
 case round =>
  clear S0
  obtain⟨k,F',D',vs',gk',rfl,hkl,hg,HS⟩:=hrel
  by_cases hk:k<n
  ·have hkz:(k:Int)<(n:Int):=by omega
   have hk0:(0:Int)≤(k:Int):=Int.natCast_nonneg k
   have hkw:IntKind.i64.wrap ((k:Int)+1)=(k:Int)+1:=IntWalk.i64_in _ (by omega)
   obtain⟨t,ht⟩:∃ t,(form x)[k]? = some t:=⟨_,jG (by rw[← HN.out];exact hk)⟩
   have hhere:=HS.out.here ht
   obtain⟨sx,e⟩:=t
   have HT:=jH ht
   have hex:e∈exps x:=mem_exps (jM ht)
   obtain⟨hem,hel,heP⟩:=HX.out e hex
   have hal:=zR (qN HS.out.pre hem)
   have hbl:=zR (qN HS.out.pre HY.out.1)
   have hga:vs'[vs.idxOf (e:Int)]? = some (e:Int):=jW HS.out.pre (jU hem)
   have hgb:vs'[b]? = some y:=by rw[HB.out];exact jW HS.out.pre (jU HY.out.1)
   rw[zV HS.out.pre hem] at hal
   rw[zV HS.out.pre HY.out.1,← HB.out] at hbl
   obtain⟨a,ha⟩:∃ a,a=vs.idxOf (e:Int):=⟨_,rfl⟩
   dsimp only at hhere
   rw[← ha] at hhere hal hga
   obtain⟨hh1,⟨hh2,hh3⟩ | ⟨g,cap,cur,hv,_,h4,h5,h6,h7,h8⟩⟩:=HS.out.row
   ·omega
   ·cases hv
    obtain⟨d0,d1⟩:=qG hhere
    rw[← h8,List.getElem?_take_of_lt (by omega),Array.getElem?_toList,← jB h4] at d0 d1
    have hgl:g≠wr.heap.size:=by have:=(jA h4).1; omega
    dsimp only at d0 d1
    have HWA:=HS.out.wo.alloc (.cells #[.bool sx,.int .i64 (a:Nat)] 154)
    obtain⟨gf,cf,hfv,hgF,hrow⟩:=HWA.formAt
    obtain⟨ra,_,cra,rra,_⟩:=hrow a e hga
    obtain⟨rb,_,crb,rrb,_⟩:=hrow b y hgb
    have cp0:=HWA.c0
    rw[hfv] at cp0
    have halz:(a:Int)<(vs'.length:Int):=by omega
    have hblz:(b:Int)<(vs'.length:Int):=by omega
    have a0:(0:Int)≤(a:Int):=by omega
    have b0:(0:Int)≤(b:Int):=by omega
    have Hlen:Hid ((pf vs' (e:Int)).length≤300∧(pf vs' y).length≤300):=⟨by simpa [pf] using hel,by have:=HY.out.2.1; simpa [pf] using this⟩
    obtain⟨pa,ca,rfl,_,_⟩:=rra.shape
    obtain⟨pb,cb,rfl,_,_⟩:=rrb.shape
    obtain⟨na,hna⟩:∃ na,na=(pf vs' (e:Int)).length:=⟨_,rfl⟩
    obtain⟨nb,hnb'⟩:∃ nb,nb=(pf vs' y).length:=⟨_,rfl⟩
    rw[← hna] at cra rra
    rw[← hnb'] at crb rrb
    have HXe:Hid (∀ q∈exps (e:Int),(q:Int)∈vs'):=fun q hq=>HS.out.wo.wv.mem_exps (qN HS.out.pre hem) hq
    have HYe:Hid (∀ q∈exps y,(q:Int)∈vs'):=fun q hq=>HS.out.wo.wv.mem_exps (qN HS.out.pre HY.out.1) hq
    have HPe:Hid (∀ q∈exps (e:Int),q∈P):=heP
    have Hptv:Hid (ptv vs' (pf vs' (e:Int)++pf vs' y)=(e:Int)+y):=by show _=_; rw[ptv_append,ptv_pf HS.out.wo.wv HXe.out,ptv_pf HS.out.wo.wv HYe.out]
    have HWO2:=jH (HWA.alloc (.cells #[.slice pa na ca,.slice pb nb cb] 111)).drew
    have HC1:=concat_calls (W:=((wr.alloc (.cells #[.bool sx,.int .i64 (a:Nat)] 154)).alloc (.cells #[.slice pa na ca,.slice pb nb cb] 111)).drew) (v:=.slice (some ⟨wr.heap.size+1,0,none⟩) 2 2) (ls:=[(.slice pa na ca,pf vs' (e:Int)),(.slice pb nb cb,pf vs' y)]) (own2 (j7 (by simp)))
     (by intro z hz; simp at hz; rcases hz with rfl | rfl; exact World.ownsRow.alloc rra _; exact World.ownsRow.alloc rrb _) (by have:=Hlen.out; simp[lens];omega) (by simp)
    have ct9:(wr.alloc (.cells #[.bool sx,.int .i64 (a:Nat)] 154)).cell? ⟨wr.heap.size,1,none⟩=some (.int .i64 (a:Nat)):=by rw[jB (jD wr _)];rfl
    have HGB:Hid (g<wr.heap.size∧g∉F'):=⟨(jA h4).1,HS.out.notF g rfl⟩
    clear hh1 h4 h5 h6 h7 h8 hhere hrow rra rrb hgF hfv ha hna hnb' hex hem hel heP hal hbl hga hgb HWA ht
    go_wp2_with fail
    have HS16:Hid ((fun w'=>w'.cell? ⟨wr.heap.size,1,none⟩=some (.int .i64 (a:Nat))∧w'.cell? ⟨p,0,none⟩=some (.slice (some ⟨gf,0,none⟩) vs'.length cf)∧w'.cell? ⟨gf,a,none⟩=some (.slice pa na ca)∧w'.cell? ⟨gf,b,none⟩=some (.slice pb nb cb)) (((wr.alloc (.cells #[.bool sx,.int .i64 (a:Nat)] 154)).alloc (.cells #[.slice pa na ca,.slice pb nb cb] 111)).drew)):=⟨xI _ ct9,xI _ cp0,xI _ cra,xI _ crb⟩
    have HS0:Hid ((fun w'=>w'.cell? ⟨wr.heap.size,1,none⟩=some (.int .i64 (a:Nat))∧w'.cell? ⟨p,0,none⟩=some (.slice (some ⟨gf,0,none⟩) vs'.length cf)∧w'.cell? ⟨gf,a,none⟩=some (.slice pa na ca)∧w'.cell? ⟨gf,b,none⟩=some (.slice pb nb cb)) ((wr.alloc (.cells #[.bool sx,.int .i64 (a:Nat)] 154)).drew)):=⟨ct9,cp0,cra,crb⟩
    refine qw (S:=fun w'=>w'.cell? ⟨wr.heap.size,1,none⟩=some (.int .i64 (a:Nat))∧w'.cell? ⟨p,0,none⟩=some (.slice (some ⟨gf,0,none⟩) vs'.length cf)∧w'.cell? ⟨gf,a,none⟩=some (.slice pa na ca)∧w'.cell? ⟨gf,b,none⟩=some (.slice pb nb cb)) (late:=[18,19]) (by kernel_rfl) ?_ (fun hHeld=>?_)
    ·
     exact HS0.out
    refine jC (i:=0) (v:=?_) rfl (by kernel_rfl) (by kernel_rfl) (by kernel_rfl) (by kernel_rfl) (by kernel_rfl) (fun _ _ _ h=>h) (Or.inl ⟨by rfl,?_⟩) (by assumption) ?_
    rotate_left
    ·(intro w hSw; (try dsimp only at hSw);go_simp)
     all_goals with_reducible rfl
    try go_frame
    refine jC (i:=1) (v:=?_) rfl (by kernel_rfl) (by kernel_rfl) (by kernel_rfl) (by kernel_rfl) (by kernel_rfl) (fun _ _ _ h=>h) (Or.inl ⟨by rfl,?_⟩) (by assumption) ?_
    rotate_left
    ·(intro w hSw; (try dsimp only at hSw);go_simp)
     all_goals with_reducible rfl
    try go_frame
    refine jC (i:=2) (v:=?_) rfl (by kernel_rfl) (by kernel_rfl) (by kernel_rfl) (by kernel_rfl) (by kernel_rfl) (fun _ _ _ h=>h) (Or.inl ⟨by rfl,?_⟩) (by assumption) ?_
    rotate_left
    ·(intro w hSw; (try dsimp only at hSw);go_simp)
     all_goals with_reducible rfl
    try go_frame
    refine jC (i:=3) (v:=?_) rfl (by kernel_rfl) (by kernel_rfl) (by kernel_rfl) (by kernel_rfl) (by kernel_rfl) (fun _ _ _ h=>h) (Or.inl ⟨by rfl,?_⟩) (by assumption) ?_
    rotate_left
    ·(intro w hSw; (try dsimp only at hSw);go_simp)
     all_goals with_reducible rfl
    try go_frame
    refine jC (i:=4) (v:=?_) rfl (by kernel_rfl) (by kernel_rfl) (by kernel_rfl) (by kernel_rfl) (by kernel_rfl) (fun _ _ _ h=>h) (Or.inl ⟨by rfl,?_⟩) (by assumption) ?_
    rotate_left
    ·(intro w hSw; (try dsimp only at hSw);go_simp)
     all_goals with_reducible rfl
    try go_frame
    refine jC (i:=5) (v:=?_) rfl (by kernel_rfl) (by kernel_rfl) (by kernel_rfl) (by kernel_rfl) (by kernel_rfl) (fun _ _ _ h=>h) (Or.inl ⟨by rfl,?_⟩) (by assumption) ?_
    rotate_left
    ·(intro w hSw; (try dsimp only at hSw);go_simp)
     all_goals with_reducible rfl
    try go_frame
    refine jC (i:=6) (v:=?_) rfl (by kernel_rfl) (by kernel_rfl) (by kernel_rfl) (by kernel_rfl) (by kernel_rfl) (fun _ _ _ h=>h) (Or.inl ⟨by rfl,?_⟩) (by assumption) ?_
    rotate_left
    ·(intro w hSw; (try dsimp only at hSw);go_simp)
     all_goals with_reducible rfl
    try go_frame
    refine jC (i:=7) (v:=?_) rfl (by kernel_rfl) (by kernel_rfl) (by kernel_rfl) (by kernel_rfl) (by kernel_rfl) (fun _ _ _ h=>h) (Or.inl ⟨by rfl,?_⟩) (by assumption) ?_
    rotate_left
    ·(intro w hSw; (try dsimp only at hSw);go_simp)
     all_goals with_reducible rfl
    try go_frame
    refine jC (i:=8) (v:=?_) rfl (by kernel_rfl) (by kernel_rfl) (by kernel_rfl) (by kernel_rfl) (by kernel_rfl) (fun _ _ _ h=>h) (Or.inl ⟨by rfl,?_⟩) (by assumption) ?_
    rotate_left
    ·(intro w hSw; (try dsimp only at hSw);go_simp)
     all_goals with_reducible rfl
    try go_frame
    refine jC (i:=9) (v:=?_) rfl (by kernel_rfl) (by kernel_rfl) (by kernel_rfl) (by kernel_rfl) (by kernel_rfl) (fun _ _ _ h=>h) (Or.inl ⟨by rfl,?_⟩) (by assumption) ?_
    rotate_left
    ·(intro w hSw; (try dsimp only at hSw);go_simp)
     all_goals with_reducible rfl
    try go_frame
    refine jC (i:=10) (v:=?_) rfl (by kernel_rfl) (by kernel_rfl) (by kernel_rfl) (by kernel_rfl) (by kernel_rfl) (fun _ _ _ h=>h) (Or.inl ⟨by rfl,?_⟩) (by assumption) ?_
    rotate_left
    ·(intro w hSw; (try dsimp only at hSw);go_simp)
     all_goals with_reducible rfl
    try go_frame
    refine jC (i:=11) (v:=?_) rfl (by kernel_rfl) (by kernel_rfl) (by kernel_rfl) (by kernel_rfl) (by kernel_rfl) (fun _ _ _ h=>h) (Or.inl ⟨by rfl,?_⟩) (by assumption) ?_
    rotate_left
    ·(intro w hSw; (try dsimp only at hSw);go_simp)
     all_goals with_reducible rfl
    try go_frame
    refine jC (i:=12) (v:=?_) rfl (by kernel_rfl) (by kernel_rfl) (by kernel_rfl) (by kernel_rfl) (by kernel_rfl) (fun _ _ _ h=>h) (Or.inl ⟨by rfl,?_⟩) (by assumption) ?_
    rotate_left
    ·(intro w hSw; (try dsimp only at hSw);go_simp)
     all_goals with_reducible rfl
    try go_frame
    refine jC (i:=13) (v:=?_) rfl (by kernel_rfl) (by kernel_rfl) (by kernel_rfl) (by kernel_rfl) (by kernel_rfl) (fun _ _ _ h=>h) (Or.inl ⟨by rfl,?_⟩) (by assumption) ?_
    rotate_left
    ·(intro w hSw; (try dsimp only at hSw);go_simp)
     all_goals with_reducible rfl
    try go_frame
    refine jC (i:=14) (v:=?_) rfl (by kernel_rfl) (by kernel_rfl) (by kernel_rfl) (by kernel_rfl) (by kernel_rfl) (fun _ _ _ h=>h) (Or.inl ⟨by rfl,?_⟩) (by assumption) ?_
    rotate_left
    ·(intro w hSw; (try dsimp only at hSw);go_simp)
     all_goals with_reducible rfl
    try go_frame
    refine jC (i:=15) (v:=?_) rfl (by kernel_rfl) (by kernel_rfl) (by kernel_rfl) (by kernel_rfl) (by kernel_rfl) (fun _ _ _ h=>h) (Or.inl ⟨by rfl,?_⟩) (by assumption) ?_
    rotate_left
    ·(intro w hSw; (try dsimp only at hSw);go_simp)
     all_goals with_reducible rfl
    try go_frame
    refine qJ (i:=16) rfl (by kernel_rfl) (fun K hK=>?_)
    go_simp
    refine hK.out _ _ ?_ (fun hHeld1=>?_)
    ·
     exact HS16.out
    clear hK K hHeld
    try go_frame
    refine qJ (i:=17) rfl (by kernel_rfl) (fun K hK=>?_)
    go_simp
    go_wp2_with (
     go_at_call 105
     refine HC1.mono ?_
     rintro z w5 ⟨v5,rfl,hr5,hb5,ho5⟩
     have HR5:Hid (TRow w5 v5 (pf vs' (e:Int)++pf vs' y)):=by have:=hr5.out; show TRow _ _ _; simpa using this
     have HB5:=jH hb5.out
     have HSm:=wsum_calls (HCov.out.weak (m':=m+k) (by have:=HM.out; omega)) (HWO2.out.below hb5.out) HR5.out (by have:=Hlen.out; rw[List.length_append];omega) (fun t ht=>by
      rcases List.mem_append.1 ht with ht | ht
      ·obtain⟨u,hu,rfl⟩:=List.mem_map.1 ht
       exact⟨u.2,jU (HXe.out u.2 (mem_exps hu)),HPe.out u.2 (mem_exps hu)⟩
      ·obtain⟨u,hu,rfl⟩:=List.mem_map.1 ht
       exact⟨u.2,jU (HYe.out u.2 (mem_exps hu)),HY.out.2.2 u.2 (mem_exps hu)⟩)
     rw[Hptv.out] at HSm
     clear hr5 hb5 ho5 HR5
     )
    refine hK.out _ _ ?_ (fun hHeld2=>?_)
    ·
     exact⟨cell_kept HB5.out HS16.out.1,cell_kept HB5.out HS16.out.2.1,cell_kept HB5.out HS16.out.2.2.1,cell_kept HB5.out HS16.out.2.2.2⟩
    clear hK K hHeld1
    try go_frame
    refine zH (i:=18) rfl (by kernel_rfl) rfl (fun K hK=>?_)
    go_simp
    go_wp2_with (
     go_at_call 104
     refine HSm.mono ?_
     rintro z w6 ⟨F6,D6,vs6,gk6,v6,rfl,hr6,he6,ho6,hg6⟩
     clear HSm
     )
    refine hK.out _ _ ?_
    clear hK K
    try go_frame
    refine zH (i:=19) rfl (by kernel_rfl) rfl (fun K hK=>?_)
    go_simp
    refine hK.out _ _ ?_
    clear hK K
    try go_frame
    refine zZ (by kernel_rfl) ?_ _
    all_goals
     have hs5:wr.heap.size+2≤w5.heap.size:=by have:=HB5.out.size; simpa using this
     have HFr6:Hid (FE F' wr F6 w6):=⟨⟨hg6.out.fe.fr.os.trans HB5.out.os,hg6.out.fe.fr.tape.trans HB5.out.tape,hg6.out.fe.fr.output.trans HB5.out.output,by have:=hg6.out.fe.fr.size; omega,fun b hb hn=>by
      rw[hg6.out.fe.fr.block b (by omega) hn,HB5.out.block b (by simp; omega)]
      exact (jE _ _ (by simp; omega)).trans (jE _ _ hb)⟩,fun b hb=>by
      rcases hg6.out.fe.sub b hb with h | h
      ·exact .inl h
      ·exact .inr (by omega)⟩
     have HSgn:=sign_calls hr6.out
     have hsg:signT (pf vs6 ((e:Int)+y))=isg ((e:Int)+y):=signT_pf _ _
     obtain⟨c,hc⟩:∃ c,c=signT (pf vs6 ((e:Int)+y)):=⟨_,rfl⟩
     rw[← hc] at HSgn hsg
     clear cra crb cp0 d0 d1 ct9 hc hgl
     by_cases hz:0≤(e:Int)+y
     ·have hc0:¬ (c<0):=by rw[hsg];exact isg_nn hz
      clear hsg
      go_wp2_with fail
      refine HSgn.mono ?_
      rintro z w6' ⟨rfl,hw6⟩
      have hw6':w6'=w6:=hw6
      subst hw6'
      clear HSgn hw6
      have HId:=id_calls (C:=C) (W:=w6') (p:=p) (F:=F6) (D:=D6) (vs:=vs6) (gks:=gk6) (m:=m+k) (jH hg6.out.wo) v6 ((e:Int)+y) he6.out hr6.out (by have:=HCov.out.room; have:=HM.out; omega)
      go_wp2_with fail
      refine HId.mono ?_
      rintro z w7 ⟨F7,D7,rfl,hput⟩
      clear HId
      have HNx:=HS.out.next HT.out hz (w7:=w7) (F7:=F7) (D7:=D7) (vs7:=putIn vs6 ((e:Int)+y)) (gk7:=gk6) hput.out.wo (hg6.out.pre.trans (zK _ _)) (qt _ _)
       ⟨hput.out.fr.os.trans HFr6.out.fr.os,hput.out.fr.tape.trans HFr6.out.fr.tape,hput.out.fr.output.trans HFr6.out.fr.output,Nat.le_trans HFr6.out.fr.size hput.out.fr.size,fun b hb hn=>by
        rw[hput.out.fr.block b (Nat.lt_of_lt_of_le hb HFr6.out.fr.size) (fun h=>by rcases HFr6.out.sub b h with h | h; exact hn h; omega)]
        exact HFr6.out.fr.block b hb hn⟩
       (fun b hb=>by
         rcases hput.out.sub b hb with h | h | h
         ·exact HFr6.out.sub b h
         ·exact .inr (Nat.le_trans HFr6.out.fr.size h)
         ·exact .inr (by have:=(ho6.out b h).1; omega))
      obtain⟨hnx,⟨u7,c7⟩,f7⟩:=HNx
      have HNX:=jH hnx
      obtain⟨iz,hiz⟩:∃ iz,iz=(putIn vs6 ((e:Int)+y)).idxOf ((e:Int)+y):=⟨_,rfl⟩
      dsimp only at HNX
      rw[← hiz] at HNX
      rw[← hiz]
      clear hnx hput hiz hr6 he6 ho6 hg6
      go_wp2_with fail
      go_roundg (n - (k+1))
      case measure=>omega
      case rel=>exact⟨k+1,F7,D7,_,gk6,by go_num,by omega,by omega,HNX⟩
     ·have hc0:c<0:=by rw[hsg];exact isg_lt hz
      clear hsg
      go_wp2_with fail
      refine HSgn.mono ?_
      rintro z w6' ⟨rfl,hw6⟩
      have hw6':w6'=w6:=hw6
      subst hw6'
      clear HSgn hw6
      go_wp2_with fail
      refine bodyPost_ret (v:=.tuple #[.slice none 0 0,.bool false]) (by simp[results,Tryz.results61,go_sem]) rfl ?_
      exact⟨F6,D6,vs6,gk6,_,false,rfl,hg6.out.wo.weaken (by have:=hg6.out.wo.len; omega) (by have:=HCov.out.room; have:=HM.out; omega),sh_fe HFW.out HS.out HO1.out HFr6.out,HS.out.pre.trans hg6.out.pre,.inr ⟨rfl,fun h=>by have h9:=h e (mem_exps (jM HT.out));omega⟩⟩
  ·have hkz:¬ ((k:Int)<(n:Int)):=by omega
   go_wp2_with fail
   refine bodyPost_ret (v:=.tuple #[.slice a1 n c1,.bool true]) (by simp[results,Tryz.results61,go_sem]) rfl ?_
   have S:=HS.out
   have hkn:k=n:=by omega
   have hlx:(exps x).length=n:=by rw[js];exact HN.out.symm
   have hall:∀ e∈exps x,0≤(e:Int)+y∧(e:Int)+y∈vs':=fun e he=>S.mem e (by rw[List.take_of_length_le (by omega)];exact he)
   have hok:shOK x y:=fun e he=>(hall e he).1
   have hdn:dn vs' x y k++(pf vs x).drop k=pf vs' (shx x y):=by
    have h1:(form x).take k=form x:=List.take_of_length_le (by have:=HN.out; omega)
    have h2:(pf vs x).drop k=[]:=List.drop_eq_nil_of_le (by have:=HN.out; simp[pf];omega)
    rw[h2,List.append_nil]
    unfold dn pf
    rw[h1,yP hok,shl,List.map_map]
    refine List.map_congr_left fun t ht=>?_
    have:=hok t.2 (mem_exps ht)
    simp only[Function.comp,Prod.mk.injEq,true_and]
    congr 1
    omega
   have hrow:=S.row
   rw[hdn] at hrow
   have hlen:(pf vs' (shx x y)).length=n:=by simp[pf,yP hok,shl];exact HN.out.symm
   refine⟨F',D',vs',gk',_,true,rfl,S.wo.weaken (by have:=S.wo.len; omega) (by have:=HCov.out.room; have:=HM.out; omega),sh_fe HFW.out S HO1.out (FE.refl _ _),S.pre,.inl ⟨rfl,hok,?_,fun e he=>?_,fun b e=>⟨HO1.out b e,S.notF b e⟩⟩⟩
   ·unfold TRow; rw[hlen];exact hrow
   ·rw[exps_shx hok] at he
    obtain⟨a,ha,rfl⟩:=List.mem_map.1 he
    have:=hall a ha
    have h3:((((a:Int)+y).toNat:Nat):Int)=(a:Int)+y:=by omega
    rw[h3];exact this.2
def SQ (x y:Int)(W:World)(e:Ending)(W':World): Prop :=
 ∃ (q:Option Addr) (er:Int),e=.returned (.tuple #[.agg #[.pointer q],.int .i64 er])∧Hid (Below W.heap.size W W')∧Hid ((shOK x y∧NR W' (shx x y) (.agg #[.pointer q]) er)∨(¬ shOK x y∧er=4∧q=none))
theorem z6 {u:Value}{x y:Int}(hx:IsN W v x)(hy:IsN W u y): Calls Tryz.prog 28 #[v,u] W (SQ x y W):=by
 obtain⟨qx,rfl⟩:=hx.ptr
 obtain⟨qy,rfl⟩:=hy.ptr
 obtain⟨hcov,hcl⟩:=cov_two hx.1 hy.1
 have HX:=jH hx
 have HY:=jH hy
 have HCov:=jH hcov
 have HCl:=jH hcl
 clear hx hy hcov hcl
 go_enter Tryz.func28,Tryz.ntmps28
 go_wp2_with fail
 obtain⟨W0,hW0⟩:∃ W0,W0=((W.alloc (.cells #[.pointer qx] 26)).alloc (.cells #[.pointer qy] 26)).alloc (.cells #[.pointer none] 26):=⟨_,rfl⟩
 rw[← hW0]
 have HB0:Hid (Below W.heap.size W W0):=by show Below _ _ _; rw[hW0];exact (((Below.refl _ _).alloc (jR _) _).alloc (by simp) _).alloc (by simp; omega) _
 have hz0:W.heap.size+3=W0.heap.size:=by rw[hW0];simp
 have X0:Hid (W0.heap[W.heap.size]? = some (.cells #[.pointer qx] 26 (0,0))):=by show _=_; rw[hW0,jE _ _ (by simp; omega),jE _ _ (by simp)];exact j7 rfl
 have X1:Hid (W0.heap[W.heap.size+1]? = some (.cells #[.pointer qy] 26 (0,0))):=by show _=_; rw[hW0,jE _ _ (by simp)];exact j7 (by simp)
 have X2:Hid (W0.heap[W.heap.size+1+1]? = some (.cells #[.pointer none] 26 (0,0))):=by show _=_; rw[hW0];exact j7 (by simp)
 clear hW0
 have HN:=zc (covC [x,y]) (by have:=HCl.out.le; omega) W0
 refine HN.mono ?_
 rintro e w1 ⟨p,F,D,rfl,HWO,HFE⟩
 clear HN
 have HT1:=jH (wt_new HWO.out HFE.out)
 have c0:w1.cell? ⟨W.heap.size,0,none⟩=some (.pointer qx):=by rw[jB ((HT1.out.low.block _ (by omega)).trans X0.out)];rfl
 clear HWO HFE
 go_wp2_with fail
 refine (zn HT1 (HX.out.below HB0.out) (by have:=HCl.out.le; omega)).mono ?_
 rintro e w2 ⟨F2,D2,vs2,rfl,hxm,hpre2,HT2,_⟩
 have c1:w2.cell? ⟨W.heap.size+1,0,none⟩=some (.pointer qy):=by rw[jB ((HT2.out.low.block _ (by omega)).trans X1.out)];rfl
 clear c0 HT1 hpre2
 go_wp2_with fail
 refine (zn HT2 (HY.out.below HB0.out) (by have:=HCl.out.le; omega)).mono ?_
 rintro e w3 ⟨F3,D3,vs3,rfl,hym,hpre3,HT3,_⟩
 have hxi:=zV hpre3.out hxm.out
 have HXm:Hid (x∈vs3):=qN hpre3.out hxm.out
 rw[← hxi]
 clear c1 HT2 hpre3 hxm hxi
 obtain⟨gf,cf,hfv,hgF,hrow⟩:=HT3.out.wo.formAt
 obtain⟨ra,_,cra,rra,_⟩:=hrow _ x (jU HXm.out)
 have cp0:=HT3.out.wo.c0
 rw[hfv] at cp0
 have hal:((vs3.idxOf x:Nat):Int)<(vs3.length:Int):=by have:=zR HXm.out; omega
 have a0:(0:Int)≤((vs3.idxOf x:Nat):Int):=by omega
 have HSh:=shifted_calls (P:=baseOf [x,y]) (C:=covC [x,y]) (m:=1+2000+2000) HCov.out (jH HT3.out.wo) (v:=ra) (x:=x) (y:=y) rra (by omega)
  (fun e he=>⟨HT3.out.wo.wv.mem_exps HXm.out he,HX.out.1.2.1 e (mem_parts.2 (.here he)),fun a ha=>baseOf_parts (by simp) a (mem_parts.2 (.step (.here he) ha))⟩) HX.out.1.1
  ⟨hym.out,HY.out.1.1,yX (by simp)⟩
 obtain⟨a,ha⟩:∃ a,a=vs3.idxOf x:=⟨_,rfl⟩
 obtain⟨b,hb⟩:∃ b,b=vs3.idxOf y:=⟨_,rfl⟩
 rw[← ha] at cra hal a0
 rw[← hb] at HSh
 rw[← ha,← hb]
 clear hrow rra hgF hfv ha hb
 go_wp2_with fail
 refine HSh.mono ?_
 rintro e w4 ⟨F4,D4,vs4,gk4,v4,ok,rfl,hwo4,hfe4,hpre4,hr4⟩
 clear HSh cra cp0 hal a0
 have HL4:=jH (qL HT3.out.low HT3.out.hi hfe4.out.fr)
 have Hi4:Hid (∀ b∈F4,W0.heap.size≤b):=fun b hb=>by
  rcases hfe4.out.sub b hb with h | h
  ·exact HT3.out.hi b h
  ·have:=HT3.out.low.size; omega
 have HX4:=jH (Below.here HL4.out X2.out)
 have c4:w4.cell? ⟨W.heap.size+1+1,0,none⟩=some (.pointer none):=by rw[jB HX4.out];rfl
 have f4:w4.frozen? ⟨W.heap.size+1+1,0,none⟩=false:=jF HX4.out 0
 cases ok
 ·go_wp2_with fail
  refine bodyPost_ret (v:=.tuple #[.agg #[.pointer none],.int .i64 4]) (by simp[results,Tryz.results28,go_sem,c4]) rfl ?_
  refine⟨none,4,rfl,(Below.trans' HB0.out HL4.out).setCell (by show W.heap.size≤W.heap.size+1+1; omega) _,.inr ⟨?_,rfl,rfl⟩⟩
  rcases hr4.out with h | h
  ·cases h.1
  ·exact h.2
 ·obtain⟨hok,ht4,he4,ho4⟩:shOK x y∧TRow w4 v4 (pf vs4 (shx x y))∧(∀ e∈exps (shx x y),(e:Int)∈vs4)∧∀ b,v4.ownBlock=some b→w3.heap.size≤b∧b∉F4:=by
   rcases hr4.out with h | h
   ·exact h.2
   ·cases h.1
  have HOk:=jH hok
  have HG:=xH hwo4 (v:=v4) (x:=shx x y) (fun W' _ hf=>jJ ht4 fun b e=>hf.block b (jP ht4 e) (ho4 b e).2) he4
  clear hok ht4 he4 ho4 hr4
  go_wp2_with fail
  refine HG.mono ?_
  rintro e w7 ⟨q,er,rfl,hf7,hn7⟩
  have HL7:=jH (qL HL4.out Hi4.out hf7.out)
  have HX7:=jH (Below.here HL7.out X2.out)
  have c7:w7.cell? ⟨W.heap.size+1+1,0,none⟩=some (.pointer none):=by rw[jB HX7.out];rfl
  have f7:w7.frozen? ⟨W.heap.size+1+1,0,none⟩=false:=jF HX7.out 0
  clear HG hf7 c4 f4
  go_wp2_with fail
  refine bodyPost_ret (v:=.tuple #[.agg #[.pointer q],.int .i64 er]) (by simp[results,Tryz.results28,go_sem,c7]) rfl ?_
  exact⟨q,er,rfl,(Below.trans' HB0.out HL7.out).setCell (by show W.heap.size≤W.heap.size+1+1; omega) _,.inl ⟨HOk.out,hn7.out.setCell HX7.out (by decide) _⟩⟩
end
end Sr
namespace Sr
section
def sgb (s:Bool): Int:=if s then -1 else 1
theorem tv_sgb (s:Bool)(e:Nat): tv (s,e)=sgb s*2 ^ e:=by cases s <;>simp[tv,sgb]
theorem sgb_not (s:Bool): sgb (!s) = -sgb s:=by cases s <;>simp[sgb]
structure OfInv (n0:Nat)(s:Bool)(m:Nat)(l:List Tm)(n e:Nat): Prop where
 val:lv l+sgb s*((n:Int)*2 ^ e)=sgb s*(n0:Int)
 naf:Naf l.reverse
 top:∀ t∈l,t.2<e
 gap:∀ t∈l,t.2+1=e→n % 2=0
 bd:n*2 ^ e≤2 ^ m
variable {n0 m n e:Nat} {s:Bool} {l:List Tm}
theorem OfInv.start (s:Bool)(h:n0≤2 ^ m): OfInv n0 s m [] n0 0 :=
 ⟨by simp[lv],by simp[Naf],by simp,by simp,by simpa using h⟩
theorem OfInv.le (h:OfInv n0 s m l n e)(hn:0<n): e≤m:=by
 have h1:2 ^ e≤2 ^ m:=Nat.le_trans (Nat.le_mul_of_pos_left _ hn) h.bd
 exact (Nat.pow_le_pow_iff_right (by omega)).1 h1
theorem pow2_succ (e:Nat): (2:Int) ^ (e+1)=2*2 ^ e:=by rw[Int.pow_succ];omega
theorem OfInv.even (h:OfInv n0 s m l n e)(hn:n % 2=0): OfInv n0 s m l (n / 2) (e+1) where
 val:=by
  have h1:((n / 2:Nat):Int)*2 ^ (e+1)=(n:Int)*2 ^ e:=by
   rw[pow2_succ,← Int.mul_assoc]
   congr 1; omega
  rw[h1];exact h.val
 naf:=h.naf
 top:=fun t ht=>by have:=h.top t ht; omega
 gap:=fun t ht he=>by have:=h.top t ht; omega
 bd:=by
  have:n / 2*2 ^ (e+1)=n*2 ^ e:=by rw[Nat.pow_succ,Nat.mul_comm (2 ^ e) 2,← Nat.mul_assoc];congr 1; omega
  rw[this];exact h.bd
theorem naf_snoc {t:Tm}(h:Naf l.reverse)(ht:∀ u∈l,u.2+1<t.2): Naf (l++[t]).reverse:=by
 rw[List.reverse_append]
 exact List.pairwise_cons.2 ⟨fun u hu=>ht u (List.mem_reverse.1 hu),h⟩
theorem OfInv.far (h:OfInv n0 s m l n e)(hn:n % 2=1): ∀ u∈l,u.2+1<e:=fun u hu=>by
 have h1:=h.top u hu
 rcases Nat.lt_or_ge (u.2+1) e with h2 | h2
 ·exact h2
 ·have:=h.gap u hu (by omega);omega
theorem OfInv.one (h:OfInv n0 s m l n e)(hn:n % 4=1): OfInv n0 s m (l++[(s,e)]) ((n - 1) / 2) (e+1) where
 val:=by
  have h1:(((n - 1) / 2:Nat):Int)*2 ^ (e+1)=((n:Int) - 1)*2 ^ e:=by
   rw[pow2_succ,← Int.mul_assoc]
   congr 1; omega
  have h2:=h.val
  rw[qI,h1]
  simp only[lv,tv_sgb,Int.sub_mul,Int.mul_sub,Int.one_mul] at h2 ⊢
  omega
 naf:=naf_snoc h.naf (h.far (by omega))
 top:=fun t ht=>by
  rcases List.mem_append.1 ht with ht | ht
  ·have:=h.top t ht; omega
  ·simp at ht; subst ht; dsimp only; omega
 gap:=fun t ht he=>by
  rcases List.mem_append.1 ht with ht | ht
  ·have:=h.top t ht; omega
  ·omega
 bd:=by
  have h1:(n - 1) / 2*2 ^ (e+1)=(n - 1)*2 ^ e:=by rw[Nat.pow_succ,Nat.mul_comm (2 ^ e) 2,← Nat.mul_assoc];congr 1; omega
  rw[h1]
  exact Nat.le_trans (Nat.mul_le_mul_right _ (by omega)) h.bd
theorem OfInv.three (h:OfInv n0 s m l n e)(hn:n % 4=3): OfInv n0 s m (l++[(!s,e)]) (n / 2+1) (e+1) where
 val:=by
  have h1:((n / 2+1:Nat):Int)*2 ^ (e+1)=((n:Int)+1)*2 ^ e:=by
   rw[pow2_succ,← Int.mul_assoc]
   congr 1; omega
  have h2:=h.val
  rw[qI,h1]
  simp only[lv,tv_sgb,sgb_not,Int.add_mul,Int.mul_add,Int.one_mul,Int.neg_mul] at h2 ⊢
  omega
 naf:=naf_snoc h.naf (h.far (by omega))
 top:=fun t ht=>by
  rcases List.mem_append.1 ht with ht | ht
  ·have:=h.top t ht; omega
  ·simp at ht; subst ht; dsimp only; omega
 gap:=fun t ht he=>by
  rcases List.mem_append.1 ht with ht | ht
  ·have:=h.top t ht; omega
  ·omega
 bd:=by
  have h1:(n / 2+1)*2 ^ (e+1)=(n+1)*2 ^ e:=by rw[Nat.pow_succ,Nat.mul_comm (2 ^ e) 2,← Nat.mul_assoc];congr 1; omega
  rw[h1]
  have hle:=h.le (show 0<n by omega)
  obtain⟨d,rfl⟩:∃ d,m=e+d:=⟨m - e,by omega⟩
  have h2:=h.bd
  rw[Nat.pow_add,Nat.mul_comm (2 ^ e)] at h2 ⊢
  have h3:=Nat.le_of_mul_le_mul_right h2 (Nat.pow_pos (by omega))
  refine Nat.mul_le_mul_right _ ?_
  cases d with
  | zero=>simp at h3; omega
  | succ d=>rw[Nat.pow_succ] at h3 ⊢;omega
theorem OfInv.done (h:OfInv n0 s m l 0 e): form (sgb s*(n0:Int))=l.reverse:=by
 refine zS h.naf ?_
 rw[ys]
 have:=h.val
 simpa using this
theorem log_bd' (n:Nat): ∃ m,n+1≤2 ^ m∧m<n+1:=by
 induction n with
 | zero=>exact⟨0,by simp,by omega⟩
 | succ n ih =>
   obtain⟨m,h1,h2⟩:=ih
   rcases Nat.lt_or_ge (n+1) (2 ^ m) with h | h
   ·exact⟨m,h,by omega⟩
   ·have hn:n+1=2 ^ m:=Nat.le_antisymm h1 h
    refine⟨m+1,?_,by omega⟩
    rw[Nat.pow_succ];have:0<2 ^ m:=Nat.pow_pos (by omega);omega
theorem log_bd (n:Nat): ∃ m,n≤2 ^ m∧(0<n→m<n):=by
 cases n with
 | zero=>exact⟨0,by simp,by omega⟩
 | succ n=>obtain⟨m,h1,h2⟩:=log_bd' n; exact⟨m,h1,fun _=>h2⟩
end
section
theorem height_le:∀ (n:Nat) (x:Int),x.natAbs≤n→height x≤n:=by
 intro n
 induction n with
 | zero =>
   intro x h
   have:x=0:=by omega
   subst this
   rw[qs];simp[exps,j5,maxl]
 | succ n ih =>
   intro x h
   rw[qs]
   have key:∀ l:List Nat,(∀ e∈l,e∈exps x)→maxl (l.map fun (e:Nat)=>height (e:Int)+1)≤n+1:=by
    intro l
    induction l with
    | nil=>intro _; simp[maxl]
    | cons e l ihl =>
      intro hl
      have h1:=qz (hl e (by simp))
      have h2:=ih (e:Int) (by omega)
      have h3:=ihl fun a ha=>hl a (List.mem_cons_of_mem _ ha)
      simp only[List.map_cons,maxl];omega
   exact key _ fun _ h=>h
variable {x:Int}
theorem height_step {n:Nat}(h:∀ e∈exps x,height (e:Int)≤n): height x≤n+1:=by
 rw[qs]
 have key:∀ l:List Nat,(∀ e∈l,e∈exps x)→maxl (l.map fun (e:Nat)=>height (e:Int)+1)≤n+1:=by
  intro l
  induction l with
  | nil=>intro _; simp[maxl]
  | cons e l ihl =>
    intro hl
    have h2:=h e (hl e (by simp))
    have h3:=ihl fun a ha=>hl a (List.mem_cons_of_mem _ ha)
    simp only[List.map_cons,maxl];omega
 exact key _ fun _ h=>h
theorem small_exp (h:x.natAbs≤1000){e:Nat}(he:e∈exps x): e≤10:=by
 obtain⟨t,ht,rfl⟩:=List.mem_map.1 he
 exact small_form h t ht
theorem allowed_exps (h:∀ e∈exps x,e≤290): allowed x:=by
 have hp:∀ {p:Nat},IsPart x p→p≤290:=fun {p} hp=>by
  induction hp with
  | here he=>exact h _ he
  | step _ he ih=>have:=qz he; simp at this; omega
 refine⟨?_,fun p hm=>?_,?_,?_⟩
 ·have:=yW (m:=290) (jb x) (fun t ht=>h t.2 (mem_exps ht));omega
 ·have:=yW (m:=10) (jb (p:Int)) (small_form (by have:=hp (mem_parts.1 hm);omega));omega
 ·have:=jT (parts x) (List.range 291) (qE x) (fun p hm=>List.mem_range.2 (by have:=hp (mem_parts.1 hm);omega))
  simp at this; omega
 ·have:height x≤11+1:=height_step fun e he=>height_step fun f hf=>height_le 10 _ (by have:=small_exp (x:=(e:Int)) (by have:=h e he; omega) hf; omega)
  omega
theorem ya (h:x.natAbs≤2 ^ 240): allowed x:=by
 refine allowed_exps fun e he=>?_
 obtain⟨t,ht,rfl⟩:=List.mem_map.1 he
 have hc:(x.natAbs:Int)≤2 ^ 240:=by exact_mod_cast h
 have h2:(2:Int) ^ 241=2*2 ^ 240:=Int.pow_succ' _ _
 have hp:=jk 240
 generalize (2:Int) ^ 289=B at *
 refine Nat.le_trans ?_ (by omega:241≤290)
 exact yi (x:=x) (m:=241) (by rw[h2];omega) (by rw[h2];omega) t ht
end
end Sr

/- Texts of this claim, joined: Part. -/
import Derived.Test.YtabafgphmbdpgaaGreatDoorTe1
import Derived.Test.YtabafgphmbdpgaaGreatDoorTe18
import Derived.Deep.OwnRows
set_option maxHeartbeats 8000000
set_option maxRecDepth 100000
namespace Sr
open Go Go.Proofs Go.RowKit Go.Maps Go.WideMaps
section
theorem info4:(Tryz.prog.info? 4).map (fun i=>(i.zero,i.size,i.bytes))=some (some (.bool false),1,1):=by kernel_rfl
theorem un172:Tryz.prog.underlying 172=some (.slice 4):=by kernel_rfl
variable {W w1:World} {e:TypeId} {g n cap bu:Nat} {xs:List Value} {v:Value}
theorem set1 (i:Nat)(v:Value)(h:W.ownsRow 0 e 1 (.slice (some ⟨g,0,none⟩) n cap) n xs):
 (W.setCell ⟨g,i,none⟩ v).ownsRow 0 e 1 (.slice (some ⟨g,0,none⟩) n cap) n (xs.set i v):=by
 obtain⟨h1,⟨h2,_⟩ | ⟨g',cap',cur,hv,_,h4,h5,h6,h7,h8⟩⟩:=h
 ·cases h2
 ·cases hv
  have k1:=heap_setCell_same W g i cur e v h4
  exact⟨by simpa using h1,.inr ⟨g,cap,_,rfl,Nat.zero_le _,k1,h5,h6,by simp[h7],by rw[Array.toList_setIfInBounds,List.take_set,h8]⟩⟩
theorem yG (h:W.ownsRow 0 e 1 (.slice (some ⟨g,0,none⟩) n cap) n xs)(i:Nat): W.frozen? ⟨g,i,none⟩=false:=by
 obtain⟨h1,⟨h2,_⟩ | ⟨g',cap',cur,hv,_,h4,_⟩⟩:=h
 ·cases h2
 ·cases hv; exact jF h4 i
theorem row1_at (h:W.ownsRow 0 e 1 (.slice (some ⟨g,0,none⟩) n cap) n xs){i:Nat}(hi:xs[i]? = some v): W.cell? ⟨g,i,none⟩=some v:=by
 obtain⟨g',cap',hv,hc⟩:=qS h hi
 cases hv; exact hc
theorem row1_at' {n':Nat}(h:W.ownsRow 0 e 1 (.slice (some ⟨g,0,none⟩) n cap) n' xs){i:Nat}(hi:xs[i]? = some v): W.cell? ⟨g,i,none⟩=some v:=by
 obtain⟨g',cap',hv,hc⟩:=qS h hi
 cases hv; exact hc
theorem made_row (e:TypeId)(z:Value)(n:Nat)(hn:n≤maxLen): (W.alloc (.cells (madeCells #[z] n) e)).ownsRow 0 e 1 (.slice (some ⟨W.heap.size,0,none⟩) n n) n (List.replicate n z):=by
 refine⟨by simp,.inr ⟨W.heap.size,n,_,rfl,Nat.zero_le _,jD _ _,jR _,hn,by rw[size_madeCells];simp,?_⟩⟩
 refine List.ext_getElem? fun i=>?_
 rw[List.getElem?_replicate]
 by_cases hi:i<n
 ·rw[List.getElem?_take_of_lt (by omega),if_pos hi]
  have:=(World.rowIs_made W z n e)
  simp[madeCells,hi,Nat.mod_one]
 ·rw[if_neg hi,List.getElem?_eq_none]
  rw[List.length_take];omega
theorem made_set (e:TypeId)(z v:Value)(n i:Nat)(hn:n≤maxLen): (W.alloc (.cells ((madeCells #[z] n).setIfInBounds i v) e)).ownsRow 0 e 1 (.slice (some ⟨W.heap.size,0,none⟩) n n) n ((List.replicate n z).set i v):=by
 obtain⟨h1,⟨h2,_⟩ | ⟨g',cap',cur,hv,_,h4,h5,h6,h7,h8⟩⟩:=made_row (W:=W) e z n hn
 ·cases h2
 ·cases hv
  rw[jD] at h4
  cases h4
  exact⟨by simp,.inr ⟨W.heap.size,n,_,rfl,Nat.zero_le _,jD _ _,h5,h6,by simp[h7],by rw[Array.toList_setIfInBounds,List.take_set,h8]⟩⟩
theorem rows_set {i:Nat}{u:Value}{l:List PT}(hne:∀ b,u.ownBlock=some b→b≠g)(h:TRow W u l): TRow (W.setCell ⟨g,i,none⟩ v) u l :=
 jJ h fun b e=>jS _ _ _ _ (hne b e)
def URow (W:World)(g n:Nat)(u:List Bool): Prop:=W.ownsRow 0 4 1 (.slice (some ⟨g,0,none⟩) n n) n (u.map .bool)
theorem URow.at {u:List Bool}(h:URow W g n u){i:Nat}{b:Bool}(hi:u[i]? = some b): W.cell? ⟨g,i,none⟩=some (.bool b):=row1_at h (by rw[List.getElem?_map,hi];rfl)
theorem URow.set {W:World}{g n:Nat}{u:List Bool}(h:URow W g n u)(i:Nat)(b:Bool): URow (W.setCell ⟨g,i,none⟩ (.bool b)) g n (u.set i b):=by
 have:=set1 i (.bool b) h
 unfold URow; rw[List.map_set];exact this
structure PM (w1:World)(bu k:Nat)(u:List Bool)(wr:World): Prop where
 fr:Fr [bu] w1 wr
 row:URow wr bu (k+1) u
theorem PM.set {w1 wr:World}{bu k:Nat}{u:List Bool}(h:PM w1 bu k u wr)(i:Nat)(b:Bool): PM w1 bu k (u.set i b) (wr.setCell ⟨bu,i,none⟩ (.bool b)) :=
 ⟨⟨h.fr.os,h.fr.tape,h.fr.output,by have:=h.fr.size; simpa using this,fun c hc hn=>(jS _ _ _ _ (by show c≠bu; simpa using hn)).trans (h.fr.block c hc hn)⟩,h.row.set i b⟩
theorem PM.below {wr w':World}{k:Nat}{u:List Bool}(h:PM w1 bu k u wr)(hb:Below wr.heap.size wr w'): PM w1 bu k u w' :=
 ⟨⟨hb.os.trans h.fr.os,hb.tape.trans h.fr.tape,hb.output.trans h.fr.output,Nat.le_trans h.fr.size hb.size,fun c hc hn=>(hb.block c (Nat.lt_of_lt_of_le hc h.fr.size)).trans (h.fr.block c hc hn)⟩,jK h.row hb⟩
theorem PM.nb {w1 wr:World}{bu k:Nat}{u:List Bool}(h:PM w1 bu k u wr){nb:Nat}{pv sv:Value}{fl:List Value}{x:Int}(hn:NB w1 nb pv sv fl x)(hu:∃ c,w1.heap[bu]? = some (.cells c 4 (0,0))): NB wr nb pv sv fl x :=
 hn.kept fun b c T hb ht=>h.fr.block b (jA hb).1 (by
  obtain⟨c',hc'⟩:=hu
  have:b≠bu:=jI hb hc' (by rintro rfl; rcases ht with h | h | h <;>cases h)
  simpa using this)
theorem PM.trow {wr:World}{k:Nat}{u:List Bool}(h:PM w1 bu k u wr)(hu:∃ c,w1.heap[bu]? = some (.cells c 4 (0,0))){l:List PT}(hr:TRow w1 v l): TRow wr v l :=
 jJ hr fun b e=>h.fr.block b (jP hr e) (by
  obtain⟨c',hc'⟩:=hu
  obtain⟨c,hc⟩:=jO hr e
  have:b≠bu:=jI hc hc' (by decide)
  simpa using this)
theorem PM.drew {w1 wr:World}{bu k:Nat}{u:List Bool}(h:PM w1 bu k u wr): Hid (PM w1 bu k u wr.drew):=h.below ((Below.refl _ _).drew)
def partX (wr:World)(k:Nat): World:=((wr.alloc (.cells #[.slice none 0 0,.slice none 0 0] 158)).alloc (.cells (madeCells #[.int .i64 0] k) 3)).alloc (.cells #[.slice (some ⟨wr.heap.size+1,0,none⟩) k k] 80)
theorem partX_size (wr:World)(k:Nat): (partX wr k).heap.size=wr.heap.size+3:=by simp[partX]
theorem partX_below (wr:World)(k:Nat): Below wr.heap.size wr (partX wr k):=(((Below.refl _ _).alloc (jR _) _).alloc (by simp) _).alloc (by simp; omega) _
theorem partX_box (wr:World)(k:Nat): (partX wr k).heap[wr.heap.size+1+1]? = some (.cells #[.slice (some ⟨wr.heap.size+1,0,none⟩) k k] 80 (0,0)):=by unfold partX; exact j7 (by simp)
structure PL (w3:World)(x:Int)(q k bp bn i:Nat)(ds:List Nat)(ov:Value)(fl:List Value)(wr:World): Prop where
 fr:Fr [bp,bn] w3 wr
 obj:wr.heap[bn]? = some (.cells #[ov,.slice none 0 0] 158 (0,0))
 orow:wr.ownsRow 0 111 1 ov (sel x q i).length fl
 own:∀ b,ov.ownBlock=some b→w3.heap.size≤b
 rows:∀ (j r:Nat),(sel x q i)[j]? = some r→∃ u,fl[j]? = some u∧TRow wr u (atPl (Sr.parts (q:Int)) (r:Int))
 prow:wr.ownsRow 0 3 1 (.slice (some ⟨bp,0,none⟩) k k) k (ds.map fun (i:Nat)=>.int .i64 (i:Nat))
 pls:Pls x q k i ds
theorem partX_start (wr:World){k:Nat}(hk:k≤maxLen)(x:Int)(q:Nat): PL (partX wr k) x q k (wr.heap.size+1) wr.heap.size 0 (List.replicate k 0) (.slice none 0 0) [] (partX wr k):=by
 have hs:sel x q 0=[]:=by simp[sel]
 refine⟨Fr.refl _ _,?_,by rw[hs];exact⟨rfl,.inl ⟨rfl,rfl⟩⟩,fun b h=>(by cases h),fun j r h=>(by rw[hs] at h; simp at h),?_,Pls.start x q k⟩
 ·unfold partX; rw[jE _ _ (by simp; omega),jE _ _ (by simp)];exact j7 rfl
 ·have h:=made_row (W:=wr.alloc (.cells #[.slice none 0 0,.slice none 0 0] 158)) 3 (.int .i64 0) k hk
  rw[jY] at h
  rw[List.map_replicate]
  exact World.ownsRow.alloc h _
section
variable {w3 wr:World} {x:Int} {q k bp bn i:Nat} {ds:List Nat} {ov:Value} {fl:List Value}
theorem PL.no (S:PL w3 x q k bp bn i ds ov fl wr){p:Nat}(hi:(Sr.parts x)[i]? = some p)(hp:¬ IsPart (q:Int) p): PL w3 x q k bp bn (i+1) ds ov fl wr :=
 ⟨S.fr,S.obj,by rw[sel_no hi hp];exact S.orow,S.own,by rw[sel_no hi hp];exact S.rows,S.prow,S.pls.no hi hp⟩
theorem PL.keep (S:PL w3 x q k bp bn i ds ov fl wr){b:Nat}(hb:b<w3.heap.size)(h1:b≠bp)(h2:b≠bn): wr.heap[b]? = w3.heap[b]?:=S.fr.block b hb (by simp[h1,h2])
theorem PL.step (S:PL w3 x q k bp bn i ds ov fl wr){p:Nat}(hk:(Sr.parts x)[k]? = some q)(hi:(Sr.parts x)[i]? = some p)(hik:i<k)(hp:IsPart (q:Int) p)(lp:bp<w3.heap.size)(ln:bn<w3.heap.size){c:Nat}(hc:c=(sel x q i).length){w6 w7:World}{u:Value}{o:Obj} 
 (hb:Below wr.heap.size (wr.setCell ⟨bp,i,none⟩ (.int .i64 (c:Nat))) w6) (hu:TRow w6 u (atPl (Sr.parts (q:Int)) (p:Int))) (hown:w7.ownsRow 0 111 1 (.slice (some ⟨g,0,none⟩) (c+1) cap) (c+1) (fl++[u])) (hg:(w6.alloc o).grownBy w7 ov.ownBlock) (hat:ov.ownBlock=some g∨g=w6.heap.size+1) :
 w7.cell? ⟨bn,0,none⟩=some ov∧w7.frozen? ⟨bn,0,none⟩=false∧PL w3 x q k bp bn (i+1) (ds.set i c) (.slice (some ⟨g,0,none⟩) (c+1) cap) (fl++[u]) (w7.setCell ⟨bn,0,none⟩ (.slice (some ⟨g,0,none⟩) (c+1) cap)):=by
 have hsz:=S.fr.size
 have hs6:wr.heap.size≤w6.heap.size:=by have:=hb.size; simpa using this
 have hs7:w6.heap.size+1≤w7.heap.size:=by have:=hg.size; simpa using this
 obtain⟨pc,hpc⟩:=jO S.prow (b:=bp) rfl
 have nnp:bn≠bp:=jI S.obj hpc (by decide)
 have novn:ov.ownBlock≠some bn:=fun e=>by
  obtain⟨c,hc⟩:=jO S.orow e
  exact jI hc S.obj (by decide) rfl
 have novp:ov.ownBlock≠some bp:=fun e=>by
  obtain⟨c,hc⟩:=jO S.orow e
  exact jI hc hpc (by decide) rfl
 have k6:∀ b,b<wr.heap.size→b≠bp→w6.heap[b]? = wr.heap[b]?:=fun b h1 h2=>(hb.block b h1).trans (jS _ _ _ _ h2)
 have k7:∀ b,b<wr.heap.size→b≠bp→ov.ownBlock≠some b→w7.heap[b]? = wr.heap[b]?:=fun b h1 h2 h3 =>
  (hg.block b (by simp; omega) (fun e=>h3 e.symm)).trans ((jE _ _ (by omega)).trans (k6 b h1 h2))
 have h7:w7.heap[bn]? = some (.cells #[ov,.slice none 0 0] 158 (0,0)):=(k7 _ (by omega) nnp novn).trans S.obj
 have keep:∀ b,b<wr.heap.size→b≠bp→ov.ownBlock≠some b→b≠bn→(w7.setCell ⟨bn,0,none⟩ (.slice (some ⟨g,0,none⟩) (c+1) cap)).heap[b]? = wr.heap[b]?:=fun b h1 h2 h3 h4 =>
  (jS _ _ _ _ h4).trans (k7 b h1 h2 h3)
 have hfl:fl.length=(sel x q i).length:=by have:=S.orow.1; omega
 have hsel:=sel_yes hi hp
 have hprow5:=set1 i (.int .i64 (c:Nat)) S.prow
 refine⟨by rw[jB h7];rfl,jF h7 0,⟨?_,heap_setCell_same w7 bn 0 _ 158 _ h7,?_,?_,?_,?_,by rw[hc];exact S.pls.yes hk hi hik hp⟩⟩
 ·refine⟨(show w7.os=w6.os from hg.os).trans ((show w6.os=wr.os from hb.os).trans S.fr.os),(show w7.tape=w6.tape from hg.tape).trans ((show w6.tape=wr.tape from hb.tape).trans S.fr.tape),(show w7.output=w6.output from hg.output).trans ((show w6.output=wr.output from hb.output).trans S.fr.output),by simp; omega,fun b h1 h2=>?_⟩
  have h3:b≠bp∧b≠bn:=by simpa using h2
  rw[keep b (by omega) h3.1 (fun e=>by have:=S.own b e; omega) h3.2]
  exact S.fr.block b h1 h2
 ·rw[hsel,List.length_append,← hc]
  exact jJ hown fun b e=>jS _ _ _ _ (by
   show b≠bn
   intro e5
   obtain⟨c,hc⟩:=jO hown e
   exact jI hc h7 (by decide) e5)
 ·intro b e
  have e':b=g:=by simpa [Value.ownBlock] using e.symm
  subst e'
  rcases hat with h | h
  ·exact S.own b h
  ·omega
 ·intro j r hr
  rw[hsel] at hr
  by_cases hj:j<(sel x q i).length
  ·rw[List.getElem?_append_left hj] at hr
   obtain⟨u',h1,h2⟩:=S.rows j r hr
   refine⟨u',by rw[List.getElem?_append_left (by omega)];exact h1,jJ h2 fun b e=>?_⟩
   obtain⟨c2,hc2⟩:=jO h2 e
   refine keep b (jP h2 e) (jI hc2 hpc (by decide)) (fun e2=>?_) (jI hc2 S.obj (by decide))
   obtain⟨c3,hc3⟩:=jO S.orow e2
   exact jI hc2 hc3 (by decide) rfl
  ·have hjl:j=(sel x q i).length:=by
    have:=(jL hr).1
    simp at this; omega
   subst hjl
   simp at hr; subst hr
   refine⟨u,by rw[List.getElem?_append_right (by omega)];simp[hfl],jJ hu fun b e=>?_⟩
   obtain⟨c2,hc2⟩:=jO hu e
   have hlt:=jP hu e
   refine (jS _ _ _ _ ?_).trans ((hg.block b (by simp; omega) ?_).trans (jE _ _ hlt))
   ·show b≠bn
    have h6:w6.heap[bn]? = some (.cells #[ov,.slice none 0 0] 158 (0,0)):=(k6 _ (by omega) nnp).trans S.obj
    exact jI hc2 h6 (by decide)
   ·intro e2
    obtain⟨c3,hc3⟩:=jO S.orow e2.symm
    have h4:=(k6 b (jP S.orow e2.symm) (by rintro rfl; exact novp e2.symm)).trans hc3
    exact jI hc2 h4 (by decide) rfl
 ·rw[List.map_set]
  refine jJ hprow5 fun b e=>?_
  have e':b=bp:=by simpa [Value.ownBlock] using e.symm
  subst e'
  refine (jS _ _ _ _ (by show b≠bn; exact nnp.symm)).trans ((hg.block b (by simp; omega) (fun e2=>novp e2.symm)).trans ((jE _ _ (by omega)).trans (hb.block b (by omega))))
end
theorem part_calls {nb:Nat}{pv sv:Value}{fl:List Value}{x:Int}(h:NB W nb pv sv fl x)(hal:allowed x){k q:Nat}(hq:(Sr.parts x)[k]? = some q):
 Calls Tryz.prog 157 #[.pointer (some ⟨nb,0,none⟩),.int .i64 (k:Nat)] W fun e W'=>∃ r,e=.returned (.agg #[.pointer r])∧Hid (IsN W' (.agg #[.pointer r]) (q:Int))∧Hid (Below W.heap.size W W'):=by
 have HAl:=jH hal
 have hkl:k<(Sr.parts x).length:=(jL hq).1
 have hkb:k<1999:=by have:=hal.2.2.1; omega
 obtain⟨pa,pc,hpv⟩:∃ pa pc,pv=.slice pa (Sr.parts x).length pc:=by
  obtain⟨_,⟨q1,q2⟩ | ⟨g,cap,cur,q1,_⟩⟩:=h.parts
  ·exact⟨none,0,by rw[q1,q2]⟩
  ·exact⟨_,cap,q1⟩
 obtain⟨np,hnp⟩:∃ np,np=(Sr.parts x).length:=⟨_,rfl⟩
 rw[← hnp] at hpv hkl
 subst hpv
 have HNP:=jH hnp
 obtain⟨u0,hu0,hr0⟩:=h.rows k q hq
 obtain⟨gp,cp,heq,cq⟩:=qS h.parts hu0
 obtain⟨e1,e2,e3⟩:=Value.slice.inj heq
 subst e1
 clear e2 e3 heq
 have cnb:W.cell? ⟨nb,0,none⟩=some (.slice (some ⟨gp,0,none⟩) np pc):=by rw[jB h.obj];rfl
 have hnbl:nb<W.heap.size:=(jA h.obj).1
 have hnbs:nb≠W.heap.size:=by omega
 have hgpl:gp<W.heap.size:=jg cq
 have hgps:gp≠W.heap.size:=by omega
 have k0:(0:Int)≤(k:Int):=Int.natCast_nonneg k
 have kz:(k:Int)<(np:Int):=by omega
 obtain⟨ra,rc,rfl,_,_⟩:=hr0.shape
 obtain⟨nr,hnr⟩:∃ nr,nr=(atPl (Sr.parts x) (q:Int)).length:=⟨_,rfl⟩
 rw[← hnr] at cq hu0
 have HNr:Hid (nr=(form (q:Int)).length):=by show _=_; rw[hnr];simp[atPl]
 have HQ:=jH hq
 have HN:=jH h
 have HU0:=jH hu0
 clear hal hnp hr0 hu0 hnr hq h
 by_cases h0:nr=0
 ·have h0z:((nr:Int)==0)=true:=by simp[h0]
  have HQ0:Hid (q=0):=by
   have h1:form (q:Int)=[]:=List.length_eq_zero_iff.1 (by rw[← HNr.out];exact h0)
   have:=form_nil h1
   show q=0; omega
  go_enter Tryz.func157,Tryz.ntmps157
  go_wp2_with fail
  refine bodyPost_ret (v:=.agg #[.pointer none]) (by simp[results,Tryz.results157,go_sem]) rfl ?_
  refine⟨none,rfl,?_,(Below.refl _ _).alloc (jR _) _⟩
  rw[HQ0.out];exact⟨jX,.inl ⟨rfl,rfl⟩⟩
 ·have h0z:((nr:Int)==0)=false:=by simpa using h0
  have H0:=jH h0
  have hw1:IntKind.i64.wrap ((k:Int)+1)=(k:Int)+1:=by rw[IntKind.wrap_i64];omega
  have hmk1:∀ w,(Instr.makeSlice 172 (.int .i64 ((k:Int)+1)) (.int .i64 ((k:Int)+1))).run Tryz.prog w=.ok (.slice (some ⟨w.heap.size,0,none⟩) (k+1) (k+1)) (w.alloc (.cells (madeCells #[.bool false] (k+1)) 4)):=fun w =>
   run_make_row' (P:=Tryz.prog) 172 4 (.bool false) 1 un172 info4 rfl .i64 .i64 (k+1) (by omega) (by omega) w
  have hrowM:=made_row (W:=W.alloc (.cells #[.pointer none] 26)) 4 (.bool false) (k+1) (by simp only[maxLen];omega)
  rw[jY] at hrowM
  have cM:((W.alloc (.cells #[.pointer none] 26)).alloc (.cells (madeCells #[.bool false] (k+1)) 4)).cell? ⟨W.heap.size+1,k,none⟩=some (.bool false):=row1_at hrowM (by simp)
  have fM:=yG hrowM k
  have M0:=jH (Mk.start HQ.out)
  have k1z:(k:Int)<((k:Int)+1):=by omega
  clear hrowM h0
  have hrow1:=made_set (W:=W.alloc (.cells #[.pointer none] 26)) 4 (.bool false) (.bool true) (k+1) k (by simp only[maxLen];omega)
  rw[jY] at hrow1
  obtain⟨w1,hw1'⟩:∃ w1,w1=(W.alloc (.cells #[.pointer none] 26)).alloc (.cells ((madeCells #[.bool false] (k+1)).setIfInBounds k (.bool true)) 4):=⟨_,rfl⟩
  rw[← hw1'] at hrow1
  have HW1:=jH hw1'
  have S0:Hid (PM w1 (W.heap.size+1) k ((List.replicate (k+1) false).set k true) w1):=⟨Fr.refl _ _,by unfold URow; rw[List.map_set,List.map_replicate];exact hrow1⟩
  clear hw1' hrow1
  go_enter Tryz.func157,Tryz.ntmps157
  go_wp2_with fail
  clear hmk1 cM fM cnb cq
  have hw1':=HW1.out
  rw[← hw1']
  have HB1:Hid (Below W.heap.size W w1):=by show Below _ _ _; rw[hw1'];exact ((Below.refl _ _).alloc (jR _) _).alloc (by simp) _
  have hz1:w1.heap.size=W.heap.size+2:=by rw[hw1'];simp
  have HX4:Hid (w1.heap[W.heap.size]? = some (.cells #[.pointer none] 26 (0,0))):=by show _=_; rw[hw1',jE _ _ (by simp)];exact jD W _
  have HXu:Hid (∃ c,w1.heap[W.heap.size+1]? = some (.cells c 4 (0,0))):=⟨_,by rw[hw1'];exact j7 (by simp)⟩
  have HN1:=jH (HN.out.below HB1.out)
  clear hw1' HW1
  go_loopg [6] (k+1) (fun g1 vi wr=>∃ (r:Nat) (u:List Bool),vi=.int .i64 ((r:Int) - 1)∧r≤k+1∧r≤g1∧Hid (PM w1 (W.heap.size+1) k u wr)∧Hid (Mk x q k r u))
  case atStart=>exact⟨k+1,_,by go_num,by omega,by omega,S0,M0⟩
  case round =>
   clear S0 M0
   obtain⟨r,u,rfl,hrk,hg,HS,HM⟩:=hrel
   by_cases hr:0<r
   ·obtain⟨i,rfl⟩:∃ i,r=i+1:=⟨r - 1,by omega⟩
    have hi:(((i+1:Nat):Int) - 1)=(i:Int):=by omega
    rw[hi]
    clear hi
    have i0:(0:Int)≤(i:Int):=Int.natCast_nonneg i
    have iz:(i:Int)<(np:Int):=by omega
    have hnw:=HS.out.nb HN1.out HXu.out
    obtain⟨pi,hpi⟩:∃ pi,(Sr.parts x)[i]? = some pi:=⟨_,jG (by have:=HNP.out; omega)⟩
    obtain⟨ui,hui,hri⟩:=hnw.rows i pi hpi
    obtain⟨g9,c9,hq9,ci⟩:=qS hnw.parts hui
    obtain⟨e9,e9b,e9c⟩:=Value.slice.inj hq9
    cases e9
    clear hq9 e9b e9c
    have cnb:wr.cell? ⟨nb,0,none⟩=some (.slice (some ⟨gp,0,none⟩) np pc):=by rw[jB hnw.obj];rfl
    obtain⟨ia,ic,rfl,_,_⟩:=hri.shape
    obtain⟨ni,hni⟩:∃ ni,ni=(atPl (Sr.parts x) (pi:Int)).length:=⟨_,rfl⟩
    have hnib:ni≤300:=by rw[hni];have:=HAl.out.2.1 pi (jM hpi);simpa [atPl] using this
    rw[← hni] at ci
    have HNi:=jH hni
    have HPi:=jH hpi
    have HRi:=jH hri
    have HRi1:Hid (TRow w1 (.slice ia ni ic) (atPl (Sr.parts x) (pi:Int))):=by
     obtain⟨u1,q1,q2⟩:=HN1.out.rows i pi HPi.out
     rw[hui] at q1; cases q1
     rw[HNi.out];exact q2
    have I0:=jH HM.out.inner
    have HLi:Hid (ni=(exps (pi:Int)).length):=by show _=_; rw[HNi.out];simp[atPl,exps]
    clear hnw hui hri hni hpi HRi
    go_wp2_with fail
    go_loopg [42] ni (fun g2 vj wq=>∃ (m:Nat) (u2:List Bool),vj=.int .i64 m∧m≤ni∧ni - m≤g2∧Hid (PM w1 (W.heap.size+1) k u2 wq)∧Hid (MkI x q k i m u2))
    case atStart=>exact⟨0,u,rfl,by omega,by omega,HS,I0⟩
    case round =>
     clear I0 HS HM ci cnb
     obtain⟨m,u2,rfl,hmn,hg2,HS2,HM2⟩:=hrel
     by_cases hm:m<ni
     ·have hmz:(m:Int)<(ni:Int):=by omega
      have m0:(0:Int)≤(m:Int):=Int.natCast_nonneg m
      have hmw:IntKind.i64.wrap ((m:Int)+1)=(m:Int)+1:=IntWalk.i64_in _ (by omega)
      obtain⟨e,he⟩:∃ e,(exps (pi:Int))[m]? = some e:=⟨_,jG (by rw[← HLi.out];exact hm)⟩
      obtain⟨t,ht,rfl⟩:∃ t,(form (pi:Int))[m]? = some t∧t.2=e:=by
       unfold exps at he; rw[List.getElem?_map] at he; exact Option.map_eq_some_iff.1 he
      obtain⟨sx,e⟩:=t
      have hap:(atPl (Sr.parts x) (pi:Int))[m]? = some (sx,(Sr.parts x).idxOf e):=by unfold atPl; rw[List.getElem?_map,ht];rfl
      have hep:e∈Sr.parts x:=mem_parts.2 (.step (mem_parts.1 (jM HPi.out)) (jM he))
      have hei:(Sr.parts x).idxOf e<i:=(parts_lt (qY hep) HPi.out).2 (by have:=qz (jM he);simpa using this)
      have hrw:=HS2.out.trow HXu.out HRi1.out
      obtain⟨_,_,ea,_,sa⟩:=hrw.shape
      obtain⟨ga,hga,cx0,cx1⟩:=sa m _ hap
      obtain⟨q1,q2,q3⟩:=Value.slice.inj ea
      subst hga
      subst q1
      clear q2 q3 ea sa hrw
      dsimp only at cx0 cx1
      obtain⟨ba,hba⟩:=HM2.out.mk'.bool (j:=(Sr.parts x).idxOf e) (by omega)
      obtain⟨bi,hbi⟩:=HM2.out.mk'.bool (j:=i) (by omega)
      have HNx:=HM2.out.step HPi.out he hba hbi
      have cba:=HS2.out.row.at hba
      have cbi:=HS2.out.row.at hbi
      have fba:=yG HS2.out.row ((Sr.parts x).idxOf e)
      obtain⟨a,ha⟩:∃ a,a=(Sr.parts x).idxOf e:=⟨_,rfl⟩
      rw[← ha] at cx1 cba fba hei HNx
      have a0:(0:Int)≤(a:Int):=Int.natCast_nonneg a
      have az:(a:Int)<(k:Int)+1:=by omega
      have iz2:(i:Int)<(k:Int)+1:=by omega
      have hul:W.heap.size+1<wr.heap.size:=jg cba
      have hus:W.heap.size+1≠wr.heap.size:=by omega
      have hgl:ga<wr.heap.size:=jg cx0
      have hgs:ga≠wr.heap.size:=by omega
      have HPM:=fun (b:Bool)=>jH ((HS2.out.set a b).below (w':=((wr.setCell ⟨W.heap.size+1,a,none⟩ (.bool b)).alloc (.cells #[.bool sx,.int .i64 (a:Nat)] 154))) ((Below.refl _ _).alloc (jR _) _))
      have HNX:=jH HNx
      clear ht he hap hep hba hbi ha HNx
      cases ba <;>cases bi
      all_goals
       go_wp2_with fail
       go_region
       go_wp2_with fail
       go_roundg (ni - (m+1))
       case measure=>omega
       case rel=>exact⟨m+1,_,by go_num,by omega,by omega,(HPM _).out.drew,HNX⟩
     ·have hmz:¬ ((m:Int)<(ni:Int)):=by omega
      have HMk:Hid (Mk x q k i u2):=HM2.out.done' HPi.out (by rw[← HLi.out];omega)
      have hiw:IntKind.i64.wrap ((i:Int) - 1)=(i:Int) - 1:=IntWalk.i64_in _ (by omega)
      go_wp2_with fail
      go_roundg i
      case measure=>omega
      case rel=>exact⟨i,u2,rfl,by omega,by omega,HS2,HMk⟩
   ·obtain rfl:r=0:=by omega
    have hmk2:∀ w,(Instr.makeSlice 80 (.int .i64 (k:Int)) (.int .i64 (k:Int))).run Tryz.prog w=.ok (.slice (some ⟨w.heap.size,0,none⟩) k k) (w.alloc (.cells (madeCells #[.int .i64 0] k) 3)):=fun w =>
     run_make_row' (P:=Tryz.prog) 80 3 (.int .i64 0) 8 un80 info3 rfl .i64 .i64 k (by omega) (by omega) w
    have hm1:¬ ((0:Int)≤((0:Nat):Int) - 1):=by omega
    go_wp2_with fail
    clear hmk2 hm1
    have HMf:=jH HM.out
    have HPMf:=jH HS.out
    have P0:=jH (partX_start wr (k:=k) (by simp only[maxLen];omega) x q)
    obtain⟨w2,hw2⟩:∃ w2,w2=wr:=⟨_,rfl⟩
    obtain⟨w3,hw3⟩:∃ w3,w3=partX wr k:=⟨_,rfl⟩
    rw[show ((wr.alloc (.cells #[.slice none 0 0,.slice none 0 0] 158)).alloc (.cells (madeCells #[.int .i64 0] k) 3)).alloc (.cells #[.slice (some ⟨wr.heap.size+1,0,none⟩) k k] 80)=w3 from hw3.symm]
    rw[← hw3] at P0
    rw[← hw2] at P0 HPMf ⊢
    rw[← hw2] at hw3
    have hz3:w3.heap.size=w2.heap.size+3:=by rw[hw3,partX_size]
    have HB3:Hid (Below w2.heap.size w2 w3):=by show Below _ _ _; rw[hw3];exact partX_below w2 k
    have HX10:Hid (w3.heap[w2.heap.size+1+1]? = some (.cells #[.slice (some ⟨w2.heap.size+1,0,none⟩) k k] 80 (0,0))):=by show _=_; rw[hw3];exact partX_box w2 k
    have HN2:=jH (HPMf.out.nb HN1.out HXu.out)
    have hz2:w1.heap.size≤w2.heap.size:=HPMf.out.fr.size
    clear hw3 hw2 HS HM
    go_loopg [68] k (fun g1 vi wr=>∃ (i:Nat) (ds:List Nat) (ov:Value) (fl2:List Value),vi=.int .i64 i∧i≤k∧k - i≤g1∧Hid (PL w3 x q k (w2.heap.size+1) w2.heap.size i ds ov fl2 wr))
    case atStart=>exact⟨0,_,_,[],rfl,by omega,by omega,P0⟩
    case round =>
     clear P0
     obtain⟨i,ds,ov,fl2,rfl,hik,hg3,HS⟩:=hrel
     have hsz:=HS.out.fr.size
     have keep:∀ b,b<w2.heap.size→wr.heap[b]? = w2.heap[b]?:=fun b hb=>(HS.out.keep (by omega) (by omega) (by omega)).trans (HB3.out.block b hb)
     have HNw:=jH (HN2.out.kept (w':=wr) (fun b c T hb _=>keep b (jA hb).1))
     have HUw:Hid (URow wr (W.heap.size+1) (k+1) u):=jJ HPMf.out.row fun b e=>keep b (jP HPMf.out.row e)
     have HX10w:=jH ((HS.out.keep (b:=w2.heap.size+1+1) (by omega) (by omega) (by omega)).trans HX10.out)
     have HX4w:Hid (wr.heap[W.heap.size]? = some (.cells #[.pointer none] 26 (0,0))):=(keep _ (by omega)).trans ((HPMf.out.fr.block _ (by omega) (by simp)).trans HX4.out)
     have cnb:wr.cell? ⟨nb,0,none⟩=some (.slice (some ⟨gp,0,none⟩) np pc):=by rw[jB HNw.out.obj];rfl
     have c10:wr.cell? ⟨w2.heap.size+1+1,0,none⟩=some (.slice (some ⟨w2.heap.size+1,0,none⟩) k k):=by rw[jB HX10w.out];rfl
     clear keep
     by_cases hi:i<k
     ·have hiz:(i:Int)<(k:Int):=by omega
      have i0:(0:Int)≤(i:Int):=Int.natCast_nonneg i
      have hiw:IntKind.i64.wrap ((i:Int)+1)=(i:Int)+1:=IntWalk.i64_in _ (by omega)
      have izu:(i:Int)<(k:Int)+1:=by omega
      have izn:(i:Int)<(np:Int):=by omega
      obtain⟨pi,hpi⟩:∃ pi,(Sr.parts x)[i]? = some pi:=⟨_,jG (by have:=HNP.out; omega)⟩
      obtain⟨bi,hbi⟩:=HMf.out.bool (j:=i) (by omega)
      have cbi:=HUw.out.at hbi
      have hfin:=HMf.out.fin HQ.out hpi hi
      cases bi
      ·have hno:¬ IsPart (q:Int) pi:=fun h=>by have:=hfin.2 h; rw[hbi] at this; cases this
       have HNx:=jH (HS.out.no hpi hno)
       clear hbi hfin hno hpi
       go_wp2_with fail
       go_roundg (k - (i+1))
       case measure=>omega
       case rel=>exact⟨i+1,ds,ov,fl2,by go_num,by omega,by omega,HNx⟩
      ·have hyes:IsPart (q:Int) pi:=hfin.1 hbi
       obtain⟨oa,oc,hov⟩:∃ oa oc,ov=.slice oa (sel x q i).length oc:=by
        obtain⟨_,⟨q1,q2⟩ | ⟨g,cap,cur,q1,_⟩⟩:=HS.out.orow
        ·exact⟨none,0,by rw[q1,q2]⟩
        ·exact⟨_,cap,q1⟩
       obtain⟨c,hc⟩:∃ c,c=(sel x q i).length:=⟨_,rfl⟩
       rw[← hc] at hov
       subst hov
       have hcb:c≤2000:=by
        have h1:=(List.filter_sublist (l:=(Sr.parts x).take i) (p:=fun p=>@decide (IsPart (q:Int) p) (Classical.propDecidable _))).length_le
        rw[hc]
        unfold sel
        rw[List.length_take] at h1
        omega
       have con:wr.cell? ⟨w2.heap.size,0,none⟩=some (.slice oa c oc):=by rw[jB HS.out.obj];rfl
       have cbp:wr.cell? ⟨w2.heap.size+1,i,none⟩=some (.int .i64 (ds[i]'(by rw[HS.out.pls.len];exact hi):Nat)):=row1_at HS.out.prow (by rw[List.getElem?_map,jG (by rw[HS.out.pls.len];exact hi)];rfl)
       have fbp:=yG HS.out.prow i
       obtain⟨ui,hui,hri⟩:=HNw.out.rows i pi hpi
       obtain⟨g9,c9,hq9,ci⟩:=qS HNw.out.parts hui
       obtain⟨e9,e9b,e9c⟩:=Value.slice.inj hq9
       cases e9
       clear hq9 e9b e9c
       have n1:nb≠w2.heap.size+1:=by have:=(jA HN2.out.obj).1; omega
       have hnb2:nb<w2.heap.size:=(jA HN2.out.obj).1
       have hgp2:gp<w2.heap.size:=by
        have:=HN2.out.parts
        exact jP this (b:=gp) rfl
       have n2:gp≠w2.heap.size+1:=by omega
       have HC:=jH hc
       have HHi:Hid (Hid (PL w3 x q k (w2.heap.size+1) w2.heap.size i ds (.slice oa c oc) fl2 wr)):=HS
       obtain⟨ia,ic,rfl,_,_⟩:=hri.shape
       obtain⟨ni,hni⟩:∃ ni,ni=(atPl (Sr.parts x) (pi:Int)).length:=⟨_,rfl⟩
       have hnib:(atPl (Sr.parts x) (pi:Int)).length≤1000000:=by have:=HAl.out.2.1 pi (jM hpi);simp[atPl];omega
       have hlds:(ds.set i c).length=k:=by rw[List.length_set];exact HS.out.pls.len
       have hprw:=set1 i (.int .i64 (c:Nat)) HS.out.prow
       rw[← List.map_set] at hprw
       have hrows:=rows_set (g:=w2.heap.size+1) (i:=i) (v:=.int .i64 (c:Nat)) (fun b e=>by have:=jP HS.out.prow (b:=w2.heap.size+1) rfl; obtain⟨c1,h1⟩:=jO hri e; obtain⟨c2,h2⟩:=jO HS.out.prow (b:=w2.heap.size+1) rfl; exact jI h1 h2 (by decide)) hri
       have HP:=placedS_calls (W:=(wr.setCell ⟨w2.heap.size+1,i,none⟩ (.int .i64 (c:Nat))).drew.drew) (bp:=w2.heap.size+1+1) (pv:=.slice (some ⟨w2.heap.size+1,0,none⟩) k k) (v:=.slice ia (atPl (Sr.parts x) (pi:Int)).length ic) (ds:=ds.set i c) (l:=atPl (Sr.parts x) (pi:Int)) (G:=fun j=>(Sr.parts (q:Int)).idxOf ((Sr.parts x).getD j 0))
        ((jS _ _ _ _ (by show w2.heap.size+1+1≠w2.heap.size+1; omega)).trans HX10w.out) (by unfold IRow; rw[hlds];exact hprw) hrows
        (by
          have h1:=HS.out.pls.yes HQ.out hpi hi hyes
          rw[← hc] at h1
          exact h1.places HQ.out fun e he=>by
           have h2:e∈Sr.parts x:=mem_parts.2 (.step (mem_parts.1 (jM hpi)) he)
           exact⟨h2,by have:=(parts_lt (qY h2) hpi).2 (by have:=qz he; simpa using this);omega,.step hyes he⟩) hnib
       rw[show repl (fun j=>(Sr.parts (q:Int)).idxOf ((Sr.parts x).getD j 0)) (atPl (Sr.parts x) (pi:Int))=atPl (Sr.parts (q:Int)) (pi:Int) from atPl_part fun e he=>mem_parts.2 (.step (mem_parts.1 (jM hpi)) he)] at HP
       rw[← hni] at HP ci
       have HPi:=jH hpi
       have HYes:=jH hyes
       have HOv:Hid ((wr.setCell ⟨w2.heap.size+1,i,none⟩ (.int .i64 (c:Nat))).ownsRow 0 111 1 (.slice oa c oc) c fl2):=by
        have h1:=HS.out.orow
        rw[← hc] at h1
        exact jJ h1 fun b e=>jS _ _ _ _ (by
         obtain⟨c1,q1⟩:=jO h1 e; obtain⟨c2,q2⟩:=jO HS.out.prow (b:=w2.heap.size+1) rfl
         exact jI q1 q2 (by decide))
       have HObj:Hid ((wr.setCell ⟨w2.heap.size+1,i,none⟩ (.int .i64 (c:Nat))).heap[w2.heap.size]? = some (.cells #[.slice oa c oc,.slice none 0 0] 158 (0,0))):=(jS _ _ _ _ (by show w2.heap.size≠w2.heap.size+1; omega)).trans HS.out.obj
       have hn0:w2.heap.size≠w2.heap.size+1:=by omega
       have hn1:w2.heap.size+1+1≠w2.heap.size+1:=by omega
       have hlw:w2.heap.size<wr.heap.size:=by omega
       have hcb2:c+1≤1099511627776:=by omega
       clear hbi hfin hc hui hri hni hlds hprw hrows hpi hyes
       go_wp2_with fail
       go_region
       go_wp2_with fail
       go_region_law (first
        | (refine step_F1 rfl (.tmp 87) (.tmp 97) rfl (.slice oa c oc) c fl2 rfl (World.ownsRow.alloc HOv6.out _) _ (.slice ua nq uc) rfl rfl (jD _ _) hcb2 _ rfl ?_; intro g cap w7 I7 G7 A7 L7
           obtain⟨c7,f7,hpl⟩:=HS.out.step HQ.out HPi.out hi HYes.out (by omega) (by omega) HC.out HB6.out HU6.out I7 G7 (by simpa using A7)
           have HPL:=jH hpl
           clear I7 G7 A7 L7 hpl)
        | (go_simp; go_at_call 166; refine HP.mono ?_; rintro y w6 ⟨u6,rfl,hu6,hb6,ho6⟩
           obtain⟨ua,uc,rfl,_,_⟩:=hu6.out.shape
           have HU6:=jH hu6.out
           obtain⟨nq,hnq⟩:∃ nq,nq=(atPl (Sr.parts (q:Int)) (pi:Int)).length:=⟨_,rfl⟩
           rw[← hnq] at HU6
           rw[← hnq]
           have HB6:Hid (Below wr.heap.size (wr.setCell ⟨w2.heap.size+1,i,none⟩ (.int .i64 (c:Nat))) w6):=⟨hb6.out.os,hb6.out.tape,hb6.out.output,by have:=hb6.out.size; simpa using this,fun b hb=>hb6.out.block b (by simpa using hb)⟩
           have HOv6:Hid (w6.ownsRow 0 111 1 (.slice oa c oc) c fl2):=jJ HOv.out fun b e=>HB6.out.block b (by have:=jP HOv.out e; simpa using this)
           have HO6:=jH ((HB6.out.block _ hlw).trans HObj.out)
           have c13w:w6.cell? ⟨w2.heap.size,0,none⟩=some (.slice oa c oc):=by rw[jB HO6.out];rfl
           have c13a:∀ o,(w6.alloc o).cell? ⟨w2.heap.size,0,none⟩=some (.slice oa c oc):=fun o=>by rw[jB ((jE _ _ (jA HO6.out).1).trans HO6.out)];rfl
           clear hu6 hb6 ho6 hnq))
       all_goals
        clear HU6 HB6 HOv6 c13w c13a HO6 HOv HObj HP c7 f7 con cbp fbp ci
        go_wp2_with fail
        go_roundg (k - (i+1))
        case measure=>omega
        case rel=>exact⟨i+1,_,_,_,by go_num,by omega,by omega,HPL⟩
     ·have hiz:¬ ((i:Int)<(k:Int)):=by omega
      have hik2:i=k:=by omega
      have hqx:=jM HQ.out
      have hqp:IsPart x q:=mem_parts.1 hqx
      obtain⟨uk,huk,hrk⟩:=HNw.out.rows k q HQ.out
      rw[HU0.out] at huk
      cases huk
      have ck:=row1_at' HNw.out.parts HU0.out
      have hsel:Hid (sel x q i=Sr.parts (q:Int)):=by show _=_; rw[hik2];exact sel_parts HQ.out
      have hlds:ds.length=k:=HS.out.pls.len
      have hlen:(atPl (Sr.parts x) (q:Int)).length≤1000000:=by have:=HAl.out.2.1 q hqx; simp[atPl];omega
      have hnrq:nr=(atPl (Sr.parts x) (q:Int)).length:=by rw[HNr.out];simp[atPl]
      rw[hnrq] at hrk
      have HP:=placedS_calls (W:=wr) (bp:=w2.heap.size+1+1) (pv:=.slice (some ⟨w2.heap.size+1,0,none⟩) k k) (v:=.slice ra (atPl (Sr.parts x) (q:Int)).length rc) (ds:=ds) (l:=atPl (Sr.parts x) (q:Int)) (G:=fun j=>(Sr.parts (q:Int)).idxOf ((Sr.parts x).getD j 0))
       HX10w.out (by unfold IRow; rw[hlds];exact HS.out.prow) hrk
       (HS.out.pls.places HQ.out fun e he=>by
         have h2:e∈Sr.parts x:=mem_parts.2 (.step hqp he)
         exact⟨h2,by have:=(parts_lt (qY h2) HQ.out).2 (by have:=qz he; simpa using this);omega,.here he⟩) hlen
      rw[show repl (fun j=>(Sr.parts (q:Int)).idxOf ((Sr.parts x).getD j 0)) (atPl (Sr.parts x) (q:Int))=atPl (Sr.parts (q:Int)) (q:Int) from atPl_part fun e he=>mem_parts.2 (.step hqp he)] at HP
      rw[← hnrq] at HP
      have HQp:=jH hqp
      have l13:w2.heap.size<wr.heap.size:=by omega
      have l4:W.heap.size<wr.heap.size:=by omega
      have hlW:W.heap.size+1<w2.heap.size:=by omega
      clear hqx hqp hrk hlds hlen hnrq hik2
      go_wp2_with fail
      refine HP.mono ?_
      rintro y w8 ⟨u8,rfl,hu8,hb8,ho8⟩
      obtain⟨ua,uc,rfl,_,_⟩:=hu8.out.shape
      obtain⟨nq,hnq⟩:∃ nq,nq=(atPl (Sr.parts (q:Int)) (q:Int)).length:=⟨_,rfl⟩
      have HO8:=jH ((hb8.out.block _ l13).trans HS.out.obj)
      have HX8:=jH ((hb8.out.block _ l4).trans HX4w.out)
      have c13:w8.cell? ⟨w2.heap.size,1,none⟩=some (.slice none 0 0):=by rw[jB HO8.out];rfl
      have f13:w8.frozen? ⟨w2.heap.size,1,none⟩=false:=jF HO8.out 1
      have c4:w8.cell? ⟨W.heap.size,0,none⟩=some (.pointer none):=by rw[jB HX8.out];rfl
      have f4:w8.frozen? ⟨W.heap.size,0,none⟩=false:=jF HX8.out 0
      have n413:W.heap.size≠w2.heap.size:=by omega
      have HU8:=jH hu8.out
      rw[← hnq] at HU8
      rw[← hnq]
      clear HP hu8 hnq
      go_wp2_with fail
      refine bodyPost_ret (v:=.agg #[.pointer (some ⟨w2.heap.size,0,none⟩)]) (by simp[results,Tryz.results157,go_sem,c4]) rfl ?_
      have hb8':=hb8.out
      refine⟨some ⟨w2.heap.size,0,none⟩,rfl,⟨zz HAl.out HQp.out,.inr ⟨fun h=>?_,w2.heap.size,ov,.slice ua nq uc,fl2,rfl,?_⟩⟩,?_⟩
      ·have h1:=HNr.out
       rw[h,j5] at h1
       exact H0.out h1
      ·have ho:=HS.out.orow
       rw[hsel.out] at ho
       refine give_end HO8.out HX8.out HU8.out (jK ho hb8') (fun j r hr=>?_)
       obtain⟨u',h1,h2⟩:=HS.out.rows j r (by rw[hsel.out];exact hr)
       exact⟨u',h1,jK h2 hb8'⟩
      ·have f1:=HB1.out
       have f2:=HPMf.out.fr
       have f3:=HB3.out
       have f4':=HS.out.fr
       have hlow:Below W.heap.size W w8:=by
        have s1:=f1.size
        have s8:=hb8'.size
        refine⟨hb8'.os.trans (f4'.os.trans (f3.os.trans (f2.os.trans f1.os))),hb8'.tape.trans (f4'.tape.trans (f3.tape.trans (f2.tape.trans f1.tape))),hb8'.output.trans (f4'.output.trans (f3.output.trans (f2.output.trans f1.output))),by omega,fun b hb=>?_⟩
        rw[hb8'.block b (by omega),f4'.block b (by omega) (by simp; omega),f3.block b (by omega),f2.block b (by omega) (by simp; omega)]
        exact f1.block b hb
       exact (hlow.setCell (by show W.heap.size≤w2.heap.size; omega) _).setCell (jR _) _
end
end Sr

/- Texts of this claim, joined: Brit, Brit2. -/
import Derived.Test.YtabafgphmbdpgaaGreatDoorTe1
import Derived.Test.YtabafgphmbdpgaaGreatDoorTe25
import Derived.Test.YtabafgphmbdpgaaGreatDoorTe26
set_option maxHeartbeats 8000000
set_option maxRecDepth 100000
namespace Sr
section
abbrev El:=Rat×Int
def one:El:=(0,0)
def emul (a b:El): El:=(a.1+tp a.2*b.1,a.2+b.2)
theorem emul_assoc (a b c:El): emul (emul a b) c=emul a (emul b c):=by
 unfold emul; refine Prod.ext ?_ (by dsimp only; omega)
 dsimp only; rw[yc];grind
theorem one_emul (a:El): emul one a=a:=by
 unfold emul one; refine Prod.ext ?_ (by dsimp only; omega)
 dsimp only; rw[qW];grind
abbrev Nf:=El×List (Bool×El)
def mulS (g:El)(S:Nf): Nf:=(emul g S.1,S.2)
theorem yr (a b:El)(S:Nf): mulS a (mulS b S)=mulS (emul a b) S:=by unfold mulS; rw[emul_assoc]
theorem one_mulS (S:Nf): mulS one S=S:=by unfold mulS; rw[one_emul]
def car:Bool→El→El
 | true,g=>(0,g.1.floor)
 | false,g=>((g.2:Rat),0)
def rst:Bool→El→El
 | true,g=>(g.1 - (g.1.floor:Rat),g.2)
 | false,g=>(g.1*tp (-g.2),0)
open Classical in
noncomputable def act (up:Bool)(S:Nf): Nf :=
 match S.2 with
 | []=>(car up S.1,[(up,rst up S.1)])
 | (e,r1)::L=>if rst up S.1=one∧e≠up then (emul (car up S.1) r1,L) else (car up S.1,(up,rst up S.1)::(e,r1)::L)
def rep:Bool→El→Prop
 | true,r=>r.1.floor=0
 | false,r=>r.2=0
def Ok:List (Bool×El)→Prop
 | []=>True
 | (e,r)::L=>rep e r∧Ok L∧∀ e' r' L',L=(e',r')::L'→r=one→e'=e
theorem floor_shift (x:Rat)(k:Int): ((k:Rat)+x).floor=k+x.floor:=by
 rw[Rat.add_comm,Rat.floor_add_intCast];omega
theorem rep_rst (up:Bool)(g:El): rep up (rst up g):=by
 cases up
 ·rfl
 ·show (g.1 - (g.1.floor:Rat)).floor=0
  have e:g.1 - (g.1.floor:Rat)=((-g.1.floor:Int):Rat)+g.1:=by rw[Rat.intCast_neg];grind
  rw[e,floor_shift];omega
theorem act_ok {up:Bool}{S:Nf}(h:Ok S.2): Ok (act up S).2:=by
 obtain⟨g,L⟩:=S
 unfold act
 cases L with
 | nil=>exact⟨rep_rst _ _,trivial,fun _ _ _ h=>by cases h⟩
 | cons t L =>
   obtain⟨e,r1⟩:=t
   dsimp only at h ⊢
   split
   ·exact h.2.1
   ·rename_i hn
    refine⟨rep_rst _ _,h,fun e' r' L' hl h1=>?_⟩
    cases hl
    exact Classical.byContradiction fun hne=>hn ⟨h1,hne⟩
theorem car_back (up:Bool)(g:El): emul (car up (car (!up) g)) (rst (!up) g)=g∧rst up (car (!up) g)=one:=by
 cases up
 ·simp only[car,rst,Bool.not_false,emul,one]
  refine⟨Prod.ext ?_ (by dsimp only; omega),Prod.ext ?_ rfl⟩
  ·dsimp only; rw[qW];grind
  ·dsimp only; grind
 ·simp only[car,rst,Bool.not_true,emul,one,Rat.floor_intCast]
  refine⟨Prod.ext ?_ (by dsimp only; omega),Prod.ext ?_ rfl⟩
  ·dsimp only
   have:=tp_inv g.2
   grind
  ·dsimp only; grind
theorem car_rep (up:Bool)(g r:El)(hr:rep up r)(hg:rst (!up) g=one): car up (emul (car (!up) g) r)=g∧rst up (emul (car (!up) g) r)=r:=by
 obtain⟨a,m⟩:=g
 obtain⟨x,n⟩:=r
 cases up
 ·simp only[car,rst,Bool.not_false,emul,one,Prod.mk.injEq] at hg ⊢
  have hn:n=0:=hr
  subst hn
  obtain⟨h1,rfl⟩:=hg
  refine⟨⟨?_,rfl⟩,?_,rfl⟩
  ·rw[Int.add_zero];grind
  ·rw[Int.add_zero]
   have:=tp_inv a.floor
   grind
 ·simp only[car,rst,Bool.not_true,emul,one,Prod.mk.injEq] at hg ⊢
  have hx:x.floor=0:=hr
  have ha:a=0:=by
   rcases Rat.mul_eq_zero.1 hg.1 with h | h
   ·exact h
   ·exact absurd h (tp_ne _)
  subst ha
  rw[qW,Rat.one_mul,floor_shift,hx]
  refine⟨⟨rfl,by omega⟩,?_,by omega⟩
  rw[Int.add_zero];grind
theorem act_inv (up:Bool){S:Nf}(h:Ok S.2): act up (act (!up) S)=S:=by
 obtain⟨g,L⟩:=S
 obtain⟨h1,h2⟩:=car_back up g
 have key:∀ L,act up (car (!up) g,(!up,rst (!up) g)::L)=(g,L):=fun L=>by
  unfold act
  dsimp only
  rw[if_pos ⟨h2,by cases up <;>simp⟩,h1]
 cases L with
 | nil=>exact key []
 | cons t L =>
   obtain⟨e,r1⟩:=t
   by_cases hc:rst (!up) g=one∧e≠!up
   ·have e1:act (!up) (g,(e,r1)::L)=(emul (car (!up) g) r1,L):=by
     unfold act; dsimp only; rw[if_pos hc]
    have he:e=up:=by have:=hc.2; cases e <;>cases up <;>simp_all
    subst he
    obtain⟨k1,k2⟩:=car_rep e g r1 h.1 hc.1
    rw[e1]
    unfold act
    cases L with
    | nil=>dsimp only; rw[k1,k2]
    | cons t L =>
      obtain⟨e',r'⟩:=t
      dsimp only
      rw[k1,k2,if_neg]
      exact fun ⟨hr,hne⟩=>hne (h.2.2 e' r' L rfl hr)
   ·have e1:act (!up) (g,(e,r1)::L)=(car (!up) g,(!up,rst (!up) g)::(e,r1)::L):=by
     unfold act; dsimp only; rw[if_neg hc]
    rw[e1,key]
def low:Bool→Int→El
 | true,k=>((k:Rat),0)
 | false,k=>(0,k)
theorem car_low (up:Bool)(k:Int)(g:El): car up (emul (low up k) g)=emul (low (!up) k) (car up g)∧rst up (emul (low up k) g)=rst up g:=by
 obtain⟨a,m⟩:=g
 cases up
 ·simp only[car,rst,low,emul,Bool.not_false,Prod.mk.injEq]
  refine⟨⟨?_,by omega⟩,?_,trivial⟩
  ·rw[qW,Rat.intCast_add];grind
  ·rw[show -(k+m) = -k+-m by omega,yc]
   have:=tp_inv k
   grind
 ·simp only[car,rst,low,emul,Bool.not_true,Prod.mk.injEq]
  rw[qW,Rat.one_mul,floor_shift]
  refine⟨⟨by grind,rfl⟩,?_,by omega⟩
  rw[Rat.intCast_add];grind
theorem act_low (up:Bool)(k:Int)(S:Nf): act up (mulS (low up k) S)=mulS (low (!up) k) (act up S):=by
 obtain⟨g,L⟩:=S
 obtain⟨h1,h2⟩:=car_low up k g
 unfold act mulS
 cases L with
 | nil=>dsimp only; rw[h1,h2]
 | cons t L =>
   dsimp only
   rw[h1,h2]
   split
   ·rw[emul_assoc]
   ·rfl
def el (x:E3): El:=(tq x,x.m)
theorem el_times (x y:E3): el (timesE x y)=emul (el x) (el y):=by
 unfold el emul; rw[yH,zw]
theorem el_zero:el Zero=one:=by
 unfold el one tq; simp
variable {x:E3}
theorem el_inj {y:E3}(hx:Plain x)(hy:Plain y)(h:el x=el y): x=y :=
 yI hx hy (congrArg Prod.snd h) (congrArg Prod.fst h)
def upc (c:UInt8): Bool:=decide (c=98)
noncomputable def ev:List UInt8→List E3→Nf→Nf
 | c::o,g::G,S=>mulS (el g) (act (upc c) (ev o G S))
 | [],g::_,S=>mulS (el g) S
 | _,[],S=>S
theorem ev_ok:∀ {o:List UInt8} {G:List E3} {S:Nf},Ok S.2→Ok (ev o G S).2
 | _::_,_::_,_,h=>act_ok (ev_ok h)
 | [],_::_,_,h=>h
 | [],[],_,h=>h
 | _::_,[],_,h=>h
noncomputable def actL (c:UInt8)(S:Nf): Nf:=if c=97 then mulS (1,0) S else if c=65 then mulS (-1,0) S else act (upc c) S
noncomputable def actW (l:List UInt8)(S:Nf): Nf:=l.foldr actL S
theorem ev_last:∀ {o:List UInt8} {G:List E3} (_:G.length=o.length+1) (x:E3) (S:Nf),ev o (G.set (G.length - 1) (timesE (G.getD (G.length - 1) Zero) x)) S=ev o G (mulS (el x) S)
 | [],[g],_,x,S=>by
   show mulS (el (timesE g x)) S=mulS (el g) (mulS (el x) S)
   rw[el_times,yr]
 | [],[],h,_,_=>by simp at h
 | [],_::_::_,h,_,_=>by simp at h
 | _::_,[],h,_,_=>by simp at h
 | c::o,[g],h,_,_=>by simp at h
 | c::o,g::g'::G,h,x,S=>by
   have ih:=ev_last (o:=o) (G:=g'::G) (by simpa using h) x S
   simp only[List.length_cons,Nat.add_sub_cancel] at ih ⊢
   show mulS (el g) (act (upc c) (ev o _ S))=mulS (el g) (act (upc c) (ev o _ _))
   rw[← ih]
   rfl
theorem ev_snoc:∀ {o:List UInt8} {G:List E3} (_:G.length=o.length+1) (c:UInt8) (S:Nf),ev (o++[c]) (G++[Zero]) S=ev o G (act (upc c) S)
 | [],[g],_,c,S=>by
   show mulS (el g) (act (upc c) (mulS (el Zero) S))=_
   rw[el_zero,one_mulS];rfl
 | [],[],h,_,_=>by simp at h
 | [],_::_::_,h,_,_=>by simp at h
 | _::_,[],h,_,_=>by simp at h
 | c::o,g::G,h,d,S=>by
   have ih:=ev_snoc (o:=o) (G:=G) (by simpa using h) d S
   show mulS (el g) (act (upc c) (ev (o++[d]) (G++[Zero]) S))=_
   rw[ih];rfl
theorem el_a:el ⟨1,0,0⟩=(1,0)∧el ⟨-1,0,0⟩=(-1,0):=by
 unfold el tq; constructor <;>simp[qW]
theorem ev_step {s:List UInt8×List E3}(h:s.2.length=s.1.length+1)(c:UInt8)(S:Nf): ev (rdStep s c).1 (rdStep s c).2 S=ev s.1 s.2 (actL c S):=by
 unfold rdStep actL
 split
 ·dsimp only; rw[ev_last h,el_a.1]
 ·split
  ·dsimp only; rw[ev_last h,el_a.2]
  ·exact ev_snoc h c S
theorem ev_read (l:List UInt8)(S:Nf): ev (readE l).1 (readE l).2 S=actW l S:=by
 have key:∀ (l:List UInt8) (s:List UInt8×List E3),s.2.length=s.1.length+1→ev (l.foldl rdStep s).1 (l.foldl rdStep s).2 S=ev s.1 s.2 (actW l S):=by
  intro l
  induction l with
  | nil=>intro s _; rfl
  | cons c l ih =>
    intro s h
    rw[List.foldl_cons,ih _ (rdStep_len h),ev_step h]
    rfl
 have h:=key l ([],[Zero]) rfl
 unfold readE
 rw[h]
 show mulS (el Zero) _=_
 rw[el_zero,one_mulS]
def Bs (o:List UInt8): Prop:=∀ c∈o,c=98∨c=66
theorem pin_low {c:UInt8}(hx:Plain x)(hc:c=98∨c=66)(hp:pinB c x=true): el x=low (upc c) (powE c x)∧∀ d:UInt8,(d=98∨d=66)→d≠c→el (pinE c (powE c x))=low (upc d) (powE c x):=by
 rcases hc with rfl | rfl
 ·have h:x.m=0∧(x.u=0∨0≤x.v):=by simpa [pinB] using hp
  have hv:0≤x.v:=by
   rcases h.2 with h0 | h0
   ·rcases hx with ⟨_,h2⟩ | h2
    ·omega
    ·omega
   ·exact h0
  refine⟨?_,fun d hd hne=>?_⟩
  ·unfold el low powE upc
   rw[if_pos rfl,show decide ((98:UInt8)=98)=true from rfl]
   dsimp only
   rw[shx_tp (zM hv),h.1]
   rfl
  ·obtain rfl:d=66:=hd.resolve_left hne
   unfold pinE el low upc
   rw[if_neg (by decide),show decide ((66:UInt8)=98)=false from rfl]
   simp[tq]
 ·have h:x.u=0:=by simpa [pinB] using hp
  refine⟨?_,fun d hd hne=>?_⟩
  ·unfold el low powE upc tq
   rw[if_neg (by decide),show decide ((66:UInt8)=98)=false from rfl,h]
   simp
  ·obtain rfl:d=98:=hd.resolve_right hne
   unfold pinE el low upc
   rw[if_pos rfl,show decide ((98:UInt8)=98)=true from rfl,yn,plainE_m,qW]
   simp
theorem yV:Plain Zero:=.inl ⟨rfl,rfl⟩
theorem ev_pin:∀ {i:Nat} {o:List UInt8} {G:List E3} {S:Nf},G.length=o.length+1→Bs o→(∀ x∈G,Plain x)→Ok S.2→i+1<o.length→pinAt o G i=true→ev (pinO o i) (pinG o G i) S=ev o G S
 | 0,c::d::o,x0::x1::x2::G,S,hl,hb,hg,hS,hi,hp=>by
   have hp':c≠d∧pinB c x1=true:=by simpa [pinAt,List.getD] using hp
   have hc:=hb c (by simp)
   have hd:=hb d (by simp)
   obtain⟨h1,h2⟩:=pin_low (x:=x1) (hg x1 (by simp)) hc hp'.2
   have h3:=h2 d hd (Ne.symm hp'.1)
   have hud:upc c=!(upc d):=by
    rcases hc with rfl | rfl <;>rcases hd with rfl | rfl <;>first | rfl | exact absurd rfl hp'.1
   have hT:∀ (T:Nf),Ok T.2→act (upc c) (mulS (el x1) (act (upc d) T))=mulS (el (pinE c (powE c x1))) T:=fun T hT=>by
    have h4:low (!(upc c)) (powE c x1)=low (upc d) (powE c x1):=by rw[hud];cases upc d <;>rfl
    rw[h1,act_low,h4,h3]
    congr 1
    rw[hud]
    have:=act_inv (!(upc d)) (S:=T) hT
    rwa [Bool.not_not] at this
   have eG:pinG (c::d::o) (x0::x1::x2::G) 0=timesE (timesE x0 (pinE c (powE c x1))) x2::G:=by
    simp[pinG,pinK,pinX,List.getD]
   have eO:pinO (c::d::o) 0=o:=by simp[pinO]
   rw[eG,eO]
   have fin:∀ (T:Nf),Ok T.2→mulS (el (timesE (timesE x0 (pinE c (powE c x1))) x2)) T=mulS (el x0) (act (upc c) (mulS (el x1) (act (upc d) (mulS (el x2) T)))):=fun T hT'=>by
    rw[hT (mulS (el x2) T) hT',yr,yr,el_times,el_times,emul_assoc]
   cases o with
   | nil =>
     cases G with
     | nil=>exact fin S hS
     | cons y G=>simp at hl
   | cons a o =>
     cases G with
     | nil=>simp at hl
     | cons y G=>exact fin (act (upc a) (ev o (y::G) S)) (act_ok (ev_ok hS))
 | 0,_::_::_,[],_,hl,_,_,_,_,_=>by simp at hl
 | 0,_::_::_,[_],_,hl,_,_,_,_,_=>by simp at hl
 | 0,_::_::_,[_,_],_,hl,_,_,_,_,_=>by simp at hl
 | 0,[],_,_,_,_,_,_,hi,_=>by simp at hi
 | 0,[_],_,_,_,_,_,_,hi,_=>by simp at hi
 | i+1,[],_,_,_,_,_,_,hi,_=>by simp at hi
 | i+1,_::_,[],_,hl,_,_,_,_,_=>by simp at hl
 | i+1,c::o,x::G,S,hl,hb,hg,hS,hi,hp=>by
   have hl':G.length=o.length+1:=by simpa using hl
   have hi':i+1<o.length:=by simpa using hi
   have hp':pinAt o G i=true:=hp
   have ih:=ev_pin (S:=S) hl' (fun a ha=>hb a (by simp[ha])) (fun a ha=>hg a (by simp[ha])) hS hi' hp'
   have eO:pinO (c::o) (i+1)=c::pinO o i:=by simp[pinO]
   have eK:pinK (c::o) (x::G) (i+1)=pinK o G i:=by simp[pinK,List.getD]
   have eG:pinG (c::o) (x::G) (i+1)=x::pinG o G i:=by
    unfold pinG; rw[eK]
    simp[List.getD]
   rw[eO,eG]
   show mulS (el x) (act (upc c) (ev (pinO o i) (pinG o G i) S))=mulS (el x) (act (upc c) (ev o G S))
   rw[ih]
abbrev base:Nf:=(one,[])
theorem car_is (up:Bool)(g:El): ∃ k,car up g=low (!up) k:=by cases up <;>exact⟨_,rfl⟩
theorem odd_int {u v n:Int}(hu:u % 2=1)(h:(u:Rat)*tp v=(n:Rat)): 0≤v:=by
 rcases Int.lt_or_le v 0 with hv | hv
 ·obtain⟨k,rfl⟩:∃ k:Nat,v = -((k+1:Nat):Int):=⟨(-v).toNat - 1,by omega⟩
  have h1:=congrArg (·*tp ((k+1:Nat):Int)) h
  have h2:tp (-((k+1:Nat):Int))*tp ((k+1:Nat):Int)=1:=by rw[← yc,Int.add_left_neg,qW]
  simp only[Rat.mul_assoc,h2,Rat.mul_one] at h1
  rw[tp_nat,← Rat.intCast_mul] at h1
  have h3:=Rat.intCast_inj.1 h1
  rw[Int.pow_succ,← Int.mul_assoc] at h3
  omega
 ·exact hv
theorem rst_pin {c:UInt8}(hx:Plain x)(hc:c=98∨c=66){k:Int}(h:rst (upc c) (emul (el x) (low (upc c) k))=one): pinB c x=true:=by
 rcases hc with rfl | rfl
 ·have hu:upc 98=true:=rfl
  rw[hu] at h
  simp only[rst,emul,el,low,one,Prod.mk.injEq] at h
  have hm:x.m=0:=by omega
  rw[hm,qW] at h
  have h1:tq x=((((tq x+1*(k:Rat)).floor - k:Int)):Rat):=by rw[Rat.intCast_sub];grind
  unfold pinB
  rw[if_pos rfl]
  simp only[decide_eq_true_eq]
  refine⟨hm,?_⟩
  rcases hx with ⟨h0,_⟩ | h0
  ·exact .inl h0
  ·exact .inr (odd_int h0 h1)
 ·have hu:upc 66=false:=rfl
  rw[hu] at h
  simp only[rst,emul,el,low,one,Prod.mk.injEq] at h
  have h1:tq x=0:=by
   rcases Rat.mul_eq_zero.1 h.1 with h | h
   ·grind
   ·exact absurd h (tp_ne _)
  have h2:x.u=0:=by
   unfold tq at h1
   rcases Rat.mul_eq_zero.1 h1 with h | h
   ·exact Rat.intCast_eq_zero_iff.1 h
   ·exact absurd h (tp_ne _)
  unfold pinB
  rw[if_neg (by decide)]
  simpa using h2
theorem ev_red:∀ {o:List UInt8} {G:List E3},G.length=o.length+1→Bs o→(∀ x∈G,Plain x)→(∀ i,i+1<o.length→pinAt o G i=false) →
 (ev o G base).2.length=o.length∧∀ c o',o=c::o'→∃ k r L,ev o G base=(emul (el (G.getD 0 Zero)) (low (!(upc c)) k),(upc c,r)::L)
 | [],[g],_,_,_,_=>⟨rfl,fun _ _ h=>by cases h⟩
 | [],[],hl,_,_,_=>by simp at hl
 | [],_::_::_,hl,_,_,_=>by simp at hl
 | _::_,[],hl,_,_,_=>by simp at hl
 | c::o,x::G,hl,hb,hg,hn=>by
   have hl':G.length=o.length+1:=by simpa using hl
   obtain⟨h1,h2⟩:=ev_red (o:=o) (G:=G) hl' (fun a ha=>hb a (by simp[ha])) (fun a ha=>hg a (by simp[ha])) (fun i hi=>by
    exact hn (i+1) (by simp; omega))
   have e:ev (c::o) (x::G) base=mulS (el x) (act (upc c) (ev o G base)):=rfl
   have key:∃ k r,act (upc c) (ev o G base)=(low (!(upc c)) k,(upc c,r)::(ev o G base).2):=by
    obtain⟨k,hk⟩:=car_is (upc c) (ev o G base).1
    refine⟨k,rst (upc c) (ev o G base).1,?_⟩
    rw[← hk]
    unfold act
    cases o with
    | nil =>
      have:(ev [] G base).2=[]:=List.length_eq_zero_iff.1 h1
      rw[this]
    | cons d o =>
      obtain⟨k',r,L,hT⟩:=h2 d o rfl
      rw[hT]
      dsimp only
      rw[if_neg]
      rintro⟨hr,hne⟩
      have hud:upc c=!(upc d):=by cases h:upc c <;>cases h':upc d <;>simp_all
      rw[← hud] at hr
      obtain⟨y,G',rfl⟩:∃ y G',G=y::G':=by
       cases G with
       | nil=>simp at hl'
       | cons y G'=>exact⟨y,G',rfl⟩
      have hp:=rst_pin (x:=y) (hg y (by simp)) (hb c (by simp)) hr
      have hq:=hn 0 (by simp)
      have hcd:c≠d:=fun h=>hne (by rw[h])
      simp[pinAt,List.getD,hcd,hp] at hq
   obtain⟨k,r,hk⟩:=key
   rw[e,hk]
   refine⟨by show (_::(ev o G base).2).length=_; simp[h1],fun c' o' h=>?_⟩
   cases h
   exact⟨k,r,_,rfl⟩
end
theorem ye {α:Type}{l:List α}{i j:Nat}{m:List α}{d:α}(h:j<i)(hi:i≤l.length): (l.take i++m).getD j d=l.getD j d:=by
 simp only[List.getD_eq_getElem?_getD]
 rw[List.getElem?_append_left (by simp; omega),List.getElem?_take,if_pos h]
theorem pin_left {o:List UInt8}{G:List E3}{i j:Nat}(hl:G.length=o.length+1)(hi:i+1<o.length)(hj:j+1<i): pinAt (pinO o i) (pinG o G i) j=pinAt o G j:=by
 unfold pinAt pinO pinG
 rw[ye (by omega) (by omega),ye (by omega) (by omega),List.append_assoc,ye (by omega) (by omega)]
theorem red_all:∀ (m:Nat) {o:List UInt8} {G:List E3} {i:Nat} {st:List (Nat×Int)} {o':List UInt8} {G':List E3},2*o.length - i≤m→G.length=o.length+1→Bs o→(∀ x∈G,Plain x) →
 (∀ j,j<i→j+1<o.length→pinAt o G j=false)→redE o G i=some (st,o',G') →
 G'.length=o'.length+1∧Bs o'∧(∀ x∈G',Plain x)∧(∀ j,j+1<o'.length→pinAt o' G' j=false)∧ev o' G' base=ev o G base:=by
 intro m
 induction m with
 | zero =>
   intro o G i st o' G' hm hl hb hg hn h
   rw[zU (by omega)] at h
   cases h
   exact⟨hl,hb,hg,fun j hj=>hn j (by omega) hj,rfl⟩
 | succ m ih =>
   intro o G i st o' G' hm hl hb hg hn h
   by_cases hi:i+1<o.length
   ·by_cases hp:pinAt o G i=true
    ·by_cases ha:pinA o G i
     ·rw[redE_yes hi hp ha] at h
      cases hr:redE (pinO o i) (pinG o G i) (i - 1) with
      | none=>rw[hr] at h; cases h
      | some r =>
        obtain⟨st1,o1,G1⟩:=r
        rw[hr] at h
        cases h
        have:=zd hi
        obtain⟨k1,k2,k3,k4,k5⟩:=ih (o:=pinO o i) (G:=pinG o G i) (i:=i - 1) (by omega) (pinG_len hi hl)
         (fun c hc=>hb c (by
           unfold pinO at hc
           rcases List.mem_append.1 hc with h | h
           ·exact List.mem_of_mem_take h
           ·exact List.mem_of_mem_drop h))
         (fun x hx=>by
           unfold pinG at hx
           rcases List.mem_append.1 hx with h | h
           ·rcases List.mem_append.1 h with h | h
            ·exact hg x (List.mem_of_mem_take h)
            ·rw[List.mem_singleton] at h; subst h; exact qH _ _
           ·exact hg x (List.mem_of_mem_drop h))
         (fun j hj hjl=>by
           rw[pin_left hl hi (by omega)]
           exact hn j (by omega) (by omega)) hr
        exact⟨k1,k2,k3,k4,k5.trans (ev_pin hl hb hg trivial hi hp)⟩
     ·rw[yo hi hp ha] at h; cases h
    ·have hpf:pinAt o G i=false:=by simpa using hp
     rw[redE_no hi hpf] at h
     exact ih (by omega) hl hb hg (fun j hj hjl=>by
      rcases Nat.lt_or_ge j i with h | h
      ·exact hn j h hjl
      ·obtain rfl:j=i:=by omega
       exact hpf) h
   ·rw[zU hi] at h
    cases h
    exact⟨hl,hb,hg,fun j hj=>hn j (by omega) hj,rfl⟩
theorem read_bs {l:List UInt8}(h:Lt l): Bs (readE l).1∧(∀ x∈(readE l).2,Plain x)∧(readE l).2.length=(readE l).1.length+1:=by
 have key:∀ (l:List UInt8) (s:List UInt8×List E3),Lt l→Bs s.1→(∀ x∈s.2,Plain x)→s.2.length=s.1.length+1→Bs (l.foldl rdStep s).1∧(∀ x∈(l.foldl rdStep s).2,Plain x)∧(l.foldl rdStep s).2.length=(l.foldl rdStep s).1.length+1:=by
  intro l
  induction l with
  | nil=>intro s _ h1 h2 h3; exact⟨h1,h2,h3⟩
  | cons c l ih =>
    intro s hl h1 h2 h3
    rw[List.foldl_cons]
    refine ih _ (fun d hd=>hl d (by simp[hd])) ?_ ?_ (rdStep_len h3)
    ·have hc:=hl c (by simp)
     unfold rdStep
     split
     ·exact h1
     ·split
      ·exact h1
      ·intro d hd
       rcases List.mem_append.1 hd with h | h
       ·exact h1 d h
       ·rw[List.mem_singleton] at h; subst h
        rename_i a b
        rcases hc with h | h | h | h
        ·exact absurd h a
        ·exact absurd h b
        ·exact .inl h
        ·exact .inr h
    ·unfold rdStep
     split
     ·intro x hx
      rcases List.mem_or_eq_of_mem_set hx with h | h
      ·exact h2 x h
      ·subst h; exact qH _ _
     ·split
      ·intro x hx
       rcases List.mem_or_eq_of_mem_set hx with h | h
       ·exact h2 x h
       ·subst h; exact qH _ _
      ·intro x hx
       rcases List.mem_append.1 hx with h | h
       ·exact h2 x h
       ·rw[List.mem_singleton] at h; subst h; exact yV
 exact key l ([],[Zero]) h (fun c hc=>by cases hc) (fun x hx=>by rw[List.mem_singleton] at hx; subst hx; exact yV) rfl
theorem trace_act {l:List UInt8}(hl:Lt l){st:List (Nat×Int)}{o:List UInt8}{G:List E3}(h:traceE l=some (st,o,G)):
 o.length=(actW l base).2.length∧(o=[]→actW l base=(el (G.getD 0 Zero),[]))∧(unitE o G=true↔actW l base=base)∧(∀ x∈G,Plain x)∧G.length=o.length+1:=by
 obtain⟨b1,b2,b3⟩:=read_bs hl
 obtain⟨k1,k2,k3,k4,k5⟩:=red_all _ (jR _) b3 b1 b2 (fun j hj=>absurd hj (Nat.not_lt_zero _)) h
 rw[ev_read] at k5
 obtain⟨e1,e2⟩:=ev_red k1 k2 k3 k4
 rw[k5] at e1 e2
 have hem:∀ g:E3,emul (el g) one=el g:=fun g=>by
  unfold emul one el; refine Prod.ext ?_ (by dsimp only; omega)
  dsimp only; grind
 have h3:o=[]→actW l base=(el (G.getD 0 Zero),[]):=fun ho=>by
  subst ho
  obtain⟨g,rfl⟩:∃ g,G=[g]:=by
   cases G with
   | nil=>simp at k1
   | cons g G=>cases G with
     | nil=>exact⟨g,rfl⟩
     | cons _ _=>simp at k1
  rw[← k5]
  show (emul (el g) one,([]:List (Bool×El)))=_
  rw[hem];rfl
 refine⟨e1.symm,h3,?_,k3,k1⟩
 unfold unitE endE
 by_cases ho:o=[]
 ·rw[h3 ho]
  have hp:Plain (G.getD 0 Zero):=by
   cases G with
   | nil=>exact yV
   | cons g G=>exact k3 g (by simp)
  simp only[ho,if_true,decide_true,Bool.true_and,decide_eq_true_eq]
  constructor
  ·intro h; rw[h,el_zero]
  ·intro h
   exact el_inj hp yV ((congrArg Prod.fst h).trans el_zero.symm)
 ·simp only[ho,decide_false,Bool.false_and]
  constructor
  ·intro h; cases h
  ·intro h
   rw[h] at e1
   exact absurd (List.length_eq_zero_iff.1 e1.symm) ho
end Sr

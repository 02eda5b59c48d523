/- Parts of the proof of DiskPlays: merged and given short names by a program of ours. -/
import Derived.Deep.Matrix
import Derived.Deep.Slices
import Derived.Deep.Strs
import Derived.Laws.IdiomArrays
import Derived.Deep.Grids
import Derived.Test.YtmhokapokchneaaZgB
set_option linter.unusedVariables false
set_option linter.unusedSimpArgs false
open Array renaming getElem?_eq_getElem → U2, getElem?_setIfInBounds_self_of_lt → U4, getElem?_setIfInBounds_ne → U5, getD_eq_getD_getElem? → US, getElem?_eq_none → Vc
open Bool renaming and_eq_true → UT, not_false → VT
open Int renaming toNat_natCast → U3
open List renaming getElem?_eq_getElem → U1, length_cons → U6, set_cons_zero → U7, getElem?_append_left → U8, length_append → UO, getElem?_cons_zero → UP, getElem?_cons_succ → UR, length_map → UU, map_cons → UW, mem_cons_of_mem → UX, mem_cons → UZ, getD_eq_getElem?_getD → V4, take_append_drop → VA, append_assoc → VE, map_append → VF, mem_of_getElem? → VO, nodup_cons → VP, flatMap_cons → VQ, getElem?_append_right → VR, sum_cons → VS, getElem_mem → VU, append_nil → VW, length_nil → VY, mem_singleton → VZ, mem_cons_self → Va, length_take → Vd, length_eq_zero_iff → Ve, length_set → Vf, mem_range → Vg, take_of_length_le → Vj, mem_map → Vl, nil_append → Vm, mem_nil_iff → Vn, getElem?_map → Vt, drop_eq_getElem_cons → Vv, mem_append → Vw, mem_of_mem_take → Wg
open List.cons renaming injEq → VX
open Nat renaming le_refl → U0, zero_add → UQ, mul_le_mul_right → V3, add_assoc → VC, le_trans → VG, lt_of_lt_of_le → Vb, lt_or_ge → Vk, zero_mul → Wl
open Option.some renaming injEq → V1
namespace Go.Proofs.Ytmhokapokchneaa
open Go Go.En Go.Pu Go.Sort
set_option maxRecDepth 4000
structure Rf(b:Nat)(rest:List Wn)(a e:Nat)(d:Array ByteArray)(s t:Nat)(d':Array ByteArray)(w W:Wm):Prop where
 o:bE W b (iD d'++rest)
 p:PermIn a e d d'
 l:PG a e s t d'
 i:a<=s/\s<=t/\t<=e
 x:aJ w W (λy=>y=b)
def OO(b:Nat)(rest:List Wn)(a e:Nat)(d:Array ByteArray)(w:Wm)(r:Wn)(W:Wm):Prop:=
 r= .tuple #[]/\(∃d',bE W b (iD d'++rest)/\PermIn a e d d'/\SortedIn fW a e d')/\aJ w W (λy=>y=b)
theorem Rf.fin {b:Nat}{rest:List Wn}{a e s t:Nat}{d d' d2:Array ByteArray}{w W W2:Wm}(h:Rf b rest a e d s t d' w W)(he:e<=d.size)(o:bE W2 b (iD d2++rest))(hp:PermIn s t d' d2)(hS:SortedIn fW s t d2)(x:aJ W W2 (λy=>y=b)):OO b rest a e d w (.tuple #[]) W2:=by
 obtain⟨i1,i2,i3⟩:=h.i
 have hz:d'.size=d.size:=h.p.1
 exact⟨rfl,⟨d2,o,permIn_trans _ _ _ _ _ h.p (permIn_mono d' d2 s t a e i1 i3 (by omega) hp),RO h.l i3 (by omega) i1 hp hS⟩,h.x.seq x⟩
theorem Rf.perm {b:Nat}{rest:List Wn}{a e s t:Nat}{d d' d2:Array ByteArray}{w W W2:Wm}(h:Rf b rest a e d s t d' w W)(he:e<=d.size)(o:bE W2 b (iD d2++rest))(hp:PermIn s t d' d2)(x:aJ W W2 (λy=>y=b)):Rf b rest a e d s t d2 w W2:=by
 obtain⟨i1,i2,i3⟩:=h.i
 have hz:d'.size=d.size:=h.p.1
 exact⟨o,permIn_trans _ _ _ _ _ h.p (permIn_mono d' d2 s t a e i1 i3 (by omega) hp),BX h.l i3 (by omega) i1 hp,h.i,h.x.seq x⟩
def PH(n:Nat):Prop:=∀(b c a e lim:Nat) (d:Array ByteArray) (rest:List Wn) (w:Wm),bE w b (iD d++rest)->e-a<=n->a<=e->e<=d.size->d.size<=49->lim<=1000->d.toList.Nodup->Sc a e d→
    aH pg aY #[rW b d.size c,.int .i64 (a:Nat),.int .i64 (e:Nat),.int .i64 (lim:Nat)] w (OO b rest a e d w)
def Tv(b:Nat)(rest:List Wn)(a e:Nat)(d:Array ByteArray)(w:Wm)(m:Nat)(u:Wn×Wn×Wn×Wn×Wn)(W:Wm):Prop:=∃(s t lm:Nat) (wb wp:Bool) (d':Array ByteArray),m=t-s/\u=(.int .i64 (s:Nat),.int .i64 (t:Nat),.int .i64 (lm:Nat),.bool wb,.bool wp)/\lm<=1000/\Rf b rest a e d s t d' w W
def Is(b:Nat)(rest:List Wn)(a e:Nat)(d:Array ByteArray)(w:Wm)(k:Nat):K6:=λ_ bA cU cD wb wp W=>∃m,m<k/\Tv b rest a e d w m (bA,cU,cD,wb,wp) W
theorem O7 {n:Nat}(ih:PH n){b c a e s t lm pv:Nat}{wb wp:Bool}{d d4:Array ByteArray}{rest:List Wn}{w W:Wm}(hP:Rf b rest a e d s t d4 w W)(hn:e-a<=n+1)(he:e<=d.size)(hd:d.size<=49)(hlm:lm<=1000)(hnd:d.toList.Nodup)(hA:Sc a e d)(h12:12<t-s)(hp1:s<=pv)(hp2:pv<t):
 dR (Is b rest a e d w (t-s)) (Is b rest a e d w (t-s)) (rW b d.size c) (.int .i64 (s:Nat)) (.int .i64 (t:Nat)) (.int .i64 (lm:Nat)) (.bool wb) (.bool wp) (.int .i64 ((t-s:Nat):Int)) (.int .i64 (pv:Nat)) W:=by
 obtain⟨i1,i2,i3⟩:=hP.i
 have hz:d4.size=d.size:=hP.p.1
 have hn4:d4.toList.Nodup:=(Li hP.p he).nodup_iff.2 hnd
 have hA4:Sc s t d4:=SD (LN hA he hP.p) hP.l hn4 i1 i3 (by omega)
 unfold dR
 have part:∀W2,bE W2 b (iD d4++rest)->aJ w W2 (λy=>y=b)→
     aH pg cY #[rW b d.size c,.int .i64 (s:Nat),.int .i64 (t:Nat),.int .i64 (pv:Nat)] W2 λt99 Dg=>aB pg (cB t99 0) Dg λt100 Dg=>aB pg (cB t99 1) Dg λt101 Dg=>
      aB pg (aE .sub 3 aK aK t100 (.int .i64 (s:Nat))) Dg λt105 Dg=>aB pg (aE .sub 3 aK aK (.int .i64 (t:Nat)) t100) Dg λt108 Dg=>aB pg (aE .quo 3 aK aK (.int .i64 ((t-s:Nat):Int)) (.int .i64 8)) Dg λt110 Dg=>
      aB pg (aE .lss 3 aK aK t105 t108) Dg λt113 Dg=>eU t113
       (aB pg (aE .geq 3 aK aK t105 t110) Dg λt116 Dg=>aH pg aY #[rW b d.size c,.int .i64 (s:Nat),t100,.int .i64 (lm:Nat)] Dg λt121 Dg=>aB pg (aE .add 3 aK aK t100 (.int .i64 1)) Dg λt123 Dg=>Is b rest a e d w (t-s) (rW b d.size c) t123 (.int .i64 (t:Nat)) (.int .i64 (lm:Nat)) t116 t101 Dg)
       (aB pg (aE .geq 3 aK aK t108 t110) Dg λt126 Dg=>aB pg (aE .add 3 aK aK t100 (.int .i64 1)) Dg λt129 Dg=>aH pg aY #[rW b d.size c,t129,.int .i64 (t:Nat),.int .i64 (lm:Nat)] Dg λt132 Dg=>Is b rest a e d w (t-s) (rW b d.size c) (.int .i64 (s:Nat)) t100 (.int .i64 (lm:Nat)) t126 t101 Dg):=by
  intro W2 o2 x2
  rw[<-hz]
  refine(Mq o2 hp1 hp2 (by omega) (by omega) (by omega)).mono ?_
  rintro r W3 ⟨⟨m,k,d5,rfl,hm1,hm2,o3,hp3,hl,hr⟩,x3⟩
  have hz5:d5.size=d4.size:=hp3.1
  have hn5:d5.toList.Nodup:=(Li hp3 (by omega)).nodup_iff.2 hn4
  have x03:=x2.seq x3
  have q1:((m:Nat):Int)-((s:Nat):Int)=((m-s:Nat):Int):=by omega
  have q2:((t:Nat):Int)-((m:Nat):Int)=((t-m:Nat):Int):=by omega
  have q3:((t-s:Nat):Int).tdiv 8=(((t-s)/8:Nat):Int):=rfl
  have q4:((m:Nat):Int)+1=((m+1:Nat):Int):=by omega
  have n8:((8:Int)==0)=false:=rfl
  have hp05:PermIn a e d d5:=permIn_trans _ _ _ _ _ hP.p (permIn_mono d4 d5 s t a e i1 i3 (by omega) hp3)
  by_cases hlt:m-s<t-m
  .have d1:decide (((m-s:Nat):Int)<((t-m:Nat):Int))=true:=decide_eq_true (by omega)
   simp(disch:=omega)only[SV,q1,q2,q3,n8,d1]
   rw[<-hz5]
   refine(ih b c s m lm d5 rest W3 o3 (by omega) hm1 (by omega) (by omega) hlm hn5 ?_).mono ?_
   .rcases LN hA4 (by omega) hp3 with h|h
    .exact .inl h
    .exact .inr λi h1 h2=>h i h1 (by omega)
   rintro r W4 ⟨rfl,⟨d6,o6,hp6,hs6⟩,x6⟩
   simp(disch:=omega)only[SV,q4]
   refine⟨t-(m+1),by omega,m+1,t,lm,_,k,d6,rfl,rfl,hlm,o6, ?_,Qq hP.l i3 (by omega) i1 hp3 hm1 hm2 hl hr hp6 hs6,⟨by omega,by omega,i3⟩,x03.seq x6⟩
   exact permIn_trans _ _ _ _ _ hp05 (permIn_mono d5 d6 s m a e i1 (by omega) (by omega) hp6)
  .have d1:decide (((m-s:Nat):Int)<((t-m:Nat):Int))=false:=decide_eq_false (by omega)
   simp(disch:=omega)only[SV,q1,q2,q3,n8,d1,q4]
   rw[<-hz5]
   refine(ih b c (m+1) t lm d5 rest W3 o3 (by omega) (by omega) (by omega) (by omega) hlm hn5 ?_).mono ?_
   .refine .inr λi h1 h2=> ?_
    exact Er (Qx hn5 (by omega) (by omega) (by omega)) (hr i (by omega) h2)
   rintro r W4 ⟨rfl,⟨d6,o6,hp6,hs6⟩,x6⟩
   try simp(disch:=omega)only[SV]
   refine⟨m-s,by omega,s,m,lm,_,k,d6,rfl,rfl,hlm,o6, ?_,O2 hP.l i3 (by omega) i1 hp3 hm1 hm2 hl hr hp6 hs6,⟨i1,hm1,by omega⟩,x03.seq x6⟩
   exact permIn_trans _ _ _ _ _ hp05 (permIn_mono d5 d6 (m+1) t a e (by omega) i3 (by omega) hp6)
 by_cases h0:s=0
 .subst h0
  have d1:decide ((0:Int)<((0:Nat):Int))=false:=rfl
  simp(disch:=omega)only[SV,d1,decide_false]
  exact part _ (aP hP.o) (hP.x.seq (aJ.dr _ _))
 .have d1:decide ((0:Int)<((s:Nat):Int))=true:=decide_eq_true (by omega)
  have q1:((s:Nat):Int)-1=((s-1:Nat):Int):=by omega
  have ci:=dG (aP hP.o) (i:=s-1) (by omega)
  have cj:=dG (aP hP.o) (i:=pv) (by omega)
  simp(disch:=omega)only[SV,d1,q1,ci,cj]
  refine(pC _ _ _).mono ?_
  rintro r W2 ⟨rfl,rfl⟩
  have hl:fW d4[s-1]! d4[pv]! =true:=(hA4.resolve_left h0) pv hp1 hp2
  simp(disch:=omega)only[SV,hl]
  exact part _ (aP hP.o) (hP.x.seq (aJ.dr _ _))
theorem RU{n:Nat}(ih:PH n){b c a e s t lm:Nat}{wb wp:Bool}{d d2:Array ByteArray}{rest:List Wn}{w W:Wm}(hP:Rf b rest a e d s t d2 w W)(hn:e-a<=n+1)(he:e<=d.size)(hd:d.size<=49)(hlm:lm<=1000)(hnd:d.toList.Nodup)(hA:Sc a e d)(h12:12<t-s):
 dS (Is b rest a e d w (t-s)) (Is b rest a e d w (t-s)) (OO b rest a e d w) (rW b d.size c) (.int .i64 (s:Nat)) (.int .i64 (t:Nat)) (.int .i64 (lm:Nat)) (.bool wb) (.bool wp) (.int .i64 ((t-s:Nat):Int)) W:=by
 obtain⟨i1,i2,i3⟩:=hP.i
 have hz:d2.size=d.size:=hP.p.1
 unfold dS nW
 have after:∀(W3:Wm) (d3:Array ByteArray) (pv h:Nat),Rf b rest a e d s t d3 w W3->s<=pv->pv<t→
     fE (Is b rest a e d w (t-s)) (Is b rest a e d w (t-s)) (OO b rest a e d w) (rW b d.size c) (.int .i64 (s:Nat)) (.int .i64 (t:Nat)) (.int .i64 (lm:Nat)) (.bool wb) (.bool wp) (.int .i64 ((t-s:Nat):Int)) (.int .i64 (pv:Nat)) (.int .i64 (h:Nat)) W3:=by
  intro W3 d3 pv h hP3 h1 h2
  have hz3:d3.size=d.size:=hP3.p.1
  unfold fE nV
  have part:∀W4,aJ W3 W4 bR->dR (Is b rest a e d w (t-s)) (Is b rest a e d w (t-s)) (rW b d.size c) (.int .i64 (s:Nat)) (.int .i64 (t:Nat)) (.int .i64 (lm:Nat)) (.bool wb) (.bool wp) (.int .i64 ((t-s:Nat):Int)) (.int .i64 (pv:Nat)) W4:=λW4 x4=>
   O7 ih (hP3.perm he (hP3.o.ext x4 (λh=>h)) (permIn_refl _ _ _) (x4.mono λ_ _ h=>h.elim)) hn he hd hlm hnd hA h12 h1 h2
  cases wb with
  |false=>
   simp(disch:=omega)only[SV]
   exact part W3 (aJ.refl _ _)
  |true=>
   cases wp with
   |false=>
    simp(disch:=omega)only[SV]
    exact part W3 (aJ.refl _ _)
   |true=>
    cases hh:(((h:Nat):Int)==1)with
    |false=>
     simp(disch:=omega)only[SV,hh]
     exact part W3 (aJ.refl _ _)
    |true=>
     simp(disch:=omega)only[SV,hh]
     rw[<-hz3]
     refine(O6 hP3.o (by omega) (by omega) (by omega) (by omega)).mono ?_
     rintro r W4 ⟨⟨k,rfl,hk⟩,x4⟩
     cases k with
     |true=>
      simp(disch:=omega)only[SV]
      exact hP3.fin he (hP3.o.ext x4 (λh=>h)) (permIn_refl _ _ _) (hk rfl) (x4.mono λ_ _ h=>h.elim)
     |false=>
      simp(disch:=omega)only[SV]
      rw[hz3]
      exact part W4 x4
 rw[<-hz]
 refine(PS hP.o (by omega) (by omega) (by omega) (by omega)).mono ?_
 rintro r W2 ⟨⟨m0,h0,rfl,hm1,hm2,hh⟩,x2⟩
 have hP2:=hP.perm he (hP.o.ext x2 (λh=>h)) (permIn_refl _ _ _) (x2.mono λ_ _ h=>h.elim)
 cases h2:(((h0:Nat):Int)==2)with
 |false=>
  simp(disch:=omega)only[SV,h2]
  rw[hz]
  exact after W2 d2 m0 h0 hP2 hm1 hm2
 |true=>
  simp(disch:=omega)only[SV,h2]
  refine(Pa hP2.o i2 (by omega) (by omega) (by omega)).mono ?_
  rintro r W3 ⟨rfl,⟨d3,o3,hp3⟩,x3⟩
  have q1:((t:Nat):Int)-1=((t-1:Nat):Int):=by omega
  have q2:((m0:Nat):Int)-((s:Nat):Int)=((m0-s:Nat):Int):=by omega
  have q3:((t-1:Nat):Int)-((m0-s:Nat):Int)=((t-1-(m0-s):Nat):Int):=by omega
  simp(disch:=omega)only[SV,q1,q2,q3]
  rw[hz]
  exact after W3 d3 (t-1-(m0-s)) 1 (hP2.perm he o3 hp3 x3) (by omega) (by omega)
theorem SY:∀n:Nat,PH n:=by
 intro n
 induction n with
 |zero=>
  intro b c a e lim d rest w o hn hae he hd hlim hnd hA
  refine iP ?_
  obtain rfl:a=e:=by omega
  unfold iC eQ eP cG
  refine bL.rule (λm (t:Wn×Wn×Wn×Wn×Wn) w'=>m=0/\t=(.int .i64 (a:Nat),.int .i64 (a:Nat),.int .i64 (lim:Nat),.bool true,.bool true)/\w'=w) 0 ⟨rfl,rfl,rfl⟩ ?_
  rintro m t w1 ⟨rfl,rfl,rfl⟩
  unfold cF fG fF
  have q1:((a:Nat):Int)-((a:Nat):Int)=0:=by omega
  have d1:decide ((0:Int)<=12)=true:=rfl
  simp(disch:=omega)only[SV,q1,d1,decide_true]
  refine(Qh o (by omega) he (by omega)).mono ?_
  rintro r w2 ⟨rfl,hD,x2⟩
  try simp(disch:=omega)only[SV]
  exact⟨rfl,hD,x2⟩
 |succ n ih=>
  intro b c a e lim d rest w o hn hae he hd hlim hnd hA
  refine iP ?_
  obtain⟨RR,hRR⟩:∃RR:Wn->Wm->Prop,RR=OO b rest a e d w:=⟨_,rfl⟩
  rw[<-hRR]
  unfold iC eQ eP cG
  refine bL.rule (Tv b rest a e d w) (e-a) (⟨a,e,lim,true,true,d,rfl,rfl,hlim,o,permIn_refl _ _ _,λi j h1 h2 h3 h4=>by omega,⟨by omega,hae,by omega⟩,aJ.refl _ _⟩) ?_
  intro m u w1 hm
  obtain⟨s,t,lm,wb,wp,d1,rfl,rfl,hlm,hP⟩:=hm
  obtain⟨i1,i2,i3⟩:=hP.i
  have hz:d1.size=d.size:=hP.p.1
  unfold cF fG fF
  have q1:((t:Nat):Int)-((s:Nat):Int)=((t-s:Nat):Int):=by omega
  by_cases h12:t-s<=12
  .have d1':decide (((t-s:Nat):Int)<=12)=true:=decide_eq_true (by omega)
   simp(disch:=omega)only[SV,q1,d1']
   rw[<-hz]
   refine(Qh hP.o i2 (by omega) (by omega)).mono ?_
   rintro r w2 ⟨rfl,⟨d2,o2,hp2,hs2⟩,x2⟩
   try simp(disch:=omega)only[SV]
   rw[hRR]
   exact hP.fin he o2 hp2 hs2 x2
  have d1':decide (((t-s:Nat):Int)<=12)=false:=decide_eq_false (by omega)
  by_cases hl0:lm=0
  .subst hl0
   have k0:(((0:Nat):Int)==0)=true:=rfl
   simp(disch:=omega)only[SV,q1,d1',k0]
   rw[<-hz]
   refine(SP hP.o (by omega) (by omega) (by omega)).mono ?_
   rintro r w2 ⟨rfl,⟨d2,o2,hp2,hs2⟩,x2⟩
   try simp(disch:=omega)only[SV]
   rw[hRR]
   exact hP.fin he o2 hp2 hs2 x2
  have k0:(((lm:Nat):Int)==0)=false:=beq_eq_false_iff_ne.2 (by omega)
  have go:∀(W:Wm) (lm2:Nat) (d2:Array ByteArray),lm2<=1000->Rf b rest a e d s t d2 w W→
      dS (Is b rest a e d w (t-s)) (Is b rest a e d w (t-s)) (OO b rest a e d w) (rW b d.size c) (.int .i64 (s:Nat)) (.int .i64 (t:Nat)) (.int .i64 (lm2:Nat)) (.bool wb) (.bool wp) (.int .i64 ((t-s:Nat):Int)) W:=λW lm2 d2 h1 h2=>RU ih h2 hn he hd h1 hnd hA (by omega)
  rw[hRR]
  cases wb with
  |true=>
   simp(disch:=omega)only[SV,q1,d1',k0]
   exact go w1 lm d1 hlm hP
  |false=>
   simp(disch:=omega)only[SV,q1,d1',k0]
   rw[<-hz]
   refine(Rx hP.o i2 (by omega) (by omega)).mono ?_
   rintro r w2 ⟨rfl,⟨d2,o2,hp2⟩,x2⟩
   have q2:((lm:Nat):Int)-1=((lm-1:Nat):Int):=by omega
   simp(disch:=omega)only[SV,q2]
   rw[hz]
   exact go w2 (lm-1) d2 (by omega) (hP.perm he o2 hp2 x2)
theorem Of{n:Nat}(h:n<=49):bl n<=1000:=by
 unfold bl
 split
 .omega
 .have h2:n.log2<20:=(Nat.log2_lt (by omega)).2 (by omega)
  omega
theorem NJ{v:Wn}{L:List ByteArray}{base:Nat}{w:Wm}(h:zC w base 1 v L.length (L.map Value.string))(hl:L.length<=49)(hnd:L.Nodup):
 aH pg iT #[v] w (λr w'=>(∃L',L'.Perm L/\I5 L'/\zC w' base 1 v L'.length (L'.map Value.string))/\aJ w w' (λy=>base<=y)):=by
 have nil:∀{a:Option Addr} {c:Nat},L=[]->v= .slice a 0 c->aH pg iT #[v] w (λr w'=>(∃L',L'.Perm L/\I5 L'/\zC w' base 1 v L'.length (L'.map Value.string))/\aJ w w' (λy=>base<=y)):=by
  intro a c hL hv
  subst hL hv
  refine Tf (n:=0) (by omega) (Qk.mono ?_)
  rintro r w' ⟨-,rfl⟩
  exact⟨⟨[],List.Perm.refl _,List.Pairwise.nil,h⟩,aJ.refl _ _⟩
 rcases h.2 with⟨rfl,h0⟩|⟨b,c,rest,rfl,hb,ho,hc,hnc⟩
 .exact nil (Ve.1 h0) rfl
 by_cases h0:L.length=0
 .exact nil (Ve.1 h0) (by rw[h0])
 obtain⟨d,hd⟩:∃d:Array ByteArray,d=L.toArray:=⟨_,rfl⟩
 have hdl:d.toList=L:=by rw[hd]
 have hds:d.size=L.length:=by rw[hd];simp
 have ho':bE w b (iD d++rest):=by unfold iD;rw[hdl];exact ho
 refine vM ?_
 unfold wN rI
 have e1:IntKind.u64.wrap ((L.length:Nat):Int)=((L.length:Nat):Int):=KQ (by omega) (by omega)
 simp(disch:=omega)only[SV,e1]
 refine(Qo L.length (by omega) w).mono ?_
 rintro r w1 ⟨rfl,rfl⟩
 rw[<-hds]
 refine(SY d.size b c 0 d.size (bl d.size) d rest w1 ho' (by omega) (by omega) (U0 _) (by omega) (Of (by omega)) (by rw[hdl];exact hnd) (.inl rfl)).mono ?_
 rintro r w2 ⟨rfl,⟨d',o2,hp,hS⟩,x2⟩
 have hz:d'.size=d.size:=hp.1
 have hpm:=Li hp (U0 _)
 have hn':d'.toList.Nodup:=hpm.nodup_iff.2 (by rw[hdl];exact hnd)
 have hlen:d'.toList.length=d.size:=by simpa using hz
 have fin:(∃L',L'.Perm L/\I5 L'/\zC w2 base 1 (.slice (some ⟨b,0,none⟩) d.size c) L'.length (L'.map Value.string))/\aJ w1 w2 (λy=>base<=y):=by
  refine⟨⟨d'.toList,hdl▸hpm, ?_, ?_⟩,x2.mono λy _ hy=>by rw[hy];exact hb⟩
  .unfold I5
   refine List.pairwise_iff_getElem.2 λi j hi hj hij=> ?_
   have h1:=hS i j (Nat.zero_le _) hij (by omega)
   have h2:=Qx hn' (i:=j) (j:=i) (by omega) (by omega) (by omega)
   have h3:=Er h2 h1
   rw[getElem!_pos d' i (by omega),getElem!_pos d' j (by omega)]at h3
   simpa using h3
  .rw [hlen]
   refine⟨by rw[UU];omega,.inr ⟨b,c,rest,rfl,hb,o2, ?_,by omega⟩⟩
   rw[UO,UU]at hc⊢
   omega
 first
  |exact fin
  |(try simp(disch:=omega)only[SV]
    exact fin)
end Go.Proofs.Ytmhokapokchneaa
namespace Go.En
open Go
section
variable{P:Program}
theorem L3 {a:Array Wn}{t x:Nat}{v:Wn}(h:t<a.size):F3 (a.setIfInBounds t v) x=if x=t then v else F3 a x:=by
 unfold F3
 rw[US,US]
 by_cases hx:x=t
 .subst hx;rw[U4 h,if_pos rfl]<;>rfl
 .rw [U5 (λe=>hx e.symm),if_neg hx]
theorem O0 {N x:Nat}{g:Env}(h:x<N):F3 (tmpsOf N g) x=g x:=by
 unfold F3 tmpsOf
 rw[US,U2 (by simpa using h)]
 simp
theorem RX{f:FuncId}{fn:Func}(hf:P.funcs[f]?=some fn)(hb:fn.body.isSome=true)(hn:(fn.name== "runtime.NumGoroutine")=false)(cap:Array Wn)(args:List Wn)(w:Wm):
 (AA (.func (.func f) #[] cap) args).run P w= .ok (.enter f (args.toArray++cap)) w:=by
 unfold AA Deferred.ofValue
 simp only[pure_bind,invoke,Array.empty_append]
 exact GC hf hb hn _ _
def JP(r:Loop)(args:List Wn):Array Wn:=(r.params.zip args.toArray).foldl (λtmps (t,a)=>tmps.setIfInBounds t a) r.tmps
theorem R2 {r:Loop}{a:Tmp}{t:Array Wn}(hp:r.params= #[a])(ht:r.tmps=t)(x:Wn):JP r [x]=t.setIfInBounds a x:=by
 unfold JP;rw[hp,ht];simp
theorem R0 {l:Nat}{r:Loop}{args:List Wn}{w:Wm}(h:w.heap[l]?=some (.loop r))(hs:args.length=r.params.size):
 (AA (AI l) args).run P w= .ok (.round l r.fn (JP r args) r.assign r.body) w:=by
 unfold AA AI Deferred.ofValue
 simp only[pure_bind,invoke,Array.empty_append]
 exact run_yield h (by simpa using hs)
theorem PI{f fi:FuncId}{fn:Func}{gf:Operand}{ps:Array Tmp}{UN bd:Code}{Q:Exit->Env->Wm->Prop}{g:Env}{w:Wm}{cap:Array Wn}
 (hm:noMark (g DS)=true) (he:ev g gf= .func (.func fi) #[] cap) (hf:P.funcs[fi]?=some fn) (hb:fn.body.isSome=true) (hn:(fn.name== "runtime.NumGoroutine")=false)
 (h:aH P fi (#[AI (w.heap.size+1)]++cap) (PD f (HB P f) ps UN bd g w) λ_ w3=>PJ (w.heap.size+1) Q (put g (some DS) (.pointer (some ⟨w.heap.size,0,none⟩))) w3):
 RF P f gf ps UN bd Q g w:=by
 unfold RF
 rw[hm]
 simp only
 rw[he,RX hf hb hn]
 exact h
theorem aJ.putObj (w:Wm)(l:Nat)(o:Obj):aJ w (w.putObj l o) (λy=>y=l):=
 ⟨rfl,rfl,rfl,by simp,λb hb hM=>World.putObj_heap_other hM⟩
theorem F7 {w w':Wm}{l:Nat}{o:Obj}{M:Nat->Prop}(h:w.heap[l]?=some o)(hx:aJ w w' M)(hM:¬M l):w'.heap[l]?=some o:=by
 have:l<w.heap.size:=by
  rcases Vk l w.heap.size with h'|h'
  .exact h'
  .rw [Vc h']at h;cases h
 rw[hx.keep l this hM];exact h
theorem Sm{w:Wm}{l:Nat}{o:Obj}(h:w.heap[l]?=some o):l<w.heap.size:=by
 rcases Vk l w.heap.size with h'|h'
 .exact h'
 .rw [Vc h']at h;cases h
theorem Pc(f:FuncId)(N:Nat)(ps:Array Tmp)(UN bd:Code)(g:Env)(w:Wm):
 aJ w (PD f N ps UN bd g w) bR/\(PD f N ps UN bd g w).heap.size=w.heap.size+2/\(PD f N ps UN bd g w).heap[w.heap.size]?=some (.deferred (some []))/\
  (PD f N ps UN bd g w).heap[w.heap.size+1]?=some (.loop {state:= .ready,pending:=none,fn:=f,tmps:=tmpsOf N g,params:=ps,assign:=UN,body:=bd,defers:=w.heap.size}):=by
 unfold PD
 have x1:=aJ.alloc w (.deferred (some [])) bR
 have h1:=World.alloc_heap_new w (.deferred (some []))
 have z1:(w.alloc (.deferred (some []))).heap.size=w.heap.size+1:=by simp
 generalize w.alloc (.deferred (some []))=w1 at*
 refine⟨x1.seq (aJ.alloc w1 _ bR),by simp[z1],F7 h1 (aJ.alloc w1 _ bR) (λh=>h), ?_⟩
 have:=World.alloc_heap_new w1 (.loop {state:= .ready,pending:=none,fn:=f,tmps:=tmpsOf N g,params:=ps,assign:=UN,body:=bd,defers:=w.heap.size})
 rw[z1]at this
 exact this
theorem O9 {l:Nat}{r:Loop}{w:Wm}{K:Wm->Prop}(h:w.heap[l]?=some (.loop r))(hr:r.state= .ready)
 (hk:∀w',w'.heap[l]?=some (.loop {r with state:= .busy})->aJ w w' (λy=>y=l)->w'.heap.size=w.heap.size->K w'):Ub l w K:=
 ⟨r,h,hr,hk _ (World.putObj_heap_same (Sm h)) (aJ.putObj _ _ _) (by simp)⟩
theorem Nu{l:Nat}{r:Loop}{j:Option Code}{w:Wm}{R:Wn->Wm->Prop}(h:w.heap[l]?=some (.loop r))
 (hk:∀w',w'.heap[l]?=some (.loop {r with state:=Us j,pending:=j})->aJ w w' (λy=>y=l)->w'.heap.size=w.heap.size->R (.bool j.isNone) w'):Rq l j R w:=
 ⟨r,h,hk _ (World.putObj_heap_same (Sm h)) (aJ.putObj _ _ _) (by simp)⟩
theorem My{l:Nat}{r:Loop}{w:Wm}{Q:Exit->Env->Wm->Prop}{g:Env}(h:w.heap[l]?=some (.loop r))(hb:r.state≠.busy)
 (hk:∀w',aJ w w' (λy=>y=l)->w'.heap.size=w.heap.size->SL Q g r.pending w'):PJ l Q g w:=
 ⟨r,h,hb,hk _ (aJ.putObj _ _ _) (by simp)⟩
theorem NI{b:Nat}{w:Wm}{K:Wm->Prop}(h:w.heap[b]?=some (.deferred (some [])))(hk:∀w',aJ w w' (λy=>y=b)->w'.heap.size=w.heap.size->K w'):
 AB (.pointer (some ⟨b,0,none⟩)) w K:=⟨h,hk _ (aJ.putObj _ _ _) (by simp)⟩
theorem QJ{f:FuncId}(first captured:List Wn)(w:Wm):(MG (.func f) first captured).run P w= .ok (.value (.func (.func f) first.toArray captured.toArray)) w:=by
 unfold MG V Instr.makeFunc
 simp[Sem.run_bind,Sem.run_pure]
end
end Go.En
namespace Go.Proofs.Ytmhokapokchneaa
open Go Go.En Go.Pu
set_option maxRecDepth 4000
theorem No{α:Type}{A:List α}:∀{L:List α} {j:Nat} (hj:j<L.length),(A++[L[j]]++L.eraseIdx j).Perm (A++L):=by
 intro L j hj
 rw[VE]
 refine List.Perm.append_left A ?_
 have h:L=L.take j++L[j]::L.drop (j+1):=by
  rw[<-Vv hj,VA]
 have h2:L.eraseIdx j=L.take j++L.drop (j+1):=List.eraseIdx_eq_take_drop_succ ..
 rw[h2]
 conv=>rhs;rw[h]
 show(L[j]::(L.take j++L.drop (j+1))).Perm _
 exact(List.perm_middle).symm
theorem SR{m box sb lp:Nat}{ls:List (ByteArray×Wn)}{r0:Loop}{w:Wm}(I:List ByteArray->Wm->Prop)(hm:Mp w m DI ls)(hb:bE w box [.map (some m)])(hbs:box≠sb/\box≠lp/\m≠sb/\m≠lp)(hlt:sb<w.heap.size/\lp<w.heap.size)
 (hp:r0.params.size=1) (h0:I [] w) (hl:∀d W,I d W->W.heap[lp]?=some (.loop r0)) (hN:∀d W W',I d W->aJ W W' (λy=>y=w.heap.size)->I d W')
 (hs:∀d k W,I d W->d.length<ls.length->w.heap.size<W.heap.size->Ks pg lp r0.fn (JP r0 [.string k]) r0.assign r0.body W (λb W'=>b= .bool true/\I (d++[k]) W'/\aJ W W' (λy=>y=sb∨y=lp∨w.heap.size<y))):
 aH pg eX #[AI lp,.pointer (some ⟨box,0,none⟩)] w (λr W=>r= .tuple #[]/\∃d,d.Perm (ls.map (·.1))/\I d W):=by
 refine Cp ?_
 obtain⟨RR,hRR⟩:∃RR:Wn->Wm->Prop,RR=λr W=>r= .tuple #[]/\∃d,d.Perm (ls.map (·.1))/\I d W:=⟨_,rfl⟩
 rw[<-hRR]
 unfold A4 yA xZ lV
 have c0:w.cell? ⟨box,0,none⟩=some (.map (some m)):=hb.cell (off:=0)
 have hml:=hm.lt
 simp(disch:=omega)only[SV,c0]
 refine FI hm λw1 hi x1 s1=> ?_
 obtain⟨it,hit⟩:∃it,it=w.heap.size:=⟨_,rfl⟩
 rw[<-hit]at hi hN hs hml hlt⊢
 refine bL.rule (λk (t:Unit) W=>∃(d:List ByteArray) (rest:List (ByteArray×Wn)),k=rest.length/\Rp W it m DI rest/\I d W/\(d++rest.map (·.1)).Perm (ls.map (·.1))/\it<W.heap.size) ls.length
  ⟨[],ls,rfl,hi,hN _ _ _ h0 (x1.mono λ_ _ h=>h.elim),List.Perm.refl _,by omega⟩ ?_
 rintro k t W ⟨d,rest,rfl,hi2,hI,hpm,hW⟩
 unfold qC
 refine MO hi2 (by omega) (λhr0=> ?_) λw3 j hj hi3 hc x3 s3=> ?_
 .simp (disch:=omega)only[SV]
  rw[hRR]
  refine⟨rfl,d, ?_,hI⟩
  rw[hr0]at hpm
  simpa using hpm
 .have he:=Ow (P:=pg) hc
  have hI3:=hN _ _ _ hI x3
  have hlp:=hl _ _ hI3
  have q1:=R0 (P:=pg) (args:=[.string (rest[j]).1]) hlp (by rw[hp]<;>rfl)
  have hlen:d.length<ls.length:=by
   have:=hpm.length_eq
   simp only[UO,UU]at this
   omega
  simp(disch:=omega)only[SV,he,q1,ML]
  obtain⟨b',w4,hret,hR⟩:=hs d (rest[j]).1 w3 hI3 hlen (by omega)
  refine⟨b',w4,hret, ?_⟩
  obtain⟨rfl,hI4,x4⟩:=hR
  simp(disch:=omega)only[SV]
  refine⟨(rest.eraseIdx j).length,by rw[List.length_eraseIdx_of_lt hj];omega,d++[(rest[j]).1],rest.eraseIdx j,rfl,hi3.ext x4 (by omega) (by omega),hI4, ?_,by have:=x4.size;omega⟩
  have:=No (A:=d) (L:=rest.map (·.1)) (j:=j) (by simpa using hj)
  rw[List.getElem_map]at this
  rw[xA]
  exact this.trans hpm
theorem PM:QQ aG= #[7]:=by kernel_rfl
theorem SH:HB pg aW=13:=by kernel_rfl
theorem OT{m box:Nat}{ls:List (ByteArray×Wn)}{w:Wm}(hm:Mp w m DI ls)(hb:bE w box [.map (some m)])(hbm:box≠m)(hl:ls.length<=49):
 aH pg aW #[.slice none 0 0,.func (.func eX) #[] #[.pointer (some ⟨box,0,none⟩)]] w (λr W=>∃d:List ByteArray,d.Perm (ls.map (·.1))/\zC W w.heap.size 1 r d.length (d.map Value.string)/\aJ w W bR):=by
 refine AD ?_
 obtain⟨RR,hRR⟩:∃RR:Wn->Wm->Prop,RR=λr W=>∃d:List ByteArray,d.Perm (ls.map (·.1))/\zC W w.heap.size 1 r d.length (d.map Value.string)/\aJ w W bR:=⟨_,rfl⟩
 rw[<-hRR]
 unfold vK sC sB
 refine kG λw1 o1 x1 s1=> ?_
 simp only[Value.cells]at o1
 unfold mE mD rZ jF
 intro g g2 g6 gm
 generalize hn0:w.heap.size=n0 at*
 have e1:w1.heap.size=n0+1:=by omega
 have hml:=hm.lt
 have hbl:=hb.lt
 refine PI (fi:=eX) (cap:= #[.pointer (some ⟨box,0,none⟩)]) (by show noMark (g 1000003)=true;rw[gm]<;>rfl) g6 Try.func43 (by kernel_rfl) (by kernel_rfl) ?_
 obtain⟨x8,s8,d8,l8⟩:=Pc aW (HB pg aW) (QQ aG) (Pb aG) (Nv aG) g w1
 rw[e1]at s8 d8 l8⊢
 generalize PD aW (HB pg aW) (QQ aG) (Pb aG) (Nv aG) g w1=w8 at*
 obtain⟨r0,hr0⟩:∃r0:Loop,r0={state:= .ready,pending:=none,fn:=aW,tmps:=tmpsOf (HB pg aW) g,params:=QQ aG,assign:=Pb aG,body:=Nv aG,defers:=n0+1}:=⟨_,rfl⟩
 rw[<-hr0]at l8
 have x08:aJ w w8 bR:=x1.seq x8
 have z8:w8.heap.size=n0+3:=by omega
 let I:List ByteArray->Wm->Prop:=λd W=>∃sv,aJ w8 W (λy=>y=n0∨y=n0+2∨n0+3<=y)/\W.heap[n0+2]?=some (.loop r0)/\bE W n0 [sv]/\Kt W (λb=>n0+3<b) 1 sv d.length (d.map Value.string)
 have hmain:=SR (m:=m) (box:=box) (sb:=n0) (lp:=n0+2) (ls:=ls) (r0:=r0) (w:=w8) I ((hm.ext x08 (λh=>h))) (hb.ext x08 (λh=>h)) ⟨by omega,by omega,by omega,by omega⟩ ⟨by omega,by omega⟩ ?hp ?h0 ?hl ?hN ?hs
 case hp=>rw[hr0,PM]<;>rfl
 case h0=>exact⟨_,aJ.refl _ _,l8,o1.ext x8 (λh=>h),⟨rfl,.inl ⟨rfl,rfl⟩⟩⟩
 case hl=>rintro d W ⟨sv,hx,hlp,_⟩;exact hlp
 case hN=>
  rintro d W W' ⟨sv,hx,hlp,ho,hs⟩ xx
  rw[z8]at xx
  exact⟨sv,hx.seq (xx.mono λy _ h=> .inr (.inr (by omega))),F7 hlp xx (by omega),ho.ext xx (by omega),hs.ext xx (λb hb h=>by omega)⟩
 case hs=>
  rintro d k W ⟨sv,hx,hlp,ho,hs⟩ hdl hW
  rw[z8]at hW⊢
  have hT:JP r0 [.string k]=(tmpsOf 13 g).setIfInBounds 7 (.string k):=R2 (by rw[hr0];exact PM) (by rw[hr0];simp only;rw[SH]) _
  have hE2:F3 ((tmpsOf 13 g).setIfInBounds 7 (.string k)) 2= .pointer (some ⟨n0,0,none⟩):=by
   rw[L3 (by simp[tmpsOf]),if_neg (by omega),O0 (by omega),g2]
  have hE7:F3 ((tmpsOf 13 g).setIfInBounds 7 (.string k)) 7= .string k:=by
   rw[L3 (by simp[tmpsOf]),if_pos rfl]
  rw[hT]
  subst hr0
  refine zL (by simp[tmpsOf]) ?_
  rw[hE2,hE7]
  unfold rB kF
  refine O9 hlp rfl λW1 l1 y1 z1=> ?_
  have o1:=ho.ext y1 (by omega)
  have s1:=hs.ext y1 (λb hb h=>by omega)
  obtain⟨sa,sc,rfl⟩:=Mo hs
  have c0:W1.cell? ⟨n0,0,none⟩=some (.slice sa d.length sc):=o1.cell (off:=0)
  unfold gA
  simp(disch:=omega)only[SV,c0]
  refine KX (cells:= #[.string k]) (by decide) (by decide) (by kernel_rfl) λW2 o2 y2 z2=> ?_
  refine Eh (m:=1) (news:=[Value.string k]) (i:=Try.t9) Try.underlying53 Try.underlying53 Hw rfl rfl rfl (s1.ext y2 (λ_ _ h=>h)) (o2.cl (off:=0) (n:=1) rfl (λi hi=>by rw[UQ])) (by simp[one]) (λb hb=>by omega) (by omega) (by rw[show Try.t9.bytes=16 from rfl];omega) (by decide) λo' W3 s3 y3=> ?_
  obtain⟨oa',oc',rfl⟩:=Mo s3
  refine Lu ((o1.ext y2 (λh=>h)).ext y3 (by omega)) rfl (by simp) λW4 o4 y4 z4=> ?_
  simp only[U7]at o4
  have l4:=F7 (F7 (F7 l1 y2 (λh=>h)) y3 (by omega)) y4 (by omega)
  refine Nu l4 λW5 l5 y5 z5=> ?_
  have yy:aJ W W5 (λy=>y=n0∨y=n0+2∨n0+3<y):=(((((y1.mono λy _ h=> .inr (.inl h)).seq (y2.mono λ_ _ h=>h.elim)).seq (y3.mono λy _ h=> .inr (.inr h))).seq (y4.mono λy _ h=> .inl h)).seq (y5.mono λy _ h=> .inr (.inl h)))
  refine⟨rfl,⟨_,hx.seq (yy.mono λy _ h=>by omega),l5,o4.ext y5 (by omega), ?_⟩,yy⟩
  rw[UO,VF]
  exact(s3.ext y4 (λb hb h=>by omega)).ext y5 (λb hb h=>by omega)
 refine hmain.mono ?_
 rintro r w9 ⟨rfl,d,hpm,sv,hx,hlp,ho,hs⟩
 refine My hlp (by rw[hr0];simp) λwa ya za=> ?_
 rw[hr0]
 have hz2:put g (some DS) (.pointer (some ⟨n0+1,0,none⟩)) 2=g 2:=rfl
 have hzm:put g (some DS) (.pointer (some ⟨n0+1,0,none⟩)) 1000003= .pointer (some ⟨n0+1,0,none⟩):=rfl
 show jE RR (put g (some DS) (.pointer (some ⟨n0+1,0,none⟩)) 2) (put g (some DS) (.pointer (some ⟨n0+1,0,none⟩)) 1000003) wa
 rw[hz2,hzm,g2]
 unfold jE
 have c0:wa.cell? ⟨n0,0,none⟩=some sv:=(ho.ext ya (by omega)).cell (off:=0)
 simp(disch:=omega)only[SV,c0]
 refine NI (F7 (F7 d8 hx (by omega)) ya (by omega)) λwe ye ze=> ?_
 rw[hRR]
 have hs':=(hs.ext ya (λb hb h=>by omega)).ext ye (λb hb h=>by omega)
 refine⟨d,hpm,⟨hs'.1, ?_⟩,((x08.trans hx λy hy h=>by omega).trans ya λy hy h=>by omega).trans ye λy hy h=>by omega⟩
 rcases hs'.2 with h|⟨b,c,rest,g1,g2,g3⟩
 .exact .inl h
 .exact .inr ⟨b,c,rest,g1,by omega,g3⟩
theorem QZ{m:Nat}{ls:List (ByteArray×Wn)}{w:Wm}(hm:Mp w m DI ls)(hnd:(ls.map (·.1)).Nodup)(hl:ls.length<=49){K:Wn->Wm->Prop}
 (hK:∀r W (L:List ByteArray),L.Perm (ls.map (·.1))->I5 L->Sl W r (L.map Value.string)->aJ w W bR->K r W):
 aH pg qN #[.map (some m)] w λt w=>aH pg lS #[t] w K:=by
 refine ES ?_
 unfold DT A5
 refine kG λw1 o1 x1 s1=> ?_
 simp only[Value.cells]at o1
 have q1:=λw=>QJ (P:=pg) (f:=eX) [] [.pointer (some ⟨w.heap.size,0,none⟩)] w
 have q1:=λW=>QJ (P:=pg) (f:=eX) [] [.pointer (some ⟨w.heap.size,0,none⟩)] W
 simp(disch:=omega)only[SV,q1]
 refine B9 ?_
 unfold AE vN
 refine BK ?_
 unfold yY uZ
 have hml:=hm.lt
 refine(OT (hm.ext x1 (λh=>h)) o1 (by omega) (by omega)).mono ?_
 rintro r w2 ⟨d,hpm,os,x2⟩
 have hlen:d.length=ls.length:=by rw[hpm.length_eq,UU]
 refine(NJ (base:=w1.heap.size) os (by omega) (hpm.nodup_iff.2 hnd)).mono ?_
 rintro r2 w3 ⟨⟨L,h1,h2,os3⟩,x3⟩
 refine hK r w3 L (h1.trans hpm) h2 os3.sl ((x1.seq x2).trans x3 λy hy h=>by have:=x1.size;omega)
theorem P2 {p:Nat}{X D:Nat->Prop}{S:iQ}{w:Wm}(h:fC w p X D S)(hnd:(S.seen.map (·.1)).Nodup)(hl:S.seen.length<=49):
 aH pg pI #[dP p] w (λr W=>(∃L:List ByteArray,L.Perm (S.seen.map (·.1))/\I5 L/\Sl W r (L.map Value.string))/\aJ w W bR):=by
 refine Dz ?_
 unfold CK zZ
 obtain⟨ms,mn,sv,ls,ln,cs,h1,h2,h3,h4,h5,h6,h7,h7',h8,h9,h10,h11,h12,h13,h14⟩:=h
 have hk:=h12.keys
 have c2:w.cell? ⟨p,2,none⟩=some (.map (some mn)):=h8.cell (off:=2)
 simp(disch:=omega)only[SV,c2,UQ]
 have hlen:ln.length=S.seen.length:=by
  have:=congrArg List.length hk
  simpa using this
 refine QZ h10 (by rw[hk];exact hnd) (by omega) λr W L q1 q2 q3 q4=> ?_
 rw[hk]at q1
 exact⟨⟨L,q1,q2,q3⟩,q4⟩
theorem fC.xd {w:Wm}{p:Nat}{X D:Nat->Prop}{S:iQ}(h:fC w p X D S):∀b,X b->D b:=by
 obtain⟨_,_,_,_,_,_,_,_,_,_,_,_,h7,_⟩:=h;exact h7
theorem vP.after {w w':Wm}{X X':Nat->Prop}{v:Wn}{b:List UInt8}(h:vP w X v b)(hX:∀b,X' b->X b∨w.heap.size<=b)(x:aJ w w' X):vP w' X' v b:=⟨h.1.ext x h.2,(h.sub hX).2⟩
theorem vP.low {w:Wm}{X Y:Nat->Prop}{v:Wn}{b:List UInt8}(h:vP w X v b)(hY:∀b,Y b->X b):vP w Y v b:=⟨h.1,λh'=>h.2 (kS h' hY)⟩
abbrev nA:ByteArray:=⟨#[97]⟩
theorem aJ.big {w w1 w2:Wm}{M:Nat->Prop}(x:aJ w w1 bR)(y:aJ w1 w2 M)(h:∀b,M b->w.heap.size<=b):aJ w w2 bR:=x.trans y λb hb hm=>by have:=h b hm;omega
theorem KZ(os:List Bc)(c:aX):∀i,H2 os [] c i=c
 |0=>rfl
 |i+1=>by
  rw[H2]
  cases os[i]? with
  |none=>exact KZ os c i
  |some o=>exact KZ os c i
theorem OR(w:Wm):aH pg wT #[] w (λr w'=>r= .bool true/\aJ w w' bR):=by
 refine Hx ?_
 unfold Ia DN
 refine(P6 (room:=100) (by omega) (by omega)).mono ?_
 rintro r w1 ⟨p,X,rfl,h1,hX1,x1⟩
 have n0:((0:Int) !=0)=false:=rfl
 simp(disch:=omega)only[SV,n0]
 refine HZ (cells:= #[.int .u8 120,.int .u8 121]) (by decide) (by decide) (by kernel_rfl) λw2 o2 x2 s2=> ?_
 refine La o2 λw3 o3 x3 s3=> ?_
 have x13:aJ w1 w3 bR:=x2.new x3 (by omega)
 have hb:Bs w3 (.slice (some ⟨w1.heap.size,0,none⟩) 2 2) [120,121]:=bE.whole (l:=[120,121]) (c:=2) o3 (by simp)
 have hB0:Ro (Ml 100):=⟨by decide,by decide,by decide,by decide⟩
 refine(L2 (a:=0) (name:=nA) (h1.new x13) hB0 hb (by simp) (by omega) (by omega)).mono ?_
 rintro r w4 ⟨rfl,hp4⟩
 have e1:LB (Ml 100) nA 0 [120,121]=(⟨100,[],[(nA,[120,121])],[⟨0,nA,⟨#[]⟩,0,[120,121]⟩],-1,false⟩,0):=by rfl
 rw[e1]at hp4⊢
 obtain⟨X4,D4,h4,hX4,hD4,x4⟩:=hp4
 have hB4:Ro ⟨100,[],[(nA,[120,121])],[⟨0,nA,⟨#[]⟩,0,[120,121]⟩],-1,false⟩:=⟨by decide,by decide,by decide,by decide⟩
 have x03:=x1.seq x13
 have z3:=x03.size
 have z1:=x1.size
 have x04:aJ w w4 bR:=aJ.big x03 x4 hX1
 have big4:∀b,X4 b->w.heap.size<=b:=λb h=>by rcases hX4 b h with h|h;exact hX1 b h;omega
 simp(disch:=omega)only[SV]
 refine(IS (name:=nA) h4 hB4 (λb hb=>by have hb:some [120,121]=some b:=hb;cases hb;decide)).mono ?_
 rintro r w5 ⟨hr,x5⟩
 rcases hr with⟨h,_⟩|⟨_,h,_⟩|⟨_,b,v,hg,rfl,ho⟩
 .cases h
 .have h:some [120,121]=(none:Option (List UInt8)):=h
  cases h
 have hg:some [120,121]=some b:=hg
 cases hg
 have dv:vP w5 D4 v [120,121]:=zC.dat ho λb hb=>fC.lt h4 b hb
 obtain⟨va,vc,rfl⟩:=ho.len
 have h5:=h4.new x5
 have z4:=x04.size
 have z5:=x5.size
 simp(disch:=omega)only[SV]
 refine(KG h5).mono ?_
 rintro r w6 ⟨rfl,hw⟩
 rw[hw];clear hw w6
 refine(Oi (ks:=[]) h5 (Sl.nil _) (λh=>h) (by simp) (by simp) (λi hi=>by rw[KZ];decide) (λo ho=>by
  have ho:=VZ.1 ho
  rw[ho];exact⟨by decide,by decide⟩)).mono ?_
 rintro r w6 ⟨rfl,hp6⟩
 have e6:SK ⟨100,[],[(nA,[120,121])],[⟨0,nA,⟨#[]⟩,0,[120,121]⟩],-1,false⟩ []=⟨100,[],[],[],-1,false⟩:=by rfl
 rw[e6]at hp6
 obtain⟨X6,D6,h6,hX6,hD6,x6⟩:=hp6
 have dv6:=vP.after (vP.low dv (fC.xd h4)) hX6 x6
 have x06:aJ w w6 bR:=aJ.big (x04.seq x5) x6 big4
 have big6:∀b,X6 b->w.heap.size<=b:=λb h=>by rcases hX6 b h with h|h;exact big4 b h;omega
 have hB6:Ro ⟨100,[],[],[],-1,false⟩:=⟨by decide,by decide,by decide,by decide⟩
 refine(IS (name:=nA) h6 hB6 (λb hb=>by have hb:none=some b:=hb;cases hb)).mono ?_
 rintro r w7 ⟨hr,x7⟩
 rcases hr with⟨h,_⟩|⟨_,_,rfl⟩|⟨_,b,v,hg,rfl,ho⟩
 .cases h
 .have hcv:=kP (dv6.1.ext x7 (kD _))
  have n1:((0:Int)==0)=true:=rfl
  have n2:(((([⟨0,nA,⟨#[]⟩,0,[120,121]⟩]:List Bc).length:Nat):Int)==1)=true:=rfl
  have n2':(((1:Nat):Int)==1)=true:=rfl
  have n3:((21:Int)==21)=true:=rfl
  have n4:((⟨([120,121]:List UInt8).toArray⟩:ByteArray).toList==(⟨#[120,121]⟩:ByteArray).toList)=true:=by simp
  have hl2:([⟨0,nA,⟨#[]⟩,0,[120,121]⟩]:List Bc).length=1:=rfl
  simp(disch:=omega)only[SV,n1,hl2,n2',n3,hcv,Br,n4]
  refine(Q3 (h6.new x7) hB6).mono ?_
  rintro r w8 ⟨rfl,hp8⟩
  obtain⟨X8,D8,h8,hX8,hD8,x8⟩:=hp8
  have e8:((MW ⟨100,[],[],[],-1,false⟩).2==0)=true:=by rfl
  simp(disch:=omega)only[SV,e8]
  exact aJ.big (x06.seq x7) x8 big6
 .have hg:none=some b:=hg
  cases hg
structure LH(n:Nat)(S:iQ):Prop where
 bd:Ro S
 sz:bG S.seen<=1000000000
 un:S.under.length+n<=1000000
theorem LH.le {n m:Nat}{S:iQ}(h:LH n S)(hm:m<=n):LH m S:=⟨h.bd,h.sz,by have:=h.un;omega⟩
theorem LH.file {n:Nat}{S:iQ}(h:LH n S){k:ByteArray}{b:List UInt8}(hb:bC k S.seen=some b):b.length<=1000000000:=by
 have h1:=zM (k:=k) (c:=S.seen)
 rw[hb]at h1
 have:=h.sz
 have h1:b.length<=bG S.seen:=h1
 omega
theorem GQ{l:Int}(h: -1<=l/\l<=9223372036854775807): -1<=tP l/\tP l<=9223372036854775807:=by
 unfold tP
 split<;>omega
theorem Lc{n:Nat}{S:iQ}{o:Bc}(h:LH (n+1) S)(hs:bG (Fe o S.seen)<=1000000000):LH n (xS S o).1:=by
 have hb:=h.bd
 have hu:=h.un
 have hz:=h.sz
 unfold xS
 split
 .exact ⟨⟨GQ hb.left,hb.seen,hb.under,hb.room⟩,hz,by show S.under.length+n<=_;omega⟩
 .refine ⟨⟨GQ hb.left,by show bG (Fe o S.seen)<=_;omega, ?_,hb.room⟩,hs, ?_⟩
  .show (S.under++[o]).length<=_;rw[UO];simp;omega
  .show (S.under++[o]).length+n<=_;rw[UO];simp;omega
theorem T4 {n:Nat}{S:iQ}{k:ByteArray}{a:Int}{l:List UInt8}(h:LH (n+1) S):LH n (LB S k a l).1:=by
 unfold LB
 split
 .rename_i h0
  refine Lc h ?_
  unfold Rn at h0
  split at h0
  .omega
  split at h0
  .omega
  rename_i h1
  split at h0
  .omega
  split at h0
  .omega
  rename_i h2
  have hr:=h.bd.room
  have e:Fe ⟨0,k,⟨#[]⟩,a.toNat,l⟩ S.seen=sY k (over (tT S k) a.toNat l) S.seen:=rfl
  have hs:=BU k (over (tT S k) a.toNat l) S.seen
  rw[tS]at hs
  rw[e]
  unfold tT at*
  generalize((bC k S.seen).getD []).length=q at*
  have:0<=a:=by
   by_cases ha:a<0
   .exact absurd (.inr ha) h1
   .omega
  omega
 .exact h.le (by omega)
theorem TL{n:Nat}{S:iQ}{k:ByteArray}(h:LH (n+1) S):LH n (Nw S k).1:=by
 unfold Nw
 split
 .exact h.le (by omega)
 .split
  .exact h.le (by omega)
  .refine Lc h ?_
   have:=BT k S.seen
   have hz:=h.sz
   show bG (tY k S.seen)<=_
   omega
theorem TM{n:Nat}{S:iQ}{k j:ByteArray}(h:LH (n+1) S):LH n (Nx S k j).1:=by
 unfold Nx
 split
 .exact h.le (by omega)
 .split
  .exact h.le (by omega)
  .split
   .exact h.le (by omega)
   .refine Lc h ?_
    have hz:=h.sz
    unfold Fe
    rw[if_neg (show¬(1:Nat)=0 by decide),if_pos (show(1:Nat)=1 from rfl)]
    show bG (match bC k S.seen with|none=>S.seen|some old=>sY j old (tY k S.seen))<=_
    have h1:=BT k S.seen
    cases hg:bC k S.seen with
    |none=>exact hz
    |some old=>
     rw[hg]at h1
     have h1:bG (tY k S.seen)+old.length=bG S.seen:=h1
     have h2:=BU j old (tY k S.seen)
     show bG (sY j old (tY k S.seen))<=_
     omega
theorem TQ{n:Nat}{S:iQ}(h:LH n S):LH n (MW S).1:=by
 have hb:=h.bd
 have hu:=h.un
 unfold MW
 split
 .exact h
 .split
  .exact ⟨⟨GQ hb.left,hb.seen,hb.under,hb.room⟩,h.sz,hu⟩
  .exact ⟨⟨GQ hb.left,hb.seen,by simp,hb.room⟩,h.sz,by simp;omega⟩
theorem PT{w:Wm}{sz n:Nat}{v:Wn}{l:List Wn}(h:Cl w sz v n l)(hsz:0<sz):¬CR v (λb=>w.heap.size<=b):=by
 obtain⟨a,c,rfl,hl,hh⟩:=h
 intro hi
 cases n with
 |zero=>unfold CR at hi;split at hi<;>simp_all
 |succ n=>
  obtain⟨b,off,rfl,h2⟩:=hh (by omega)
  have hi:w.heap.size<=b:=hi
  have h3:=h2 0 (by rw[hl];exact Nat.mul_pos (by omega) hsz)
  have hlt:0<l.length:=by rw[hl];exact Nat.mul_pos (by omega) hsz
  rw[U1 hlt]at h3
  unfold World.cell? at h3
  rw[Vc hi]at h3
  cases h3
theorem fC.xd' {w:Wm}{p:Nat}{X D:Nat->Prop}{S:iQ}(h:fC w p X D S):∀b,X b->D b:=by
 obtain⟨_,_,_,_,_,_,_,_,_,_,_,_,h7,_⟩:=h;exact h7
def PA(w0:Wm)(N:Nat->Prop):Nat->Prop:=λy=>w0.heap.size<=y/\¬N y
def rM(w0:Wm)(N:Nat->Prop)(w:Wm)(p:Nat)(S:iQ):Prop:=∃X D,fC w p X D S/\(∀b,X b->w0.heap.size<=b/\¬N b)/\aJ w0 w bR/\∀b,N b->D b
theorem rM.new {w0:Wm}{N:Nat->Prop}{w w':Wm}{p:Nat}{S:iQ}(h:rM w0 N w p S)(x:aJ w w' bR):rM w0 N w' p S:=by
 obtain⟨X,D,h,hX,x0,hN⟩:=h
 exact⟨X,D,h.new x,hX,x0.seq x,hN⟩
theorem rM.x {w0:Wm}{N:Nat->Prop}{w:Wm}{p:Nat}{S:iQ}(h:rM w0 N w p S):aJ w0 w bR:=by
 obtain⟨_,_,_,_,x0,_⟩:=h;exact x0
theorem rM.lt {w0:Wm}{N:Nat->Prop}{w:Wm}{p:Nat}{S:iQ}(h:rM w0 N w p S):∀b,N b->b<w.heap.size:=by
 obtain⟨X,D,h,hX,x0,hN⟩:=h
 exactλb hb=>fC.lt h b (hN b hb)
theorem rM.add {w0:Wm}{N:Nat->Prop}{w w':Wm}{p b:Nat}{S:iQ}(h:rM w0 N w p S)(x:aJ w w' bR)(hb:w.heap.size<=b)(hb':b<w'.heap.size):rM w0 (λy=>N y∨y=b) w' p S:=by
 obtain⟨X,D,h,hX,x0,hN⟩:=h
 refine⟨X,λy=>D y∨y=b,h.more x hb hb',λy hy=>⟨(hX y hy).1,λhn=>hn.elim (hX y hy).2 λe=> ?_⟩,x0.seq x,λy hy=>hy.imp (hN y) id⟩
 have:=fC.lt h y (fC.xd' h y hy)
 omega
theorem rM.post {w0:Wm}{N:Nat->Prop}{w w':Wm}{p:Nat}{X D:Nat->Prop}{S S':iQ}(h:fC w p X D S)(hX:∀b,X b->w0.heap.size<=b/\¬N b)(x0:aJ w0 w bR)(hN:∀b,N b->D b)(hp:xL w p X D S' w'):rM w0 N w' p S'/\aJ w w' (PA w0 N):=by
 obtain⟨X',D',h1,h2,h3,x⟩:=hp
 have z:=x0.size
 refine⟨⟨X',D',h1,λb hb=> ?_,x0.trans x λy hy hm=>by have:=(hX y hm).1;omega,λb hb=>h3 b (hN b hb)⟩,x.mono λb _ hb=>hX b hb⟩
 rcases h2 b hb with h4|h4
 .exact hX b h4
 .exact ⟨by omega,λhn=>by have:=fC.lt h b (hN b hn);omega⟩
section
variable{Z:Nat->Prop}
structure RK(n:Nat)(S:iQ)(D:vE):Prop where
 sim:zP S D
 bk:LH n S
 rb:OP D
 len:D.sure.length+D.way.length+n<=50000
theorem RK.le {n m:Nat}{S:iQ}{D:vE}(h:RK n S D)(hm:m<=n):RK m S D:=⟨h.sim,h.bk.le hm,h.rb,by have:=h.len;omega⟩
theorem RK.left {n:Nat}{S:iQ}{D:vE}(h:RK n S D): -1<=D.left/\D.left<=9223372036854775807:=by
 rw[h.sim.lf];exact h.bk.bd.left
theorem OP.like {D D':vE}(h:OP D)(h1:D'.sure=D.sure)(h2:D'.way=D.way):OP D':=⟨h1▸h.fs,h2▸h.ops,by rw[h1,h2];exact h.len⟩
theorem Ll{D:vE}{N k:Nat}{n m:ByteArray}{a:Int}{b:List UInt8}(h:OP D)(hl:D.sure.length+D.way.length+(N+1)<=50000)(ho:oJ D k n m a b=0->k<=2/\a.toNat+b.length<=1000000000):
 OP (uV D k n m a b).1/\(uV D k n m a b).1.sure.length+(uV D k n m a b).1.way.length+N<=50000:=by
 obtain⟨k1,k2,_⟩:=yE D
 unfold uV
 split
 .exact ⟨h,by show D.sure.length+D.way.length+N<=50000;omega⟩
 .rename_i h0
  have h0:oJ D k n m a b=0:=Classical.not_not.1 h0
  split
  .exact ⟨h.like k1 k2,by rw[k1,k2];omega⟩
  .have hlen:((gB D).1.sure).length+(D.way++[(⟨k,n,m,a.toNat,b⟩:Bc)]).length+N<=50000:=by rw[k1,UO];simp;omega
   refine⟨⟨k1▸h.fs,λo hm=> ?_, ?_⟩,hlen⟩
   .rcases Vw.1 hm with hm|hm
    .exact h.ops o hm
    .rw [VZ]at hm
     subst hm
     exact ho h0
   .have:((gB D).1.sure).length+(D.way++[(⟨k,n,m,a.toNat,b⟩:Bc)]).length<=50000:=by omega
    exact this
theorem QP{D:vE}{S:iQ}(h:zP S D)(n m:ByteArray)(a:Nat)(b:List UInt8):bG (JE ⟨0,n,m,a,b⟩ (cI D))+(tT S n).length=bG S.seen+max (tT S n).length (a+b.length):=by
 have h1:=(KU.do (o:=⟨0,n,m,a,b⟩) h.se (show(0:Nat)<=2 by omega)).both.1
 rw[<-h1]
 have e:Fe ⟨0,n,m,a,b⟩ S.seen=sY n (over (tT S n) a b) S.seen:=rfl
 rw[e]
 have hs:=BU n (over (tT S n) a b) S.seen
 rw[tS]at hs
 exact hs
theorem RK.write {n:Nat}{S:iQ}{D:vE}(h:RK (n+1) S D)(k:ByteArray)(a:Int)(l:List UInt8):RK n (LB S k a l).1 (uV D 0 k ⟨#[]⟩ a l).1:=by
 obtain⟨h1,h2⟩:=Ll (N:=n) (k:=0) (n:=k) (m:=⟨#[]⟩) (a:=a) (b:=l) h.rb (by have:=h.len;omega) (λhf=>by
  have hr:=h.bk.bd.room
  have hz:=h.bk.sz
  have hw:=QP h.sim k ⟨#[]⟩ a.toNat l
  have hg:(tT S k).length<=bG S.seen:=zM
  unfold oJ at hf
  rw[h.sim.rm]at hf
  split at hf
  .cases hf
  split at hf
  .cases hf
  rw[if_neg (by omega)]at hf
  split at hf
  .cases hf
  split at hf
  .cases hf
  rename_i h5
  refine⟨by omega, ?_⟩
  omega)
 exact⟨(KO h.sim k a l).2,T4 h.bk,h1,h2⟩
theorem RK.remove {n:Nat}{S:iQ}{D:vE}(h:RK (n+1) S D)(k:ByteArray):RK n (Nw S k).1 (uV D 2 k ⟨#[]⟩ 0 []).1:=by
 obtain⟨h1,h2⟩:=Ll (N:=n) (k:=2) (n:=k) (m:=⟨#[]⟩) (a:=0) (b:=[]) h.rb (by have:=h.len;omega) (λhf=>⟨by omega,by simp⟩)
 exact⟨(JW h.sim k).2,TL h.bk,h1,h2⟩
theorem RK.rename {n:Nat}{S:iQ}{D:vE}(h:RK (n+1) S D)(k j:ByteArray):RK n (Nx S k j).1 (uV D 1 k j 0 []).1:=by
 obtain⟨h1,h2⟩:=Ll (N:=n) (k:=1) (n:=k) (m:=j) (a:=0) (b:=[]) h.rb (by have:=h.len;omega) (λhf=>⟨by omega,by simp⟩)
 exact⟨(JX h.sim k j).2,TM h.bk,h1,h2⟩
theorem RK.sync {n:Nat}{S:iQ}{D:vE}(h:RK n S D):RK n (MW S).1 (yX D).1:=by
 obtain⟨k1,k2,_⟩:=yE D
 have hl:=h.len
 refine⟨(MI h.sim).2,TQ h.bk, ?_, ?_⟩
 .unfold yX
  split
  .exact h.rb
  split
  .exact h.rb.like k1 k2
  .obtain ⟨f1,f2⟩:=El D.way h.rb.fs h.rb.ops
   exact⟨f1,λo ho=>(nomatch ho),by show(cI D).length+0<=50000;unfold cI;omega⟩
 .unfold yX
  split
  .exact hl
  split
  .rw [k1,k2];exact hl
  .obtain ⟨f1,f2⟩:=El D.way h.rb.fs h.rb.ops
   show(cI D).length+0+n<=50000
   unfold cI;omega
def Cf(Z:Nat->Prop)(n:Nat)(w:Wm)(S:iQ)(dv:Wn):Prop:=∃D sv wv,dv= .agg (uA D sv wv).toArray/\Cc Z w D sv wv/\RK n S D
theorem Cf.new {n:Nat}{w w':Wm}{S:iQ}{dv:Wn}(h:Cf Z n w S dv)(x:aJ w w' bR):Cf Z n w' S dv:=by
 obtain⟨D,sv,wv,h1,h2,h3⟩:=h
 exact⟨D,sv,wv,h1,h2.new x,h3⟩
theorem Cf.le {n m:Nat}{w:Wm}{S:iQ}{dv:Wn}(h:Cf Z n w S dv)(hm:m<=n):Cf Z m w S dv:=by
 obtain⟨D,sv,wv,h1,h2,h3⟩:=h
 exact⟨D,sv,wv,h1,h2,h3.le hm⟩
def Rj:List Wn->Bool
 |a::b::r=> !(A2 a&&A2 b)&&Rj (b::r)
 |_=>true
theorem Qy:∀{cs:List Wn} {i:Nat} {x y:Wn},Rj cs=true->cs[i]?=some x->cs[i+1]?=some y->A2 x=true->A2 y=true->False
 |a::b::r,0,x,y,h,h1,h2,hx,hy=>by
  simp only[UP,UR,V1]at h1 h2
  subst h1;subst h2
  rw[Rj,hx,hy]at h
  cases h
 |a::b::r,i+1,x,y,h,h1,h2,hx,hy=>by
  rw[Rj,UT]at h
  exact Qy (i:=i) h.2 (by simpa using h1) (by simpa using h2) hx hy
 |[a],i,x,y,h,h1,h2,hx,hy=>by simp at h2
 |[],i,x,y,h,h1,h2,hx,hy=>by simp at h2
theorem Et:∀{cs:List Wn},(∀c∈cs,A2 c=false)->Rj cs=true
 |a::b::r,h=>by
  rw[Rj,h a (by simp),Bool.false_and,VT,Bool.true_and]
  exact Et λc hc=>h c (by simp[hc])
 |[a],h=>rfl
 |[],h=>rfl
theorem PU{w:Wm}{sz n o:Nat}{v:Wn}{l:List Wn}{b:Nat}{cs:List Wn}(h:Cl w sz v n l)(oo:bE w b cs)(hn:Rj cs=true)(ho:o+1<sz)(hs:∀i,i<n->∃x y,l[i*sz+o]?=some x/\l[i*sz+(o+1)]?=some y/\A2 x=true/\A2 y=true):¬CR v (λy=>y=b):=by
 intro hi
 obtain⟨a,c,rfl,hl,hh⟩:=h
 unfold CR at hi
 split at hi
 .rename_i e
  simp only[Value.slice.injEq]at e
  obtain⟨rfl,e2,rfl⟩:=e
  obtain⟨b',off,he,h2⟩:=hh (by omega)
  cases he
  have hi:b'=b:=hi
  subst hi
  obtain⟨x,y,h3,h4,hx,hy⟩:=hs 0 (by omega)
  rw[Wl,UQ]at h3 h4
  have hsz:sz<=l.length:=by rw[hl,e2];exact Nat.le_mul_of_pos_left _ (by omega)
  have g3:=h2 o (by omega)
  have g4:=h2 (o+1) (by omega)
  rw[oo.cell,h3]at g3
  rw[oo.cell,h4]at g4
  exact Qy (i:=off+o) hn g3 (by rw[VC];exact g4) hx hy
 .exact hi
theorem Nh{v:Wn}{M:Nat->Prop}(h:CR v M):∃b,M b/\CR v (λy=>y=b):=by
 unfold CR at h
 split at h
 .exact ⟨_,h,rfl⟩
 .exact h.elim
theorem Cc.keep {w w':Wm}{D:vE}{sv wv:Wn}{M:Nat->Prop}(h:Cc Z w D sv wv)(x:aJ w w' M)(hM:∀b,M b->(∃cs,bE w b cs/\Rj cs=true)∨w.heap.size<=b):Cc Z w' D sv wv:=by
 refine⟨⟨H0 h.sure.1 x λhi=> ?_,h.sure.2.1,λb hb=>Vb (h.sure.2.2 b hb) x.size⟩,H0 h.way x λhi=> ?_,h.wz⟩
 .obtain ⟨b,hb,hi⟩:=Nh hi
  rcases hM b hb with⟨cs,o,hn⟩|hn
  .refine PU (o:=0) h.sure.1 o hn (by omega) (λi hi=> ?_) hi
   obtain⟨h3,h4⟩:=Ln hi
   exact⟨_,_,h3,h4,rfl,rfl⟩
  .exact PT h.sure.1 (by omega) (kS hi λy hy=>by rw[hy];exact hn)
 .obtain ⟨b,hb,hi⟩:=Nh hi
  rcases hM b hb with⟨cs,o,hn⟩|hn
  .refine PU (o:=1) h.way o hn (by omega) (λi hi=> ?_) hi
   exact⟨_,_,IZ hi (by omega),IZ hi (by omega),rfl,rfl⟩
  .exact PT h.way (by omega) (kS hi λy hy=>by rw[hy];exact hn)
theorem Cf.keep {n:Nat}{w w':Wm}{S:iQ}{dv:Wn}{M:Nat->Prop}(h:Cf Z n w S dv)(x:aJ w w' M)(hM:∀b,M b->(∃cs,bE w b cs/\Rj cs=true)∨w.heap.size<=b):Cf Z n w' S dv:=by
 obtain⟨D,sv,wv,h1,h2,h3⟩:=h
 exact⟨D,sv,wv,h1,h2.keep x hM,h3⟩
theorem Cf.cs {n:Nat}{w:Wm}{S:iQ}{dv:Wn}(h:Cf Z n w S dv):∃cs:List Wn,dv= .agg cs.toArray/\cs.length=5/\(Value.agg cs.toArray).cells.toList=cs/\(∀x∈cs,one x=true)/\∀x∈cs,A2 x=false:=by
 obtain⟨D,sv,wv,h1,h2,h3⟩:=h
 exact⟨_,h1,rfl,wA h2,zG h2,wB h2⟩
theorem Pf{N:Nat}{S:iQ}{dv:Wn}{k:ByteArray}{a:Int}{l:List UInt8}{w:Wm}(h:Cf Z (N+1) w S dv)(hl:l.length<=1000000000):
 aH pg lR #[dv,.agg (MV 0 k ⟨#[]⟩ a l).toArray] w (λr w'=>∃dv',r= .tuple #[dv',.int .i64 (LB S k a l).2]/\Cf Z N w' (LB S k a l).1 dv'/\aJ w w' bR):=by
 obtain⟨D,sv,wv,rfl,h2,h3⟩:=h
 have hz:=h3.bk.sz
 refine(Ns h2 h3.rb (by omega) (λh=>absurd rfl h) hl h3.left (λ_ h0 ha=> ?_)).mono ?_
 .have hw:=QP h3.sim k ⟨#[]⟩ a.toNat l
  have hg:(tT S k).length<=bG S.seen:=zM
  have he:((bC k (cI D)).getD []).length=(tT S k).length:=by unfold tT;rw[h3.sim.se.eq]
  omega
 .rintro r w' ⟨sv',wv',rfl,hv,x⟩
  rw[(KO h3.sim k a l).1]
  exact⟨_,rfl,⟨_,_,_,rfl,hv,h3.write k a l⟩,x⟩
theorem Nz{N:Nat}{S:iQ}{dv:Wn}{k:ByteArray}{w:Wm}(h:Cf Z (N+1) w S dv):
 aH pg lR #[dv,.agg (MV 2 k ⟨#[]⟩ 0 []).toArray] w (λr w'=>∃dv',r= .tuple #[dv',.int .i64 (Nw S k).2]/\Cf Z N w' (Nw S k).1 dv'/\aJ w w' bR):=by
 obtain⟨D,sv,wv,rfl,h2,h3⟩:=h
 refine(Ns h2 h3.rb (by omega) (λ_=>rfl) (by simp) h3.left (λh=>absurd h (by decide))).mono ?_
 rintro r w' ⟨sv',wv',rfl,hv,x⟩
 rw[(JW h3.sim k).1]
 exact⟨_,rfl,⟨_,_,_,rfl,hv,h3.remove k⟩,x⟩
theorem NA{N:Nat}{S:iQ}{dv:Wn}{k j:ByteArray}{w:Wm}(h:Cf Z (N+1) w S dv):
 aH pg lR #[dv,.agg (MV 1 k j 0 []).toArray] w (λr w'=>∃dv',r= .tuple #[dv',.int .i64 (Nx S k j).2]/\Cf Z N w' (Nx S k j).1 dv'/\aJ w w' bR):=by
 obtain⟨D,sv,wv,rfl,h2,h3⟩:=h
 refine(Ns h2 h3.rb (by omega) (λ_=>rfl) (by simp) h3.left (λh=>absurd h (by decide))).mono ?_
 rintro r w' ⟨sv',wv',rfl,hv,x⟩
 rw[(JX h3.sim k j).1]
 exact⟨_,rfl,⟨_,_,_,rfl,hv,h3.rename k j⟩,x⟩
theorem QT{N:Nat}{S:iQ}{dv:Wn}{w:Wm}(h:Cf Z N w S dv):
 aH pg uJ #[dv] w (λr w'=>∃dv',r= .tuple #[dv',.int .i64 (MW S).2]/\Cf Z N w' (MW S).1 dv'/\aJ w w' bR):=by
 obtain⟨D,sv,wv,rfl,h2,h3⟩:=h
 refine(R5 h2 h3.rb h3.left).mono ?_
 rintro r w' ⟨sv',wv',rfl,hv,x⟩
 rw[(MI h3.sim).1]
 exact⟨_,rfl,⟨_,_,_,rfl,hv,h3.sync⟩,x⟩
theorem ND(xs cs:List Wn)(h:cs.length=xs.length):nG cs 0 xs=xs:=by
 have:=xI xs [] cs (by omega)
 rw[Vm,List.drop_of_length_le (by omega),VW,Vm]at this
 exact this
theorem vZ{w:Wm}{b:Nat}{cs:List Wn}(o:bE w b cs)(h:cs.length=5):(aD 41 (.pointer (some ⟨b,0,none⟩))).run pg w= .ok (.value (.agg cs.toArray)) w:=by
 have:=cC (off:=0) o (by omega)
 rwa [List.drop_zero,Vj (by omega)]at this
theorem wR{w:Wm}{b:Nat}{cs xs:List Wn}{K:Wn->Wm->Prop}(o:bE w b cs)(h:cs.length=5)(hx:xs.length=5)(v:∀x∈xs,one x=true)(hk:∀w',bE w' b xs->aJ w w' (λx=>x=b)->w'.heap.size=w.heap.size->K undef w'):aB pg (aO 41 (.pointer (some ⟨b,0,none⟩)) (.agg xs.toArray)) w K:=by
 refine iS o (by simpa using hx) (by simpa using v) (by omega) λw' o' x' s'=> ?_
 rw[List.toList_toArray,ND _ _ (by omega)]at o'
 exact hk w' o' x' s'
theorem R4 {N:Nat}{room:Int}{w:Wm}(h0:0<=room)(h1:room<=16777216)(hN:N<=50000)(hZ:∀b,Z b->b<w.heap.size):
 aH pg xJ #[.int .i64 room] w (λr w'=>∃dv,r= .tuple #[dv,.int .i64 0]/\Cf Z N w' (Ml room) dv/\aJ w w' bR):=by
 refine D9 ?_
 unfold HH Cx
 refine bY λw1 o1 x1 s1=> ?_
 have d1:decide (room<0)=false:=decide_eq_false (by omega)
 have d2:decide ((16777216:Int)<room)=false:=decide_eq_false (by omega)
 simp(disch:=omega)only[SV,d1,d2]
 refine wR (xs:=[.int .i64 room,.slice none 0 0,.slice none 0 0,.int .i64 (-1),.bool false]) o1 rfl rfl (by intro x hx;simp only[UZ,Vn,or_false]at hx;rcases hx with rfl|rfl|rfl|rfl|rfl<;>rfl) λw2 o2 x2 s2=> ?_
 refine iR o2 (by simp) ?_
 have x02:aJ w w2 bR:=x1.trans x2 λy hy h=>by omega
 refine⟨_,rfl,⟨⟨room,[],[],-1,false⟩,.slice none 0 0,.slice none 0 0,rfl,⟨⟨⟨none,0,rfl,rfl,λh=>absurd h (Nat.lt_irrefl 0)⟩,λh=>h,λb hb=>Vb (hZ b hb) x02.size⟩,⟨none,0,rfl,rfl,λh=>absurd h (Nat.lt_irrefl 0)⟩,λh=>h⟩, ?_⟩,x02⟩
 refine⟨R7 room,⟨⟨by show-1<=(-1:Int)/\(-1:Int)<=9223372036854775807;decide,by show 0<=1099511627776;decide,by show 0<=1000000;decide,⟨h0,h1⟩⟩,by show 0<=1000000000;decide,by show 0+N<=1000000;omega⟩,⟨λn b h=>(nomatch h),λo ho=>(nomatch ho),by show 0+0<=50000;decide⟩,by show 0+0+N<=50000;omega⟩
theorem Pe{N:Nat}{S:iQ}{dv kv:Wn}{ks:List Bool}{w:Wm}(h:Cf Z N w S dv)(hk:Sl w kv (ks.map Value.bool))(hkl:ks.length<=9223372036854775807)(hs:bG (SK S ks).seen<=1000000000):
 aH pg rN #[dv,kv] w (λr w'=>Cf Z N w' (SK S ks) r/\aJ w w' bR):=by
 obtain⟨D,sv,wv,rfl,h2,h3⟩:=h
 refine(QM h2 h3.rb hk hkl).mono ?_
 rintro r w' ⟨sv',wv',rfl,hv,x⟩
 refine⟨⟨_,_,_,rfl,hv, ?_⟩,x⟩
 obtain⟨hfb,hfl⟩:=Nt (ks:=ks) h3.rb.fs h3.rb.ops D.way.length
 have hl:=h3.len
 have hr:=h3.bk.bd.room
 have hu:=h3.bk.un
 refine⟨Ph h3.sim ks,⟨⟨by show-1<=(-1:Int)/\(-1:Int)<=9223372036854775807;decide,by omega,by show 0<=1000000;decide,hr⟩,hs,by show 0+N<=1000000;omega⟩,⟨hfb,λo ho=>(nomatch ho), ?_⟩, ?_⟩
 .show (ET D.way ks D.sure D.way.length).length+0<=50000;omega
 .show (ET D.way ks D.sure D.way.length).length+0+N<=50000;omega
end
theorem OZ{w w':Wm}{p:Nat}{X D:Nat->Prop}{S:iQ}(h:fC w p X D S)(x:aJ w w' bR):fC w' p X (λb=>D b∨(w.heap.size<=b/\b<w'.heap.size)) S:=by
 obtain⟨ms,mn,sv,ls,ln,cs,h1,h2,h3,h4,h5,h6,h7,h7',h8,h9,h10,h11,h12,h13,h14⟩:=h
 have hd:∀v b,vP w D v b->vP w' (λb=>D b∨(w.heap.size<=b/\b<w'.heap.size)) v b:=λv b hd=>(hd.sub (Y:=λb=>D b∨(w.heap.size<=b/\b<w'.heap.size)) λb h=>by
  rcases h with h|h
  .exact .inl h
  .exact .inr h.1).ext x λ_ h=>h.elim
 have z:=x.size
 exact⟨ms,mn,sv,ls,ln,cs,h1,h2,h3,h4,h5,h6,λb h=> .inl (h7 b h),λb hb=>by
  rcases hb with hb|hb
  .have:=h7' b hb;omega
  .exact hb.2,h8.ext x (λh=>h),h9.ext x (λh=>h),h10.ext x (λh=>h),h11.map hd,h12.map hd,h13.ext x (λb _ h=>h),h14.map hd⟩
def NR(N:Nat->Prop)(w w':Wm):Nat->Prop:=λy=>N y∨(w.heap.size<=y/\y<w'.heap.size)
theorem rM.addR {w0:Wm}{N:Nat->Prop}{w w':Wm}{p:Nat}{S:iQ}(h:rM w0 N w p S)(x:aJ w w' bR):rM w0 (NR N w w') w' p S:=by
 obtain⟨X,D,h,hX,x0,hN⟩:=h
 refine⟨X,_,OZ h x,λy hy=>⟨(hX y hy).1,λhn=> ?_⟩,x0.seq x,λy hy=>hy.imp (hN y) id⟩
 rcases hn with hn|hn
 .exact (hX y hy).2 hn
 .have:=fC.lt h y (fC.xd' h y hy)
  omega
def NY(w0 w:Wm)(N:Nat->Prop):Nat->Prop:=λy=>w0.heap.size<=y/\y<w.heap.size/\¬N y
theorem IT{w:Wm}{sz n:Nat}{v:Wn}{l:List Wn}{Z M:Nat->Prop}(hcl:Cl w sz v n l)(hsz:0<sz)(hz:¬CR v Z)(hM:∀b,M b->Z b∨w.heap.size<=b):¬CR v M:=λhi=>by
 obtain⟨b,hb,hi⟩:=Nh hi
 rcases hM b hb with h|h
 .exact hz (kS hi λy hy=>hy▸h)
 .exact PT hcl hsz (kS hi λy hy=>by rw[hy];exact h)
theorem Cf.prog {w0 w w':Wm}{N:Nat->Prop}{n:Nat}{S:iQ}{dv:Wn}(h:Cf (NY w0 w N) n w S dv)(x:aJ w w' (PA w0 N)):Cf (NY w0 w' N) n w' S dv:=by
 obtain⟨D,sv,wv,h1,h2,h3⟩:=h
 have hM:∀b,PA w0 N b->NY w0 w N b∨w.heap.size<=b:=λb hb=>by
  by_cases hlt:b<w.heap.size
  .exact .inl ⟨hb.1,hlt,hb.2⟩
  .exact .inr (by omega)
 have hZ:∀b,NY w0 w' N b->NY w0 w N b∨w.heap.size<=b:=λb hb=>hM b ⟨hb.1,hb.2.2⟩
 exact⟨D,sv,wv,h1,⟨⟨H0 h2.sure.1 x (IT h2.sure.1 (by omega) h2.sure.2.1 hM),IT h2.sure.1 (by omega) h2.sure.2.1 hZ,λb hb=>hb.2.1⟩,H0 h2.way x (IT h2.way (by omega) h2.wz hM),IT h2.way (by omega) h2.wz hZ⟩,h3⟩
theorem Cf.model {w0 w w':Wm}{N:Nat->Prop}{n:Nat}{S:iQ}{dv:Wn}(h:Cf (NY w0 w N) n w' S dv)(hs:w.heap.size<=w'.heap.size):Cf (NY w0 w' (NR N w w')) n w' S dv:=by
 obtain⟨D,sv,wv,h1,h2,h3⟩:=h
 have hZ:∀b,NY w0 w' (NR N w w') b->NY w0 w N b:=λb hb=>⟨hb.1,by
  by_cases hlt:b<w.heap.size
  .exact hlt
  .exact absurd (.inr ⟨by omega,hb.2.1⟩) hb.2.2,λhn=>hb.2.2 (.inl hn)⟩
 exact⟨D,sv,wv,h1,⟨⟨h2.sure.1,λhi=>h2.sure.2.1 (kS hi hZ),λb hb=>hb.2.1⟩,h2.way,λhi=>h2.wz (kS hi hZ)⟩,h3⟩
theorem Hm{xs:List Wn}:(Value.agg xs.toArray).cells.toList=xs:=by
 simp[Value.cells]
theorem MB{S:iQ}{D:vE}(h:zP S D){L:List ByteArray}(hp:L.Perm (S.seen.map (·.1)))(hs:I5 L):L=(cI D).map (·.1):=by
 have hst:I5 ((cI D).map (·.1)):=by
  unfold I5
  rw[List.pairwise_map]
  exact h.se.st
 refine MJ hs hst λx=> ?_
 rw[hp.mem_iff]
 have key:∀{l:aX} {n:ByteArray},n∈l.map (·.1)↔bC n l≠none:=by
  intro l n
  induction l with
  |nil=>simp[bC]
  |cons a r ih=>
   rw[UW,UZ]
   simp only[bC]
   by_cases hq:n=a.1
   .subst hq;simp
   .have hq':¬a.1=n:=λe=>hq e.symm
    simp[hq,hq',ih]
 rw[key,key,h.se.eq]
theorem RI{l:aX}(h:(l.map (·.1)).Nodup){i:Nat}(hi:i<l.length):bC l[i].1 l=some l[i].2:=by
 induction l generalizing i with
 |nil=>simp at hi
 |cons a r ih=>
  rw[UW,VP]at h
  cases i with
  |zero=>simp[bC]
  |succ i=>
   have hi':i<r.length:=by simpa using hi
   have hm:r[i].1∈r.map (·.1):=Vl.2 ⟨_,VU hi',rfl⟩
   have hne:¬a.1=r[i].1:=λe=>h.1 (e▸hm)
   have hne':¬r[i].1=a.1:=λe=>hne e.symm
   show bC r[i].1 (a::r)=some r[i].2
   simp only[bC]
   rw[<-ih h.2 hi']
   simp[hne,hne']
theorem Jk{l:aX}{n:ByteArray}{b:List UInt8}(h:bC n l=some b):(n,b)∈l:=by
 induction l with
 |nil=>simp[bC]at h
 |cons a r ih=>
  simp only[bC]at h
  split at h
  .rename_i e
   have e':a.1=n∨n=a.1:=by first|exact .inl (by simpa using e)|exact .inr (by simpa using e)
   have e':a.1=n:=by rcases e' with e|e;exact e;exact e.symm
   injection h with h
   subst h;subst e'
   exact Va
  .exact UX _ (ih h)
theorem Jn{k:ByteArray}{b:List UInt8}:∀{l:aX} {q:ByteArray×List UInt8},q∈sY k b l->q=(k,b)∨q∈l
 |[],q,h=>by simp[sY]at h;exact .inl h
 |a::r,q,h=>by
  simp only[sY]at h
  split at h
  .rcases UZ.1 h with h|h
   .rename_i e
    exact .inl (by rw[h])
   .exact .inr (UX _ h)
  .rcases UZ.1 h with h|h
   .exact .inr (h▸Va)
   .rcases Jn h with h|h
    .exact .inl h
    .exact .inr (UX _ h)
theorem Ji{k:ByteArray}:∀{l:aX} {q:ByteArray×List UInt8},q∈tY k l->q∈l
 |[],q,h=>by simp[tY]at h
 |a::r,q,h=>by
  simp only[tY]at h
  split at h
  .exact UX _ h
  .rcases UZ.1 h with h|h
   .exact h▸Va
   .exact UX _ (Ji h)
theorem SG(x:Int)(m:Nat)(hm:m<=1000):∃j:Nat,j<=m/\M0 .i64 x (m:Int)=(j:Int):=by
 unfold M0
 have h1:(BitVec.ofInt IntKind.i64.bits x&&&BitVec.ofInt IntKind.i64.bits (m:Int)).toNat<=m:=by
  rw[BitVec.toNat_and]
  refine VG Nat.and_le_right ?_
  rw[BitVec.ofInt_natCast,BitVec.toNat_ofNat]
  exact Nat.mod_le _ _
 exact⟨_,h1,Ca (by omega) (by omega)⟩
end Go.Proofs.Ytmhokapokchneaa
namespace Go.Proofs.Ytmhokapokchneaa
open Go Go.En Go.Pu
def FM(l:aX):Prop:=∀q∈l,q.2.length<=16777216
def OM(o:Bc):Prop:=o.kind=0->o.at'+o.bytes.length<=16777216
theorem Jm{k:ByteArray}{b:List UInt8}:∀l:aX,(sY k b l).length<=l.length+1
 |[]=>by simp[sY]
 |a::r=>by
  simp only[sY]
  split
  .simp
  .have:=Jm (k:=k) (b:=b) r
   simp only[U6];omega
theorem L7 {k:ByteArray}(l:aX):(tY k l).length<=l.length:=(Jj l).length_le
theorem P7 {o:Bc}{l:aX}(h:FM l)(ho:OM o):FM (Fe o l):=by
 have hlen:∀n,((bC n l).getD []).length<=16777216:=λn=>by
  cases hg:bC n l with
  |none=>simp
  |some b=>exact h _ (Jk hg)
 unfold Fe
 split
 .rename_i h0
  have h1:=ho h0
  intro q hq
  rcases Jn hq with rfl|hq
  .show (over _ _ _).length<=_
   rw[tS]
   have:=hlen o.name
   omega
  .exact h q hq
 .split
  .split
   .exact h
   .rename_i b hg
    intro q hq
    rcases Jn hq with rfl|hq
    .exact h (o.name,b) (Jk hg)
    .exact h q (Ji hq)
  .split
   .exact λq hq=>h q (Ji hq)
   .exact h
theorem Ok{o:Bc}{l:aX}:(Fe o l).length<=l.length+1:=by
 unfold Fe
 split
 .exact Jm l
 .split
  .split
   .omega
   .exact VG (Jm _) (by have:=L7 (k:=o.name) l;omega)
  .split
   .have:=L7 (k:=o.name) l;omega
   .omega
theorem On{l:aX}(h:FM l):bG l<=l.length*16777216:=by
 induction l with
 |nil=>simp[bG]
 |cons a r ih=>
  have:=ih λq hq=>h q (UX _ hq)
  have h0:=h a Va
  simp only[bG,U6,UW,VS]at*
  omega
structure I4 (k:Nat)(S:iQ):Prop where
 se:FM S.seen
 su:FM S.sure
 un:∀o∈S.under,OM o
 rm:0<=S.room/\S.room<=16777216
 l1:S.sure.length+S.under.length<=k
 l2:S.seen.length<=k
theorem I4.le {k m:Nat}{S:iQ}(h:I4 k S)(hm:k<=m):I4 m S:=⟨h.se,h.su,h.un,h.rm,VG h.l1 hm,VG h.l2 hm⟩
theorem I4.size {k:Nat}{S:iQ}(h:I4 k S)(hk:k<=30):bG S.seen<=1000000000:=by
 have h1:=On h.se
 have h2:=h.l2
 have:S.seen.length*16777216<=30*16777216:=V3 _ (by omega)
 omega
theorem RW{r:Int}(h:0<=r/\r<=16777216):I4 0 (Ml r):=⟨λq hq=>(nomatch hq),λq hq=>(nomatch hq),λo ho=>(nomatch ho),h,U0 _,U0 _⟩
theorem JB{k:Nat}{S:iQ}{o:Bc}(h:I4 k S)(ho:OM o):I4 (k+1) (xS S o).1:=by
 have h1:=h.l1
 have h2:=h.l2
 unfold xS
 split
 .exact ⟨h.se,h.su,h.un,h.rm,by show S.sure.length+S.under.length<=k+1;omega,by show S.seen.length<=k+1;omega⟩
 .refine ⟨P7 h.se ho,h.su,λx hx=> ?_,h.rm, ?_, ?_⟩
  .rcases Vw.1 hx with hx|hx
   .exact h.un x hx
   .rw [VZ]at hx;exact hx▸ho
  .show S.sure.length+(S.under++[o]).length<=k+1
   rw[UO];simp;omega
  .show (Fe o S.seen).length<=k+1
   have:=Ok (o:=o) (l:=S.seen)
   omega
theorem S3 {k:Nat}{S:iQ}{n:ByteArray}{a:Int}{l:List UInt8}(h:I4 k S):I4 (k+1) (LB S n a l).1:=by
 unfold LB
 split
 .rename_i h0
  refine JB h λ_=> ?_
  show a.toNat+l.length<=16777216
  have hr:=h.rm
  have hg:(tT S n).length<=bG S.seen:=zM
  have hlen:(tT S n).length<=16777216:=by
   unfold tT
   cases hg:bC n S.seen with
   |none=>simp
   |some b=>exact h.se _ (Jk hg)
  unfold Rn at h0
  split at h0
  .cases h0
  split at h0
  .cases h0
  split at h0
  .cases h0
  split at h0
  .cases h0
  omega
 .exact h.le (by omega)
theorem SZ{k:Nat}{S:iQ}{n:ByteArray}(h:I4 k S):I4 (k+1) (Nw S n).1:=by
 unfold Nw
 split
 .exact h.le (by omega)
 .split
  .exact h.le (by omega)
  .exact JB h λh1=>by cases h1
theorem S0 {k:Nat}{S:iQ}{n j:ByteArray}(h:I4 k S):I4 (k+1) (Nx S n j).1:=by
 unfold Nx
 split
 .exact h.le (by omega)
 .split
  .exact h.le (by omega)
  .split
   .exact h.le (by omega)
   .exact JB h λh1=>by cases h1
theorem S1 {k:Nat}{S:iQ}(h:I4 k S):I4 (k+1) (MW S).1:=by
 have h1:=h.l1
 have h2:=h.l2
 unfold MW
 split
 .exact h.le (by omega)
 .split
  .exact ⟨h.se,h.su,h.un,h.rm,by show S.sure.length+S.under.length<=k+1;omega,by show S.seen.length<=k+1;omega⟩
  .exact ⟨h.se,h.se,λo ho=>(nomatch ho),h.rm,by show S.seen.length+0<=k+1;omega,by show S.seen.length<=k+1;omega⟩
theorem Lh{os:List Bc}{ks:List Bool}{c:aX}(h:FM c)(ho:∀o∈os,OM o):∀i,FM (H2 os ks c i)/\(H2 os ks c i).length<=c.length+i
 |0=>⟨h,U0 _⟩
 |i+1=>by
  obtain⟨ih,il⟩:=Lh (ks:=ks) h ho i
  rw[H2]
  split
  .rename_i o h1 h2
   have:=Ok (o:=o) (l:=H2 os ks c i)
   exact⟨P7 ih (ho o (VO h1)),by omega⟩
  .exact ⟨ih,by omega⟩
theorem PX{k:Nat}{S:iQ}{ks:List Bool}(h:I4 k S)(hk:k<=30){i:Nat}(hi:i<=S.under.length):bG (H2 S.under ks S.sure i)<=1000000000:=by
 obtain⟨h1,h2⟩:=Lh (ks:=ks) h.su h.un i
 have h3:=On h1
 have h4:=h.l1
 have:(H2 S.under ks S.sure i).length*16777216<=30*16777216:=V3 _ (by omega)
 omega
theorem QF{k:Nat}{S:iQ}{ks:List Bool}(h:I4 k S):I4 (k+1) (SK S ks):=by
 obtain⟨h1,h2⟩:=Lh (ks:=ks) h.su h.un S.under.length
 have h4:=h.l1
 refine⟨h1,h1,λo ho=>(nomatch ho),h.rm, ?_, ?_⟩
 .show (H2 S.under ks S.sure S.under.length).length+0<=k+1;omega
 .show (H2 S.under ks S.sure S.under.length).length<=k+1;omega
theorem QG{k:Nat}{S:iQ}{a:Int}(h:I4 k S):I4 k {S with left:=a}:=⟨h.se,h.su,h.un,h.rm,h.l1,h.l2⟩
end Go.Proofs.Ytmhokapokchneaa
namespace Go.Proofs.Ytmhokapokchneaa
open Go Go.En Go.Pu
set_option maxRecDepth 4000
theorem SS{w:Wm}{Z X Dd:Nat->Prop}{n p:Nat}{S:iQ}{dv:Wn}(hdk:fC w p X Dd S)(hR:Cf Z n w S dv)(hlen:S.seen.length<=49):
 aH pg yZ #[dP p,dv] w (λr w'=>r= .bool true/\aJ w w' bR):=by
 refine Iz ?_
 obtain⟨RR,hRR⟩:∃RR:Wn->Wm->Prop,RR=λr w'=>r= .bool true/\aJ w w' bR:=⟨_,rfl⟩
 rw[<-hRR]
 obtain⟨D,sv,wv,rfl,hV,hK⟩:=hR
 unfold Js Fi Fh
 refine kG λw1 o1 x1 s1=> ?_
 rw[Hm]at o1
 obtain⟨pb,hpb⟩:∃pb,pb=w.heap.size:=⟨_,rfl⟩
 rw[<-hpb]at o1⊢
 simp(disch:=omega)only[SV]
 refine(P2 (hdk.new x1) hK.sim.se.nd hlen).mono ?_
 rintro nv w2 ⟨⟨L,hLp,hLs,hLv⟩,x2⟩
 have hL:=MB hK.sim hLp hLs
 have o2:=o1.ext x2 (λh=>h)
 have x02:=x1.seq x2
 have lw2:=vZ o2 rfl
 simp(disch:=omega)only[SV,lw2]
 refine(Ex (hV.new x02) hK.rb).mono ?_
 rintro fv w3 ⟨hf,x3⟩
 have x03:=x02.seq x3
 have o3:=o2.ext x3 (λh=>h)
 have hLv3:=hLv.ext x3 (kD _)
 obtain⟨fa,fc,hfv⟩:=hf.len
 obtain⟨na,nc,hnv,hnc⟩:=hLv3.len
 rw[UU]at hnv
 have hl:L.length=(cI D).length:=by rw[hL,UU]
 obtain⟨wa,wc,hwv,_⟩:=hV.way
 subst hfv hnv
 have hL49:L.length<=49:=by rw[hl,<-hK.sim.se.both.2];exact hlen
 have k1:(((L.length:Nat):Int) !=(((cI D).length:Nat):Int))=false:=by rw[hl];simp
 have xd:=x03.seq (aJ.dr w3 bR)
 have cw:∀{W},aJ w3 W bR->W.cell? ⟨pb,2,none⟩=some wv:=λ{W} x=>(o3.ext x (λh=>h)).cell (off:=2)
 have c4:=cw (aJ.dr w3 bR)
 rw[hwv]at c4
 simp(disch:=omega)only[SV,k1]
 refine(KG (hdk.new xd)).mono ?_
 rintro r w4 ⟨rfl,hw4⟩
 rw[hw4];clear hw4 w4
 have k2:(((S.under.length:Nat):Int) !=((D.way.length:Nat):Int))=false:=by rw[hK.sim.wy];simp
 simp(disch:=omega)only[SV,c4,k2,UQ]
 unfold Bj Bi Fg wV
 have hnd:((cI D).map (·.1)).Nodup:=hK.sim.se.st.nodup
 refine bL.rule (λq (t:Wn) W=>∃i:Nat,q=L.length-i/\i<=L.length/\t= .int .i64 (i:Nat)/\aJ w3 W bR) L.length ⟨0,rfl,by omega,rfl,aJ.dr w3 bR⟩ ?_
 rintro q t W ⟨i,rfl,hi,rfl,xW⟩
 have x0W:=x03.seq xW
 have oW:=o3.ext xW (λh=>h)
 unfold Bh
 by_cases hlt:i<L.length
 rotate_left
 .have d1:decide ((i:Int)<(L.length:Int))=false:=by simp;omega
  unfold Bg
  simp(disch:=omega)only[SV,d1]
  rw[hRR]
  exact⟨rfl,x0W⟩
 have d1:decide ((i:Int)<(L.length:Int))=true:=by simp;omega
 have hin:(i:Int).toNat=i:=U3 _
 have hir:i<(cI D).length:=by omega
 have hnm:L[i]=(cI D)[i].1:=by simp only[hL,List.getElem_map]
 obtain⟨nb,noff,hna,hncell⟩:∃nb noff,na=some ⟨nb,noff,none⟩/\∀W',aJ w3 W' bR->W'.cell? ⟨nb,noff+i,none⟩=some (.string (cI D)[i].1):=by
  obtain⟨a',n',c',he',hn',hc',hh⟩:=hLv3
  simp only[Value.slice.injEq]at he'
  obtain⟨rfl,rfl,rfl⟩:=he'
  obtain⟨nb,noff,rfl,h2⟩:=hh (by omega)
  refine⟨nb,noff,rfl,λW' x'=> ?_⟩
  have h3:=h2 i (by omega)
  rw[Vt,U1 hlt]at h3
  have h3:w3.cell? ⟨nb,noff+i,none⟩=some (.string L[i]):=h3
  rw[Hq h3 x' (λh=>h),hnm]
 subst hna
 have n1:=hncell _ xW
 simp(disch:=omega)only[SV,d1,hin,n1]
 refine(IS (hdk.new x0W) hK.bk.bd (λb hb=>hK.bk.file hb)).mono ?_
 rintro r W2 ⟨hr,x2W⟩
 have xW2:=xW.seq x2W
 have hgg:bC (cI D)[i].1 S.seen=some (cI D)[i].2:=by rw[hK.sim.se.eq,RI hnd hir]
 have xWd:=xW2.seq (aJ.dr W2 bR)
 have n2:=hncell _ xWd
 obtain⟨fb,foff,fc',hfe,hf1,hf2⟩:=(hf.new xWd).at hir
 simp only[Value.slice.injEq]at hfe
 obtain⟨rfl,-,rfl⟩:=hfe
 have c6:(dr W2).cell? ⟨pb,4,none⟩=some (.bool D.down):=(o3.ext xWd (λh=>h)).cell (off:=4)
 have s1:((cI D)[i].1.toList==(cI D)[i].1.toList)=true:=by simp
 have q1:(i:Int)+1=((i+1:Nat):Int):=by omega
 rcases hr with⟨h1,rfl⟩|⟨_,h2,_⟩|⟨h0,b,v,h2,rfl,hv⟩
 .rw [hK.sim.dn,h1]at c6
  have z0:((20:Int) !=20)=false:=rfl
  have u1:∀c,bB undef c=false:=λc=>by cases c<;>rfl
  simp(disch:=omega)only[SV,hin,n2,hf1,JD,s1,c6,z0,q1,u1]
  first
   |exact⟨L.length-(i+1),by omega,i+1,rfl,by omega,rfl,xWd⟩
   |exact⟨L.length-(i+1),by omega,i+1,rfl,by omega,xWd⟩
 .rw [hgg]at h2;cases h2
 rw[hK.sim.dn,h0]at c6
 rw[hgg]at h2
 have h2:(cI D)[i].2=b:=by injection h2
 have hbv:Bs (dr W2) v b:=(hv.ext (aJ.dr W2 bR) (λ_ _ h=>h)).sl
 have hcv:=kP hbv
 rw[h2]at hf2
 have s2:((⟨b.toArray⟩:ByteArray).toList==(⟨b.toArray⟩:ByteArray).toList)=true:=by simp
 have z0:((0:Int) !=0)=false:=rfl
 simp(disch:=omega)only[SV,hin,n2,hf1,hf2,hcv,JD,s1,s2,c6,z0,q1,UQ]
 first
  |exact⟨L.length-(i+1),by omega,i+1,rfl,by omega,rfl,xWd⟩
  |exact⟨L.length-(i+1),by omega,i+1,rfl,by omega,xWd⟩
end Go.Proofs.Ytmhokapokchneaa
namespace Go.Proofs.Ytmhokapokchneaa
open Go Go.En Go.Pu
set_option maxRecDepth 4000
set_option maxHeartbeats 2000000
structure T9 where
 kind:Int
 name:ByteArray
 other:ByteArray
 pos:Int
 bytes:List UInt8
 keep:List Bool
abbrev aC(a:T9)(bv kv:Wn):List Wn:=[.int .i64 a.kind,.string a.name,.string a.other,.int .i64 a.pos,bv,kv]
abbrev Z5:List Wn:=[.int .i64 0,.slice none 0 0,.slice none 0 0,.int .i64 0,.bool false]
structure DM(w0:Wm)(N:Nat->Prop)(w:Wm)(n k p:Nat)(S:iQ)(dv:Wn):Prop where
 md:Cf (NY w0 w N) n w S dv
 st:rM w0 N w p S
 ok:I4 k S
def Tx(w0:Wm)(N:Nat->Prop)(w:Wm)(n k p:Nat)(r:Wn)(w':Wm):Prop:=∃S' N' dv',r= .tuple #[dv',.bool true]/\DM w0 N' w' n k p S' dv'/\(∀b,N b->N' b)/\aJ w w' (PA w0 N)
theorem rM.wr {w0 w w':Wm}{N:Nat->Prop}{p b:Nat}{S:iQ}(h:rM w0 N w p S)(hb:N b)(hb0:w0.heap.size<=b)(x:aJ w w' (λy=>y=b)):rM w0 N w' p S:=by
 obtain⟨X,D,h,hX,x0,hN⟩:=h
 exact⟨X,D,h.ext x (λy hy=>hy▸⟨hN b hb,λhx=>(hX b hx).2 hb⟩),hX,x0.trans x λy hy hm=>by omega,hN⟩
theorem DM.wr {w0 w w':Wm}{N:Nat->Prop}{n k p b:Nat}{S:iQ}{dv:Wn}{l:List Wn}(h:DM w0 N w n k p S dv)(o:bE w b l)(hn:Rj l=true)(hb:N b)(hb0:w0.heap.size<=b)(x:aJ w w' (λy=>y=b))(s:w'.heap.size=w.heap.size):DM w0 N w' n k p S dv:=by
 refine⟨?_,h.st.wr hb hb0 x,h.ok⟩
 have e:NY w0 w' N=NY w0 w N:=by unfold NY;rw[s]
 rw[e]
 exact h.md.keep x λy hy=> .inl (hy▸⟨l,o,hn⟩)
theorem DM.newR {w0 w w':Wm}{N:Nat->Prop}{n k p:Nat}{S:iQ}{dv:Wn}(h:DM w0 N w n k p S dv)(x:aJ w w' bR):DM w0 (NR N w w') w' n k p S dv:=
 ⟨Cf.model (h.md.new x) x.size,h.st.addR x,h.ok⟩
theorem DM.new {w0 w w':Wm}{N:Nat->Prop}{n k p:Nat}{S:iQ}{dv:Wn}(h:DM w0 N w n k p S dv)(x:aJ w w' bR):DM w0 N w' n k p S dv:=
 ⟨h.md.prog (x.mono λ_ _ h=>h.elim),h.st.new x,h.ok⟩
theorem rM.call {w0 w:Wm}{N:Nat->Prop}{p:Nat}{S S':iQ}{R:Wn}{F:FuncId}{args:Array Wn}(h:rM w0 N w p S)(hop:∀X D,fC w p X D S->(∀b,X b->w0.heap.size<=b/\¬N b)->aH pg F args w (λr w'=>r=R/\xL w p X D S' w')):
 aH pg F args w (λr w'=>r=R/\rM w0 N w' p S'/\aJ w w' (PA w0 N)):=by
 obtain⟨X,D,hd,hX,x0,hN⟩:=h
 refine(hop X D hd hX).mono ?_
 rintro r w' ⟨rfl,hp⟩
 obtain⟨a,b⟩:=rM.post hd hX x0 hN hp
 exact⟨rfl,a,b⟩
def Tb(S:iQ)(n:ByteArray):List UInt8×Int:=if S.down then([],20)else match bC n S.seen with
 |none=>([],21)
 |some b=>(b,0)
theorem QS{Z:Nat->Prop}{N:Nat}{S:iQ}{dv:Wn}{n:ByteArray}{w:Wm}(h:Cf Z N w S dv):
 aH pg uI #[dv,.string n] w (λr w'=>r= .tuple #[.string ⟨(Tb S n).1.toArray⟩,.int .i64 (Tb S n).2]/\aJ w w' bR):=by
 obtain⟨D,sv,wv,rfl,h2,h3⟩:=h
 have:=R3 (n:=n) h2 h3.rb
 rw[QY h3.sim n]at this
 exact this
theorem P9 {w0 w:Wm}{N:Nat->Prop}{p n:Nat}{S:iQ}{nm:ByteArray}(h:rM w0 N w p S)(hB:LH n S):
 aH pg fT #[dP p,.string nm] w (λr w'=>(∃v,r= .tuple #[v,.int .i64 (Tb S nm).2]/\Bs w' v (Tb S nm).1)/\aJ w w' bR):=by
 obtain⟨X,D,hd,_⟩:=h
 refine(IS hd hB.bd (λb hb=>hB.file hb)).mono ?_
 rintro r w' ⟨hr,x⟩
 refine⟨?_,x⟩
 unfold Tb
 rcases hr with⟨h1,rfl⟩|⟨h0,h2,rfl⟩|⟨h0,b,v,h2,rfl,ho⟩
 .rw [if_pos h1]
  exact⟨_,rfl,Sl.nil _⟩
 .rw [if_neg (by rw[h0];decide),h2]
  exact⟨_,rfl,Sl.nil _⟩
 .rw [if_neg (by rw[h0];decide),h2]
  exact⟨_,rfl,ho.sl⟩
theorem Cf.left {Z:Nat->Prop}{n:Nat}{S:iQ}{w:Wm}{cd:List Wn}(h:Cf Z n w S (.agg cd.toArray)){a:Int}(ha: -1<=a/\a<=9223372036854775807):Cf Z n w {S with left:=a} (.agg (cd.set 3 (.int .i64 a)).toArray):=by
 obtain⟨D,sv,wv,hcd,h2,h3⟩:=h
 have hcd:cd=uA D sv wv:=by
  injection hcd with e
  have:=congrArg Array.toList e
  simpa using this
 subst hcd
 exact⟨{D with left:=a},sv,wv,rfl,⟨h2.sure,h2.way,h2.wz⟩,⟨QX h3.sim _,⟨⟨ha,h3.bk.bd.seen,h3.bk.bd.under,h3.bk.bd.room⟩,h3.bk.sz,h3.bk.un⟩,⟨h3.rb.fs,h3.rb.ops,h3.rb.len⟩,h3.len⟩⟩
section
variable{w0 w w1:Wm}{N N1:Nat->Prop}{n k p tb:Nat}{RR:Wn->Wm->Prop}
theorem JY{S:iQ}{ce:List Wn}{w5:Wm}(h:DM w0 N1 w5 n k p S (.agg ce.toArray))(x05:aJ w w5 (PA w0 N))(hN1:∀b,N b->N1 b)(ot:bE w5 tb Z5)(ht:N1 tb)(htw:w.heap.size<=tb)(hw:w0.heap.size<=w.heap.size)
 (hK:∀r w',Tx w0 N w n k p r w'->RR r w'):
 aB pg (aO 41 (.pointer (some ⟨tb,0,none⟩)) (.agg ce.toArray)) w5 λ_ w=>Iq pg 41 (.pointer (some ⟨tb,0,none⟩)) w λr0=>RR (.tuple #[r0,.bool true]) w:=by
 obtain⟨ce',he,c5,-,c1,-⟩:=h.md.cs
 have he:ce=ce':=by
  injection he with e
  have:=congrArg Array.toList e
  simpa using this
 subst he
 refine wR ot rfl c5 c1 λw6 o6 x6 s6=> ?_
 refine iR o6 (by omega) ?_
 rw[List.drop_zero,Vj (by omega)]
 exact hK _ _ ⟨S,N1,_,rfl,h.wr ot rfl ht (by omega) x6 s6,hN1,x05.trans x6 λy hy hm=>by omega⟩
theorem IY{S:iQ}{ce:List Wn}{w2 w3:Wm}(hst:rM w0 N1 w2 p S)(hd:Cf (NY w0 w2 N1) n w3 S (.agg ce.toArray))(hP:I4 k S)(x3:aJ w2 w3 bR)(x12:aJ w w2 (PA w0 N))(hN1:∀b,N b->N1 b)(ot:bE w2 tb Z5)(ht:N1 tb)(htw:w.heap.size<=tb)(hw:w0.heap.size<=w.heap.size)
 (hK:∀r w',Tx w0 N w n k p r w'->RR r w'):
 aB pg (lM 41) w3 λv w=>aB pg (aO 41 v (.agg ce.toArray)) w λ_ w=>aB pg (aD 41 v) w λt w=>aB pg (aO 41 (.pointer (some ⟨tb,0,none⟩)) t) w λ_ w=>
  Iq pg 41 (.pointer (some ⟨tb,0,none⟩)) w λr0=>RR (.tuple #[r0,.bool true]) w:=by
 obtain⟨ce',he,c5,-,c1,-⟩:=hd.cs
 have he:ce=ce':=by
  injection he with e
  have:=congrArg Array.toList e
  simpa using this
 subst he
 have htl:=ot.lt
 refine bY λw4 o4 x4 s4=> ?_
 refine wR o4 rfl c5 c1 λw5 o5 x5 s5=> ?_
 have l:=vZ o5 c5
 have z3:=x3.size
 have x25:aJ w2 w5 bR:=(x3.seq x4).trans x5 λy hy hm=>by omega
 have hd5:=(hd.new x4).keep x5 λy hy=> .inl (hy▸⟨_,o4,rfl⟩)
 simp(disch:=omega)only[SV,l]
 exact JY ⟨Cf.model hd5 x25.size,hst.addR x25,hP⟩ (x12.seq (x25.mono λ_ _ h=>h.elim)) (λb hb=> .inl (hN1 b hb)) (ot.ext x25 (λh=>h)) (.inl ht) htw hw hK
end
theorem Tg{w0 w:Wm}{N:Nat->Prop}{n k p:Nat}{S:iQ}{dv bv kv:Wn}{a:T9}(h:DM w0 N w (n+1) k p S dv)(hk:k+1<=30)(x0:aJ w0 w bR)(hb:Bs w bv a.bytes)(hbz:¬CR bv (λy=>w0.heap.size<=y))(hbl:a.bytes.length<=200)
 (hkv:Sl w kv (a.keep.map Value.bool)) (hkz:¬CR kv (λy=>w0.heap.size<=y)) (hkl:a.keep.length<=9223372036854775807) (hps: -9223372036854775808<=a.pos/\a.pos<=1099511627776):
 aH pg zA #[dP p,dv,.agg (aC a bv kv).toArray] w (Tx w0 N w n (k+1) p):=by
 refine IA ?_
 obtain⟨RR,hRR⟩:∃RR:Wn->Wm->Prop,RR=Tx w0 N w n (k+1) p:=⟨_,rfl⟩
 rw[<-hRR]
 have hK:∀r w',Tx w0 N w n (k+1) p r w'->RR r w':=λr w' h=>by rw[hRR];exact h
 obtain⟨cd,rfl,k5,kcc,k1,kns⟩:=h.md.cs
 unfold Jt DR DQ
 refine kG λw1 o1 x1 s1=> ?_
 rw[Hm]at o1
 refine kG λw2 o2 x2 s2=> ?_
 rw[Hm]at o2
 refine bY λw4 o4 x4 s4=> ?_
 obtain⟨wb,hwb⟩:∃wb,wb=w.heap.size:=⟨_,rfl⟩
 obtain⟨ab,hab⟩:∃ab,ab=w1.heap.size:=⟨_,rfl⟩
 obtain⟨tb,htb⟩:∃tb,tb=w2.heap.size:=⟨_,rfl⟩
 rw[<-hwb]at o1⊢
 rw[<-hab]at o2⊢
 rw[<-htb]at o4⊢
 have o4:bE w4 tb Z5:=o4
 have x04:aJ w w4 bR:=(x1.seq x2).seq x4
 have ow:=o1.ext (x2.seq x4) (λh=>h)
 have oa:=o2.ext x4 (λh=>h)
 have hM:=h.newR x04
 obtain⟨N1,hN1e⟩:∃N1,N1=NR N w w4:=⟨_,rfl⟩
 rw[<-hN1e]at hM
 have hN1:∀b,N b->N1 b:=λb hb=>by rw[hN1e];exact .inl hb
 have n1:∀b,w.heap.size<=b->b<w4.heap.size->N1 b:=λb h1 h2=>by rw[hN1e];exact .inr ⟨h1,h2⟩
 have hw1:N1 wb:=n1 wb (by omega) (by omega)
 have ha1:N1 ab:=n1 ab (by omega) (by omega)
 have ht1:N1 tb:=n1 tb (by omega) (by omega)
 have z0:=x0.size
 have nkp:∀b,N1 b->¬PA w0 N1 b:=λb hb hk=>hk.2 hb
 have hb4:=hb.ext x04 (kD _)
 have hk4:=hkv.ext x04 (kD _)
 have x4k:aJ w w4 (PA w0 N):=x04.mono λ_ _ h=>h.elim
 have hB:=hM.md
 obtain⟨D0,sv0,wv0,_,_,hRK⟩:=id hB
 have kee:∀e:Int,(e==e)=true:=λe=>by simp
 have ld:∀{W},bE W wb cd->(aD 41 (.pointer (some ⟨wb,0,none⟩))).run pg W= .ok (.value (.agg cd.toArray)) W:=λ{W} o=>vZ o k5
 have after:∀{W},aJ w4 W (PA w0 N1)->bE W wb cd/\bE W ab (aC a bv kv)/\bE W tb Z5/\aJ w W (PA w0 N)/\Bs W bv a.bytes/\Sl W kv (a.keep.map Value.bool):=λ{W} x=>
  ⟨ow.ext x (nkp _ hw1),oa.ext x (nkp _ ha1),o4.ext x (nkp _ ht1),x4k.seq (x.mono λ_ _ h=>⟨h.1,λhn=>h.2 (hN1 _ hn)⟩),hb4.ext x λhi=>hbz (kS hi λb hb=>hb.1),hk4.ext x λhi=>hkz (kS hi λb hb=>hb.1)⟩
 have a0:w4.cell? ⟨ab,0,none⟩=some (.int .i64 a.kind):=oa.cell (off:=0)
 have a1:w4.cell? ⟨ab,1,none⟩=some (.string a.name):=oa.cell (off:=1)
 have a2:w4.cell? ⟨ab,2,none⟩=some (.string a.other):=oa.cell (off:=2)
 have a3:w4.cell? ⟨ab,3,none⟩=some (.int .i64 a.pos):=oa.cell (off:=3)
 have a4:w4.cell? ⟨ab,4,none⟩=some bv:=oa.cell (off:=4)
 have a5:w4.cell? ⟨ab,5,none⟩=some kv:=oa.cell (off:=5)
 have hsz:w0.heap.size<=w.heap.size:=z0
 have cWrite:Bk RR (dP p) (.pointer (some ⟨wb,0,none⟩)) (.pointer (some ⟨ab,0,none⟩)) (.pointer (some ⟨tb,0,none⟩)) w4:=by
  unfold Bk
  simp(disch:=omega)only[SV,a1,a3,a4]
  refine(rM.call (S':=(LB S a.name a.pos a.bytes).1) (R:= .int .i64 (LB S a.name a.pos a.bytes).2) hM.st (λX D hd _=>L2 hd hRK.bk.bd hb4 (by omega) (by omega) hps.1)).mono ?_
  rintro r w5 ⟨rfl,hst,x5⟩
  obtain⟨ow5,oa5,ot5,y5,hb5,-⟩:=after x5
  have b1:w5.cell? ⟨ab,1,none⟩=some (.string a.name):=oa5.cell (off:=1)
  have b3:w5.cell? ⟨ab,3,none⟩=some (.int .i64 a.pos):=oa5.cell (off:=3)
  have b4:w5.cell? ⟨ab,4,none⟩=some bv:=oa5.cell (off:=4)
  have hcv:=kP hb5
  have l5:=ld ow5
  simp(disch:=omega)only[SV,b1,b3,b4,hcv,l5]
  refine(Pf (N:=n) (hM.md.prog x5) (by omega)).mono ?_
  rintro r w6 ⟨dv',rfl,hd6,x6⟩
  obtain⟨ce,rfl,-⟩:=hd6.cs
  simp(disch:=omega)only[SV,kee]
  exact IY hst hd6 (S3 hM.ok) x6 y5 hN1 ot5 ht1 (by omega) hsz hK
 have cRename:Bm RR (dP p) (.pointer (some ⟨wb,0,none⟩)) (.pointer (some ⟨ab,0,none⟩)) (.pointer (some ⟨tb,0,none⟩)) w4:=by
  unfold Bm
  simp(disch:=omega)only[SV,a1,a2]
  refine(rM.call (S':=(Nx S a.name a.other).1) (R:= .int .i64 (Nx S a.name a.other).2) hM.st (λX D hd _=>OY hd hRK.bk.bd)).mono ?_
  rintro r w5 ⟨rfl,hst,x5⟩
  obtain⟨ow5,oa5,ot5,y5,-,-⟩:=after x5
  have b1:w5.cell? ⟨ab,1,none⟩=some (.string a.name):=oa5.cell (off:=1)
  have b2:w5.cell? ⟨ab,2,none⟩=some (.string a.other):=oa5.cell (off:=2)
  have l5:=ld ow5
  simp(disch:=omega)only[SV,b1,b2,l5]
  refine(NA (N:=n) (hM.md.prog x5)).mono ?_
  rintro r w6 ⟨dv',rfl,hd6,x6⟩
  obtain⟨ce,rfl,-⟩:=hd6.cs
  simp(disch:=omega)only[SV,kee]
  exact IY hst hd6 (S0 hM.ok) x6 y5 hN1 ot5 ht1 (by omega) hsz hK
 have cRemove:Bn RR (dP p) (.pointer (some ⟨wb,0,none⟩)) (.pointer (some ⟨ab,0,none⟩)) (.pointer (some ⟨tb,0,none⟩)) w4:=by
  unfold Bn
  simp(disch:=omega)only[SV,a1]
  refine(rM.call (S':=(Nw S a.name).1) (R:= .int .i64 (Nw S a.name).2) hM.st (λX D hd _=>OX hd hRK.bk.bd)).mono ?_
  rintro r w5 ⟨rfl,hst,x5⟩
  obtain⟨ow5,oa5,ot5,y5,-,-⟩:=after x5
  have b1:w5.cell? ⟨ab,1,none⟩=some (.string a.name):=oa5.cell (off:=1)
  have l5:=ld ow5
  simp(disch:=omega)only[SV,b1,l5]
  refine(Nz (N:=n) (hM.md.prog x5)).mono ?_
  rintro r w6 ⟨dv',rfl,hd6,x6⟩
  obtain⟨ce,rfl,-⟩:=hd6.cs
  simp(disch:=omega)only[SV,kee]
  exact IY hst hd6 (SZ hM.ok) x6 y5 hN1 ot5 ht1 (by omega) hsz hK
 have cSync:Bo RR (dP p) (.pointer (some ⟨wb,0,none⟩)) (.pointer (some ⟨tb,0,none⟩)) w4:=by
  unfold Bo
  simp(disch:=omega)only[SV]
  refine(rM.call (S':=(MW S).1) (R:= .int .i64 (MW S).2) hM.st (λX D hd _=>Q3 hd hRK.bk.bd)).mono ?_
  rintro r w5 ⟨rfl,hst,x5⟩
  obtain⟨ow5,oa5,ot5,y5,-,-⟩:=after x5
  have l5:=ld ow5
  simp(disch:=omega)only[SV,l5]
  refine(QT (N:=n) ((hM.md.prog x5).le (by omega))).mono ?_
  rintro r w6 ⟨dv',rfl,hd6,x6⟩
  obtain⟨ce,rfl,-⟩:=hd6.cs
  simp(disch:=omega)only[SV,kee]
  exact IY hst hd6 (S1 hM.ok) x6 y5 hN1 ot5 ht1 (by omega) hsz hK
 have cStop:Bp RR (dP p) (.pointer (some ⟨wb,0,none⟩)) (.pointer (some ⟨ab,0,none⟩)) (.pointer (some ⟨tb,0,none⟩)) w4:=by
  unfold Bp Fj
  simp(disch:=omega)only[SV,a3]
  refine(rM.call (S':={S with left:=max a.pos (-1)}) (R:= .tuple #[]) hM.st (λX D hd _=>Th hd)).mono ?_
  rintro r w5 ⟨rfl,hst,x5⟩
  obtain⟨ow5,oa5,ot5,y5,-,-⟩:=after x5
  have b3:w5.cell? ⟨ab,3,none⟩=some (.int .i64 a.pos):=oa5.cell (off:=3)
  simp(disch:=omega)only[SV,b3]
  refine Eg ow5 rfl (by omega) λw6 o6 x6 s6=> ?_
  have x06:aJ w w6 (PA w0 N):=y5.trans x6 λy hy hm=>by omega
  have b36:w6.cell? ⟨ab,3,none⟩=some (.int .i64 a.pos):=(oa5.ext x6 (by omega)).cell (off:=3)
  have z5:=y5.size
  have hwl:=ow.lt
  have hmd:=(hM.md.prog x5).left (a:=max a.pos (-1)) (by omega)
  have hD5:DM w0 N1 w5 (n+1) k p {S with left:=max a.pos (-1)} (.agg (cd.set 3 (.int .i64 (max a.pos (-1)))).toArray):=⟨hmd,hst,QG hM.ok⟩
  have hD6:=hD5.wr ow5 (Et kns) hw1 (by omega) x6 s6
  have hns:∀x∈cd.set 3 (.int .i64 a.pos),A2 x=false:=λx hx=>by
   rcases List.mem_or_eq_of_mem_set hx with h|h
   .exact kns x h
   .rw [h]<;>rfl
  have up:∀{W e},DM w0 N1 W (n+1) k p {S with left:=max a.pos (-1)} e->DM w0 N1 W n (k+1) p {S with left:=max a.pos (-1)} e:=λh=>⟨h.md.le (by omega),h.st,h.ok.le (by omega)⟩
  by_cases hneg:a.pos<0
  .have d1:decide (a.pos<0)=true:=decide_eq_true hneg
   simp(disch:=omega)only[SV,b36,d1]
   refine Eg o6 rfl (by rw[Vf];omega) λw7 o7 x7 s7=> ?_
   have hD7:=hD6.wr o6 (Et hns) hw1 (by omega) x7 s7
   have e1:max a.pos (-1)= -1:=by omega
   have e2:(cd.set 3 (.int .i64 a.pos)).set 3 (.int .i64 (-1))=cd.set 3 (.int .i64 (max a.pos (-1))):=by rw[List.set_set,e1]
   have o7:bE w7 wb (cd.set 3 (.int .i64 (max a.pos (-1)))):=by rw[<-e2];exact o7
   have l7:=vZ o7 (by rw[Vf];exact k5)
   unfold wX
   simp(disch:=omega)only[SV,l7]
   exact JY (up hD7) (x06.trans x7 λy hy hm=>by omega) hN1 ((ot5.ext x6 (by omega)).ext x7 (by omega)) ht1 (by omega) hsz hK
  .have d1:decide (a.pos<0)=false:=decide_eq_false hneg
   have e1:max a.pos (-1)=a.pos:=by omega
   have o6:bE w6 wb (cd.set 3 (.int .i64 (max a.pos (-1)))):=by rw[e1];exact o6
   have l6:=vZ o6 (by rw[Vf];exact k5)
   simp(disch:=omega)only[SV,b36,d1]
   unfold wX
   simp(disch:=omega)only[SV,l6]
   exact JY (up hD6) x06 hN1 (ot5.ext x6 (by omega)) ht1 (by omega) hsz hK
 have cRead:wW RR (dP p) (.pointer (some ⟨wb,0,none⟩)) (.pointer (some ⟨ab,0,none⟩)) (.pointer (some ⟨tb,0,none⟩)) w4:=by
  unfold wW
  simp(disch:=omega)only[SV,a1]
  refine(P9 hM.st hRK.bk).mono ?_
  rintro r w5 ⟨⟨v,rfl,hv⟩,x5⟩
  have b1:w5.cell? ⟨ab,1,none⟩=some (.string a.name):=(oa.ext x5 (λh=>h)).cell (off:=1)
  have l5:=ld (ow.ext x5 (λh=>h))
  simp(disch:=omega)only[SV,b1,l5]
  refine(QS (hM.md.new x5)).mono ?_
  rintro r w6 ⟨rfl,x6⟩
  have l6:=ld ((ow.ext x5 (λh=>h)).ext x6 (λh=>h))
  have hcv:=kP (hv.ext x6 (kD _))
  have s2:((⟨(Tb S a.name).1.toArray⟩:ByteArray).toList==(⟨(Tb S a.name).1.toArray⟩:ByteArray).toList)=true:=by simp
  simp(disch:=omega)only[SV,l6,hcv,Br,s2,kee]
  have hD6:=(hM.new x5).new x6
  exact JY ⟨hD6.md.le (by omega),hD6.st,hD6.ok.le (by omega)⟩ (x4k.seq ((x5.seq x6).mono λ_ _ h=>h.elim)) hN1 ((o4.ext x5 (λh=>h)).ext x6 (λh=>h)) ht1 (by omega) hsz hK
 have cCrash:∀kn,wY kn RR (dP p) (.pointer (some ⟨wb,0,none⟩)) (.pointer (some ⟨ab,0,none⟩)) (.pointer (some ⟨tb,0,none⟩)) (.int .i64 6) w4:=by
  intro kn
  unfold wY
  have e6:((6:Int)==6)=true:=rfl
  simp(disch:=omega)only[SV,e6,a5]
  refine(rM.call (S':=SK S a.keep) (R:= .tuple #[]) hM.st (λX D hd hX=> ?_)).mono ?_
  .refine Oi hd hk4 (λhi=>hkz (kS hi λb hb=>(hX b hb).1)) hkl (by have:=hRK.bk.un;omega) (λi hi=>by have:=PX (ks:=a.keep) hM.ok (by omega) hi;omega) λo ho=> ?_
   have:=(hRK.rb.ops o (by rw[hRK.sim.wy];exact ho)).2
   omega
  rintro r w5 ⟨rfl,hst,x5⟩
  obtain⟨ow5,oa5,ot5,y5,-,hk5⟩:=after x5
  have b5:w5.cell? ⟨ab,5,none⟩=some kv:=oa5.cell (off:=5)
  have l5:=ld ow5
  simp(disch:=omega)only[SV,b5,l5]
  refine(Pe (hM.md.prog x5) hk5 hkl ((QF (ks:=a.keep) hM.ok).size (by omega))).mono ?_
  rintro r w6 ⟨hd6,x6⟩
  obtain⟨ce,rfl,-⟩:=hd6.cs
  exact JY ⟨(Cf.model hd6 x6.size).le (by omega),hst.addR x6,QF hM.ok⟩ (y5.seq (x6.mono λ_ _ h=>h.elim)) (λb hb=> .inl (hN1 b hb)) (ot5.ext x6 (λh=>h)) (.inl ht1) (by omega) hsz hK
 obtain⟨j,hj,hje⟩:=SG a.kind 7 (by omega)
 have hje:M0 .i64 a.kind 7=(j:Int):=hje
 unfold Am Al DP
 simp(disch:=omega)only[SV,a0,hje]
 unfold Ak DO
 have ne:∀i m:Nat,i≠m->(((i:Nat):Int)==((m:Nat):Int))=false:=λi m h=>by rw[beq_eq_false_iff_ne];omega
 have eq:∀i:Nat,(((i:Nat):Int)==((i:Nat):Int))=true:=λi=>by simp
 match j,hj with
 |0,_=>
  have e0:(((0:Nat):Int)==0)=true:=rfl
  unfold fI
  simp(disch:=omega)only[SV,e0]
  exact cWrite
 |1,_=>
  have e0:(((1:Nat):Int)==0)=false:=rfl
  have e1:(((1:Nat):Int)==1)=true:=rfl
  unfold fI
  simp(disch:=omega)only[SV,e0,e1]
  exact cWrite
 |2,_=>
  have e0:(((2:Nat):Int)==0)=false:=rfl
  have e1:(((2:Nat):Int)==1)=false:=rfl
  have e2:(((2:Nat):Int)==2)=true:=rfl
  unfold fI kY kX jI
  simp(disch:=omega)only[SV,e0,e1,e2]
  exact cRename
 |3,_=>
  have e0:(((3:Nat):Int)==0)=false:=rfl
  have e1:(((3:Nat):Int)==1)=false:=rfl
  have e2:(((3:Nat):Int)==2)=false:=rfl
  have e3:(((3:Nat):Int)==3)=true:=rfl
  unfold fI kY kX jI mZ mY kW
  simp(disch:=omega)only[SV,e0,e1,e2,e3]
  exact cRemove
 |4,_=>
  have e0:(((4:Nat):Int)==0)=false:=rfl
  have e1:(((4:Nat):Int)==1)=false:=rfl
  have e2:(((4:Nat):Int)==2)=false:=rfl
  have e3:(((4:Nat):Int)==3)=false:=rfl
  have e4:(((4:Nat):Int)==4)=true:=rfl
  unfold fI kY kX jI mZ mY kW qB qA mX
  simp(disch:=omega)only[SV,e0,e1,e2,e3,e4]
  exact cSync
 |5,_=>
  have e0:(((5:Nat):Int)==0)=false:=rfl
  have e1:(((5:Nat):Int)==1)=false:=rfl
  have e2:(((5:Nat):Int)==2)=false:=rfl
  have e3:(((5:Nat):Int)==3)=false:=rfl
  have e4:(((5:Nat):Int)==4)=false:=rfl
  have e5:(((5:Nat):Int)==5)=true:=rfl
  unfold fI kY kX jI mZ mY kW qB qA mX uU uT pZ
  simp(disch:=omega)only[SV,e0,e1,e2,e3,e4,e5]
  exact cStop
 |6,_=>
  have e0:(((6:Nat):Int)==0)=false:=rfl
  have e1:(((6:Nat):Int)==1)=false:=rfl
  have e2:(((6:Nat):Int)==2)=false:=rfl
  have e3:(((6:Nat):Int)==3)=false:=rfl
  have e4:(((6:Nat):Int)==4)=false:=rfl
  have e5:(((6:Nat):Int)==5)=false:=rfl
  unfold fI kY kX jI mZ mY kW qB qA mX uU uT pZ
  simp(disch:=omega)only[SV,e0,e1,e2,e3,e4,e5]
  exact cCrash _
 |7,_=>
  have e0:(((7:Nat):Int)==0)=false:=rfl
  have e1:(((7:Nat):Int)==1)=false:=rfl
  have e2:(((7:Nat):Int)==2)=false:=rfl
  have e3:(((7:Nat):Int)==3)=false:=rfl
  have e4:(((7:Nat):Int)==4)=false:=rfl
  have e5:(((7:Nat):Int)==5)=false:=rfl
  have e6:(((7:Nat):Int)==6)=false:=rfl
  unfold fI kY kX jI mZ mY kW qB qA mX uU uT pZ wY
  simp(disch:=omega)only[SV,e0,e1,e2,e3,e4,e5,e6]
  exact cRead
 |j'+8,hj=>omega
structure LG where
 a:T9
 bv:Wn
 kv:Wn
abbrev MU(x:LG):List Wn:=aC x.a x.bv x.kv
structure Kr(w:Wm)(x:LG):Prop where
 b:Bs w x.bv x.a.bytes
 k:Sl w x.kv (x.a.keep.map Value.bool)
 kl:x.a.keep.length<=9223372036854775807
 ps: -9223372036854775808<=x.a.pos
theorem Rt(l:List LG):(l.flatMap MU).length=l.length*6:=by
 induction l with
 |nil=>rfl
 |cons p r ih=>simp only[VQ,UO,U6,VY]at ih⊢;omega
theorem PK:∀{l:List LG} {i j:Nat} (hi:i<l.length),j<6->(l.flatMap MU)[i*6+j]?=(MU l[i])[j]?
 |p::r,0,j,_,hj=>by
  show(MU p++r.flatMap MU)[0*6+j]?=_
  rw[U8 (by simpa using hj),Wl,UQ]
  rfl
 |p::r,i+1,j,hi,hj=>by
  show(MU p++r.flatMap MU)[(i+1)*6+j]?=_
  rw[VR (by simp;omega),show(i+1)*6+j-(MU p).length=i*6+j from by simp;omega]
  exact PK (by simpa using hi) hj
theorem QR{room:Int}{w:Wm}(h:room<0∨16777216<room):aH pg xJ #[.int .i64 room] w (λr w'=>(∃cs:List Wn,r= .tuple #[.agg cs.toArray,.int .i64 1]/\cs.length=5/\∀x∈cs,one x=true)/\aJ w w' bR):=by
 refine D9 ?_
 obtain⟨RR,hRR⟩:∃RR:Wn->Wm->Prop,RR=λr w'=>(∃cs:List Wn,r= .tuple #[.agg cs.toArray,.int .i64 1]/\cs.length=5/\∀x∈cs,one x=true)/\aJ w w' bR:=⟨_,rfl⟩
 rw[<-hRR]
 unfold HH Cx
 refine bY λw1 o1 x1 s1=> ?_
 have hv:∀x∈Z5,one x=true:=by intro x hx;simp only[UZ,Vn,or_false]at hx;rcases hx with rfl|rfl|rfl|rfl|rfl<;>rfl
 have fin:aB pg (aO 41 (.pointer (some ⟨w.heap.size,0,none⟩)) (.agg Z5.toArray)) w1 λ_ Dg=>Iq pg 41 (.pointer (some ⟨w.heap.size,0,none⟩)) Dg λr0=>RR (.tuple #[r0,.int .i64 1]) Dg:=by
  refine wR o1 rfl rfl hv λw2 o2 x2 s2=> ?_
  refine iR o2 (by simp) ?_
  rw[hRR]
  exact⟨⟨Z5,rfl,rfl,hv⟩,x1.trans x2 λy hy h=>by omega⟩
 by_cases h0:room<0
 .have d1:decide (room<0)=true:=decide_eq_true h0
  simp(disch:=omega)only[SV,d1]
  exact fin
 .have d1:decide (room<0)=false:=decide_eq_false h0
  have d2:decide ((16777216:Int)<room)=true:=decide_eq_true (by omega)
  simp(disch:=omega)only[SV,d1,d2]
  exact fin
section
variable{w0:Wm}{p pb:Nat}{scv:Wn}{acs:List LG}{RR:Wn->Wm->Prop}
theorem Np(hsc:Cl w0 6 scv acs.length (acs.flatMap MU))(hac:∀x∈acs,Kr w0 x)(hal:acs.length<=9223372036854775807)
 {w:Wm} {N:Nat->Prop} {S:iQ} {ce:List Wn} (h:DM w0 N w 30 0 p S (.agg ce.toArray)) (x0:aJ w0 w bR) (op:bE w pb ce) (hNp:N pb) (hpb:w0.heap.size<=pb)
 (hK:∀w',aJ w0 w' bR->RR (.bool true) w'):
 kV RR scv (dP p) (.int .i64 0) (.pointer (some ⟨pb,0,none⟩)) w:=by
 obtain⟨sa,sc,hse,_⟩:=id hsc
 unfold kV oE sZ kU
 refine bL.rule (λq (t:Wn) W=>∃(i:Nat) (N:Nat->Prop) (S:iQ) (ce:List Wn),q=30-i/\i<=30/\t= .int .i64 (i:Nat)/\DM w0 N W (30-i) i p S (.agg ce.toArray)/\aJ w0 W bR/\bE W pb ce/\N pb) 30 ⟨0,N,S,ce,rfl,by omega,rfl,h,x0,op,hNp⟩ ?_
 clear h x0 op hNp
 rintro q t W ⟨i,N,S,ce,rfl,hi,rfl,h,x0,op,hNp⟩
 obtain⟨ce',he,k5,-,k1,kns⟩:=h.md.cs
 have he:ce=ce':=by
  injection he with e
  have:=congrArg Array.toList e
  simpa using this
 subst he
 unfold oC
 by_cases hlt:i<acs.length
 rotate_left
 .have d1:decide ((i:Int)<(acs.length:Int))=false:=by simp;omega
  unfold kT
  rw[hse]
  simp(disch:=omega)only[SV,d1]
  exact hK _ x0
 have d1:decide ((i:Int)<(acs.length:Int))=true:=by simp;omega
 by_cases hi30:i<30
 rotate_left
 .have d2:decide ((i:Int)<30)=false:=by simp;omega
  unfold kT
  rw[hse]
  simp(disch:=omega)only[SV,d1,d2]
  exact hK _ x0
 have d2:decide ((i:Int)<30)=true:=by simp;omega
 have hin:(i:Int).toNat=i:=U3 _
 have q1:(i:Int)+1=((i+1:Nat):Int):=by omega
 have z00:((0:Int)==0)=true:=rfl
 obtain⟨x,hx⟩:∃x,x=acs[i]:=⟨_,rfl⟩
 have hxo:Kr w0 x:=hac _ (hx▸VU hlt)
 obtain⟨sb,so',hsa,hcell⟩:∃sb so',sa=some ⟨sb,so',none⟩/\∀W' j v,aJ w0 W' bR->j<6->(MU x)[j]?=some v->W'.cell? ⟨sb,so'+i*6+j,none⟩=some v:=by
  obtain⟨a',c',he,hl,hh⟩:=hsc
  rw[hse]at he
  simp only[Value.slice.injEq]at he
  obtain⟨rfl,-,rfl⟩:=he
  obtain⟨sb,so',rfl,h2⟩:=hh (by omega)
  refine⟨sb,so',rfl,λW' j v xW hj hv=> ?_⟩
  have h3:=h2 (i*6+j) (by rw[Rt];omega)
  rw[PK hlt hj,<-hx,hv]at h3
  rw[VC]
  exact Hq h3 xW (λh=>h)
 subst hsa
 have b1:W.cell? ⟨sb,so'+i*6+1,none⟩=some (.string x.a.name):=hcell W 1 _ x0 (by omega) rfl
 have b2:W.cell? ⟨sb,so'+i*6+2,none⟩=some (.string x.a.other):=hcell W 2 _ x0 (by omega) rfl
 have b3:W.cell? ⟨sb,so'+i*6+3,none⟩=some (.int .i64 x.a.pos):=hcell W 3 _ x0 (by omega) rfl
 have b4:W.cell? ⟨sb,so'+i*6+4,none⟩=some x.bv:=hcell W 4 _ x0 (by omega) rfl
 have hbW:=hxo.b.ext x0 (kD _)
 obtain⟨ba,bc,hbe,_⟩:=hbW.len
 rw[UU]at hbe
 rw[hbe]at b4
 subst hse
 by_cases h200:200<x.a.bytes.length
 .have d3:decide ((200:Int)<(x.a.bytes.length:Int))=true:=by simp;omega
  simp(disch:=omega)only[SV,d1,d2,z00,hin,b4,d3]
  exact hK _ x0
 have d3:decide ((200:Int)<(x.a.bytes.length:Int))=false:=by simp;omega
 by_cases hn1:100<x.a.name.size
 .have d4:decide ((100:Int)<(x.a.name.size:Int))=true:=by simp;omega
  simp(disch:=omega)only[SV,d1,d2,z00,hin,b4,d3,b1,d4]
  exact hK _ x0
 have d4:decide ((100:Int)<(x.a.name.size:Int))=false:=by simp;omega
 by_cases hn2:100<x.a.other.size
 .have d5:decide ((100:Int)<(x.a.other.size:Int))=true:=by simp;omega
  simp(disch:=omega)only[SV,d1,d2,z00,hin,b4,d3,b1,d4,b2,d5]
  exact hK _ x0
 have d5:decide ((100:Int)<(x.a.other.size:Int))=false:=by simp;omega
 by_cases hp40:1099511627776<x.a.pos
 .have d6:decide ((1099511627776:Int)<x.a.pos)=true:=decide_eq_true hp40
  simp(disch:=omega)only[SV,d1,d2,z00,hin,b4,d3,b1,d4,b2,d5,b3,d6]
  exact hK _ x0
 have d6:decide ((1099511627776:Int)<x.a.pos)=false:=decide_eq_false hp40
 have xd:=aJ.dr W bR
 have opd:=op.ext xd (λh=>h)
 have l84:=vZ opd k5
 have l88:(aD 45 (.pointer (some ⟨sb,so'+i*6,none⟩))).run pg (dr W)= .ok (.value (.agg (MU x).toArray)) (dr W):=BW (l:=MU x) rfl λj hj=>by
  obtain⟨v,hv⟩:∃v,(MU x)[j]?=some v:=⟨_,U1 hj⟩
  rw[hv]
  exact hcell _ j v (x0.seq xd) hj hv
 simp(disch:=omega)only[SV,d1,d2,z00,hin,b4,d3,b1,d4,b2,d5,b3,d6,l84,l88]
 have hd:=h.new xd
 have x0d:=x0.seq xd
 have e30:30-i=(30-(i+1))+1:=by omega
 rw[e30]at hd
 refine(Tg (n:=30-(i+1)) (a:=x.a) hd (by omega) x0d (hxo.b.ext x0d (kD _)) hxo.b.old (by omega) (hxo.k.ext x0d (kD _)) hxo.k.old hxo.kl ⟨hxo.ps,by omega⟩).mono ?_
 rintro r W2 ⟨S',N',dv',rfl,hDM,hN',x2⟩
 obtain⟨cf,rfl,c5,-,c1,-⟩:=hDM.md.cs
 have op2:=opd.ext x2 (λhk=>hk.2 hNp)
 simp(disch:=omega)only[SV]
 refine wR op2 k5 c5 c1 λW3 o3 x3 s3=> ?_
 have hD3:=hDM.wr op2 (Et kns) (hN' _ hNp) hpb x3 s3
 have x03:aJ w0 W3 bR:=(x0d.trans x2 λy hy hk=>by have:=hk.1;omega).trans x3 λy hy hm=>by omega
 have l96:=vZ o3 c5
 simp(disch:=omega)only[SV,l96]
 obtain⟨X,D,hdk,_⟩:=hD3.st
 refine(SS hdk hD3.md (by have:=hD3.ok.l2;omega)).mono ?_
 rintro r W4 ⟨rfl,x4⟩
 simp(disch:=omega)only[SV,q1]
 first
  |exact⟨30-(i+1),by omega,i+1,N',S',cf,rfl,by omega,rfl,hD3.new x4,x03.seq x4,o3.ext x4 (λh=>h),hN' _ hNp⟩
  |exact⟨30-(i+1),by omega,i+1,N',S',cf,rfl,by omega,hD3.new x4,x03.seq x4,o3.ext x4 (λh=>h),hN' _ hNp⟩
end
theorem LW{room:Int}{scv:Wn}{acs:List LG}{w:Wm}(hr: -9223372036854775808<=room/\room<=9223372036854775807)(hsc:Cl w 6 scv acs.length (acs.flatMap MU))(hac:∀x∈acs,Kr w x)(hal:acs.length<=9223372036854775807):
 aH pg uH #[.int .i64 room,scv] w (λr w'=>r= .bool true/\aJ w w' bR):=by
 refine DL ?_
 obtain⟨RR,hRR⟩:∃RR:Wn->Wm->Prop,RR=λr w'=>r= .bool true/\aJ w w' bR:=⟨_,rfl⟩
 rw[<-hRR]
 have hok:∀w',aJ w w' bR->RR (.bool true) w':=λw' x=>by rw[hRR];exact⟨rfl,x⟩
 unfold CS Aj Ai
 refine(OR w).mono ?_
 rintro r w0 ⟨rfl,x00⟩
 have hsc0:=H0 hsc x00 (kD _)
 have hac0:∀x∈acs,Kr w0 x:=λx hx=>by
  have h:=hac x hx
  exact⟨h.b.ext x00 (kD _),h.k.ext x00 (kD _),h.kl,h.ps⟩
 have ee:∀e:Int,(e !=e)=false:=λe=>by simp
 simp(disch:=omega)only[SV]
 by_cases hb:room<0∨16777216<room
 .refine (P5 hb).mono ?_
  rintro r w1 ⟨rfl,hw⟩
  rw[hw];clear hw w1
  try simp(disch:=omega)only[SV]
  refine(QR hb).mono ?_
  rintro r w1 ⟨⟨cs,rfl,c5,c1⟩,x1⟩
  try simp(disch:=omega)only[SV]
  refine bY λw2 o2 x2 s2=> ?_
  refine wR o2 rfl c5 c1 λw3 o3 x3 s3=> ?_
  have x03:aJ w w3 bR:=x00.seq ((x1.seq x2).trans x3 λy hy h=>by have:=x1.size;omega)
  have n10:((1:Int) !=0)=true:=rfl
  have n11:((1:Int)==0)=false:=rfl
  have tt:(!(true==true))=false:=rfl
  simp(disch:=omega)only[SV,ee,n10,tt]
  obtain⟨sa,sc,hse,_⟩:=id hsc
  unfold kV oE sZ kU
  refine bL.rule (λq (t:Wn) W=>t= .int .i64 0/\W=w3) 0 ⟨rfl,rfl⟩ ?_
  rintro q t W ⟨rfl,hW⟩
  rw[hW];clear hW
  unfold oC kT
  rw[hse]
  have d2:decide ((0:Int)<30)=true:=rfl
  by_cases h0:acs.length=0
  .have d1:decide ((0:Int)<(acs.length:Int))=false:=decide_eq_false (by omega)
   simp(disch:=omega)only[SV,d1]
   exact hok _ x03
  .have d1:decide ((0:Int)<(acs.length:Int))=true:=decide_eq_true (by omega)
   simp(disch:=omega)only[SV,d1,d2,n11]
   exact hok _ x03
 have hrm:0<=room/\room<=16777216:=by omega
 refine(P6 hrm.1 hrm.2).mono ?_
 rintro r w1 ⟨p,X,rfl,hd,hX,x1⟩
 have hD:rM w0 bR w1 p (Ml room):=⟨X,X,hd,λb hb=>⟨hX b hb,λh=>h⟩,x1,λb hb=>hb.elim⟩
 try simp(disch:=omega)only[SV]
 refine(R4 (Z:=NY w0 w1 bR) (N:=30) hrm.1 hrm.2 (by omega) (λb hb=>hb.2.1)).mono ?_
 rintro r w2 ⟨dv,rfl,hd2,x2⟩
 obtain⟨ce,rfl,c5,-,c1,-⟩:=hd2.cs
 try simp(disch:=omega)only[SV]
 refine bY λw3 o3 x3 s3=> ?_
 refine wR o3 rfl c5 c1 λw4 o4 x4 s4=> ?_
 have z1:=x1.size
 have z2:=x2.size
 have x14:aJ w1 w4 bR:=(x2.seq x3).trans x4 λy hy h=>by omega
 have hd4:=(hd2.new x3).keep x4 λy hy=> .inl (hy▸⟨_,o3,rfl⟩)
 have hDM:DM w0 (NR bR w1 w4) w4 30 0 p (Ml room) (.agg ce.toArray):=⟨Cf.model hd4 x14.size,hD.addR x14,RW hrm⟩
 have n10:((0:Int) !=0)=false:=rfl
 have ff:(!(false==false))=false:=rfl
 simp(disch:=omega)only[SV,ee,n10,ff]
 exact Np hsc0 hac0 hal hDM (x1.seq x14) o4 (.inr ⟨by omega,by omega⟩) (by omega) λw' xw=>hok w' (x00.seq xw)
end Go.Proofs.Ytmhokapokchneaa
namespace Go.En
open Go Go.ChangeShapes Go.WideShapes Go.ChangeAt Go.RowKit Go.Deep
theorem LS{W:Wm}{a:Addr}{n:Nat}{g:Nat->Wn}(h0:0<n)(h:∀i,i<n->W.cell? (a.add i)=some (g i)):∃b off,a=⟨b,off,none⟩/\∀i,i<n->W.cell? ⟨b,off+i,none⟩=some (g i):=by
 obtain⟨b,off,spot⟩:=a
 have hs:spot=none:=by
  have h0:=h 0 h0
  unfold World.cell? at h0
  split at h0
  .cases spot
   .rfl
   .simp [Addr.add]at h0
  .cases h0
 subst hs
 exact⟨b,off,rfl,λi hi=>by rw[<-Bd,h i hi]⟩
theorem SO{H:Type}{enc:TypeId×Wn->H}{P:Program}{W:Wm}{base fuel:Nat}{sp:Nat->Bool}{hd:Bool}{t e:TypeId}{k:IntKind}{cs:List Wn}{x:DataW H×List MemPlace}(ht:P.underlying t=some (.slice e))(he:P.underlying e=some (.int k))(hc:P.cellsOf e=1)
 (hf:DataW.trod enc P W base sp hd fuel t cs=some x):∃(v:Wn) (zs:List Int),cs=[v]/\Sl W v (zs.map (Value.int k))/\zs.length<=9223372036854775807/\∀z∈zs,(Lit.int k z).wf=true:=by
 rcases open_ints ht he hc hf with⟨hcs,-⟩|⟨a,len,cap,zs,hcs,_,hl,hm,hz,-,hcell,hwz⟩
 .exact ⟨_,[],hcs,⟨none,0,0,rfl,rfl,U0 _,λh=>absurd h (by simp)⟩,by simp,by simp⟩
 .unfold maxLen at hm
  have hle:len<=zs.length:=by rw[hz];split<;>omega
  refine⟨_,zs.take len,hcs,⟨some a,len,cap,rfl,by rw[UU,Vd];omega,hl,λh0=> ?_⟩,by rw[Vd];omega,λz hz=>hwz z (Wg hz)⟩
  obtain⟨b,off,e,h2⟩:=LS (g:=λi=> .int k (zs.getD i 0)) h0 (λi hi=>by rw[hcell i (by omega)])
  refine⟨b,off,by rw[e],λi hi=> ?_⟩
  rw[h2 i hi,Vt,List.getElem?_take_of_lt hi,V4,U1 (by omega)]
  rfl
theorem RH{H:Type}{enc:TypeId×Wn->H}{P:Program}{W:Wm}{base fuel:Nat}{hd:Bool}{t e:TypeId}{cs:List Wn}{x:DataW H×List MemPlace}(ht:P.underlying t=some (.slice e))(he:P.underlying e=some .bool)(hc:P.cellsOf e=1)
 (hf:DataW.trod enc P W base (λ_=>true) hd fuel t cs=some x):∃(v:Wn) (zs:List Bool),cs=[v]/\Sl W v (zs.map Value.bool)/\zs.length<=9223372036854775807:=by
 rcases Go.Deep.open_bools ht he hc hf with⟨hcs,-⟩|⟨a,len,cap,B,hcs,_,hl,hm,-,hcell⟩
 .exact ⟨_,[],hcs,⟨none,0,0,rfl,rfl,U0 _,λh=>absurd h (by simp)⟩,by simp⟩
 .unfold maxLen at hm
  refine⟨_,(List.range len).map B,hcs,⟨some a,len,cap,rfl,by simp,hl,λh0=> ?_⟩,by simp;omega⟩
  obtain⟨b,off,e,h2⟩:=LS (g:=λi=> .bool (B i)) h0 (λi hi=>by rw[hcell i (by omega)])
  refine⟨b,off,by rw[e],λi hi=> ?_⟩
  rw[h2 i hi]
  simp[hi]
structure I1 where
 a0:Int
 s1:ByteArray
 s2:ByteArray
 a3:Int
 bv:Wn
 zs:List Int
 kv:Wn
 ks:List Bool
def CE(x:I1):List Wn:=[.int .i64 x.a0,.string x.s1,.string x.s2,.int .i64 x.a3,x.bv,x.kv]
structure Hl(W:Wm)(x:I1):Prop where
 w0:(Lit.int .i64 x.a0).wf=true
 w3:(Lit.int .i64 x.a3).wf=true
 sb:Sl W x.bv (x.zs.map (Value.int .u8))
 lb:x.zs.length<=9223372036854775807
 wb:∀z∈x.zs,(Lit.int .u8 z).wf=true
 sk:Sl W x.kv (x.ks.map Value.bool)
 lk:x.ks.length<=9223372036854775807
theorem Po{H:Type}{enc:TypeId×Wn->H}{P:Program}{W:Wm}{base fuel:Nat}{hd:Bool}{t e4 e5:TypeId}{f0 f1 f2 f3 f4 f5:Field}{cs:List Wn}{x:DataW H×List MemPlace}
 (ht:P.underlying t=some (.struct #[f0,f1,f2,f3,f4,f5])) (h0:P.underlying f0.type=some (.int .i64)) (h1:P.underlying f1.type=some .string) (h2:P.underlying f2.type=some .string) (h3:P.underlying f3.type=some (.int .i64)) (h4:P.underlying f4.type=some (.slice e4)) (h4':P.underlying e4=some (.int .u8)) (h5:P.underlying f5.type=some (.slice e5)) (h5':P.underlying e5=some .bool)
 (ho:[f0.offset,f1.offset,f2.offset,f3.offset,f4.offset,f5.offset]=[0,1,2,3,4,5]) (hc:[P.cellsOf f0.type,P.cellsOf f1.type,P.cellsOf f2.type,P.cellsOf f3.type,P.cellsOf f4.type,P.cellsOf f5.type,P.cellsOf e4,P.cellsOf e5,P.cellsOf t]=[1,1,1,1,1,1,1,1,6])
 (hf:DataW.trod enc P W base (λ_=>true) hd fuel t cs=some x):∃a:I1,cs=CE a/\Hl W a:=by
 simp only[VX,and_true]at ho hc
 obtain⟨o0,o1,o2,o3,o4,o5⟩:=ho
 obtain⟨c0,c1,c2,c3,c4,c5,ce4,ce5,ct⟩:=hc
 obtain⟨xs,n,_,rfl,hl,hlen,hff⟩:=DataW.trod_struct ht hf
 match xs,hlen with
 |[y0,y1,y2,y3,y4,y5],_=>
  have g0:=hff 0 f0 rfl
  have g1:=hff 1 f1 rfl
  have g2:=hff 2 f2 rfl
  have g3:=hff 3 f3 rfl
  have g4:=hff 4 f4 rfl
  have g5:=hff 5 f5 rfl
  rw[o0,c0]at g0
  rw[o1,c1]at g1
  rw[o2,c2]at g2
  rw[o3,c3]at g3
  rw[o4,c4]at g4
  rw[o5,c5]at g5
  obtain⟨a0,e0,_,w0⟩:=DataW.trod_int h0 g0
  obtain⟨s1,e1,_,_⟩:=DataW.trod_string h1 g1
  obtain⟨s2,e2,_,_⟩:=DataW.trod_string h2 g2
  obtain⟨a3,e3,_,w3⟩:=DataW.trod_int h3 g3
  obtain⟨bv,zs,e4',sb,lb,wb⟩:=SO h4 h4' ce4 g4
  obtain⟨kv,ks,e5',sk,lk⟩:=RH h5 h5' ce5 g5
  rw[ct]at hl
  match cs,hl with
  |[x0,x1,x2,x3,x4,x5],_=>
   simp at e0 e1 e2 e3 e4' e5'
   subst e4' e5'
   exact⟨⟨a0,s1,s2,a3,x4,zs,x5,ks⟩,by rw[e0,e1,e2,e3]<;>rfl,⟨w0,w3,sb,lb,wb,sk,lk⟩⟩
theorem Nl{H:Type}{enc:TypeId×Wn->H}{P:Program}{W:Wm}{base b0:Nat}{r:Reach}{hd:Bool}{t e e4 e5:TypeId}{f0 f1 f2 f3 f4 f5:Field}{v:Wn}{d:DataW H}{ps:List MemPlace}
 (hs:P.underlying t=some (.slice e)) (ht:P.underlying e=some (.struct #[f0,f1,f2,f3,f4,f5])) (h0:P.underlying f0.type=some (.int .i64)) (h1:P.underlying f1.type=some .string) (h2:P.underlying f2.type=some .string) (h3:P.underlying f3.type=some (.int .i64)) (h4:P.underlying f4.type=some (.slice e4)) (h4':P.underlying e4=some (.int .u8)) (h5:P.underlying f5.type=some (.slice e5)) (h5':P.underlying e5=some .bool)
 (ho:[f0.offset,f1.offset,f2.offset,f3.offset,f4.offset,f5.offset]=[0,1,2,3,4,5]) (hc:[P.cellsOf f0.type,P.cellsOf f1.type,P.cellsOf f2.type,P.cellsOf f3.type,P.cellsOf f4.type,P.cellsOf f5.type,P.cellsOf e4,P.cellsOf e5,P.cellsOf e]=[1,1,1,1,1,1,1,1,6])
 (hval:Value.okWide P W r b0 t v) (h:DataW.Trod enc P W base (λ_=>true) hd t v d ps):
 ∃xs:List I1,Cl W 6 v xs.length (xs.flatMap CE)/\xs.length<=9223372036854775807/\∀x∈xs,Hl W x:=by
 obtain⟨a0,len,cap,rfl⟩:=okWide_slice hs hval
 obtain⟨fuel,hf⟩:=h
 have fl:∀xs:List I1,(xs.flatMap CE).length=xs.length*6:=λxs=>by
  induction xs with
  |nil=>rfl
  |cons z zs ih=>rw[VQ,UO,ih,U6];simp[CE];omega
 have ct:P.cellsOf e=6:=by
  simp only[VX,and_true]at hc
  exact hc.2.2.2.2.2.2.2.2
 rcases open_slice hs hf with⟨hcs,-⟩|⟨a,len',cap',m,n,D,Pl,hcs,_,hl,hm,hmm,_,hx⟩
 .have:Value.slice a0 len cap= .slice none 0 0:=by simpa[Value.cells]using hcs
  cases this
  exact⟨[],⟨none,0,rfl,rfl,λh=>absurd h (by simp)⟩,by simp,by simp⟩
 .have:Value.slice a0 len cap= .slice (some a) len' cap':=by simpa[Value.cells]using hcs
  cases this
  unfold maxLen at hm
  have hlm:len<=m:=by rw[hmm];split<;>omega
  have inh:Inhabited I1:=⟨⟨0,⟨#[]⟩,⟨#[]⟩,0,.slice none 0 0,[],.slice none 0 0,[]⟩⟩
  have hex:∀i,i<len->∃z:I1,Hl W z/\∀j,j<6->W.cell? ((a.add (i*6)).add j)=(CE z)[j]?:=λi hi=>by
   obtain⟨cs',h1',h2'⟩:=hx i (by omega)
   rw[ct]at h1'
   obtain⟨z,rfl,hw⟩:=Po ht h0 h1 h2 h3 h4 h4' h5 h5' ho hc h2'
   obtain⟨_,hlen,hcc⟩:=World.cells?_some h1'
   exact⟨z,hw,λj hj=>hcc j hj⟩
  obtain⟨Z,hZ⟩:=choose_lt (α:=I1) (n:=len) (p:=λi z=>Hl W z/\∀j,j<6->W.cell? ((a.add (i*6)).add j)=(CE z)[j]?) hex
  refine⟨(List.range len).map Z,⟨some a,cap,by simp,by rw[fl],λhpos=> ?_⟩,by simp;omega,λz hz=> ?_⟩
  .have hpos:0<len:=by simpa using hpos
   obtain⟨b,off,spot⟩:=a
   have hs:spot=none:=by
    have h0:=(hZ 0 hpos).2 0 (by omega)
    simp[CE]at h0
    unfold World.cell? at h0
    split at h0
    .cases spot
     .rfl
     .simp [Addr.add]at h0
    .cases h0
   subst hs
   refine⟨b,off,rfl,λi hi=> ?_⟩
   rw[fl,UU,List.length_range]at hi
   have hq:i/6<len:=by omega
   have key:=(hZ (i/6) hq).2 (i%6) (Nat.mod_lt _ (by omega))
   rw[add_add,show i/6*6+i%6=i from by omega,Bd]at key
   rw[key]
   have get:∀(zs:List I1) (i j:Nat),j<6->(zs.flatMap CE)[i*6+j]?=(zs[i]?).bind λz=>(CE z)[j]?:=by
    intro zs
    induction zs with
    |nil=>intro i j _;simp
    |cons z zs ih=>
     intro i j hj
     have e3:(CE z).length=6:=rfl
     rw[VQ]
     cases i with
     |zero=>rw[U8 (by rw[e3];omega)];simp
     |succ i=>
      rw[VR (by rw[e3];omega),e3,show(i+1)*6+j-6=i*6+j from by omega,ih i j hj]
      simp
   have h3:=get ((List.range len).map Z) (i/6) (i%6) (Nat.mod_lt _ (by omega))
   rw[show i/6*6+i%6=i from by omega]at h3
   rw[h3,Vt,List.getElem?_range hq]
   rfl
  .obtain ⟨i,hi,rfl⟩:=Vl.1 hz
   exact(hZ i (Vg.1 hi)).1
end Go.En
namespace Go.Proofs.Ytmhokapokchneaa
open Go Go.En Go.Pu
theorem SE{W:Wm}{x:I1}(h:Hl W x):∃v:LG,MU v=CE x/\Kr W v:=by
 obtain⟨l,hl,hll⟩:=Q4 x.zs h.wb
 have g3: -9223372036854775808<=x.a3/\x.a3<=9223372036854775807:=by simpa[Lit.wf,IntKind.min,IntKind.max,IntKind.signed,IntKind.bits]using h.w3
 exact⟨⟨⟨x.a0,x.s1,x.s2,x.a3,l,x.ks⟩,x.bv,x.kv⟩,rfl,⟨by show Sl W x.bv (l.map zD);rw[<-hl];exact h.sb,h.sk,h.lk,g3.1⟩⟩
theorem Od{W:Wm}:∀xs:List I1,(∀x∈xs,Hl W x)->∃acs:List LG,acs.length=xs.length/\acs.flatMap MU=xs.flatMap CE/\∀v∈acs,Kr W v
 |[],_=>⟨[],rfl,rfl,λv hv=>(nomatch hv)⟩
 |x::r,h=>by
  obtain⟨v,h1,h2⟩:=SE (h x Va)
  obtain⟨l,h3,h4,h5⟩:=Od r λy hy=>h y (UX _ hy)
  refine⟨v::l,by rw[U6,h3,U6],by rw[VQ,h1,h4,VQ],λy hy=> ?_⟩
  rcases UZ.1 hy with rfl|hy
  .exact h2
  .exact h5 y hy
end Go.Proofs.Ytmhokapokchneaa

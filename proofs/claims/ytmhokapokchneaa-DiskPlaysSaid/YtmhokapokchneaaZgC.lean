/- Parts of the proof of DiskPlays: merged and given short names by a program of ours. -/
import Derived.Deep.Matrix
import Derived.Deep.Slices
import Derived.Deep.Strs
import Derived.Laws.IdiomArrays
import Derived.Deep.Grids
import Derived.Test.YtmhokapokchneaaZgB
set_option linter.unusedVariables false
set_option linter.unusedSimpArgs false
open Array renaming getElem?_eq_getElem → UH, getElem?_setIfInBounds_self_of_lt → UI, getElem?_setIfInBounds_ne → UK, getElem?_eq_none → UR, getD_eq_getD_getElem? → Uy
open Bool renaming and_eq_true → Uz, not_false → VG
open Int renaming toNat_natCast → UJ
open List renaming mem_map → U1, nil_append → U2, mem_nil_iff → U3, getElem?_map → U9, length_map → UA, map_cons → UB, mem_cons_of_mem → UC, mem_cons → UD, getElem?_eq_getElem → UG, length_cons → UL, set_cons_zero → UM, getElem?_append_left → UN, mem_cons_self → UP, length_take → US, length_eq_zero_iff → UT, length_set → UU, mem_range → UW, take_of_length_le → UZ, length_append → Uu, getElem?_cons_zero → Uv, getElem?_cons_succ → Ux, append_nil → VA, length_nil → VC, mem_singleton → VD, getD_eq_getElem?_getD → VK, mem_of_mem_take → VW, drop_eq_getElem_cons → Vb, mem_append → Vc, take_append_drop → Vg, append_assoc → Vk, map_append → Vl, mem_of_getElem? → Vu, nodup_cons → Vv, flatMap_cons → Vw, getElem?_append_right → Vx, sum_cons → Vy, getElem_mem → Vz
open List.cons renaming injEq → VB
open Nat renaming lt_or_ge → U0, le_refl → UF, lt_of_lt_of_le → UQ, zero_add → Uw, zero_mul → V1, mul_le_mul_right → VI, add_assoc → Vi, le_trans → Vm
open Option.some renaming injEq → VF
namespace Go.Proofs.Ytmhokapokchneaa
open Go Go.En Go.Pu Go.Sort
set_option maxRecDepth 4000
structure QW(b:Nat)(rest:List V3)(a e:Nat)(d:Array ByteArray)(s t:Nat)(d':Array ByteArray)(w W:V2):Prop where
 o:bD W b (hU d'++rest)
 p:PermIn a e d d'
 l:Pn a e s t d'
 i:a<=s/\s<=t/\t<=e
 x:aJ w W (λy=>y=b)
def Oq(b:Nat)(rest:List V3)(a e:Nat)(d:Array ByteArray)(w:V2)(r:V3)(W:V2):Prop:=
 r= .tuple #[]/\(∃d',bD W b (hU d'++rest)/\PermIn a e d d'/\SortedIn fU a e d')/\aJ w W (λy=>y=b)
theorem QW.fin {b:Nat}{rest:List V3}{a e s t:Nat}{d d' d2:Array ByteArray}{w W W2:V2}(h:QW b rest a e d s t d' w W)(he:e<=d.size)(o:bD W2 b (hU d2++rest))(hp:PermIn s t d' d2)(hS:SortedIn fU s t d2)(x:aJ W W2 (λy=>y=b)):Oq b rest a e d w (.tuple #[]) W2:=by
 obtain⟨i1,i2,i3⟩:=h.i
 have hz:d'.size=d.size:=h.p.1
 exact⟨rfl,⟨d2,o,permIn_trans _ _ _ _ _ h.p (permIn_mono d' d2 s t a e i1 i3 (by omega) hp),Rr h.l i3 (by omega) i1 hp hS⟩,h.x.seq x⟩
theorem QW.perm {b:Nat}{rest:List V3}{a e s t:Nat}{d d' d2:Array ByteArray}{w W W2:V2}(h:QW b rest a e d s t d' w W)(he:e<=d.size)(o:bD W2 b (hU d2++rest))(hp:PermIn s t d' d2)(x:aJ W W2 (λy=>y=b)):QW b rest a e d s t d2 w W2:=by
 obtain⟨i1,i2,i3⟩:=h.i
 have hz:d'.size=d.size:=h.p.1
 exact⟨o,permIn_trans _ _ _ _ _ h.p (permIn_mono d' d2 s t a e i1 i3 (by omega) hp),Br h.l i3 (by omega) i1 hp,h.i,h.x.seq x⟩
def Po(n:Nat):Prop:=∀(b c a e lim:Nat) (d:Array ByteArray) (rest:List V3) (w:V2),bD w b (hU d++rest)->e-a<=n->a<=e->e<=d.size->d.size<=49->lim<=1000->d.toList.Nodup->RQ a e d→
    aH pg aY #[qT b d.size c,.int .i64 (a:Nat),.int .i64 (e:Nat),.int .i64 (lim:Nat)] w (Oq b rest a e d w)
def SV(b:Nat)(rest:List V3)(a e:Nat)(d:Array ByteArray)(w:V2)(m:Nat)(u:V3×V3×V3×V3×V3)(W:V2):Prop:=∃(s t lm:Nat) (wb wp:Bool) (d':Array ByteArray),m=t-s/\u=(.int .i64 (s:Nat),.int .i64 (t:Nat),.int .i64 (lm:Nat),.bool wb,.bool wp)/\lm<=1000/\QW b rest a e d s t d' w W
def HY(b:Nat)(rest:List V3)(a e:Nat)(d:Array ByteArray)(w:V2)(k:Nat):K6:=λ_ bA cS cC wb wp W=>∃m,m<k/\SV b rest a e d w m (bA,cS,cC,wb,wp) W
theorem OO{n:Nat}(ih:Po n){b c a e s t lm pv:Nat}{wb wp:Bool}{d d4:Array ByteArray}{rest:List V3}{w W:V2}(hP:QW b rest a e d s t d4 w W)(hn:e-a<=n+1)(he:e<=d.size)(hd:d.size<=49)(hlm:lm<=1000)(hnd:d.toList.Nodup)(hA:RQ a e d)(h12:12<t-s)(hp1:s<=pv)(hp2:pv<t):
 dQ (HY b rest a e d w (t-s)) (HY b rest a e d w (t-s)) (qT b d.size c) (.int .i64 (s:Nat)) (.int .i64 (t:Nat)) (.int .i64 (lm:Nat)) (.bool wb) (.bool wp) (.int .i64 ((t-s:Nat):Int)) (.int .i64 (pv:Nat)) W:=by
 obtain⟨i1,i2,i3⟩:=hP.i
 have hz:d4.size=d.size:=hP.p.1
 have hn4:d4.toList.Nodup:=(KK hP.p he).nodup_iff.2 hnd
 have hA4:RQ s t d4:=R5 (Lm hA he hP.p) hP.l hn4 i1 i3 (by omega)
 unfold dQ
 have part:∀W2,bD W2 b (hU d4++rest)->aJ w W2 (λy=>y=b)→
     aH pg cX #[qT b d.size c,.int .i64 (s:Nat),.int .i64 (t:Nat),.int .i64 (pv:Nat)] W2 λt99 CK=>aB pg (cA t99 0) CK λt100 CK=>aB pg (cA t99 1) CK λt101 CK=>
      aB pg (aE .sub 3 aK aK t100 (.int .i64 (s:Nat))) CK λt105 CK=>aB pg (aE .sub 3 aK aK (.int .i64 (t:Nat)) t100) CK λt108 CK=>aB pg (aE .quo 3 aK aK (.int .i64 ((t-s:Nat):Int)) (.int .i64 8)) CK λt110 CK=>
      aB pg (aE .lss 3 aK aK t105 t108) CK λt113 CK=>eT t113
       (aB pg (aE .geq 3 aK aK t105 t110) CK λt116 CK=>aH pg aY #[qT b d.size c,.int .i64 (s:Nat),t100,.int .i64 (lm:Nat)] CK λt121 CK=>aB pg (aE .add 3 aK aK t100 (.int .i64 1)) CK λt123 CK=>HY b rest a e d w (t-s) (qT b d.size c) t123 (.int .i64 (t:Nat)) (.int .i64 (lm:Nat)) t116 t101 CK)
       (aB pg (aE .geq 3 aK aK t108 t110) CK λt126 CK=>aB pg (aE .add 3 aK aK t100 (.int .i64 1)) CK λt129 CK=>aH pg aY #[qT b d.size c,t129,.int .i64 (t:Nat),.int .i64 (lm:Nat)] CK λt132 CK=>HY b rest a e d w (t-s) (qT b d.size c) (.int .i64 (s:Nat)) t100 (.int .i64 (lm:Nat)) t126 t101 CK):=by
  intro W2 o2 x2
  rw[<-hz]
  refine(L2 o2 hp1 hp2 (by omega) (by omega) (by omega)).mono ?_
  rintro r W3 ⟨⟨m,k,d5,rfl,hm1,hm2,o3,hp3,hl,hr⟩,x3⟩
  have hz5:d5.size=d4.size:=hp3.1
  have hn5:d5.toList.Nodup:=(KK hp3 (by omega)).nodup_iff.2 hn4
  have x03:=x2.seq x3
  have q1:((m:Nat):Int)-((s:Nat):Int)=((m-s:Nat):Int):=by omega
  have q2:((t:Nat):Int)-((m:Nat):Int)=((t-m:Nat):Int):=by omega
  have q3:((t-s:Nat):Int).tdiv 8=(((t-s)/8:Nat):Int):=rfl
  have q4:((m:Nat):Int)+1=((m+1:Nat):Int):=by omega
  have n8:((8:Int)==0)=false:=rfl
  have hp05:PermIn a e d d5:=permIn_trans _ _ _ _ _ hP.p (permIn_mono d4 d5 s t a e i1 i3 (by omega) hp3)
  by_cases hlt:m-s<t-m
  .have d1:decide (((m-s:Nat):Int)<((t-m:Nat):Int))=true:=decide_eq_true (by omega)
   simp(disch:=omega)only[seval,q1,q2,q3,n8,d1]
   rw[<-hz5]
   refine(ih b c s m lm d5 rest W3 o3 (by omega) hm1 (by omega) (by omega) hlm hn5 ?_).mono ?_
   .rcases Lm hA4 (by omega) hp3 with h|h
    .exact .inl h
    .exact .inr λi h1 h2=>h i h1 (by omega)
   rintro r W4 ⟨rfl,⟨d6,o6,hp6,hs6⟩,x6⟩
   simp(disch:=omega)only[seval,q4]
   refine⟨t-(m+1),by omega,m+1,t,lm,_,k,d6,rfl,rfl,hlm,o6, ?_,P9 hP.l i3 (by omega) i1 hp3 hm1 hm2 hl hr hp6 hs6,⟨by omega,by omega,i3⟩,x03.seq x6⟩
   exact permIn_trans _ _ _ _ _ hp05 (permIn_mono d5 d6 s m a e i1 (by omega) (by omega) hp6)
  .have d1:decide (((m-s:Nat):Int)<((t-m:Nat):Int))=false:=decide_eq_false (by omega)
   simp(disch:=omega)only[seval,q1,q2,q3,n8,d1,q4]
   rw[<-hz5]
   refine(ih b c (m+1) t lm d5 rest W3 o3 (by omega) (by omega) (by omega) (by omega) hlm hn5 ?_).mono ?_
   .refine .inr λi h1 h2=> ?_
    exact DQ (Qg hn5 (by omega) (by omega) (by omega)) (hr i (by omega) h2)
   rintro r W4 ⟨rfl,⟨d6,o6,hp6,hs6⟩,x6⟩
   try simp(disch:=omega)only[seval]
   refine⟨m-s,by omega,s,m,lm,_,k,d6,rfl,rfl,hlm,o6, ?_,OI hP.l i3 (by omega) i1 hp3 hm1 hm2 hl hr hp6 hs6,⟨i1,hm1,by omega⟩,x03.seq x6⟩
   exact permIn_trans _ _ _ _ _ hp05 (permIn_mono d5 d6 (m+1) t a e (by omega) i3 (by omega) hp6)
 by_cases h0:s=0
 .subst h0
  have d1:decide ((0:Int)<((0:Nat):Int))=false:=rfl
  simp(disch:=omega)only[seval,d1,decide_false]
  exact part _ (aP hP.o) (hP.x.seq (aJ.dr _ _))
 .have d1:decide ((0:Int)<((s:Nat):Int))=true:=decide_eq_true (by omega)
  have q1:((s:Nat):Int)-1=((s-1:Nat):Int):=by omega
  have ci:=dF (aP hP.o) (i:=s-1) (by omega)
  have cj:=dF (aP hP.o) (i:=pv) (by omega)
  simp(disch:=omega)only[seval,d1,q1,ci,cj]
  refine(oN _ _ _).mono ?_
  rintro r W2 ⟨rfl,rfl⟩
  have hl:fU d4[s-1]! d4[pv]! =true:=(hA4.resolve_left h0) pv hp1 hp2
  simp(disch:=omega)only[seval,hl]
  exact part _ (aP hP.o) (hP.x.seq (aJ.dr _ _))
theorem Rw{n:Nat}(ih:Po n){b c a e s t lm:Nat}{wb wp:Bool}{d d2:Array ByteArray}{rest:List V3}{w W:V2}(hP:QW b rest a e d s t d2 w W)(hn:e-a<=n+1)(he:e<=d.size)(hd:d.size<=49)(hlm:lm<=1000)(hnd:d.toList.Nodup)(hA:RQ a e d)(h12:12<t-s):
 dR (HY b rest a e d w (t-s)) (HY b rest a e d w (t-s)) (Oq b rest a e d w) (qT b d.size c) (.int .i64 (s:Nat)) (.int .i64 (t:Nat)) (.int .i64 (lm:Nat)) (.bool wb) (.bool wp) (.int .i64 ((t-s:Nat):Int)) W:=by
 obtain⟨i1,i2,i3⟩:=hP.i
 have hz:d2.size=d.size:=hP.p.1
 unfold dR nO
 have after:∀(W3:V2) (d3:Array ByteArray) (pv h:Nat),QW b rest a e d s t d3 w W3->s<=pv->pv<t→
     fD (HY b rest a e d w (t-s)) (HY b rest a e d w (t-s)) (Oq b rest a e d w) (qT b d.size c) (.int .i64 (s:Nat)) (.int .i64 (t:Nat)) (.int .i64 (lm:Nat)) (.bool wb) (.bool wp) (.int .i64 ((t-s:Nat):Int)) (.int .i64 (pv:Nat)) (.int .i64 (h:Nat)) W3:=by
  intro W3 d3 pv h hP3 h1 h2
  have hz3:d3.size=d.size:=hP3.p.1
  unfold fD nN
  have part:∀W4,aJ W3 W4 bQ->dQ (HY b rest a e d w (t-s)) (HY b rest a e d w (t-s)) (qT b d.size c) (.int .i64 (s:Nat)) (.int .i64 (t:Nat)) (.int .i64 (lm:Nat)) (.bool wb) (.bool wp) (.int .i64 ((t-s:Nat):Int)) (.int .i64 (pv:Nat)) W4:=λW4 x4=>
   OO ih (hP3.perm he (hP3.o.ext x4 (λh=>h)) (permIn_refl _ _ _) (x4.mono λ_ _ h=>h.elim)) hn he hd hlm hnd hA h12 h1 h2
  cases wb with
  |false=>
   simp(disch:=omega)only[seval]
   exact part W3 (aJ.refl _ _)
  |true=>
   cases wp with
   |false=>
    simp(disch:=omega)only[seval]
    exact part W3 (aJ.refl _ _)
   |true=>
    cases hh:(((h:Nat):Int)==1)with
    |false=>
     simp(disch:=omega)only[seval,hh]
     exact part W3 (aJ.refl _ _)
    |true=>
     simp(disch:=omega)only[seval,hh]
     rw[<-hz3]
     refine(ON hP3.o (by omega) (by omega) (by omega) (by omega)).mono ?_
     rintro r W4 ⟨⟨k,rfl,hk⟩,x4⟩
     cases k with
     |true=>
      simp(disch:=omega)only[seval]
      exact hP3.fin he (hP3.o.ext x4 (λh=>h)) (permIn_refl _ _ _) (hk rfl) (x4.mono λ_ _ h=>h.elim)
     |false=>
      simp(disch:=omega)only[seval]
      rw[hz3]
      exact part W4 x4
 rw[<-hz]
 refine(Pz hP.o (by omega) (by omega) (by omega) (by omega)).mono ?_
 rintro r W2 ⟨⟨m0,h0,rfl,hm1,hm2,hh⟩,x2⟩
 have hP2:=hP.perm he (hP.o.ext x2 (λh=>h)) (permIn_refl _ _ _) (x2.mono λ_ _ h=>h.elim)
 cases h2:(((h0:Nat):Int)==2)with
 |false=>
  simp(disch:=omega)only[seval,h2]
  rw[hz]
  exact after W2 d2 m0 h0 hP2 hm1 hm2
 |true=>
  simp(disch:=omega)only[seval,h2]
  refine(OR hP2.o i2 (by omega) (by omega) (by omega)).mono ?_
  rintro r W3 ⟨rfl,⟨d3,o3,hp3⟩,x3⟩
  have q1:((t:Nat):Int)-1=((t-1:Nat):Int):=by omega
  have q2:((m0:Nat):Int)-((s:Nat):Int)=((m0-s:Nat):Int):=by omega
  have q3:((t-1:Nat):Int)-((m0-s:Nat):Int)=((t-1-(m0-s):Nat):Int):=by omega
  simp(disch:=omega)only[seval,q1,q2,q3]
  rw[hz]
  exact after W3 d3 (t-1-(m0-s)) 1 (hP2.perm he o3 hp3 x3) (by omega) (by omega)
theorem Sp:∀n:Nat,Po n:=by
 intro n
 induction n with
 |zero=>
  intro b c a e lim d rest w o hn hae he hd hlim hnd hA
  refine iK ?_
  obtain rfl:a=e:=by omega
  unfold hJ eP eL cG
  refine bG.rule (λm (t:V3×V3×V3×V3×V3) w'=>m=0/\t=(.int .i64 (a:Nat),.int .i64 (a:Nat),.int .i64 (lim:Nat),.bool true,.bool true)/\w'=w) 0 ⟨rfl,rfl,rfl⟩ ?_
  rintro m t w1 ⟨rfl,rfl,rfl⟩
  unfold cF fF fE
  have q1:((a:Nat):Int)-((a:Nat):Int)=0:=by omega
  have d1:decide ((0:Int)<=12)=true:=rfl
  simp(disch:=omega)only[seval,q1,d1,decide_true]
  refine(PX o (by omega) he (by omega)).mono ?_
  rintro r w2 ⟨rfl,hD,x2⟩
  try simp(disch:=omega)only[seval]
  exact⟨rfl,hD,x2⟩
 |succ n ih=>
  intro b c a e lim d rest w o hn hae he hd hlim hnd hA
  refine iK ?_
  obtain⟨RR,hRR⟩:∃RR:V3->V2->Prop,RR=Oq b rest a e d w:=⟨_,rfl⟩
  rw[<-hRR]
  unfold hJ eP eL cG
  refine bG.rule (SV b rest a e d w) (e-a) (⟨a,e,lim,true,true,d,rfl,rfl,hlim,o,permIn_refl _ _ _,λi j h1 h2 h3 h4=>by omega,⟨by omega,hae,by omega⟩,aJ.refl _ _⟩) ?_
  intro m u w1 hm
  obtain⟨s,t,lm,wb,wp,d1,rfl,rfl,hlm,hP⟩:=hm
  obtain⟨i1,i2,i3⟩:=hP.i
  have hz:d1.size=d.size:=hP.p.1
  unfold cF fF fE
  have q1:((t:Nat):Int)-((s:Nat):Int)=((t-s:Nat):Int):=by omega
  by_cases h12:t-s<=12
  .have d1':decide (((t-s:Nat):Int)<=12)=true:=decide_eq_true (by omega)
   simp(disch:=omega)only[seval,q1,d1']
   rw[<-hz]
   refine(PX hP.o i2 (by omega) (by omega)).mono ?_
   rintro r w2 ⟨rfl,⟨d2,o2,hp2,hs2⟩,x2⟩
   try simp(disch:=omega)only[seval]
   rw[hRR]
   exact hP.fin he o2 hp2 hs2 x2
  have d1':decide (((t-s:Nat):Int)<=12)=false:=decide_eq_false (by omega)
  by_cases hl0:lm=0
  .subst hl0
   have k0:(((0:Nat):Int)==0)=true:=rfl
   simp(disch:=omega)only[seval,q1,d1',k0]
   rw[<-hz]
   refine(Sh hP.o (by omega) (by omega) (by omega)).mono ?_
   rintro r w2 ⟨rfl,⟨d2,o2,hp2,hs2⟩,x2⟩
   try simp(disch:=omega)only[seval]
   rw[hRR]
   exact hP.fin he o2 hp2 hs2 x2
  have k0:(((lm:Nat):Int)==0)=false:=beq_eq_false_iff_ne.2 (by omega)
  have go:∀(W:V2) (lm2:Nat) (d2:Array ByteArray),lm2<=1000->QW b rest a e d s t d2 w W→
      dR (HY b rest a e d w (t-s)) (HY b rest a e d w (t-s)) (Oq b rest a e d w) (qT b d.size c) (.int .i64 (s:Nat)) (.int .i64 (t:Nat)) (.int .i64 (lm2:Nat)) (.bool wb) (.bool wp) (.int .i64 ((t-s:Nat):Int)) W:=λW lm2 d2 h1 h2=>Rw ih h2 hn he hd h1 hnd hA (by omega)
  rw[hRR]
  cases wb with
  |true=>
   simp(disch:=omega)only[seval,q1,d1',k0]
   exact go w1 lm d1 hlm hP
  |false=>
   simp(disch:=omega)only[seval,q1,d1',k0]
   rw[<-hz]
   refine(Rd hP.o i2 (by omega) (by omega)).mono ?_
   rintro r w2 ⟨rfl,⟨d2,o2,hp2⟩,x2⟩
   have q2:((lm:Nat):Int)-1=((lm-1:Nat):Int):=by omega
   simp(disch:=omega)only[seval,q2]
   rw[hz]
   exact go w2 (lm-1) d2 (by omega) (hP.perm he o2 hp2 x2)
theorem NH{n:Nat}(h:n<=49):bl n<=1000:=by
 unfold bl
 split
 .omega
 .have h2:n.log2<20:=(Nat.log2_lt (by omega)).2 (by omega)
  omega
theorem Nn{v:V3}{L:List ByteArray}{base:Nat}{w:V2}(h:xE w base 1 v L.length (L.map Value.string))(hl:L.length<=49)(hnd:L.Nodup):
 aH pg iO #[v] w (λr w'=>(∃L',L'.Perm L/\IE L'/\xE w' base 1 v L'.length (L'.map Value.string))/\aJ w w' (λy=>base<=y)):=by
 have nil:∀{a:Option Addr} {c:Nat},L=[]->v= .slice a 0 c->aH pg iO #[v] w (λr w'=>(∃L',L'.Perm L/\IE L'/\xE w' base 1 v L'.length (L'.map Value.string))/\aJ w w' (λy=>base<=y)):=by
  intro a c hL hv
  subst hL hv
  refine SF (n:=0) (by omega) (P0.mono ?_)
  rintro r w' ⟨-,rfl⟩
  exact⟨⟨[],List.Perm.refl _,List.Pairwise.nil,h⟩,aJ.refl _ _⟩
 rcases h.2 with⟨rfl,h0⟩|⟨b,c,rest,rfl,hb,ho,hc,hnc⟩
 .exact nil (UT.1 h0) rfl
 by_cases h0:L.length=0
 .exact nil (UT.1 h0) (by rw[h0])
 obtain⟨d,hd⟩:∃d:Array ByteArray,d=L.toArray:=⟨_,rfl⟩
 have hdl:d.toList=L:=by rw[hd]
 have hds:d.size=L.length:=by rw[hd];simp
 have ho':bD w b (hU d++rest):=by unfold hU;rw[hdl];exact ho
 refine tT ?_
 unfold uU qJ
 have e1:IntKind.u64.wrap ((L.length:Nat):Int)=((L.length:Nat):Int):=Mt (by omega) (by omega)
 simp(disch:=omega)only[seval,e1]
 refine(P7 L.length (by omega) w).mono ?_
 rintro r w1 ⟨rfl,rfl⟩
 rw[<-hds]
 refine(Sp d.size b c 0 d.size (bl d.size) d rest w1 ho' (by omega) (by omega) (UF _) (by omega) (NH (by omega)) (by rw[hdl];exact hnd) (.inl rfl)).mono ?_
 rintro r w2 ⟨rfl,⟨d',o2,hp,hS⟩,x2⟩
 have hz:d'.size=d.size:=hp.1
 have hpm:=KK hp (UF _)
 have hn':d'.toList.Nodup:=hpm.nodup_iff.2 (by rw[hdl];exact hnd)
 have hlen:d'.toList.length=d.size:=by simpa using hz
 have fin:(∃L',L'.Perm L/\IE L'/\xE w2 base 1 (.slice (some ⟨b,0,none⟩) d.size c) L'.length (L'.map Value.string))/\aJ w1 w2 (λy=>base<=y):=by
  refine⟨⟨d'.toList,hdl▸hpm, ?_, ?_⟩,x2.mono λy _ hy=>by rw[hy];exact hb⟩
  .unfold IE
   refine List.pairwise_iff_getElem.2 λi j hi hj hij=> ?_
   have h1:=hS i j (Nat.zero_le _) hij (by omega)
   have h2:=Qg hn' (i:=j) (j:=i) (by omega) (by omega) (by omega)
   have h3:=DQ h2 h1
   rw[getElem!_pos d' i (by omega),getElem!_pos d' j (by omega)]at h3
   simpa using h3
  .rw [hlen]
   refine⟨by rw[UA];omega,.inr ⟨b,c,rest,rfl,hb,o2, ?_,by omega⟩⟩
   rw[Uu,UA]at hc⊢
   omega
 first
  |exact fin
  |(try simp(disch:=omega)only[seval]
    exact fin)
end Go.Proofs.Ytmhokapokchneaa
namespace Go.En
open Go
section
variable{P:Program}
theorem LB{a:Array V3}{t x:Nat}{v:V3}(h:t<a.size):Ft (a.setIfInBounds t v) x=if x=t then v else Ft a x:=by
 unfold Ft
 rw[Uy,Uy]
 by_cases hx:x=t
 .subst hx;rw[UI h,if_pos rfl]<;>rfl
 .rw [UK (λe=>hx e.symm),if_neg hx]
theorem OG{N x:Nat}{g:Env}(h:x<N):Ft (tmpsOf N g) x=g x:=by
 unfold Ft tmpsOf
 rw[Uy,UH (by simpa using h)]
 simp
theorem Rz{f:FuncId}{fn:Func}(hf:P.funcs[f]?=some fn)(hb:fn.body.isSome=true)(hn:(fn.name== "runtime.NumGoroutine")=false)(cap:Array V3)(args:List V3)(w:V2):
 (zF (.func (.func f) #[] cap) args).run P w= .ok (.enter f (args.toArray++cap)) w:=by
 unfold zF Deferred.ofValue
 simp only[pure_bind,invoke,Array.empty_append]
 exact F4 hf hb hn _ _
def Jp(r:Loop)(args:List V3):Array V3:=(r.params.zip args.toArray).foldl (λtmps (t,a)=>tmps.setIfInBounds t a) r.tmps
theorem RE{r:Loop}{a:Tmp}{t:Array V3}(hp:r.params= #[a])(ht:r.tmps=t)(x:V3):Jp r [x]=t.setIfInBounds a x:=by
 unfold Jp;rw[hp,ht];simp
theorem RC{l:Nat}{r:Loop}{args:List V3}{w:V2}(h:w.heap[l]?=some (.loop r))(hs:args.length=r.params.size):
 (zF (zO l) args).run P w= .ok (.round l r.fn (Jp r args) r.assign r.body) w:=by
 unfold zF zO Deferred.ofValue
 simp only[pure_bind,invoke,Array.empty_append]
 exact run_yield h (by simpa using hs)
theorem Pp{f fi:FuncId}{fn:Func}{gf:Operand}{ps:Array Tmp}{Ut bd:Code}{Q:Exit->Env->V2->Prop}{g:Env}{w:V2}{cap:Array V3}
 (hm:noMark (g DS)=true) (he:ev g gf= .func (.func fi) #[] cap) (hf:P.funcs[fi]?=some fn) (hb:fn.body.isSome=true) (hn:(fn.name== "runtime.NumGoroutine")=false)
 (h:aH P fi (#[zO (w.heap.size+1)]++cap) (Ph f (Hc P f) ps Ut bd g w) λ_ w3=>Pq (w.heap.size+1) Q (put g (some DS) (.pointer (some ⟨w.heap.size,0,none⟩))) w3):
 RF P f gf ps Ut bd Q g w:=by
 unfold RF
 rw[hm]
 simp only
 rw[he,Rz hf hb hn]
 exact h
theorem aJ.putObj (w:V2)(l:Nat)(o:Obj):aJ w (w.putObj l o) (λy=>y=l):=
 ⟨rfl,rfl,rfl,by simp,λb hb hM=>World.putObj_heap_other hM⟩
theorem Fy{w w':V2}{l:Nat}{o:Obj}{M:Nat->Prop}(h:w.heap[l]?=some o)(hx:aJ w w' M)(hM:¬M l):w'.heap[l]?=some o:=by
 have:l<w.heap.size:=by
  rcases U0 l w.heap.size with h'|h'
  .exact h'
  .rw [UR h']at h;cases h
 rw[hx.keep l this hM];exact h
theorem R0 {w:V2}{l:Nat}{o:Obj}(h:w.heap[l]?=some o):l<w.heap.size:=by
 rcases U0 l w.heap.size with h'|h'
 .exact h'
 .rw [UR h']at h;cases h
theorem OT(f:FuncId)(N:Nat)(ps:Array Tmp)(Ut bd:Code)(g:Env)(w:V2):
 aJ w (Ph f N ps Ut bd g w) bQ/\(Ph f N ps Ut bd g w).heap.size=w.heap.size+2/\(Ph f N ps Ut bd g w).heap[w.heap.size]?=some (.deferred (some []))/\
  (Ph f N ps Ut bd g w).heap[w.heap.size+1]?=some (.loop {state:= .ready,pending:=none,fn:=f,tmps:=tmpsOf N g,params:=ps,assign:=Ut,body:=bd,defers:=w.heap.size}):=by
 unfold Ph
 have x1:=aJ.alloc w (.deferred (some [])) bQ
 have h1:=World.alloc_heap_new w (.deferred (some []))
 have z1:(w.alloc (.deferred (some []))).heap.size=w.heap.size+1:=by simp
 generalize w.alloc (.deferred (some []))=w1 at*
 refine⟨x1.seq (aJ.alloc w1 _ bQ),by simp[z1],Fy h1 (aJ.alloc w1 _ bQ) (λh=>h), ?_⟩
 have:=World.alloc_heap_new w1 (.loop {state:= .ready,pending:=none,fn:=f,tmps:=tmpsOf N g,params:=ps,assign:=Ut,body:=bd,defers:=w.heap.size})
 rw[z1]at this
 exact this
theorem OQ{l:Nat}{r:Loop}{w:V2}{K:V2->Prop}(h:w.heap[l]?=some (.loop r))(hr:r.state= .ready)
 (hk:∀w',w'.heap[l]?=some (.loop {r with state:= .busy})->aJ w w' (λy=>y=l)->w'.heap.size=w.heap.size->K w'):TQ l w K:=
 ⟨r,h,hr,hk _ (World.putObj_heap_same (R0 h)) (aJ.putObj _ _ _) (by simp)⟩
theorem M8 {l:Nat}{r:Loop}{j:Option Code}{w:V2}{R:V3->V2->Prop}(h:w.heap[l]?=some (.loop r))
 (hk:∀w',w'.heap[l]?=some (.loop {r with state:=T8 j,pending:=j})->aJ w w' (λy=>y=l)->w'.heap.size=w.heap.size->R (.bool j.isNone) w'):Q7 l j R w:=
 ⟨r,h,hk _ (World.putObj_heap_same (R0 h)) (aJ.putObj _ _ _) (by simp)⟩
theorem L9 {l:Nat}{r:Loop}{w:V2}{Q:Exit->Env->V2->Prop}{g:Env}(h:w.heap[l]?=some (.loop r))(hb:r.state≠.busy)
 (hk:∀w',aJ w w' (λy=>y=l)->w'.heap.size=w.heap.size->Sd Q g r.pending w'):Pq l Q g w:=
 ⟨r,h,hb,hk _ (aJ.putObj _ _ _) (by simp)⟩
theorem Nm{b:Nat}{w:V2}{K:V2->Prop}(h:w.heap[b]?=some (.deferred (some [])))(hk:∀w',aJ w w' (λy=>y=b)->w'.heap.size=w.heap.size->K w'):
 zG (.pointer (some ⟨b,0,none⟩)) w K:=⟨h,hk _ (aJ.putObj _ _ _) (by simp)⟩
theorem Qr{f:FuncId}(first captured:List V3)(w:V2):(Mh (.func f) first captured).run P w= .ok (.value (.func (.func f) first.toArray captured.toArray)) w:=by
 unfold Mh V Instr.makeFunc
 simp[Sem.run_bind,Sem.run_pure]
end
end Go.En
namespace Go.Proofs.Ytmhokapokchneaa
open Go Go.En Go.Pu
set_option maxRecDepth 4000
theorem M1 {α:Type}{A:List α}:∀{L:List α} {j:Nat} (hj:j<L.length),(A++[L[j]]++L.eraseIdx j).Perm (A++L):=by
 intro L j hj
 rw[Vk]
 refine List.Perm.append_left A ?_
 have h:L=L.take j++L[j]::L.drop (j+1):=by
  rw[<-Vb hj,Vg]
 have h2:L.eraseIdx j=L.take j++L.drop (j+1):=List.eraseIdx_eq_take_drop_succ ..
 rw[h2]
 conv=>rhs;rw[h]
 show(L[j]::(L.take j++L.drop (j+1))).Perm _
 exact(List.perm_middle).symm
theorem Sj{m box sb lp:Nat}{ls:List (ByteArray×V3)}{r0:Loop}{w:V2}(I:List ByteArray->V2->Prop)(hm:Mp w m Dc ls)(hb:bD w box [.map (some m)])(hbs:box≠sb/\box≠lp/\m≠sb/\m≠lp)(hlt:sb<w.heap.size/\lp<w.heap.size)
 (hp:r0.params.size=1) (h0:I [] w) (hl:∀d W,I d W->W.heap[lp]?=some (.loop r0)) (hN:∀d W W',I d W->aJ W W' (λy=>y=w.heap.size)->I d W')
 (hs:∀d k W,I d W->d.length<ls.length->w.heap.size<W.heap.size->J4 pg lp r0.fn (Jp r0 [.string k]) r0.assign r0.body W (λb W'=>b= .bool true/\I (d++[k]) W'/\aJ W W' (λy=>y=sb∨y=lp∨w.heap.size<y))):
 aH pg eU #[zO lp,.pointer (some ⟨box,0,none⟩)] w (λr W=>r= .tuple #[]/\∃d,d.Perm (ls.map (·.1))/\I d W):=by
 refine BR ?_
 obtain⟨RR,hRR⟩:∃RR:V3->V2->Prop,RR=λr W=>r= .tuple #[]/\∃d,d.Perm (ls.map (·.1))/\I d W:=⟨_,rfl⟩
 rw[<-hRR]
 unfold Ao vZ vY lN
 have c0:w.cell? ⟨box,0,none⟩=some (.map (some m)):=hb.cell (off:=0)
 have hml:=hm.lt
 simp(disch:=omega)only[seval,c0]
 refine EY hm λw1 hi x1 s1=> ?_
 obtain⟨it,hit⟩:∃it,it=w.heap.size:=⟨_,rfl⟩
 rw[<-hit]at hi hN hs hml hlt⊢
 refine bG.rule (λk (t:Unit) W=>∃(d:List ByteArray) (rest:List (ByteArray×V3)),k=rest.length/\Q6 W it m Dc rest/\I d W/\(d++rest.map (·.1)).Perm (ls.map (·.1))/\it<W.heap.size) ls.length
  ⟨[],ls,rfl,hi,hN _ _ _ h0 (x1.mono λ_ _ h=>h.elim),List.Perm.refl _,by omega⟩ ?_
 rintro k t W ⟨d,rest,rfl,hi2,hI,hpm,hW⟩
 unfold pM
 refine Mo hi2 (by omega) (λhr0=> ?_) λw3 j hj hi3 hc x3 s3=> ?_
 .simp (disch:=omega)only[seval]
  rw[hRR]
  refine⟨rfl,d, ?_,hI⟩
  rw[hr0]at hpm
  simpa using hpm
 .have he:=NW (P:=pg) hc
  have hI3:=hN _ _ _ hI x3
  have hlp:=hl _ _ hI3
  have q1:=RC (P:=pg) (args:=[.string (rest[j]).1]) hlp (by rw[hp]<;>rfl)
  have hlen:d.length<ls.length:=by
   have:=hpm.length_eq
   simp only[Uu,UA]at this
   omega
  simp(disch:=omega)only[seval,he,q1,Ml]
  obtain⟨b',w4,hret,hR⟩:=hs d (rest[j]).1 w3 hI3 hlen (by omega)
  refine⟨b',w4,hret, ?_⟩
  obtain⟨rfl,hI4,x4⟩:=hR
  simp(disch:=omega)only[seval]
  refine⟨(rest.eraseIdx j).length,by rw[List.length_eraseIdx_of_lt hj];omega,d++[(rest[j]).1],rest.eraseIdx j,rfl,hi3.ext x4 (by omega) (by omega),hI4, ?_,by have:=x4.size;omega⟩
  have:=M1 (A:=d) (L:=rest.map (·.1)) (j:=j) (by simpa using hj)
  rw[List.getElem_map]at this
  rw[vH]
  exact this.trans hpm
theorem Pt:Qw aG= #[7]:=by kernel_rfl
theorem R9:Hc pg aW=13:=by kernel_rfl
theorem Oz{m box:Nat}{ls:List (ByteArray×V3)}{w:V2}(hm:Mp w m Dc ls)(hb:bD w box [.map (some m)])(hbm:box≠m)(hl:ls.length<=49):
 aH pg aW #[.slice none 0 0,.func (.func eU) #[] #[.pointer (some ⟨box,0,none⟩)]] w (λr W=>∃d:List ByteArray,d.Perm (ls.map (·.1))/\xE W w.heap.size 1 r d.length (d.map Value.string)/\aJ w W bQ):=by
 refine zJ ?_
 obtain⟨RR,hRR⟩:∃RR:V3->V2->Prop,RR=λr W=>∃d:List ByteArray,d.Perm (ls.map (·.1))/\xE W w.heap.size 1 r d.length (d.map Value.string)/\aJ w W bQ:=⟨_,rfl⟩
 rw[<-hRR]
 unfold tS qY qX
 refine jY λw1 o1 x1 s1=> ?_
 simp only[Value.cells]at o1
 unfold lW lV qW iY
 intro g g2 g6 gm
 generalize hn0:w.heap.size=n0 at*
 have e1:w1.heap.size=n0+1:=by omega
 have hml:=hm.lt
 have hbl:=hb.lt
 refine Pp (fi:=eU) (cap:= #[.pointer (some ⟨box,0,none⟩)]) (by show noMark (g 1000003)=true;rw[gm]<;>rfl) g6 Try.func43 (by kernel_rfl) (by kernel_rfl) ?_
 obtain⟨x8,s8,d8,l8⟩:=OT aW (Hc pg aW) (Qw aG) (OS aG) (M9 aG) g w1
 rw[e1]at s8 d8 l8⊢
 generalize Ph aW (Hc pg aW) (Qw aG) (OS aG) (M9 aG) g w1=w8 at*
 obtain⟨r0,hr0⟩:∃r0:Loop,r0={state:= .ready,pending:=none,fn:=aW,tmps:=tmpsOf (Hc pg aW) g,params:=Qw aG,assign:=OS aG,body:=M9 aG,defers:=n0+1}:=⟨_,rfl⟩
 rw[<-hr0]at l8
 have x08:aJ w w8 bQ:=x1.seq x8
 have z8:w8.heap.size=n0+3:=by omega
 let I:List ByteArray->V2->Prop:=λd W=>∃sv,aJ w8 W (λy=>y=n0∨y=n0+2∨n0+3<=y)/\W.heap[n0+2]?=some (.loop r0)/\bD W n0 [sv]/\J5 W (λb=>n0+3<b) 1 sv d.length (d.map Value.string)
 have hmain:=Sj (m:=m) (box:=box) (sb:=n0) (lp:=n0+2) (ls:=ls) (r0:=r0) (w:=w8) I ((hm.ext x08 (λh=>h))) (hb.ext x08 (λh=>h)) ⟨by omega,by omega,by omega,by omega⟩ ⟨by omega,by omega⟩ ?hp ?h0 ?hl ?hN ?hs
 case hp=>rw[hr0,Pt]<;>rfl
 case h0=>exact⟨_,aJ.refl _ _,l8,o1.ext x8 (λh=>h),⟨rfl,.inl ⟨rfl,rfl⟩⟩⟩
 case hl=>rintro d W ⟨sv,hx,hlp,_⟩;exact hlp
 case hN=>
  rintro d W W' ⟨sv,hx,hlp,ho,hs⟩ xx
  rw[z8]at xx
  exact⟨sv,hx.seq (xx.mono λy _ h=> .inr (.inr (by omega))),Fy hlp xx (by omega),ho.ext xx (by omega),hs.ext xx (λb hb h=>by omega)⟩
 case hs=>
  rintro d k W ⟨sv,hx,hlp,ho,hs⟩ hdl hW
  rw[z8]at hW⊢
  have hT:Jp r0 [.string k]=(tmpsOf 13 g).setIfInBounds 7 (.string k):=RE (by rw[hr0];exact Pt) (by rw[hr0];simp only;rw[R9]) _
  have hE2:Ft ((tmpsOf 13 g).setIfInBounds 7 (.string k)) 2= .pointer (some ⟨n0,0,none⟩):=by
   rw[LB (by simp[tmpsOf]),if_neg (by omega),OG (by omega),g2]
  have hE7:Ft ((tmpsOf 13 g).setIfInBounds 7 (.string k)) 7= .string k:=by
   rw[LB (by simp[tmpsOf]),if_pos rfl]
  rw[hT]
  subst hr0
  refine xP (by simp[tmpsOf]) ?_
  rw[hE2,hE7]
  unfold qB jX
  refine OQ hlp rfl λW1 l1 y1 z1=> ?_
  have o1:=ho.ext y1 (by omega)
  have s1:=hs.ext y1 (λb hb h=>by omega)
  obtain⟨sa,sc,rfl⟩:=L1 hs
  have c0:W1.cell? ⟨n0,0,none⟩=some (.slice sa d.length sc):=o1.cell (off:=0)
  unfold fY
  simp(disch:=omega)only[seval,c0]
  refine Kx (cells:= #[.string k]) (by decide) (by decide) (by kernel_rfl) λW2 o2 y2 z2=> ?_
  refine DI (m:=1) (news:=[Value.string k]) (i:=Try.t9) Try.underlying53 Try.underlying53 G5 rfl rfl rfl (s1.ext y2 (λ_ _ h=>h)) (o2.cl (off:=0) (n:=1) rfl (λi hi=>by rw[Uw])) (by simp[one]) (λb hb=>by omega) (by omega) (by rw[show Try.t9.bytes=16 from rfl];omega) (by decide) λo' W3 s3 y3=> ?_
  obtain⟨oa',oc',rfl⟩:=L1 s3
  refine KW ((o1.ext y2 (λh=>h)).ext y3 (by omega)) rfl (by simp) λW4 o4 y4 z4=> ?_
  simp only[UM]at o4
  have l4:=Fy (Fy (Fy l1 y2 (λh=>h)) y3 (by omega)) y4 (by omega)
  refine M8 l4 λW5 l5 y5 z5=> ?_
  have yy:aJ W W5 (λy=>y=n0∨y=n0+2∨n0+3<y):=(((((y1.mono λy _ h=> .inr (.inl h)).seq (y2.mono λ_ _ h=>h.elim)).seq (y3.mono λy _ h=> .inr (.inr h))).seq (y4.mono λy _ h=> .inl h)).seq (y5.mono λy _ h=> .inr (.inl h)))
  refine⟨rfl,⟨_,hx.seq (yy.mono λy _ h=>by omega),l5,o4.ext y5 (by omega), ?_⟩,yy⟩
  rw[Uu,Vl]
  exact(s3.ext y4 (λb hb h=>by omega)).ext y5 (λb hb h=>by omega)
 refine hmain.mono ?_
 rintro r w9 ⟨rfl,d,hpm,sv,hx,hlp,ho,hs⟩
 refine L9 hlp (by rw[hr0];simp) λwa ya za=> ?_
 rw[hr0]
 have hz2:put g (some DS) (.pointer (some ⟨n0+1,0,none⟩)) 2=g 2:=rfl
 have hzm:put g (some DS) (.pointer (some ⟨n0+1,0,none⟩)) 1000003= .pointer (some ⟨n0+1,0,none⟩):=rfl
 show iX RR (put g (some DS) (.pointer (some ⟨n0+1,0,none⟩)) 2) (put g (some DS) (.pointer (some ⟨n0+1,0,none⟩)) 1000003) wa
 rw[hz2,hzm,g2]
 unfold iX
 have c0:wa.cell? ⟨n0,0,none⟩=some sv:=(ho.ext ya (by omega)).cell (off:=0)
 simp(disch:=omega)only[seval,c0]
 refine Nm (Fy (Fy d8 hx (by omega)) ya (by omega)) λwe ye ze=> ?_
 rw[hRR]
 have hs':=(hs.ext ya (λb hb h=>by omega)).ext ye (λb hb h=>by omega)
 refine⟨d,hpm,⟨hs'.1, ?_⟩,((x08.trans hx λy hy h=>by omega).trans ya λy hy h=>by omega).trans ye λy hy h=>by omega⟩
 rcases hs'.2 with h|⟨b,c,rest,g1,g2,g3⟩
 .exact .inl h
 .exact .inr ⟨b,c,rest,g1,by omega,g3⟩
theorem QG{m:Nat}{ls:List (ByteArray×V3)}{w:V2}(hm:Mp w m Dc ls)(hnd:(ls.map (·.1)).Nodup)(hl:ls.length<=49){K:V3->V2->Prop}
 (hK:∀r W (L:List ByteArray),L.Perm (ls.map (·.1))->IE L->Sl W r (L.map Value.string)->aJ w W bQ->K r W):
 aH pg pU #[.map (some m)] w λt w=>aH pg lK #[t] w K:=by
 refine Em ?_
 unfold Dr Ap
 refine jY λw1 o1 x1 s1=> ?_
 simp only[Value.cells]at o1
 have q1:=λw=>Qr (P:=pg) (f:=eU) [] [.pointer (some ⟨w.heap.size,0,none⟩)] w
 have q1:=λW=>Qr (P:=pg) (f:=eU) [] [.pointer (some ⟨w.heap.size,0,none⟩)] W
 simp(disch:=omega)only[seval,q1]
 refine BC ?_
 unfold zK tU
 refine A8 ?_
 unfold wZ tJ
 have hml:=hm.lt
 refine(Oz (hm.ext x1 (λh=>h)) o1 (by omega) (by omega)).mono ?_
 rintro r w2 ⟨d,hpm,os,x2⟩
 have hlen:d.length=ls.length:=by rw[hpm.length_eq,UA]
 refine(Nn (base:=w1.heap.size) os (by omega) (hpm.nodup_iff.2 hnd)).mono ?_
 rintro r2 w3 ⟨⟨L,h1,h2,os3⟩,x3⟩
 refine hK r w3 L (h1.trans hpm) h2 os3.sl ((x1.seq x2).trans x3 λy hy h=>by have:=x1.size;omega)
theorem PJ{p:Nat}{X D:Nat->Prop}{S:iL}{w:V2}(h:fB w p X D S)(hnd:(S.seen.map (·.1)).Nodup)(hl:S.seen.length<=49):
 aH pg oX #[dP p] w (λr W=>(∃L:List ByteArray,L.Perm (S.seen.map (·.1))/\IE L/\Sl W r (L.map Value.string))/\aJ w W bQ):=by
 refine C3 ?_
 unfold Cb yF
 obtain⟨ms,mn,sv,ls,ln,cs,h1,h2,h3,h4,h5,h6,h7,h7',h8,h9,h10,h11,h12,h13,h14⟩:=h
 have hk:=h12.keys
 have c2:w.cell? ⟨p,2,none⟩=some (.map (some mn)):=h8.cell (off:=2)
 simp(disch:=omega)only[seval,c2,Uw]
 have hlen:ln.length=S.seen.length:=by
  have:=congrArg List.length hk
  simpa using this
 refine QG h10 (by rw[hk];exact hnd) (by omega) λr W L q1 q2 q3 q4=> ?_
 rw[hk]at q1
 exact⟨⟨L,q1,q2,q3⟩,q4⟩
theorem fB.xd {w:V2}{p:Nat}{X D:Nat->Prop}{S:iL}(h:fB w p X D S):∀b,X b->D b:=by
 obtain⟨_,_,_,_,_,_,_,_,_,_,_,_,h7,_⟩:=h;exact h7
theorem tW.after {w w':V2}{X X':Nat->Prop}{v:V3}{b:List UInt8}(h:tW w X v b)(hX:∀b,X' b->X b∨w.heap.size<=b)(x:aJ w w' X):tW w' X' v b:=⟨h.1.ext x h.2,(h.sub hX).2⟩
theorem tW.low {w:V2}{X Y:Nat->Prop}{v:V3}{b:List UInt8}(h:tW w X v b)(hY:∀b,Y b->X b):tW w Y v b:=⟨h.1,λh'=>h.2 (kK h' hY)⟩
abbrev nA:ByteArray:=⟨#[97]⟩
theorem aJ.big {w w1 w2:V2}{M:Nat->Prop}(x:aJ w w1 bQ)(y:aJ w1 w2 M)(h:∀b,M b->w.heap.size<=b):aJ w w2 bQ:=x.trans y λb hb hm=>by have:=h b hm;omega
theorem Kz(os:List Ax)(c:aX):∀i,HD os [] c i=c
 |0=>rfl
 |i+1=>by
  rw[HD]
  cases os[i]? with
  |none=>exact Kz os c i
  |some o=>exact Kz os c i
theorem Ov(w:V2):aH pg vA #[] w (λr w'=>r= .bool true/\aJ w w' bQ):=by
 refine G8 ?_
 unfold HK Dj
 refine(PL (room:=100) (by omega) (by omega)).mono ?_
 rintro r w1 ⟨p,X,rfl,h1,hX1,x1⟩
 have n0:((0:Int) !=0)=false:=rfl
 simp(disch:=omega)only[seval,n0]
 refine HB (cells:= #[.int .u8 120,.int .u8 121]) (by decide) (by decide) (by kernel_rfl) λw2 o2 x2 s2=> ?_
 refine KA o2 λw3 o3 x3 s3=> ?_
 have x13:aJ w1 w3 bQ:=x2.new x3 (by omega)
 have hb:Bs w3 (.slice (some ⟨w1.heap.size,0,none⟩) 2 2) [120,121]:=bD.whole (l:=[120,121]) (c:=2) o3 (by simp)
 have hB0:Q4 (LX 100):=⟨by decide,by decide,by decide,by decide⟩
 refine(LA (a:=0) (name:=nA) (h1.new x13) hB0 hb (by simp) (by omega) (by omega)).mono ?_
 rintro r w4 ⟨rfl,hp4⟩
 have e1:Ld (LX 100) nA 0 [120,121]=(⟨100,[],[(nA,[120,121])],[⟨0,nA,⟨#[]⟩,0,[120,121]⟩],-1,false⟩,0):=by rfl
 rw[e1]at hp4⊢
 obtain⟨X4,D4,h4,hX4,hD4,x4⟩:=hp4
 have hB4:Q4 ⟨100,[],[(nA,[120,121])],[⟨0,nA,⟨#[]⟩,0,[120,121]⟩],-1,false⟩:=⟨by decide,by decide,by decide,by decide⟩
 have x03:=x1.seq x13
 have z3:=x03.size
 have z1:=x1.size
 have x04:aJ w w4 bQ:=aJ.big x03 x4 hX1
 have big4:∀b,X4 b->w.heap.size<=b:=λb h=>by rcases hX4 b h with h|h;exact hX1 b h;omega
 simp(disch:=omega)only[seval]
 refine(Ir (name:=nA) h4 hB4 (λb hb=>by have hb:some [120,121]=some b:=hb;cases hb;decide)).mono ?_
 rintro r w5 ⟨hr,x5⟩
 rcases hr with⟨h,_⟩|⟨_,h,_⟩|⟨_,b,v,hg,rfl,ho⟩
 .cases h
 .have h:some [120,121]=(none:Option (List UInt8)):=h
  cases h
 have hg:some [120,121]=some b:=hg
 cases hg
 have dv:tW w5 D4 v [120,121]:=xE.dat ho λb hb=>fB.lt h4 b hb
 obtain⟨va,vc,rfl⟩:=ho.len
 have h5:=h4.new x5
 have z4:=x04.size
 have z5:=x5.size
 simp(disch:=omega)only[seval]
 refine(Kh h5).mono ?_
 rintro r w6 ⟨rfl,hw⟩
 rw[hw];clear hw w6
 refine(NK (ks:=[]) h5 (Sl.nil _) (λh=>h) (by simp) (by simp) (λi hi=>by rw[Kz];decide) (λo ho=>by
  have ho:=VD.1 ho
  rw[ho];exact⟨by decide,by decide⟩)).mono ?_
 rintro r w6 ⟨rfl,hp6⟩
 have e6:Sc ⟨100,[],[(nA,[120,121])],[⟨0,nA,⟨#[]⟩,0,[120,121]⟩],-1,false⟩ []=⟨100,[],[],[],-1,false⟩:=by rfl
 rw[e6]at hp6
 obtain⟨X6,D6,h6,hX6,hD6,x6⟩:=hp6
 have dv6:=tW.after (tW.low dv (fB.xd h4)) hX6 x6
 have x06:aJ w w6 bQ:=aJ.big (x04.seq x5) x6 big4
 have big6:∀b,X6 b->w.heap.size<=b:=λb h=>by rcases hX6 b h with h|h;exact big4 b h;omega
 have hB6:Q4 ⟨100,[],[],[],-1,false⟩:=⟨by decide,by decide,by decide,by decide⟩
 refine(Ir (name:=nA) h6 hB6 (λb hb=>by have hb:none=some b:=hb;cases hb)).mono ?_
 rintro r w7 ⟨hr,x7⟩
 rcases hr with⟨h,_⟩|⟨_,_,rfl⟩|⟨_,b,v,hg,rfl,ho⟩
 .cases h
 .have hcv:=kG (dv6.1.ext x7 (jV _))
  have n1:((0:Int)==0)=true:=rfl
  have n2:(((([⟨0,nA,⟨#[]⟩,0,[120,121]⟩]:List Ax).length:Nat):Int)==1)=true:=rfl
  have n2':(((1:Nat):Int)==1)=true:=rfl
  have n3:((21:Int)==21)=true:=rfl
  have n4:((⟨([120,121]:List UInt8).toArray⟩:ByteArray).toList==(⟨#[120,121]⟩:ByteArray).toList)=true:=by simp
  have hl2:([⟨0,nA,⟨#[]⟩,0,[120,121]⟩]:List Ax).length=1:=rfl
  simp(disch:=omega)only[seval,n1,hl2,n2',n3,hcv,AQ,n4]
  refine(QK (h6.new x7) hB6).mono ?_
  rintro r w8 ⟨rfl,hp8⟩
  obtain⟨X8,D8,h8,hX8,hD8,x8⟩:=hp8
  have e8:((My ⟨100,[],[],[],-1,false⟩).2==0)=true:=by rfl
  simp(disch:=omega)only[seval,e8]
  exact aJ.big (x06.seq x7) x8 big6
 .have hg:none=some b:=hg
  cases hg
structure Li(n:Nat)(S:iL):Prop where
 bd:Q4 S
 sz:bF S.seen<=1000000000
 un:S.under.length+n<=1000000
theorem Li.le {n m:Nat}{S:iL}(h:Li n S)(hm:m<=n):Li m S:=⟨h.bd,h.sz,by have:=h.un;omega⟩
theorem Li.file {n:Nat}{S:iL}(h:Li n S){k:ByteArray}{b:List UInt8}(hb:bC k S.seen=some b):b.length<=1000000000:=by
 have h1:=xQ (k:=k) (c:=S.seen)
 rw[hb]at h1
 have:=h.sz
 have h1:b.length<=bF S.seen:=h1
 omega
theorem Gm{l:Int}(h: -1<=l/\l<=9223372036854775807): -1<=sF l/\sF l<=9223372036854775807:=by
 unfold sF
 split<;>omega
theorem KC{n:Nat}{S:iL}{o:Ax}(h:Li (n+1) S)(hs:bF (Ez o S.seen)<=1000000000):Li n (vX S o).1:=by
 have hb:=h.bd
 have hu:=h.un
 have hz:=h.sz
 unfold vX
 split
 .exact ⟨⟨Gm hb.left,hb.seen,hb.under,hb.room⟩,hz,by show S.under.length+n<=_;omega⟩
 .refine ⟨⟨Gm hb.left,by show bF (Ez o S.seen)<=_;omega, ?_,hb.room⟩,hs, ?_⟩
  .show (S.under++[o]).length<=_;rw[Uu];simp;omega
  .show (S.under++[o]).length+n<=_;rw[Uu];simp;omega
theorem TJ{n:Nat}{S:iL}{k:ByteArray}{a:Int}{l:List UInt8}(h:Li (n+1) S):Li n (Ld S k a l).1:=by
 unfold Ld
 split
 .rename_i h0
  refine KC h ?_
  unfold Q3 at h0
  split at h0
  .omega
  split at h0
  .omega
  rename_i h1
  split at h0
  .omega
  split at h0
  .omega
  rename_i h2
  have hr:=h.bd.room
  have e:Ez ⟨0,k,⟨#[]⟩,a.toNat,l⟩ S.seen=rU k (over (sH S k) a.toNat l) S.seen:=rfl
  have hs:=Bl k (over (sH S k) a.toNat l) S.seen
  rw[sG]at hs
  rw[e]
  unfold sH at*
  generalize((bC k S.seen).getD []).length=q at*
  have:0<=a:=by
   by_cases ha:a<0
   .exact absurd (.inr ha) h1
   .omega
  omega
 .exact h.le (by omega)
theorem Tn{n:Nat}{S:iL}{k:ByteArray}(h:Li (n+1) S):Li n (Na S k).1:=by
 unfold Na
 split
 .exact h.le (by omega)
 .split
  .exact h.le (by omega)
  .refine KC h ?_
   have:=Bk k S.seen
   have hz:=h.sz
   show bF (sM k S.seen)<=_
   omega
theorem To{n:Nat}{S:iL}{k j:ByteArray}(h:Li (n+1) S):Li n (Nb S k j).1:=by
 unfold Nb
 split
 .exact h.le (by omega)
 .split
  .exact h.le (by omega)
  .split
   .exact h.le (by omega)
   .refine KC h ?_
    have hz:=h.sz
    unfold Ez
    rw[if_neg (show¬(1:Nat)=0 by decide),if_pos (show(1:Nat)=1 from rfl)]
    show bF (match bC k S.seen with|none=>S.seen|some old=>rU j old (sM k S.seen))<=_
    have h1:=Bk k S.seen
    cases hg:bC k S.seen with
    |none=>exact hz
    |some old=>
     rw[hg]at h1
     have h1:bF (sM k S.seen)+old.length=bF S.seen:=h1
     have h2:=Bl j old (sM k S.seen)
     show bF (rU j old (sM k S.seen))<=_
     omega
theorem Ts{n:Nat}{S:iL}(h:Li n S):Li n (My S).1:=by
 have hb:=h.bd
 have hu:=h.un
 unfold My
 split
 .exact h
 .split
  .exact ⟨⟨Gm hb.left,hb.seen,hb.under,hb.room⟩,h.sz,hu⟩
  .exact ⟨⟨Gm hb.left,hb.seen,by simp,hb.room⟩,h.sz,by simp;omega⟩
theorem PA{w:V2}{sz n:Nat}{v:V3}{l:List V3}(h:Cl w sz v n l)(hsz:0<sz):¬Ci v (λb=>w.heap.size<=b):=by
 obtain⟨a,c,rfl,hl,hh⟩:=h
 intro hi
 cases n with
 |zero=>unfold Ci at hi;split at hi<;>simp_all
 |succ n=>
  obtain⟨b,off,rfl,h2⟩:=hh (by omega)
  have hi:w.heap.size<=b:=hi
  have h3:=h2 0 (by rw[hl];exact Nat.mul_pos (by omega) hsz)
  have hlt:0<l.length:=by rw[hl];exact Nat.mul_pos (by omega) hsz
  rw[UG hlt]at h3
  unfold World.cell? at h3
  rw[UR hi]at h3
  cases h3
theorem fB.xd' {w:V2}{p:Nat}{X D:Nat->Prop}{S:iL}(h:fB w p X D S):∀b,X b->D b:=by
 obtain⟨_,_,_,_,_,_,_,_,_,_,_,_,h7,_⟩:=h;exact h7
def Pe(w0:V2)(N:Nat->Prop):Nat->Prop:=λy=>w0.heap.size<=y/\¬N y
def qN(w0:V2)(N:Nat->Prop)(w:V2)(p:Nat)(S:iL):Prop:=∃X D,fB w p X D S/\(∀b,X b->w0.heap.size<=b/\¬N b)/\aJ w0 w bQ/\∀b,N b->D b
theorem qN.new {w0:V2}{N:Nat->Prop}{w w':V2}{p:Nat}{S:iL}(h:qN w0 N w p S)(x:aJ w w' bQ):qN w0 N w' p S:=by
 obtain⟨X,D,h,hX,x0,hN⟩:=h
 exact⟨X,D,h.new x,hX,x0.seq x,hN⟩
theorem qN.x {w0:V2}{N:Nat->Prop}{w:V2}{p:Nat}{S:iL}(h:qN w0 N w p S):aJ w0 w bQ:=by
 obtain⟨_,_,_,_,x0,_⟩:=h;exact x0
theorem qN.lt {w0:V2}{N:Nat->Prop}{w:V2}{p:Nat}{S:iL}(h:qN w0 N w p S):∀b,N b->b<w.heap.size:=by
 obtain⟨X,D,h,hX,x0,hN⟩:=h
 exactλb hb=>fB.lt h b (hN b hb)
theorem qN.add {w0:V2}{N:Nat->Prop}{w w':V2}{p b:Nat}{S:iL}(h:qN w0 N w p S)(x:aJ w w' bQ)(hb:w.heap.size<=b)(hb':b<w'.heap.size):qN w0 (λy=>N y∨y=b) w' p S:=by
 obtain⟨X,D,h,hX,x0,hN⟩:=h
 refine⟨X,λy=>D y∨y=b,h.more x hb hb',λy hy=>⟨(hX y hy).1,λhn=>hn.elim (hX y hy).2 λe=> ?_⟩,x0.seq x,λy hy=>hy.imp (hN y) id⟩
 have:=fB.lt h y (fB.xd' h y hy)
 omega
theorem qN.post {w0:V2}{N:Nat->Prop}{w w':V2}{p:Nat}{X D:Nat->Prop}{S S':iL}(h:fB w p X D S)(hX:∀b,X b->w0.heap.size<=b/\¬N b)(x0:aJ w0 w bQ)(hN:∀b,N b->D b)(hp:vR w p X D S' w'):qN w0 N w' p S'/\aJ w w' (Pe w0 N):=by
 obtain⟨X',D',h1,h2,h3,x⟩:=hp
 have z:=x0.size
 refine⟨⟨X',D',h1,λb hb=> ?_,x0.trans x λy hy hm=>by have:=(hX y hm).1;omega,λb hb=>h3 b (hN b hb)⟩,x.mono λb _ hb=>hX b hb⟩
 rcases h2 b hb with h4|h4
 .exact hX b h4
 .exact ⟨by omega,λhn=>by have:=fB.lt h b (hN b hn);omega⟩
section
variable{Z:Nat->Prop}
structure RK(n:Nat)(S:iL)(D:tO):Prop where
 sim:xT S D
 bk:Li n S
 rb:Ot D
 len:D.sure.length+D.way.length+n<=50000
theorem RK.le {n m:Nat}{S:iL}{D:tO}(h:RK n S D)(hm:m<=n):RK m S D:=⟨h.sim,h.bk.le hm,h.rb,by have:=h.len;omega⟩
theorem RK.left {n:Nat}{S:iL}{D:tO}(h:RK n S D): -1<=D.left/\D.left<=9223372036854775807:=by
 rw[h.sim.lf];exact h.bk.bd.left
theorem Ot.like {D D':tO}(h:Ot D)(h1:D'.sure=D.sure)(h2:D'.way=D.way):Ot D':=⟨h1▸h.fs,h2▸h.ops,by rw[h1,h2];exact h.len⟩
theorem KN{D:tO}{N k:Nat}{n m:ByteArray}{a:Int}{b:List UInt8}(h:Ot D)(hl:D.sure.length+D.way.length+(N+1)<=50000)(ho:nZ D k n m a b=0->k<=2/\a.toNat+b.length<=1000000000):
 Ot (tF D k n m a b).1/\(tF D k n m a b).1.sure.length+(tF D k n m a b).1.way.length+N<=50000:=by
 obtain⟨k1,k2,_⟩:=wC D
 unfold tF
 split
 .exact ⟨h,by show D.sure.length+D.way.length+N<=50000;omega⟩
 .rename_i h0
  have h0:nZ D k n m a b=0:=Classical.not_not.1 h0
  split
  .exact ⟨h.like k1 k2,by rw[k1,k2];omega⟩
  .have hlen:((fZ D).1.sure).length+(D.way++[(⟨k,n,m,a.toNat,b⟩:Ax)]).length+N<=50000:=by rw[k1,Uu];simp;omega
   refine⟨⟨k1▸h.fs,λo hm=> ?_, ?_⟩,hlen⟩
   .rcases Vc.1 hm with hm|hm
    .exact h.ops o hm
    .rw [VD]at hm
     subst hm
     exact ho h0
   .have:((fZ D).1.sure).length+(D.way++[(⟨k,n,m,a.toNat,b⟩:Ax)]).length<=50000:=by omega
    exact this
theorem Qv{D:tO}{S:iL}(h:xT S D)(n m:ByteArray)(a:Nat)(b:List UInt8):bF (Je ⟨0,n,m,a,b⟩ (cI D))+(sH S n).length=bF S.seen+max (sH S n).length (a+b.length):=by
 have h1:=(Ku.do (o:=⟨0,n,m,a,b⟩) h.se (show(0:Nat)<=2 by omega)).both.1
 rw[<-h1]
 have e:Ez ⟨0,n,m,a,b⟩ S.seen=rU n (over (sH S n) a b) S.seen:=rfl
 rw[e]
 have hs:=Bl n (over (sH S n) a b) S.seen
 rw[sG]at hs
 exact hs
theorem RK.write {n:Nat}{S:iL}{D:tO}(h:RK (n+1) S D)(k:ByteArray)(a:Int)(l:List UInt8):RK n (Ld S k a l).1 (tF D 0 k ⟨#[]⟩ a l).1:=by
 obtain⟨h1,h2⟩:=KN (N:=n) (k:=0) (n:=k) (m:=⟨#[]⟩) (a:=a) (b:=l) h.rb (by have:=h.len;omega) (λhf=>by
  have hr:=h.bk.bd.room
  have hz:=h.bk.sz
  have hw:=Qv h.sim k ⟨#[]⟩ a.toNat l
  have hg:(sH S k).length<=bF S.seen:=xQ
  unfold nZ at hf
  rw[h.sim.rm]at hf
  split at hf
  .cases hf
  split at hf
  .cases hf
  rw[if_neg (by omega)]at hf
  split at hf
  .cases hf
  split at hf
  .cases hf
  rename_i h5
  refine⟨by omega, ?_⟩
  omega)
 exact⟨(Kp h.sim k a l).2,TJ h.bk,h1,h2⟩
theorem RK.remove {n:Nat}{S:iL}{D:tO}(h:RK (n+1) S D)(k:ByteArray):RK n (Na S k).1 (tF D 2 k ⟨#[]⟩ 0 []).1:=by
 obtain⟨h1,h2⟩:=KN (N:=n) (k:=2) (n:=k) (m:=⟨#[]⟩) (a:=0) (b:=[]) h.rb (by have:=h.len;omega) (λhf=>⟨by omega,by simp⟩)
 exact⟨(Jw h.sim k).2,Tn h.bk,h1,h2⟩
theorem RK.rename {n:Nat}{S:iL}{D:tO}(h:RK (n+1) S D)(k j:ByteArray):RK n (Nb S k j).1 (tF D 1 k j 0 []).1:=by
 obtain⟨h1,h2⟩:=KN (N:=n) (k:=1) (n:=k) (m:=j) (a:=0) (b:=[]) h.rb (by have:=h.len;omega) (λhf=>⟨by omega,by simp⟩)
 exact⟨(Jx h.sim k j).2,To h.bk,h1,h2⟩
theorem RK.sync {n:Nat}{S:iL}{D:tO}(h:RK n S D):RK n (My S).1 (wY D).1:=by
 obtain⟨k1,k2,_⟩:=wC D
 have hl:=h.len
 refine⟨(Mj h.sim).2,Ts h.bk, ?_, ?_⟩
 .unfold wY
  split
  .exact h.rb
  split
  .exact h.rb.like k1 k2
  .obtain ⟨f1,f2⟩:=DN D.way h.rb.fs h.rb.ops
   exact⟨f1,λo ho=>(nomatch ho),by show(cI D).length+0<=50000;unfold cI;omega⟩
 .unfold wY
  split
  .exact hl
  split
  .rw [k1,k2];exact hl
  .obtain ⟨f1,f2⟩:=DN D.way h.rb.fs h.rb.ops
   show(cI D).length+0+n<=50000
   unfold cI;omega
def BH(Z:Nat->Prop)(n:Nat)(w:V2)(S:iL)(dv:V3):Prop:=∃D sv wv,dv= .agg (sO D sv wv).toArray/\BE Z w D sv wv/\RK n S D
theorem BH.new {n:Nat}{w w':V2}{S:iL}{dv:V3}(h:BH Z n w S dv)(x:aJ w w' bQ):BH Z n w' S dv:=by
 obtain⟨D,sv,wv,h1,h2,h3⟩:=h
 exact⟨D,sv,wv,h1,h2.new x,h3⟩
theorem BH.le {n m:Nat}{w:V2}{S:iL}{dv:V3}(h:BH Z n w S dv)(hm:m<=n):BH Z m w S dv:=by
 obtain⟨D,sv,wv,h1,h2,h3⟩:=h
 exact⟨D,sv,wv,h1,h2,h3.le hm⟩
def Q0:List V3->Bool
 |a::b::r=> !(Al a&&Al b)&&Q0 (b::r)
 |_=>true
theorem Qh:∀{cs:List V3} {i:Nat} {x y:V3},Q0 cs=true->cs[i]?=some x->cs[i+1]?=some y->Al x=true->Al y=true->False
 |a::b::r,0,x,y,h,h1,h2,hx,hy=>by
  simp only[Uv,Ux,VF]at h1 h2
  subst h1;subst h2
  rw[Q0,hx,hy]at h
  cases h
 |a::b::r,i+1,x,y,h,h1,h2,hx,hy=>by
  rw[Q0,Uz]at h
  exact Qh (i:=i) h.2 (by simpa using h1) (by simpa using h2) hx hy
 |[a],i,x,y,h,h1,h2,hx,hy=>by simp at h2
 |[],i,x,y,h,h1,h2,hx,hy=>by simp at h2
theorem DR:∀{cs:List V3},(∀c∈cs,Al c=false)->Q0 cs=true
 |a::b::r,h=>by
  rw[Q0,h a (by simp),Bool.false_and,VG,Bool.true_and]
  exact DR λc hc=>h c (by simp[hc])
 |[a],h=>rfl
 |[],h=>rfl
theorem PB{w:V2}{sz n o:Nat}{v:V3}{l:List V3}{b:Nat}{cs:List V3}(h:Cl w sz v n l)(oo:bD w b cs)(hn:Q0 cs=true)(ho:o+1<sz)(hs:∀i,i<n->∃x y,l[i*sz+o]?=some x/\l[i*sz+(o+1)]?=some y/\Al x=true/\Al y=true):¬Ci v (λy=>y=b):=by
 intro hi
 obtain⟨a,c,rfl,hl,hh⟩:=h
 unfold Ci at hi
 split at hi
 .rename_i e
  simp only[Value.slice.injEq]at e
  obtain⟨rfl,e2,rfl⟩:=e
  obtain⟨b',off,he,h2⟩:=hh (by omega)
  cases he
  have hi:b'=b:=hi
  subst hi
  obtain⟨x,y,h3,h4,hx,hy⟩:=hs 0 (by omega)
  rw[V1,Uw]at h3 h4
  have hsz:sz<=l.length:=by rw[hl,e2];exact Nat.le_mul_of_pos_left _ (by omega)
  have g3:=h2 o (by omega)
  have g4:=h2 (o+1) (by omega)
  rw[oo.cell,h3]at g3
  rw[oo.cell,h4]at g4
  exact Qh (i:=off+o) hn g3 (by rw[Vi];exact g4) hx hy
 .exact hi
theorem MS{v:V3}{M:Nat->Prop}(h:Ci v M):∃b,M b/\Ci v (λy=>y=b):=by
 unfold Ci at h
 split at h
 .exact ⟨_,h,rfl⟩
 .exact h.elim
theorem BE.keep {w w':V2}{D:tO}{sv wv:V3}{M:Nat->Prop}(h:BE Z w D sv wv)(x:aJ w w' M)(hM:∀b,M b->(∃cs,bD w b cs/\Q0 cs=true)∨w.heap.size<=b):BE Z w' D sv wv:=by
 refine⟨⟨HC h.sure.1 x λhi=> ?_,h.sure.2.1,λb hb=>UQ (h.sure.2.2 b hb) x.size⟩,HC h.way x λhi=> ?_,h.wz⟩
 .obtain ⟨b,hb,hi⟩:=MS hi
  rcases hM b hb with⟨cs,o,hn⟩|hn
  .refine PB (o:=0) h.sure.1 o hn (by omega) (λi hi=> ?_) hi
   obtain⟨h3,h4⟩:=KP hi
   exact⟨_,_,h3,h4,rfl,rfl⟩
  .exact PA h.sure.1 (by omega) (kK hi λy hy=>by rw[hy];exact hn)
 .obtain ⟨b,hb,hi⟩:=MS hi
  rcases hM b hb with⟨cs,o,hn⟩|hn
  .refine PB (o:=1) h.way o hn (by omega) (λi hi=> ?_) hi
   exact⟨_,_,Iy hi (by omega),Iy hi (by omega),rfl,rfl⟩
  .exact PA h.way (by omega) (kK hi λy hy=>by rw[hy];exact hn)
theorem BH.keep {n:Nat}{w w':V2}{S:iL}{dv:V3}{M:Nat->Prop}(h:BH Z n w S dv)(x:aJ w w' M)(hM:∀b,M b->(∃cs,bD w b cs/\Q0 cs=true)∨w.heap.size<=b):BH Z n w' S dv:=by
 obtain⟨D,sv,wv,h1,h2,h3⟩:=h
 exact⟨D,sv,wv,h1,h2.keep x hM,h3⟩
theorem BH.cs {n:Nat}{w:V2}{S:iL}{dv:V3}(h:BH Z n w S dv):∃cs:List V3,dv= .agg cs.toArray/\cs.length=5/\(Value.agg cs.toArray).cells.toList=cs/\(∀x∈cs,one x=true)/\∀x∈cs,Al x=false:=by
 obtain⟨D,sv,wv,h1,h2,h3⟩:=h
 exact⟨_,h1,rfl,uI h2,xK h2,uJ h2⟩
theorem OW{N:Nat}{S:iL}{dv:V3}{k:ByteArray}{a:Int}{l:List UInt8}{w:V2}(h:BH Z (N+1) w S dv)(hl:l.length<=1000000000):
 aH pg lJ #[dv,.agg (Mx 0 k ⟨#[]⟩ a l).toArray] w (λr w'=>∃dv',r= .tuple #[dv',.int .i64 (Ld S k a l).2]/\BH Z N w' (Ld S k a l).1 dv'/\aJ w w' bQ):=by
 obtain⟨D,sv,wv,rfl,h2,h3⟩:=h
 have hz:=h3.bk.sz
 refine(M6 h2 h3.rb (by omega) (λh=>absurd rfl h) hl h3.left (λ_ h0 ha=> ?_)).mono ?_
 .have hw:=Qv h3.sim k ⟨#[]⟩ a.toNat l
  have hg:(sH S k).length<=bF S.seen:=xQ
  have he:((bC k (cI D)).getD []).length=(sH S k).length:=by unfold sH;rw[h3.sim.se.eq]
  omega
 .rintro r w' ⟨sv',wv',rfl,hv,x⟩
  rw[(Kp h3.sim k a l).1]
  exact⟨_,rfl,⟨_,_,_,rfl,hv,h3.write k a l⟩,x⟩
theorem Nd{N:Nat}{S:iL}{dv:V3}{k:ByteArray}{w:V2}(h:BH Z (N+1) w S dv):
 aH pg lJ #[dv,.agg (Mx 2 k ⟨#[]⟩ 0 []).toArray] w (λr w'=>∃dv',r= .tuple #[dv',.int .i64 (Na S k).2]/\BH Z N w' (Na S k).1 dv'/\aJ w w' bQ):=by
 obtain⟨D,sv,wv,rfl,h2,h3⟩:=h
 refine(M6 h2 h3.rb (by omega) (λ_=>rfl) (by simp) h3.left (λh=>absurd h (by decide))).mono ?_
 rintro r w' ⟨sv',wv',rfl,hv,x⟩
 rw[(Jw h3.sim k).1]
 exact⟨_,rfl,⟨_,_,_,rfl,hv,h3.remove k⟩,x⟩
theorem Nf{N:Nat}{S:iL}{dv:V3}{k j:ByteArray}{w:V2}(h:BH Z (N+1) w S dv):
 aH pg lJ #[dv,.agg (Mx 1 k j 0 []).toArray] w (λr w'=>∃dv',r= .tuple #[dv',.int .i64 (Nb S k j).2]/\BH Z N w' (Nb S k j).1 dv'/\aJ w w' bQ):=by
 obtain⟨D,sv,wv,rfl,h2,h3⟩:=h
 refine(M6 h2 h3.rb (by omega) (λ_=>rfl) (by simp) h3.left (λh=>absurd h (by decide))).mono ?_
 rintro r w' ⟨sv',wv',rfl,hv,x⟩
 rw[(Jx h3.sim k j).1]
 exact⟨_,rfl,⟨_,_,_,rfl,hv,h3.rename k j⟩,x⟩
theorem Qz{N:Nat}{S:iL}{dv:V3}{w:V2}(h:BH Z N w S dv):
 aH pg sX #[dv] w (λr w'=>∃dv',r= .tuple #[dv',.int .i64 (My S).2]/\BH Z N w' (My S).1 dv'/\aJ w w' bQ):=by
 obtain⟨D,sv,wv,rfl,h2,h3⟩:=h
 refine(RI h2 h3.rb h3.left).mono ?_
 rintro r w' ⟨sv',wv',rfl,hv,x⟩
 rw[(Mj h3.sim).1]
 exact⟨_,rfl,⟨_,_,_,rfl,hv,h3.sync⟩,x⟩
theorem Ni(xs cs:List V3)(h:cs.length=xs.length):mW cs 0 xs=xs:=by
 have:=vO xs [] cs (by omega)
 rw[U2,List.drop_of_length_le (by omega),VA,U2]at this
 exact this
theorem uH{w:V2}{b:Nat}{cs:List V3}(o:bD w b cs)(h:cs.length=5):(aD 41 (.pointer (some ⟨b,0,none⟩))).run pg w= .ok (.value (.agg cs.toArray)) w:=by
 have:=cB (off:=0) o (by omega)
 rwa [List.drop_zero,UZ (by omega)]at this
theorem uY{w:V2}{b:Nat}{cs xs:List V3}{K:V3->V2->Prop}(o:bD w b cs)(h:cs.length=5)(hx:xs.length=5)(v:∀x∈xs,one x=true)(hk:∀w',bD w' b xs->aJ w w' (λx=>x=b)->w'.heap.size=w.heap.size->K undef w'):aB pg (aO 41 (.pointer (some ⟨b,0,none⟩)) (.agg xs.toArray)) w K:=by
 refine iN o (by simpa using hx) (by simpa using v) (by omega) λw' o' x' s'=> ?_
 rw[List.toList_toArray,Ni _ _ (by omega)]at o'
 exact hk w' o' x' s'
theorem RH{N:Nat}{room:Int}{w:V2}(h0:0<=room)(h1:room<=16777216)(hN:N<=50000)(hZ:∀b,Z b->b<w.heap.size):
 aH pg vP #[.int .i64 room] w (λr w'=>∃dv,r= .tuple #[dv,.int .i64 0]/\BH Z N w' (LX room) dv/\aJ w w' bQ):=by
 refine DB ?_
 unfold Hk BY
 refine bX λw1 o1 x1 s1=> ?_
 have d1:decide (room<0)=false:=decide_eq_false (by omega)
 have d2:decide ((16777216:Int)<room)=false:=decide_eq_false (by omega)
 simp(disch:=omega)only[seval,d1,d2]
 refine uY (xs:=[.int .i64 room,.slice none 0 0,.slice none 0 0,.int .i64 (-1),.bool false]) o1 rfl rfl (by intro x hx;simp only[UD,U3,or_false]at hx;rcases hx with rfl|rfl|rfl|rfl|rfl<;>rfl) λw2 o2 x2 s2=> ?_
 refine iM o2 (by simp) ?_
 have x02:aJ w w2 bQ:=x1.trans x2 λy hy h=>by omega
 refine⟨_,rfl,⟨⟨room,[],[],-1,false⟩,.slice none 0 0,.slice none 0 0,rfl,⟨⟨⟨none,0,rfl,rfl,λh=>absurd h (Nat.lt_irrefl 0)⟩,λh=>h,λb hb=>UQ (hZ b hb) x02.size⟩,⟨none,0,rfl,rfl,λh=>absurd h (Nat.lt_irrefl 0)⟩,λh=>h⟩, ?_⟩,x02⟩
 refine⟨RL room,⟨⟨by show-1<=(-1:Int)/\(-1:Int)<=9223372036854775807;decide,by show 0<=1099511627776;decide,by show 0<=1000000;decide,⟨h0,h1⟩⟩,by show 0<=1000000000;decide,by show 0+N<=1000000;omega⟩,⟨λn b h=>(nomatch h),λo ho=>(nomatch ho),by show 0+0<=50000;decide⟩,by show 0+0+N<=50000;omega⟩
theorem OV{N:Nat}{S:iL}{dv kv:V3}{ks:List Bool}{w:V2}(h:BH Z N w S dv)(hk:Sl w kv (ks.map Value.bool))(hkl:ks.length<=9223372036854775807)(hs:bF (Sc S ks).seen<=1000000000):
 aH pg qO #[dv,kv] w (λr w'=>BH Z N w' (Sc S ks) r/\aJ w w' bQ):=by
 obtain⟨D,sv,wv,rfl,h2,h3⟩:=h
 refine(Qs h2 h3.rb hk hkl).mono ?_
 rintro r w' ⟨sv',wv',rfl,hv,x⟩
 refine⟨⟨_,_,_,rfl,hv, ?_⟩,x⟩
 obtain⟨hfb,hfl⟩:=M7 (ks:=ks) h3.rb.fs h3.rb.ops D.way.length
 have hl:=h3.len
 have hr:=h3.bk.bd.room
 have hu:=h3.bk.un
 refine⟨OY h3.sim ks,⟨⟨by show-1<=(-1:Int)/\(-1:Int)<=9223372036854775807;decide,by omega,by show 0<=1000000;decide,hr⟩,hs,by show 0+N<=1000000;omega⟩,⟨hfb,λo ho=>(nomatch ho), ?_⟩, ?_⟩
 .show (Eo D.way ks D.sure D.way.length).length+0<=50000;omega
 .show (Eo D.way ks D.sure D.way.length).length+0+N<=50000;omega
end
theorem OF{w w':V2}{p:Nat}{X D:Nat->Prop}{S:iL}(h:fB w p X D S)(x:aJ w w' bQ):fB w' p X (λb=>D b∨(w.heap.size<=b/\b<w'.heap.size)) S:=by
 obtain⟨ms,mn,sv,ls,ln,cs,h1,h2,h3,h4,h5,h6,h7,h7',h8,h9,h10,h11,h12,h13,h14⟩:=h
 have hd:∀v b,tW w D v b->tW w' (λb=>D b∨(w.heap.size<=b/\b<w'.heap.size)) v b:=λv b hd=>(hd.sub (Y:=λb=>D b∨(w.heap.size<=b/\b<w'.heap.size)) λb h=>by
  rcases h with h|h
  .exact .inl h
  .exact .inr h.1).ext x λ_ h=>h.elim
 have z:=x.size
 exact⟨ms,mn,sv,ls,ln,cs,h1,h2,h3,h4,h5,h6,λb h=> .inl (h7 b h),λb hb=>by
  rcases hb with hb|hb
  .have:=h7' b hb;omega
  .exact hb.2,h8.ext x (λh=>h),h9.ext x (λh=>h),h10.ext x (λh=>h),h11.map hd,h12.map hd,h13.ext x (λb _ h=>h),h14.map hd⟩
def NR(N:Nat->Prop)(w w':V2):Nat->Prop:=λy=>N y∨(w.heap.size<=y/\y<w'.heap.size)
theorem qN.addR {w0:V2}{N:Nat->Prop}{w w':V2}{p:Nat}{S:iL}(h:qN w0 N w p S)(x:aJ w w' bQ):qN w0 (NR N w w') w' p S:=by
 obtain⟨X,D,h,hX,x0,hN⟩:=h
 refine⟨X,_,OF h x,λy hy=>⟨(hX y hy).1,λhn=> ?_⟩,x0.seq x,λy hy=>hy.imp (hN y) id⟩
 rcases hn with hn|hn
 .exact (hX y hy).2 hn
 .have:=fB.lt h y (fB.xd' h y hy)
  omega
def NB(w0 w:V2)(N:Nat->Prop):Nat->Prop:=λy=>w0.heap.size<=y/\y<w.heap.size/\¬N y
theorem Is{w:V2}{sz n:Nat}{v:V3}{l:List V3}{Z M:Nat->Prop}(hcl:Cl w sz v n l)(hsz:0<sz)(hz:¬Ci v Z)(hM:∀b,M b->Z b∨w.heap.size<=b):¬Ci v M:=λhi=>by
 obtain⟨b,hb,hi⟩:=MS hi
 rcases hM b hb with h|h
 .exact hz (kK hi λy hy=>hy▸h)
 .exact PA hcl hsz (kK hi λy hy=>by rw[hy];exact h)
theorem BH.prog {w0 w w':V2}{N:Nat->Prop}{n:Nat}{S:iL}{dv:V3}(h:BH (NB w0 w N) n w S dv)(x:aJ w w' (Pe w0 N)):BH (NB w0 w' N) n w' S dv:=by
 obtain⟨D,sv,wv,h1,h2,h3⟩:=h
 have hM:∀b,Pe w0 N b->NB w0 w N b∨w.heap.size<=b:=λb hb=>by
  by_cases hlt:b<w.heap.size
  .exact .inl ⟨hb.1,hlt,hb.2⟩
  .exact .inr (by omega)
 have hZ:∀b,NB w0 w' N b->NB w0 w N b∨w.heap.size<=b:=λb hb=>hM b ⟨hb.1,hb.2.2⟩
 exact⟨D,sv,wv,h1,⟨⟨HC h2.sure.1 x (Is h2.sure.1 (by omega) h2.sure.2.1 hM),Is h2.sure.1 (by omega) h2.sure.2.1 hZ,λb hb=>hb.2.1⟩,HC h2.way x (Is h2.way (by omega) h2.wz hM),Is h2.way (by omega) h2.wz hZ⟩,h3⟩
theorem BH.model {w0 w w':V2}{N:Nat->Prop}{n:Nat}{S:iL}{dv:V3}(h:BH (NB w0 w N) n w' S dv)(hs:w.heap.size<=w'.heap.size):BH (NB w0 w' (NR N w w')) n w' S dv:=by
 obtain⟨D,sv,wv,h1,h2,h3⟩:=h
 have hZ:∀b,NB w0 w' (NR N w w') b->NB w0 w N b:=λb hb=>⟨hb.1,by
  by_cases hlt:b<w.heap.size
  .exact hlt
  .exact absurd (.inr ⟨by omega,hb.2.1⟩) hb.2.2,λhn=>hb.2.2 (.inl hn)⟩
 exact⟨D,sv,wv,h1,⟨⟨h2.sure.1,λhi=>h2.sure.2.1 (kK hi hZ),λb hb=>hb.2.1⟩,h2.way,λhi=>h2.wz (kK hi hZ)⟩,h3⟩
theorem GV{xs:List V3}:(Value.agg xs.toArray).cells.toList=xs:=by
 simp[Value.cells]
theorem Mc{S:iL}{D:tO}(h:xT S D){L:List ByteArray}(hp:L.Perm (S.seen.map (·.1)))(hs:IE L):L=(cI D).map (·.1):=by
 have hst:IE ((cI D).map (·.1)):=by
  unfold IE
  rw[List.pairwise_map]
  exact h.se.st
 refine Mk hs hst λx=> ?_
 rw[hp.mem_iff]
 have key:∀{l:aX} {n:ByteArray},n∈l.map (·.1)↔bC n l≠none:=by
  intro l n
  induction l with
  |nil=>simp[bC]
  |cons a r ih=>
   rw[UB,UD]
   simp only[bC]
   by_cases hq:n=a.1
   .subst hq;simp
   .have hq':¬a.1=n:=λe=>hq e.symm
    simp[hq,hq',ih]
 rw[key,key,h.se.eq]
theorem Rm{l:aX}(h:(l.map (·.1)).Nodup){i:Nat}(hi:i<l.length):bC l[i].1 l=some l[i].2:=by
 induction l generalizing i with
 |nil=>simp at hi
 |cons a r ih=>
  rw[UB,Vv]at h
  cases i with
  |zero=>simp[bC]
  |succ i=>
   have hi':i<r.length:=by simpa using hi
   have hm:r[i].1∈r.map (·.1):=U1.2 ⟨_,Vz hi',rfl⟩
   have hne:¬a.1=r[i].1:=λe=>h.1 (e▸hm)
   have hne':¬r[i].1=a.1:=λe=>hne e.symm
   show bC r[i].1 (a::r)=some r[i].2
   simp only[bC]
   rw[<-ih h.2 hi']
   simp[hne,hne']
theorem IV{l:aX}{n:ByteArray}{b:List UInt8}(h:bC n l=some b):(n,b)∈l:=by
 induction l with
 |nil=>simp[bC]at h
 |cons a r ih=>
  simp only[bC]at h
  split at h
  .rename_i e
   have e':a.1=n∨n=a.1:=by first|exact .inl (by simpa using e)|exact .inr (by simpa using e)
   have e':a.1=n:=by rcases e' with e|e;exact e;exact e.symm
   injection h with h
   subst h;subst e'
   exact UP
  .exact UC _ (ih h)
theorem IY{k:ByteArray}{b:List UInt8}:∀{l:aX} {q:ByteArray×List UInt8},q∈rU k b l->q=(k,b)∨q∈l
 |[],q,h=>by simp[rU]at h;exact .inl h
 |a::r,q,h=>by
  simp only[rU]at h
  split at h
  .rcases UD.1 h with h|h
   .rename_i e
    exact .inl (by rw[h])
   .exact .inr (UC _ h)
  .rcases UD.1 h with h|h
   .exact .inr (h▸UP)
   .rcases IY h with h|h
    .exact .inl h
    .exact .inr (UC _ h)
theorem IT{k:ByteArray}:∀{l:aX} {q:ByteArray×List UInt8},q∈sM k l->q∈l
 |[],q,h=>by simp[sM]at h
 |a::r,q,h=>by
  simp only[sM]at h
  split at h
  .exact UC _ h
  .rcases UD.1 h with h|h
   .exact h▸UP
   .exact UC _ (IT h)
theorem R8 (x:Int)(m:Nat)(hm:m<=1000):∃j:Nat,j<=m/\MC .i64 x (m:Int)=(j:Int):=by
 unfold MC
 have h1:(BitVec.ofInt IntKind.i64.bits x&&&BitVec.ofInt IntKind.i64.bits (m:Int)).toNat<=m:=by
  rw[BitVec.toNat_and]
  refine Vm Nat.and_le_right ?_
  rw[BitVec.ofInt_natCast,BitVec.toNat_ofNat]
  exact Nat.mod_le _ _
 exact⟨_,h1,Cp (by omega) (by omega)⟩
end Go.Proofs.Ytmhokapokchneaa
namespace Go.Proofs.Ytmhokapokchneaa
open Go Go.En Go.Pu
def FM(l:aX):Prop:=∀q∈l,q.2.length<=16777216
def OM(o:Ax):Prop:=o.kind=0->o.at'+o.bytes.length<=16777216
theorem IX{k:ByteArray}{b:List UInt8}:∀l:aX,(rU k b l).length<=l.length+1
 |[]=>by simp[rU]
 |a::r=>by
  simp only[rU]
  split
  .simp
  .have:=IX (k:=k) (b:=b) r
   simp only[UL];omega
theorem LG{k:ByteArray}(l:aX):(sM k l).length<=l.length:=(IU l).length_le
theorem PM{o:Ax}{l:aX}(h:FM l)(ho:OM o):FM (Ez o l):=by
 have hlen:∀n,((bC n l).getD []).length<=16777216:=λn=>by
  cases hg:bC n l with
  |none=>simp
  |some b=>exact h _ (IV hg)
 unfold Ez
 split
 .rename_i h0
  have h1:=ho h0
  intro q hq
  rcases IY hq with rfl|hq
  .show (over _ _ _).length<=_
   rw[sG]
   have:=hlen o.name
   omega
  .exact h q hq
 .split
  .split
   .exact h
   .rename_i b hg
    intro q hq
    rcases IY hq with rfl|hq
    .exact h (o.name,b) (IV hg)
    .exact h q (IT hq)
  .split
   .exact λq hq=>h q (IT hq)
   .exact h
theorem NM{o:Ax}{l:aX}:(Ez o l).length<=l.length+1:=by
 unfold Ez
 split
 .exact IX l
 .split
  .split
   .omega
   .exact Vm (IX _) (by have:=LG (k:=o.name) l;omega)
  .split
   .have:=LG (k:=o.name) l;omega
   .omega
theorem NP{l:aX}(h:FM l):bF l<=l.length*16777216:=by
 induction l with
 |nil=>simp[bF]
 |cons a r ih=>
  have:=ih λq hq=>h q (UC _ hq)
  have h0:=h a UP
  simp only[bF,UL,UB,Vy]at*
  omega
structure ID(k:Nat)(S:iL):Prop where
 se:FM S.seen
 su:FM S.sure
 un:∀o∈S.under,OM o
 rm:0<=S.room/\S.room<=16777216
 l1:S.sure.length+S.under.length<=k
 l2:S.seen.length<=k
theorem ID.le {k m:Nat}{S:iL}(h:ID k S)(hm:k<=m):ID m S:=⟨h.se,h.su,h.un,h.rm,Vm h.l1 hm,Vm h.l2 hm⟩
theorem ID.size {k:Nat}{S:iL}(h:ID k S)(hk:k<=30):bF S.seen<=1000000000:=by
 have h1:=NP h.se
 have h2:=h.l2
 have:S.seen.length*16777216<=30*16777216:=VI _ (by omega)
 omega
theorem Ry{r:Int}(h:0<=r/\r<=16777216):ID 0 (LX r):=⟨λq hq=>(nomatch hq),λq hq=>(nomatch hq),λo ho=>(nomatch ho),h,UF _,UF _⟩
theorem I9 {k:Nat}{S:iL}{o:Ax}(h:ID k S)(ho:OM o):ID (k+1) (vX S o).1:=by
 have h1:=h.l1
 have h2:=h.l2
 unfold vX
 split
 .exact ⟨h.se,h.su,h.un,h.rm,by show S.sure.length+S.under.length<=k+1;omega,by show S.seen.length<=k+1;omega⟩
 .refine ⟨PM h.se ho,h.su,λx hx=> ?_,h.rm, ?_, ?_⟩
  .rcases Vc.1 hx with hx|hx
   .exact h.un x hx
   .rw [VD]at hx;exact hx▸ho
  .show S.sure.length+(S.under++[o]).length<=k+1
   rw[Uu];simp;omega
  .show (Ez o S.seen).length<=k+1
   have:=NM (o:=o) (l:=S.seen)
   omega
theorem St{k:Nat}{S:iL}{n:ByteArray}{a:Int}{l:List UInt8}(h:ID k S):ID (k+1) (Ld S n a l).1:=by
 unfold Ld
 split
 .rename_i h0
  refine I9 h λ_=> ?_
  show a.toNat+l.length<=16777216
  have hr:=h.rm
  have hg:(sH S n).length<=bF S.seen:=xQ
  have hlen:(sH S n).length<=16777216:=by
   unfold sH
   cases hg:bC n S.seen with
   |none=>simp
   |some b=>exact h.se _ (IV hg)
  unfold Q3 at h0
  split at h0
  .cases h0
  split at h0
  .cases h0
  split at h0
  .cases h0
  split at h0
  .cases h0
  omega
 .exact h.le (by omega)
theorem Sq{k:Nat}{S:iL}{n:ByteArray}(h:ID k S):ID (k+1) (Na S n).1:=by
 unfold Na
 split
 .exact h.le (by omega)
 .split
  .exact h.le (by omega)
  .exact I9 h λh1=>by cases h1
theorem Sr{k:Nat}{S:iL}{n j:ByteArray}(h:ID k S):ID (k+1) (Nb S n j).1:=by
 unfold Nb
 split
 .exact h.le (by omega)
 .split
  .exact h.le (by omega)
  .split
   .exact h.le (by omega)
   .exact I9 h λh1=>by cases h1
theorem Ss{k:Nat}{S:iL}(h:ID k S):ID (k+1) (My S).1:=by
 have h1:=h.l1
 have h2:=h.l2
 unfold My
 split
 .exact h.le (by omega)
 .split
  .exact ⟨h.se,h.su,h.un,h.rm,by show S.sure.length+S.under.length<=k+1;omega,by show S.seen.length<=k+1;omega⟩
  .exact ⟨h.se,h.se,λo ho=>(nomatch ho),h.rm,by show S.seen.length+0<=k+1;omega,by show S.seen.length<=k+1;omega⟩
theorem KJ{os:List Ax}{ks:List Bool}{c:aX}(h:FM c)(ho:∀o∈os,OM o):∀i,FM (HD os ks c i)/\(HD os ks c i).length<=c.length+i
 |0=>⟨h,UF _⟩
 |i+1=>by
  obtain⟨ih,il⟩:=KJ (ks:=ks) h ho i
  rw[HD]
  split
  .rename_i o h1 h2
   have:=NM (o:=o) (l:=HD os ks c i)
   exact⟨PM ih (ho o (Vu h1)),by omega⟩
  .exact ⟨ih,by omega⟩
theorem PE{k:Nat}{S:iL}{ks:List Bool}(h:ID k S)(hk:k<=30){i:Nat}(hi:i<=S.under.length):bF (HD S.under ks S.sure i)<=1000000000:=by
 obtain⟨h1,h2⟩:=KJ (ks:=ks) h.su h.un i
 have h3:=NP h1
 have h4:=h.l1
 have:(HD S.under ks S.sure i).length*16777216<=30*16777216:=VI _ (by omega)
 omega
theorem Qn{k:Nat}{S:iL}{ks:List Bool}(h:ID k S):ID (k+1) (Sc S ks):=by
 obtain⟨h1,h2⟩:=KJ (ks:=ks) h.su h.un S.under.length
 have h4:=h.l1
 refine⟨h1,h1,λo ho=>(nomatch ho),h.rm, ?_, ?_⟩
 .show (HD S.under ks S.sure S.under.length).length+0<=k+1;omega
 .show (HD S.under ks S.sure S.under.length).length<=k+1;omega
theorem Qo{k:Nat}{S:iL}{a:Int}(h:ID k S):ID k {S with left:=a}:=⟨h.se,h.su,h.un,h.rm,h.l1,h.l2⟩
end Go.Proofs.Ytmhokapokchneaa
namespace Go.Proofs.Ytmhokapokchneaa
open Go Go.En Go.Pu
set_option maxRecDepth 4000
theorem Sk{w:V2}{Z X Dd:Nat->Prop}{n p:Nat}{S:iL}{dv:V3}(hdk:fB w p X Dd S)(hR:BH Z n w S dv)(hlen:S.seen.length<=49):
 aH pg xA #[dP p,dv] w (λr w'=>r= .bool true/\aJ w w' bQ):=by
 refine H7 ?_
 obtain⟨RR,hRR⟩:∃RR:V3->V2->Prop,RR=λr w'=>r= .bool true/\aJ w w' bQ:=⟨_,rfl⟩
 rw[<-hRR]
 obtain⟨D,sv,wv,rfl,hV,hK⟩:=hR
 unfold I2 ED EC
 refine jY λw1 o1 x1 s1=> ?_
 rw[GV]at o1
 obtain⟨pb,hpb⟩:∃pb,pb=w.heap.size:=⟨_,rfl⟩
 rw[<-hpb]at o1⊢
 simp(disch:=omega)only[seval]
 refine(PJ (hdk.new x1) hK.sim.se.nd hlen).mono ?_
 rintro nv w2 ⟨⟨L,hLp,hLs,hLv⟩,x2⟩
 have hL:=Mc hK.sim hLp hLs
 have o2:=o1.ext x2 (λh=>h)
 have x02:=x1.seq x2
 have lw2:=uH o2 rfl
 simp(disch:=omega)only[seval,lw2]
 refine(DW (hV.new x02) hK.rb).mono ?_
 rintro fv w3 ⟨hf,x3⟩
 have x03:=x02.seq x3
 have o3:=o2.ext x3 (λh=>h)
 have hLv3:=hLv.ext x3 (jV _)
 obtain⟨fa,fc,hfv⟩:=hf.len
 obtain⟨na,nc,hnv,hnc⟩:=hLv3.len
 rw[UA]at hnv
 have hl:L.length=(cI D).length:=by rw[hL,UA]
 obtain⟨wa,wc,hwv,_⟩:=hV.way
 subst hfv hnv
 have hL49:L.length<=49:=by rw[hl,<-hK.sim.se.both.2];exact hlen
 have k1:(((L.length:Nat):Int) !=(((cI D).length:Nat):Int))=false:=by rw[hl];simp
 have xd:=x03.seq (aJ.dr w3 bQ)
 have cw:∀{W},aJ w3 W bQ->W.cell? ⟨pb,2,none⟩=some wv:=λ{W} x=>(o3.ext x (λh=>h)).cell (off:=2)
 have c4:=cw (aJ.dr w3 bQ)
 rw[hwv]at c4
 simp(disch:=omega)only[seval,k1]
 refine(Kh (hdk.new xd)).mono ?_
 rintro r w4 ⟨rfl,hw4⟩
 rw[hw4];clear hw4 w4
 have k2:(((S.under.length:Nat):Int) !=((D.way.length:Nat):Int))=false:=by rw[hK.sim.wy];simp
 simp(disch:=omega)only[seval,c4,k2,Uw]
 unfold AJ AI EB vC
 have hnd:((cI D).map (·.1)).Nodup:=hK.sim.se.st.nodup
 refine bG.rule (λq (t:V3) W=>∃i:Nat,q=L.length-i/\i<=L.length/\t= .int .i64 (i:Nat)/\aJ w3 W bQ) L.length ⟨0,rfl,by omega,rfl,aJ.dr w3 bQ⟩ ?_
 rintro q t W ⟨i,rfl,hi,rfl,xW⟩
 have x0W:=x03.seq xW
 have oW:=o3.ext xW (λh=>h)
 unfold AH
 by_cases hlt:i<L.length
 rotate_left
 .have d1:decide ((i:Int)<(L.length:Int))=false:=by simp;omega
  unfold AG
  simp(disch:=omega)only[seval,d1]
  rw[hRR]
  exact⟨rfl,x0W⟩
 have d1:decide ((i:Int)<(L.length:Int))=true:=by simp;omega
 have hin:(i:Int).toNat=i:=UJ _
 have hir:i<(cI D).length:=by omega
 have hnm:L[i]=(cI D)[i].1:=by simp only[hL,List.getElem_map]
 obtain⟨nb,noff,hna,hncell⟩:∃nb noff,na=some ⟨nb,noff,none⟩/\∀W',aJ w3 W' bQ->W'.cell? ⟨nb,noff+i,none⟩=some (.string (cI D)[i].1):=by
  obtain⟨a',n',c',he',hn',hc',hh⟩:=hLv3
  simp only[Value.slice.injEq]at he'
  obtain⟨rfl,rfl,rfl⟩:=he'
  obtain⟨nb,noff,rfl,h2⟩:=hh (by omega)
  refine⟨nb,noff,rfl,λW' x'=> ?_⟩
  have h3:=h2 i (by omega)
  rw[U9,UG hlt]at h3
  have h3:w3.cell? ⟨nb,noff+i,none⟩=some (.string L[i]):=h3
  rw[GZ h3 x' (λh=>h),hnm]
 subst hna
 have n1:=hncell _ xW
 simp(disch:=omega)only[seval,d1,hin,n1]
 refine(Ir (hdk.new x0W) hK.bk.bd (λb hb=>hK.bk.file hb)).mono ?_
 rintro r W2 ⟨hr,x2W⟩
 have xW2:=xW.seq x2W
 have hgg:bC (cI D)[i].1 S.seen=some (cI D)[i].2:=by rw[hK.sim.se.eq,Rm hnd hir]
 have xWd:=xW2.seq (aJ.dr W2 bQ)
 have n2:=hncell _ xWd
 obtain⟨fb,foff,fc',hfe,hf1,hf2⟩:=(hf.new xWd).at hir
 simp only[Value.slice.injEq]at hfe
 obtain⟨rfl,-,rfl⟩:=hfe
 have c6:(dr W2).cell? ⟨pb,4,none⟩=some (.bool D.down):=(o3.ext xWd (λh=>h)).cell (off:=4)
 have s1:((cI D)[i].1.toList==(cI D)[i].1.toList)=true:=by simp
 have q1:(i:Int)+1=((i+1:Nat):Int):=by omega
 rcases hr with⟨h1,rfl⟩|⟨_,h2,_⟩|⟨h0,b,v,h2,rfl,hv⟩
 .rw [hK.sim.dn,h1]at c6
  have z0:((20:Int) !=20)=false:=rfl
  have u1:∀c,bB undef c=false:=λc=>by cases c<;>rfl
  simp(disch:=omega)only[seval,hin,n2,hf1,Jd,s1,c6,z0,q1,u1]
  first
   |exact⟨L.length-(i+1),by omega,i+1,rfl,by omega,rfl,xWd⟩
   |exact⟨L.length-(i+1),by omega,i+1,rfl,by omega,xWd⟩
 .rw [hgg]at h2;cases h2
 rw[hK.sim.dn,h0]at c6
 rw[hgg]at h2
 have h2:(cI D)[i].2=b:=by injection h2
 have hbv:Bs (dr W2) v b:=(hv.ext (aJ.dr W2 bQ) (λ_ _ h=>h)).sl
 have hcv:=kG hbv
 rw[h2]at hf2
 have s2:((⟨b.toArray⟩:ByteArray).toList==(⟨b.toArray⟩:ByteArray).toList)=true:=by simp
 have z0:((0:Int) !=0)=false:=rfl
 simp(disch:=omega)only[seval,hin,n2,hf1,hf2,hcv,Jd,s1,s2,c6,z0,q1,Uw]
 first
  |exact⟨L.length-(i+1),by omega,i+1,rfl,by omega,rfl,xWd⟩
  |exact⟨L.length-(i+1),by omega,i+1,rfl,by omega,xWd⟩
end Go.Proofs.Ytmhokapokchneaa
namespace Go.Proofs.Ytmhokapokchneaa
open Go Go.En Go.Pu
set_option maxRecDepth 4000
set_option maxHeartbeats 2000000
structure TO where
 kind:Int
 name:ByteArray
 other:ByteArray
 pos:Int
 bytes:List UInt8
 keep:List Bool
abbrev aC(a:TO)(bv kv:V3):List V3:=[.int .i64 a.kind,.string a.name,.string a.other,.int .i64 a.pos,bv,kv]
abbrev Z5:List V3:=[.int .i64 0,.slice none 0 0,.slice none 0 0,.int .i64 0,.bool false]
structure DM(w0:V2)(N:Nat->Prop)(w:V2)(n k p:Nat)(S:iL)(dv:V3):Prop where
 md:BH (NB w0 w N) n w S dv
 st:qN w0 N w p S
 ok:ID k S
def SX(w0:V2)(N:Nat->Prop)(w:V2)(n k p:Nat)(r:V3)(w':V2):Prop:=∃S' N' dv',r= .tuple #[dv',.bool true]/\DM w0 N' w' n k p S' dv'/\(∀b,N b->N' b)/\aJ w w' (Pe w0 N)
theorem qN.wr {w0 w w':V2}{N:Nat->Prop}{p b:Nat}{S:iL}(h:qN w0 N w p S)(hb:N b)(hb0:w0.heap.size<=b)(x:aJ w w' (λy=>y=b)):qN w0 N w' p S:=by
 obtain⟨X,D,h,hX,x0,hN⟩:=h
 exact⟨X,D,h.ext x (λy hy=>hy▸⟨hN b hb,λhx=>(hX b hx).2 hb⟩),hX,x0.trans x λy hy hm=>by omega,hN⟩
theorem DM.wr {w0 w w':V2}{N:Nat->Prop}{n k p b:Nat}{S:iL}{dv:V3}{l:List V3}(h:DM w0 N w n k p S dv)(o:bD w b l)(hn:Q0 l=true)(hb:N b)(hb0:w0.heap.size<=b)(x:aJ w w' (λy=>y=b))(s:w'.heap.size=w.heap.size):DM w0 N w' n k p S dv:=by
 refine⟨?_,h.st.wr hb hb0 x,h.ok⟩
 have e:NB w0 w' N=NB w0 w N:=by unfold NB;rw[s]
 rw[e]
 exact h.md.keep x λy hy=> .inl (hy▸⟨l,o,hn⟩)
theorem DM.newR {w0 w w':V2}{N:Nat->Prop}{n k p:Nat}{S:iL}{dv:V3}(h:DM w0 N w n k p S dv)(x:aJ w w' bQ):DM w0 (NR N w w') w' n k p S dv:=
 ⟨BH.model (h.md.new x) x.size,h.st.addR x,h.ok⟩
theorem DM.new {w0 w w':V2}{N:Nat->Prop}{n k p:Nat}{S:iL}{dv:V3}(h:DM w0 N w n k p S dv)(x:aJ w w' bQ):DM w0 N w' n k p S dv:=
 ⟨h.md.prog (x.mono λ_ _ h=>h.elim),h.st.new x,h.ok⟩
theorem qN.call {w0 w:V2}{N:Nat->Prop}{p:Nat}{S S':iL}{R:V3}{F:FuncId}{args:Array V3}(h:qN w0 N w p S)(hop:∀X D,fB w p X D S->(∀b,X b->w0.heap.size<=b/\¬N b)->aH pg F args w (λr w'=>r=R/\vR w p X D S' w')):
 aH pg F args w (λr w'=>r=R/\qN w0 N w' p S'/\aJ w w' (Pe w0 N)):=by
 obtain⟨X,D,hd,hX,x0,hN⟩:=h
 refine(hop X D hd hX).mono ?_
 rintro r w' ⟨rfl,hp⟩
 obtain⟨a,b⟩:=qN.post hd hX x0 hN hp
 exact⟨rfl,a,b⟩
def SB(S:iL)(n:ByteArray):List UInt8×Int:=if S.down then([],20)else match bC n S.seen with
 |none=>([],21)
 |some b=>(b,0)
theorem Qy{Z:Nat->Prop}{N:Nat}{S:iL}{dv:V3}{n:ByteArray}{w:V2}(h:BH Z N w S dv):
 aH pg sW #[dv,.string n] w (λr w'=>r= .tuple #[.string ⟨(SB S n).1.toArray⟩,.int .i64 (SB S n).2]/\aJ w w' bQ):=by
 obtain⟨D,sv,wv,rfl,h2,h3⟩:=h
 have:=RG (n:=n) h2 h3.rb
 rw[QF h3.sim n]at this
 exact this
theorem PO{w0 w:V2}{N:Nat->Prop}{p n:Nat}{S:iL}{nm:ByteArray}(h:qN w0 N w p S)(hB:Li n S):
 aH pg fS #[dP p,.string nm] w (λr w'=>(∃v,r= .tuple #[v,.int .i64 (SB S nm).2]/\Bs w' v (SB S nm).1)/\aJ w w' bQ):=by
 obtain⟨X,D,hd,_⟩:=h
 refine(Ir hd hB.bd (λb hb=>hB.file hb)).mono ?_
 rintro r w' ⟨hr,x⟩
 refine⟨?_,x⟩
 unfold SB
 rcases hr with⟨h1,rfl⟩|⟨h0,h2,rfl⟩|⟨h0,b,v,h2,rfl,ho⟩
 .rw [if_pos h1]
  exact⟨_,rfl,Sl.nil _⟩
 .rw [if_neg (by rw[h0];decide),h2]
  exact⟨_,rfl,Sl.nil _⟩
 .rw [if_neg (by rw[h0];decide),h2]
  exact⟨_,rfl,ho.sl⟩
theorem BH.left {Z:Nat->Prop}{n:Nat}{S:iL}{w:V2}{cd:List V3}(h:BH Z n w S (.agg cd.toArray)){a:Int}(ha: -1<=a/\a<=9223372036854775807):BH Z n w {S with left:=a} (.agg (cd.set 3 (.int .i64 a)).toArray):=by
 obtain⟨D,sv,wv,hcd,h2,h3⟩:=h
 have hcd:cd=sO D sv wv:=by
  injection hcd with e
  have:=congrArg Array.toList e
  simpa using this
 subst hcd
 exact⟨{D with left:=a},sv,wv,rfl,⟨h2.sure,h2.way,h2.wz⟩,⟨QE h3.sim _,⟨⟨ha,h3.bk.bd.seen,h3.bk.bd.under,h3.bk.bd.room⟩,h3.bk.sz,h3.bk.un⟩,⟨h3.rb.fs,h3.rb.ops,h3.rb.len⟩,h3.len⟩⟩
section
variable{w0 w w1:V2}{N N1:Nat->Prop}{n k p tb:Nat}{RR:V3->V2->Prop}
theorem Jz{S:iL}{ce:List V3}{w5:V2}(h:DM w0 N1 w5 n k p S (.agg ce.toArray))(x05:aJ w w5 (Pe w0 N))(hN1:∀b,N b->N1 b)(ot:bD w5 tb Z5)(ht:N1 tb)(htw:w.heap.size<=tb)(hw:w0.heap.size<=w.heap.size)
 (hK:∀r w',SX w0 N w n k p r w'->RR r w'):
 aB pg (aO 41 (.pointer (some ⟨tb,0,none⟩)) (.agg ce.toArray)) w5 λ_ w=>HW pg 41 (.pointer (some ⟨tb,0,none⟩)) w λr0=>RR (.tuple #[r0,.bool true]) w:=by
 obtain⟨ce',he,c5,-,c1,-⟩:=h.md.cs
 have he:ce=ce':=by
  injection he with e
  have:=congrArg Array.toList e
  simpa using this
 subst he
 refine uY ot rfl c5 c1 λw6 o6 x6 s6=> ?_
 refine iM o6 (by omega) ?_
 rw[List.drop_zero,UZ (by omega)]
 exact hK _ _ ⟨S,N1,_,rfl,h.wr ot rfl ht (by omega) x6 s6,hN1,x05.trans x6 λy hy hm=>by omega⟩
theorem Ix{S:iL}{ce:List V3}{w2 w3:V2}(hst:qN w0 N1 w2 p S)(hd:BH (NB w0 w2 N1) n w3 S (.agg ce.toArray))(hP:ID k S)(x3:aJ w2 w3 bQ)(x12:aJ w w2 (Pe w0 N))(hN1:∀b,N b->N1 b)(ot:bD w2 tb Z5)(ht:N1 tb)(htw:w.heap.size<=tb)(hw:w0.heap.size<=w.heap.size)
 (hK:∀r w',SX w0 N w n k p r w'->RR r w'):
 aB pg (lE 41) w3 λv w=>aB pg (aO 41 v (.agg ce.toArray)) w λ_ w=>aB pg (aD 41 v) w λt w=>aB pg (aO 41 (.pointer (some ⟨tb,0,none⟩)) t) w λ_ w=>
  HW pg 41 (.pointer (some ⟨tb,0,none⟩)) w λr0=>RR (.tuple #[r0,.bool true]) w:=by
 obtain⟨ce',he,c5,-,c1,-⟩:=hd.cs
 have he:ce=ce':=by
  injection he with e
  have:=congrArg Array.toList e
  simpa using this
 subst he
 have htl:=ot.lt
 refine bX λw4 o4 x4 s4=> ?_
 refine uY o4 rfl c5 c1 λw5 o5 x5 s5=> ?_
 have l:=uH o5 c5
 have z3:=x3.size
 have x25:aJ w2 w5 bQ:=(x3.seq x4).trans x5 λy hy hm=>by omega
 have hd5:=(hd.new x4).keep x5 λy hy=> .inl (hy▸⟨_,o4,rfl⟩)
 simp(disch:=omega)only[seval,l]
 exact Jz ⟨BH.model hd5 x25.size,hst.addR x25,hP⟩ (x12.seq (x25.mono λ_ _ h=>h.elim)) (λb hb=> .inl (hN1 b hb)) (ot.ext x25 (λh=>h)) (.inl ht) htw hw hK
end
theorem SG{w0 w:V2}{N:Nat->Prop}{n k p:Nat}{S:iL}{dv bv kv:V3}{a:TO}(h:DM w0 N w (n+1) k p S dv)(hk:k+1<=30)(x0:aJ w0 w bQ)(hb:Bs w bv a.bytes)(hbz:¬Ci bv (λy=>w0.heap.size<=y))(hbl:a.bytes.length<=200)
 (hkv:Sl w kv (a.keep.map Value.bool)) (hkz:¬Ci kv (λy=>w0.heap.size<=y)) (hkl:a.keep.length<=9223372036854775807) (hps: -9223372036854775808<=a.pos/\a.pos<=1099511627776):
 aH pg xB #[dP p,dv,.agg (aC a bv kv).toArray] w (SX w0 N w n (k+1) p):=by
 refine H8 ?_
 obtain⟨RR,hRR⟩:∃RR:V3->V2->Prop,RR=SX w0 N w n (k+1) p:=⟨_,rfl⟩
 rw[<-hRR]
 have hK:∀r w',SX w0 N w n (k+1) p r w'->RR r w':=λr w' h=>by rw[hRR];exact h
 obtain⟨cd,rfl,k5,kcc,k1,kns⟩:=h.md.cs
 unfold I3 Dn Dm
 refine jY λw1 o1 x1 s1=> ?_
 rw[GV]at o1
 refine jY λw2 o2 x2 s2=> ?_
 rw[GV]at o2
 refine bX λw4 o4 x4 s4=> ?_
 obtain⟨wb,hwb⟩:∃wb,wb=w.heap.size:=⟨_,rfl⟩
 obtain⟨ab,hab⟩:∃ab,ab=w1.heap.size:=⟨_,rfl⟩
 obtain⟨tb,htb⟩:∃tb,tb=w2.heap.size:=⟨_,rfl⟩
 rw[<-hwb]at o1⊢
 rw[<-hab]at o2⊢
 rw[<-htb]at o4⊢
 have o4:bD w4 tb Z5:=o4
 have x04:aJ w w4 bQ:=(x1.seq x2).seq x4
 have ow:=o1.ext (x2.seq x4) (λh=>h)
 have oa:=o2.ext x4 (λh=>h)
 have hM:=h.newR x04
 obtain⟨N1,hN1e⟩:∃N1,N1=NR N w w4:=⟨_,rfl⟩
 rw[<-hN1e]at hM
 have hN1:∀b,N b->N1 b:=λb hb=>by rw[hN1e];exact .inl hb
 have n1:∀b,w.heap.size<=b->b<w4.heap.size->N1 b:=λb h1 h2=>by rw[hN1e];exact .inr ⟨h1,h2⟩
 have hw1:N1 wb:=n1 wb (by omega) (by omega)
 have ha1:N1 ab:=n1 ab (by omega) (by omega)
 have ht1:N1 tb:=n1 tb (by omega) (by omega)
 have z0:=x0.size
 have nkp:∀b,N1 b->¬Pe w0 N1 b:=λb hb hk=>hk.2 hb
 have hb4:=hb.ext x04 (jV _)
 have hk4:=hkv.ext x04 (jV _)
 have x4k:aJ w w4 (Pe w0 N):=x04.mono λ_ _ h=>h.elim
 have hB:=hM.md
 obtain⟨D0,sv0,wv0,_,_,hRK⟩:=id hB
 have kee:∀e:Int,(e==e)=true:=λe=>by simp
 have ld:∀{W},bD W wb cd->(aD 41 (.pointer (some ⟨wb,0,none⟩))).run pg W= .ok (.value (.agg cd.toArray)) W:=λ{W} o=>uH o k5
 have after:∀{W},aJ w4 W (Pe w0 N1)->bD W wb cd/\bD W ab (aC a bv kv)/\bD W tb Z5/\aJ w W (Pe w0 N)/\Bs W bv a.bytes/\Sl W kv (a.keep.map Value.bool):=λ{W} x=>
  ⟨ow.ext x (nkp _ hw1),oa.ext x (nkp _ ha1),o4.ext x (nkp _ ht1),x4k.seq (x.mono λ_ _ h=>⟨h.1,λhn=>h.2 (hN1 _ hn)⟩),hb4.ext x λhi=>hbz (kK hi λb hb=>hb.1),hk4.ext x λhi=>hkz (kK hi λb hb=>hb.1)⟩
 have a0:w4.cell? ⟨ab,0,none⟩=some (.int .i64 a.kind):=oa.cell (off:=0)
 have a1:w4.cell? ⟨ab,1,none⟩=some (.string a.name):=oa.cell (off:=1)
 have a2:w4.cell? ⟨ab,2,none⟩=some (.string a.other):=oa.cell (off:=2)
 have a3:w4.cell? ⟨ab,3,none⟩=some (.int .i64 a.pos):=oa.cell (off:=3)
 have a4:w4.cell? ⟨ab,4,none⟩=some bv:=oa.cell (off:=4)
 have a5:w4.cell? ⟨ab,5,none⟩=some kv:=oa.cell (off:=5)
 have hsz:w0.heap.size<=w.heap.size:=z0
 have cWrite:AK RR (dP p) (.pointer (some ⟨wb,0,none⟩)) (.pointer (some ⟨ab,0,none⟩)) (.pointer (some ⟨tb,0,none⟩)) w4:=by
  unfold AK
  simp(disch:=omega)only[seval,a1,a3,a4]
  refine(qN.call (S':=(Ld S a.name a.pos a.bytes).1) (R:= .int .i64 (Ld S a.name a.pos a.bytes).2) hM.st (λX D hd _=>LA hd hRK.bk.bd hb4 (by omega) (by omega) hps.1)).mono ?_
  rintro r w5 ⟨rfl,hst,x5⟩
  obtain⟨ow5,oa5,ot5,y5,hb5,-⟩:=after x5
  have b1:w5.cell? ⟨ab,1,none⟩=some (.string a.name):=oa5.cell (off:=1)
  have b3:w5.cell? ⟨ab,3,none⟩=some (.int .i64 a.pos):=oa5.cell (off:=3)
  have b4:w5.cell? ⟨ab,4,none⟩=some bv:=oa5.cell (off:=4)
  have hcv:=kG hb5
  have l5:=ld ow5
  simp(disch:=omega)only[seval,b1,b3,b4,hcv,l5]
  refine(OW (N:=n) (hM.md.prog x5) (by omega)).mono ?_
  rintro r w6 ⟨dv',rfl,hd6,x6⟩
  obtain⟨ce,rfl,-⟩:=hd6.cs
  simp(disch:=omega)only[seval,kee]
  exact Ix hst hd6 (St hM.ok) x6 y5 hN1 ot5 ht1 (by omega) hsz hK
 have cRename:AL RR (dP p) (.pointer (some ⟨wb,0,none⟩)) (.pointer (some ⟨ab,0,none⟩)) (.pointer (some ⟨tb,0,none⟩)) w4:=by
  unfold AL
  simp(disch:=omega)only[seval,a1,a2]
  refine(qN.call (S':=(Nb S a.name a.other).1) (R:= .int .i64 (Nb S a.name a.other).2) hM.st (λX D hd _=>OE hd hRK.bk.bd)).mono ?_
  rintro r w5 ⟨rfl,hst,x5⟩
  obtain⟨ow5,oa5,ot5,y5,-,-⟩:=after x5
  have b1:w5.cell? ⟨ab,1,none⟩=some (.string a.name):=oa5.cell (off:=1)
  have b2:w5.cell? ⟨ab,2,none⟩=some (.string a.other):=oa5.cell (off:=2)
  have l5:=ld ow5
  simp(disch:=omega)only[seval,b1,b2,l5]
  refine(Nf (N:=n) (hM.md.prog x5)).mono ?_
  rintro r w6 ⟨dv',rfl,hd6,x6⟩
  obtain⟨ce,rfl,-⟩:=hd6.cs
  simp(disch:=omega)only[seval,kee]
  exact Ix hst hd6 (Sr hM.ok) x6 y5 hN1 ot5 ht1 (by omega) hsz hK
 have cRemove:AM RR (dP p) (.pointer (some ⟨wb,0,none⟩)) (.pointer (some ⟨ab,0,none⟩)) (.pointer (some ⟨tb,0,none⟩)) w4:=by
  unfold AM
  simp(disch:=omega)only[seval,a1]
  refine(qN.call (S':=(Na S a.name).1) (R:= .int .i64 (Na S a.name).2) hM.st (λX D hd _=>OD hd hRK.bk.bd)).mono ?_
  rintro r w5 ⟨rfl,hst,x5⟩
  obtain⟨ow5,oa5,ot5,y5,-,-⟩:=after x5
  have b1:w5.cell? ⟨ab,1,none⟩=some (.string a.name):=oa5.cell (off:=1)
  have l5:=ld ow5
  simp(disch:=omega)only[seval,b1,l5]
  refine(Nd (N:=n) (hM.md.prog x5)).mono ?_
  rintro r w6 ⟨dv',rfl,hd6,x6⟩
  obtain⟨ce,rfl,-⟩:=hd6.cs
  simp(disch:=omega)only[seval,kee]
  exact Ix hst hd6 (Sq hM.ok) x6 y5 hN1 ot5 ht1 (by omega) hsz hK
 have cSync:AN RR (dP p) (.pointer (some ⟨wb,0,none⟩)) (.pointer (some ⟨tb,0,none⟩)) w4:=by
  unfold AN
  simp(disch:=omega)only[seval]
  refine(qN.call (S':=(My S).1) (R:= .int .i64 (My S).2) hM.st (λX D hd _=>QK hd hRK.bk.bd)).mono ?_
  rintro r w5 ⟨rfl,hst,x5⟩
  obtain⟨ow5,oa5,ot5,y5,-,-⟩:=after x5
  have l5:=ld ow5
  simp(disch:=omega)only[seval,l5]
  refine(Qz (N:=n) ((hM.md.prog x5).le (by omega))).mono ?_
  rintro r w6 ⟨dv',rfl,hd6,x6⟩
  obtain⟨ce,rfl,-⟩:=hd6.cs
  simp(disch:=omega)only[seval,kee]
  exact Ix hst hd6 (Ss hM.ok) x6 y5 hN1 ot5 ht1 (by omega) hsz hK
 have cStop:AO RR (dP p) (.pointer (some ⟨wb,0,none⟩)) (.pointer (some ⟨ab,0,none⟩)) (.pointer (some ⟨tb,0,none⟩)) w4:=by
  unfold AO EE
  simp(disch:=omega)only[seval,a3]
  refine(qN.call (S':={S with left:=max a.pos (-1)}) (R:= .tuple #[]) hM.st (λX D hd _=>SH hd)).mono ?_
  rintro r w5 ⟨rfl,hst,x5⟩
  obtain⟨ow5,oa5,ot5,y5,-,-⟩:=after x5
  have b3:w5.cell? ⟨ab,3,none⟩=some (.int .i64 a.pos):=oa5.cell (off:=3)
  simp(disch:=omega)only[seval,b3]
  refine DH ow5 rfl (by omega) λw6 o6 x6 s6=> ?_
  have x06:aJ w w6 (Pe w0 N):=y5.trans x6 λy hy hm=>by omega
  have b36:w6.cell? ⟨ab,3,none⟩=some (.int .i64 a.pos):=(oa5.ext x6 (by omega)).cell (off:=3)
  have z5:=y5.size
  have hwl:=ow.lt
  have hmd:=(hM.md.prog x5).left (a:=max a.pos (-1)) (by omega)
  have hD5:DM w0 N1 w5 (n+1) k p {S with left:=max a.pos (-1)} (.agg (cd.set 3 (.int .i64 (max a.pos (-1)))).toArray):=⟨hmd,hst,Qo hM.ok⟩
  have hD6:=hD5.wr ow5 (DR kns) hw1 (by omega) x6 s6
  have hns:∀x∈cd.set 3 (.int .i64 a.pos),Al x=false:=λx hx=>by
   rcases List.mem_or_eq_of_mem_set hx with h|h
   .exact kns x h
   .rw [h]<;>rfl
  have up:∀{W e},DM w0 N1 W (n+1) k p {S with left:=max a.pos (-1)} e->DM w0 N1 W n (k+1) p {S with left:=max a.pos (-1)} e:=λh=>⟨h.md.le (by omega),h.st,h.ok.le (by omega)⟩
  by_cases hneg:a.pos<0
  .have d1:decide (a.pos<0)=true:=decide_eq_true hneg
   simp(disch:=omega)only[seval,b36,d1]
   refine DH o6 rfl (by rw[UU];omega) λw7 o7 x7 s7=> ?_
   have hD7:=hD6.wr o6 (DR hns) hw1 (by omega) x7 s7
   have e1:max a.pos (-1)= -1:=by omega
   have e2:(cd.set 3 (.int .i64 a.pos)).set 3 (.int .i64 (-1))=cd.set 3 (.int .i64 (max a.pos (-1))):=by rw[List.set_set,e1]
   have o7:bD w7 wb (cd.set 3 (.int .i64 (max a.pos (-1)))):=by rw[<-e2];exact o7
   have l7:=uH o7 (by rw[UU];exact k5)
   unfold vE
   simp(disch:=omega)only[seval,l7]
   exact Jz (up hD7) (x06.trans x7 λy hy hm=>by omega) hN1 ((ot5.ext x6 (by omega)).ext x7 (by omega)) ht1 (by omega) hsz hK
  .have d1:decide (a.pos<0)=false:=decide_eq_false hneg
   have e1:max a.pos (-1)=a.pos:=by omega
   have o6:bD w6 wb (cd.set 3 (.int .i64 (max a.pos (-1)))):=by rw[e1];exact o6
   have l6:=uH o6 (by rw[UU];exact k5)
   simp(disch:=omega)only[seval,b36,d1]
   unfold vE
   simp(disch:=omega)only[seval,l6]
   exact Jz (up hD6) x06 hN1 (ot5.ext x6 (by omega)) ht1 (by omega) hsz hK
 have cRead:vD RR (dP p) (.pointer (some ⟨wb,0,none⟩)) (.pointer (some ⟨ab,0,none⟩)) (.pointer (some ⟨tb,0,none⟩)) w4:=by
  unfold vD
  simp(disch:=omega)only[seval,a1]
  refine(PO hM.st hRK.bk).mono ?_
  rintro r w5 ⟨⟨v,rfl,hv⟩,x5⟩
  have b1:w5.cell? ⟨ab,1,none⟩=some (.string a.name):=(oa.ext x5 (λh=>h)).cell (off:=1)
  have l5:=ld (ow.ext x5 (λh=>h))
  simp(disch:=omega)only[seval,b1,l5]
  refine(Qy (hM.md.new x5)).mono ?_
  rintro r w6 ⟨rfl,x6⟩
  have l6:=ld ((ow.ext x5 (λh=>h)).ext x6 (λh=>h))
  have hcv:=kG (hv.ext x6 (jV _))
  have s2:((⟨(SB S a.name).1.toArray⟩:ByteArray).toList==(⟨(SB S a.name).1.toArray⟩:ByteArray).toList)=true:=by simp
  simp(disch:=omega)only[seval,l6,hcv,AQ,s2,kee]
  have hD6:=(hM.new x5).new x6
  exact Jz ⟨hD6.md.le (by omega),hD6.st,hD6.ok.le (by omega)⟩ (x4k.seq ((x5.seq x6).mono λ_ _ h=>h.elim)) hN1 ((o4.ext x5 (λh=>h)).ext x6 (λh=>h)) ht1 (by omega) hsz hK
 have cCrash:∀kn,vF kn RR (dP p) (.pointer (some ⟨wb,0,none⟩)) (.pointer (some ⟨ab,0,none⟩)) (.pointer (some ⟨tb,0,none⟩)) (.int .i64 6) w4:=by
  intro kn
  unfold vF
  have e6:((6:Int)==6)=true:=rfl
  simp(disch:=omega)only[seval,e6,a5]
  refine(qN.call (S':=Sc S a.keep) (R:= .tuple #[]) hM.st (λX D hd hX=> ?_)).mono ?_
  .refine NK hd hk4 (λhi=>hkz (kK hi λb hb=>(hX b hb).1)) hkl (by have:=hRK.bk.un;omega) (λi hi=>by have:=PE (ks:=a.keep) hM.ok (by omega) hi;omega) λo ho=> ?_
   have:=(hRK.rb.ops o (by rw[hRK.sim.wy];exact ho)).2
   omega
  rintro r w5 ⟨rfl,hst,x5⟩
  obtain⟨ow5,oa5,ot5,y5,-,hk5⟩:=after x5
  have b5:w5.cell? ⟨ab,5,none⟩=some kv:=oa5.cell (off:=5)
  have l5:=ld ow5
  simp(disch:=omega)only[seval,b5,l5]
  refine(OV (hM.md.prog x5) hk5 hkl ((Qn (ks:=a.keep) hM.ok).size (by omega))).mono ?_
  rintro r w6 ⟨hd6,x6⟩
  obtain⟨ce,rfl,-⟩:=hd6.cs
  exact Jz ⟨(BH.model hd6 x6.size).le (by omega),hst.addR x6,Qn hM.ok⟩ (y5.seq (x6.mono λ_ _ h=>h.elim)) (λb hb=> .inl (hN1 b hb)) (ot5.ext x6 (λh=>h)) (.inl ht1) (by omega) hsz hK
 obtain⟨j,hj,hje⟩:=R8 a.kind 7 (by omega)
 have hje:MC .i64 a.kind 7=(j:Int):=hje
 unfold yS yR Dl
 simp(disch:=omega)only[seval,a0,hje]
 unfold yQ Dk
 have ne:∀i m:Nat,i≠m->(((i:Nat):Int)==((m:Nat):Int))=false:=λi m h=>by rw[beq_eq_false_iff_ne];omega
 have eq:∀i:Nat,(((i:Nat):Int)==((i:Nat):Int))=true:=λi=>by simp
 match j,hj with
 |0,_=>
  have e0:(((0:Nat):Int)==0)=true:=rfl
  unfold fH
  simp(disch:=omega)only[seval,e0]
  exact cWrite
 |1,_=>
  have e0:(((1:Nat):Int)==0)=false:=rfl
  have e1:(((1:Nat):Int)==1)=true:=rfl
  unfold fH
  simp(disch:=omega)only[seval,e0,e1]
  exact cWrite
 |2,_=>
  have e0:(((2:Nat):Int)==0)=false:=rfl
  have e1:(((2:Nat):Int)==1)=false:=rfl
  have e2:(((2:Nat):Int)==2)=true:=rfl
  unfold fH kQ kP jA
  simp(disch:=omega)only[seval,e0,e1,e2]
  exact cRename
 |3,_=>
  have e0:(((3:Nat):Int)==0)=false:=rfl
  have e1:(((3:Nat):Int)==1)=false:=rfl
  have e2:(((3:Nat):Int)==2)=false:=rfl
  have e3:(((3:Nat):Int)==3)=true:=rfl
  unfold fH kQ kP jA mT mS kO
  simp(disch:=omega)only[seval,e0,e1,e2,e3]
  exact cRemove
 |4,_=>
  have e0:(((4:Nat):Int)==0)=false:=rfl
  have e1:(((4:Nat):Int)==1)=false:=rfl
  have e2:(((4:Nat):Int)==2)=false:=rfl
  have e3:(((4:Nat):Int)==3)=false:=rfl
  have e4:(((4:Nat):Int)==4)=true:=rfl
  unfold fH kQ kP jA mT mS kO pL pK mR
  simp(disch:=omega)only[seval,e0,e1,e2,e3,e4]
  exact cSync
 |5,_=>
  have e0:(((5:Nat):Int)==0)=false:=rfl
  have e1:(((5:Nat):Int)==1)=false:=rfl
  have e2:(((5:Nat):Int)==2)=false:=rfl
  have e3:(((5:Nat):Int)==3)=false:=rfl
  have e4:(((5:Nat):Int)==4)=false:=rfl
  have e5:(((5:Nat):Int)==5)=true:=rfl
  unfold fH kQ kP jA mT mS kO pL pK mR tD tC pJ
  simp(disch:=omega)only[seval,e0,e1,e2,e3,e4,e5]
  exact cStop
 |6,_=>
  have e0:(((6:Nat):Int)==0)=false:=rfl
  have e1:(((6:Nat):Int)==1)=false:=rfl
  have e2:(((6:Nat):Int)==2)=false:=rfl
  have e3:(((6:Nat):Int)==3)=false:=rfl
  have e4:(((6:Nat):Int)==4)=false:=rfl
  have e5:(((6:Nat):Int)==5)=false:=rfl
  unfold fH kQ kP jA mT mS kO pL pK mR tD tC pJ
  simp(disch:=omega)only[seval,e0,e1,e2,e3,e4,e5]
  exact cCrash _
 |7,_=>
  have e0:(((7:Nat):Int)==0)=false:=rfl
  have e1:(((7:Nat):Int)==1)=false:=rfl
  have e2:(((7:Nat):Int)==2)=false:=rfl
  have e3:(((7:Nat):Int)==3)=false:=rfl
  have e4:(((7:Nat):Int)==4)=false:=rfl
  have e5:(((7:Nat):Int)==5)=false:=rfl
  have e6:(((7:Nat):Int)==6)=false:=rfl
  unfold fH kQ kP jA mT mS kO pL pK mR tD tC pJ vF
  simp(disch:=omega)only[seval,e0,e1,e2,e3,e4,e5,e6]
  exact cRead
 |j'+8,hj=>omega
structure Lh where
 a:TO
 bv:V3
 kv:V3
abbrev Mw(x:Lh):List V3:=aC x.a x.bv x.kv
structure J3 (w:V2)(x:Lh):Prop where
 b:Bs w x.bv x.a.bytes
 k:Sl w x.kv (x.a.keep.map Value.bool)
 kl:x.a.keep.length<=9223372036854775807
 ps: -9223372036854775808<=x.a.pos
theorem Q9 (l:List Lh):(l.flatMap Mw).length=l.length*6:=by
 induction l with
 |nil=>rfl
 |cons p r ih=>simp only[Vw,Uu,UL,VC]at ih⊢;omega
theorem Pr:∀{l:List Lh} {i j:Nat} (hi:i<l.length),j<6->(l.flatMap Mw)[i*6+j]?=(Mw l[i])[j]?
 |p::r,0,j,_,hj=>by
  show(Mw p++r.flatMap Mw)[0*6+j]?=_
  rw[UN (by simpa using hj),V1,Uw]
  rfl
 |p::r,i+1,j,hi,hj=>by
  show(Mw p++r.flatMap Mw)[(i+1)*6+j]?=_
  rw[Vx (by simp;omega),show(i+1)*6+j-(Mw p).length=i*6+j from by simp;omega]
  exact Pr (by simpa using hi) hj
theorem Qx{room:Int}{w:V2}(h:room<0∨16777216<room):aH pg vP #[.int .i64 room] w (λr w'=>(∃cs:List V3,r= .tuple #[.agg cs.toArray,.int .i64 1]/\cs.length=5/\∀x∈cs,one x=true)/\aJ w w' bQ):=by
 refine DB ?_
 obtain⟨RR,hRR⟩:∃RR:V3->V2->Prop,RR=λr w'=>(∃cs:List V3,r= .tuple #[.agg cs.toArray,.int .i64 1]/\cs.length=5/\∀x∈cs,one x=true)/\aJ w w' bQ:=⟨_,rfl⟩
 rw[<-hRR]
 unfold Hk BY
 refine bX λw1 o1 x1 s1=> ?_
 have hv:∀x∈Z5,one x=true:=by intro x hx;simp only[UD,U3,or_false]at hx;rcases hx with rfl|rfl|rfl|rfl|rfl<;>rfl
 have fin:aB pg (aO 41 (.pointer (some ⟨w.heap.size,0,none⟩)) (.agg Z5.toArray)) w1 λ_ CK=>HW pg 41 (.pointer (some ⟨w.heap.size,0,none⟩)) CK λr0=>RR (.tuple #[r0,.int .i64 1]) CK:=by
  refine uY o1 rfl rfl hv λw2 o2 x2 s2=> ?_
  refine iM o2 (by simp) ?_
  rw[hRR]
  exact⟨⟨Z5,rfl,rfl,hv⟩,x1.trans x2 λy hy h=>by omega⟩
 by_cases h0:room<0
 .have d1:decide (room<0)=true:=decide_eq_true h0
  simp(disch:=omega)only[seval,d1]
  exact fin
 .have d1:decide (room<0)=false:=decide_eq_false h0
  have d2:decide ((16777216:Int)<room)=true:=decide_eq_true (by omega)
  simp(disch:=omega)only[seval,d1,d2]
  exact fin
section
variable{w0:V2}{p pb:Nat}{scv:V3}{acs:List Lh}{RR:V3->V2->Prop}
theorem M3 (hsc:Cl w0 6 scv acs.length (acs.flatMap Mw))(hac:∀x∈acs,J3 w0 x)(hal:acs.length<=9223372036854775807)
 {w:V2} {N:Nat->Prop} {S:iL} {ce:List V3} (h:DM w0 N w 30 0 p S (.agg ce.toArray)) (x0:aJ w0 w bQ) (op:bD w pb ce) (hNp:N pb) (hpb:w0.heap.size<=pb)
 (hK:∀w',aJ w0 w' bQ->RR (.bool true) w'):
 kN RR scv (dP p) (.int .i64 0) (.pointer (some ⟨pb,0,none⟩)) w:=by
 obtain⟨sa,sc,hse,_⟩:=id hsc
 unfold kN nV rV kM
 refine bG.rule (λq (t:V3) W=>∃(i:Nat) (N:Nat->Prop) (S:iL) (ce:List V3),q=30-i/\i<=30/\t= .int .i64 (i:Nat)/\DM w0 N W (30-i) i p S (.agg ce.toArray)/\aJ w0 W bQ/\bD W pb ce/\N pb) 30 ⟨0,N,S,ce,rfl,by omega,rfl,h,x0,op,hNp⟩ ?_
 clear h x0 op hNp
 rintro q t W ⟨i,N,S,ce,rfl,hi,rfl,h,x0,op,hNp⟩
 obtain⟨ce',he,k5,-,k1,kns⟩:=h.md.cs
 have he:ce=ce':=by
  injection he with e
  have:=congrArg Array.toList e
  simpa using this
 subst he
 unfold nU
 by_cases hlt:i<acs.length
 rotate_left
 .have d1:decide ((i:Int)<(acs.length:Int))=false:=by simp;omega
  unfold kL
  rw[hse]
  simp(disch:=omega)only[seval,d1]
  exact hK _ x0
 have d1:decide ((i:Int)<(acs.length:Int))=true:=by simp;omega
 by_cases hi30:i<30
 rotate_left
 .have d2:decide ((i:Int)<30)=false:=by simp;omega
  unfold kL
  rw[hse]
  simp(disch:=omega)only[seval,d1,d2]
  exact hK _ x0
 have d2:decide ((i:Int)<30)=true:=by simp;omega
 have hin:(i:Int).toNat=i:=UJ _
 have q1:(i:Int)+1=((i+1:Nat):Int):=by omega
 have z00:((0:Int)==0)=true:=rfl
 obtain⟨x,hx⟩:∃x,x=acs[i]:=⟨_,rfl⟩
 have hxo:J3 w0 x:=hac _ (hx▸Vz hlt)
 obtain⟨sb,so',hsa,hcell⟩:∃sb so',sa=some ⟨sb,so',none⟩/\∀W' j v,aJ w0 W' bQ->j<6->(Mw x)[j]?=some v->W'.cell? ⟨sb,so'+i*6+j,none⟩=some v:=by
  obtain⟨a',c',he,hl,hh⟩:=hsc
  rw[hse]at he
  simp only[Value.slice.injEq]at he
  obtain⟨rfl,-,rfl⟩:=he
  obtain⟨sb,so',rfl,h2⟩:=hh (by omega)
  refine⟨sb,so',rfl,λW' j v xW hj hv=> ?_⟩
  have h3:=h2 (i*6+j) (by rw[Q9];omega)
  rw[Pr hlt hj,<-hx,hv]at h3
  rw[Vi]
  exact GZ h3 xW (λh=>h)
 subst hsa
 have b1:W.cell? ⟨sb,so'+i*6+1,none⟩=some (.string x.a.name):=hcell W 1 _ x0 (by omega) rfl
 have b2:W.cell? ⟨sb,so'+i*6+2,none⟩=some (.string x.a.other):=hcell W 2 _ x0 (by omega) rfl
 have b3:W.cell? ⟨sb,so'+i*6+3,none⟩=some (.int .i64 x.a.pos):=hcell W 3 _ x0 (by omega) rfl
 have b4:W.cell? ⟨sb,so'+i*6+4,none⟩=some x.bv:=hcell W 4 _ x0 (by omega) rfl
 have hbW:=hxo.b.ext x0 (jV _)
 obtain⟨ba,bc,hbe,_⟩:=hbW.len
 rw[UA]at hbe
 rw[hbe]at b4
 subst hse
 by_cases h200:200<x.a.bytes.length
 .have d3:decide ((200:Int)<(x.a.bytes.length:Int))=true:=by simp;omega
  simp(disch:=omega)only[seval,d1,d2,z00,hin,b4,d3]
  exact hK _ x0
 have d3:decide ((200:Int)<(x.a.bytes.length:Int))=false:=by simp;omega
 by_cases hn1:100<x.a.name.size
 .have d4:decide ((100:Int)<(x.a.name.size:Int))=true:=by simp;omega
  simp(disch:=omega)only[seval,d1,d2,z00,hin,b4,d3,b1,d4]
  exact hK _ x0
 have d4:decide ((100:Int)<(x.a.name.size:Int))=false:=by simp;omega
 by_cases hn2:100<x.a.other.size
 .have d5:decide ((100:Int)<(x.a.other.size:Int))=true:=by simp;omega
  simp(disch:=omega)only[seval,d1,d2,z00,hin,b4,d3,b1,d4,b2,d5]
  exact hK _ x0
 have d5:decide ((100:Int)<(x.a.other.size:Int))=false:=by simp;omega
 by_cases hp40:1099511627776<x.a.pos
 .have d6:decide ((1099511627776:Int)<x.a.pos)=true:=decide_eq_true hp40
  simp(disch:=omega)only[seval,d1,d2,z00,hin,b4,d3,b1,d4,b2,d5,b3,d6]
  exact hK _ x0
 have d6:decide ((1099511627776:Int)<x.a.pos)=false:=decide_eq_false hp40
 have xd:=aJ.dr W bQ
 have opd:=op.ext xd (λh=>h)
 have l84:=uH opd k5
 have l88:(aD 45 (.pointer (some ⟨sb,so'+i*6,none⟩))).run pg (dr W)= .ok (.value (.agg (Mw x).toArray)) (dr W):=Bq (l:=Mw x) rfl λj hj=>by
  obtain⟨v,hv⟩:∃v,(Mw x)[j]?=some v:=⟨_,UG hj⟩
  rw[hv]
  exact hcell _ j v (x0.seq xd) hj hv
 simp(disch:=omega)only[seval,d1,d2,z00,hin,b4,d3,b1,d4,b2,d5,b3,d6,l84,l88]
 have hd:=h.new xd
 have x0d:=x0.seq xd
 have e30:30-i=(30-(i+1))+1:=by omega
 rw[e30]at hd
 refine(SG (n:=30-(i+1)) (a:=x.a) hd (by omega) x0d (hxo.b.ext x0d (jV _)) hxo.b.old (by omega) (hxo.k.ext x0d (jV _)) hxo.k.old hxo.kl ⟨hxo.ps,by omega⟩).mono ?_
 rintro r W2 ⟨S',N',dv',rfl,hDM,hN',x2⟩
 obtain⟨cf,rfl,c5,-,c1,-⟩:=hDM.md.cs
 have op2:=opd.ext x2 (λhk=>hk.2 hNp)
 simp(disch:=omega)only[seval]
 refine uY op2 k5 c5 c1 λW3 o3 x3 s3=> ?_
 have hD3:=hDM.wr op2 (DR kns) (hN' _ hNp) hpb x3 s3
 have x03:aJ w0 W3 bQ:=(x0d.trans x2 λy hy hk=>by have:=hk.1;omega).trans x3 λy hy hm=>by omega
 have l96:=uH o3 c5
 simp(disch:=omega)only[seval,l96]
 obtain⟨X,D,hdk,_⟩:=hD3.st
 refine(Sk hdk hD3.md (by have:=hD3.ok.l2;omega)).mono ?_
 rintro r W4 ⟨rfl,x4⟩
 simp(disch:=omega)only[seval,q1]
 first
  |exact⟨30-(i+1),by omega,i+1,N',S',cf,rfl,by omega,rfl,hD3.new x4,x03.seq x4,o3.ext x4 (λh=>h),hN' _ hNp⟩
  |exact⟨30-(i+1),by omega,i+1,N',S',cf,rfl,by omega,hD3.new x4,x03.seq x4,o3.ext x4 (λh=>h),hN' _ hNp⟩
end
theorem Lv{room:Int}{scv:V3}{acs:List Lh}{w:V2}(hr: -9223372036854775808<=room/\room<=9223372036854775807)(hsc:Cl w 6 scv acs.length (acs.flatMap Mw))(hac:∀x∈acs,J3 w x)(hal:acs.length<=9223372036854775807):
 aH pg sV #[.int .i64 room,scv] w (λr w'=>r= .bool true/\aJ w w' bQ):=by
 refine Di ?_
 obtain⟨RR,hRR⟩:∃RR:V3->V2->Prop,RR=λr w'=>r= .bool true/\aJ w w' bQ:=⟨_,rfl⟩
 rw[<-hRR]
 have hok:∀w',aJ w w' bQ->RR (.bool true) w':=λw' x=>by rw[hRR];exact⟨rfl,x⟩
 unfold Cj yP yO
 refine(Ov w).mono ?_
 rintro r w0 ⟨rfl,x00⟩
 have hsc0:=HC hsc x00 (jV _)
 have hac0:∀x∈acs,J3 w0 x:=λx hx=>by
  have h:=hac x hx
  exact⟨h.b.ext x00 (jV _),h.k.ext x00 (jV _),h.kl,h.ps⟩
 have ee:∀e:Int,(e !=e)=false:=λe=>by simp
 simp(disch:=omega)only[seval]
 by_cases hb:room<0∨16777216<room
 .refine (PK hb).mono ?_
  rintro r w1 ⟨rfl,hw⟩
  rw[hw];clear hw w1
  try simp(disch:=omega)only[seval]
  refine(Qx hb).mono ?_
  rintro r w1 ⟨⟨cs,rfl,c5,c1⟩,x1⟩
  try simp(disch:=omega)only[seval]
  refine bX λw2 o2 x2 s2=> ?_
  refine uY o2 rfl c5 c1 λw3 o3 x3 s3=> ?_
  have x03:aJ w w3 bQ:=x00.seq ((x1.seq x2).trans x3 λy hy h=>by have:=x1.size;omega)
  have n10:((1:Int) !=0)=true:=rfl
  have n11:((1:Int)==0)=false:=rfl
  have tt:(!(true==true))=false:=rfl
  simp(disch:=omega)only[seval,tt]
  obtain⟨sa,sc,hse,_⟩:=id hsc
  unfold kN nV rV kM
  refine bG.rule (λq (t:V3) W=>t= .int .i64 0/\W=w3) 0 ⟨rfl,rfl⟩ ?_
  rintro q t W ⟨rfl,hW⟩
  rw[hW];clear hW
  unfold nU kL
  rw[hse]
  have d2:decide ((0:Int)<30)=true:=rfl
  by_cases h0:acs.length=0
  .have d1:decide ((0:Int)<(acs.length:Int))=false:=decide_eq_false (by omega)
   simp(disch:=omega)only[seval,d1]
   exact hok _ x03
  .have d1:decide ((0:Int)<(acs.length:Int))=true:=decide_eq_true (by omega)
   simp(disch:=omega)only[seval,d1,d2,n11]
   exact hok _ x03
 have hrm:0<=room/\room<=16777216:=by omega
 refine(PL hrm.1 hrm.2).mono ?_
 rintro r w1 ⟨p,X,rfl,hd,hX,x1⟩
 have hD:qN w0 bQ w1 p (LX room):=⟨X,X,hd,λb hb=>⟨hX b hb,λh=>h⟩,x1,λb hb=>hb.elim⟩
 try simp(disch:=omega)only[seval]
 refine(RH (Z:=NB w0 w1 bQ) (N:=30) hrm.1 hrm.2 (by omega) (λb hb=>hb.2.1)).mono ?_
 rintro r w2 ⟨dv,rfl,hd2,x2⟩
 obtain⟨ce,rfl,c5,-,c1,-⟩:=hd2.cs
 try simp(disch:=omega)only[seval]
 refine bX λw3 o3 x3 s3=> ?_
 refine uY o3 rfl c5 c1 λw4 o4 x4 s4=> ?_
 have z1:=x1.size
 have z2:=x2.size
 have x14:aJ w1 w4 bQ:=(x2.seq x3).trans x4 λy hy h=>by omega
 have hd4:=(hd2.new x3).keep x4 λy hy=> .inl (hy▸⟨_,o3,rfl⟩)
 have hDM:DM w0 (NR bQ w1 w4) w4 30 0 p (LX room) (.agg ce.toArray):=⟨BH.model hd4 x14.size,hD.addR x14,Ry hrm⟩
 have n10:((0:Int) !=0)=false:=rfl
 have ff:(false !=false)=false:=rfl
 try simp(disch:=omega)only[seval,ee,n10,ff]
 exact M3 hsc0 hac0 hal hDM (x1.seq x14) o4 (.inr ⟨by omega,by omega⟩) (by omega) λw' xw=>hok w' (x00.seq xw)
end Go.Proofs.Ytmhokapokchneaa
namespace Go.En
open Go Go.ChangeShapes Go.WideShapes Go.ChangeAt Go.RowKit Go.Deep
theorem Lr{W:V2}{a:Addr}{n:Nat}{g:Nat->V3}(h0:0<n)(h:∀i,i<n->W.cell? (a.add i)=some (g i)):∃b off,a=⟨b,off,none⟩/\∀i,i<n->W.cell? ⟨b,off+i,none⟩=some (g i):=by
 obtain⟨b,off,spot⟩:=a
 have hs:spot=none:=by
  have h0:=h 0 h0
  unfold World.cell? at h0
  split at h0
  .cases spot
   .rfl
   .simp [Addr.add]at h0
  .cases h0
 subst hs
 exact⟨b,off,rfl,λi hi=>by rw[<-Ay,h i hi]⟩
theorem Sg{H:Type}{enc:TypeId×V3->H}{P:Program}{W:V2}{base fuel:Nat}{sp:Nat->Bool}{hd:Bool}{t e:TypeId}{k:IntKind}{cs:List V3}{x:DataW H×List MemPlace}(ht:P.underlying t=some (.slice e))(he:P.underlying e=some (.int k))(hc:P.cellsOf e=1)
 (hf:DataW.trod enc P W base sp hd fuel t cs=some x):∃(v:V3) (zs:List Int),cs=[v]/\Sl W v (zs.map (Value.int k))/\zs.length<=9223372036854775807/\∀z∈zs,(Lit.int k z).wf=true:=by
 rcases open_ints ht he hc hf with⟨hcs,-⟩|⟨a,len,cap,zs,hcs,_,hl,hm,hz,-,hcell,hwz⟩
 .exact ⟨_,[],hcs,⟨none,0,0,rfl,rfl,UF _,λh=>absurd h (by simp)⟩,by simp,by simp⟩
 .unfold maxLen at hm
  have hle:len<=zs.length:=by rw[hz];split<;>omega
  refine⟨_,zs.take len,hcs,⟨some a,len,cap,rfl,by rw[UA,US];omega,hl,λh0=> ?_⟩,by rw[US];omega,λz hz=>hwz z (VW hz)⟩
  obtain⟨b,off,e,h2⟩:=Lr (g:=λi=> .int k (zs.getD i 0)) h0 (λi hi=>by rw[hcell i (by omega)])
  refine⟨b,off,by rw[e],λi hi=> ?_⟩
  rw[h2 i hi,U9,List.getElem?_take_of_lt hi,VK,UG (by omega)]
  rfl
theorem Rl{H:Type}{enc:TypeId×V3->H}{P:Program}{W:V2}{base fuel:Nat}{hd:Bool}{t e:TypeId}{cs:List V3}{x:DataW H×List MemPlace}(ht:P.underlying t=some (.slice e))(he:P.underlying e=some .bool)(hc:P.cellsOf e=1)
 (hf:DataW.trod enc P W base (λ_=>true) hd fuel t cs=some x):∃(v:V3) (zs:List Bool),cs=[v]/\Sl W v (zs.map Value.bool)/\zs.length<=9223372036854775807:=by
 rcases Go.Deep.open_bools ht he hc hf with⟨hcs,-⟩|⟨a,len,cap,B,hcs,_,hl,hm,-,hcell⟩
 .exact ⟨_,[],hcs,⟨none,0,0,rfl,rfl,UF _,λh=>absurd h (by simp)⟩,by simp⟩
 .unfold maxLen at hm
  refine⟨_,(List.range len).map B,hcs,⟨some a,len,cap,rfl,by simp,hl,λh0=> ?_⟩,by simp;omega⟩
  obtain⟨b,off,e,h2⟩:=Lr (g:=λi=> .bool (B i)) h0 (λi hi=>by rw[hcell i (by omega)])
  refine⟨b,off,by rw[e],λi hi=> ?_⟩
  rw[h2 i hi]
  simp[hi]
structure IA where
 a0:Int
 s1:ByteArray
 s2:ByteArray
 a3:Int
 bv:V3
 zs:List Int
 kv:V3
 ks:List Bool
def B5 (x:IA):List V3:=[.int .i64 x.a0,.string x.s1,.string x.s2,.int .i64 x.a3,x.bv,x.kv]
structure GU(W:V2)(x:IA):Prop where
 w0:(Lit.int .i64 x.a0).wf=true
 w3:(Lit.int .i64 x.a3).wf=true
 sb:Sl W x.bv (x.zs.map (Value.int .u8))
 lb:x.zs.length<=9223372036854775807
 wb:∀z∈x.zs,(Lit.int .u8 z).wf=true
 sk:Sl W x.kv (x.ks.map Value.bool)
 lk:x.ks.length<=9223372036854775807
theorem O3 {H:Type}{enc:TypeId×V3->H}{P:Program}{W:V2}{base fuel:Nat}{hd:Bool}{t e4 e5:TypeId}{f0 f1 f2 f3 f4 f5:Field}{cs:List V3}{x:DataW H×List MemPlace}
 (ht:P.underlying t=some (.struct #[f0,f1,f2,f3,f4,f5])) (h0:P.underlying f0.type=some (.int .i64)) (h1:P.underlying f1.type=some .string) (h2:P.underlying f2.type=some .string) (h3:P.underlying f3.type=some (.int .i64)) (h4:P.underlying f4.type=some (.slice e4)) (h4':P.underlying e4=some (.int .u8)) (h5:P.underlying f5.type=some (.slice e5)) (h5':P.underlying e5=some .bool)
 (ho:[f0.offset,f1.offset,f2.offset,f3.offset,f4.offset,f5.offset]=[0,1,2,3,4,5]) (hc:[P.cellsOf f0.type,P.cellsOf f1.type,P.cellsOf f2.type,P.cellsOf f3.type,P.cellsOf f4.type,P.cellsOf f5.type,P.cellsOf e4,P.cellsOf e5,P.cellsOf t]=[1,1,1,1,1,1,1,1,6])
 (hf:DataW.trod enc P W base (λ_=>true) hd fuel t cs=some x):∃a:IA,cs=B5 a/\GU W a:=by
 simp only[VB,and_true]at ho hc
 obtain⟨o0,o1,o2,o3,o4,o5⟩:=ho
 obtain⟨c0,c1,c2,c3,c4,c5,ce4,ce5,ct⟩:=hc
 obtain⟨xs,n,_,rfl,hl,hlen,hff⟩:=DataW.trod_struct ht hf
 match xs,hlen with
 |[y0,y1,y2,y3,y4,y5],_=>
  have g0:=hff 0 f0 rfl
  have g1:=hff 1 f1 rfl
  have g2:=hff 2 f2 rfl
  have g3:=hff 3 f3 rfl
  have g4:=hff 4 f4 rfl
  have g5:=hff 5 f5 rfl
  rw[o0,c0]at g0
  rw[o1,c1]at g1
  rw[o2,c2]at g2
  rw[o3,c3]at g3
  rw[o4,c4]at g4
  rw[o5,c5]at g5
  obtain⟨a0,e0,_,w0⟩:=DataW.trod_int h0 g0
  obtain⟨s1,e1,_,_⟩:=DataW.trod_string h1 g1
  obtain⟨s2,e2,_,_⟩:=DataW.trod_string h2 g2
  obtain⟨a3,e3,_,w3⟩:=DataW.trod_int h3 g3
  obtain⟨bv,zs,e4',sb,lb,wb⟩:=Sg h4 h4' ce4 g4
  obtain⟨kv,ks,e5',sk,lk⟩:=Rl h5 h5' ce5 g5
  rw[ct]at hl
  match cs,hl with
  |[x0,x1,x2,x3,x4,x5],_=>
   simp at e0 e1 e2 e3 e4' e5'
   subst e4' e5'
   exact⟨⟨a0,s1,s2,a3,x4,zs,x5,ks⟩,by rw[e0,e1,e2,e3]<;>rfl,⟨w0,w3,sb,lb,wb,sk,lk⟩⟩
theorem MY{H:Type}{enc:TypeId×V3->H}{P:Program}{W:V2}{base b0:Nat}{r:Reach}{hd:Bool}{t e e4 e5:TypeId}{f0 f1 f2 f3 f4 f5:Field}{v:V3}{d:DataW H}{ps:List MemPlace}
 (hs:P.underlying t=some (.slice e)) (ht:P.underlying e=some (.struct #[f0,f1,f2,f3,f4,f5])) (h0:P.underlying f0.type=some (.int .i64)) (h1:P.underlying f1.type=some .string) (h2:P.underlying f2.type=some .string) (h3:P.underlying f3.type=some (.int .i64)) (h4:P.underlying f4.type=some (.slice e4)) (h4':P.underlying e4=some (.int .u8)) (h5:P.underlying f5.type=some (.slice e5)) (h5':P.underlying e5=some .bool)
 (ho:[f0.offset,f1.offset,f2.offset,f3.offset,f4.offset,f5.offset]=[0,1,2,3,4,5]) (hc:[P.cellsOf f0.type,P.cellsOf f1.type,P.cellsOf f2.type,P.cellsOf f3.type,P.cellsOf f4.type,P.cellsOf f5.type,P.cellsOf e4,P.cellsOf e5,P.cellsOf e]=[1,1,1,1,1,1,1,1,6])
 (hval:Value.okWide P W r b0 t v) (h:DataW.Trod enc P W base (λ_=>true) hd t v d ps):
 ∃xs:List IA,Cl W 6 v xs.length (xs.flatMap B5)/\xs.length<=9223372036854775807/\∀x∈xs,GU W x:=by
 obtain⟨a0,len,cap,rfl⟩:=okWide_slice hs hval
 obtain⟨fuel,hf⟩:=h
 have fl:∀xs:List IA,(xs.flatMap B5).length=xs.length*6:=λxs=>by
  induction xs with
  |nil=>rfl
  |cons z zs ih=>rw[Vw,Uu,ih,UL];simp[B5];omega
 have ct:P.cellsOf e=6:=by
  simp only[VB,and_true]at hc
  exact hc.2.2.2.2.2.2.2.2
 rcases open_slice hs hf with⟨hcs,-⟩|⟨a,len',cap',m,n,D,Pl,hcs,_,hl,hm,hmm,_,hx⟩
 .have:Value.slice a0 len cap= .slice none 0 0:=by simpa[Value.cells]using hcs
  cases this
  exact⟨[],⟨none,0,rfl,rfl,λh=>absurd h (by simp)⟩,by simp,by simp⟩
 .have:Value.slice a0 len cap= .slice (some a) len' cap':=by simpa[Value.cells]using hcs
  cases this
  unfold maxLen at hm
  have hlm:len<=m:=by rw[hmm];split<;>omega
  have inh:Inhabited IA:=⟨⟨0,⟨#[]⟩,⟨#[]⟩,0,.slice none 0 0,[],.slice none 0 0,[]⟩⟩
  have hex:∀i,i<len->∃z:IA,GU W z/\∀j,j<6->W.cell? ((a.add (i*6)).add j)=(B5 z)[j]?:=λi hi=>by
   obtain⟨cs',h1',h2'⟩:=hx i (by omega)
   rw[ct]at h1'
   obtain⟨z,rfl,hw⟩:=O3 ht h0 h1 h2 h3 h4 h4' h5 h5' ho hc h2'
   obtain⟨_,hlen,hcc⟩:=World.cells?_some h1'
   exact⟨z,hw,λj hj=>hcc j hj⟩
  obtain⟨Z,hZ⟩:=choose_lt (α:=IA) (n:=len) (p:=λi z=>GU W z/\∀j,j<6->W.cell? ((a.add (i*6)).add j)=(B5 z)[j]?) hex
  refine⟨(List.range len).map Z,⟨some a,cap,by simp,by rw[fl],λhpos=> ?_⟩,by simp;omega,λz hz=> ?_⟩
  .have hpos:0<len:=by simpa using hpos
   obtain⟨b,off,spot⟩:=a
   have hs:spot=none:=by
    have h0:=(hZ 0 hpos).2 0 (by omega)
    simp[B5]at h0
    unfold World.cell? at h0
    split at h0
    .cases spot
     .rfl
     .simp [Addr.add]at h0
    .cases h0
   subst hs
   refine⟨b,off,rfl,λi hi=> ?_⟩
   rw[fl,UA,List.length_range]at hi
   have hq:i/6<len:=by omega
   have key:=(hZ (i/6) hq).2 (i%6) (Nat.mod_lt _ (by omega))
   rw[add_add,show i/6*6+i%6=i from by omega,Ay]at key
   rw[key]
   have get:∀(zs:List IA) (i j:Nat),j<6->(zs.flatMap B5)[i*6+j]?=(zs[i]?).bind λz=>(B5 z)[j]?:=by
    intro zs
    induction zs with
    |nil=>intro i j _;simp
    |cons z zs ih=>
     intro i j hj
     have e3:(B5 z).length=6:=rfl
     rw[Vw]
     cases i with
     |zero=>rw[UN (by rw[e3];omega)];simp
     |succ i=>
      rw[Vx (by rw[e3];omega),e3,show(i+1)*6+j-6=i*6+j from by omega,ih i j hj]
      simp
   have h3:=get ((List.range len).map Z) (i/6) (i%6) (Nat.mod_lt _ (by omega))
   rw[show i/6*6+i%6=i from by omega]at h3
   rw[h3,U9,List.getElem?_range hq]
   rfl
  .obtain ⟨i,hi,rfl⟩:=U1.1 hz
   exact(hZ i (UW.1 hi)).1
end Go.En
namespace Go.Proofs.Ytmhokapokchneaa
open Go Go.En Go.Pu
theorem R6 {W:V2}{x:IA}(h:GU W x):∃v:Lh,Mw v=B5 x/\J3 W v:=by
 obtain⟨l,hl,hll⟩:=QL x.zs h.wb
 have g3: -9223372036854775808<=x.a3/\x.a3<=9223372036854775807:=by simpa[Lit.wf,IntKind.min,IntKind.max,IntKind.signed,IntKind.bits]using h.w3
 exact⟨⟨⟨x.a0,x.s1,x.s2,x.a3,l,x.ks⟩,x.bv,x.kv⟩,rfl,⟨by show Sl W x.bv (l.map xF);rw[<-hl];exact h.sb,h.sk,h.lk,g3.1⟩⟩
theorem NF{W:V2}:∀xs:List IA,(∀x∈xs,GU W x)->∃acs:List Lh,acs.length=xs.length/\acs.flatMap Mw=xs.flatMap B5/\∀v∈acs,J3 W v
 |[],_=>⟨[],rfl,rfl,λv hv=>(nomatch hv)⟩
 |x::r,h=>by
  obtain⟨v,h1,h2⟩:=R6 (h x UP)
  obtain⟨l,h3,h4,h5⟩:=NF r λy hy=>h y (UC _ hy)
  refine⟨v::l,by rw[UL,h3,UL],by rw[Vw,h1,h4,Vw],λy hy=> ?_⟩
  rcases UD.1 hy with rfl|hy
  .exact h2
  .exact h5 y hy
end Go.Proofs.Ytmhokapokchneaa

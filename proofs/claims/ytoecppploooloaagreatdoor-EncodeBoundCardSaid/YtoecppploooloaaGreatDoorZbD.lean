/- Parts of the proof of EncodeBound: merged and given short names by a program of ours. -/
import Derived.Test.YtoecppploooloaaGreatDoorZbC
set_option linter.unusedVariables false
set_option linter.unusedSimpArgs false
open Array renaming getElem?_eq_getElem → aL4, getD_eq_getD_getElem? → aLM, getElem?_eq_none → aMH, getElem?_setIfInBounds_self_of_lt → aMi, getElem?_setIfInBounds_ne → aMv, length_toList → aNu
open Bool renaming false_eq_true → aLF, and_eq_true → aLQ, not_false → aMD, not_true → aMy
open Int renaming toNat_natCast → aLx, fdiv_eq_ediv_of_nonneg → aMh, tdiv_eq_ediv_of_nonneg → aNm, tmod_eq_emod_of_nonneg → aNn
open List renaming getElem?_append_right → aL0, map_append → aL2, mem_map → aL5, map_cons → aL7, drop_eq_getElem_cons → aL8, nil_append → aL9, set_cons_succ → aLB, take_succ_cons → aLC, length_take → aLD, drop_zero → aLE, getElem?_eq_none → aLH, append_assoc → aLJ, take_zero → aLK, mem_cons_of_mem → aLN, take_of_length_le → aLO, length_drop → aLP, getElem?_map → aLR, length_cons → aLS, getElem_mem → aLT, getElem?_append_left → aLU, getElem?_take_of_lt → aLX, getElem_of_mem → aLY, length_append → aLs, getElem?_eq_getElem → aLt, getElem?_cons_zero → aLu, length_map → aLv, getElem?_cons_succ → aLw, set_cons_zero → aLy, getD_eq_getElem?_getD → aLz, length_set → aM1, getElem?_replicate → aM4, map_set → aM5, getElem?_drop → aMA, mem_singleton → aMB, map_congr_left → aME, take_add_one → aMG, drop_of_length_le → aMI, getElem_cons_succ → aMJ, drop_drop → aMK, sum_cons → aML, getElem?_toArray → aMN, count_append → aMO, ext_getElem? → aMP, getElem_range → aMR, ext_getElem → aMU, take_append_of_le_length → aMW, toList_toArray → aMX, eq_of_mem_replicate → aMY, mem_cons_self → aMa, length_eq_zero_iff → aMc, mem_cons → aMd, append_nil → aMf, length_singleton → aMg, mem_of_getElem? → aMm, all_eq_true → aMn, cons_append → aMo, getElem_map → aMp, mem_append → aMq, mem_range → aMs, set_append_right → aMt, replicate_succ → aMw, mem_of_mem_take → aMx, take_append_drop → aMz, map_nil → aN3, getElem?_set → aN8, getElem_set → aND, drop_succ_cons → aNE, getElem?_range → aNF, countP_append → aNH, drop_left' → aNI, sum_append → aNJ, take_left' → aNK, drop_append_of_le_length → aNO, flatten_cons → aNP, length_range → aNQ, getElem?_eq_some_iff → aNa, getLast?_eq_getElem? → aNb, countP_le_length → aNd, countP_cons → aNe, map_replicate → aNf, map_take → aNg, mem_of_mem_drop → aNh, drop_eq_nil_of_le → aNj, getElem_cons_zero → aNk, take_length → aNv, map_drop → aNx, count_singleton → aNy, set_append_left → aNz, getElem_set_self → aOf, length_nil → aOg
open Nat renaming mul_le_mul_right → aL1, add_zero → aL3, le_refl → aLA, pow_le_pow_right → aLG, zero_add → aLI, lt_or_ge → aLL, mod_eq_of_lt → aLV, two_pow_pos → aLZ, sub_zero → aM0, add_sub_cancel → aM3, mul_one → aM6, eq_zero_or_pos → aMC, pow_add → aMF, add_assoc → aMM, zero_le → aMQ, div_div_eq_div_mul → aMV, div_lt_iff_lt_mul → aMZ, mul_comm → aMb, pow_succ → aMe, min_eq_left → aMk, add_mul → aMl, le_trans → aMu, one_le_two_pow → aN4, succ_mul → aN5, add_sub_cancel_left → aN7, or_lt_two_pow → aN9, mul_div_cancel_left → aNG, mod_lt → aNM, le_div_iff_mul_le → aNU, mul_add → aNW, div_mul_le_self → aNY, sub_self → aNl, lt_of_lt_of_le → aNr, lt_trichotomy → aNt, mul_assoc → aOb, div_le_self → aOi, le_total → aOj, pow_dvd_pow → aOk, zero_mul → aOl
open Option renaming map_some → aL6, isNone_none → aMS, isNone_some → aMT, getD_some → aNw
open Option.some renaming inj → aLW, injEq → aNR
open Prod.mk renaming inj → aNA
open UInt8 renaming toNat_lt → aM7, toNat_ofNat_of_lt' → aN6
namespace Go.Proofs.YtoecppploooloaaGreatDoor
open Go Go.En Go.Pu
set_option maxRecDepth 4000
theorem aHQ{a b:Nat}(ha:a<2^63)(hb:b<2^63):Cq .i64 (a:Int) (b:Int)=((a&&&b:Nat):Int):=by
 unfold Cq
 have e:IntKind.i64.bits=64:=rfl
 have h:=Nat.and_lt_two_pow (n:=63) a hb
 rw[e,BitVec.ofInt_natCast,BitVec.ofInt_natCast,BitVec.toNat_and,BitVec.toNat_ofNat,BitVec.toNat_ofNat,aLV (by omega),aLV (by omega)]
 exact cX (by omega) (by omega)
theorem aIl{v:aOn}{l:List UInt8}{w:aOm}(h:Bs w v l)(h0:0<l.length)(hl:l.length<=100000):
 aK pg oI #[v] w (λr w'=>(∃m:Nat,r= .int .u8 m/\(∀x∈bU l,x<=m)/\m∈bU l)/\w'=w):=by
 refine MX ?_
 obtain⟨b,off,c,rfl,hc,hcell⟩:=aaI h h0
 unfold Ic Cj Ci
 have d0:decide ((l.length:Int)<1)=false:=by simp;omega
 have g0:=hcell 0 h0
 have t0:(0:Int).toNat=0:=rfl
 simp(disch:=omega)only[SV,d0]
 unfold uL Dz
 simp(disch:=omega)only[SV,g0,t0]
 unfold uK uJ Dy mT
 refine aX.rule (λm (t:aOn×aOn) w'=>∃i q:Nat,m=l.length-i/\t=(.int .u8 q,.int .i64 i)/\1<=i/\i<=l.length/\(∀x∈bU (l.take i),x<=q)/\q∈bU (l.take i)/\w'=w) (l.length-1)
  ⟨1,l[0].toNat,by omega,rfl,by omega,by omega, ?_, ?_,rfl⟩ ?_
 .intro x hx
  rw[UH (i:=0) h0]at hx
  simp at hx;omega
 .rw [UH (i:=0) h0];simp
 rintro m t w1 ⟨i,q,rfl,rfl,hi1,hi,hle,hmem,rfl⟩
 unfold uI
 by_cases hlt:i<l.length
 .have d1:decide ((i:Int)<(l.length:Int))=true:=by simp;omega
  have g1:=hcell i hlt
  have ht:=UH hlt
  generalize(l[i]).toNat=x at*
  have hmx:(if(q:Int)<=(x:Int)then(x:Int)else(q:Int))=((max q x:Nat):Int):=by split<;>omega
  have hmx2:(if(x:Int)>(q:Int)then(x:Int)else(q:Int))=((max q x:Nat):Int):=by split<;>omega
  have hmx3:(if(q:Int)<(x:Int)then(x:Int)else(q:Int))=((max q x:Nat):Int):=by split<;>omega
  simp(disch:=omega)only[SV,d1,g1,hmx,hmx2,hmx3]
  refine⟨l.length-(i+1),by omega,i+1,max q x,rfl,rfl,by omega,by omega, ?_, ?_⟩
  .intro y hy
   rw[ht]at hy
   rcases aMq.1 hy with hy|hy
   .have:=hle y hy;omega
   .rw [aMB.1 hy];omega
  .rw [ht,aMq]
   rcases aOj q x with h|h
   .rw [Nat.max_eq_right h];exact .inr (aMB.2 rfl)
   .rw [Nat.max_eq_left h];exact .inl hmem
 .have d1:decide ((i:Int)<(l.length:Int))=false:=by simp;omega
  obtain rfl:i=l.length:=by omega
  rw[aNv]at*
  unfold uH
  simp(disch:=omega)only[SV,d1]
  exact⟨q,rfl,hle,hmem⟩
theorem agK{v:aOn}{l:List UInt8}{w:aOm}(h:Bs w v l)(hl:l.length<=100000):
 aK pg vA #[v] w (λr w'=>r= .int .i64 (fG (bU l):Nat)/\w'=w):=by
 refine XP ?_
 obtain⟨a,n,c,rfl,hn,hc,hh⟩:=id h
 rw[aLv]at hn
 subst hn
 have no:¬(yB 11 (bU l)=true/\2<=(bU l).length/\(bU l).length<=256/\(bU l).getLast?≠some 0/\2^(dQ (bU l)).log2=dQ (bU l)/\(dQ (bU l)).log2<=11/\yB (dQ (bU l)).log2 (bU l)=true)->fG (bU l)=0:=λh=>by
  unfold fG;rw[if_neg h]
 have hnl:=eI l
 unfold WK O2
 refine(aG1 h hl).mono ?_
 rintro r w1 ⟨rfl,rfl⟩
 cases hok:yB 11 (bU l)with
 |false=>
  have:=no (by rw[hok];simp)
  simp(disch:=omega)only[SV]
  rw[this]<;>rfl
 |true=>
  have hw:=acY (zG.1 hok)
  rw[hnl]at hw
  by_cases h2:l.length<2
  .have d2:decide ((l.length:Int)<2)=true:=by simp;omega
   have:=no (by omega)
   simp(disch:=omega)only[SV,d2]
   rw[this]<;>rfl
  have d2:decide ((l.length:Int)<2)=false:=by simp;omega
  by_cases h3:256<l.length
  .have d3:decide ((256:Int)<(l.length:Int))=true:=by simp;omega
   have:=no (by omega)
   simp(disch:=omega)only[SV,d2,d3]
   rw[this]<;>rfl
  have d3:decide ((256:Int)<(l.length:Int))=false:=by simp;omega
  obtain⟨b,off,rfl,hcell⟩:=slA h (by omega)
  have e1:(l.length:Int)-1=((l.length-1:Nat):Int):=by omega
  have g1:=hcell (l.length-1) (by omega)
  rw[aLR,aLt (by omega)]at g1
  simp only[aL6,dR]at g1
  have hla:=aB8 (l:=l) (by omega)
  have hmem:(l[l.length-1]'(by omega)).toNat∈bU l:=aL5.2 ⟨_,aLT _,rfl⟩
  generalize(l[l.length-1]'(by omega)).toNat=x at*
  by_cases h4:x=0
  .have d4:((x:Int)==0)=true:=by rw[h4]<;>rfl
   have:=no (λh=>h.2.2.2.1 (hla.2 h4))
   simp(disch:=omega)only[SV,d2,d3,e1,g1,d4]
   rw[this]<;>rfl
  have d4:((x:Int)==0)=false:=beq_eq_false_iff_ne.2 (by omega)
  have hwp:=awJ hmem
  have hwx:1<=Vw x:=by unfold Vw;rw[if_neg h4];exact aN4
  obtain⟨s,hs⟩:∃s,dQ (bU l)=s:=⟨_,rfl⟩
  rw[hs]at no hw hwp⊢
  have e2:(s:Int)-1=((s-1:Nat):Int):=by omega
  have e3:=aHQ (a:=s) (b:=s-1) (by omega) (by omega)
  have hpw:=aDr s (by omega)
  have hlast:(bU l).getLast?≠some 0:=λh=>h4 (hla.1 h)
  simp only[if_true]
  by_cases h5:s&&&(s-1)=0
  .have d5:(((s&&&(s-1):Nat):Int) !=0)=false:=by rw[h5]<;>rfl
   have hlog:=hpw.1 h5
   have hbl:bl s=s.log2+1:=by unfold bl;rw[if_neg (by omega)]
   have e4:((s.log2+1:Nat):Int)-1=(s.log2:Int):=by omega
   have hb20:bl s<=20:=vC (by omega)
   simp(disch:=omega)only[SV,d2,d3,e1,g1,d4,e2,e3,d5]
   refine(aEi s (by omega) w1).mono ?_
   rintro r w2 ⟨rfl,rfl⟩
   rw[hbl]
   by_cases h6:11<s.log2
   .have d6:decide ((11:Int)<(s.log2:Int))=true:=by simp;omega
    have:=no (by omega)
    simp(disch:=omega)only[SV,e4,d6]
    rw[this]<;>rfl
   have d6:decide ((11:Int)<(s.log2:Int))=false:=by simp;omega
   simp(disch:=omega)only[SV,e4,d6]
   refine(aIl h (by omega) hl).mono ?_
   rintro r w3 ⟨⟨q,rfl,hq1,hq2⟩,rfl⟩
   have hq:=aGp l q hq2
   by_cases h7:s.log2<q
   .have d7:decide ((s.log2:Int)<(q:Int))=true:=by simp;omega
    have:=no (λh=>by have:=zG.1 h.2.2.2.2.2.2 q hq2;omega)
    simp(disch:=omega)only[SV,d7]
    rw[this]<;>rfl
   .have d7:decide ((s.log2:Int)<(q:Int))=false:=by simp;omega
    have hyes:fG (bU l)=s.log2:=by
     unfold fG
     rw[hs,if_pos ⟨hok,by omega,by omega,hlast,hlog,by omega,zG.2 λy hy=>by have:=hq1 y hy;omega⟩]
    simp(disch:=omega)only[SV,d7]
    rw[hyes]
  .have d5:(((s&&&(s-1):Nat):Int) !=0)=true:=by simpa using h5
   have:=no (λh=>h5 (hpw.2 h.2.2.2.2.1))
   simp(disch:=omega)only[SV,d2,d3,e1,g1,d4,e2,e3,d5]
   rw[this]<;>rfl
end Go.Proofs.YtoecppploooloaaGreatDoor
namespace Go.Pu
open Go Go.En
def cc:List (Nat×Nat)->List aOn
 |[]=>[]
 |e::r=> .int .i64 (e.1:Nat):: .int .i64 (e.2:Nat)::cc r
theorem amH:∀L:List (Nat×Nat),(cc L).length=2*L.length
 |[]=>rfl
 |e::r=>by rw[cc,aLS,aLS,amH r,aLS];omega
theorem aAx:∀n:Nat,HZ n [Value.int .i64 0,Value.int .i64 0]=cc (List.replicate n (0,0))
 |0=>rfl
 |n+1=>by
  have:=aAx n
  unfold HZ at*
  rw[aMw,aNP,this,aMw,cc]<;>rfl
theorem aAw:∀{L:List (Nat×Nat)} {i:Nat} (h:i<L.length),((cc L).drop (i*2)).take 2=[.int .i64 (L[i].1:Nat),.int .i64 (L[i].2:Nat)]
 |[],i,h=>by simp at h
 |e::r,0,h=>rfl
 |e::r,i+1,h=>by
  have:=aAw (L:=r) (i:=i) (by simpa using h)
  rw[cc,show(i+1)*2=i*2+1+1 from by omega,aNE,aNE,aMJ]
  exact this
theorem aDA:∀{L:List (Nat×Nat)} {i:Nat} (e:Nat×Nat),i<L.length->((cc L).set (i*2) (.int .i64 (e.1:Nat))).set (i*2+1) (.int .i64 (e.2:Nat))=cc (L.set i e)
 |[],i,e,h=>by simp at h
 |x::r,0,e,h=>rfl
 |x::r,i+1,e,h=>by
  have:=aDA (L:=r) (i:=i) e (by simpa using h)
  rw[cc,show(i+1)*2=i*2+1+1 from by omega,aLB,aLB,aLB,aLB,this,aLB,cc]
def tT(l:List Nat)(d w i:Nat):List (Nat×Nat):=(List.range l.length).map λs=>if l.getD s 0<w∨(l.getD s 0=w/\s<i)then EJ l d s else(0,0)
def jH(l:List Nat)(d:Nat):List (Nat×Nat):=(List.range l.length).map (EJ l d)
theorem fP(l:List Nat)(d w i:Nat):(tT l d w i).length=l.length:=by simp[tT]
theorem AW(l:List Nat)(d:Nat):(jH l d).length=l.length:=by simp[jH]
theorem Xc{l:List Nat}{d s:Nat}(h:s<l.length):(jH l d)[s]?=some (EJ l d s):=by
 unfold jH;rw[aLR,aNF h]<;>rfl
theorem qB{l:List Nat}{d w i s:Nat}(h:s<l.length):(tT l d w i)[s]?=some (if l.getD s 0<w∨(l.getD s 0=w/\s<i)then EJ l d s else(0,0)):=by
 unfold tT;rw[aLR,aNF h]<;>rfl
theorem akZ(l:List Nat)(d:Nat):tT l d 1 0=List.replicate l.length (0,0):=by
 apply aMP
 intro s
 rcases aLL s l.length with h|h
 .rw [qB h,aM4,if_pos h]
  congr 1
  split
  .rename_i hh
   unfold EJ
   rw[if_pos (by omega)]
  .rfl
 .rw [aLH (by rw[fP];exact h),aLH (by simpa using h)]
theorem aoP{l:List Nat}{d w:Nat}:tT l d w l.length=tT l d (w+1) 0:=by
 apply aMP
 intro s
 rcases aLL s l.length with h|h
 .rw [qB h,qB h]
  congr 1
  by_cases hh:l.getD s 0<w+1
  .rw [if_pos (by omega),if_pos (by omega)]
  .rw [if_neg (by omega),if_neg (by omega)]
 .rw [aLH (by rw[fP];exact h),aLH (by rw[fP];exact h)]
theorem asO{l:List Nat}{d w:Nat}(hall:∀x∈l,x<=d)(hw:d<w):tT l d w 0=jH l d:=by
 apply aMP
 intro s
 rcases aLL s l.length with h|h
 .rw [qB h,Xc h,if_pos]
  have:=hall _ (Df h)
  omega
 .rw [aLH (by rw[fP];exact h),aLH (by rw[AW];exact h)]
theorem aoQ{l:List Nat}{d w i:Nat}(h:i<l.length)(hw:l.getD i 0≠w):tT l d w (i+1)=tT l d w i:=by
 apply aMP
 intro s
 rcases aLL s l.length with hs|hs
 .rw [qB hs,qB hs]
  congr 1
  by_cases hsi:s=i
  .subst hsi
   by_cases h1:l.getD s 0<w
   .rw [if_pos (by omega),if_pos (by omega)]
   .rw [if_neg (by omega),if_neg (by omega)]
  .by_cases h1:l.getD s 0<w∨(l.getD s 0=w/\s<i)
   .rw [if_pos (by omega),if_pos h1]
   .rw [if_neg (by omega),if_neg h1]
 .rw [aLH (by rw[fP];exact hs),aLH (by rw[fP];exact hs)]
theorem asP{l:List Nat}{d w i:Nat}(h:i<l.length)(hw:l.getD i 0=w):(tT l d w i).set i (EJ l d i)=tT l d w (i+1):=by
 apply aMP
 intro s
 rw[aN8]
 rcases aLL s l.length with hs|hs
 .by_cases hsi:i=s
  .subst hsi
   rw[if_pos rfl,if_pos (by rw[fP];exact h),qB (i:=i+1) hs,if_pos (by omega)]
  .rw [if_neg hsi,qB (i:=i) hs,qB (i:=i+1) hs]
   congr 1
   by_cases h1:l.getD s 0<w∨(l.getD s 0=w/\s<i)
   .rw [if_pos h1,if_pos (by omega)]
   .rw [if_neg h1,if_neg (by omega)]
 .rw [if_neg (by omega),aLH (by rw[fP];exact hs),aLH (by rw[fP];exact hs)]
def Gq(l:List Nat)(w i:Nat):Nat:=sX l w+(l.take i).count w*2^(w-1)
theorem awX(l:List Nat):Gq l 1 0=0:=by unfold Gq;rw[aiT];simp
theorem amC{l:List Nat}{w:Nat}(h:1<=w):Gq l w l.length=Gq l (w+1) 0:=by
 unfold Gq
 rw[aNv,LJ l w h];simp
theorem amD{l:List Nat}{w i:Nat}(h:i<l.length):Gq l w (i+1)=Gq l w i+(if l.getD i 0=w then 2^(w-1)else 0):=by
 have hg:l.getD i 0=l[i]:=by rw[aLz,aLt h]<;>rfl
 unfold Gq
 rw[aMG,aLt h,aMO,hg]
 simp only[Option.toList,aNy]
 by_cases hw:l[i]=w
 .subst hw;simp[aMl];omega
 .rw [if_neg hw]
  have:(l[i]==w)=false:=by simpa using hw
  rw[this];simp
theorem aAr{l:List Nat}{w i:Nat}(h:l.getD i 0=w):Gq l w i=KR l i:=by unfold Gq KR;rw[h]
theorem aFO{l:List Nat}{d w i:Nat}(hs:dQ l=2^d)(hall:∀x∈l,x<=d)(h1:1<=w)(hw:w<=d):Gq l w i<=2^d:=by
 have h2:Gq l w i<=sX l (w+1):=by
  rw[LJ l w h1]
  unfold Gq
  have hc:(l.take i).count w<=l.count w:=(List.take_sublist _ _).count_le _
  have:=aL1 (2^(w-1)) hc
  omega
 have h3:=Tq (l:=l) (a:=w+1) (b:=d+1) (by omega) (by omega)
 rw[Xo hall,hs]at h3
 omega
end Go.Pu
namespace Go.Proofs.YtoecppploooloaaGreatDoor
open Go Go.En Go.Pu
set_option maxRecDepth 4000
theorem aEm{l:List UInt8}{i:Nat}(h:i<l.length):(bU l).getD i 0=l[i].toNat:=by rw[aLz,auF h]<;>rfl
theorem aAz{v:aOn}{l:List UInt8}{d:Nat}{w:aOm}(h:Bs w v l)(hd:fG (bU l)=d)(hd0:d≠0):
 aK pg pL #[v] w (λr w'=>∃b,r= .tuple #[.slice (some ⟨b,0,none⟩) l.length l.length,.int .i64 0]/\w.heap.size<=b/\aZ w' b (cc (jH (bU l) d))/\aN w w' bJ):=by
 refine KE ?_
 obtain⟨hall,hd11,hl2,hl256,hlast,hsum⟩:=NM hd hd0
 have hnl:=eI l
 obtain⟨b,off,c,rfl,hc,hcell⟩:=aaI h (by omega)
 unfold M1 DP DO
 refine(agK h (by omega)).mono ?_
 rintro r w1 ⟨rfl,rfl⟩
 rw[hd]
 have n1:((d:Int)==0)=false:=beq_eq_false_iff_ne.2 (by omega)
 simp(disch:=omega)only[SV,n1]
 refine Vg (by omega) (by omega) λw2 o2 x2 s2=> ?_
 rw[aLx]at o2⊢
 rw[aAx,<-hnl,<-akZ _ d]at o2
 generalize hpb:w1.heap.size=pb at*
 have hp2:2^d<=2^11:=aLG (by omega) hd11
 unfold DN DL LU xP
 refine aX.rule (λm (t:aOn×aOn) w'=>∃q:Nat,m=d+1-q/\t=(.int .i64 (Gq (bU l) q 0:Nat),.int .i64 q)/\1<=q/\q<=d+1/\aZ w' pb (cc (tT (bU l) d q 0))/\aN w2 w' (λy=>y=pb)) d
  ⟨1,by omega,by rw[awX]<;>rfl,by omega,by omega,o2,aN.refl _ _⟩ ?_
 rintro m t w3 ⟨q,rfl,rfl,hq1,hqd,o3,x3⟩
 unfold DK LS
 by_cases hq:q<=d
 .have d1:decide ((q:Int)<=(d:Int))=true:=by simp;omega
  simp(disch:=omega)only[SV,d1]
  unfold DJ FE OZ
  simp(disch:=omega)only[SV]
  unfold zX
  refine aX.rule (λm (t:aOn×aOn) w'=>∃i:Nat,m=l.length-i/\t=(.int .i64 (Gq (bU l) q i:Nat),.int .i64 i)/\i<=l.length/\aZ w' pb (cc (tT (bU l) d q i))/\aN w2 w' (λy=>y=pb)) l.length
   ⟨0,rfl,rfl,by omega,o3,x3⟩ ?_
  rintro m t w4 ⟨i,rfl,rfl,hi,o4,x4⟩
  unfold FD OY
  by_cases hlt:i<l.length
  .have d2:decide ((i:Int)<(l.length:Int))=true:=by simp;omega
   have h4:Bs w4 _ l:=(h.ext x2 (aU _)).ext x4 (λhb=>(h.old) (vE hb λy hy=>by omega))
   obtain⟨_,_,_,he,_,hcell4⟩:=aaI h4 (by omega)
   cases he
   have g1:=hcell4 i hlt
   have hgd:=aEm hlt
   have hstep:=amD (l:=bU l) (w:=q) (i:=i) (by omega)
   have hskip:=aoQ (l:=bU l) (d:=d) (w:=q) (i:=i) (by omega)
   have hset:=asP (l:=bU l) (d:=d) (w:=q) (i:=i) (by omega)
   have hof:=aAr (l:=bU l) (w:=q) (i:=i)
   have hle:=aFO (l:=bU l) (d:=d) (w:=q) (i:=i) hsum hall hq1 hq
   have hco:EJ (bU l) d i=if(bU l).getD i 0=0 then(0,0)else(d+1-(bU l).getD i 0,KR (bU l) i/2^((bU l).getD i 0-1)):=rfl
   rw[hgd]at hskip hset hstep hof hco
   have hx:(l[i]).toNat<256:=aM7 _
   generalize(l[i]).toNat=x at*
   unfold FC
   by_cases hxq:x=q
   .subst hxq
    have n2:((x:Int) !=(x:Int))=false:=by simp
    have e1:(d:Int)+1-(x:Int)=((d+1-x:Nat):Int):=by omega
    have e2:(x:Int)-1=((x-1:Nat):Int):=by omega
    rw[if_neg (by omega),<-hof rfl]at hco
    rw[if_pos rfl]at hstep
    have hset:=hset rfl
    rw[hco]at hset
    have e3:((Gq (bU l) x i:Nat):Int).fdiv (2^(min (x-1) IntKind.i64.bits))=((Gq (bU l) x i/2^(x-1):Nat):Int):=by
     rw[show min (x-1) IntKind.i64.bits=x-1 from aMk (by have:IntKind.i64.bits=64:=rfl
                                                         omega),aMh _ (Int.pow_nonneg (by omega))]
     simp
    have hdl:=aOi (Gq (bU l) x i) (2^(x-1))
    have hsh:=agA (n:=x-1) (by omega)
    have hpx:2^(x-1)<=2^11:=aLG (by omega) (by omega)
    have e4:((Gq (bU l) x i:Nat):Int)+((2^(x-1):Nat):Int)=((Gq (bU l) x (i+1):Nat):Int):=by omega
    generalize Gq (bU l) x i=at' at*
    generalize at'/2^(x-1)=cd at*
    simp(disch:=omega)only[SV,d2,g1,n2,e1,e2,e3]
    refine acT o4 rfl (by simp[one]) (by rw[amH,fP];simp;omega) λw5 o5 x5 s5=> ?_
    simp only[aT]at o5
    have hcs:=aDA (L:=tT (bU l) d x i) (i:=i) (d+1-x,cd) (by rw[fP];omega)
    simp only at hcs
    rw[hcs,hset]at o5
    simp(disch:=omega)only[SV,e2,hsh,e4]
    exact⟨l.length-(i+1),by omega,i+1,rfl,rfl,by omega,o5,x4.trans x5 λ_ _ h=>h⟩
   .have n2:((x:Int) !=(q:Int))=true:=by simp;omega
    rw[if_neg hxq,aL3]at hstep
    have hskip:=hskip hxq
    simp(disch:=omega)only[SV,d2,g1,n2]
    exact⟨l.length-(i+1),by omega,i+1,rfl,by rw[hstep]<;>rfl,by omega,by rw[hskip];exact o4,x4⟩
  .have d2:decide ((i:Int)<(l.length:Int))=false:=by simp;omega
   obtain rfl:i=l.length:=by omega
   have e1:=amC (l:=bU l) (w:=q) hq1
   rw[hnl]at e1
   have e2:=aoP (l:=bU l) (d:=d) (w:=q)
   rw[hnl]at e2
   rw[e2]at o4
   unfold FB
   simp(disch:=omega)only[SV,d2]
   exact⟨d+1-(q+1),by omega,q+1,rfl,by rw[e1]<;>rfl,by omega,by omega,o4,x4⟩
 .have d1:decide ((q:Int)<=(d:Int))=false:=by simp;omega
  rw[asO hall (by omega)]at o3
  unfold Fz
  simp(disch:=omega)only[SV,d1]
  exact⟨pb,rfl,by omega,o3,x2.trans x3 λ_ hb h=>by omega⟩
theorem amJ{v:aOn}{l:List UInt8}{w:aOm}(h:Bs w v l)(hl:l.length<=100000)(hd:fG (bU l)=0):
 aK pg pL #[v] w (λr w'=>r= .tuple #[.slice none 0 0,.int .i64 1]/\w'=w):=by
 refine KE ?_
 unfold M1 DP DO
 refine(agK h hl).mono ?_
 rintro r w1 ⟨rfl,rfl⟩
 rw[hd]
 have n1:(((0:Nat):Int)==0)=true:=rfl
 simp(disch:=omega)only[SV,n1]
end Go.Proofs.YtoecppploooloaaGreatDoor
namespace Go.Pu
def inE(sym s:Int)(e:Int×Int×Int):Bool:=decide (e.1=sym/\e.2.2<=s/\s<e.2.2+2^e.2.1.toNat)
theorem aHT{log x j:Nat}(h1:2^log<=x)(h2:x<2^(log+1))(hj:j<=log):bl (x/2^j)=log+1-j:=by
 have hp:=aLZ j
 have a:2^(log-j)<=x/2^j:=by
  rw[aNU hp,<-aMF]
  rw[show log-j+j=log from by omega];exact h1
 have b:x/2^j<2^(log-j+1):=by
  rw[aMZ hp,<-aMF]
  rw[show log-j+1+j=log+1 from by omega];exact h2
 rw[aHe a b];omega
theorem aJK{log x k:Nat}(h1:2^log<=x)(h2:x<2^(log+1))(hk1:1<=k)(hk2:k<2^(log+1)):
 (k*2^(log+1-bl k)<=x/\x<(k+1)*2^(log+1-bl k))↔∃j,j<=log/\x/2^j=k:=by
 have hb1:=Pn (k:=k) (by omega)
 have hb2:=vC hk2
 constructor
 .rintro ⟨a,b⟩
  refine⟨log+1-bl k,by omega, ?_⟩
  have hp:=aLZ (log+1-bl k)
  apply Nat.le_antisymm
  .have:=(aMZ hp).2 b;omega
  .exact (aNU hp).2 a
 .rintro ⟨j,hj,rfl⟩
  rw[aHT h1 h2 hj,show log+1-(log+1-j)=j from by omega]
  have hp:=aLZ j
  exact⟨aNY _ _,by rw[aMb];exact Nat.lt_mul_div_succ x hp⟩
theorem aKG{log x q:Nat}(h1:2^log<=x)(h2:x<2^(log+1))(hq1:1<=q)(hq2:q<=2^log):∃j,j<=log/\q<=x/2^j/\x/2^j<2*q:=by
 have key:∀j,j<=log->x/2^j<2*q->∃j,j<=log/\q<=x/2^j/\x/2^j<2*q:=by
  intro j
  induction j with
  |zero=>
   intro _ h
   refine⟨0,by omega, ?_,h⟩
   rw[Nat.pow_zero,Nat.div_one];omega
  |succ j ih=>
   intro hj h
   by_cases hx:x/2^j<2*q
   .exact ih (by omega) hx
   .refine ⟨j+1,hj, ?_,h⟩
    rw[aMe,<-aMV]
    omega
 refine key log (aLA _) ?_
 have:x/2^log<2:=by
  rw[aMZ (aLZ _),aMb,<-aMe];exact h2
 omega
theorem aJL{x q i j:Nat}(hi1:q<=x/2^i)(hi2:x/2^i<2*q)(hj1:q<=x/2^j)(hj2:x/2^j<2*q):x/2^i=x/2^j:=by
 have half:∀{a b:Nat},a<b->x/2^b<=x/2^a/2:=by
  intro a b h
  rw[aMV,<-aMe]
  exact Nat.div_le_div_left (aLG (by omega) h) (aLZ _)
 rcases aNt i j with h|h|h
 .have:=half h;omega
 .rw [h]
 .have:=half h;omega
theorem aGs{S:List Int}{v:Int}:∀(n c:Nat),c<(S.take n).count v->∃i,∃h:i<S.length,i<n/\S[i]=v/\(S.take i).count v=c:=by
 intro n
 induction n with
 |zero=>intro c h;simp at h
 |succ n ih=>
  intro c h
  by_cases hn:n<S.length
  .rw [aMG,aLt hn,aMO]at h
   simp only[Option.toList,aNy]at h
   by_cases hc:c<(S.take n).count v
   .obtain ⟨i,h1,h2,h3,h4⟩:=ih c hc
    exact⟨i,h1,by omega,h3,h4⟩
   .by_cases hv:S[n]=v
    .have:(S[n]==v)=true:=by simpa using hv
     rw[this]at h
     simp only[if_true]at h
     exact⟨n,hn,by omega,hv,by omega⟩
    .have:(S[n]==v)=false:=by simpa using hv
     rw[this]at h
     simp at h;omega
  .rw [aLO (by omega)]at h
   have:=ih c (by rw[aLO (by omega)];exact h)
   obtain⟨i,h1,h2,h3,h4⟩:=this
   exact⟨i,h1,by omega,h3,h4⟩
theorem aEr{S:List Int}{v:Int}{i j:Nat}(hi:i<S.length)(hv:S[i]=v)(hij:i<j):(S.take i).count v<(S.take j).count v:=by
 obtain⟨d,rfl⟩:∃d,j=i+1+d:=⟨j-(i+1),by omega⟩
 rw[List.take_add,aMO,aMG,aLt hi,aMO]
 simp only[Option.toList,aNy]
 have:(S[i]==v)=true:=by simpa using hv
 rw[this];simp;omega
theorem aaJ{log:Nat}{ps:List Int}{i:Nat}(h:i<2^log):(mJ log ps)[i]?=some (Jo log ps (dF 0 log ps) i):=by
 unfold mJ
 rw[aLR,aNF h]<;>rfl
theorem aAO{log:Nat}{ps:List Int}(hm:WS log ps){sy i s:Nat}(hsy:sy<ps.length)(hi:i<2^log)(hs:s<2^log):
 inE (sy:Int) s (Jo log ps (dF 0 log ps) i)=true↔
  ((dF 0 log ps).getD i 0=(sy:Int)/\∃j,j<=log/\(s+2^log)/2^j=(bW ps[sy]).toNat+((dF 0 log ps).take i).count (sy:Int)):=by
 have L:=zA hm 0
 obtain⟨s',hs',hg,hp1,hp2,hk,hc⟩:=abK hm L hi
 generalize hS:dF 0 log ps=S at*
 obtain⟨k,hkk⟩:∃k,k=kAt ps S i:=⟨_,rfl⟩
 rw[<-hkk]at hk
 have hk2:k<2^(log+1):=by rw[aMe];omega
 obtain⟨e1,e2,e3,e4⟩:=aoY (log:=log) (k:=k) (by omega) hk2
 unfold inE Jo QF
 rw[hg,<-hkk]
 simp only[decide_eq_true_eq,aLx]
 have hpow:((2^log:Nat):Int)=(2:Int)^log:=by simp
 have hpow2:((2^(log+1-bl k):Nat):Int)=(2:Int)^(log+1-bl k):=by simp
 rw[<-hpow,<-hpow2]
 have hx1:2^log<=s+2^log:=by omega
 have hx2:s+2^log<2^(log+1):=by rw[aMe];omega
 have hki:=aJK hx1 hx2 (k:=k) (by omega) hk2
 constructor
 .rintro ⟨a,b,c⟩
  have hss:s'=sy:=by omega
  subst hss
  refine⟨rfl, ?_⟩
  rw[<-hk]
  refine hki.1 ⟨by omega, ?_⟩
  rw[aN5];omega
 .rintro ⟨a,j,hj,hje⟩
  have hss:s'=sy:=by omega
  subst hss
  rw[<-hk]at hje
  obtain⟨b,c⟩:=hki.2 ⟨j,hj,hje⟩
  rw[aN5]at c
  exact⟨rfl,by omega,by omega⟩
theorem aGy{log:Nat}{ps:List Int}(hm:WS log ps){sy s:Nat}(hsy:sy<ps.length)(hp:ps[sy]≠0)(hs:s<2^log):
 ∃i,∃hi:i<2^log,inE (sy:Int) s (Jo log ps (dF 0 log ps) i)=true/\∀j,j<2^log->inE (sy:Int) s (Jo log ps (dF 0 log ps) j)=true->j=i:=by
 have L:=zA hm 0
 have hl:=hm.low _ (aLT hsy)
 have hq1:1<=(bW ps[sy]).toNat:=by unfold bW;split<;>omega
 have hq2:=Xu hm hsy
 have hcnt:=L.cnt sy hsy
 obtain⟨j,hj,a,b⟩:=aKG (log:=log) (x:=s+2^log) (q:=(bW ps[sy]).toNat) (by omega) (by rw[aMe];omega) hq1 hq2
 have hfind:=aGs (S:=dF 0 log ps) (v:=(sy:Int)) (2^log) ((s+2^log)/2^j-(bW ps[sy]).toNat) (by
  rw[aLO (by rw[L.len];exact aLA _),hcnt];omega)
 obtain⟨i,h1,h2,h3,h4⟩:=hfind
 have hgd:∀{i} (h:i<(dF 0 log ps).length),(dF 0 log ps).getD i 0=(dF 0 log ps)[i]:=λh=>by rw[aLz,aLt h]<;>rfl
 refine⟨i,h2,(aAO hm hsy h2 hs).2 ⟨by rw[hgd h1,h3],j,hj,by rw[h4];omega⟩,λi' hi' h=> ?_⟩
 obtain⟨g,j',hj',e⟩:=(aAO hm hsy hi' hs).1 h
 have hi'l:i'<(dF 0 log ps).length:=by rw[L.len];exact hi'
 rw[hgd hi'l]at g
 have hclt:=VM hi'l
 rw[g,hcnt]at hclt
 have:=aJL (x:=s+2^log) (q:=(bW ps[sy]).toNat) (i:=j) (j:=j') a b (by omega) (by omega)
 have hceq:((dF 0 log ps).take i').count (sy:Int)=((dF 0 log ps).take i).count (sy:Int):=by omega
 rcases aNt i' i with h|h|h
 .have:=aEr hi'l g h;omega
 .exact h
 .have:=aEr h1 h3 h;omega
end Go.Pu
namespace Go.Pu
open Go Go.En
def wA(k:Nat):List Nat:=if k=0 then[0,1,2,3,4,5,6,7,8,9,10,11,12,13,14,15,16,18,20,22,24,28,32,40,48,64,128,256,512,1024,2048,4096,8192,16384,32768,65536]
 else if k=1 then[1,2,4,8,16,32,64,128,256,512,1024,2048,4096,8192,16384,32768,65536,131072,262144,524288,1048576,2097152,4194304,8388608,16777216,33554432,67108864,134217728,268435456,536870912,1073741824,2147483648]
 else[3,4,5,6,7,8,9,10,11,12,13,14,15,16,17,18,19,20,21,22,23,24,25,26,27,28,29,30,31,32,33,34,35,37,39,41,43,47,51,59,67,83,99,131,259,515,1027,2051,4099,8195,16387,32771,65539]
def lT(k:Nat):List Nat:=if k=0 then[0,0,0,0,0,0,0,0,0,0,0,0,0,0,0,0,1,1,1,1,2,2,3,3,4,6,7,8,9,10,11,12,13,14,15,16]
 else if k=1 then List.range 32
 else[0,0,0,0,0,0,0,0,0,0,0,0,0,0,0,0,0,0,0,0,0,0,0,0,0,0,0,0,0,0,0,0,1,1,1,1,2,2,3,3,4,4,5,7,8,9,10,11,12,13,14,15,16]
abbrev kA(k:Nat):Nat:=(wA k).length
theorem amG{k:Nat}(h:k<3)(c:Nat)(hc:c+1<kA k):(wA k).getD (c+1) 0=(wA k).getD c 0+2^(lT k).getD c 0:=by
 have h0:∀c,c<53->c+1<kA 0->(wA 0).getD (c+1) 0=(wA 0).getD c 0+2^(lT 0).getD c 0:=by decide+kernel
 have h1:∀c,c<53->c+1<kA 1->(wA 1).getD (c+1) 0=(wA 1).getD c 0+2^(lT 1).getD c 0:=by decide+kernel
 have h2:∀c,c<53->c+1<kA 2->(wA 2).getD (c+1) 0=(wA 2).getD c 0+2^(lT 2).getD c 0:=by decide+kernel
 have hl:kA k<=53:=by rcases(show k=0∨k=1∨k=2 by omega)with rfl|rfl|rfl<;>decide
 rcases(show k=0∨k=1∨k=2 by omega)with rfl|rfl|rfl
 .exact h0 c (by omega) hc
 .exact h1 c (by omega) hc
 .exact h2 c (by omega) hc
theorem aAu{k:Nat}(h:k<3)(c:Nat):(lT k).getD c 0<=31:=by
 have:∀x∈lT k,x<=31:=by
  rcases(show k=0∨k=1∨k=2 by omega)with rfl|rfl|rfl<;>decide
 rw[aLz]
 cases hc:(lT k)[c]? with
 |none=>simp
 |some x=>simpa using this x (aMm hc)
theorem aKB{k:Nat}(h:k<3)(c:Nat)(hc:c<kA k):(wA k).getD c 0+2^(lT k).getD c 0<=4294967296:=by
 have h0:∀c,c<53->c<kA 0->(wA 0).getD c 0+2^(lT 0).getD c 0<=4294967296:=by decide+kernel
 have h1:∀c,c<53->c<kA 1->(wA 1).getD c 0+2^(lT 1).getD c 0<=4294967296:=by decide+kernel
 have h2:∀c,c<53->c<kA 2->(wA 2).getD c 0+2^(lT 2).getD c 0<=4294967296:=by decide+kernel
 have hl:kA k<=53:=by rcases(show k=0∨k=1∨k=2 by omega)with rfl|rfl|rfl<;>decide
 rcases(show k=0∨k=1∨k=2 by omega)with rfl|rfl|rfl
 .exact h0 c (by omega) hc
 .exact h1 c (by omega) hc
 .exact h2 c (by omega) hc
def xX(k v c:Nat):Prop:=c<kA k/\(wA k).getD c 0<=v/\v<(wA k).getD c 0+2^(lT k).getD c 0
theorem Nr{k:Nat}(h:k<3):∀{c d:Nat},c<d->d<kA k->(wA k).getD c 0+2^(lT k).getD c 0<=(wA k).getD d 0
 |c,d+1,hcd,hd=>by
  have e:=amG h d (by omega)
  rcases aLL c d with h'|h'
  .have:=Nr h h' (by omega)
   have:=aLZ ((lT k).getD d 0)
   omega
  .have:c=d:=by omega
   subst this;omega
theorem xX.one {k v c d:Nat}(hk:k<3)(hc:xX k v c)(hd:xX k v d):c=d:=by
 rcases aNt c d with h|h|h
 .have:=Nr hk h hd.1;have:=hc.2.2;have:=hd.2.1;omega
 .exact h
 .have:=Nr hk h hc.1;have:=hd.2.2;have:=hc.2.1;omega
theorem xX.lt {k v c:Nat}(hk:k<3)(hc:xX k v c):v<4294967296:=by
 have:=aKB hk c hc.1;have:=hc.2.2;omega
structure Sq where
 ll:Nat
 ml:Nat
 of:Nat
deriving DecidableEq
def sAt(L:List (Int×Int×Int))(s:Int):Nat:=if 0<=s then(match L[s.toNat]? with|some e=>e.1.toNat|none=>0)else 0
def bAt(L:List (Int×Int×Int))(s:Int):Nat:=if 0<=s then(match L[s.toNat]? with|some e=>e.2.1.toNat|none=>0)else 0
def nAt(L:List (Int×Int×Int))(s:Int)(x:Nat):Int:=if 0<=s then(match L[s.toNat]? with|some e=>e.2.2+x|none=>0)else 0
def rdL(B:List Bool)(left:Int)(n:Nat):Nat:=amZ (B.take left.toNat) n
def vR(k:Nat)(L:List (Int×Int×Int))(s:Int)(B:List Bool)(left:Int):Nat×Int:=
 ((wA k).getD (sAt L s) 0+rdL B left ((lT k).getD (sAt L s) 0),left-(lT k).getD (sAt L s) 0)
def nR(L:List (Int×Int×Int))(s:Int)(B:List Bool)(left:Int):Int×Int:=(nAt L s (rdL B left (bAt L s)),left-bAt L s)
def sqR(L0 L1 L2:List (Int×Int×Int))(B:List Bool):Nat->Int->Int->Int->Int->List Sq×Int
 |0,_,_,_,left=>([],left)
 |n+1,s0,s1,s2,left=>
  let o:=vR 1 L1 s1 B left
  let m:=vR 2 L2 s2 B o.2
  let l:=vR 0 L0 s0 B m.2
  if n=0 then([⟨l.1,m.1,o.1⟩],l.2)
  else
   let a:=nR L0 s0 B l.2
   let c:=nR L2 s2 B a.2
   let b:=nR L1 s1 B c.2
   let r:=sqR L0 L1 L2 B n a.1 b.1 c.1 b.2
   (⟨l.1,m.1,o.1⟩::r.1,r.2)
def ValB(k:Nat)(L:List (Int×Int×Int))(s v:Nat)(u:List Bool):Prop:=
 ∃(c:Nat) (e:Int×Int×Int),xX k v c/\L[s]?=some e/\e.1=c/\u=cZ (v-(wA k).getD c 0) ((lT k).getD c 0)
def StB(L:List (Int×Int×Int))(s t:Nat)(u:List Bool):Prop:=
 ∃(e:Int×Int×Int) (n x:Nat),L[s]?=some e/\e.2.1=n/\x<2^n/\e.2.2+(x:Int)=(t:Int)/\u=cZ x n
inductive Enc (L0 L1 L2:List (Int×Int×Int)):List Sq->Nat->Nat->Nat->List Bool->Prop
 |one {q:Sq} {s0 s1 s2:Nat} {v0 v1 v2:List Bool}:ValB 0 L0 s0 q.ll v0->ValB 1 L1 s1 q.of v1->ValB 2 L2 s2 q.ml v2->Enc L0 L1 L2 [q] s0 s1 s2 (v0++v2++v1)
 |cons {q p:Sq} {r:List Sq} {s0 s1 s2 t0 t1 t2:Nat} {B u0 u1 u2 v0 v1 v2:List Bool}:Enc L0 L1 L2 (p::r) t0 t1 t2 B->StB L1 s1 t1 u1->StB L2 s2 t2 u2->StB L0 s0 t0 u0→
  ValB 0 L0 s0 q.ll v0->ValB 1 L1 s1 q.of v1->ValB 2 L2 s2 q.ml v2->Enc L0 L1 L2 (q::p::r) s0 s1 s2 (B++u1++u2++u0++v0++v2++v1)
theorem acF{T B X u:List Bool}{x n:Nat}(hT:T.take (X++u).length=X++u)(hu:u=cZ x n)(hx:x<2^n):rdL T ((X++u).length:Nat) n=x/\(((X++u).length:Nat):Int)-n=((X.length:Nat):Int)/\T.take X.length=X:=by
 subst hu
 have hl:(X++cZ x n).length=X.length+n:=by rw[aLs,bM]
 refine⟨?_,by omega, ?_⟩
 .unfold rdL
  rw[aLx,hT,ayD hx]
 .have:=congrArg (List.take X.length) hT
  rw[List.take_take,aMk (by omega),aMW (aLA _),aLO (aLA _)]at this
  exact this
theorem acW{T X u:List Bool}{k:Nat}{L:List (Int×Int×Int)}{s v:Nat}(h:ValB k L s v u)(hT:T.take (X++u).length=X++u):vR k L s T ((X++u).length:Nat)=(v,((X.length:Nat):Int))/\T.take X.length=X:=by
 obtain⟨c,e,hc,he,hec,hu⟩:=h
 have hs:sAt L s=c:=by unfold sAt;rw[if_pos (by omega)];simp[he,hec]
 obtain⟨h1,h2,h3⟩:=acF (B:=[]) hT hu (by have:=hc.2.2;have:=hc.2.1;omega)
 refine⟨?_,h3⟩
 unfold vR
 rw[hs,h1,h2]
 have:=hc.2.1
 congr 1
 omega
theorem ayG{T X u:List Bool}{L:List (Int×Int×Int)}{s t:Nat}(h:StB L s t u)(hT:T.take (X++u).length=X++u):nR L s T ((X++u).length:Nat)=((t:Int),((X.length:Nat):Int))/\T.take X.length=X:=by
 obtain⟨e,n,x,he,hn,hx,ht,hu⟩:=h
 have hb:bAt L s=n:=by unfold bAt;rw[if_pos (by omega)];simp[he,hn]
 obtain⟨h1,h2,h3⟩:=acF (B:=[]) hT hu hx
 refine⟨?_,h3⟩
 unfold nR
 rw[hb,h1,h2]
 congr 1
 unfold nAt
 rw[if_pos (by omega)]
 simp only[aLx,he]
 exact ht
theorem aDU{L0 L1 L2:List (Int×Int×Int)}{T:List Bool}{qs:List Sq}{s0 s1 s2:Nat}{B:List Bool}(h:Enc L0 L1 L2 qs s0 s1 s2 B):T.take B.length=B->sqR L0 L1 L2 T qs.length s0 s1 s2 (B.length:Nat)=(qs,0):=by
 induction h with
 | @one q s0 s1 s2 v0 v1 v2 h0 h1 h2=>
   intro hT
   obtain⟨a1,a2⟩:=acW h1 hT
   obtain⟨b1,b2⟩:=acW h2 a2
   have b2':T.take ([]++v0).length=[]++v0:=by simpa using b2
   obtain⟨c1,c2⟩:=acW h0 b2'
   rw[aL9]at c1
   show sqR L0 L1 L2 T (0+1) s0 s1 s2 _=_
   rw[sqR]
   simp only[a1,b1,c1,if_true]
   rfl
 | @cons q p r s0 s1 s2 t0 t1 t2 B u0 u1 u2 v0 v1 v2 he g1 g2 g0 h0 h1 h2 ih=>
   intro hT
   obtain⟨a1,a2⟩:=acW h1 hT
   obtain⟨b1,b2⟩:=acW h2 a2
   obtain⟨c1,c2⟩:=acW h0 b2
   obtain⟨d1,d2⟩:=ayG g0 c2
   obtain⟨e1,e2⟩:=ayG g2 d2
   obtain⟨f1,f2⟩:=ayG g1 e2
   have ih:=ih f2
   show sqR L0 L1 L2 T ((r.length+1)+1) s0 s1 s2 _=_
   rw[sqR,if_neg (by omega)]
   simp only[a1,b1,c1,d1,e1,f1]
   rw[show r.length+1=(p::r).length from rfl,ih]
def Y8 (C:List (Nat×Nat)):Nat:=C.foldl (λm e=>max m e.1) 0
theorem auE:∀(C:List (Nat×Nat)) (m:Nat),m<=C.foldl (λm e=>max m e.1) m/\∀e∈C,e.1<=C.foldl (λm e=>max m e.1) m
 |[],m=>⟨aLA _,λe h=>by cases h⟩
 |x::C,m=>by
  obtain⟨h1,h2⟩:=auE C (max m x.1)
  rw[List.foldl_cons]
  refine⟨by omega,λe he=> ?_⟩
  rcases aMd.1 he with rfl|he
  .omega
  .exact h2 e he
theorem apY{C:List (Nat×Nat)}{e:Nat×Nat}(h:e∈C):e.1<=Y8 C:=(auE C 0).2 e h
theorem aEl{d:Nat}:∀{C:List (Nat×Nat)} {m:Nat},m<=d->(∀e∈C,e.1<=d)->C.foldl (λm e=>max m e.1) m<=d
 |[],m,hm,_=>hm
 |x::C,m,hm,h=>by
  rw[List.foldl_cons]
  exact aEl (by have:=h x (aMa ..);omega) λe he=>h e (aLN _ he)
def afG(C:List (Nat×Nat))(m x s:Nat):Bool:=match C[s]? with
 |some e=>decide (0<e.1)&&decide (x/2^(m-e.1)=e.2)
 |none=>false
theorem YM{C:List (Nat×Nat)}{m x s:Nat}:afG C m x s=true↔∃b c,C[s]?=some (b,c)/\0<b/\x/2^(m-b)=c:=by
 unfold afG
 cases h:C[s]? with
 |none=>simp
 |some e=>
  obtain⟨b,c⟩:=e
  simp only[aLQ,decide_eq_true_eq]
  constructor
  .rintro ⟨h1,h2⟩;exact⟨b,c,rfl,h1,h2⟩
  .rintro ⟨b',c',h1,h2,h3⟩;cases h1;exact⟨h2,h3⟩
structure aFN(C:List (Nat×Nat))(m:Nat):Prop where
 le:∀(s b c:Nat),C[s]?=some (b,c)->b<=m/\(0<b->c<2^b)
 ex:∀x,x<2^m->∃s,afG C m x s=true
 un:∀x s t,x<2^m->afG C m x s=true->afG C m x t=true->s=t
 pos:0<m
theorem aA8 {l:List Nat}{w y:Nat}:∀i,i<=l.length->sX l w<=y->y<Gq l w i->∃s,s<l.length/\l.getD s 0=w/\KR l s<=y/\y<KR l s+2^(w-1)
 |0,_,h,hy=>by unfold Gq at hy;simp at hy;omega
 |i+1,hi,h,hy=>by
  rcases aLL y (Gq l w i)with h1|h1
  .exact aA8 i (by omega) h h1
  .rw [amD (by omega)]at hy
   by_cases hw:l.getD i 0=w
   .rw [if_pos hw]at hy
    rw[aAr hw]at hy h1
    exact⟨i,by omega,hw,h1,hy⟩
   .rw [if_neg hw]at hy;omega
theorem aJ4 {l:List Nat}{y:Nat}:∀w,y<sX l (w+1)->∃s,s<l.length/\l.getD s 0≠0/\KR l s<=y/\y<KR l s+2^(l.getD s 0-1)
 |0,hy=>by rw[aiT]at hy;omega
 |w+1,hy=>by
  rcases aLL y (sX l (w+1))with h1|h1
  .exact aJ4 w h1
  .have h2:y<Gq l (w+1) l.length:=by rw[amC (by omega)];unfold Gq;simpa using hy
   obtain⟨s,a,b,c,d⟩:=aA8 l.length (aLA _) h1 h2
   exact⟨s,a,by omega,c,by rw[b];exact d⟩
theorem aHR{l:List Nat}{s d y:Nat}(h:s<l.length)(h0:l.getD s 0≠0)(hs:dQ l=2^d)(hd:l.getD s 0<=d):(KR l s<=y/\y<KR l s+2^(l.getD s 0-1))↔y/2^(l.getD s 0-1)=KR l s/2^(l.getD s 0-1):=by
 obtain⟨q,hq⟩:=aDs h h0 hs hd
 have hp:=aLZ (l.getD s 0-1)
 rw[hq,aNG _ hp]
 generalize 2^(l.getD s 0-1)=p at*
 constructor
 .rintro ⟨h1,h2⟩
  rw[Nat.div_eq_iff hp,aMb]
  omega
 .intro h
  rw[Nat.div_eq_iff hp,aMb q]at h
  omega
theorem So{l:List Nat}{d s b c:Nat}(h:(jH l d)[s]?=some (b,c)):s<l.length/\EJ l d s=(b,c):=by
 have hs:s<l.length:=by
  rcases aLL s l.length with h'|h'
  .exact h'
  .rw [aLH (by rw[AW];exact h')]at h;cases h
 rw[Xc hs]at h
 exact⟨hs,aLW h⟩
theorem axK{l:List Nat}{d:Nat}(hd:fG l=d)(hd0:d≠0):aFN (jH l d) (Y8 (jH l d))/\Y8 (jH l d)<=d:=by
 obtain⟨hall,hd11,hl2,hl256,hlast,hsum⟩:=NM hd hd0
 have hle:Y8 (jH l d)<=d:=aEl (aMQ _) λe he=>by
  obtain⟨s,hs⟩:=List.getElem?_of_mem he
  obtain⟨hsl,hc⟩:=So (b:=e.1) (c:=e.2) hs
  unfold EJ at hc
  split at hc
  .have:=(aNA hc).1;omega
  .have:=(aNA hc).1;omega
 have key:∀x s,afG (jH l d) (Y8 (jH l d)) x s=true↔s<l.length/\l.getD s 0≠0/\(x*2^(d-Y8 (jH l d)))/2^(l.getD s 0-1)=KR l s/2^(l.getD s 0-1):=by
  intro x s
  rw[YM]
  have hx:∀{b:Nat},b<=Y8 (jH l d)->0<b->b=d+1-l.getD s 0->l.getD s 0<=d->l.getD s 0≠0->(x*2^(d-Y8 (jH l d)))/2^(l.getD s 0-1)=x/2^(Y8 (jH l d)-b):=by
   intro b h1 h2 h3 h4 h5
   rw[show l.getD s 0-1=(d-Y8 (jH l d))+(Y8 (jH l d)-b)from by omega,aMF,<-aMV,Nat.mul_div_cancel _ (aLZ _)]
  constructor
  .rintro ⟨b,c,h1,h2,h3⟩
   have hm:=apY (aMm h1)
   obtain⟨hs,hc⟩:=So h1
   unfold EJ at hc
   by_cases h0:l.getD s 0=0
   .rw [if_pos h0]at hc;cases hc;omega
   .rw [if_neg h0]at hc
    obtain⟨hb,hcc⟩:=aNA hc
    have hws:=hall _ (Df hs)
    exact⟨hs,h0,by rw[hx hm h2 hb.symm hws h0,h3,hcc]⟩
  .rintro ⟨hs,h0,h⟩
   have hws:=hall _ (Df hs)
   have hg:=Xc (d:=d) hs
   have hm:=apY (aMm hg)
   have hc:EJ l d s=(d+1-l.getD s 0,KR l s/2^(l.getD s 0-1)):=by unfold EJ;rw[if_neg h0]
   rw[hc]at hg hm
   exact⟨_,_,hg,by omega,by rw[<-hx hm (by omega) rfl hws h0,h]⟩
 have hyx:∀x,x<2^Y8 (jH l d)->x*2^(d-Y8 (jH l d))<2^d:=λx hx=>by
  have:=Nat.mul_lt_mul_of_pos_right hx (aLZ (d-Y8 (jH l d)))
  rwa [<-aMF,show Y8 (jH l d)+(d-Y8 (jH l d))=d from by omega]at this
 have ex:∀x,x<2^Y8 (jH l d)->∃s,afG (jH l d) (Y8 (jH l d)) x s=true:=λx hx=>by
  have h1:=hyx x hx
  rw[<-hsum,<-Xo hall]at h1
  obtain⟨s,a,b,c,e⟩:=aJ4 d h1
  exact⟨s,(key x s).2 ⟨a,b,(aHR a b hsum (hall _ (Df a))).1 ⟨c,e⟩⟩⟩
 refine⟨⟨λs b c h=> ?_,ex,λx s t hx h1 h2=> ?_, ?_⟩,hle⟩
 .have hm:=apY (aMm h)
  refine⟨hm,λhb=> ?_⟩
  obtain⟨hs,hc⟩:=So h
  unfold EJ at hc
  by_cases h0:l.getD s 0=0
  .rw [if_pos h0]at hc;cases hc;omega
  .rw [if_neg h0]at hc
   obtain⟨hb',hcc⟩:=aNA hc
   rw[<-hb',<-hcc]
   exact aBy hs h0 hsum hall
 .obtain ⟨a1,b1,c1⟩:=(key x s).1 h1
  obtain⟨a2,b2,c2⟩:=(key x t).1 h2
  have dv:∀{y p q:Nat},p<=q->y/2^q=y/2^p/2^(q-p):=λ{y p q} h=>by
   rw[aMV,<-aMF,show p+(q-p)=q from by omega]
  refine Decidable.byContradiction λhne=> ?_
  rcases aOj (l.getD t 0) (l.getD s 0)with hle'|hle'
  .refine amI a1 a2 hne b1 b2 hle' hsum hall ?_
   rw[<-c2,<-c1,dv (y:=x*2^(d-Y8 (jH l d))) (p:=l.getD t 0-1) (q:=l.getD s 0-1) (by omega)]
   congr 2;omega
  .refine amI a2 a1 (λh=>hne h.symm) b2 b1 hle' hsum hall ?_
   rw[<-c2,<-c1,dv (y:=x*2^(d-Y8 (jH l d))) (p:=l.getD s 0-1) (q:=l.getD t 0-1) (by omega)]
   congr 2;omega
 .obtain ⟨s,hs⟩:=ex 0 (aLZ _)
  obtain⟨b,c,h1,h2,_⟩:=YM.1 hs
  have:=apY (aMm h1)
  omega
def aA7 (C:List (Nat×Nat))(m x:Nat):Nat:=((List.range C.length).find? (afG C m x)).getD 0
def bitsOf(C:List (Nat×Nat))(s:Nat):Nat:=(C.getD s (0,0)).1
theorem aGi{C:List (Nat×Nat)}{m x s:Nat}(h:afG C m x s=true):s<C.length:=by
 obtain⟨b,c,h1,_⟩:=YM.1 h
 exact(aNa.1 h1).1
theorem aE5 {C:List (Nat×Nat)}{m x s:Nat}(hF:aFN C m)(hx:x<2^m)(h:afG C m x s=true):aA7 C m x=s:=by
 unfold aA7
 cases hf:(List.range C.length).find? (afG C m x)with
 |none=>exact absurd h (List.find?_eq_none.1 hf s (aMs.2 (aGi h)))
 |some t=>exact hF.un x t s hx (List.find?_some hf) h
theorem aBt{C:List (Nat×Nat)}{s b c:Nat}(h:C[s]?=some (b,c)):bitsOf C s=b:=by
 unfold bitsOf;rw[aLz,h]<;>rfl
def aBW(C:List (Nat×Nat))(m:Nat)(B:List Bool):Nat->Int->List Nat×Int
 |0,left=>([],left)
 |n+1,left=>
  let s:=aA7 C m (rdL B left m)
  let r:=aBW C m B n (left-bitsOf C s)
  (s::r.1,r.2)
theorem aEJ(B:List Bool)(left:Int)(n:Nat):rdL B left n<2^n:=aEf _ _
theorem aGK{B:List Bool}{left:Int}(a b:Nat)(h:left<=B.length):rdL B left (a+b)=rdL B left a*2^b+rdL B (left-a) b:=by
 unfold rdL
 obtain⟨k,hk⟩:∃k,left.toNat=k:=⟨_,rfl⟩
 have hkB:k<=B.length:=by omega
 have e2:(left-a).toNat=k-a:=by omega
 rw[hk,e2]
 have l1:(B.take k).length=k:=by rw[aLD];omega
 have l2:(B.take (k-a)).length=k-a:=by rw[aLD];omega
 unfold amZ
 rw[l1,l2]
 rcases aLL a k with h1|h1
 .have hs:B.take k=B.take (k-a)++(B.drop (k-a)).take a:=by
   rw[<-List.take_add];congr 1;omega
  have m1:min a k=a:=by omega
  have hT:(B.take k).drop (k-a)=(B.drop (k-a)).take a:=by
   rw[List.drop_take,show k-(k-a)=a from by omega]
  rw[m1,aNl,Nat.pow_zero,aM6,hT]
  obtain⟨j,hj⟩:∃j,j=min b (k-a):=⟨_,rfl⟩
  have m2:min (a+b) k=a+j:=by omega
  rw[m2,<-hj]
  have hD:(B.take k).drop (k-(a+j))=(B.take (k-a)).drop (k-a-j)++(B.drop (k-a)).take a:=by
   rw[hs,aNO (by rw[l2];omega),show k-(a+j)=k-a-j from by omega]
  rw[hD,adY,aLP,l2,show k-a-(k-a-j)=j from by omega,show a+b-(a+j)=b-j from by omega,aMl]
  rw[Nat.add_comm]
  congr 1
  rw[aOb,aMb (RI _) (2^(b-j)),<-aOb,<-aMF,aMb,show j+(b-j)=b from by omega]
 .have m1:min a k=k:=by omega
  have m2:min (a+b) k=k:=by omega
  have m3:min b (k-a)=0:=by omega
  rw[m1,m2,m3,aNl,show k-a=0 from by omega]
  simp only[aLK,aLE,aM0,List.drop_nil,RI,aOl,aL3]
  rw[aOb,<-aMF,show a-k+b=a+b-k from by omega]
theorem aGL{B:List Bool}{left:Int}{a m:Nat}(h:left<=B.length)(ha:a<=m):rdL B left m/2^(m-a)=rdL B left a/\rdL B left m%2^(m-a)=rdL B (left-a) (m-a):=by
 obtain⟨b,rfl⟩:=Nat.exists_eq_add_of_le ha
 rw[aN7,aGK a b h]
 have hlt:=aEJ B (left-a) b
 constructor
 .rw [aMb,Nat.mul_add_div (aLZ b),Nat.div_eq_of_lt hlt,aL3]
 .rw [aMb,Nat.mul_add_mod,aLV hlt]
def NN(C:List (Nat×Nat)):List Nat->List Bool
 |[]=>[]
 |s::r=>NN C r++cZ (C.getD s (0,0)).2 (C.getD s (0,0)).1
theorem lD{C:List (Nat×Nat)}{m:Nat}(h:∀s,bitsOf C s<=m):∀l:List Nat,(NN C l).length<=m*l.length
 |[]=>by simp[NN]
 |s::r=>by
  rw[NN,aLs,bM,aLS,aNW]
  have:=h s
  have:=lD h r
  unfold bitsOf at*
  omega
theorem aAE{C:List (Nat×Nat)}{m:Nat}{T:List Bool}(hF:aFN C m):∀{l:List Nat},(∀s∈l,0<bitsOf C s)->T.take (NN C l).length=NN C l->aBW C m T l.length ((NN C l).length:Nat)=(l,0)
 |[],_,_=>rfl
 |s::r,hb,hT=>by
  have h0:=hb s (aMa ..)
  have hg:C[s]?=some ((C.getD s (0,0)).1,(C.getD s (0,0)).2):=by
   rw[aLz]
   cases h:C[s]? with
   |none=>unfold bitsOf at h0;rw[aLz,h]at h0;simp at h0
   |some e=>rfl
  obtain⟨hle,hfit⟩:=hF.le _ _ _ hg
  have hfit:=hfit h0
  obtain⟨r1,r2,r3⟩:=acF (B:=[]) hT rfl hfit
  have hTl:((NN C (s::r)).length:Int)<=T.length:=by
   have:=congrArg List.length hT
   rw[aLD]at this
   omega
  have hd:=(aGL (a:=(C.getD s (0,0)).1) (m:=m) hTl hle).1
  rw[aLS,aBW]
  have hlen:(NN C (s::r)).length=(NN C r++cZ (C.getD s (0,0)).2 (C.getD s (0,0)).1).length:=rfl
  rw[hlen]at hd⊢
  rw[r1]at hd
  have hs:aA7 C m (rdL T (((NN C r++cZ (C.getD s (0,0)).2 (C.getD s (0,0)).1).length:Nat):Int) m)=s:=
   aE5 hF (aEJ _ _ _) (YM.2 ⟨_,_,hg,h0,hd⟩)
  simp only[hs,bitsOf,r2]
  rw[aAE hF (λx hx=>hb x (aLN _ hx)) r3]
def fc:List (Nat×Nat)->List aOn
 |[]=>[]
 |e::r=> .int .u8 (e.1:Nat):: .int .i64 (e.2:Nat)::fc r
def aKE(C:List (Nat×Nat))(m s x:Nat):Nat×Nat:=match(List.range s).find? (afG C m x)with
 |some t=>(t,bitsOf C t)
 |none=>(0,0)
def aKQ(C:List (Nat×Nat))(m s:Nat):List (Nat×Nat):=(List.range (2^m)).map (aKE C m s)
end Go.Pu
namespace Go.Proofs.YtoecppploooloaaGreatDoor
open Go Go.En Go.Pu
set_option maxRecDepth 4000
theorem anR{a n:Nat}(hn:n<=62)(h:a*2^n<2^62):IntKind.i64.wrap ((a:Int)*2^(min n IntKind.i64.bits))=((a*2^n:Nat):Int):=by
 have e:IntKind.i64.bits=64:=rfl
 rw[e,aMk (by omega)]
 have:(a:Int)*2^n=((a*2^n:Nat):Int):=by push_cast;rfl
 rw[this]
 exact cX (by omega) (by omega)
theorem aDB{C:List (Nat×Nat)}{i:Nat}{e:Nat×Nat}(h:C[i]?=some e):((cc C).drop (i*2)).take 2=[.int .i64 (e.1:Nat),.int .i64 (e.2:Nat)]:=by
 obtain⟨hi,rfl⟩:=aNa.1 h
 exact aAw hi
def HtV(w:aOm)(base:Nat)(C:List (Nat×Nat))(v:aOn):Prop:=∃b,v= .agg #[.int .i64 (Y8 C:Nat),.slice (some ⟨b,0,none⟩) (2^Y8 C) (2^Y8 C)]/\base<=b/\aZ w b (fc (aKQ C (Y8 C) C.length))
def Bwd(w:aOm)(lo hi:Nat)(l:List UInt8)(left:Int):Prop:=∃v,aZ w hi [v,.int .i64 left]/\Bs w v l/\AtI v lo hi
theorem Bwd.ext {w w':aOm}{lo hi:Nat}{left:Int}{l:List UInt8}{M:Nat->Prop}(h:Bwd w lo hi l left)(hx:aN w w' M)(hM:∀b,lo<=b->b<=hi->¬M b)(hlh:lo<=hi):Bwd w' lo hi l left:=by
 obtain⟨v,h1,h2,h3⟩:=h
 exact⟨v,h1.ext hx (hM _ hlh (aLA _)),h2.ext hx (h3 M λb hb hh=>hM b hb (by omega)),h3⟩
end Go.Proofs.YtoecppploooloaaGreatDoor
namespace Go.En
open Go Go.RowKit
section
variable{P:Program}{w:aOm}{t e:TypeId}{k:IntKind}
end
end Go.En
namespace Go.Proofs.YtoecppploooloaaGreatDoor
open Go Go.En Go.Pu
set_option maxRecDepth 4000
theorem HtV.ext {w w':aOm}{base:Nat}{C:List (Nat×Nat)}{v:aOn}{M:Nat->Prop}(h:HtV w base C v)(x:aN w w' M)(hM:∀b,base<=b->¬M b):HtV w' base C v:=by
 obtain⟨b,h1,h2,h3⟩:=h
 exact⟨b,h1,h2,h3.ext x (hM b h2)⟩
def ZI(C:List (Nat×Nat))(l:List UInt8)(n:Nat):Except Int (List Nat):=match asY l with
 |none=> .error 11
 |some k=>
  if(aBW C (Y8 C) (kO l) n (k:Int)).2<0 then .error 11
  else if 0<(aBW C (Y8 C) (kO l) n (k:Int)).2 then .error 15
  else .ok (aBW C (Y8 C) (kO l) n (k:Int)).1
theorem Zk{a b:Nat}(ha:a<2^62)(hb:b<2^62):orI .i64 (a:Int) (b:Int)=((a|||b:Nat):Int):=by
 have h:=aN9 ha hb
 unfold orI
 have e:IntKind.i64.bits=64:=rfl
 rw[e,BitVec.ofInt_natCast,BitVec.ofInt_natCast,BitVec.toNat_or,BitVec.toNat_ofNat,BitVec.toNat_ofNat,aLV (by omega),aLV (by omega)]
 exact cX (by omega) (by omega)
abbrev wC(wl:List UInt8):List (Nat×Nat):=jH (bU wl) (fG (bU wl))
structure WOk(wl:List UInt8):Prop where
 d0:fG (bU wl)≠0
theorem WOk.full {wl:List UInt8}(h:fG (bU wl)≠0):aFN (wC wl) (Y8 (wC wl))/\Y8 (wC wl)<=11/\(wC wl).length<=256:=by
 obtain⟨h1,h2⟩:=axK rfl h
 have h3:=NM rfl h
 exact⟨h1,aMu h2 h3.2.1,by rw[AW];exact h3.2.2.2.1⟩
def aH8 (wl s:List UInt8)(n:Nat):Except Int (List Nat):=if fG (bU wl)=0 then .error 1 else ZI (wC wl) s n
theorem aEC{n q:Nat}(hn:n<=131072)(hq:q=(n+3)/4)(w:aOm):
 aK pg Ix #[.int .i64 n] w (λr w'=>r= .tuple #[.agg #[.int .i64 (q:Nat),.int .i64 (q:Nat),.int .i64 (q:Nat),.int .i64 ((n:Int)-3*(q:Int))],.bool (decide (3*(q:Int)<=(n:Int)))]/\aN w w' bJ):=by
 refine afH ?_
 unfold aiG Wa
 have e1:(n:Int)+4-1=((n+3:Nat):Int):=by omega
 have e2:((n+3:Nat):Int).tdiv 4=(q:Int):=by rw[aNm (by omega)];omega
 have e3:IntKind.i64.wrap (q:Int)=(q:Int):=cX (by omega) (by omega)
 generalize hK:(λ(t2:aOn) (w:aOm)=>_)=K
 refine agU λw1 o1 x1 s1=> ?_
 simp(disch:=omega)only[SV,hK.symm,e1,e2,e3]
 refine aeD o1 rfl (by simp[one]) (by simp) λw2 o2 x2 s2=> ?_
 refine atU o2 (by simp[aT]) ?_
 simp only[aT,aLy,aLB,aLE,aLC,aLK]
 exact⟨trivial,x1.new x2 (aLA _)⟩
def azS(C:List (Nat×Nat)):List UInt8->List (Nat×Nat)->Except Int (List Nat)
 |_,[]=> .ok []
 |l,(k,n)::r=>match ZI C (l.take k) n with
  | .error e=> .error e
  | .ok m=>(match azS C (l.drop k) r with
    | .error e=> .error e
    | .ok m'=> .ok (m++m'))
def nA(l:List UInt8):Nat:=jW (l.take 2)
def nB(l:List UInt8):Nat:=jW ((l.drop 2).take 2)
def nC(l:List UInt8):Nat:=jW ((l.drop 4).take 2)
def aGj(wl l:List UInt8)(n:Nat):Except Int (List Nat):=
 if fG (bU wl)=0 then .error 1
 else if n<3*((n+3)/4)then .error 11
 else if l.length<6 then .error 10
 else if(l.drop 6).length<nA l+nB l+nC l then .error 10
 else azS (wC wl) (l.drop 6) [(nA l,(n+3)/4),(nB l,(n+3)/4),(nC l,(n+3)/4),((l.drop 6).length-(nA l+nB l+nC l),n-3*((n+3)/4))]
def nx(l:List UInt8):Nat->List UInt8×Int
 |0=>(l,0)
 |i+1=>((D2 (nx l i).1 (nx l i).2 2).2.1,(D2 (nx l i).1 (nx l i).2 2).2.2)
def nv(l:List UInt8)(i:Nat):Nat:=jW (D2 (nx l i).1 (nx l i).2 2).1
def l4 (l:List UInt8)(i:Nat)(d:Int):List aOn:=[.int .i64 (if 0<i then nv l 0 else 0:Nat),.int .i64 (if 1<i then nv l 1 else 0:Nat),.int .i64 (if 2<i then nv l 2 else 0:Nat),.int .i64 d]
theorem Oy{w:aOm}{base base' sz n:Nat}{v:aOn}{l:List aOn}(h:pC w base sz v n l)(hb:base'<=base):pC w base' sz v n l:=by
 rcases h.2 with h0|⟨b,c,rest,h1,h2,h3⟩
 .exact ⟨h.1,.inl h0⟩
 .exact ⟨h.1,.inr ⟨b,c,rest,h1,by omega,h3⟩⟩
theorem PY{a b:Nat}(k:Nat)(h:b<2^k):a*2^k|||b=a*2^k+b:=by
 rw[<-Nat.shiftLeft_eq,Nat.shiftLeft_add_eq_or_of_lt h]
def qZ(k n:Nat):List UInt8:=if n<32 then dM (n*8+k) 1 else if n<4096 then dM (n*16+4+k) 2 else dM (n*16+12+k) 3
theorem P0 (k n:Nat):(qZ k n).length<=3:=by
 unfold qZ;split
 .simp [bS]
 .split<;>simp[bS]
theorem aiR{k n:Nat}{w:aOm}(hk:k<2)(hn:n<=131072):
 aK pg sB #[.int .i64 k,.int .i64 n] w (λr w'=>pC w' w.heap.size 1 r (qZ k n).length ((qZ k n).map dR)/\aN w w' bJ):=by
 refine Vf ?_
 obtain⟨RR,hRR⟩:∃RR:aOn->aOm->Prop,RR=λr w'=>pC w' w.heap.size 1 r (qZ k n).length ((qZ k n).map dR)/\aN w w' bJ:=⟨_,rfl⟩
 rw[<-hRR]
 unfold Tp LH LG
 refine(EL w).mono ?_
 rintro r w1 ⟨rfl,hlt,hc1,x1⟩
 have z1:=x1.size
 have fin:∀(X m:Nat) (w2:aOm),X<2^40->1<=m->m<=8->dM X m=qZ k n->w2=w1→
     aK pg bA #[.pointer (some ⟨w.heap.size,0,none⟩),.int .u64 X,.int .i64 m] w2 λ_ w'=>xI RR (.pointer (some ⟨w.heap.size,0,none⟩)) w':=by
  intro X m w2 hX h1 h8 hp hw
  subst hw
  refine(lB (n:=m) hc1 (λb hb=>by omega) (Nat.lt_trans hX (by decide)) ⟨h1,h8⟩ (aMQ _)).mono ?_
  rintro r w3 ⟨rfl,hc3,x3⟩
  rw[aL9,hp]at hc3
  have hpl:(qZ k n).length<=8:=by rw[<-hp,bS];exact h8
  unfold xI
  have hpl2:(qZ k n).length<=1000000000:=aMu hpl (by decide)
  have hout:=NA hc3 hpl2
  refine hout.mono ?_
  rintro r w4 ⟨o4,x4⟩
  have x03:aN w w3 bJ:=x1.trans x3 λy hy h=>by omega
  have z3:=x03.size
  have hfin:pC w4 w.heap.size 1 r (qZ k n).length ((qZ k n).map dR)/\aN w w4 bJ:=⟨Oy o4 z3,x03.seq x4⟩
  rw[hRR]
  exact hfin
 have t3:(3:Int).toNat=3:=rfl
 have t4:(4:Int).toNat=4:=rfl
 have p3:(2:Nat)^3=8:=rfl
 have p4:(2:Nat)^4=16:=rfl
 by_cases h1:n<32
 .have d1:decide ((n:Int)<32)=true:=decide_eq_true (by omega)
  have e1:=anR (a:=n) (n:=3) (by omega) (by omega)
  have e2:orI .i64 ((n*2^3:Nat):Int) (k:Int)=((n*8+k:Nat):Int):=by
   rw[Zk (by omega) (by omega),PY 3 (by omega)]
  have e3:IntKind.u64.wrap ((n*8+k:Nat):Int)=((n*8+k:Nat):Int):=gP (by omega) (by omega)
  simp(disch:=omega)only[SV,d1,t3,e1,e2,e3]
  exact fin (n*8+k) 1 _ (by omega) (by omega) (by omega) (by unfold qZ;rw[if_pos h1]) rfl
 have d1:decide ((n:Int)<32)=false:=decide_eq_false (by omega)
 have e1:=anR (a:=n) (n:=4) (by omega) (by omega)
 by_cases h2:n<4096
 .have d2:decide ((n:Int)<4096)=true:=decide_eq_true (by omega)
  have e2:orI .i64 ((n*2^4:Nat):Int) 4=((n*16+4:Nat):Int):=by
   have:=Zk (a:=n*2^4) (b:=4) (by omega) (by omega)
   rw[PY 4 (by omega)]at this
   exact this
  have e3:orI .i64 ((n*16+4:Nat):Int) (k:Int)=((n*16+4+k:Nat):Int):=by
   rw[Zk (by omega) (by omega),show n*16+4=(n*4+1)*2^2 from by omega,PY 2 (by omega)]
  have e4:IntKind.u64.wrap ((n*16+4+k:Nat):Int)=((n*16+4+k:Nat):Int):=gP (by omega) (by omega)
  simp(disch:=omega)only[SV,d1,d2,t4,e1,e2,e3,e4]
  exact fin (n*16+4+k) 2 _ (by omega) (by omega) (by omega) (by unfold qZ;rw[if_neg h1,if_pos h2]) rfl
 .have d2:decide ((n:Int)<4096)=false:=decide_eq_false (by omega)
  have e2:orI .i64 ((n*2^4:Nat):Int) 12=((n*16+12:Nat):Int):=by
   have:=Zk (a:=n*2^4) (b:=12) (by omega) (by omega)
   rw[PY 4 (by omega)]at this
   exact this
  have e3:orI .i64 ((n*16+12:Nat):Int) (k:Int)=((n*16+12+k:Nat):Int):=by
   rw[Zk (by omega) (by omega),show n*16+12=(n*4+3)*2^2 from by omega,PY 2 (by omega)]
  have e4:IntKind.u64.wrap ((n*16+12+k:Nat):Int)=((n*16+12+k:Nat):Int):=gP (by omega) (by omega)
  simp(disch:=omega)only[SV,d1,d2,t4,e1,e2,e3,e4]
  exact fin (n*16+12+k) 3 _ (by omega) (by omega) (by omega) (by unfold qZ;rw[if_neg h1,if_neg h2]) rfl
theorem aEj{v:aOn}{l:List UInt8}{w:aOm}(h:Bs w v l)(hl:l.length<=131072):
 aK pg Cy #[v] w (λr w'=>∃x,r= .tuple #[x,.int .i64 0]/\pC w' w.heap.size 1 x (qZ 0 l.length++l).length ((qZ 0 l.length++l).map dR)/\aN w w' bJ):=by
 refine YZ ?_
 unfold YY QZ
 have hv:=h
 obtain⟨a,c,rfl,hc⟩:=h.len
 rw[aLv]at*
 have d1:decide ((l.length:Int)>131072)=false:=decide_eq_false (by omega)
 have d2:decide ((131072:Int)<(l.length:Int))=false:=decide_eq_false (by omega)
 simp(disch:=omega)only[SV,d1,d2]
 refine(aiR (k:=0) (n:=l.length) (by omega) hl).mono ?_
 rintro r w1 ⟨o1,x1⟩
 have z1:=x1.size
 have hcl:=(hv.ext x1 (aU _)).cl
 rw[aLv]at hcl
 have hp:=P0 0 l.length
 refine dH o1 hcl (BF _) z1 (by omega) λv2 w2 o2 x2=> ?_
 refine⟨v2,rfl, ?_,x1.trans x2 λy hy h=>by omega⟩
 rw[aLs,aL2]
 exact o2
theorem aB7 {c:UInt8}{n:Nat}{w:aOm}(hn:n<=131072):
 aK pg Bi #[dR c,.int .i64 n] w (λr w'=>∃x,r= .tuple #[x,.int .i64 0]/\pC w' w.heap.size 1 x (qZ 1 n++[c]).length ((qZ 1 n++[c]).map dR)/\aN w w' bJ):=by
 refine Xn ?_
 unfold Wj Of
 have d0:decide ((n:Int)<0)=false:=decide_eq_false (by omega)
 have d1:decide ((n:Int)>131072)=false:=decide_eq_false (by omega)
 have d2:decide ((131072:Int)<(n:Int))=false:=decide_eq_false (by omega)
 simp(disch:=omega)only[SV,d0,d1,d2]
 refine(aiR (k:=1) (n:=n) (by omega) hn).mono ?_
 rintro r w1 ⟨o1,x1⟩
 have z1:=x1.size
 have hp:=P0 1 n
 refine iM (cells:= #[dR c]) (by decide) (by decide) (by kernel_rfl) λw2 o2 x2 s2=> ?_
 have z2:=x2.size
 refine dH (m:=1) (news:=[dR c]) (o1.ext x2 (λ_ _ h=>h)) (o2.cl (off:=0) (l:=[dR c]) (n:=1) rfl (λi hi=>by rw[aLI])) (by simp[one,dR]) (by omega) (by omega) λv2 w3 o3 x3=> ?_
 refine⟨v2,rfl, ?_,(x1.seq x2).trans x3 λy hy h=>by omega⟩
 rw[aLs,aL2]
 exact o3
end Go.Proofs.YtoecppploooloaaGreatDoor
namespace Go.En
open Go
section
variable{P:Program}
theorem ahR{a:Array aOn}{t x:Nat}{v:aOn}(h:t<a.size):RE (a.setIfInBounds t v) x=if x=t then v else RE a x:=by
 unfold RE
 rw[aLM,aLM]
 by_cases hx:x=t
 .subst hx;rw[aMi h,if_pos rfl]<;>rfl
 .rw [aMv (λe=>hx e.symm),if_neg hx]
theorem aBQ{N x:Nat}{g:Env}(h:x<N):RE (tmpsOf N g) x=g x:=by
 unfold RE tmpsOf
 rw[aLM,aL4 (by simpa using h)]
 simp
theorem agO{f:FuncId}{fn:Func}(hf:P.funcs[f]?=some fn)(hb:fn.body.isSome=true)(hn:(fn.name== "runtime.NumGoroutine")=false)(cap:Array aOn)(args:List aOn)(w:aOm):
 (BL (.func (.func f) #[] cap) args).run P w= .ok (.enter f (args.toArray++cap)) w:=by
 unfold BL Deferred.ofValue
 simp only[pure_bind,invoke,Array.empty_append]
 exact Yc hf hb hn _ _
def ajN(r:Loop)(args:List aOn):Array aOn:=(r.params.zip args.toArray).foldl (λtmps (t,a)=>tmps.setIfInBounds t a) r.tmps
theorem aGM{r:Loop}{a b:Tmp}{t:Array aOn}(hp:r.params= #[a,b])(ht:r.tmps=t)(x y:aOn):ajN r [x,y]=(t.setIfInBounds a x).setIfInBounds b y:=by
 unfold ajN;rw[hp,ht];simp
theorem aGJ{l:Nat}{r:Loop}{args:List aOn}{w:aOm}(h:w.heap[l]?=some (.loop r))(hs:args.length=r.params.size):
 (BL (KO l) args).run P w= .ok (.round l r.fn (ajN r args) r.assign r.body) w:=by
 unfold BL KO Deferred.ofValue
 simp only[pure_bind,invoke,Array.empty_append]
 exact run_yield h (by simpa using hs)
theorem aDl{f fi:FuncId}{fn:Func}{gf:Operand}{ps:Array Tmp}{aLr bd:Code}{Q:Exit->Env->aOm->Prop}{g:Env}{w:aOm}{cap:Array aOn}
 (hm:noMark (g DS)=true) (he:ev g gf= .func (.func fi) #[] cap) (hf:P.funcs[fi]?=some fn) (hb:fn.body.isSome=true) (hn:(fn.name== "runtime.NumGoroutine")=false)
 (h:aK P fi (#[KO (w.heap.size+1)]++cap) (rfW f (abZ P f) ps aLr bd g w) λ_ w3=>aDm (w.heap.size+1) Q (put g (some DS) (.pointer (some ⟨w.heap.size,0,none⟩))) w3):
 RF P f gf ps aLr bd Q g w:=by
 unfold RF
 rw[hm]
 simp only
 rw[he,agO hf hb hn]
 exact h
theorem aN.putObj (w:aOm)(l:Nat)(o:Obj):aN w (w.putObj l o) (λy=>y=l):=
 ⟨rfl,rfl,rfl,by simp,λb hb hM=>World.putObj_heap_other hM⟩
theorem EY{w w':aOm}{l:Nat}{o:Obj}{M:Nat->Prop}(h:w.heap[l]?=some o)(hx:aN w w' M)(hM:¬M l):w'.heap[l]?=some o:=by
 have:l<w.heap.size:=by
  rcases aLL l w.heap.size with h'|h'
  .exact h'
  .rw [aMH h']at h;cases h
 rw[hx.keep l this hM];exact h
theorem aHr{w:aOm}{l:Nat}{o:Obj}(h:w.heap[l]?=some o):l<w.heap.size:=by
 rcases aLL l w.heap.size with h'|h'
 .exact h'
 .rw [aMH h']at h;cases h
theorem aCv(f:FuncId)(N:Nat)(ps:Array Tmp)(aLr bd:Code)(g:Env)(w:aOm):
 aN w (rfW f N ps aLr bd g w) bJ/\(rfW f N ps aLr bd g w).heap.size=w.heap.size+2/\(rfW f N ps aLr bd g w).heap[w.heap.size]?=some (.deferred (some []))/\
  (rfW f N ps aLr bd g w).heap[w.heap.size+1]?=some (.loop {state:= .ready,pending:=none,fn:=f,tmps:=tmpsOf N g,params:=ps,assign:=aLr,body:=bd,defers:=w.heap.size}):=by
 unfold rfW
 have x1:=aN.alloc w (.deferred (some [])) bJ
 have h1:=World.alloc_heap_new w (.deferred (some []))
 have z1:(w.alloc (.deferred (some []))).heap.size=w.heap.size+1:=by simp
 generalize w.alloc (.deferred (some []))=w1 at*
 refine⟨x1.seq (aN.alloc w1 _ bJ),by simp[z1],EY h1 (aN.alloc w1 _ bJ) (λh=>h), ?_⟩
 have:=World.alloc_heap_new w1 (.loop {state:= .ready,pending:=none,fn:=f,tmps:=tmpsOf N g,params:=ps,assign:=aLr,body:=bd,defers:=w.heap.size})
 rw[z1]at this
 exact this
theorem aCp{l:Nat}{r:Loop}{w:aOm}{K:aOm->Prop}(h:w.heap[l]?=some (.loop r))(hr:r.state= .ready)
 (hk:∀w',w'.heap[l]?=some (.loop {r with state:= .busy})->aN w w' (λy=>y=l)->w'.heap.size=w.heap.size->K w'):Rdy l w K:=
 ⟨r,h,hr,hk _ (World.putObj_heap_same (aHr h)) (aN.putObj _ _ _) (by simp)⟩
theorem ajM{l:Nat}{r:Loop}{j:Option Code}{w:aOm}{R:aOn->aOm->Prop}(h:w.heap[l]?=some (.loop r))
 (hk:∀w',w'.heap[l]?=some (.loop {r with state:=jSt j,pending:=j})->aN w w' (λy=>y=l)->w'.heap.size=w.heap.size->R (.bool j.isNone) w'):arV l j R w:=
 ⟨r,h,hk _ (World.putObj_heap_same (aHr h)) (aN.putObj _ _ _) (by simp)⟩
theorem aeC{l:Nat}{r:Loop}{w:aOm}{Q:Exit->Env->aOm->Prop}{g:Env}(h:w.heap[l]?=some (.loop r))(hb:r.state≠.busy)
 (hk:∀w',aN w w' (λy=>y=l)->w'.heap.size=w.heap.size->aHY Q g r.pending w'):aDm l Q g w:=
 ⟨r,h,hb,hk _ (aN.putObj _ _ _) (by simp)⟩
theorem ajW{b:Nat}{w:aOm}{K:aOm->Prop}(h:w.heap[b]?=some (.deferred (some [])))(hk:∀w',aN w w' (λy=>y=b)->w'.heap.size=w.heap.size->K w'):
 EB (.pointer (some ⟨b,0,none⟩)) w K:=⟨h,hk _ (aN.putObj _ _ _) (by simp)⟩
theorem azA{f:FuncId}(first captured:List aOn)(w:aOm):(ajT (.func f) first captured).run P w= .ok (.value (.func (.func f) first.toArray captured.toArray)) w:=by
 unfold ajT V Instr.makeFunc
 simp[Sem.run_bind,Sem.run_pure]
end
end Go.En
namespace Go.Proofs.YtoecppploooloaaGreatDoor
open Go Go.En Go.Pu
set_option maxRecDepth 4000
theorem aIj:dM 4247762216 4=[40,181,47,253]:=by decide
theorem apD{n:Nat}{s:Bool}{w:aOm}(hn:n<65792):
 aK pg FQ #[.int .u64 (n:Nat),.bool s] w (λr w'=>pC w' w.heap.size 1 r (Dp n s).length ((Dp n s).map dR)/\aN w w' bJ):=by
 refine aaW ?_
 obtain⟨RR,hRR⟩:∃RR:aOn->aOm->Prop,RR=λr w'=>pC w' w.heap.size 1 r (Dp n s).length ((Dp n s).map dR)/\aN w w' bJ:=⟨_,rfl⟩
 rw[<-hRR]
 unfold adP S0 SZ Jv SY
 have fin:∀(d m less:Nat),d<256->1<=m/\m<=2->less<=n->[40,181,47,253]++dM d 1++dM (n-less) m=Dp n s->C8 RR (.int .u64 (n:Nat)) (.int .u64 (d:Nat)) (.int .i64 (m:Nat)) (.int .u64 (less:Nat)) w:=by
  intro d m less hd hm hle he
  unfold C8
  refine(EL w).mono ?_
  rintro r w1 ⟨rfl,hlt,h1,x1⟩
  have z1:=x1.size
  have e1:(n:Int)-(less:Int)=((n-less:Nat):Int):=by omega
  refine(lB (x:=4247762216) (n:=4) h1 (λb hb=>by omega) (by decide) ⟨by omega,by omega⟩ (by simp)).mono ?_
  rintro r w2 ⟨rfl,h2,x2⟩
  have z2:=x2.size
  rw[aL9,aIj]at h2
  refine(lB (x:=d) (n:=1) h2 (λb hb=>by omega) (by omega) ⟨by omega,by omega⟩ (by simp)).mono ?_
  rintro r w3 ⟨rfl,h3,x3⟩
  have z3:=x3.size
  simp(disch:=omega)only[SV,e1]
  refine(lB (x:=n-less) (n:=m) h3 (λb hb=>by omega) (by omega) ⟨by omega,by omega⟩ (by simp[bS])).mono ?_
  rintro r w4 ⟨rfl,h4,x4⟩
  rw[he]at h4
  refine(NA h4 (by have:=ajH n s;omega)).mono ?_
  rintro r w5 ⟨o5,x5⟩
  have x04:aN w w4 bJ:=((x1.trans x2 λy hy h=>by omega).trans x3 λy hy h=>by omega).trans x4 λy hy h=>by omega
  rw[hRR]
  exact⟨Oy o5 x04.size,x04.seq x5⟩
 have o1:orI .u64 32 64=96:=by decide
 have o2:orI .u64 32 4=36:=by decide
 have o3:orI .u64 96 4=100:=by decide
 by_cases h1:n<256
 .have d1:decide ((n:Int)<256)=true:=decide_eq_true (by omega)
  cases s with
  |true=>
   simp(disch:=omega)only[SV,d1,o1,o2,o3]
   exact fin 36 1 0 (by omega) (by omega) (by omega) (by unfold Dp;rw[if_pos h1]<;>rfl)
  |false=>
   simp(disch:=omega)only[SV,d1,o1,o2,o3]
   exact fin 32 1 0 (by omega) (by omega) (by omega) (by unfold Dp;rw[if_pos h1]<;>rfl)
 .have d1:decide ((n:Int)<256)=false:=decide_eq_false (by omega)
  have d2:decide ((n:Int)<65792)=true:=decide_eq_true (by omega)
  cases s with
  |true=>
   simp(disch:=omega)only[SV,d1,d2,o1,o2,o3]
   exact fin 100 2 256 (by omega) (by omega) (by omega) (by unfold Dp;rw[if_neg h1]<;>rfl)
  |false=>
   simp(disch:=omega)only[SV,d1,d2,o1,o2,o3]
   exact fin 96 2 256 (by omega) (by omega) (by omega) (by unfold Dp;rw[if_neg h1]<;>rfl)
theorem aFP(x:Nat):dM x 3=b3 x:=by
 unfold b3
 simp only[dM]
 rw[show x/256/256=x/65536 from by omega]
theorem arC{k z:Nat}{t:Bool}{w:aOm}(hk:k<=2)(hz:z<2097152):
 aK pg tI #[.agg #[.bool t,.int .i64 (k:Nat),.int .i64 (z:Nat)]] w (λr w'=>∃v,r= .tuple #[v,.int .i64 0]/\pC w' w.heap.size 1 v 3 ((b3 (8*z+2*k+if t then 1 else 0)).map dR)/\aN w w' bJ):=by
 refine RG ?_
 obtain⟨RR,hRR⟩:∃RR:aOn->aOm->Prop,RR=λr w'=>∃v,r= .tuple #[v,.int .i64 0]/\pC w' w.heap.size 1 v 3 ((b3 (8*z+2*k+if t then 1 else 0)).map dR)/\aN w w' bJ:=⟨_,rfl⟩
 rw[<-hRR]
 unfold Ob HW HV
 refine fC λw1 o1 x1 s1=> ?_
 have o1:aZ w1 w.heap.size [.bool t,.int .i64 (k:Nat),.int .i64 (z:Nat)]:=o1
 obtain⟨p,hp⟩:∃p,p=w.heap.size:=⟨_,rfl⟩
 rw[<-hp]at o1⊢
 have c0:w1.cell? ⟨p,0,none⟩=some (.bool t):=o1.cell (off:=0)
 have c1:w1.cell? ⟨p,1,none⟩=some (.int .i64 (k:Nat)):=o1.cell (off:=1)
 have c2:w1.cell? ⟨p,2,none⟩=some (.int .i64 (z:Nat)):=o1.cell (off:=2)
 have fin:∀X:Nat,X=8*z+2*k+(if t then 1 else 0)->rO RR (.int .i64 (X:Nat)) w1:=by
  intro X hX
  unfold rO
  refine(EL w1).mono ?_
  rintro r w2 ⟨rfl,hlt,h1,x2⟩
  have z2:=x2.size
  have hXb:X<2^25:=by rw[hX];split<;>omega
  have e1:IntKind.u64.wrap (X:Int)=(X:Int):=gP (by omega) (by omega)
  simp(disch:=omega)only[SV,e1]
  refine(lB (x:=X) (n:=3) h1 (λb hb=>by omega) (by omega) ⟨by omega,by omega⟩ (by simp)).mono ?_
  rintro r w3 ⟨rfl,h3,x3⟩
  rw[aL9,aFP,hX]at h3
  refine(NA h3 (by simp[b3])).mono ?_
  rintro r w4 ⟨o4,x4⟩
  have x03:aN w w3 bJ:=(x1.seq x2).trans x3 λy hy h=>by omega
  rw[hRR]
  exact⟨r,rfl,Oy o4 x03.size,x03.seq x4⟩
 have d1:decide (((k:Nat):Int)<0)=false:=decide_eq_false (by omega)
 have d2:decide ((2:Int)<((k:Nat):Int))=false:=decide_eq_false (by omega)
 have d3:decide (((z:Nat):Int)<0)=false:=decide_eq_false (by omega)
 have d4:decide ((2097152:Int)<=((z:Nat):Int))=false:=decide_eq_false (by omega)
 have t3:(3:Int).toNat=3:=rfl
 have t1:(1:Int).toNat=1:=rfl
 have e1:=anR (a:=z) (n:=3) (by omega) (by omega)
 have e2:=anR (a:=k) (n:=1) (by omega) (by omega)
 have e3:orI .i64 ((z*2^3:Nat):Int) ((k*2^1:Nat):Int)=((z*2^3+k*2^1:Nat):Int):=by
  rw[Zk (by omega) (by omega),PY 3 (by omega)]
 have e4:orI .i64 ((z*2^3+k*2^1:Nat):Int) 1=((z*2^3+k*2^1+1:Nat):Int):=by
  have:=Zk (a:=z*2^3+k*2^1) (b:=1) (by omega) (by omega)
  rw[show z*2^3+k*2^1=(z*4+k)*2^1 from by omega,PY 1 (by omega)]at this
  rw[show z*2^3+k*2^1=(z*4+k)*2^1 from by omega]
  exact this
 cases t with
 |true=>
  simp(disch:=omega)only[SV,c0,c1,c2,d1,d2,d3,d4,t3,t1,e1,e2,e3,e4]
  exact fin _ (by simp;omega)
 |false=>
  simp(disch:=omega)only[SV,c0,c1,c2,d1,d2,d3,d4,t3,t1,e1,e2,e3,e4]
  exact fin _ (by simp;omega)
def BC(l:List UInt8):Bool:=match l with|[]=>false|c::r=>r.all (·==c)
theorem awR{l:List UInt8}(h0:0<l.length)(h:∀i (hi:i<l.length),l[i]=l[0]):BC l=true:=by
 cases l with
 |nil=>cases h0
 |cons c r=>
  simp only[BC,aMn,beq_iff_eq]
  intro x hx
  obtain⟨i,hi,rfl⟩:=aLY hx
  exact h (i+1) (by simpa using hi)
theorem aBn{l:List UInt8}{i:Nat}(hi:i<l.length)(h:l[i]≠l[0]):BC l=false:=by
 cases l with
 |nil=>cases hi
 |cons c r=>
  cases hq:BC (c::r)with
  |false=>rfl
  |true=>
   simp only[BC,aMn,beq_iff_eq]at hq
   cases i with
   |zero=>exact absurd rfl h
   |succ i=>exact absurd (hq _ (aLT (by simpa using hi))) h
theorem aAo{v:aOn}{l:List UInt8}{w:aOm}(hb:Bs w v l)(hl:l.length<=100000000):
 aK pg xY #[v] w (λr w'=>r= .bool (BC l)/\aN w w' bJ):=by
 refine Yt ?_
 obtain⟨RR,hRR⟩:∃RR:aOn->aOm->Prop,RR=λr w'=>r= .bool (BC l)/\aN w w' bJ:=⟨_,rfl⟩
 rw[<-hRR]
 unfold Ys QB
 have hv:=hb
 obtain⟨a,c,rfl,hc⟩:=hb.len
 rw[aLv]at hv hc⊢
 refine fC λw1 o1 x1 s1=> ?_
 have o1:aZ w1 w.heap.size [.slice a l.length c]:=o1
 obtain⟨p,hp⟩:∃p,p=w.heap.size:=⟨_,rfl⟩
 rw[<-hp]at o1⊢
 have c1:w1.cell? ⟨p,0,none⟩=some (.slice a l.length c):=o1.cell (off:=0)
 by_cases h0:0<l.length
 rotate_left
 .have d1:decide ((0:Int)<(l.length:Int))=false:=decide_eq_false (by omega)
  simp(disch:=omega)only[SV,c1,d1]
  rw[hRR]
  refine⟨?_,x1⟩
  have:l=[]:=aMc.1 (by omega)
  rw[this]<;>rfl
 have d1:decide ((0:Int)<(l.length:Int))=true:=decide_eq_true (by omega)
 have q1:=λw=>azA (P:=pg) (f:=rZ) [] [.pointer (some ⟨p,0,none⟩)] w
 simp(disch:=omega)only[SV,c1,d1,q1]
 refine G5 ?_
 unfold Bc xO
 refine Ks ?_
 unfold EE Bf Be rE rD Bd kQ
 simp(disch:=omega)only[SV]
 have hv1:=hv.ext x1 (aU _)
 have hcells:∀i (hi:i<l.length),∃b off,a=some ⟨b,off,none⟩/\w1.cell? ⟨b,off+i,none⟩=some (.int .u8 (l[i].toNat:Nat)):=λi hi=>by
  obtain⟨a',n',c',he,hn',hc',hh⟩:=hv1
  simp only[Value.slice.injEq]at he
  obtain⟨rfl,rfl,rfl⟩:=he
  obtain⟨kb,koff,rfl,h2⟩:=hh (by omega)
  refine⟨kb,koff,rfl, ?_⟩
  rw[h2 i (by omega),aLR,aLt hi]
  rfl
 refine aX.rule (λm (t:aOn) w'=>∃i:Nat,m=l.length-i/\i<=l.length/\t= .int .i64 (i:Nat)/\w'=w1/\(∀j (hj:j<l.length),j<i->l[j]=l[0])) l.length ⟨0,rfl,by omega,rfl,rfl,λj _ hj=>by omega⟩ ?_
 rintro m t w' ⟨i,rfl,hi,rfl,rfl,hall⟩
 unfold rC
 by_cases hlt:i<l.length
 .have d2:decide ((i:Int)<(l.length:Int))=true:=decide_eq_true (by omega)
  have hin:(i:Int).toNat=i:=aLx _
  have e1:(i:Int)+1=((i+1:Nat):Int):=by omega
  obtain⟨kb,koff,rfl,hci⟩:=hcells i hlt
  obtain⟨_,_,he,hc0⟩:=hcells 0 h0
  simp only[aNR,Addr.mk.injEq]at he
  obtain⟨rfl,rfl,-⟩:=he
  have q2:=agO (P:=pg) (f:=rZ) Tryz.func43 (by kernel_rfl) (by kernel_rfl) #[.pointer (some ⟨p,0,none⟩)] [.int .u8 (l[i].toNat:Nat)] w'
  have q3:(List.toArray [Value.int .u8 (l[i].toNat:Nat)]++ #[.pointer (some ⟨p,0,none⟩)])= #[.int .u8 (l[i].toNat:Nat),.pointer (some ⟨p,0,none⟩)]:=rfl
  rw[q3]at q2
  have call:∀K:aOn->aOm->Prop,K (.bool (l[i] !=l[0])) w'->aK pg rZ #[.int .u8 (l[i].toNat:Nat),.pointer (some ⟨p,0,none⟩)] w' K:=λK hK=>by
   refine U7 ?_
   unfold SK Lr
   rw[aL3]at hc0
   have d0:decide ((0:Int)<(l.length:Int))=true:=decide_eq_true (by omega)
   have e0:(((l[i].toNat:Nat):Int) !=((l[0].toNat:Nat):Int))=(l[i] !=l[0]):=by
    by_cases h:l[i]=l[0]
    .rw [h];simp
    .have h2:l[i].toNat≠l[0].toNat:=λe=>h (UInt8.toNat_inj.1 e)
     rw[bne_iff_ne.2 h,bne_iff_ne];omega
   have t0:(0:Int).toNat=0:=rfl
   simp(disch:=omega)only[SV,c1,hc0,e0,t0,aL3]
   exact hK
  simp(disch:=omega)only[SV,d2,hin,hci,q2,G6]
  refine call _ ?_
  by_cases h:l[i]=l[0]
  .have e2:(l[i] !=l[0])=false:=by rw[h];simp
   have hq:∀j (hj:j<l.length),j<i+1->l[j]=l[0]:=λj hj hji=>by
    by_cases hj2:j=i
    .subst hj2;exact h
    .exact hall j hj (by omega)
   simp(disch:=omega)only[SV,e2,e1]
   first
    |exact⟨l.length-(i+1),by omega,i+1,rfl,by omega,rfl,rfl,hq⟩
    |exact⟨l.length-(i+1),by omega,i+1,rfl,by omega,rfl,hq⟩
  .have e2:(l[i] !=l[0])=true:=bne_iff_ne.2 h
   have d3:decide ((0:Int)<=(i:Int))=true:=decide_eq_true (by omega)
   simp(disch:=omega)only[SV,e2,d3]
   rw[hRR,aBn hlt h]
   exact⟨rfl,x1⟩
 .have d2:decide ((i:Int)<(l.length:Int))=false:=decide_eq_false (by omega)
  have d3:decide ((0:Int)<=(-1:Int))=false:=rfl
  unfold rB
  simp(disch:=omega)only[SV,d2,d3]
  rw[hRR,awR h0 λj hj=>hall j hj (by omega)]
  exact⟨rfl,x1⟩
theorem axA{l:List UInt8}{v:aOn}{box lp:Nat}{r0:Loop}{w:aOm}(I:Nat->aOm->Prop)(S:aOm->Prop)
 (hI:∀i W,I i W->aZ W box [v]/\Bs W v l/\W.heap[lp]?=some (.loop r0)) (hp:r0.params.size=2) (hl:l.length<=1000000000) (h0:I l.length w)
 (hs:∀i W,(hi:i<l.length)->I (i+1) W->amA pg lp r0.fn (ajN r0 [.int .i64 i,.int .u8 ((l[i]'hi).toNat:Nat)]) r0.assign r0.body W (λb W'=>(b= .bool true/\I i W')∨(b= .bool false/\S W'))):
 aK pg fO #[KO lp,.pointer (some ⟨box,0,none⟩)] w (λr W=>r= .tuple #[]/\(I 0 W∨S W)):=by
 refine G3 ?_
 obtain⟨o,hb,hlp⟩:=hI _ _ h0
 have c0:=o.cell (off:=0)
 simp only[aLu]at c0
 obtain⟨a,n,c,hv,hn,hc,_⟩:=id hb
 rw[aLv]at hn
 unfold Bb xN xM
 subst hn
 have e1:(l.length:Int)-1=(l.length:Int)-1:=rfl
 subst hv
 simp(disch:=omega)only[SV,c0]
 unfold jG
 refine aX.rule (λm (t:aOn) w'=>∃i:Nat,m=i/\t= .int .i64 ((i:Int)-1)/\i<=l.length/\I i w') l.length ⟨l.length,rfl,rfl,aLA _,h0⟩ ?_
 rintro i t w1 ⟨i',rfl,rfl,hi,hIw⟩
 unfold mP
 cases i with
 |zero=>
  have d1:decide ((0:Int)<=((0:Nat):Int)-1)=false:=rfl
  simp(disch:=omega)only[SV,d1]
  exact .inl hIw
 |succ j=>
  have e0:((j+1:Nat):Int)-1=(j:Int):=by omega
  have d1:decide ((0:Int)<=(j:Int))=true:=by simp
  obtain⟨o1,hb1,hlp1⟩:=hI _ _ hIw
  have c1:=o1.cell (off:=0)
  simp only[aLu]at c1
  obtain⟨b,off,c',hv',hc',hcell⟩:=hb1.openV (by simp;omega)
  simp only[aLv,Value.slice.injEq]at hv'
  obtain⟨rfl,_,rfl⟩:=hv'
  have g1:=hcell j (by rw[aLv];omega)
  simp only[aMp,dR]at g1
  have q1:=aGJ (P:=pg) (args:=[.int .i64 (j:Nat),.int .u8 ((l[j]'hi).toNat:Nat)]) hlp1 (by rw[hp]<;>rfl)
  rw[e0]
  simp(disch:=omega)only[SV,d1,c1,g1,q1,avQ,aLv]
  obtain⟨b',w2,hret,hR⟩:=hs j w1 hi hIw
  refine⟨b',w2,hret, ?_⟩
  rcases hR with⟨rfl,hI2⟩|⟨rfl,hS⟩
  .simp (disch:=omega)only[SV]
   exact⟨j,by omega,j,rfl,rfl,by omega,hI2⟩
  .simp (disch:=omega)only[SV]
   exact .inr hS
def Ws(w:aOm)(S:Nat->Prop)(p:Nat)(B:List Bool):Prop:=¬S p/\∃v bytes,aZ w p [v,.int .i64 B.length]/\Ah w S 1 v bytes.length (bytes.map dR)/\Rj B bytes
def Rs(w:aOm)(S:Nat->Prop)(p:Nat)(B:List Bool):Prop:=¬S p/\∃v bytes,aZ w p [v,.int .i64 B.length]/\Ah w S 1 v bytes.length (bytes.map dR)/\
 kO bytes=B++List.replicate (8*bytes.length-B.length) false/\bytes.length=(B.length+1+7)/8
theorem Ws.ext {w w':aOm}{S M:Nat->Prop}{p:Nat}{B:List Bool}(h:Ws w S p B)(hx:aN w w' M)(hp:¬M p)(hM:∀b,S b->¬M b):Ws w' S p B:=by
 obtain⟨h0,v,bytes,h1,h2,h3⟩:=h
 exact⟨h0,v,bytes,h1.ext hx hp,Hv h2 hx hM,h3⟩
theorem Ws.turn {w:aOm}{S T:Nat->Prop}{p:Nat}{B:List Bool}(h:Ws w S p B)(hp:¬T p)(hT:∀b,S b->b<w.heap.size->T b):Ws w T p B:=by
 obtain⟨h0,v,bytes,h1,h2,h3⟩:=h
 refine⟨hp,v,bytes,h1,⟨h2.1, ?_⟩,h3⟩
 rcases h2.2 with h2|⟨b,c,rest,e,hb,o,hc,hn⟩
 .exact .inl h2
 .exact .inr ⟨b,c,rest,e,hT b hb o.lt,o,hc,hn⟩
theorem aEH{S:Nat->Prop}{p x i:Nat}{B:List Bool}{t17:aOn}{w:aOm}(h:Rs w S p B)(hx:x<2^64)(hi:i<=60)(hB:B.length<=1000000000)
 {kn:aOn->aOn->aOn->aOn->aOm->Prop} (hR:∀w',Ws w' S p (B++[x.testBit i])->aN w w' (λy=>y=p∨S y)->kn (.pointer (some ⟨p,0,none⟩)) (.int .u64 x) t17 (.int .i64 i) w'):
 iK kn (.pointer (some ⟨p,0,none⟩)) (.int .u64 x) (.int .i64 i) t17 (.int .i64 i) w:=by
 obtain⟨h0,v,bytes,o,os,hbits,hlen⟩:=h
 obtain⟨hlt,hheld,hval,hor⟩:=atN (y:=x.testBit i) hbits hlen
 rcases os.2 with⟨rfl,hz⟩|⟨b,c,rest,rfl,hS,ob,hc,hn⟩
 .rw [hlen]at hz;omega
 generalize hq:B.length=q at*
 have hcell:(bytes.map dR++rest)[q/8]?=some (.int .u8 ((bytes[q/8]'hlt).toNat:Nat)):=by
  rw[aLU (by rw[aLv];exact hlt),aLR,aLt hlt]<;>rfl
 have hcl:(bytes[q/8]'hlt).toNat<2^8:=aM7 _
 have hset:(bytes.map dR++rest).set (q/8) (.int .u8 (((bytes[q/8]'hlt).toNat+2^(q%8)*(x.testBit i).toNat:Nat)))=(bytes.set (q/8) (UInt8.ofNat ((bytes[q/8]'hlt).toNat+2^(q%8)*(x.testBit i).toNat))).map dR++rest:=by
  rw[aNz _ _ (by rw[aLv];exact hlt),aM5,dR,aN6 (by simpa using hval)]
 have hbl:(bytes.set (q/8) (UInt8.ofNat ((bytes[q/8]'hlt).toNat+2^(q%8)*(x.testBit i).toNat))).length=bytes.length:=aM1
 generalize bytes.set (q/8) (UInt8.ofNat ((bytes[q/8]'hlt).toNat+2^(q%8)*(x.testBit i).toNat))=bytes' at*
 generalize(bytes[q/8]'hlt).toNat=y at*
 have e1:(q:Int).tdiv 8=((q/8:Nat):Int):=by rw[aNm (by omega)];omega
 have e2:(q:Int).tmod 8=((q%8:Nat):Int):=by rw[aNn (by omega)];omega
 have e3:=UM x i (by omega)
 have hxl:x/2^i<2^64:=by have:=aOi x (2^i);omega
 have e4:=asF hxl
 rw[<-anX]at e4
 have hbt:(x.testBit i).toNat<=1:=Bool.toNat_le _
 have hp8:2^(q%8)<=2^7:=aLG (by omega) (by omega)
 have hm:(x.testBit i).toNat*2^(q%8)<=2^(q%8):=by
  have:=aL1 (2^(q%8)) hbt
  omega
 have e5:IntKind.u8.wrap (((x.testBit i).toNat:Int)*2^(min (q%8) IntKind.u8.bits))=(((x.testBit i).toNat*2^(q%8):Nat):Int):=by
  rw[show min (q%8) IntKind.u8.bits=q%8 from aMk (by have h8:IntKind.u8.bits=8:=rfl;omega)]
  have e:((x.testBit i).toNat:Int)*2^(q%8)=(((x.testBit i).toNat*2^(q%8):Nat):Int):=by simp
  rw[e]
  exact Qg (by omega) (by omega)
 have e6:=ajE (a:=y) (b:=(x.testBit i).toNat*2^(q%8)) hcl (by omega)
 rw[hor]at e6
 have e7:(q:Int)+1=((q+1:Nat):Int):=by omega
 have od:=bV o
 have obd:=bV ob
 have c0:=od.cell (off:=0)
 have c1:=od.cell (off:=1)
 have g:=obd.cell (off:=q/8)
 rw[hcell]at g
 simp only[aLu,aLw]at c0 c1
 unfold iK
 simp(disch:=omega)only[SV,c0,c1,e1,g,e3,e4,e2,e5,e6]
 refine ZH obd rfl (by rw[aLs,aLv];omega) λw2 o2 x2 s2=> ?_
 rw[hset]at o2
 have op2:=od.ext x2 (λh=>h0 (h▸hS))
 have c12:=op2.cell (off:=1)
 simp only[aLu,aLw]at c12
 simp(disch:=omega)only[SV,c12,e7]
 refine rF op2 rfl (by simp) λw3 o3 x3 s3=> ?_
 simp only[aLy,aLB]at o3
 have hBl:(B++[x.testBit i]).length=q+1:=by rw[aLs,hq]<;>rfl
 refine hR _ ⟨h0,_,bytes',by rw[hBl];exact o3,⟨by simp,.inr ⟨b,c,rest,by rw[hbl],hS,o2.ext x3 (λh=>h0 (h▸hS)), ?_,by rw[hbl];exact hn⟩⟩,hheld⟩ ?_
 .rw [aLs,aLv]at hc⊢;rw[hbl];exact hc
 .exact ((aN.dr _ _).seq (x2.mono λz _ h=> .inr (h▸hS))).seq (x3.mono λz _ h=> .inl h)
theorem aHS{S:Nat->Prop}{p x i n:Nat}{B:List Bool}{w:aOm}(hw:Ws w S p B)(hN:∀b,w.heap.size<=b->S b)(hx:x<2^64)(hi:i<=60)(hB:B.length<=1000000000)
 {kn:aOn->aOn->aOn->aOn->aOm->Prop} (hR:∀w',Ws w' S p (B++[x.testBit i])->aN w w' (λy=>y=p∨S y)->kn (.pointer (some ⟨p,0,none⟩)) (.int .u64 x) (.int .i64 n) (.int .i64 i) w'):
 eX kn (.pointer (some ⟨p,0,none⟩)) (.int .u64 x) (.int .i64 n) (.int .i64 i) w:=by
 unfold eX yD
 obtain⟨h0,v,bytes,o,os,hh⟩:=hw
 have c1:=o.cell (off:=1)
 have c0:=o.cell (off:=0)
 simp only[aLu,aLw]at c0 c1
 have e2:(B.length:Int).tmod 8=((B.length%8:Nat):Int):=by rw[aNn (by omega)];omega
 by_cases h8:B.length%8=0
 .have d4:(((B.length%8:Nat):Int)==0)=true:=by rw[h8]<;>rfl
  obtain⟨hr1,hr2⟩:=amU hh h8
  have hl2:=hh.len
  have lp:=o.lt
  simp(disch:=omega)only[SV,c1,e2,d4,c0]
  refine iM (cells:= #[.int .u8 0]) (by decide) (by decide) (by kernel_rfl) λw2 o2 x2 s2=> ?_
  refine qN (m:=1) (news:=[dR 0]) (i:=Tryz.t5) Tryz.underlying22 Tryz.underlying22 Hq rfl rfl rfl (Hv os x2 (λ_ _ h=>h)) (o2.cl (off:=0) (l:=[dR 0]) (n:=1) rfl (λi hi=>by rw[aLI]<;>rfl)) (by simp[one,dR]) (λb hb=>hN b (by omega)) (by omega) (by rw[show Tryz.t5.bytes=1 from rfl];omega) (by decide) λv3 w3 o3 x3=> ?_
  have x13:aN w w3 S:=(x2.mono λ_ _ h=>h.elim).seq x3
  have op3:=o.ext x13 h0
  have hv3:∃a n c,v3= .slice a n c:=by
   rcases o3.2 with⟨rfl,_⟩|⟨b,c,rest,rfl,_⟩
   .exact ⟨_,_,_,rfl⟩
   .exact ⟨_,_,_,rfl⟩
  obtain⟨a3,n3,c3,rfl⟩:=hv3
  refine lK op3 rfl (by simp) λw4 o4 x4 s4=> ?_
  simp only[aLy,aLB]at o4
  have x14:aN w w4 (λy=>y=p∨S y):=(x13.mono λy _ h=> .inr h).seq (x4.mono λy _ h=> .inl h)
  refine aEH (w:=w4) ⟨h0,_,bytes++[0],o4, ?_, ?_,hr2⟩ hx hi hB λw5 h5 x5=>hR w5 h5 (x14.seq x5)
  .have:=Hv o3 x4 (λb hb h=>h0 (h▸hb))
   rw[aLs,aL2]
   exact this
  .rw [aLs];exact hr1
 .have d4:(((B.length%8:Nat):Int)==0)=false:=by simp;omega
  simp(disch:=omega)only[SV,c1,e2,d4]
  refine aEH (w:=w) ⟨h0,v,bytes,o,os,hh.bits, ?_⟩ hx hi hB λw5 h5 x5=>hR w5 h5 x5
  rw[hh.len];omega
theorem ZX{S:Nat->Prop}{p x n:Nat}{B:List Bool}{w:aOm}(h:Ws w S p B)(hN:∀b,w.heap.size<=b->S b)(hx:x<2^64)(hn:n<=56)(hB:B.length<=100000000):
 aK pg bX #[.pointer (some ⟨p,0,none⟩),.int .u64 x,.int .i64 n] w (λr w'=>r= .tuple #[]/\Ws w' S p (B++cZ x n)/\aN w w' (λy=>y=p∨S y)):=by
 refine CO ?_
 unfold CN vZ vY
 by_cases hn0:n=0
 .subst hn0
  have d1:decide (((0:Nat):Int)<1)=true:=rfl
  simp(disch:=omega)only[SV,d1]
  exact⟨by rw[I5,aMf];exact h,aN.refl _ _⟩
 have d1:decide ((n:Int)<1)=false:=by simp;omega
 have d2:decide ((56:Int)<(n:Int))=false:=by simp;omega
 simp(disch:=omega)only[SV,d1,d2]
 unfold kY
 refine aX.rule (λm (t:aOn) w'=>∃i:Nat,m=n-i/\t= .int .i64 i/\i<=n/\Ws w' S p (B++cZ x i)/\aN w w' (λy=>y=p∨S y)) n
  ⟨0,rfl,rfl,by omega,by rw[I5,aMf];exact h,aN.refl _ _⟩ ?_
 rintro m t w1 ⟨i,rfl,rfl,hi,hw,x1⟩
 unfold pZ yE
 by_cases hlt:i<n
 .have d3:decide ((i:Int)<(n:Int))=true:=by simp;omega
  simp(disch:=omega)only[SV,d3]
  unfold pY eX
  refine aHS hw (λb hb=>hN b (by have:=x1.size;omega)) hx (by omega) (by rw[aLs,bM];omega) λw3 hw3 x3=> ?_
  unfold pX
  simp(disch:=omega)only[SV]
  refine⟨n-(i+1),by omega,i+1,rfl,rfl,by omega, ?_,x1.seq x3⟩
  rw[Pm,<-aLJ]
  exact hw3
 .have d3:decide ((i:Int)<(n:Int))=false:=by simp;omega
  obtain rfl:i=n:=by omega
  simp(disch:=omega)only[SV,d3]
  exact⟨hw,x1⟩
theorem Ws.wr {w:aOm}{S:Nat->Prop}{p:Nat}{B:List Bool}(h:Ws w S p B):Wr w 0 p B:=by
 have h1:=h.turn (T:=λb=>0<=b/\b≠p) (λh=>h.2 rfl) (λb hb _=>⟨aMQ _,λe=>h.1 (e▸hb)⟩)
 obtain⟨h0,v,bytes,a,b,c⟩:=h1
 exact⟨aMQ _,v,bytes,a,b,c⟩
theorem Za(w:aOm):aK pg kJ #[] w (λr w'=>r= .pointer (some ⟨w.heap.size,0,none⟩)/\w'.heap.size=w.heap.size+1/\Ws w' (λ_=>False) w.heap.size []/\aN w w' bJ):=by
 refine HG ?_
 unfold I6 CM
 simp(disch:=omega)only[SV]
 refine fC λw1 o1 x1 s1=> ?_
 simp only[Value.cells]at o1
 exact⟨rfl,by omega,⟨λh=>h,_,[],o1,⟨rfl,.inl ⟨rfl,rfl⟩⟩,atM⟩,x1⟩
theorem asM{lo p:Nat}{B:List Bool}{w:aOm}(h:Wr w lo p B)(hB:B.length<=10000000):
 aK pg kS #[.pointer (some ⟨p,0,none⟩)] w (λr w'=>∃bytes,Bs w' r bytes/\Rj (B++[true]) bytes/\AtI r w.heap.size w'.heap.size/\aN w w' bJ):=by
 refine Nn ?_
 obtain⟨h0,v,bytes,o,os,hh⟩:=h
 have c0:=(bV o).cell (off:=0)
 have c1:=(bV o).cell (off:=1)
 simp only[aLu,aLw]at c0 c1
 have hs:Bs w v bytes:=by
  have h1:=os.1
  rcases os.2 with⟨rfl,h2⟩|⟨b,c,rest,rfl,h2,h3,h4,h5⟩
  .exact ⟨_,_,_,rfl,by omega,by omega,λh=>by omega⟩
  .refine ⟨_,_,_,rfl,by omega,h5,λ_=>⟨b,0,rfl,λi hi=> ?_⟩⟩
   rw[h3.cell,aLI,aLU (by omega)]
 have hl:=hh.len
 unfold I7 Eb
 simp(disch:=omega)only[SV,c0,c1]
 refine(agI (hs.ext (aN.dr _ bJ) (aU _)) (by omega)).mono ?_
 rintro r w1 ⟨o1,x1⟩
 have z1:=x1.size
 have x01:aN w w1 bJ:=(aN.dr w bJ).seq x1
 have c11:=(o.ext x01 (λh=>h)).cell (off:=1)
 simp only[aLu,aLw]at c11
 have hdr:(dr w).heap.size=w.heap.size:=rfl
 rw[hdr]at o1 z1
 obtain⟨a1,cc1,rfl⟩:=o1.len
 simp(disch:=omega)only[SV,c11]
 refine fC λw2 o2 x2 s2=> ?_
 simp only[Value.cells]at o2
 have hw:Wr w2 w.heap.size w1.heap.size B:=by
  refine⟨z1,_,bytes,o2,⟨o1.1, ?_⟩,hh⟩
  rcases o1.2 with h2|⟨b,c,rest,h1,h2,h3,h4,h5⟩
  .exact .inl h2
  .have:=h3.lt
   exact .inr ⟨b,c,rest,h1,⟨h2,by omega⟩,h3.ext x2 (λh=>h),h4,h5⟩
 refine(Qp (x:=1) (n:=1) hw (by omega) (by omega) (by omega)).mono ?_
 rintro r w3 ⟨rfl,⟨h0',v3,bytes3,o3,os3,hh3⟩,x3⟩
 have c03:=o3.cell (off:=0)
 simp only[aLu,aLw]at c03
 simp(disch:=omega)only[SV,c03]
 have e1:cZ 1 1=[true]:=by decide
 rw[e1]at hh3
 refine⟨bytes3, ?_,hh3, ?_, ?_⟩
 .have h1:=os3.1
  rcases os3.2 with⟨rfl,h2⟩|⟨b,c,rest,rfl,h2,h3,h4,h5⟩
  .exact ⟨_,_,_,rfl,by omega,by omega,λh=>by omega⟩
  .refine ⟨_,_,_,rfl,by omega,h5,λ_=>⟨b,0,rfl,λi hi=> ?_⟩⟩
   rw[h3.cell,aLI,aLU (by omega)]
 .intro M hM
  rcases os3.2 with⟨rfl,h2⟩|⟨b,c,rest,rfl,h2,h3,h4,h5⟩
  .exact λh=>h
  .exact At.at b 0 _ c M (hM b h2.1 h3.lt)
 .exact (x01.seq x2).trans x3 λb hb h=>by omega
theorem aAv{w:aOm}{b i:Nat}{C:List (Nat×Nat)}{e:Nat×Nat}(o:aZ w b (cc C))(h:C[i]?=some e):
 w.cell? ⟨b,i*2,none⟩=some (.int .i64 (e.1:Nat))/\w.cell? ⟨b,i*2+1,none⟩=some (.int .i64 (e.2:Nat)):=by
 have ht:=aDB h
 obtain⟨hi,rfl⟩:=aNa.1 h
 have h0:=congrArg (λl=>l[0]?) ht
 have h1:=congrArg (λl=>l[1]?) ht
 simp only[List.getElem?_take,aMA,aL3,aLu,aLw]at h0 h1
 rw[o.cell,o.cell]
 exact⟨by simpa using h0,by simpa using h1⟩
def WrC(C:List (Nat×Nat)):Prop:=C.length<=256/\∀(s:Nat) (e:Nat×Nat),C[s]?=some e->e.1<=11/\(0<e.1->e.2<2^11)
def aJk(w:aOm)(base:Nat)(C:List (Nat×Nat))(l:List UInt8)(r:aOn):Prop:=
 ((∃s∈bU l,bitsOf C s=0)/\r= .tuple #[.slice none 0 0,.int .i64 1])∨
 ((∀s∈bU l,0<bitsOf C s)/\∃v bytes,r= .tuple #[v,.int .i64 0]/\Bs w v bytes/\Rj (NN C (bU l)++[true]) bytes/\AtI v base w.heap.size)
theorem aHv:aEO bO= #[12,13]:=by kernel_rfl
theorem aJW:abZ pg eN=42:=by kernel_rfl
theorem aBO{C:List (Nat×Nat)}{l:List Nat}{i s:Nat}(h:l[i]?=some s):NN C (l.drop i)=NN C (l.drop (i+1))++cZ (C.getD s (0,0)).2 (C.getD s (0,0)).1:=by
 obtain⟨hi,rfl⟩:=aNa.1 h
 rw[aL8 hi,NN]
theorem asX{C:List (Nat×Nat)}{l:List UInt8}{b:Nat}{v:aOn}{w:aOm}(ho:aZ w b (cc C))(hb:Bs w v l)(hC:WrC C)(hl:l.length<=200000):
 aK pg eN #[.slice (some ⟨b,0,none⟩) C.length C.length,v] w (λr w'=>aJk w' w.heap.size C l r/\aN w w' bJ):=by
 refine abH ?_
 obtain⟨RR,hRR⟩:∃RR:aOn->aOm->Prop,RR=λr w'=>aJk w' w.heap.size C l r/\aN w w' bJ:=⟨_,rfl⟩
 rw[<-hRR]
 unfold adS Ti Th
 refine fC λw1 o1 x1 s1=> ?_
 simp only[Value.cells]at o1
 refine adG λw2 o2 x2 s2=> ?_
 refine aoG λw3 o3 x3 s3=> ?_
 refine(Za w3).mono ?_
 rintro r w4 ⟨rfl,s4,hW4,x4⟩
 refine Z7 λw5 o5 x5 s5=> ?_
 refine acS o5 rfl (by simp) λw6 o6 x6 s6=> ?_
 simp only[aLy]at o6
 unfold JL JK Tg
 refine KX ?_
 unfold G1 Ch
 obtain⟨va,vn,vc,hv,-⟩:=id hb
 subst hv
 refine fC λw7 o7 x7 s7=> ?_
 simp only[Value.cells]at o7
 have q1:=λw=>azA (P:=pg) (f:=fO) [] [.pointer (some ⟨w6.heap.size,0,none⟩)] w
 simp(disch:=omega)only[aA,q1,aF]
 unfold Di
 intro g g2 g4 g5 g6 g11 gm
 generalize hn0:w.heap.size=n0 at*
 have e1:w1.heap.size=n0+1:=by omega
 have e2:w2.heap.size=n0+2:=by omega
 have e3:w3.heap.size=n0+3:=by omega
 have e4:w4.heap.size=n0+4:=by omega
 have e6:w6.heap.size=n0+5:=by omega
 have e7:w7.heap.size=n0+6:=by omega
 rw[e1]at o2 g4
 rw[e2]at o3 g5
 rw[e3]at hW4 o6
 rw[e4]at o6 g6
 rw[e6]at o7 g11
 have x06:aN w w6 bJ:=((((x1.seq x2).seq x3).seq x4).seq x5).trans x6 λy hy h=>by omega
 have x07:aN w w7 bJ:=x06.seq x7
 have hv7:Bs w7 (.slice va vn vc) l:=hb.ext x07 (aU _)
 have lb:=ho.lt
 have b1:aZ w7 n0 [.slice (some ⟨b,0,none⟩) C.length C.length]:=((((((o1.ext x2 (λh=>h)).ext x3 (λh=>h)).ext x4 (λh=>h)).ext x5 (λh=>h)).ext x6 (by omega))).ext x7 (λh=>h)
 have b2:aZ w7 (n0+1) [.slice none 0 0]:=(((((o2.ext x3 (λh=>h)).ext x4 (λh=>h)).ext x5 (λh=>h)).ext x6 (by omega))).ext x7 (λh=>h)
 have b3:aZ w7 (n0+2) [.int .i64 0]:=((((o3.ext x4 (λh=>h)).ext x5 (λh=>h)).ext x6 (by omega))).ext x7 (λh=>h)
 have b6:aZ w7 (n0+4) [.pointer (some ⟨n0+3,0,none⟩)]:=o6.ext x7 (λh=>h)
 have bC:aZ w7 b (cc C):=ho.ext x07 (λh=>h)
 have hW7:Ws w7 (λy=>n0+7<y) (n0+3) []:=
  ((hW4.ext x5 (λh=>h) (λ_ h=>h.elim)).ext x6 (by omega) (λ_ h=>h.elim)).ext x7 (λh=>h) (λ_ h=>h.elim)|>.turn (by omega) (λ_ h=>h.elim)
 refine aDl (fi:=fO) (cap:= #[.pointer (some ⟨n0+5,0,none⟩)]) (by show noMark (g 1000003)=true;rw[gm]<;>rfl) g11 Tryz.func151 (by kernel_rfl) (by kernel_rfl) ?_
 obtain⟨x8,s8,d8,l8⟩:=aCv eN (abZ pg eN) (aEO bO) (aCu bO) (azG bO) g w7
 rw[e7]at s8 d8 l8⊢
 generalize rfW eN (abZ pg eN) (aEO bO) (aCu bO) (azG bO) g w7=w8 at*
 obtain⟨r0,hr0⟩:∃r0:Loop,r0={state:= .ready,pending:=none,fn:=eN,tmps:=tmpsOf (abZ pg eN) g,params:=aEO bO,assign:=aCu bO,body:=azG bO,defers:=n0+6}:=⟨_,rfl⟩
 rw[<-hr0]at l8
 let I:Nat->aOm->Prop:=λi W=>W.heap[n0+7]?=some (.loop r0)/\aN w8 W (λy=>y=n0+7∨y=n0+3∨n0+7<y)/\Ws W (λy=>n0+7<y) (n0+3) (NN C ((bU l).drop i))/\∀s∈(bU l).drop i,0<bitsOf C s
 let S:aOm->Prop:=λW=>(∃s∈bU l,bitsOf C s=0)/\W.heap[n0+7]?=some (.loop {r0 with state:= .done,pending:=some .ret})/\aZ W (n0+1) [.slice none 0 0]/\aZ W (n0+2) [.int .i64 1]/\aN w W bJ/\W.heap[n0+6]?=some (.deferred (some []))
 have hbits:∀s,bitsOf C s<=11:=λs=>by
  unfold bitsOf
  rw[aLz]
  cases h:C[s]? with
  |none=>simp
  |some e=>exact(hC.2 s e h).1
 have x08:aN w w8 bJ:=x07.seq x8
 have hmain:=axA (l:=l) (v:= .slice va vn vc) (box:=n0+5) (lp:=n0+7) (r0:=r0) (w:=w8) I S ?hI ?hp (by omega) ?h0 ?hs
 case hI=>
  rintro i W ⟨hlp,hx,_⟩
  exact⟨(o7.ext x8 (λh=>h)).ext hx (by omega),hb.ext (x08.trans hx λy hy h=>by omega) (aU _),hlp⟩
 case hp=>rw[hr0,aHv]<;>rfl
 case h0=>
  refine⟨l8,aN.refl _ _, ?_, ?_⟩
  .rw [aNj (by rw[eI];omega)];exact hW7.ext x8 (λh=>h) (λ_ _ h=>h)
  .rw [aNj (by rw[eI];omega)];intro s hs;cases hs
 case hs=>
  rintro i W hi ⟨hlp,hx,hW,hall⟩
  have zW:=hx.size
  have y08:aN w W bJ:=x08.trans hx λy hy h=>by omega
  have hT:ajN r0 [.int .i64 i,.int .u8 ((l[i]'hi).toNat:Nat)]=((tmpsOf 42 g).setIfInBounds 12 (.int .i64 i)).setIfInBounds 13 (.int .u8 ((l[i]'hi).toNat:Nat)):=by
   exact aGM (by rw[hr0];exact aHv) (by rw[hr0];simp only;rw[aJW]) _ _
  have hE:∀{x:Nat} {u v z:aOn},x<12->g x=u->RE (((tmpsOf 42 g).setIfInBounds 12 v).setIfInBounds 13 z) x=u:=λ{x u v z} h1 h2=>by
   rw[ahR (by simp[tmpsOf]),if_neg (by omega),ahR (by simp[tmpsOf]),if_neg (by omega),aBQ (by omega),h2]
  have hE13:∀{v z:aOn},RE (((tmpsOf 42 g).setIfInBounds 12 v).setIfInBounds 13 z) 13=z:=λ{v z}=>by
   rw[ahR (by simp[tmpsOf]),if_pos rfl]
  rw[hT]
  have a0:=(b1.ext x8 (λh=>h)).ext hx (by omega)
  have a1:=(b2.ext x8 (λh=>h)).ext hx (by omega)
  have a2:=(b3.ext x8 (λh=>h)).ext hx (by omega)
  have a6:=(b6.ext x8 (λh=>h)).ext hx (by omega)
  have aC:=(bC.ext x8 (λh=>h)).ext hx (by omega)
  have ad:=EY d8 hx (by omega)
  have hlt:n0+7<W.heap.size:=by omega
  subst hr0
  refine YR (by simp[tmpsOf]) ?_
  rw[hE (by omega) g2,hE (by omega) g4,hE (by omega) g5,hE (by omega) g6,hE13]
  unfold QS Dg
  refine aCp hlp rfl λW1 l1 y1 z1=> ?_
  have a0:=a0.ext y1 (by omega)
  have a1:=a1.ext y1 (by omega)
  have a2:=a2.ext y1 (by omega)
  have a6:=a6.ext y1 (by omega)
  have aC:=aC.ext y1 (by omega)
  have ad:=EY ad y1 (by omega)
  have hW:=hW.ext y1 (by omega) (λ_ h=>by omega)
  have y01:aN w W1 bJ:=y08.trans y1 λy hy h=>by omega
  have hs256:(l[i]'hi).toNat<256:=aM7 _
  have hget:(bU l)[i]?=some (l[i]'hi).toNat:=by unfold bU;rw[aLR,aLt hi]<;>rfl
  have hmem:(l[i]'hi).toNat∈bU l:=aMm hget
  have hdr:=aBO (C:=C) hget
  have hcons:(bU l).drop i=(l[i]'hi).toNat::(bU l).drop (i+1):=by
   obtain⟨hj,e⟩:=aNa.1 hget
   rw[aL8 hj,e]
  generalize(l[i]'hi).toNat=s at*
  have c0:=a0.cell (off:=0)
  simp only[aLu]at c0
  have hbad:bitsOf C s=0->∀W2,aN W1 W2 (λy=>y=n0+1∨y=n0+2)->aZ W2 (n0+1) [.slice none 0 0]->aZ W2 (n0+2) [.int .i64 1]->arV (n0+7) (some .ret) (λb W'=>(b= .bool true/\I i W')∨(b= .bool false/\S W')) W2:=by
   intro h0 W2 y2 k1 k2
   refine ajM (EY l1 y2 (by omega)) λW3 l3 y3 z3=> .inr ⟨rfl,⟨s,hmem,h0⟩,l3,k1.ext y3 (by omega),k2.ext y3 (by omega), ?_, ?_⟩
   .exact (y01.trans y2 λy hy h=>by omega).trans y3 λy hy h=>by omega
   .exact EY (EY ad y2 (by omega)) y3 (by omega)
  unfold xG
  by_cases hge:C.length<=s
  .have d1:decide ((C.length:Int)<=(s:Int))=true:=by simp;omega
   simp(disch:=omega)only[aA,fK,cX,nQ,nD,true_and,aF,c0,cQ,nV,Af,d1,Dj,jX,if_true,bD,gF]
   refine lK a1 rfl (by simp) λW2 k1 y2 z2=> ?_
   refine IM (a2.ext y2 (by omega)) rfl (by simp) λW3 k2 y3 z3=> ?_
   simp only[aLy]at k1 k2
   refine hbad ?_ W3 ((y2.mono λ_ _ h=> .inl h).seq (y3.mono λ_ _ h=> .inr h)) (k1.ext y3 (by omega)) k2
   unfold bitsOf;rw[aLz,aLH hge]<;>rfl
  .have d1:decide ((C.length:Int)<=(s:Int))=false:=by simp;omega
   obtain⟨e,he⟩:∃e,C[s]?=some e:=⟨_,aLt (by omega)⟩
   obtain⟨p0,p1⟩:=aAv aC he
   obtain⟨hc1,hc2⟩:=hC.2 s e he
   have hbo:=aBt (b:=e.1) (c:=e.2) he
   by_cases h0:e.1=0
   .have n1:(((e.1:Nat):Int)==0)=true:=by simp;omega
    simp(disch:=omega)only[aA,fK,cX,nQ,nD,true_and,aF,c0,cQ,nV,Af,d1,Ao,jX,aLF,if_false,jF,dO,aLx,aLI,qE,sU,p0,mD,n1,bD]
    refine lK a1 rfl (by simp) λW2 k1 y2 z2=> ?_
    refine IM (a2.ext y2 (by omega)) rfl (by simp) λW3 k2 y3 z3=> ?_
    simp only[aLy]at k1 k2
    exact hbad (by rw[hbo];exact h0) W3 ((y2.mono λ_ _ h=> .inl h).seq (y3.mono λ_ _ h=> .inr h)) (k1.ext y3 (by omega)) k2
   .have n1:(((e.1:Nat):Int)==0)=false:=by simp;omega
    have hc2:=hc2 (by omega)
    have c0d:=(bV a0).cell (off:=0)
    have c6d:=(bV a6).cell (off:=0)
    simp only[aLu]at c0d c6d
    obtain⟨p0d,p1d⟩:=aAv (bV aC) he
    simp(disch:=omega)only[aA,fK,cX,nQ,nD,true_and,aF,c0,cQ,nV,Af,d1,Ao,jX,aLF,if_false,jF,dO,aLx,aLI,qE,sU,p0,mD,n1,c6d,c0d,p0d,yJ,p1d,qX,gP,aR]
    have hlen:=lD hbits ((bU l).drop (i+1))
    rw[aLP,eI]at hlen
    refine(ZX (x:=e.2) (n:=e.1) (hW.ext (aN.dr W1 bJ) (λh=>h) (λ_ _ h=>h)) (λy hy=>by have:(dr W1).heap.size=W1.heap.size:=rfl;omega) (by omega) (by omega) (by omega)).mono ?_
    rintro r W2 ⟨rfl,hW2,y2⟩
    have y12:aN W1 W2 (λy=>y=n0+3∨n0+7<y):=(aN.dr W1 _).seq y2
    refine ajM (EY l1 y12 (by omega)) λW3 l3 y3 z3=> .inl ⟨rfl,l3, ?_, ?_, ?_⟩
    .refine ((hx.trans y1 λy _ h=>by omega).trans y12 λy _ h=>by omega).trans y3 λy _ h=>by omega
    .rw [hdr]
     have hg:C.getD s (0,0)=e:=by rw[aLz,he]<;>rfl
     rw[hg]
     exact hW2.ext y3 (by omega) (λ_ h=>by omega)
    .rw [hcons]
     intro t ht
     rcases aMd.1 ht with rfl|ht
     .rw [hbo];omega
     .exact hall t ht
 refine hmain.mono ?_
 rintro r w9 ⟨rfl,h⟩
 rcases h with⟨hlp,hx,hW,hall⟩|⟨hbad,hlp,k1,k2,hx,hd⟩
 .have a1:=(b2.ext x8 (λh=>h)).ext hx (by omega)
  have a2:=(b3.ext x8 (λh=>h)).ext hx (by omega)
  have a6:=(b6.ext x8 (λh=>h)).ext hx (by omega)
  have ad:=EY d8 hx (by omega)
  have y09:aN w w9 bJ:=x08.trans hx λy hy h=>by omega
  refine aeC hlp (by rw[hr0];simp) λwa ya za=> ?_
  rw[hr0]
  have hz:put g (some DS) (.pointer (some ⟨n0+6,0,none⟩)) 4=g 4:=rfl
  have hz5:put g (some DS) (.pointer (some ⟨n0+6,0,none⟩)) 5=g 5:=rfl
  have hz6:put g (some DS) (.pointer (some ⟨n0+6,0,none⟩)) 6=g 6:=rfl
  have hzm:put g (some DS) (.pointer (some ⟨n0+6,0,none⟩)) 1000003= .pointer (some ⟨n0+6,0,none⟩):=rfl
  show Dh RR (put g (some DS) (.pointer (some ⟨n0+6,0,none⟩)) 4) (put g (some DS) (.pointer (some ⟨n0+6,0,none⟩)) 5) (put g (some DS) (.pointer (some ⟨n0+6,0,none⟩)) 6) (put g (some DS) (.pointer (some ⟨n0+6,0,none⟩)) 1000003) wa
  rw[hz,hz5,hz6,hzm,g4,g5,g6]
  unfold Dh
  have a1:=a1.ext ya (by omega)
  have a2:=a2.ext ya (by omega)
  have a6:=a6.ext ya (by omega)
  have ad:=EY ad ya (by omega)
  have hW:=hW.ext ya (by omega) (λ_ h=>by omega)
  have y0a:aN w wa bJ:=y09.trans ya λy hy h=>by omega
  have c6:=a6.cell (off:=0)
  simp only[aLu]at c6
  simp(disch:=omega)only[aA,nD,c6,cQ,aF]
  have hlen:=lD hbits (bU l)
  rw[eI]at hlen
  rw[aLE]at hW hall
  refine(asM hW.wr (by omega)).mono ?_
  rintro r wb ⟨bytes,hbs,hheld,hat,yb⟩
  refine lK (a1.ext yb (λh=>h)) ?_ (by simp) λwc kc yc zc=> ?_
  .obtain ⟨a,n,c,rfl,_⟩:=hbs;rfl
  refine IM ((a2.ext yb (λh=>h)).ext yc (by omega)) rfl (by simp) λwd kd yd zd=> ?_
  simp only[aLy]at kc kd
  refine ajW (EY (EY (EY ad yb (λh=>h)) yc (by omega)) yd (by omega)) λwe ye ze=> ?_
  refine YX ((kc.ext yd (by omega)).ext ye (by omega)) rfl ?_
  refine Wh (kd.ext ye (by omega)) rfl ?_
  have y0b:aN w wb bJ:=y0a.seq yb
  have zb:=yb.size
  have z0a:=y0a.size
  have z89:=hx.size
  have zcd:=yc.size
  have zdd:=yd.size
  have zee:=ye.size
  rw[hRR]
  refine⟨.inr ⟨hall,_,bytes,rfl, ?_,hheld, ?_⟩,((y0b.trans yc λy hy h=>by omega).trans yd λy hy h=>by omega).trans ye λy hy h=>by omega⟩
  .refine ((hbs.ext yc ?_).ext yd ?_).ext ye ?_<;>exact hat _ λy h1 h2=>by omega
  .exact λM hM=>hat M λy h1 h2=>hM y (by omega) (by omega)
 .refine aeC hlp (by simp) λwa ya za=> ?_
  show EB (put g (some DS) (.pointer (some ⟨n0+6,0,none⟩)) 1000003) wa λw=>vV pg 22 (put g (some DS) (.pointer (some ⟨n0+6,0,none⟩)) 4) w λr0=>vV pg 24 (put g (some DS) (.pointer (some ⟨n0+6,0,none⟩)) 5) w λr1=>RR (.tuple #[r0,r1]) w
  have hz:put g (some DS) (.pointer (some ⟨n0+6,0,none⟩)) 4=g 4:=rfl
  have hz5:put g (some DS) (.pointer (some ⟨n0+6,0,none⟩)) 5=g 5:=rfl
  have hzm:put g (some DS) (.pointer (some ⟨n0+6,0,none⟩)) 1000003= .pointer (some ⟨n0+6,0,none⟩):=rfl
  rw[hz,hz5,hzm,g4,g5]
  refine ajW (EY hd ya (by omega)) λwe ye ze=> ?_
  refine YX ((k1.ext ya (by omega)).ext ye (by omega)) rfl ?_
  refine Wh ((k2.ext ya (by omega)).ext ye (by omega)) rfl ?_
  rw[hRR]
  exact⟨.inl ⟨hbad,rfl⟩,(hx.trans ya λy hy h=>by omega).trans ye λy hy h=>by omega⟩
theorem aFk{wl:List UInt8}(h:fG (bU wl)≠0):WrC (wC wl):=by
 obtain⟨hF,hm,hC⟩:=WOk.full h
 refine⟨hC,λs e he=> ?_⟩
 obtain⟨h1,h2⟩:=hF.le s e.1 e.2 he
 exact⟨by omega,λh0=>aNr (h2 h0) (aLG (by omega) (by omega))⟩
theorem arA{wl:List UInt8}(h:fG (bU wl)≠0)(s:Nat):bitsOf (wC wl) s<=11:=by
 unfold bitsOf
 rw[aLz]
 cases he:(wC wl)[s]? with
 |none=>simp
 |some e=>exact((aFk h).2 s e he).1
theorem anV{wl l bytes:List UInt8}(h:fG (bU wl)≠0)(hall:∀s∈bU l,0<bitsOf (wC wl) s)(hb:Rj (NN (wC wl) (bU l)++[true]) bytes):ZI (wC wl) bytes l.length= .ok (bU l):=by
 obtain⟨hF,hm,hC⟩:=WOk.full h
 obtain⟨h1,h2⟩:=atL hb
 have h3:=aAE hF (T:=kO bytes) hall h2
 rw[eI]at h3
 unfold ZI
 rw[h1]
 simp only
 rw[h3]
 simp
theorem aE3 {wl l bytes:List UInt8}(h:fG (bU wl)≠0)(hb:Rj (NN (wC wl) (bU l)++[true]) bytes):bytes.length<=(11*l.length+8)/8:=by
 have h1:=lD (arA h) (bU l)
 rw[eI]at h1
 rw[hb.len,aLs,aMg]
 omega
def aJp(w:aOm)(base:Nat)(wl l:List UInt8)(back:List UInt8->Except Int (List Nat))(lim:Nat)(bad:Prop)(r:aOn):Prop:=
 ((fG (bU wl)=0∨bad∨∃s∈bU l,bitsOf (wC wl) s=0)/\r= .tuple #[.slice none 0 0,.int .i64 1])∨
 (fG (bU wl)≠0/\(∀s∈bU l,0<bitsOf (wC wl) s)/\∃v bytes,r= .tuple #[v,.int .i64 0]/\Bs w v bytes/\AtI v base w.heap.size/\bytes.length<=lim/\back bytes= .ok (bU l))
theorem atO{lv sv:aOn}{wl l:List UInt8}{w:aOm}(hw:Bs w lv wl)(hwl:wl.length<=100000)(h:Bs w sv l)(hl:l.length<=131072):
 aK pg FR #[lv,sv] w (λr w'=>aJp w' w.heap.size wl l (λb=>aH8 wl b l.length) ((11*l.length+8)/8) False r/\aN w w' bJ):=by
 refine abG ?_
 unfold adR Td
 by_cases hd:fG (bU wl)=0
 .refine (amJ hw hwl hd).mono ?_
  rintro r w1 ⟨rfl,rfl⟩
  have n0:((1:Int) !=0)=true:=rfl
  simp(disch:=omega)only[SV,n0]
  exact⟨.inl ⟨.inl hd,rfl⟩,aN.refl _ _⟩
 .refine (aAz hw rfl hd).mono ?_
  rintro r w1 ⟨b,rfl,hb,ob,x1⟩
  have n0:((0:Int) !=0)=false:=rfl
  have h1:=h.ext x1 (aU _)
  have hv:=h1
  obtain⟨a,c,rfl,hc⟩:=h1.len
  rw[aLv]at hv⊢
  have d1:decide ((l.length:Int)>131072)=false:=decide_eq_false (by omega)
  have d2:decide ((131072:Int)<(l.length:Int))=false:=decide_eq_false (by omega)
  simp(disch:=omega)only[SV,n0,d1,d2]
  have hcl:wl.length=(wC wl).length:=by rw[AW,eI]
  rw[hcl]
  refine(asX ob hv (aFk hd) (by omega)).mono ?_
  rintro r w2 ⟨he,x2⟩
  have z1:=x1.size
  rcases he with⟨hbad,rfl⟩|⟨hall,v,bytes,rfl,hbs,hheld,hat⟩
  .simp (disch:=omega)only[SV]
   exact⟨.inl ⟨.inr (.inr hbad),rfl⟩,x1.seq x2⟩
  .simp (disch:=omega)only[SV]
   refine⟨.inr ⟨hd,hall,_,bytes,rfl,hbs,λM hM=>hat M λy h1 h2=>hM y (by omega) h2,aE3 hd hheld, ?_⟩,x1.seq x2⟩
   show aH8 wl bytes l.length=_
   unfold aH8
   rw[if_neg hd]
   exact anV hd hall hheld
def sg(l:List UInt8)(q i:Nat):List UInt8:=if i<3 then(l.drop (i*q)).take q else l.drop (3*q)
theorem T4 {l:List UInt8}{q i:Nat}(h:3*q<=l.length):(sg l q i).length=if i<3 then q else l.length-3*q:=by
 unfold sg
 split
 .rename_i hi
  have:i*q<=2*q:=aL1 q (by omega)
  rw[aLD,aLP];omega
 .rw [aLP]
theorem aEV{l:List UInt8}{q:Nat}:sg l q 0++(sg l q 1++(sg l q 2++sg l q 3))=l:=by
 unfold sg
 simp only[show(0:Nat)<3 from by omega,show(1:Nat)<3 from by omega,show(2:Nat)<3 from by omega,if_true,Nat.lt_irrefl,if_false,aOl,Nat.one_mul,aLE]
 have e2:l.drop (3*q)=(l.drop (2*q)).drop q:=by rw[aMK];congr 1;omega
 have e1:l.drop (2*q)=(l.drop q).drop q:=by rw[aMK];congr 1;omega
 rw[e2,aMz,e1,aMz,aMz]
def szs(P:List (List UInt8)):List UInt8:=(P.take 3).flatMap λs=>dM s.length 2
theorem aaV{x n:Nat}{r:List UInt8}:(dM x n++r).drop n=r:=aNI (bS n x)
theorem acV{x n:Nat}{r:List UInt8}:(dM x n++r).take n=dM x n:=aNK (bS n x)
theorem aBV{wl l a b c d:List UInt8}(h:fG (bU wl)≠0)(hq:3*((l.length+3)/4)<=l.length)(hl:l.length<=131072)
 (ha:ZI (wC wl) a (sg l ((l.length+3)/4) 0).length= .ok (bU (sg l ((l.length+3)/4) 0))) (hb:ZI (wC wl) b (sg l ((l.length+3)/4) 1).length= .ok (bU (sg l ((l.length+3)/4) 1)))
 (hc:ZI (wC wl) c (sg l ((l.length+3)/4) 2).length= .ok (bU (sg l ((l.length+3)/4) 2))) (hd:ZI (wC wl) d (sg l ((l.length+3)/4) 3).length= .ok (bU (sg l ((l.length+3)/4) 3)))
 (la:a.length<65536) (lb:b.length<65536) (lc:c.length<65536):
 aGj wl (szs [a,b,c,d]++(a++(b++(c++d)))) l.length= .ok (bU l):=by
 have hs:szs [a,b,c,d]=dM a.length 2++(dM b.length 2++dM c.length 2):=by unfold szs;simp
 generalize hq':(l.length+3)/4=q at*
 have l0:=T4 (i:=0) hq
 have l1:=T4 (i:=1) hq
 have l2:=T4 (i:=2) hq
 have l3:=T4 (i:=3) hq
 simp only[show(0:Nat)<3 from by omega,show(1:Nat)<3 from by omega,show(2:Nat)<3 from by omega,if_true,Nat.lt_irrefl,if_false]at l0 l1 l2 l3
 rw[l0]at ha
 rw[l1]at hb
 rw[l2]at hc
 rw[l3]at hd
 rw[hs,aLJ,aLJ]
 generalize hY:a++(b++(c++d))=Y
 have hYl:Y.length=a.length+(b.length+(c.length+d.length)):=by rw[<-hY];simp
 have d2:(dM a.length 2++(dM b.length 2++(dM c.length 2++Y))).drop 2=dM b.length 2++(dM c.length 2++Y):=aaV
 have d4:(dM a.length 2++(dM b.length 2++(dM c.length 2++Y))).drop 4=dM c.length 2++Y:=by
  rw[show 4=2+2 from rfl,<-aMK,d2];exact aaV
 have d6:(dM a.length 2++(dM b.length 2++(dM c.length 2++Y))).drop 6=Y:=by
  rw[show 6=4+2 from rfl,<-aMK,d4];exact aaV
 have hlen:(dM a.length 2++(dM b.length 2++(dM c.length 2++Y))).length=6+Y.length:=by simp[bS];omega
 have nm:∀x,x<65536->jW (dM x 2)=x:=λx hx=>by rw[IP];exact aLV hx
 have eA:nA (dM a.length 2++(dM b.length 2++(dM c.length 2++Y)))=a.length:=by unfold nA;rw[acV,nm _ la]
 have eB:nB (dM a.length 2++(dM b.length 2++(dM c.length 2++Y)))=b.length:=by unfold nB;rw[d2,acV,nm _ lb]
 have eC:nC (dM a.length 2++(dM b.length 2++(dM c.length 2++Y)))=c.length:=by unfold nC;rw[d4,acV,nm _ lc]
 unfold aGj
 rw[if_neg h,hq',if_neg (by omega),if_neg (by rw[hlen];omega),d6,eA,eB,eC,if_neg (by omega)]
 have ed:Y.length-(a.length+b.length+c.length)=d.length:=by omega
 rw[ed,<-hY,azS,aNK rfl,ha]
 simp only
 rw[aNI rfl,azS,aNK rfl,hb]
 simp only
 rw[aNI rfl,azS,aNK rfl,hc]
 simp only
 rw[aNI rfl,azS,aLO (aLA _),hd]
 simp only[azS,aMf]
 have:=aEV (l:=l) (q:=q)
 conv=>rhs;rw[<-this]
 simp only[bU,aL2]
theorem aGQ{l:List UInt8}{q i:Nat}(hi:i<4)(hq:3*q<=l.length):(l.drop (i*q)).take (if i<3 then q else l.length-3*q)=sg l q i/\
 (l.drop (i*q)).drop (if i<3 then q else l.length-3*q)=if i<3 then l.drop ((i+1)*q)else[]:=by
 unfold sg
 by_cases h:i<3
 .simp only[if_pos h]
  refine⟨trivial, ?_⟩
  rw[aMK];congr 1;rw[aMl];omega
 .simp only[if_neg h]
  obtain rfl:i=3:=by omega
  refine⟨aLO (by rw[aLP];omega),aNj (by rw[aLP];omega)⟩
structure aDi(W:aOm)(p n0:Nat)(C:List (Nat×Nat))(l:List UInt8)(q:Nat)(av:aOn)(P:List (List UInt8))(SA SW:Nat->Prop):Prop where
 a0:∀b,SA b->n0<=b/\b≠p/\¬SW b
 aw:∀b,SA b->b<W.heap.size
 s0:∀b,SW b->n0<=b/\b<W.heap.size
 al:Ah W SA 1 av P.flatten.length (P.flatten.map dR)
 wr:Cw W p SW (szs P)
 held:∀j s,P[j]?=some s->Rj (NN C (bU (sg l q j))++[true]) s
 all:∀j,j<P.length->∀s∈bU (sg l q j),0<bitsOf C s
theorem awB{P:List (List UInt8)}{s:List UInt8}:szs (P++[s])=if P.length<3 then szs P++dM s.length 2 else szs P:=by
 unfold szs
 by_cases h:P.length<3
 .rw [if_pos h,aLO (by simp;omega),aLO (by omega),List.flatMap_append];simp
 .rw [if_neg h,aMW (by omega)]
theorem aqZ(P:List (List UInt8)):(szs P).length<=6:=by
 have:∀Q:List (List UInt8),(Q.flatMap λs=>dM s.length 2).length=2*Q.length:=by
  intro Q
  induction Q with
  |nil=>rfl
  |cons s Q ih=>rw[List.flatMap_cons,aLs,ih,bS,aLS];omega
 unfold szs
 rw[this,aLD];omega
theorem aA0 {w:aOm}{S T:Nat->Prop}{sz n:Nat}{v:aOn}{l:List aOn}(h:Ah w S sz v n l)(hT:∀b,S b->b<w.heap.size->T b):Ah w T sz v n l:=by
 refine⟨h.1, ?_⟩
 rcases h.2 with h2|⟨b,c,rest,e,hb,o,hc,hn⟩
 .exact .inl h2
 .exact .inr ⟨b,c,rest,e,hT b hb o.lt,o,hc,hn⟩
theorem abI{a:Option Addr}{n c m c' k:Nat}{M:Nat->Prop}(h:¬JN (.slice a n c) M)(hm:m<=n):¬JN (.slice (cW a c k 1) m c') M:=by
 have:=AtS.sub (a:=a) (n:=n) (c:=c) (m:=m) (c':=c') (k:=k) (mx:=c) (sz:=1) (S:=λy=>¬M y) (λN hN hh=>h (vE hh λb hb=>Classical.byContradiction λhm=>hN b hm hb)) hm
 exact this M λb hb=>hb
theorem aBN{RR:aOn->aOm->Prop}{l:List UInt8}{q b p n0:Nat}{C:List (Nat×Nat)}{sv:aOn}{w0:aOm}(hC:WrC C)(ho:aZ w0 b (cc C))(hs:Bs w0 sv l)(hq:3*q<=l.length)(hq2:l.length<=4*q)(hq3:q<=32768)(hl:l.length<=131072)
 (hn0:n0<=w0.heap.size) (hp:n0<=p) (hb:b<n0) (hsv:¬JN sv (λy=>n0<=y)) {SW0:Nat->Prop} (hw:Cw w0 p SW0 []) (hSW:∀y,SW0 y->n0<=y/\y<w0.heap.size)
 (hbad:∀W,(∃s∈bU l,bitsOf C s=0)->aN w0 W (λy=>n0<=y)->RR (.tuple #[.slice none 0 0,.int .i64 1]) W)
 (hok:∀W v P,P.length=4->(∀j s,P[j]?=some s->Rj (NN C (bU (sg l q j))++[true]) s)->(∀s∈bU l,0<bitsOf C s)->Bs W v (szs P++P.flatten)->AtI v w0.heap.size W.heap.size->aN w0 W (λy=>n0<=y)->RR (.tuple #[v,.int .i64 0]) W):
 sS (λDI fF w=>Bp RR DI fF w) RR sv (.slice (some ⟨b,0,none⟩) C.length C.length) (.pointer (some ⟨p,0,none⟩)) (.slice none 0 0)
  (.agg #[.int .i64 (q:Nat),.int .i64 (q:Nat),.int .i64 (q:Nat),.int .i64 ((l.length:Int)-3*(q:Int))]) (.int .i64 0) w0:=by
 unfold sS
 have hbits:∀s,bitsOf C s<=11:=λs=>by
  unfold bitsOf
  rw[aLz]
  cases h:C[s]? with
  |none=>simp
  |some e=>exact(hC.2 s e h).1
 refine aX.rule (λm (t:aOn×aOn×aOn) W=>∃(i:Nat) (sv' av:aOn) (P:List (List UInt8)) (SA SW:Nat->Prop),m=4-i/\t=(sv',av,.int .i64 i)/\i<=4/\P.length=i/\(i<4->Bs W sv' (l.drop (i*q))/\¬JN sv' (λy=>n0<=y))/\
  aDi W p n0 C l q av P SA SW/\aN w0 W (λy=>n0<=y)) 4
  ⟨0,sv,.slice none 0 0,[],λ_=>False,SW0,rfl,rfl,by omega,rfl,λ_=>⟨by rw[aOl];exact hs,hsv⟩,⟨λ_ h=>h.elim,λ_ h=>h.elim,hSW,⟨rfl,.inl ⟨rfl,rfl⟩⟩,hw,λj s h=>by simp at h,λj h=>by simp at h⟩,aN.refl _ _⟩ ?_
 rintro m t W ⟨i,sv',av,P,SA,SW,rfl,rfl,hi,hPl,hsv',hE,hx⟩
 obtain⟨hA0,hAw,hS0,hal,hwr,hheld,hall⟩:=hE
 have zW:=hx.size
 unfold Hp QR
 have hpW:=hwr.lt
 have hal2:=hal
 obtain⟨aa,ac,rfl⟩:=Oz hal
 have hfl:P.flatten.length<=262144:=by
  have key:∀(Q:List (List UInt8)),(∀s∈Q,s.length<=65536)->Q.flatten.length<=65536*Q.length:=by
   intro Q
   induction Q with
   |nil=>intro _;simp
   |cons s Q ih=>
    intro h
    have h1:=h s (aMa ..)
    have h2:=ih λt ht=>h t (aLN _ ht)
    rw[aNP,aLs,aLS];omega
  have:=key P λs hs=>by
   obtain⟨j,hj⟩:=List.getElem?_of_mem hs
   have h1:=hheld j s hj
   have h2:=lD hbits (bU (sg l q j))
   have h3:(sg l q j).length<=32768:=by rw[T4 hq];split<;>omega
   rw[eI]at h2
   rw[h1.len,aLs,aMg]
   omega
  omega
 by_cases hlt:i<4
 .have d1:decide ((i:Int)<4)=true:=decide_eq_true (by omega)
  obtain⟨hsb,hin⟩:=hsv' hlt
  obtain⟨z,hz⟩:∃z,z=if i<3 then q else l.length-3*q:=⟨_,rfl⟩
  obtain⟨hsg,hsd⟩:=aGQ hlt hq
  rw[<-hz]at hsg hsd
  have hsl:=T4 (i:=i) hq
  rw[<-hz]at hsl
  have hzq:z<=32768:=by rw[hz];split<;>omega
  have hiq:i*q<=3*q:=aL1 q (by omega)
  have hzl:z<=(l.drop (i*q)).length:=by
   rw[aLP,hz]
   split
   .have:i*q<=2*q:=aL1 q (by omega)
    omega
   .omega
  have hix:(#[.int .i64 (q:Nat),.int .i64 (q:Nat),.int .i64 (q:Nat),.int .i64 ((l.length:Int)-3*(q:Int))]:Array aOn)[i]?=some (.int .i64 (z:Nat)):=by
   rcases(show i=0∨i=1∨i=2∨i=3 by omega)with rfl|rfl|rfl|rfl
   .rw [hz]<;>rfl
   .rw [hz]<;>rfl
   .rw [hz]<;>rfl
   .rw [hz]
    have:((l.length:Int)-3*(q:Int))=((l.length-3*q:Nat):Int):=by omega
    simp[this]
  have hv:=hsb
  obtain⟨a,c,rfl,hc⟩:=hsb.len
  rw[aLv]at hv hc hin
  generalize hn:(l.drop (i*q)).length=n at*
  unfold Ho Hn QQ
  simp(disch:=omega)only[SV,d1,hix,aLv,hn]
  have hseg:Bs W (.slice (cW a c 0 1) (z-0) (c-0)) (sg l q i):=by
   have:=Sl.take' hv (k:=z) hzl
   rw[<-aNg,hsg]at this
   exact this
  refine(asX (ho.ext hx (by omega)) hseg hC (by rw[hsl];omega)).mono ?_
  rintro r W1 ⟨he,x1⟩
  have z1:=x1.size
  have y1:aN w0 W1 (λy=>n0<=y):=hx.trans x1 λ_ _ h=>h.elim
  rcases he with⟨⟨s,hs1,hs2⟩,rfl⟩|⟨hal1,v,bytes,rfl,hbs,hheld1,hat⟩
  .have n1:((1:Int) !=0)=true:=rfl
   simp(disch:=omega)only[SV,n1]
   refine hbad W1 ⟨s, ?_,hs2⟩ y1
   have hsub:∀x∈sg l q i,x∈l:=λx hx=>by
    unfold sg at hx
    split at hx
    .exact aNh (aMx hx)
    .exact aNh hx
   obtain⟨x,hx1,hx2⟩:=aL5.1 hs1
   exact aL5.2 ⟨x,hsub x hx1,hx2⟩
  .have n1:((0:Int) !=0)=false:=rfl
   have hbl:bytes.length<65536:=by
    have h1:=lD hbits (bU (sg l q i))
    rw[eI,hsl]at h1
    rw[hheld1.len,aLs,aMg]
    omega
   have hbv:=hbs
   obtain⟨a2,c2,rfl,hc2⟩:=hbs.len
   rw[aLv]at hbv hat
   have e1:(i:Int)+1=((i+1:Nat):Int):=by omega
   have hszl:=aqZ P
   have fin:∀(W2:aOm) (SW2:Nat->Prop),Cw W2 p SW2 (szs (P++[bytes]))->aN W1 W2 (λy=>y=p∨SW y∨W1.heap.size<=y)->(∀y,SW2 y->(SW y∨W1.heap.size<=y)/\y<W2.heap.size)→
       aA pg (dD .append #[22,22] 22 [.slice aa P.flatten.length ac,.slice a2 bytes.length c2]) W2 λt69 w=>
        aA pg (aD .add 3 aG aG (.int .i64 i) (.int .i64 1)) w λt70 w=>
         ∃m,m<4-i/\∃(i':Nat) (sv' av:aOn) (P:List (List UInt8)) (SA SW:Nat->Prop),m=4-i'/\((.slice (cW a c z 1) (n-z) (c-z):aOn),t69,t70)=(sv',av,.int .i64 i')/\i'<=4/\P.length=i'/\(i'<4->Bs w sv' (l.drop (i'*q))/\¬JN sv' (λy=>n0<=y))/\
          aDi w p n0 C l q av P SA SW/\aN w0 w (λy=>n0<=y):=by
    intro W2 SW2 hw2 x2 hS2
    have z2:=x2.size
    have hbs2:Bs W2 (.slice a2 bytes.length c2) bytes:=hbv.ext x2 (hat _ λy h1 h2 h3=>by
     rcases h3 with h3|h3|h3
     .omega
     .have:=(hS0 y h3).2;omega
     .omega)
    have hcl:=hbs2.cl
    rw[aLv]at hcl
    have hal3:Ah W2 (λy=>SA y∨W2.heap.size<=y) 1 (.slice aa P.flatten.length ac) P.flatten.length (P.flatten.map dR):=by
     refine aA0 (Hv (Hv hal2 x1 (λ_ _ h=>h)) x2 λy hy h3=> ?_) λy hy _=> .inl hy
     have h4:=hA0 y hy
     have h5:=hAw y hy
     rcases h3 with h3|h3|h3
     .exact h4.2.1 h3
     .exact h4.2.2 h3
     .omega
    refine qN (m:=bytes.length) (news:=bytes.map dR) (i:=Tryz.t5) Tryz.underlying22 Tryz.underlying22 Hq rfl rfl rfl hal3 hcl (BF _) (λy hy=> .inr hy) (by omega) (by rw[show Tryz.t5.bytes=1 from rfl];omega) (by decide) λv3 W3 o3 x3=> ?_
    have z3:=x3.size
    simp(disch:=omega)only[SV,e1]
    have y3:aN w0 W3 (λy=>n0<=y):=(y1.trans x2 λy _ h=>by
     rcases h with h|h|h
     .omega
     .exact (hS0 y h).1
     .omega).trans x3 λy _ h=>by
     rcases h with h|h
     .exact (hA0 y h).1
     .omega
    refine⟨4-(i+1),by omega,i+1,_,v3,P++[bytes],λy=>(SA y∨W2.heap.size<=y)/\y<W3.heap.size,SW2,rfl,rfl,by omega,by rw[aLs,aMg,hPl], ?_,⟨?_,λy hy=>hy.2,λy hy=> ?_, ?_, ?_, ?_, ?_⟩,y3⟩
    .intro hi4
     have hlt3:i<3:=by omega
     rw[if_pos hlt3]at hsd
     refine⟨?_,abI hin (by omega)⟩
     have:=Sl.drop' hv (k:=z) hzl
     rw[<-aNx,hsd]at this
     refine Sl.ext (Sl.ext (Sl.ext this x1 (aU _)) x2 ?_) x3 ?_
     .exact λh=>abI hin (by omega) (vE h λy hy=>by
       rcases hy with hy|hy|hy
       .omega
       .exact (hS0 y hy).1
       .omega)
     .exact λh=>abI hin (by omega) (vE h λy hy=>by
       rcases hy with hy|hy
       .exact (hA0 y hy).1
       .omega)
    .rintro y ⟨hy|hy,hy2⟩
     .have h4:=hA0 y hy
      refine⟨h4.1,h4.2.1,λh=> ?_⟩
      have h5:=hAw y hy
      rcases(hS2 y h).1 with h6|h6
      .exact h4.2.2 h6
      .omega
     .refine ⟨by omega,λh=> ?_,λh=> ?_⟩
      .have:=hw2.lt;omega
      .have:=(hS2 y h).2;omega
    .obtain ⟨h1,h2⟩:=hS2 y hy
     refine⟨?_,by omega⟩
     rcases h1 with h1|h1
     .exact (hS0 y h1).1
     .omega
    .rw [List.flatten_append,List.flatten_singleton,aLs,aL2]
     exact aA0 o3 λy hy h=>⟨hy,h⟩
    .refine hw2.ext x3 (λh=> ?_) λy hy h=> ?_
     .rcases h with h|h
      .exact (hA0 p h).2.1 rfl
      .have:=hw2.lt;omega
     .obtain ⟨h1,h2⟩:=hS2 y hy
      rcases h with h|h
      .rcases h1 with h1|h1
       .exact (hA0 y h).2.2 h1
       .have:=hAw y h;omega
      .omega
    .intro j s hj
     rcases aLL j P.length with hjl|hjl
     .rw [aLU hjl]at hj;exact hheld j s hj
     .rw [aL0 hjl]at hj
      have:j-P.length=0:=by
       rcases aMC (j-P.length)with h|h
       .exact h
       .rw [aLH (by simp;omega)]at hj;cases hj
      rw[this]at hj
      obtain rfl:bytes=s:=by simpa using hj
      obtain rfl:j=i:=by omega
      exact hheld1
    .intro j hj s hs
     rw[aLs,aMg]at hj
     rcases aLL j P.length with hjl|hjl
     .exact hall j hjl s hs
     .obtain rfl:j=i:=by omega
      exact hal1 s hs
   have hwr1:Cw W1 p (λy=>SW y∨W1.heap.size<=y) (szs P):=(hwr.ext x1 (λh=>h) (λ_ _ h=>h)).turn (λy hy _=> .inl hy) (λh=>by
    rcases h with h|h
    .exact hwr.1 h
    .omega)
   by_cases hi3:i<3
   .have d3:decide ((i:Int)<3)=true:=decide_eq_true (by omega)
    have d4:decide ((65536:Int)<=(bytes.length:Int))=false:=decide_eq_false (by omega)
    have d5:decide ((bytes.length:Int)≥65536)=false:=decide_eq_false (by omega)
    simp(disch:=omega)only[SV,n1,d3,d4,d5,aLv,hn]
    refine(lB (x:=bytes.length) (n:=2) hwr1 (λy hy=> .inr hy) (by omega) (by omega) (by omega)).mono ?_
    rintro r W2 ⟨rfl,hw2,x2⟩
    unfold Br Bq
    have hsz:szs (P++[bytes])=szs P++dM bytes.length 2:=by rw[awB,if_pos (by omega)]
    rw[<-hsz]at hw2
    exact fin W2 (λy=>(SW y∨W1.heap.size<=y)/\y<W2.heap.size) (hw2.turn (λy hy h=>⟨hy,h⟩) (λh=>hw2.1 h.1)) x2 (λy hy=>hy)
   .have d3:decide ((i:Int)<3)=false:=decide_eq_false (by omega)
    simp(disch:=omega)only[SV,n1,d3,aLv,hn]
    unfold Br Bq
    have hsz:szs (P++[bytes])=szs P:=by rw[awB,if_neg (by omega)]
    rw[<-hsz]at hwr1
    exact fin W1 (λy=>(SW y∨W1.heap.size<=y)/\y<W1.heap.size) (hwr1.turn (λy hy h=>⟨hy,h⟩) (λh=>hwr1.1 h.1)) (aN.refl _ _) (λy hy=>hy)
 .have d1:decide ((i:Int)<4)=false:=decide_eq_false (by omega)
  obtain rfl:i=4:=by omega
  simp(disch:=omega)only[SV,d1]
  unfold Bp
  have hwr1:Cw W p (λy=>SW y∨W.heap.size<=y) (szs P):=hwr.turn (λy hy _=> .inl hy) (λh=>by
   rcases h with h|h
   .exact hwr.1 h
   .omega)
  have hszl:=aqZ P
  refine(Px hwr1 (λy hy=> .inr hy) (acA hal2) (by omega)).mono ?_
  rintro r W2 ⟨rfl,hw2,x2⟩
  refine(NA hw2 (by rw[aLs];omega)).mono ?_
  rintro r W3 ⟨o3,x3⟩
  have z2:=x2.size
  have hat:=pC.atI o3
  obtain⟨a3,c3,rfl⟩:=o3.len
  refine hok W3 _ P hPl hheld ?_ o3.sl (λM hM=>hat M λy h1 h2=>hM y (by omega) h2) ((hx.trans x2 λy _ h=> ?_).trans x3 λ_ _ h=>h.elim)
  .intro s hs
   have hall':∀j,j<4->∀s∈bU (sg l q j),0<bitsOf C s:=λj hj=>hall j (by omega)
   have:=aEV (l:=l) (q:=q)
   rw[<-this]at hs
   simp only[bU,aL2,aMq]at hs
   rcases hs with hs|hs|hs|hs
   .exact hall' 0 (by omega) s hs
   .exact hall' 1 (by omega) s hs
   .exact hall' 2 (by omega) s hs
   .exact hall' 3 (by omega) s hs
  .rcases h with h|h|h
   .omega
   .exact (hS0 y h).1
   .omega
theorem apJ{lv sv:aOn}{wl l:List UInt8}{w:aOm}(hw:Bs w lv wl)(hwl:wl.length<=100000)(h:Bs w sv l)(hl:l.length<=131072):
 aK pg Cx #[lv,sv] w (λr w'=>aJp w' w.heap.size wl l (λb=>aGj wl b l.length) (11*l.length/8+12) (l.length<3*((l.length+3)/4)) r/\aN w w' bJ):=by
 refine YO ?_
 unfold YN Oe Od
 by_cases hd:fG (bU wl)=0
 .refine (amJ hw hwl hd).mono ?_
  rintro r w1 ⟨rfl,rfl⟩
  have n0:((1:Int) !=0)=true:=rfl
  simp(disch:=omega)only[SV,n0]
  exact⟨.inl ⟨.inl hd,rfl⟩,aN.refl _ _⟩
 .refine (aAz hw rfl hd).mono ?_
  rintro r w1 ⟨b,rfl,hb,ob,x1⟩
  have n0:((0:Int) !=0)=false:=rfl
  have h1:=h.ext x1 (aU _)
  have hv:=h1
  obtain⟨a,c,rfl,hc⟩:=h1.len
  rw[aLv]at hv⊢
  obtain⟨q,hq⟩:∃q,q=(l.length+3)/4:=⟨_,rfl⟩
  simp(disch:=omega)only[SV,n0]
  refine(aEC hl hq w1).mono ?_
  rintro r w2 ⟨rfl,x2⟩
  simp(disch:=omega)only[SV]
  refine agU λw3 o3 x3 s3=> ?_
  refine aeD o3 rfl (by simp[one]) (by simp) λw4 o4 x4 s4=> ?_
  simp only[aT,aLy,aLB]at o4
  have x14:aN w1 w4 bJ:=(x2.seq x3).trans x4 λy hy h=>by have:=x2.size;omega
  have z1:=x1.size
  have z2:=x2.size
  have z14:=x14.size
  by_cases hbad:l.length<3*q
  .have d1:decide (3*(q:Int)<=(l.length:Int))=false:=decide_eq_false (by omega)
   simp(disch:=omega)only[SV,d1]
   exact⟨.inl ⟨.inr (.inl (by rw[<-hq];exact hbad)),rfl⟩,x1.seq x14⟩
  .have d1:decide (3*(q:Int)<=(l.length:Int))=true:=decide_eq_true (by omega)
   have d2:decide ((l.length:Int)>131072)=false:=decide_eq_false (by omega)
   have d3:decide ((131072:Int)<(l.length:Int))=false:=decide_eq_false (by omega)
   simp(disch:=omega)only[SV,d1,d2,d3]
   refine(EL w4).mono ?_
   rintro r w5 ⟨rfl,hlt5,hw5,x5⟩
   have z5:=x5.size
   unfold EU ET Oc
   have q1:=atT (off:=0) (o4.ext x5 (λh=>h)) (by simp)
   simp only[aLE,aLC,aLK]at q1
   simp(disch:=omega)only[SV,q1]
   have x15:aN w1 w5 bJ:=x14.seq x5
   have hlc:wl.length=(wC wl).length:=by rw[AW,eI]
   rw[hlc]
   have hb1:=ob.lt
   refine aBN (b:=b) (n0:=w4.heap.size) (q:=q) (aFk hd) (ob.ext x15 (λh=>h)) (hv.ext x15 (aU _)) (by omega) (by omega) (by omega) hl z5 (aLA _) (by omega) ?_ (SW0:=λy=>w4.heap.size<y/\y<w5.heap.size) ?_ (λy hy=>⟨by omega,hy.2⟩) ?_ ?_
   .exact λhh=>(hv.ext x14 (aU _)).old hh
   .exact hw5.turn (λy hy h=>⟨hy,h⟩) (λh=>by omega)
   .intro W hbd x6
    exact⟨.inl ⟨.inr (.inr hbd),rfl⟩,((x1.seq x15).trans x6 λy hy h=>by omega)⟩
   .intro W v P hP hheld hall hbs hat x6
    have z6:=x6.size
    refine⟨.inr ⟨hd,hall,v,_,rfl,hbs,λM hM=>hat M λy h1 h2=>hM y (by omega) h2, ?_, ?_⟩,(x1.seq x15).trans x6 λy hy h=>by omega⟩
    .have hP4:∀(j:Nat) (s:List UInt8),P[j]?=some s->8*s.length<=11*(if j<3 then q else l.length-3*q)+8:=λj s hj=>by
      have h1:=hheld j s hj
      have h2:=lD (arA hd) (bU (sg l q j))
      have h3:=T4 (l:=l) (q:=q) (i:=j) (by omega)
      rw[eI,h3]at h2
      rw[h1.len,aLs,aMg]
      omega
     have hs6:=aqZ P
     match P,hP with
     |[a,b,c,d],_=>
      have h1:=hP4 0 a rfl
      have h2:=hP4 1 b rfl
      have h3:=hP4 2 c rfl
      have h4:=hP4 3 d rfl
      simp only[show(0:Nat)<3 from by omega,show(1:Nat)<3 from by omega,show(2:Nat)<3 from by omega,if_true,Nat.lt_irrefl,if_false]at h1 h2 h3 h4
      simp only[aLs,aNP,List.flatten_nil,aOg]
      omega
    .show aGj wl (szs P++P.flatten) l.length=_
     match P,hP with
     |[a,b,c,d],_=>
      have e:[a,b,c,d].flatten=a++(b++(c++d)):=by simp
      rw[e]
      have hlen:∀(j:Nat) (s:List UInt8),[a,b,c,d][j]?=some s->s.length<65536/\ZI (wC wl) s (sg l q j).length= .ok (bU (sg l q j)):=λj s hj=>by
       have hj4:j<4:=by
        rcases aLL j 4 with h|h
        .exact h
        .rw [aLH (by simpa using h)]at hj;cases hj
       have h1:=hheld j s hj
       have h2:=lD (arA hd) (bU (sg l q j))
       have h3:(sg l q j).length<=32768:=by rw[T4 (by omega)];split<;>omega
       rw[eI]at h2
       refine⟨by rw[h1.len,aLs,aMg];omega,anV hd (λx hx=>hall x ?_) h1⟩
       have hsub:∀x∈sg l q j,x∈l:=λx hx=>by
        unfold sg at hx
        split at hx
        .exact aNh (aMx hx)
        .exact aNh hx
       obtain⟨y,hy1,hy2⟩:=aL5.1 hx
       exact aL5.2 ⟨y,hsub y hy1,hy2⟩
      obtain⟨la,ha⟩:=hlen 0 a rfl
      obtain⟨lb,hb⟩:=hlen 1 b rfl
      obtain⟨lc,hc⟩:=hlen 2 c rfl
      obtain⟨-,hdd⟩:=hlen 3 d rfl
      rw[hq]at ha hb hc hdd hbad
      exact aBV hd (by omega) hl ha hb hc hdd la lb lc
end Go.Proofs.YtoecppploooloaaGreatDoor
namespace Go.Pu
open Go Go.En
def Q6 (m:List Nat):List Nat:=(List.range ((m.length+1)/2)).map λj=>m.getD (2*j) 0*16+m.getD (2*j+1) 0
theorem Zm(m:List Nat):(Q6 m).length=(m.length+1)/2:=by simp[Q6]
theorem aCg{m:List Nat}{j:Nat}(h:j<(m.length+1)/2):(Q6 m).getD j 0=m.getD (2*j) 0*16+m.getD (2*j+1) 0:=by
 rw[aLz]
 unfold Q6
 rw[aLR,aNF h]<;>rfl
theorem aGg{m:List Nat}(h:∀x∈m,x<16)(i:Nat):m.getD i 0<16:=by
 rcases aLL i m.length with hi|hi
 .exact h _ (Df hi)
 .rw [aLz,aLH hi];decide
end Go.Pu
namespace Go.Proofs.YtoecppploooloaaGreatDoor
open Go Go.En Go.Pu
set_option maxRecDepth 4000
abbrev Sn(m:List Nat):List UInt8:=m.map UInt8.ofNat
theorem awZ{x:Nat}(h:x<256):dR (UInt8.ofNat x)= .int .u8 (x:Nat):=by
 unfold dR;rw[aN6 h]
end Go.Proofs.YtoecppploooloaaGreatDoor
namespace Go.Pu
theorem akB{B:Nat}:∀{l:List Nat},(∀n∈l,n<=B)->l.sum<=l.length*B
 |[],_=>by simp
 |n::l,h=>by
  have h1:=h n (aMa ..)
  have h2:=akB (l:=l) λm hm=>h m (aLN _ hm)
  rw[aML,aLS,aN5];omega
theorem aiQ{n:Nat}:∀{l:List Nat},n∈l->n<=l.sum
 |[],h=>by cases h
 |m::l,h=>by
  rw[aML]
  rcases aMd.1 h with rfl|h
  .omega
  .have:=aiQ h;omega
def nY(R S n:Nat):Nat:=if n=0 then 0 else 1+n*R/S
def qJ(R S n:Nat):Nat:=n*R/S
def cR(n:Nat):Bool:=decide (0<n)
def IV(ns:List Nat)(i last:Nat):Prop:=(last=0/\∀j,j<i->ns.getD j 0=0)∨(last<i/\0<ns.getD last 0/\∀j,last<j->j<i->ns.getD j 0=0)
theorem IV.step {ns:List Nat}{i last:Nat}(h:IV ns i last):IV ns (i+1) (if 0<ns.getD i 0 then i else last):=by
 split
 .rename_i h0
  exact .inr ⟨by omega,h0,λj h1 h2=>by omega⟩
 .rename_i h0
  rcases h with⟨rfl,h⟩|⟨h1,h2,h3⟩
  .refine .inl ⟨rfl,λj hj=> ?_⟩
   rcases aLL j i with h'|h'
   .exact h j h'
   .have:j=i:=by omega
    subst this;omega
  .refine .inr ⟨by omega,h2,λj hj hj2=> ?_⟩
   rcases aLL j i with h'|h'
   .exact h3 j hj h'
   .have:j=i:=by omega
    subst this;omega
theorem IV.one {ns:List Nat}{i a b:Nat}(ha:IV ns i a)(hb:IV ns i b):a=b:=by
 rcases ha with⟨rfl,h⟩|⟨h1,h2,h3⟩
 .rcases hb with⟨rfl,_⟩|⟨k1,k2,_⟩
  .rfl
  .have:=h b k1;omega
 .rcases hb with⟨rfl,k⟩|⟨k1,k2,k3⟩
  .have:=k a h1;omega
  .rcases aNt a b with h|h|h
   .have:=h3 b h k1;omega
   .exact h
   .have:=k3 a h h1;omega
theorem cL{ns:List Nat}{i:Nat}(h:i<ns.length):ns.getD i 0=ns[i]:=by rw[aLz,aLt h]<;>rfl
theorem aCL{α:Type}{ns:List α}{i:Nat}(h:i<ns.length):ns.take (i+1)=ns.take i++[ns[i]]:=by
 rw[aMG,aLt h]<;>rfl
theorem oD{ns:List Nat}{i:Nat}(h:i<ns.length):ns.take (i+1)=ns.take i++[ns.getD i 0]:=by rw[aCL h,cL h]
theorem UN:∀{l:List Nat},(∀n∈l,n=0)->l.sum=0
 |[],_=>rfl
 |n::l,h=>by rw[aML,h n (aMa ..),UN λm hm=>h m (aLN _ hm)]
theorem vT:∀{l:List Nat},(∀n∈l,n=0)->l.countP cR=0
 |[],_=>rfl
 |n::l,h=>by
  rw[aNe,h n (aMa ..),vT λm hm=>h m (aLN _ hm)]<;>rfl
theorem axN(a b S:Nat):a/S+b/S<=(a+b)/S:=by
 rcases aMC S with h|h
 .subst h;simp
 .rw [aNU h,aMl]
  have:=aNY a S
  have:=aNY b S
  omega
theorem avZ(R S:Nat):∀l:List Nat,(l.map (qJ R S)).sum<=l.sum*R/S
 |[]=>by simp
 |n::l=>by
  rw[aL7,aML,aML,aMl]
  have:=avZ R S l
  have h2:=axN (n*R) (l.sum*R) S
  unfold qJ at*
  omega
theorem aeE{R S:Nat}{l:List Nat}(h:l.sum<=S)(hS:0<S):(l.map (qJ R S)).sum<=R:=by
 have h1:=avZ R S l
 have h2:l.sum*R/S<=S*R/S:=Nat.div_le_div_right (aL1 _ h)
 rw[aNG _ hS]at h2
 omega
theorem awA(R S:Nat):∀l:List Nat,(l.map (nY R S)).sum=l.countP cR+(l.map (qJ R S)).sum
 |[]=>by simp
 |n::l=>by
  rw[aL7,aML,aL7,aML,aNe,awA R S l]
  by_cases h:n=0
  .subst h
   simp[nY,qJ,cR]
  .have:cR n=true:=by unfold cR;simpa using(by omega:0<n)
   rw[this]
   simp only[nY,qJ,if_neg h,if_true]
   omega
theorem aA6:∀{l:List Nat} {i:Nat} (y:Nat) (h:i<l.length),(l.set i (l[i]+y)).sum=l.sum+y
 |[],i,y,h=>by simp at h
 |n::l,0,y,h=>by simp only[aLy,aNk,aML];omega
 |n::l,i+1,y,h=>by
  simp only[aLB,aMJ,aML]
  rw[aA6 y (by simpa using h)];omega
theorem avX:∀l:List Nat,xV (l.map λ(n:Nat)=>(n:Int))=(l.sum:Nat)
 |[]=>rfl
 |n::l=>by
  rw[aL7,vQ,avX l,aML]
  have:bW (n:Int)=n:=by unfold bW;rw[if_neg (by omega)]
  rw[this];simp
theorem JJ{P:List Nat}{gr i:Nat}(x:Nat)(hg:gr<P.length)(hi:i<P.length):(P.set gr x).getD i 0=if i=gr then x else P.getD i 0:=by
 rw[aLz,aLz,aN8]
 by_cases h:i=gr
 .subst h;simp[hi]
 .rw [if_neg (λe=>h e.symm),if_neg h]
def Bx(log there S last gr left:Nat)(ns:List Nat):List Nat:=
 ((ns.take (last+1)).map (nY (2^log-there) S)).set gr (((ns.take (last+1)).map (nY (2^log-there) S)).getD gr 0+left)
theorem aIs{log there last gr left:Nat}{ns:List Nat}(h5:5<=log)(h15:log<=15)(hlen:ns.length<=256)(hth:there=ns.countP cR)(h2:2<=there)(h3:there<=2^log)(hl:IV ns ns.length last)(hgr:gr<=last)(hgr2:0<ns.getD gr 0)
 (hleft:left+((ns.take (last+1)).map (qJ (2^log-there) ns.sum)).sum=2^log-there):
 WS log ((Bx log there ns.sum last gr left ns).map λ(n:Nat)=>(n:Int))/\(Bx log there ns.sum last gr left ns).length=last+1/\last<ns.length/\∀i,i<last+1->(0<(Bx log there ns.sum last gr left ns).getD i 0↔0<ns.getD i 0):=by
 have hlast:last<ns.length/\0<ns.getD last 0/\∀j,last<j->j<ns.length->ns.getD j 0=0:=by
  rcases hl with⟨rfl,h⟩|h
  .exfalso
   have:ns.countP cR=0:=vT λn hn=>by
    obtain⟨i,hi,rfl⟩:=aLY hn
    rw[<-cL hi];exact h i hi
   omega
  .exact h
 obtain⟨l1,l2,l3⟩:=hlast
 have hz:∀n∈ns.drop (last+1),n=0:=λn hn=>by
  obtain⟨i,hi,rfl⟩:=aLY hn
  rw[aLP]at hi
  rw[List.getElem_drop,<-cL (by omega)]
  exact l3 _ (by omega) (by omega)
 have hcnt:(ns.take (last+1)).countP cR=there:=by
  have:ns.countP cR=(ns.take (last+1)++ns.drop (last+1)).countP cR:=by rw[aMz]
  rw[aNH,vT hz]at this
  omega
 have hpl:((ns.take (last+1)).map (nY (2^log-there) ns.sum)).length=last+1:=by rw[aLv,aLD];omega
 have hpart:∀i,i<last+1->((ns.take (last+1)).map (nY (2^log-there) ns.sum)).getD i 0=nY (2^log-there) ns.sum (ns.getD i 0):=λi hi=>by
  rw[cL (by omega),aMp,List.getElem_take,cL (by omega)]
 have hsum:=awA (2^log-there) ns.sum (ns.take (last+1))
 rw[hcnt]at hsum
 have hl':(Bx log there ns.sum last gr left ns).length=last+1:=by unfold Bx;rw[aM1,hpl]
 have hon:∀n,0<nY (2^log-there) ns.sum n↔0<n:=λn=>by
  unfold nY
  split
  .omega
  .generalize n*(2^log-there)/ns.sum=q
   constructor<;>intro<;>omega
 have hget:∀i,i<last+1->(Bx log there ns.sum last gr left ns).getD i 0=if i=gr then nY (2^log-there) ns.sum (ns.getD gr 0)+left else nY (2^log-there) ns.sum (ns.getD i 0):=λi hi=>by
  unfold Bx
  rw[JJ _ (by omega) (by omega),hpart gr (by omega),hpart i hi]
 have hiff:∀i,i<last+1->(0<(Bx log there ns.sum last gr left ns).getD i 0↔0<ns.getD i 0):=λi hi=>by
  rw[hget i hi]
  split
  .rename_i h
   subst h
   have:=(hon (ns.getD i 0)).2 hgr2
   constructor<;>intro<;>omega
  .exact hon _
 refine⟨⟨h5,h15,by rw[aLv,hl'];omega,by rw[aLv,hl'];omega, ?_, ?_, ?_⟩,hl',l1,hiff⟩
 .intro h
  rw[aNb,aLv,hl',aLR,aM3]at h
  have h1:=(hiff last (by omega)).2 l2
  rw[cL (by omega)]at h1
  rw[aLt (by omega)]at h
  have h2:=aLW h
  simp only at h2
  omega
 .intro p hp
  obtain⟨n,_,rfl⟩:=aL5.1 hp
  omega
 .rw [avX]
  have:(Bx log there ns.sum last gr left ns).sum=2^log:=by
   unfold Bx
   rw[cL (show gr<((ns.take (last+1)).map (nY (2^log-there) ns.sum)).length by omega),aA6 _ (by omega),hsum]
   omega
  rw[this];simp
end Go.Pu
namespace Go.Pu
open Go Go.En
theorem adV(f:Nat->Nat):∀{l:List Nat} {i:Nat} (o:Nat) (h:i<l.length),((l.set i o).map f).sum+f l[i]=(l.map f).sum+f o
 |[],i,o,h=>by simp at h
 |x::l,0,o,h=>by rw[aLy,aL7,aL7,aML,aML,aNk];omega
 |x::l,i+1,o,h=>by
  rw[aLB,aL7,aL7,aML,aML,aMJ]
  have:=adV f (l:=l) (i:=i) o (by simpa using h)
  omega
def avM(out:List Nat):Nat:=(out.map λo=>11-o).sum
structure O8 (ns out:List Nat):Prop where
 len:out.length=ns.length
 off:∀i,i<ns.length->ns.getD i 0=0->out.getD i 0=0
 on:∀i,i<ns.length->0<ns.getD i 0->1<=out.getD i 0/\out.getD i 0<=11
theorem O8.set {ns out:List Nat}{i o:Nat}(h:O8 ns out)(hi:i<ns.length)(hn:0<ns.getD i 0)(h1:1<=o)(h2:o<=11):O8 ns (out.set i o):=by
 have hl:=h.len
 refine⟨by rw[aM1];exact hl,λj hj h0=> ?_,λj hj h0=> ?_⟩
 .rw [JJ _ (by omega) (by omega)]
  split
  .rename_i e;subst e;omega
  .exact h.off j hj h0
 .rw [JJ _ (by omega) (by omega)]
  split
  .exact ⟨h1,h2⟩
  .exact h.on j hj h0
theorem O8.le {ns out:List Nat}(h:O8 ns out){i:Nat}(hi:i<out.length):out[i]<=11:=by
 rw[<-cL hi]
 have hl:=h.len
 rcases aMC (ns.getD i 0)with h0|h0
 .rw [h.off i (by omega) h0];omega
 .exact (h.on i (by omega) h0).2
theorem avF{ns out:List Nat}(h:O8 ns out)(hl:ns.length<=256)(hno:∀j,j<ns.length->¬(0<ns.getD j 0/\out.getD j 0<11)):eF out<=256:=by
 have hlen:=h.len
 refine aMu (YV λo ho=> ?_) (by omega)
 obtain⟨i,hi,rfl⟩:=aLY ho
 rw[<-cL hi]
 rcases aMC (ns.getD i 0)with h0|h0
 .exact .inl (h.off i (by omega) h0)
 .have:=hno i (by omega)
  have:=h.on i (by omega) h0
  omega
theorem aqL{ns out:List Nat}(h:O8 ns out){there:Nat}(hth:there<ns.length)(hth0:0<ns.getD there 0)(hroom:eF out<2048):∃j,j<ns.length/\0<ns.getD j 0/\2^(11-out.getD j 0)<=2048-eF out:=by
 have hlen:=h.len
 have hmax:∀k,k<=ns.length->(∃j,j<k/\0<ns.getD j 0)->∃j,j<k/\0<ns.getD j 0/\∀i,i<k->0<ns.getD i 0->out.getD i 0<=out.getD j 0:=by
  intro k
  induction k with
  |zero=>rintro _ ⟨j,hj,_⟩;omega
  |succ k ih=>
   intro hk hex
   by_cases hex2:∃j,j<k/\0<ns.getD j 0
   .obtain ⟨j,h1,h2,h3⟩:=ih (by omega) hex2
    by_cases hb:0<ns.getD k 0/\out.getD j 0<out.getD k 0
    .refine ⟨k,by omega,hb.1,λi hi hi0=> ?_⟩
     by_cases hik:i=k
     .subst hik;omega
     .have:=h3 i (by omega) hi0;omega
    .refine ⟨j,by omega,h2,λi hi hi0=> ?_⟩
     by_cases hik:i=k
     .subst hik;omega
     .exact h3 i (by omega) hi0
   .obtain ⟨j,h1,h2⟩:=hex
    have hjk:j=k:=by
     rcases aLL j k with h'|h'
     .exact absurd ⟨j,h',h2⟩ hex2
     .omega
    subst hjk
    refine⟨j,by omega,h2,λi hi hi0=> ?_⟩
    rcases aLL i j with h'|h'
    .exact absurd ⟨i,h',hi0⟩ hex2
    .have:i=j:=by omega
     subst this;omega
 obtain⟨j,hj,hj0,hjm⟩:=hmax ns.length (aLA _) ⟨there,hth,hth0⟩
 obtain⟨q1,q2⟩:=h.on j hj hj0
 refine⟨j,hj,hj0, ?_⟩
 have hd:=amX (M:=out.getD j 0) q2 (l:=out) λo ho=>by
  obtain⟨i,hi,rfl⟩:=aLY ho
  rw[<-cL hi]
  rcases aMC (ns.getD i 0)with h0|h0
  .rw [h.off i (by omega) h0];omega
  .exact hjm i (by omega) h0
 have h2048:2^(11-out.getD j 0)∣2048:=by
  rw[show(2048:Nat)=2^11 from rfl]
  exact aOk 2 (by omega)
 have hd2:=Nat.dvd_sub h2048 hd
 exact Nat.le_of_dvd (by omega) hd2
theorem aCE{ns out:List Nat}(h:O8 ns out){a b:Nat}(ha:a<ns.length)(hb:b<ns.length)(hab:a≠b)(ha0:0<ns.getD a 0)(hb0:0<ns.getD b 0)(hr:2^(11-out.getD a 0)<=2048-eF out)(hk:eF out<=2048):2<=out.getD a 0:=by
 have hlen:=h.len
 obtain⟨q1,q2⟩:=h.on a ha ha0
 obtain⟨r1,r2⟩:=h.on b hb hb0
 rcases aLL (out.getD a 0) 2 with h1|h1
 .exfalso
  have ea:out.getD a 0=1:=by omega
  rw[ea]at hr
  have hka:qF (out[a]'(by omega))=1024:=by rw[<-cL (by omega),ea]<;>rfl
  have hkb:1<=qF (out[b]'(by omega)):=aBY (by rw[<-cL (by omega)];omega)
  have:qF (out[a]'(by omega))+qF (out[b]'(by omega))<=eF out:=by
   rcases Nat.lt_or_gt_of_ne hab with h|h
   .exact abL (by omega) (by omega) h
   .have:=abL (l:=out) (i:=b) (j:=a) (by omega) (by omega) h;omega
  have:(2:Nat)^(11-1)=1024:=rfl
  omega
 .exact h1
theorem aE9 {ns:List Nat}:∀{c:Nat},2<=ns.countP cR->∃b,b<ns.length/\0<ns.getD b 0/\b≠c:=by
 intro c h
 induction ns generalizing c with
 |nil=>simp at h
 |cons x ns ih=>
  rw[aNe]at h
  by_cases hx:0<x
  .cases c with
   |succ c=>exact⟨0,by simp,by simpa using hx,by omega⟩
   |zero=>
    have h1:1<=ns.countP cR:=by
     split at h<;>omega
    have:∃y∈ns,cR y=true:=by
     rw[<-List.countP_pos_iff];omega
    obtain⟨y,hy,hy0⟩:=this
    obtain⟨i,hi,rfl⟩:=aLY hy
    refine⟨i+1,by simpa using hi, ?_,by omega⟩
    rw[cL (by simpa using hi)]
    simpa[cR]using hy0
  .have hon:cR x=false:=by unfold cR;simpa using hx
   rw[hon]at h
   simp only[aLF,if_false,aL3]at h
   obtain⟨b,h1,h2,h3⟩:=ih (c:=c-1) h
   cases c with
   |zero=>exact⟨b+1,by simpa using h1,by simpa using h2,by omega⟩
   |succ c=>exact⟨b+1,by simpa using h1,by simpa using h2,by simp at h3;omega⟩
end Go.Pu
namespace Go.Proofs.YtoecppploooloaaGreatDoor
open Go Go.En Go.Pu
set_option maxRecDepth 4000
abbrev oc(out:List Nat):List aOn:=out.map λ(n:Nat)=>Value.int .i64 n
theorem MP{out:List Nat}{i:Nat}(h:i<out.length):(oc out)[i]?=some (.int .i64 (out.getD i 0:Nat)):=by
 rw[aLR,aLt h,<-cL h]<;>rfl
theorem ayM(out:List Nat)(i x:Nat):(oc out).set i (.int .i64 x)=oc (out.set i x):=by unfold oc;rw[aM5]
abbrev Ub(ns:List Nat):List aOn:=ns.map λ(n:Nat)=>Value.int .u32 n
theorem Qf{ns:List Nat}{i:Nat}(h:i<ns.length):(Ub ns)[i]?=some (.int .u32 (ns.getD i 0:Nat)):=by
 rw[aLR,aLt h,<-cL h]<;>rfl
theorem aB0 {pb S:Nat}{ov:aOn}{ns:List Nat}{w:aOm}(hs:Sl w ov (Ub ns))(hn:∀n∈ns,n<=4294967295)(hl:ns.length<=256)(hS0:0<S)(hS:S<=2147483647)(ob:aZ w pb (oc (List.replicate ns.length 0)))(hat:¬JN ov (λy=>y=pb)){RR:aOn->aOm->Prop}
 (hK:∀out w',O8 ns out->aZ w' pb (oc out)->aN w w' (λy=>y=pb)->mG RR ov (.slice (some ⟨pb,0,none⟩) ns.length ns.length) (.int .i64 (2048-(eF out:Nat))) w'):
 rX RR ov (.int .u64 S) (.slice (some ⟨pb,0,none⟩) ns.length ns.length) (.int .i64 2048) w:=by
 unfold rX AP Iq
 obtain⟨a,c,hv,hc⟩:=hs.len
 rw[aLv]at hv
 subst hv
 simp(disch:=omega)only[SV]
 unfold rW
 refine aX.rule (λm (t:aOn×aOn) w'=>∃(i:Nat) (out:List Nat),m=ns.length-i/\t=(.int .i64 (2048-(eF out:Nat)),.int .i64 i)/\i<=ns.length/\out.length=ns.length/\(∀j,i<=j->out.getD j 0=0)/\
  (∀j,j<i->ns.getD j 0=0->out.getD j 0=0)/\(∀j,j<i->0<ns.getD j 0->1<=out.getD j 0/\out.getD j 0<=11)/\eF out<=1024*i/\aZ w' pb (oc out)/\aN w w' (λy=>y=pb)) ns.length
  ⟨0,List.replicate ns.length 0,rfl, ?_,by omega,by simp, ?_,λj h=>by omega,λj h=>by omega, ?_,ob,aN.refl _ _⟩ ?_
 .have:eF (List.replicate ns.length 0)=0:=by
   unfold eF
   rw[aNf]
   exact UN λn hn=>by rw[aMY hn]<;>rfl
  rw[this]<;>rfl
 .intro j _
  rw[aLz,aM4]
  split<;>rfl
 .unfold eF
  rw[aNf,UN λn hn=>by rw[aMY hn]<;>rfl];omega
 rintro m t w1 ⟨i,out,rfl,rfl,hi,hlen,hz,hoff,hon,hkr,ob1,x1⟩
 unfold AO Ip
 by_cases hlt:i<ns.length
 .have d1:decide ((i:Int)<(ns.length:Int))=true:=by simp;omega
  obtain⟨b1,off1,rfl,hcell1⟩:=slA (hs.ext x1 hat) (by omega)
  have g1:=hcell1 i hlt
  rw[Qf hlt]at g1
  have hni:ns.getD i 0<=4294967295:=by rw[cL hlt];exact hn _ (aLT hlt)
  generalize hnv:ns.getD i 0=n at*
  unfold AN
  by_cases h0:0<n
  .have d2:decide ((0:Int)<(n:Int))=true:=by simp;omega
   have e1:(S:Int)-1=((S-1:Nat):Int):=by omega
   have e2:((S-1:Nat):Int).tdiv (n:Int)=(((S-1)/n:Nat):Int):=by rw[aNm (by omega)];simp
   have n2:((n:Int)==0)=false:=beq_eq_false_iff_ne.2 (by omega)
   have hq:(S-1)/n<=S-1:=aOi _ _
   generalize(S-1)/n=qv at*
   simp(disch:=omega)only[SV,d1,g1,d2,e1,n2,e2]
   refine(aAV qv (by omega) w1).mono ?_
   rintro r w2 ⟨rfl,rfl⟩
   have hbl:bl qv<=32:=vC (by omega)
   generalize bl qv=y at*
   have hmx:(if(1:Int)>(y:Int)then(1:Int)else(y:Int))=((max y 1:Nat):Int):=by split<;>omega
   have hmn:(if(11:Int)<((max y 1:Nat):Int)then(11:Int)else((max y 1:Nat):Int))=((min (max y 1) 11:Nat):Int):=by split<;>omega
   have hxb:1<=min (max y 1) 11/\min (max y 1) 11<=11:=by omega
   generalize min (max y 1) 11=x at*
   have hks:=UE (l:=out) (i:=i) x (by omega)
   have hoi:out[i]'(by omega)=0:=by rw[<-cL (by omega)];exact hz i (aLA _)
   rw[hoi]at hks
   have hk0:qF 0=0:=rfl
   have hkx:qF x=2^(11-x):=by unfold qF;rw[if_neg (by omega)]
   have hpx:2^(11-x)<=2^10:=aLG (by omega) (by omega)
   rw[hk0,hkx,aL3]at hks
   simp only[gt_iff_lt]at hmx
   simp(disch:=omega)only[SV,hmx,hmn,gt_iff_lt]
   refine rF ob1 rfl (by rw[aLv];omega) λw3 ob3 x3 s3=> ?_
   rw[ayM]at ob3
   have f1:=ob3.cell (off:=i)
   rw[MP (by rw[aM1];omega),JJ x (by omega) (by omega),if_pos rfl]at f1
   have e3:(11:Int)-(x:Int)=((11-x:Nat):Int):=by omega
   have hsh:=agA (n:=11-x) (by omega)
   have e4:(2048:Int)-((eF out:Nat):Int)-((2^(11-x):Nat):Int)=2048-((eF (out.set i x):Nat):Int):=by omega
   simp(disch:=omega)only[SV,f1,e3,hsh,e4]
   refine⟨ns.length-(i+1),by omega,i+1,out.set i x,rfl,rfl,by omega,by rw[aM1];exact hlen, ?_, ?_, ?_,by omega,ob3,x1.trans x3 λ_ _ h=>h⟩
   .intro j hj
    rcases aLL j out.length with h|h
    .rw [JJ x (by omega) h,if_neg (by omega)];exact hz j (by omega)
    .rw [aLz,aLH (by rw[aM1];exact h)]<;>rfl
   .intro j hj h0'
    rw[JJ x (by omega) (by omega)]
    split
    .rename_i e;subst e;omega
    .exact hoff j (by omega) h0'
   .intro j hj h0'
    rw[JJ x (by omega) (by omega)]
    split
    .exact hxb
    .exact hon j (by omega) h0'
  .have d2:decide ((0:Int)<(n:Int))=false:=by simp;omega
   simp(disch:=omega)only[SV,d1,g1,d2]
   refine⟨ns.length-(i+1),by omega,i+1,out,rfl,rfl,by omega,hlen,λj hj=>hz j (by omega), ?_, ?_,by omega,ob1,x1⟩
   .intro j hj h0'
    rcases aLL j i with h|h
    .exact hoff j h h0'
    .exact hz j h
   .intro j hj h0'
    rcases aLL j i with h|h
    .exact hon j h h0'
    .have:j=i:=by omega
     subst this;omega
 .have d1:decide ((i:Int)<(ns.length:Int))=false:=by simp;omega
  obtain rfl:i=ns.length:=by omega
  simp(disch:=omega)only[SV,d1]
  exact hK out w1 ⟨hlen,hoff,hon⟩ ob1 x1
theorem YU(b:Bool):bK undef b=false:=by cases b<;>rfl
def arS(ns out:List Nat)(i:Nat)(at':Int):Prop:=(at'= -1/\∀j,j<i->¬(0<ns.getD j 0/\out.getD j 0<11))∨(∃a:Nat,at'=a/\a<ns.length/\0<ns.getD a 0/\out.getD a 0<11)
theorem aB3 {pb:Nat}{ov:aOn}{room:Int}{ns out:List Nat}{w:aOm}(hs:Sl w ov (Ub ns))(hn:∀n∈ns,n<=4294967295)(hl:ns.length<=256)(h:O8 ns out)(ob:aZ w pb (oc out)){kn:aOn->aOn->aOn->aOn->aOm->Prop}
 (hK:∀at' w',arS ns out ns.length at'->aN w w' bJ->kn ov (.slice (some ⟨pb,0,none⟩) ns.length ns.length) (.int .i64 room) (.int .i64 at') w'):
 rU kn ov (.slice (some ⟨pb,0,none⟩) ns.length ns.length) (.int .i64 room) (.int .i64 (-1)) w:=by
 unfold rU Il
 obtain⟨a,c,hv,hc⟩:=hs.len
 rw[aLv]at hv
 subst hv
 have hlen:=h.len
 simp(disch:=omega)only[aA,hJ,aF]
 unfold rT
 refine aX.rule (λm (t:aOn×aOn) w'=>∃(i:Nat) (at':Int),m=ns.length-i/\t=(.int .i64 at',.int .i64 i)/\i<=ns.length/\arS ns out i at'/\aN w w' bJ) ns.length
  ⟨0,-1,rfl,rfl,by omega,.inl ⟨rfl,λj h=>by omega⟩,aN.refl _ _⟩ ?_
 rintro m t w1 ⟨i,at',rfl,rfl,hi,hp,x1⟩
 unfold AJ Ik
 by_cases hlt:i<ns.length
 .have d1:decide ((i:Int)<(ns.length:Int))=true:=by simp;omega
  have x1d:aN w (dr w1) bJ:=x1.seq (aN.dr _ _)
  obtain⟨b1,off1,rfl,hcell1⟩:=slA (hs.ext x1 (aU _)) (by omega)
  have g1:=hcell1 i hlt
  rw[Qf hlt]at g1
  have g1d:(dr w1).cell? ⟨b1,off1+i,none⟩=_:=g1
  have f1:=(ob.ext x1d (λh=>h)).cell (off:=i)
  rw[MP (by omega)]at f1
  have keep:¬(0<ns.getD i 0/\out.getD i 0<11)->arS ns out (i+1) at':=λhb=>by
   rcases hp with⟨q1,q2⟩|q
   .refine .inl ⟨q1,λj hj=> ?_⟩
    rcases aLL j i with h'|h'
    .exact q2 j h'
    .have:j=i:=by omega
     subst this;exact hb
   .exact .inr q
  have keep2:(0:Int)<=at'->arS ns out (i+1) at':=λhb=>by
   rcases hp with⟨q1,q2⟩|q
   .omega
   .exact .inr q
  have new:0<ns.getD i 0->out.getD i 0<11->arS ns out (i+1) (i:Int):=λq1 q2=> .inr ⟨i,rfl,hlt,q1,q2⟩
  unfold AI
  by_cases h0:0<ns.getD i 0
  .have d2:decide ((0:Int)<((ns.getD i 0:Nat):Int))=true:=by simp only[decide_eq_true_eq];omega
   by_cases h11:out.getD i 0<11
   .have d3:decide (((out.getD i 0:Nat):Int)<(11:Int))=true:=by simp only[decide_eq_true_eq];omega
    rcases hp with⟨rfl,q2⟩|⟨a,rfl,ha,ha0,ha11⟩
    .have d4:decide ((-1:Int)<0)=true:=rfl
     simp(disch:=omega)only[aA,fM,d1,dX,aLx,gN,cX,aF,true_and,iP,g1,cQ,tA,d2,wE,jX,if_true,jF,gS,aLI,sU,f1,d3,d4,Dj,bD,gF,YU]
     exact⟨ns.length-(i+1),by omega,i+1,_,rfl,rfl,by omega,new h0 h11,x1d⟩
    .have d4:decide ((a:Int)<0)=false:=by simp
     have f2:=(ob.ext x1d (λh=>h)).cell (off:=a)
     rw[MP (by omega)]at f2
     have g2:(dr w1).cell? ⟨b1,off1+a,none⟩=_:=hcell1 a ha
     rw[Qf ha]at g2
     by_cases h5:out.getD a 0<out.getD i 0
     .have d5:decide (((out.getD a 0:Nat):Int)<((out.getD i 0:Nat):Int))=true:=by simp only[decide_eq_true_eq];omega
      simp(disch:=omega)only[aA,fM,d1,dX,aLx,gN,cX,aF,true_and,iP,g1,cQ,tA,d2,wE,jX,if_true,jF,gS,aLI,sU,f1,d3,d4,Ao,aLF,if_false,f2,d5,Dj,bD,gF,YU]
      exact⟨ns.length-(i+1),by omega,i+1,_,rfl,rfl,by omega,new h0 h11,x1d⟩
     .have d5:decide (((out.getD a 0:Nat):Int)<((out.getD i 0:Nat):Int))=false:=by simp only[decide_eq_false_iff_not];omega
      by_cases h6:out.getD i 0=out.getD a 0
      .have d6:(((out.getD i 0:Nat):Int)==((out.getD a 0:Nat):Int))=true:=by rw[h6];simp
       by_cases h7:ns.getD i 0<ns.getD a 0
       .have d7:decide (((ns.getD i 0:Nat):Int)<((ns.getD a 0:Nat):Int))=true:=by simp only[decide_eq_true_eq];omega
        simp(maxSteps:=4000000) (disch:=omega)only[aA,dT,aF,stepR_skip,gN,A8,TH,WC,Zu,Cg,aqI,Zv,Dq,HY,nZ,mD,Dr,fM,TG,tA,Af,WA,Zq,WB,jX,Zs,Zr,Zt,x20,x21,x30,x31,x32,x40,x41,x42,x43,cQ,Result.ok.injEq,Next.value.injEq,true_and,and_true,cX,gP,ZQ,LR,ZR,Qg,aLx,wE,Dj,yK,Ao,jF,gF,Iz,CF,bD,aR,if_true,if_false,aLF,aLI,aMT,aMS,aMy,aMD,aLw,aLu,dY,mW,mL,lF,yL,fK,eK,dO,sT,fS,eD,hJ,dX,iP,gA,hZ,sW,gS,sU,fQ,gU,fW,fB,YU,d1,g1,g1d,d2,f1,d3,d4,f2,g2,d5,d6,d7]
        exact⟨ns.length-(i+1),by omega,i+1,_,rfl,rfl,by omega,new h0 h11,x1d⟩
       .have d7:decide (((ns.getD i 0:Nat):Int)<((ns.getD a 0:Nat):Int))=false:=by simp only[decide_eq_false_iff_not];omega
        simp(maxSteps:=4000000) (disch:=omega)only[aA,dT,aF,stepR_skip,gN,A8,TH,WC,Zu,Cg,aqI,Zv,Dq,HY,nZ,mD,Dr,fM,TG,tA,Af,WA,Zq,WB,jX,Zs,Zr,Zt,x20,x21,x30,x31,x32,x40,x41,x42,x43,cQ,Result.ok.injEq,Next.value.injEq,true_and,and_true,cX,gP,ZQ,LR,ZR,Qg,aLx,wE,Dj,yK,Ao,jF,gF,Iz,CF,bD,aR,if_true,if_false,aLF,aLI,aMT,aMS,aMy,aMD,aLw,aLu,dY,mW,mL,lF,yL,fK,eK,dO,sT,fS,eD,hJ,dX,iP,gA,hZ,sW,gS,sU,fQ,gU,fW,fB,YU,d1,g1,g1d,d2,f1,d3,d4,f2,g2,d5,d6,d7]
        exact⟨ns.length-(i+1),by omega,i+1,_,rfl,rfl,by omega,.inr ⟨a,rfl,ha,ha0,ha11⟩,x1d⟩
      .have d6:(((out.getD i 0:Nat):Int)==((out.getD a 0:Nat):Int))=false:=beq_eq_false_iff_ne.2 (by omega)
       simp(maxSteps:=4000000) (disch:=omega)only[aA,dT,aF,stepR_skip,gN,A8,TH,WC,Zu,Cg,aqI,Zv,Dq,HY,nZ,mD,Dr,fM,TG,tA,Af,WA,Zq,WB,jX,Zs,Zr,Zt,x20,x21,x30,x31,x32,x40,x41,x42,x43,cQ,Result.ok.injEq,Next.value.injEq,true_and,and_true,cX,gP,ZQ,LR,ZR,Qg,aLx,wE,Dj,yK,Ao,jF,gF,Iz,CF,bD,aR,if_true,if_false,aLF,aLI,aMT,aMS,aMy,aMD,aLw,aLu,dY,mW,mL,lF,yL,fK,eK,dO,sT,fS,eD,hJ,dX,iP,gA,hZ,sW,gS,sU,fQ,gU,fW,fB,YU,d1,g1,g1d,d2,f1,d3,d4,f2,g2,d5,d6]
       exact⟨ns.length-(i+1),by omega,i+1,_,rfl,rfl,by omega,.inr ⟨a,rfl,ha,ha0,ha11⟩,x1d⟩
   .have d3:decide (((out.getD i 0:Nat):Int)<(11:Int))=false:=by simp only[decide_eq_false_iff_not];omega
    simp(disch:=omega)only[aA,fM,d1,dX,aLx,gN,cX,aF,true_and,iP,g1,cQ,tA,d2,wE,jX,if_true,jF,gS,aLI,sU,f1,d3,yK,aLF,if_false,aR,gF,YU,bD]
    exact⟨ns.length-(i+1),by omega,i+1,_,rfl,rfl,by omega,keep (by omega),x1d⟩
  .have d2:decide ((0:Int)<((ns.getD i 0:Nat):Int))=false:=by simp only[decide_eq_false_iff_not];omega
   simp(disch:=omega)only[aA,fM,d1,dX,aLx,gN,cX,aF,true_and,iP,g1,cQ,tA,d2,yK,jX,aLF,if_false,aR,gF,YU,bD]
   exact⟨ns.length-(i+1),by omega,i+1,_,rfl,rfl,by omega,keep (by omega),x1d⟩
 .have d1:decide ((i:Int)<(ns.length:Int))=false:=by simp;omega
  obtain rfl:i=ns.length:=by omega
  simp(disch:=omega)only[aA,fM,d1,true_and,aF,aR]
  exact hK at' w1 hp x1
theorem aB1 {pb:Nat}{ov:aOn}{ns out:List Nat}{w:aOm}(hs:Sl w ov (Ub ns))(hn:∀n∈ns,n<=4294967295)(hl:ns.length<=256)(h:O8 ns out)(ob:aZ w pb (oc out))(hat:¬JN ov (λy=>y=pb)){RR:aOn->aOm->Prop}
 (hK:∀out w',O8 ns out->eF out<=2048->aZ w' pb (oc out)->aN w w' (λy=>y=pb)->mF RR ov (.slice (some ⟨pb,0,none⟩) ns.length ns.length) (.int .i64 (2048-(eF out:Nat))) w'):
 mG RR ov (.slice (some ⟨pb,0,none⟩) ns.length ns.length) (.int .i64 (2048-(eF out:Nat))) w:=by
 unfold mG rV
 refine aX.rule (λm (t:aOn) w'=>∃out:List Nat,m=avM out/\t= .int .i64 (2048-(eF out:Nat))/\O8 ns out/\aZ w' pb (oc out)/\aN w w' (λy=>y=pb)) (avM out) ⟨out,rfl,rfl,h,ob,aN.refl _ _⟩ ?_
 rintro m t w1 ⟨out,rfl,rfl,h1,ob1,x1⟩
 have hlen:=h1.len
 have hkb:eF out<=1024*ns.length:=by
  rw[<-hlen]
  have:∀l:List Nat,eF l<=1024*l.length:=λl=>by
   induction l with
   |nil=>simp[eF]
   |cons x l ih=>
    rw[nP,aLS]
    have:qF x<=1024:=by
     unfold qF
     split
     .omega
     .have:2^(11-x)<=2^10:=aLG (by omega) (by omega)
      omega
    omega
  exact this out
 unfold AM Io
 by_cases hneg:2048<eF out
 .have d1:decide ((2048:Int)-((eF out:Nat):Int)<0)=true:=by simp only[decide_eq_true_eq];omega
  simp(disch:=omega)only[aA,fM,d1,aF,bD]
  unfold AL Im AK
  refine aB3 (room:=2048-((eF out:Nat):Int)) (hs.ext x1 hat) hn hl h1 ob1 λat' w2 hp x2=> ?_
  rcases hp with⟨_,q⟩|⟨a,rfl,ha,ha0,ha11⟩
  .exfalso
   have:=avF h1 hl q
   omega
  have ob2:=ob1.ext x2 (λh=>h)
  have f1:=ob2.cell (off:=a)
  rw[MP (by omega)]at f1
  have hon:=h1.on a ha ha0
  have hks:=UE (l:=out) (i:=a) (out.getD a 0+1) (by omega)
  have hsl:=adV (λo=>11-o) (l:=out) (i:=a) (out.getD a 0+1) (by omega)
  have hset:=h1.set (o:=out.getD a 0+1) ha ha0 (by omega) (by omega)
  rw[<-cL (by omega)]at hks hsl
  have hk1:qF (out.getD a 0)=2*2^(10-out.getD a 0):=by
   unfold qF
   rw[if_neg (by omega),<-Nat.pow_succ',show(10-out.getD a 0).succ=11-out.getD a 0 from by omega]
  have hk2:qF (out.getD a 0+1)=2^(10-out.getD a 0):=by
   unfold qF
   rw[if_neg (by omega)]
   congr 1;omega
  rw[hk1,hk2]at hks
  have hsl2:avM (out.set a (out.getD a 0+1))+(11-out.getD a 0)=avM out+(11-(out.getD a 0+1)):=hsl
  generalize hov:out.getD a 0=o at*
  have e1:(11:Int)-(o:Int)=((11-o:Nat):Int):=by omega
  have e2:((11-o:Nat):Int)-1=((10-o:Nat):Int):=by omega
  have hsh:=agA (n:=10-o) (by omega)
  have hp10:2^(10-o)<=2^10:=aLG (by omega) (by omega)
  have e3:(2048:Int)-((eF out:Nat):Int)+((2^(10-o):Nat):Int)=2048-((eF (out.set a (o+1)):Nat):Int):=by omega
  have e4:(o:Int)+1=((o+1:Nat):Int):=by omega
  unfold AH
  simp(disch:=omega)only[aA,gS,aLx,aLI,aF,sU,f1,cQ,A8,e1,cX,e2,HY,hsh,gN,e3,e4]
  refine rF ob2 rfl (by rw[aLv];omega) λw3 ob3 x3 s3=> ?_
  rw[ayM]at ob3
  exact⟨avM (out.set a (o+1)),by omega,_,rfl,rfl,hset,ob3,(x1.seq (x2.mono λ_ _ h=>h.elim)).trans x3 λ_ _ h=>h⟩
 .have d1:decide ((2048:Int)-((eF out:Nat):Int)<0)=false:=by simp only[decide_eq_false_iff_not];omega
  simp(disch:=omega)only[aA,fM,d1,aF,aR]
  exact hK out w1 h1 (by omega) ob1 x1
def arT(r:Nat)(ns out:List Nat)(i:Nat)(at':Int):Prop:=(at'= -1/\∀j,j<i->¬(0<ns.getD j 0/\2^(11-out.getD j 0)<=r))∨(∃a:Nat,at'=a/\a<ns.length/\0<ns.getD a 0/\2^(11-out.getD a 0)<=r)
theorem aB4 {pb:Nat}{ov:aOn}{r:Nat}{ns out:List Nat}{w:aOm}(hs:Sl w ov (Ub ns))(hn:∀n∈ns,n<=4294967295)(hl:ns.length<=256)(h:O8 ns out)(hr:r<=2048)(ob:aZ w pb (oc out)){kn:aOn->aOn->aOn->aOn->aOm->Prop}
 (hK:∀at' w',arT r ns out ns.length at'->aN w w' bJ->kn ov (.slice (some ⟨pb,0,none⟩) ns.length ns.length) (.int .i64 r) (.int .i64 at') w'):
 uT kn ov (.slice (some ⟨pb,0,none⟩) ns.length ns.length) (.int .i64 r) (.int .i64 (-1)) w:=by
 unfold uT KL
 obtain⟨a,c,hv,hc⟩:=hs.len
 rw[aLv]at hv
 subst hv
 have hlen:=h.len
 simp(disch:=omega)only[aA,hJ,aF]
 unfold uS
 refine aX.rule (λm (t:aOn×aOn) w'=>∃(i:Nat) (at':Int),m=ns.length-i/\t=(.int .i64 at',.int .i64 i)/\i<=ns.length/\arT r ns out i at'/\aN w w' bJ) ns.length
  ⟨0,-1,rfl,rfl,by omega,.inl ⟨rfl,λj h=>by omega⟩,aN.refl _ _⟩ ?_
 rintro m t w1 ⟨i,at',rfl,rfl,hi,hp,x1⟩
 unfold B4 KK
 by_cases hlt:i<ns.length
 .have d1:decide ((i:Int)<(ns.length:Int))=true:=by simp;omega
  have x1d:aN w (dr w1) bJ:=x1.seq (aN.dr _ _)
  obtain⟨b1,off1,rfl,hcell1⟩:=slA (hs.ext x1 (aU _)) (by omega)
  have g1:=hcell1 i hlt
  rw[Qf hlt]at g1
  have g1d:(dr w1).cell? ⟨b1,off1+i,none⟩=_:=g1
  have f1:=(ob.ext x1d (λh=>h)).cell (off:=i)
  rw[MP (by omega)]at f1
  have keep:¬(0<ns.getD i 0/\2^(11-out.getD i 0)<=r)->arT r ns out (i+1) at':=λhb=>by
   rcases hp with⟨q1,q2⟩|q
   .refine .inl ⟨q1,λj hj=> ?_⟩
    rcases aLL j i with h'|h'
    .exact q2 j h'
    .have:j=i:=by omega
     subst this;exact hb
   .exact .inr q
  have keep2:(0:Int)<=at'->arT r ns out (i+1) at':=λhb=>by
   rcases hp with⟨q1,q2⟩|q
   .omega
   .exact .inr q
  have new:0<ns.getD i 0->2^(11-out.getD i 0)<=r->arT r ns out (i+1) (i:Int):=λq1 q2=> .inr ⟨i,rfl,hlt,q1,q2⟩
  have hoi:=h.le (i:=i) (by omega)
  rw[<-cL (by omega)]at hoi
  have e8:(11:Int)-((out.getD i 0:Nat):Int)=((11-out.getD i 0:Nat):Int):=by omega
  have hsh:=agA (n:=11-out.getD i 0) (by omega)
  unfold B3
  by_cases h0:0<ns.getD i 0
  .have d2:decide ((0:Int)<((ns.getD i 0:Nat):Int))=true:=by simp only[decide_eq_true_eq];omega
   by_cases h11:2^(11-out.getD i 0)<=r
   .have d3:decide (((2^(11-out.getD i 0):Nat):Int)<=(r:Int))=true:=by simp only[decide_eq_true_eq];omega
    rcases hp with⟨rfl,q2⟩|⟨a,rfl,ha,ha0,har⟩
    .have d4:decide ((-1:Int)<0)=true:=rfl
     simp(disch:=omega)only[aA,fM,d1,dX,aLx,gN,cX,aF,true_and,iP,g1,cQ,tA,d2,wE,jX,if_true,jF,gS,aLI,sU,f1,A8,e8,HY,hsh,TG,d3,d4,Dj,bD,gF,YU]
     exact⟨ns.length-(i+1),by omega,i+1,_,rfl,rfl,by omega,new h0 h11,x1d⟩
    .have d4:decide ((a:Int)<0)=false:=by simp
     have f2:=(ob.ext x1d (λh=>h)).cell (off:=a)
     rw[MP (by omega)]at f2
     have g2:(dr w1).cell? ⟨b1,off1+a,none⟩=_:=hcell1 a ha
     rw[Qf ha]at g2
     by_cases h5:out.getD a 0<out.getD i 0
     .have d5:decide (((out.getD a 0:Nat):Int)<((out.getD i 0:Nat):Int))=true:=by simp only[decide_eq_true_eq];omega
      simp(maxSteps:=4000000) (disch:=omega)only[aA,dT,aF,stepR_skip,gN,A8,TH,WC,Zu,Cg,aqI,Zv,Dq,HY,nZ,mD,Dr,fM,TG,tA,Af,WA,Zq,WB,jX,Zs,Zr,Zt,x20,x21,x30,x31,x32,x40,x41,x42,x43,cQ,Result.ok.injEq,Next.value.injEq,true_and,and_true,cX,gP,ZQ,LR,ZR,Qg,aLx,wE,Dj,yK,Ao,jF,gF,Iz,CF,bD,aR,if_true,if_false,aLF,aLI,aMT,aMS,aMy,aMD,aLw,aLu,dY,mW,mL,lF,yL,fK,eK,dO,sT,fS,eD,hJ,dX,iP,gA,hZ,sW,gS,sU,fQ,gU,fW,fB,YU,d1,g1,g1d,d2,f1,e8,hsh,d3,d4,f2,g2,d5]
      exact⟨ns.length-(i+1),by omega,i+1,_,rfl,rfl,by omega,new h0 h11,x1d⟩
     .have d5:decide (((out.getD a 0:Nat):Int)<((out.getD i 0:Nat):Int))=false:=by simp only[decide_eq_false_iff_not];omega
      by_cases h6:out.getD i 0=out.getD a 0
      .have d6:(((out.getD i 0:Nat):Int)==((out.getD a 0:Nat):Int))=true:=by rw[h6];simp
       by_cases h7:ns.getD a 0<ns.getD i 0
       .have d7:decide (((ns.getD a 0:Nat):Int)<((ns.getD i 0:Nat):Int))=true:=by simp only[decide_eq_true_eq];omega
        simp(maxSteps:=4000000) (disch:=omega)only[aA,dT,aF,stepR_skip,gN,A8,TH,WC,Zu,Cg,aqI,Zv,Dq,HY,nZ,mD,Dr,fM,TG,tA,Af,WA,Zq,WB,jX,Zs,Zr,Zt,x20,x21,x30,x31,x32,x40,x41,x42,x43,cQ,Result.ok.injEq,Next.value.injEq,true_and,and_true,cX,gP,ZQ,LR,ZR,Qg,aLx,wE,Dj,yK,Ao,jF,gF,Iz,CF,bD,aR,if_true,if_false,aLF,aLI,aMT,aMS,aMy,aMD,aLw,aLu,dY,mW,mL,lF,yL,fK,eK,dO,sT,fS,eD,hJ,dX,iP,gA,hZ,sW,gS,sU,fQ,gU,fW,fB,YU,d1,g1,g1d,d2,f1,e8,hsh,d3,d4,f2,g2,d5,d6,d7]
        exact⟨ns.length-(i+1),by omega,i+1,_,rfl,rfl,by omega,new h0 h11,x1d⟩
       .have d7:decide (((ns.getD a 0:Nat):Int)<((ns.getD i 0:Nat):Int))=false:=by simp only[decide_eq_false_iff_not];omega
        simp(maxSteps:=4000000) (disch:=omega)only[aA,dT,aF,stepR_skip,gN,A8,TH,WC,Zu,Cg,aqI,Zv,Dq,HY,nZ,mD,Dr,fM,TG,tA,Af,WA,Zq,WB,jX,Zs,Zr,Zt,x20,x21,x30,x31,x32,x40,x41,x42,x43,cQ,Result.ok.injEq,Next.value.injEq,true_and,and_true,cX,gP,ZQ,LR,ZR,Qg,aLx,wE,Dj,yK,Ao,jF,gF,Iz,CF,bD,aR,if_true,if_false,aLF,aLI,aMT,aMS,aMy,aMD,aLw,aLu,dY,mW,mL,lF,yL,fK,eK,dO,sT,fS,eD,hJ,dX,iP,gA,hZ,sW,gS,sU,fQ,gU,fW,fB,YU,d1,g1,g1d,d2,f1,e8,hsh,d3,d4,f2,g2,d5,d6,d7]
        exact⟨ns.length-(i+1),by omega,i+1,_,rfl,rfl,by omega,.inr ⟨a,rfl,ha,ha0,har⟩,x1d⟩
      .have d6:(((out.getD i 0:Nat):Int)==((out.getD a 0:Nat):Int))=false:=beq_eq_false_iff_ne.2 (by omega)
       simp(maxSteps:=4000000) (disch:=omega)only[aA,dT,aF,stepR_skip,gN,A8,TH,WC,Zu,Cg,aqI,Zv,Dq,HY,nZ,mD,Dr,fM,TG,tA,Af,WA,Zq,WB,jX,Zs,Zr,Zt,x20,x21,x30,x31,x32,x40,x41,x42,x43,cQ,Result.ok.injEq,Next.value.injEq,true_and,and_true,cX,gP,ZQ,LR,ZR,Qg,aLx,wE,Dj,yK,Ao,jF,gF,Iz,CF,bD,aR,if_true,if_false,aLF,aLI,aMT,aMS,aMy,aMD,aLw,aLu,dY,mW,mL,lF,yL,fK,eK,dO,sT,fS,eD,hJ,dX,iP,gA,hZ,sW,gS,sU,fQ,gU,fW,fB,YU,d1,g1,g1d,d2,f1,e8,hsh,d3,d4,f2,g2,d5,d6]
       exact⟨ns.length-(i+1),by omega,i+1,_,rfl,rfl,by omega,.inr ⟨a,rfl,ha,ha0,har⟩,x1d⟩
   .have d3:decide (((2^(11-out.getD i 0):Nat):Int)<=(r:Int))=false:=by simp only[decide_eq_false_iff_not];omega
    simp(disch:=omega)only[aA,fM,d1,dX,aLx,gN,cX,aF,true_and,iP,g1,cQ,tA,d2,wE,jX,if_true,jF,gS,aLI,sU,f1,A8,e8,HY,hsh,TG,d3,yK,aLF,if_false,aR,gF,YU,bD]
    exact⟨ns.length-(i+1),by omega,i+1,_,rfl,rfl,by omega,keep (by omega),x1d⟩
  .have d2:decide ((0:Int)<((ns.getD i 0:Nat):Int))=false:=by simp only[decide_eq_false_iff_not];omega
   simp(disch:=omega)only[aA,fM,d1,dX,aLx,gN,cX,aF,true_and,iP,g1,cQ,tA,d2,yK,jX,aLF,if_false,aR,gF,YU,bD]
   exact⟨ns.length-(i+1),by omega,i+1,_,rfl,rfl,by omega,keep (by omega),x1d⟩
 .have d1:decide ((i:Int)<(ns.length:Int))=false:=by simp;omega
  obtain rfl:i=ns.length:=by omega
  simp(disch:=omega)only[aA,fM,d1,true_and,aF,aR]
  exact hK at' w1 hp x1
theorem aB2 {pb:Nat}{ov:aOn}{ns out:List Nat}{w:aOm}(hs:Sl w ov (Ub ns))(hn:∀n∈ns,n<=4294967295)(hl:ns.length<=256)(h2:2<=ns.countP cR)(h:O8 ns out)(hk:eF out<=2048)(ob:aZ w pb (oc out))(hat:¬JN ov (λy=>y=pb)){RR:aOn->aOm->Prop}
 (hK:∀out w',O8 ns out->eF out=2048->aZ w' pb (oc out)->aN w w' (λy=>y=pb)->RR (.slice (some ⟨pb,0,none⟩) ns.length ns.length) w'):
 mF RR ov (.slice (some ⟨pb,0,none⟩) ns.length ns.length) (.int .i64 (2048-(eF out:Nat))) w:=by
 unfold mF rS
 refine aX.rule (λm (t:aOn) w'=>∃out:List Nat,m=2048-eF out/\t= .int .i64 (2048-(eF out:Nat))/\O8 ns out/\eF out<=2048/\aZ w' pb (oc out)/\aN w w' (λy=>y=pb)) (2048-eF out) ⟨out,rfl,rfl,h,hk,ob,aN.refl _ _⟩ ?_
 rintro m t w1 ⟨out,rfl,rfl,h1,hk1,ob1,x1⟩
 have hlen:=h1.len
 have e0:(2048:Int)-((eF out:Nat):Int)=((2048-eF out:Nat):Int):=by omega
 rw[e0]
 unfold AG Ij
 by_cases hpos:eF out<2048
 .have d1:decide ((0:Int)<((2048-eF out:Nat):Int))=true:=by simp only[decide_eq_true_eq];omega
  simp(disch:=omega)only[aA,tA,d1,aF,bD]
  unfold AF Ii AE
  refine aB4 (r:=2048-eF out) (hs.ext x1 hat) hn hl h1 (by omega) ob1 λat' w2 hp x2=> ?_
  obtain⟨t0,ht0,ht1,_⟩:=aE9 (c:=ns.length) h2
  rcases hp with⟨_,q⟩|⟨a,rfl,ha,ha0,har⟩
  .exfalso
   obtain⟨j,j1,j2,j3⟩:=aqL h1 ht0 ht1 hpos
   exact q j j1 ⟨j2,j3⟩
  obtain⟨b,hb,hb0,hba⟩:=aE9 (c:=a) h2
  have hge2:=aCE h1 ha hb (λe=>hba e.symm) ha0 hb0 har hk1
  have ob2:=ob1.ext x2 (λh=>h)
  have f1:=ob2.cell (off:=a)
  rw[MP (by omega)]at f1
  have hon:=h1.on a ha ha0
  have hks:=UE (l:=out) (i:=a) (out.getD a 0-1) (by omega)
  have hset:=h1.set (o:=out.getD a 0-1) ha ha0 (by omega) (by omega)
  rw[<-cL (by omega)]at hks
  have hk3:qF (out.getD a 0)=2^(11-out.getD a 0):=by unfold qF;rw[if_neg (by omega)]
  have hk2:qF (out.getD a 0-1)=2*2^(11-out.getD a 0):=by
   unfold qF
   rw[if_neg (by omega),<-Nat.pow_succ']
   congr 1;omega
  rw[hk3,hk2]at hks
  generalize hov:out.getD a 0=o at*
  have e1:(11:Int)-(o:Int)=((11-o:Nat):Int):=by omega
  have hsh:=agA (n:=11-o) (by omega)
  have hp10:=aLZ (11-o)
  have e3:((2048-eF out:Nat):Int)-((2^(11-o):Nat):Int)=2048-((eF (out.set a (o-1)):Nat):Int):=by omega
  have e4:(o:Int)-1=((o-1:Nat):Int):=by omega
  unfold B2
  simp(disch:=omega)only[aA,gS,aLx,aLI,aF,sU,f1,cQ,A8,e1,cX,HY,hsh,e3,e4]
  refine rF ob2 rfl (by rw[aLv];omega) λw3 ob3 x3 s3=> ?_
  rw[ayM]at ob3
  exact⟨2048-eF (out.set a (o-1)),by omega,_,rfl,rfl,hset,by omega,ob3,(x1.seq (x2.mono λ_ _ h=>h.elim)).trans x3 λ_ _ h=>h⟩
 .have d1:decide ((0:Int)<((2048-eF out:Nat):Int))=false:=by simp only[decide_eq_false_iff_not];omega
  unfold B1
  simp(disch:=omega)only[aA,tA,d1,aF,aR]
  exact hK out w1 h1 (by omega) ob1 x1
theorem aB5 {ov:aOn}{S:Nat}{ns:List Nat}{w:aOm}(hs:Sl w ov (Ub ns))(hn:∀n∈ns,n<=4294967295)(hl:ns.length<=256)(h2:2<=ns.countP cR)(hS0:0<S)(hS:S<=2147483647):
 aK pg wZ #[ov,.int .u64 S] w (λr w'=>∃pb out,r= .slice (some ⟨pb,0,none⟩) ns.length ns.length/\w.heap.size<=pb/\aZ w' pb (oc out)/\O8 ns out/\eF out=2048/\aN w w' bJ):=by
 refine Us ?_
 obtain⟨a,c,hv,hc⟩:=hs.len
 rw[aLv]at hv hc
 subst hv
 unfold Ri Is Ir
 simp(disch:=omega)only[aA,hJ,aF]
 refine Om (by omega) (by omega) λw1 o1 x1 s1=> ?_
 rw[aLx]at o1⊢
 have ho1:aZ w1 w.heap.size (oc (List.replicate ns.length 0)):=by
  unfold oc;rw[aNf];exact o1
 have hat:¬JN (.slice a ns.length c) (λy=>y=w.heap.size):=λh=>hs.old (vE h λb hb=>by omega)
 have hs1:=hs.ext x1 (aU _)
 refine aB0 hs1 hn hl hS0 hS ho1 hat λout w2 h2' ob2 x2=> ?_
 refine aB1 (hs1.ext x2 hat) hn hl h2' ob2 hat λout w3 h3 hk3 ob3 x3=> ?_
 refine aB2 ((hs1.ext x2 hat).ext x3 hat) hn hl h2 h3 hk3 ob3 hat λout w4 h4 hk4 ob4 x4=> ?_
 exact⟨_,out,rfl,aLA _,ob4,h4,hk4,((x1.trans x2 λb hb h=>by omega).trans x3 λb hb h=>by omega).trans x4 λb hb h=>by omega⟩
theorem aIm{pb:Nat}{out:List Nat}{w:aOm}(ob:aZ w pb (oc out))(h0:0<out.length)(hl:out.length<=100000)(hb:∀o∈out,o<=1000000):
 aK pg wY #[.slice (some ⟨pb,0,none⟩) out.length out.length] w (λr w'=>(∃m:Nat,r= .int .i64 m/\(∀x∈out,x<=m)/\m∈out)/\w'=w):=by
 refine T6 ?_
 unfold Ra Ig Ie
 have d0:decide ((out.length:Int)<1)=false:=by simp;omega
 have g0:=ob.cell (off:=0)
 rw[MP h0]at g0
 have t0:(0:Int).toNat=0:=rfl
 simp(disch:=omega)only[SV,d0]
 unfold BZ Ku
 simp(disch:=omega)only[SV,g0,t0]
 unfold BY BX Kt uM
 refine aX.rule (λm (t:aOn×aOn) w'=>∃i q:Nat,m=out.length-i/\t=(.int .i64 q,.int .i64 i)/\1<=i/\i<=out.length/\(∀x∈out.take i,x<=q)/\q∈out.take i/\w'=w) (out.length-1)
  ⟨1,out.getD 0 0,by omega,rfl,by omega,by omega, ?_, ?_,rfl⟩ ?_
 .intro x hx
  rw[oD (i:=0) h0]at hx
  simp at hx;simp;omega
 .rw [oD (i:=0) h0];simp
 rintro m t w1 ⟨i,q,rfl,rfl,hi1,hi,hle,hmem,rfl⟩
 unfold BW
 by_cases hlt:i<out.length
 .have d1:decide ((i:Int)<(out.length:Int))=true:=by simp;omega
  have g1:=ob.cell (off:=i)
  rw[MP hlt]at g1
  have ht:=oD hlt
  have hxb:out.getD i 0<=1000000:=by rw[cL hlt];exact hb _ (aLT hlt)
  have hqb:q<=1000000:=hb q (aMx hmem)
  generalize out.getD i 0=x at*
  have hmx:(if(q:Int)<(x:Int)then(x:Int)else(q:Int))=((max q x:Nat):Int):=by split<;>omega
  have hmx2:(if(x:Int)>(q:Int)then(x:Int)else(q:Int))=((max q x:Nat):Int):=by split<;>omega
  simp(disch:=omega)only[SV,d1,g1,hmx,hmx2]
  refine⟨out.length-(i+1),by omega,i+1,max q x,rfl,rfl,by omega,by omega, ?_, ?_⟩
  .intro y hy
   rw[ht]at hy
   rcases aMq.1 hy with hy|hy
   .have:=hle y hy;omega
   .rw [aMB.1 hy];omega
  .rw [ht,aMq]
   rcases aOj q x with h|h
   .rw [Nat.max_eq_right h];exact .inr (aMB.2 rfl)
   .rw [Nat.max_eq_left h];exact .inl hmem
 .have d1:decide ((i:Int)<(out.length:Int))=false:=by simp;omega
  obtain rfl:i=out.length:=by omega
  rw[aNv]at*
  unfold BV
  simp(disch:=omega)only[SV,d1]
  exact⟨q,rfl,hle,hmem⟩
def anG(ns:List Nat):Bool:=decide (ns.length<=256/\2<=ns.countP cR/\ns.sum<=2147483647)
theorem aCb{ov:aOn}{ns:List Nat}{w:aOm}(hs:Sl w ov (Ub ns))(hn:∀n∈ns,n<=4294967295)(hl:ns.length<=300){RR:aOn->aOm->Prop}
 (hK:∀last,IV ns ns.length last->DR RR ov (.int .u64 ns.sum) (.int .i64 (ns.countP cR:Nat)) (.int .i64 last) w):
 DV RR ov (.int .u64 0) (.int .i64 0) (.int .i64 0) w:=by
 unfold DV KI Un
 obtain⟨a,c,hv,hc⟩:=hs.len
 rw[aLv]at hv
 subst hv
 simp(disch:=omega)only[SV]
 unfold DU
 refine aX.rule (λm (t:aOn×aOn×aOn×aOn) w'=>∃i last:Nat,m=ns.length-i/\t=(.int .u64 (ns.take i).sum,.int .i64 ((ns.take i).countP cR:Nat),.int .i64 last,.int .i64 i)/\i<=ns.length/\IV ns i last/\last<=i/\w'=w) ns.length
  ⟨0,0,rfl,by simp,by omega,.inl ⟨rfl,λj h=>by omega⟩,by omega,rfl⟩ ?_
 rintro m t w1 ⟨i,last,rfl,rfl,hi,hla,hli,rfl⟩
 unfold KH Um
 by_cases hlt:i<ns.length
 .have d1:decide ((i:Int)<(ns.length:Int))=true:=by simp;omega
  obtain⟨b,off,rfl,hcell⟩:=slA hs (by omega)
  have g1:=hcell i hlt
  rw[Qf hlt]at g1
  have hni:ns.getD i 0<=4294967295:=by rw[cL hlt];exact hn _ (aLT hlt)
  have hsl:=akB (B:=4294967295) (l:=ns.take i) λn hn'=>hn n (aMx hn')
  rw[aLD,aMk (by omega)]at hsl
  have hsl2:i*4294967295<=300*4294967295:=aL1 _ (by omega)
  have hct:(ns.take i).countP cR<=i:=by
   have:=aNd (l:=ns.take i) (p:=cR)
   rw[aLD]at this;omega
  have hsum:(ns.take (i+1)).sum=(ns.take i).sum+ns.getD i 0:=by rw[oD hlt,aNJ];simp
  have hcnt:(ns.take (i+1)).countP cR=(ns.take i).countP cR+(if 0<ns.getD i 0 then 1 else 0):=by
   rw[oD hlt,aNH,List.countP_singleton]
   unfold cR;simp only[decide_eq_true_eq]
  have hstep:=hla.step
  generalize ns.getD i 0=n at*
  have e1:(((ns.take i).sum:Nat):Int)+(n:Int)=(((ns.take i).sum+n:Nat):Int):=by omega
  by_cases h0:0<n
  .have d2:decide ((0:Int)<(n:Int))=true:=by simp;omega
   rw[if_pos h0]at hcnt hstep
   unfold DT
   simp(disch:=omega)only[SV,d1,g1,d2,e1]
   exact⟨ns.length-(i+1),by omega,i+1,i,rfl,by rw[hsum,hcnt]<;>rfl,by omega,hstep,by omega⟩
  .have d2:decide ((0:Int)<(n:Int))=false:=by simp;omega
   rw[if_neg h0]at hcnt hstep
   unfold DT
   simp(disch:=omega)only[SV,d1,g1,d2,e1]
   exact⟨ns.length-(i+1),by omega,i+1,last,rfl,by rw[hsum,hcnt]<;>rfl,by omega,hstep,by omega⟩
 .have d1:decide ((i:Int)<(ns.length:Int))=false:=by simp;omega
  obtain rfl:i=ns.length:=by omega
  rw[aLO (aLA _)]
  simp(disch:=omega)only[SV,d1]
  exact hK last hla
def aHI(w:aOm)(base:Nat)(ns:List Nat)(r:aOn):Prop:=
 (anG ns=false/\r= .tuple #[.slice none 0 0,.int .i64 1])∨
 (anG ns=true/\∃(last:Nat) (v:aOn) (wl:List Nat),IV ns ns.length last/\last<ns.length/\wl.length=last+1/\fG wl≠0/\(∀x∈wl,x<=11)/\(∀i,i<last+1->(0<wl.getD i 0↔0<ns.getD i 0))/\
  r= .tuple #[v,.int .i64 0]/\pC w base 1 v (last+1) ((Sn wl).map dR))
theorem ayO{ns out:List Nat}{d last:Nat}(h:O8 (ns.take (last+1)) out)(hk:eF out=2048)(hd:∀o∈out,o<=d)(hdm:d∈out)(hl:last<ns.length)(hl2:ns.length<=256)(hlast:0<ns.getD last 0)(h2:2<=(ns.take (last+1)).countP cR):
 fG (out.map (wOf d))=d/\d≠0/\d<=11/\∀i,i<last+1->(0<(out.map (wOf d)).getD i 0↔0<ns.getD i 0):=by
 have hlen:=h.len
 have htl:(ns.take (last+1)).length=last+1:=by rw[aLD];omega
 have htd:∀i,i<last+1->(ns.take (last+1)).getD i 0=ns.getD i 0:=λi hi=>by
  rw[aLz,aLz,aLX hi]
 have hd11:d<=11:=by
  obtain⟨i,hi,rfl⟩:=aLY hdm
  exact h.le hi
 have hon:=h.on last (by omega) (by rw[htd last (by omega)];exact hlast)
 have hd0:1<=d:=by
  have:=hd (out.getD last 0) (by rw[cL (by omega)];exact aLT _)
  omega
 have hW:=aFn hd11 hd hk
 have hget:∀i,i<last+1->(out.map (wOf d)).getD i 0=wOf d (out.getD i 0):=λi hi=>by
  rw[cL (by rw[aLv];omega),aMp,cL (by omega)]
 have hiff:∀i,i<last+1->(0<(out.map (wOf d)).getD i 0↔0<ns.getD i 0):=λi hi=>by
  rw[hget i hi,<-htd i hi]
  have hdi:=hd (out.getD i 0) (by rw[cL (by omega)];exact aLT _)
  constructor
  .intro h0
   rcases aMC ((ns.take (last+1)).getD i 0)with h'|h'
   .rw [h.off i (by omega) h']at h0
    simp[wOf]at h0
   .exact h'
  .intro h0
   have:=h.on i (by omega) h0
   unfold wOf
   rw[if_neg (by omega)];omega
 have hlast2:2<=last+1:=by
  have:=aNd (l:=ns.take (last+1)) (p:=cR)
  omega
 refine⟨aBJ ?_ hd11 (by rw[aLv];omega) (by rw[aLv];omega) ?_ hW,by omega,hd11,hiff⟩
 .intro w hw
  obtain⟨o,ho,rfl⟩:=aL5.1 hw
  have:=hd o ho
  unfold wOf
  split<;>omega
 .intro hq
  rw[aNb,aLv,hlen,htl,aM3]at hq
  have:=(hiff last (by omega)).2 hlast
  rw[aLz,hq]at this
  simp at this
theorem aAY{base i x:Nat}{d10 v' t51 t52 t53:aOn}{cells:List aOn}{w:aOm}(o:pC w base 1 v' i cells)(hb:base<=w.heap.size)(hi:i<=100000)(hx:x<256){kn:aOn->aOn->aOn->aOn->aOn->aOm->Prop}
 (hK:∀v2 w2,pC w2 base 1 v2 (i+1) (cells++[.int .u8 x])->aN w w2 (λy=>base<=y)->kn d10 v2 t51 t52 t53 w2):Gl kn d10 v' (.int .i64 x) t51 t52 t53 w:=by
 unfold Gl
 obtain⟨av,cv,rfl⟩:=o.len
 have e8:IntKind.u8.wrap (x:Int)=(x:Int):=Qg (by omega) (by omega)
 simp(disch:=omega)only[SV,e8]
 refine iM (cells:= #[.int .u8 x]) (by decide) (by decide) (by kernel_rfl) λw5 o5 x5 s5=> ?_
 have z5:=x5.size
 refine dH (m:=1) (news:=[.int .u8 x]) (o.ext x5 (λ_ _ h=>h)) (o5.cl (off:=0) (l:=[.int .u8 x]) (n:=1) rfl (λi hi=>by rw[aLI])) (by simp[one]) (by omega) (by omega) λv6 w6 o6 x6=> ?_
 exact hK v6 w6 o6 ((x5.mono λ_ _ h=>h.elim).seq x6)
theorem aJQ{ov:aOn}{ns:List Nat}{w:aOm}(hs:Sl w ov (Ub ns))(hn:∀n∈ns,n<=4294967295)(hl:ns.length<=300):
 aK pg Iy #[ov] w (λr w'=>aHI w' w.heap.size ns r/\aN w w' bJ):=by
 refine agC ?_
 unfold akF Up Uo
 refine aCb hs hn hl λlast hlast=> ?_
 unfold DR Ul
 obtain⟨a,c,hv,hc⟩:=hs.len
 rw[aLv]at hv hc
 subst hv
 have no:¬(ns.length<=256/\2<=ns.countP cR/\ns.sum<=2147483647)->anG ns=false:=λh=>by unfold anG;exact decide_eq_false h
 have hcl:ns.countP cR<=ns.length:=aNd
 have hsl:=akB (B:=4294967295) hn
 have hsl2:ns.length*4294967295<=300*4294967295:=aL1 _ (by omega)
 by_cases h4:256<ns.length
 .have d4:decide ((256:Int)<(ns.length:Int))=true:=by simp;omega
  simp(disch:=omega)only[SV,d4]
  exact⟨.inl ⟨no (by omega),rfl⟩,aN.refl _ _⟩
 have d4:decide ((256:Int)<(ns.length:Int))=false:=by simp;omega
 by_cases h5:ns.countP cR<2
 .have d5:decide (((ns.countP cR:Nat):Int)<2)=true:=by simp only[decide_eq_true_eq];omega
  simp(disch:=omega)only[SV,d4,d5]
  exact⟨.inl ⟨no (by omega),rfl⟩,aN.refl _ _⟩
 have d5:decide (((ns.countP cR:Nat):Int)<2)=false:=by simp only[decide_eq_false_iff_not];omega
 by_cases h7:2147483647<ns.sum
 .have d7:decide ((2147483647:Int)<((ns.sum:Nat):Int))=true:=by simp only[decide_eq_true_eq];omega
  simp(disch:=omega)only[SV,d4,d5,d7]
  exact⟨.inl ⟨no (by omega),rfl⟩,aN.refl _ _⟩
 have d7:decide ((2147483647:Int)<((ns.sum:Nat):Int))=false:=by simp only[decide_eq_false_iff_not];omega
 have hok:anG ns=true:=by unfold anG;exact decide_eq_true (by omega)
 have hl2:last<ns.length/\0<ns.getD last 0/\∀j,last<j->j<ns.length->ns.getD j 0=0:=by
  rcases hlast with⟨rfl,h⟩|h
  .exfalso
   have:ns.countP cR=0:=vT λn hn=>by
    obtain⟨i,hi,rfl⟩:=aLY hn
    rw[<-cL hi];exact h i hi
   omega
  .exact h
 obtain⟨l1,l2,l3⟩:=hl2
 have hS0:0<ns.sum:=by
  have:=aiQ (l:=ns) (n:=ns.getD last 0) (by rw[cL l1];exact aLT _)
  omega
 have hz:∀n∈ns.drop (last+1),n=0:=λn hn=>by
  obtain⟨i,hi,rfl⟩:=aLY hn
  rw[aLP]at hi
  rw[List.getElem_drop,<-cL (by omega)]
  exact l3 _ (by omega) (by omega)
 have hcnt:2<=(ns.take (last+1)).countP cR:=by
  have:ns.countP cR=(ns.take (last+1)++ns.drop (last+1)).countP cR:=by rw[aMz]
  rw[aNH,vT hz]at this
  omega
 have htl:(ns.take (last+1)).length=last+1:=by rw[aLD];omega
 have e1:(last:Int)+1=((last+1:Nat):Int):=by omega
 obtain⟨b0,off0,rfl,_⟩:=slA hs (by omega)
 have e2:cW (some ⟨b0,off0,none⟩) c 0 1=some ⟨b0,off0,none⟩:=by have:=Kn (b:=b0) (o:=off0) (m:=c) (l:=0) (by omega);simpa using this
 have hsub:Sl w (.slice (some ⟨b0,off0,none⟩) (last+1) c) (Ub (ns.take (last+1))):=by
  have:=aEX hs (k:=last+1) (by omega)
  rw[<-aNg]at this
  exact this
 simp(disch:=omega)only[SV,d4,d5,d7,e1,e2,aM0]
 refine(aB5 hsub (λn h=>hn n (aMx h)) (by omega) hcnt hS0 (by omega)).mono ?_
 rintro r w1 ⟨pb,out,rfl,hpb,ob,hLen,hkr,x1⟩
 rw[htl]
 have hol:out.length=last+1:=by rw[hLen.len,htl]
 have hm:=aIm (w:=w1) (pb:=pb) (out:=out) ob (by omega) (by omega) (λo ho=>by
  obtain⟨i,hi,rfl⟩:=aLY ho
  have:=hLen.le hi;omega)
 rw[hol]at hm
 refine hm.mono ?_
 rintro r w2 ⟨⟨d,rfl,hd1,hd2⟩,rfl⟩
 obtain⟨hdep,hd0,hd11,hiff⟩:=ayO hLen hkr hd1 hd2 l1 (by omega) l2 hcnt
 obtain⟨wl,hwl⟩:∃wl,out.map (wOf d)=wl:=⟨_,rfl⟩
 have hwll:wl.length=last+1:=by rw[<-hwl,aLv,hol]
 have hwget:∀i,i<last+1->wl.getD i 0=wOf d (out.getD i 0):=λi hi=>by
  rw[<-hwl,cL (by rw[aLv];omega),aMp,cL (by omega)]
 rw[hwl]at hdep hiff
 have hw11:=(NM hdep hd0).1
 unfold KG KF Uk
 simp(disch:=omega)only[SV]
 unfold DQ
 refine aX.rule (λm (t:aOn×aOn) w'=>∃(i:Nat) (v':aOn),m=last+1-i/\t=(v',.int .i64 i)/\i<=last+1/\pC w' w2.heap.size 1 v' i ((Sn (wl.take i)).map dR)/\aN w2 w' bJ) (last+1)
  ⟨0,_,rfl,rfl,by omega,pC.nil _ _ _,aN.refl _ _⟩ ?_
 rintro m t w3 ⟨i,v',rfl,rfl,hi,o3,x3⟩
 have z3:=x3.size
 have z1:=x1.size
 unfold M6 WJ
 by_cases hlt:i<last+1
 .have d1:decide ((i:Int)<((last+1:Nat):Int))=true:=by simp only[decide_eq_true_eq];omega
  have f1:=(ob.ext x3 (λh=>h)).cell (off:=i)
  rw[MP (by omega)]at f1
  have hs1:=oD (ns:=wl) (i:=i) (by omega)
  rw[hwget i hlt]at hs1
  have hod:=hd1 (out.getD i 0) (by rw[cL (by omega)];exact aLT _)
  have hwo:wOf d (out.getD i 0)=if out.getD i 0=0 then 0 else d+1-out.getD i 0:=rfl
  generalize out.getD i 0=o at*
  have hcells:∀x:Nat,wOf d o=x->x<256->((Sn (wl.take i)).map dR++[.int .u8 x])=(Sn (wl.take (i+1))).map dR:=λx hx hx2=>by
   rw[hs1,hx]
   simp only[Sn,aL2,aL7,aN3,awZ hx2]
  unfold M5 M4 WI
  by_cases h0:0<o
  .have d2:decide ((0:Int)<(o:Int))=true:=by simp;omega
   have e3:(d:Int)+1-(o:Int)=((d+1-o:Nat):Int):=by omega
   rw[if_neg (by omega)]at hwo
   simp(disch:=omega)only[SV,d1,f1,d2,e3]
   refine aAY o3 z3 (by omega) (by omega) λv4 w4 o4 x4=> ?_
   rw[hcells _ hwo (by omega)]at o4
   unfold Gk
   simp(disch:=omega)only[SV]
   exact⟨last+1-(i+1),by omega,i+1,_,rfl,rfl,by omega,o4,x3.trans x4 λb hb h=>by omega⟩
  .have d2:decide ((0:Int)<(o:Int))=false:=by simp;omega
   rw[if_pos (by omega)]at hwo
   simp(disch:=omega)only[SV,d1,f1,d2]
   refine aAY (x:=0) o3 z3 (by omega) (by omega) λv4 w4 o4 x4=> ?_
   rw[hcells _ hwo (by omega)]at o4
   unfold Gk
   simp(disch:=omega)only[SV]
   exact⟨last+1-(i+1),by omega,i+1,_,rfl,rfl,by omega,o4,x3.trans x4 λb hb h=>by omega⟩
 .have d1:decide ((i:Int)<((last+1:Nat):Int))=false:=by simp only[decide_eq_false_iff_not];omega
  obtain rfl:i=last+1:=by omega
  rw[aLO (by omega)]at o3
  unfold M3
  simp(disch:=omega)only[SV,d1]
  refine⟨.inr ⟨hok,last,v',wl,hlast,l1,hwll,by omega,λx hx=>by have:=hw11 x hx;omega,hiff,rfl,o3.1, ?_⟩,x1.seq x3⟩
  rcases o3.2 with h|⟨b,c,rest',q1,q2,q3⟩
  .exact .inl h
  .exact .inr ⟨b,c,rest',q1,by omega,q3⟩
def wrB(l:List Nat):List Nat:=(126+l.length)::Q6 (l.take (l.length-1))
theorem aAe(l:List Nat):(wrB l).length=1+(l.length-1+1)/2:=by
 unfold wrB
 rw[aLS,Zm,aLD,aMk (by omega)];omega
theorem akJ{base i x:Nat}{l0 n4 v' i6:aOn}{cells:List aOn}{w:aOm}(o:pC w base 1 v' i cells)(hb:base<=w.heap.size)(hi:i<=100000)(hx:x<256){kn:aOn->aOn->aOn->aOn->aOm->Prop}
 (hK:∀v2 w2,pC w2 base 1 v2 (i+1) (cells++[.int .u8 x])->aN w w2 (λy=>base<=y)->kn l0 n4 v2 i6 w2):zZ kn l0 n4 v' i6 (.int .u8 x) w:=by
 unfold zZ
 obtain⟨av,cv,rfl⟩:=o.len
 refine iM (cells:= #[.int .u8 x]) (by decide) (by decide) (by kernel_rfl) λw5 o5 x5 s5=> ?_
 have z5:=x5.size
 refine dH (m:=1) (news:=[.int .u8 x]) (o.ext x5 (λ_ _ h=>h)) (o5.cl (off:=0) (l:=[.int .u8 x]) (n:=1) rfl (λi hi=>by rw[aLI])) (by simp[one]) (by omega) (by omega) λv6 w6 o6 x6=> ?_
 exact hK v6 w6 o6 ((x5.mono λ_ _ h=>h.elim).seq x6)
theorem aAi{v:aOn}{l:List UInt8}{w:aOm}(h:Bs w v l)(hl:l.length<=100000)(hd:fG (bU l)=0∨129<l.length):
 aK pg uZ #[v] w (λr w'=>r= .tuple #[.slice none 0 0,.int .i64 (if fG (bU l)=0 then 1 else 12)]/\w'=w):=by
 refine KJ ?_
 obtain⟨a,n,c,rfl,hn,hc,hh⟩:=id h
 rw[aLv]at hn
 subst hn
 unfold M7 DZ DY
 refine(agK h hl).mono ?_
 rintro r w1 ⟨rfl,rfl⟩
 by_cases h0:fG (bU l)=0
 .have n1:(((fG (bU l):Nat):Int)==0)=true:=by rw[h0]<;>rfl
  simp(disch:=omega)only[SV,n1]
  rw[if_pos h0]
 .have n1:(((fG (bU l):Nat):Int)==0)=false:=beq_eq_false_iff_ne.2 (by omega)
  have d1:decide ((129:Int)<(l.length:Int))=true:=by simp;omega
  simp(disch:=omega)only[SV,n1,d1]
  rw[if_neg h0]
theorem aFu{v:aOn}{l:List UInt8}{d:Nat}{w:aOm}(h:Bs w v l)(hd:fG (bU l)=d)(hd0:d≠0)(hl:l.length<=129):
 aK pg uZ #[v] w (λr w'=>∃v',r= .tuple #[v',.int .i64 0]/\pC w' w.heap.size 1 v' (wrB (bU l)).length ((Sn (wrB (bU l))).map dR)/\aN w w' bJ):=by
 refine KJ ?_
 obtain⟨hall,hd11,hl2,hl256,hlast,hsum⟩:=NM hd hd0
 have hnl:=eI l
 obtain⟨b,off,c,rfl,hc,hcell⟩:=aaI h (by omega)
 unfold M7 DZ DY
 refine(agK h (by omega)).mono ?_
 rintro r w1 ⟨rfl,rfl⟩
 rw[hd]
 have n1:((d:Int)==0)=false:=beq_eq_false_iff_ne.2 (by omega)
 have d1:decide ((129:Int)<(l.length:Int))=false:=by simp;omega
 have e1:(l.length:Int)-1=((l.length-1:Nat):Int):=by omega
 have e2:(127:Int)+((l.length-1:Nat):Int)=((126+l.length:Nat):Int):=by omega
 have e8:IntKind.u8.wrap ((126+l.length:Nat):Int)=((126+l.length:Nat):Int):=Qg (by omega) (by omega)
 simp(disch:=omega)only[SV,n1,d1,e1,e2,e8]
 refine iM (cells:= #[.int .u8 (126+l.length:Nat)]) (by decide) (by decide) (by kernel_rfl) λw2 o2 x2 s2=> ?_
 obtain⟨m,hm⟩:∃m,m=(bU l).take (l.length-1):=⟨_,rfl⟩
 have hml:m.length=l.length-1:=by rw[hm,aLD,hnl];omega
 have hmg:∀i,i<l.length-1->m.getD i 0=(bU l).getD i 0:=λi hi=>by
  rw[hm,aLz,aLz,aLX hi]
 have hm11:∀x∈m,x<=11:=λx hx=>by rw[hm]at hx;have:=hall x (aMx hx);omega
 have hm16:∀x∈m,x<16:=λx hx=>by have:=hm11 x hx;omega
 have hwr:wrB (bU l)=(126+l.length)::Q6 m:=by unfold wrB;rw[hnl,hm]
 have hpl:=Zm m
 have ho2:pC w2 w1.heap.size 1 (.slice (some ⟨w1.heap.size,0,none⟩) 1 1) (0+1) ((Sn ((126+l.length)::(Q6 m).take 0)).map dR):=by
  refine⟨by simp,.inr ⟨_,1,[],rfl,aLA _, ?_,rfl,aLA _⟩⟩
  simp only[Sn,aLK,aL7,aN3,awZ (show 126+l.length<256 by omega),aMf]
  exact o2
 unfold DX DW LV xQ
 refine aX.rule (λq (t:aOn×aOn) w'=>∃(j:Nat) (v':aOn),q=l.length-1+1-j/\t=(v',.int .i64 (2*j:Nat))/\j<=(m.length+1)/2/\pC w' w1.heap.size 1 v' (j+1) ((Sn ((126+l.length)::(Q6 m).take j)).map dR)/\aN w1 w' bJ) (l.length-1+1)
  ⟨0,_,rfl,rfl,by omega,ho2,x2⟩ ?_
 rintro q t w3 ⟨j,v',rfl,rfl,hj,o3,x3⟩
 have z3:=x3.size
 unfold FJ O1
 by_cases hlt:2*j<l.length-1
 .have d2:decide (((2*j:Nat):Int)<((l.length-1:Nat):Int))=true:=by simp only[decide_eq_true_eq];omega
  obtain⟨_,_,_,he,_,hcell3⟩:=aaI (h.ext x3 (aU _)) (by omega)
  cases he
  have g1:=hcell3 (2*j) (by omega)
  have hg1:=aEm (l:=l) (i:=2*j) (by omega)
  rw[<-hg1,<-hmg (2*j) hlt]at g1
  have hs1:=oD (ns:=Q6 m) (i:=j) (by omega)
  rw[aCg (by omega)]at hs1
  have hx11:m.getD (2*j) 0<=11:=hm11 _ (Df (by omega))
  have hy11:=aGg hm16 (2*j+1)
  have e3:((2*j:Nat):Int)+1=((2*j+1:Nat):Int):=by omega
  have hcells:∀z:Nat,z=m.getD (2*j) 0*16+m.getD (2*j+1) 0->z<256->((Sn ((126+l.length)::(Q6 m).take j)).map dR++[.int .u8 z])=(Sn ((126+l.length)::(Q6 m).take (j+1))).map dR:=λz hz hz2=>by
   rw[hs1,<-hz]
   simp only[Sn,aL2,aL7,aN3,awZ hz2,aMo]
  have hodd:¬2*j+1<l.length-1->m.getD (2*j+1) 0=0:=λh=>by
   rw[aLz,aLH (by omega)]<;>rfl
  have g2:2*j+1<l.length-1->w3.cell? ⟨b,off+(2*j+1),none⟩=some (.int .u8 (m.getD (2*j+1) 0:Nat)):=λh=>by
   have:=hcell3 (2*j+1) (by omega)
   rw[<-aEm (l:=l) (i:=2*j+1) (by omega),<-hmg (2*j+1) h]at this
   exact this
  generalize m.getD (2*j) 0=x at*
  generalize m.getD (2*j+1) 0=y at*
  have t4:(4:Int).toNat=4:=rfl
  have e4:IntKind.u8.wrap ((x:Int)*2^(min 4 IntKind.u8.bits))=((x*16:Nat):Int):=by
   rw[show min 4 IntKind.u8.bits=4 from rfl]
   have:(x:Int)*2^4=((x*16:Nat):Int):=by omega
   rw[this]
   exact Qg (by omega) (by omega)
  unfold FI FG O0
  by_cases h2:2*j+1<l.length-1
  .have d3:decide (((2*j+1:Nat):Int)<((l.length-1:Nat):Int))=true:=by simp only[decide_eq_true_eq];omega
   have g2:=g2 h2
   have e5:=ajE (a:=x*16) (b:=y) (by omega) (by omega)
   have e6:x*16|||y=x*16+y:=by
    rw[Nat.or_comm]
    have:=ayQ (x:=y) (i:=4) (by omega) x
    rw[show x*2^4=x*16 from rfl]at this
    rw[this];omega
   rw[e6]at e5
   simp(disch:=omega)only[SV,d2,g1,t4,e4,e3,d3,g2,e5]
   refine akJ (x:=x*16+y) o3 (by omega) (by omega) (by omega) λv4 w4 o4 x4=> ?_
   rw[hcells _ rfl (by omega)]at o4
   unfold zY
   have e7:((2*j:Nat):Int)+2=((2*(j+1):Nat):Int):=by omega
   simp(disch:=omega)only[SV,e7]
   exact⟨l.length-1+1-(j+1),by omega,j+1,_,rfl,rfl,by omega,o4,x3.trans x4 λb hb h=>by omega⟩
  .have d3:decide (((2*j+1:Nat):Int)<((l.length-1:Nat):Int))=false:=by simp only[decide_eq_false_iff_not];omega
   have hy0:=hodd h2
   simp(disch:=omega)only[SV,d2,g1,t4,e4,e3,d3]
   refine akJ (x:=x*16) o3 (by omega) (by omega) (by omega) λv4 w4 o4 x4=> ?_
   rw[hcells _ (by omega) (by omega)]at o4
   unfold zY
   have e7:((2*j:Nat):Int)+2=((2*(j+1):Nat):Int):=by omega
   simp(disch:=omega)only[SV,e7]
   exact⟨l.length-1+1-(j+1),by omega,j+1,_,rfl,rfl,by omega,o4,x3.trans x4 λb hb h=>by omega⟩
 .have d2:decide (((2*j:Nat):Int)<((l.length-1:Nat):Int))=false:=by simp only[decide_eq_false_iff_not];omega
  have hjE:j=(Q6 m).length:=by omega
  rw[aLO (by omega),<-hwr]at o3
  have hwl:(wrB (bU l)).length=j+1:=by rw[hwr,aLS];omega
  unfold FF
  simp(disch:=omega)only[SV,d2]
  exact⟨v',rfl,by rw[hwl];exact o3,x3⟩
def aHa(w:aOm)(base n:Nat)(r:aOn):Prop:=
 (∃e:Int,e≠0/\r= .tuple #[.slice none 0 0,.int .i64 e])∨
 (∃(v:aOn) (bytes:List UInt8),r= .tuple #[v,.int .i64 0]/\pC w base 1 v bytes.length (bytes.map dR)/\1<=bytes.length/\bytes.length<=11*n/8+100)
def PZ(kind form n m bits:Nat):Nat:=kind+form*4+n*2^4+m*2^(4+bits)
theorem aEz{a b:Nat}(ha:a<2^64)(hb:b<2^64):orI .u64 (a:Int) (b:Int)=((a|||b:Nat):Int):=aAZ ha hb
theorem auT{RR:aOn->aOm->Prop}{sv bv:aOn}{l B:List UInt8}{kind form bits size:Nat}{w:aOm}(h:Bs w sv l)(hb:Bs w bv B)(hl:l.length<=131072)(hk:kind<4)(hf:form<4)(hbits:bits<=18)(hsz:1<=size/\size<=8)(hB:B.length<2^18)(hn:l.length<2^bits)
 (hk':∀r w',pC w' w.heap.size 1 r (dM (PZ kind form l.length B.length bits) size++B).length ((dM (PZ kind form l.length B.length bits) size++B).map dR)->aN w w' bJ->RR (.tuple #[r,.int .i64 0]) w'):
 nS RR sv (.int .i64 (kind:Nat)) bv (.int .i64 (form:Nat)) (.int .i64 (bits:Nat)) (.int .i64 (size:Nat)) w:=by
 unfold nS
 refine(EL w).mono ?_
 rintro r w1 ⟨rfl,hlt1,hw1,x1⟩
 have z1:=x1.size
 have h1:=h.ext x1 (aU _)
 have hb1:=hb.ext x1 (aU _)
 have hbv:=hb1
 obtain⟨a,c,rfl,hc⟩:=h1.len
 obtain⟨a2,c2,rfl,hc2⟩:=hb1.len
 rw[aLv]at hbv
 have t2:(2:Int).toNat=2:=rfl
 have t4:(4:Int).toNat=4:=rfl
 have e1:=anR (a:=form) (n:=2) (by omega) (by omega)
 have e2:=anR (a:=l.length) (n:=4) (by omega) (by omega)
 have e3:orI .i64 (kind:Int) ((form*2^2:Nat):Int)=((kind+form*4:Nat):Int):=by
  rw[Zk (by omega) (by omega),Nat.or_comm,PY 2 (by omega)];congr 1;omega
 have e4:orI .i64 ((kind+form*4:Nat):Int) ((l.length*2^4:Nat):Int)=((kind+form*4+l.length*2^4:Nat):Int):=by
  rw[Zk (by omega) (by omega),Nat.or_comm,PY 4 (by omega)];congr 1;omega
 have e5:IntKind.u64.wrap ((kind+form*4+l.length*2^4:Nat):Int)=((kind+form*4+l.length*2^4:Nat):Int):=gP (by omega) (by omega)
 have e6:IntKind.u64.wrap (B.length:Int)=(B.length:Int):=gP (by omega) (by omega)
 have e7:(4:Int)+(bits:Int)=((4+bits:Nat):Int):=by omega
 have hp22:2^(4+bits)<=2^22:=aLG (by omega) (by omega)
 have hm40:B.length*2^(4+bits)<2^40:=by
  have h1:B.length*2^(4+bits)<=(2^18-1)*2^22:=Nat.mul_le_mul (by omega) hp22
  have:(2^18-1)*2^22<2^40:=by decide
  omega
 have e8:IntKind.u64.wrap ((B.length:Int)*2^(min (4+bits) IntKind.u64.bits))=((B.length*2^(4+bits):Nat):Int):=by
  have hmin:min (4+bits) IntKind.u64.bits=4+bits:=by
   have:IntKind.u64.bits=64:=rfl
   omega
  rw[hmin]
  have:(B.length:Int)*2^(4+bits)=((B.length*2^(4+bits):Nat):Int):=by push_cast;rfl
  rw[this]
  exact gP (by omega) (by omega)
 have hlow:kind+form*4+l.length*2^4<2^(4+bits):=by
  rw[aMF]
  generalize 2^bits=Y at*
  omega
 have e9:orI .u64 ((kind+form*4+l.length*2^4:Nat):Int) ((B.length*2^(4+bits):Nat):Int)=((PZ kind form l.length B.length bits:Nat):Int):=by
  rw[aEz (by omega) (by omega),ayQ hlow,PZ,aMb (2^(4+bits))]
 have hX:PZ kind form l.length B.length bits<2^64:=by unfold PZ;omega
 have t8:((4+bits:Nat):Int).toNat=4+bits:=aLx _
 simp(disch:=omega)only[SV,t2,t4,e1,e2,e3,e4,e5,e6,e7,e8,e9,t8,aLv]
 refine(lB (x:=PZ kind form l.length B.length bits) (n:=size) hw1 (λy hy=>by omega) hX hsz (aMQ _)).mono ?_
 rintro r w2 ⟨rfl,hw2,x2⟩
 have z2:=x2.size
 rw[aL9]at hw2
 have x02:aN w w2 bJ:=x1.trans x2 λy hy h=>by omega
 have hb2:=hb.ext x02 (aU _)
 rw[aLv]at hb2
 have hp5:(dM (PZ kind form l.length B.length bits) size).length<=8:=by rw[bS];exact hsz.2
 refine(Px hw2 (λy hy=>by omega) hb2 (by omega)).mono ?_
 rintro r w3 ⟨rfl,hw3,x3⟩
 have z3:=x3.size
 refine(NA hw3 (by rw[aLs];omega)).mono ?_
 rintro r w4 ⟨o4,x4⟩
 refine hk' r w4 (Oy o4 (by omega)) ((x02.trans x3 λy hy h=>by omega).seq x4)
def aKx(w:aOm)(base lim:Nat)(r:aOn):Prop:=
 r= .tuple #[.slice none 0 0,.int .i64 1]∨∃(v:aOn) (bytes:List UInt8),r= .tuple #[v,.int .i64 0]/\Bs w v bytes/\AtI v base w.heap.size/\bytes.length<=lim
theorem avW{lv sv:aOn}{wl l:List UInt8}{w:aOm}(hw:Bs w lv wl)(hwl:wl.length<=100000)(h:Bs w sv l)(hl:l.length<=131072):
 aK pg rK #[lv,sv] w (λr w'=>aKx w' w.heap.size (11*l.length/8+12) r/\aN w w' bJ):=by
 refine PN ?_
 unfold LI GI
 have hv:=h
 obtain⟨a,c,rfl,hc⟩:=h.len
 rw[aLv]at hv⊢
 by_cases hlt:l.length<256
 .have d1:decide ((l.length:Int)<256)=true:=decide_eq_true (by omega)
  simp(disch:=omega)only[SV,d1]
  refine(atO hw hwl hv hl).mono ?_
  rintro r w1 ⟨ho,x1⟩
  rcases ho with⟨hb,rfl⟩|⟨hd,hall,v,bytes,rfl,hbs,hat,hlen,hback⟩
  .simp (disch:=omega)only[SV]
   exact⟨.inl rfl,x1⟩
  .simp (disch:=omega)only[SV]
   exact⟨.inr ⟨v,bytes,rfl,hbs,hat,by omega⟩,x1⟩
 .have d1:decide ((l.length:Int)<256)=false:=decide_eq_false (by omega)
  simp(disch:=omega)only[SV,d1]
  refine(apJ hw hwl hv hl).mono ?_
  rintro r w1 ⟨ho,x1⟩
  rcases ho with⟨hb,rfl⟩|⟨hd,hall,v,bytes,rfl,hbs,hat,hlen,hback⟩
  .simp (disch:=omega)only[SV]
   exact⟨.inl rfl,x1⟩
  .simp (disch:=omega)only[SV]
   exact⟨.inr ⟨v,bytes,rfl,hbs,hat,hlen⟩,x1⟩
theorem aCh{sv lv:aOn}{l wl:List UInt8}{w:aOm}(h:Bs w sv l)(hl:l.length<=131072)(hw:Bs w lv wl)(hwl:wl.length<=100000):
 aK pg wU #[sv,lv,.bool true] w (λr w'=>aHa w' w.heap.size l.length r/\aN w w' bJ):=by
 refine To ?_
 obtain⟨RR,hRR⟩:∃RR:aOn->aOm->Prop,RR=λr w'=>aHa w' w.heap.size l.length r/\aN w w' bJ:=⟨_,rfl⟩
 rw[<-hRR]
 unfold QY JT JS
 have hv:=h
 obtain⟨a,c,rfl,hc⟩:=h.len
 rw[aLv]at hv⊢
 by_cases h0:l.length=0
 .have n0:((l.length:Int)==0)=true:=by rw[h0]<;>rfl
  simp(disch:=omega)only[SV,n0]
  rw[hRR]
  exact⟨.inl ⟨1,by decide,rfl⟩,aN.refl _ _⟩
 have hne:l≠[]:=λe=>h0 (by rw[e]<;>rfl)
 have n0:((l.length:Int)==0)=false:=beq_eq_false_iff_ne.2 (by omega)
 have d1:decide ((l.length:Int)>131072)=false:=decide_eq_false (by omega)
 have d2:decide ((131072:Int)<(l.length:Int))=false:=decide_eq_false (by omega)
 have tail:∀(kind:Nat) (d:List UInt8) (dv:aOn) (w1:aOm),kind<4->aN w w1 bJ->pC w1 w.heap.size 1 dv d.length (d.map dR)->d.length<=66→
     tX RR (.slice a l.length c) lv (.int .i64 (kind:Nat)) dv w1:=by
  intro kind d dv w1 hk4 x1 od hdl
  have z1:=x1.size
  unfold tX JR
  have hv1:=hv.ext x1 (aU _)
  have hw1:=hw.ext x1 (aU _)
  refine(avW hw1 hwl hv1 hl).mono ?_
  rintro r w2 ⟨ho,x2⟩
  have z2:=x2.size
  rcases ho with rfl|⟨v,bytes,rfl,hbs,hat,hlen⟩
  .have n1:((1:Int) !=0)=true:=rfl
   simp(disch:=omega)only[SV,n1]
   rw[hRR]
   exact⟨.inl ⟨1,by decide,rfl⟩,x1.seq x2⟩
  .have n1:((0:Int) !=0)=false:=rfl
   have od2:=od.ext x2 (λ_ _ h=>h)
   have hbv:=hbs
   obtain⟨a2,c2,rfl,hc2⟩:=hbs.len
   rw[aLv]at hbv
   have hcl:=hbv.cl
   rw[aLv]at hcl
   simp(disch:=omega)only[SV,n1,aLv]
   refine dH od2 hcl (BF _) (by omega) (by omega) λv3 w3 o3 x3=> ?_
   have z3:=x3.size
   have hs3:Bs w3 v3 (d++bytes):=by
    have:=o3.sl
    rw[<-aL2]at this
    exact this
   obtain⟨a3,c3,rfl⟩:=o3.len
   have hml:(d++bytes).length=d.length+bytes.length:=aLs
   rw[<-hml]
   have x03:aN w w3 bJ:=(x1.seq x2).trans x3 λy hy h=>by omega
   have hv3:=hv.ext x03 (aU _)
   have d3:decide ((262144:Int)<=((d++bytes).length:Int))=false:=decide_eq_false (by omega)
   have d4:decide (((d++bytes).length:Int)≥262144)=false:=decide_eq_false (by omega)
   have fin:∀(form bits size:Nat),form<4->bits<=18->1<=size/\size<=8->l.length<2^bits→
       nS RR (.slice a l.length c) (.int .i64 (kind:Nat)) (.slice a3 (d++bytes).length c3) (.int .i64 (form:Nat)) (.int .i64 (bits:Nat)) (.int .i64 (size:Nat)) w3:=by
    intro form bits size hf hb hsz hn
    have hs3':=hs3
    rw[<-hml]at hs3'
    refine auT (l:=l) (B:=d++bytes) hv3 hs3' hl hk4 hf hb hsz (by omega) hn λr w4 o4 x4=> ?_
    rw[hRR]
    have hpl:(dM (PZ kind form l.length (d++bytes).length bits) size++(d++bytes)).length=size+(d++bytes).length:=by rw[aLs,bS]
    exact⟨.inr ⟨r,_,rfl,Oy o4 (by omega),by rw[hpl];omega,by rw[hpl];omega⟩,x03.seq x4⟩
   have hmx:(if(((d++bytes).length:Nat):Int)>((l.length:Nat):Int)then(((d++bytes).length:Nat):Int)else((l.length:Nat):Int))=((max l.length (d++bytes).length:Nat):Int):=by split<;>omega
   obtain⟨M,hM⟩:∃M,M=max l.length (d++bytes).length:=⟨_,rfl⟩
   rw[<-hM]at hmx
   by_cases hlt:l.length<256
   .have d5:decide ((l.length:Int)<256)=true:=decide_eq_true (by omega)
    have d6:decide ((M:Int)<1024)=true:=decide_eq_true (by omega)
    simp(disch:=omega)only[SV,d3,d4,d5,hmx,d6]
    exact fin 0 10 3 (by omega) (by omega) (by omega) (by omega)
   have d5:decide ((l.length:Int)<256)=false:=decide_eq_false (by omega)
   by_cases h1:M<1024
   .have d6:decide ((M:Int)<1024)=true:=decide_eq_true (by omega)
    simp(disch:=omega)only[SV,d3,d4,d5,hmx,d6]
    exact fin 1 10 3 (by omega) (by omega) (by omega) (by omega)
   have d6:decide ((M:Int)<1024)=false:=decide_eq_false (by omega)
   by_cases h2:M<16384
   .have d7:decide ((M:Int)<16384)=true:=decide_eq_true (by omega)
    simp(disch:=omega)only[SV,d3,d4,d5,hmx,d6,d7]
    exact fin 2 14 4 (by omega) (by omega) (by omega) (by omega)
   .have d7:decide ((M:Int)<16384)=false:=decide_eq_false (by omega)
    simp(disch:=omega)only[SV,d3,d4,d5,hmx,d6,d7]
    exact fin 3 18 5 (by omega) (by omega) (by omega) (by omega)
 simp(disch:=omega)only[SV,n0,d1,d2]
 by_cases hbad:fG (bU wl)=0∨129<wl.length
 .refine (aAi hw hwl hbad).mono ?_
  rintro r w1 ⟨rfl,rfl⟩
  by_cases hd:fG (bU wl)=0
  .rw [if_pos hd]
   have n1:((1:Int) !=0)=true:=rfl
   simp(disch:=omega)only[SV,n1]
   rw[hRR]
   exact⟨.inl ⟨1,by decide,rfl⟩,aN.refl _ _⟩
  .rw [if_neg hd]
   have n1:((12:Int) !=0)=true:=rfl
   simp(disch:=omega)only[SV,n1]
   rw[hRR]
   exact⟨.inl ⟨12,by decide,rfl⟩,aN.refl _ _⟩
 .have hd:fG (bU wl)≠0:=λh=>hbad (.inl h)
  refine(aFu hw rfl hd (by omega)).mono ?_
  rintro r w1 ⟨v',rfl,o1,x1⟩
  have n1:((0:Int) !=0)=false:=rfl
  have hbl:(Sn (wrB (bU wl))).length=(wrB (bU wl)).length:=by simp[Sn]
  have hwl2:=aAe (bU wl)
  rw[eI]at hwl2
  obtain⟨a1,c1,rfl⟩:=o1.len
  simp(disch:=omega)only[SV,n1]
  exact tail 2 (Sn (wrB (bU wl))) _ w1 (by omega) x1 (by rw[hbl];exact o1) (by omega)
def shV(a:Option Addr)(n c:Nat)(a':Option Addr)(n' c':Nat):aOn:=if n'<n then .slice a' n' c' else .slice a n c
theorem aJz{a a':Option Addr}{n c n' c':Nat}{w:aOm}{K:aOn->aOm->Prop}(hn:n<=1000000000)(hn':n'<=1000000000)(hK:K (.int .i64 ((n:Int)-(n':Int))) w):
 aK pg rJ #[.slice a n c,.slice a' n' c'] w K:=by
 refine PB ?_
 unfold Lu Gz
 simp(disch:=omega)only[aA,dY,aF,A8,cX]
 exact hK
theorem azP{a a':Option Addr}{n c n' c' b:Nat}{w:aOm}(ho:aZ w b [.slice a n c,.slice a' n' c'])(hn:n<=1000000000)(hn':n'<=1000000000):
 aK pg wS #[.slice (some ⟨b,0,none⟩) 2 2] w (λr w'=>r=shV a n c a' n' c'/\w'=w):=by
 refine SO ?_
 unfold QE Jn
 refine MY ?_
 obtain⟨RR,hRR⟩:∃RR:aOn->aOm->Prop,RR=λr w'=>r=shV a n c a' n' c'/\w'=w:=⟨_,rfl⟩
 unfold Ih Cn Cm
 have d1:decide ((2:Int)<1)=false:=rfl
 have c0:w.cell? ⟨b,0,none⟩=some (.slice a n c):=ho.cell (off:=0)
 have c1:w.cell? ⟨b,1,none⟩=some (.slice a' n' c'):=ho.cell (off:=1)
 have z0:(0:Int).toNat=0:=rfl
 have z1:(1:Int).toNat=1:=rfl
 have n2:((2:Nat):Int)=2:=rfl
 unfold tB Ck
 simp(disch:=omega)only[aA,nU,n2,lE,z0,aL3,aF,iO,fM,d1,c0,cQ,aR]
 unfold uR uQ DA mV
 refine aX.rule (λm (t:aOn×aOn) w'=>(m=1/\t=(.slice a n c,.int .i64 1)/\w'=w)∨(m=0/\t=(shV a n c a' n' c',.int .i64 2)/\w'=w)) 1 (.inl ⟨rfl,rfl,rfl⟩) ?_
 rintro m t w' (⟨rfl,rfl,rfl⟩|⟨rfl,rfl,rfl⟩)
 .unfold mU uP uO
  have d2:decide ((1:Int)<2)=true:=rfl
  have q2:=agO (P:=pg) (f:=rJ) Tryz.func83 (by kernel_rfl) (by kernel_rfl) #[] [.slice a' n' c',.slice a n c] w'
  have q3:(List.toArray [Value.slice a' n' c',.slice a n c]++ #[])= #[.slice a' n' c',.slice a n c]:=rfl
  rw[q3]at q2
  have e1:(1:Int)+1=2:=rfl
  simp(disch:=omega)only[aA,nU,n2,lE,z1,aLI,gN,cX,aF,iO,fM,d2,c1,cQ,q2,G6,bD]
  refine aJz hn' hn ?_
  by_cases h:n'<n
  .have d3:decide ((n':Int)-(n:Int)<0)=true:=decide_eq_true (by omega)
   have:shV a n c a' n' c'= .slice a' n' c':=by unfold shV;rw[if_pos h]
   rw[this]
   simp(disch:=omega)only[fM,d3,e1,aF,c1,cQ,and_true,bD]
   first
    |exact⟨0,by omega,.inr ⟨rfl,rfl,rfl⟩⟩
    |exact⟨0,by omega,.inr ⟨rfl,rfl⟩⟩
    |exact⟨0,by omega,.inr rfl⟩
  .have d3:decide ((n':Int)-(n:Int)<0)=false:=decide_eq_false (by omega)
   have:shV a n c a' n' c'= .slice a n c:=by unfold shV;rw[if_neg h]
   rw[this]
   simp(disch:=omega)only[fM,d3,e1,true_and,aF,and_true,aR]
   first
    |exact⟨0,by omega,.inr ⟨rfl,rfl,rfl⟩⟩
    |exact⟨0,by omega,.inr ⟨rfl,rfl⟩⟩
    |exact⟨0,by omega,.inr rfl⟩
 .unfold mU uP uN
  have d2:decide ((2:Int)<2)=false:=rfl
  simp(disch:=omega)only[aA,nU,n2,true_and,aF,fM,d2,aR]
theorem aDw{p:Nat}{a a':Option Addr}{n c n' c':Nat}{w:aOm}(o:aZ w p [.slice a n c])(hn:n<=1000000000)(hn':n'<=1000000000):
 aK pg iC #[.slice a' n' c',.int .i64 0,.pointer (some ⟨p,0,none⟩)] w (λr w'=>r= .tuple #[]/\aZ w' p [shV a n c a' n' c']/\aN w w' (λy=>y=p)):=by
 refine Ek ?_
 unfold ER An
 have c0:w.cell? ⟨p,0,none⟩=some (.slice a n c):=o.cell (off:=0)
 have n1:((0:Int)==0)=true:=rfl
 simp(disch:=omega)only[aA,mD,n1,iO,true_and,aF,c0,cQ,bD]
 refine Sm (cells:= #[.slice a n c,.slice a' n' c']) (by decide) (by decide) (by kernel_rfl) λw1 o1 x1 s1=> ?_
 refine(azP o1 hn hn').mono ?_
 rintro r w2 ⟨rfl,hw⟩
 rw[hw];clear hw w2
 refine lK (o.ext x1 (λh=>h)) (by unfold shV;split<;>rfl) (by simp) λw3 o3 x3 s3=> ?_
 simp only[aLy]at o3
 have x13:aN w w3 (λy=>y=p):=(x1.mono λ_ _ h=>h.elim).seq x3
 try simp(disch:=omega)only[true_and]
 first
  |exact⟨rfl,o3,x13⟩
  |exact⟨o3,x13⟩
theorem aBr{p:Nat}{bv:aOn}{e:Int}{w:aOm}(he:e≠0):aK pg iC #[bv,.int .i64 e,.pointer (some ⟨p,0,none⟩)] w (λr w'=>r= .tuple #[]/\w'=w):=by
 refine Ek ?_
 unfold ER An
 have n1:(e==0)=false:=beq_eq_false_iff_ne.2 he
 simp(disch:=omega)only[aA,mD,n1,iO,true_and,aF,aR]
theorem ayX(k n:Nat):1<=(qZ k n).length:=by
 unfold qZ;split
 .simp [bS]
 .split<;>simp[bS]
def aJo(w:aOm)(base n:Nat)(r:aOn):Prop:=∃(x:aOn) (bytes:List UInt8),r= .tuple #[x,.int .i64 0]/\pC w base 1 x bytes.length (bytes.map dR)/\1<=bytes.length/\bytes.length<=n+3
theorem aCA{v:aOn}{l:List UInt8}{w:aOm}(h:Bs w v l)(hl:l.length<=131072):
 aK pg zC #[v] w (λr w'=>aJo w' w.heap.size l.length r/\aN w w' bJ):=by
 refine Va ?_
 obtain⟨RR,hRR⟩:∃RR:aOn->aOm->Prop,RR=λr w'=>aJo w' w.heap.size l.length r/\aN w w' bJ:=⟨_,rfl⟩
 rw[<-hRR]
 unfold SL Jm Jl
 refine(aEj h hl).mono ?_
 rintro r w1 ⟨x,rfl,o1,x1⟩
 have z1:=x1.size
 have hp:=P0 0 l.length
 have hp1:=ayX 0 l.length
 obtain⟨rw_,hrw⟩:∃rw_,rw_=qZ 0 l.length++l:=⟨_,rfl⟩
 have hrl:rw_.length<=l.length+3:=by rw[hrw,aLs];omega
 have hr1:1<=rw_.length:=by rw[hrw,aLs];omega
 rw[<-hrw]at o1
 clear hp hp1 hrw
 obtain⟨ra,rc,rfl⟩:=o1.len
 obtain⟨p,hpp⟩:∃p,p=w1.heap.size:=⟨_,rfl⟩
 have os1:=pC.ne (p:=p) o1 (by omega)
 have n0:((0:Int) !=0)=false:=rfl
 have q1:=λw=>azA (P:=pg) (f:=iC) [] [.pointer (some ⟨p,0,none⟩)] w
 have q2:=λ(x y:aOn) w=>agO (P:=pg) (f:=iC) Tryz.func64 (by kernel_rfl) (by kernel_rfl) #[.pointer (some ⟨p,0,none⟩)] [x,y] w
 have q3:∀x y:aOn,(List.toArray [x,y]++ #[.pointer (some ⟨p,0,none⟩)])= #[x,y,.pointer (some ⟨p,0,none⟩)]:=λ_ _=>rfl
 simp only[q3]at q2
 let S:Nat->Prop:=λb=>w.heap.size<=b/\b≠p
 let St:aOm->Prop:=λW=>∃(a:Option Addr) (c:Nat) (bs:List UInt8),aZ W p [.slice a bs.length c]/\Ah W S 1 (.slice a bs.length c) bs.length (bs.map dR)/\1<=bs.length/\bs.length<=l.length+3/\aN w W bJ
 have fin:∀W,St W->qC RR (.pointer (some ⟨p,0,none⟩)) W:=by
  rintro W ⟨a,c,bs,o,os,hb1,hb2,x⟩
  unfold qC
  have c0:W.cell? ⟨p,0,none⟩=some (.slice a bs.length c):=o.cell (off:=0)
  simp(disch:=omega)only[aA,iO,c0,cQ,aF]
  rw[hRR]
  refine⟨⟨_,bs,rfl,⟨os.1, ?_⟩,hb1,hb2⟩,x⟩
  rcases os.2 with h|⟨b,c',rest,h1,h2,h3⟩
  .exact .inl h
  .exact .inr ⟨b,c',rest,h1,h2.1,h3⟩
 have bet:∀(W:aOm) (a':Option Addr) (c':Nat) (bs':List UInt8) (K:aOn->aOm->Prop),St W->Ah W S 1 (.slice a' bs'.length c') bs'.length (bs'.map dR)->1<=bs'.length->bs'.length<=1000000->(∀r W',St W'->K r W')→
     aK pg iC #[.slice a' bs'.length c',.int .i64 0,.pointer (some ⟨p,0,none⟩)] W K:=by
  rintro W a' c' bs' K ⟨a,c,bs,o,os,hb1,hb2,x⟩ os' hb1' hb2' hK
  refine(aDw o (by omega) (by omega)).mono ?_
  rintro r W' ⟨rfl,o2,x2⟩
  refine hK _ _ ?_
  have xx:aN w W' bJ:=x.trans x2 λy hy hh=>by omega
  unfold shV at o2
  split at o2
  .exact ⟨a',c',bs',o2,os'.ext x2 (λb hb hh=>hb.2 hh),hb1',by omega,xx⟩
  .exact ⟨a,c,bs,o2,os.ext x2 (λb hb hh=>hb.2 hh),hb1,hb2,xx⟩
 have hv:=h
 obtain⟨va,vc,rfl,hvc⟩:=h.len
 rw[aLv]at hv hvc⊢
 simp(disch:=omega)only[aA,x20,x21,dY,aF,Dr,n0,aR]
 refine adG λw2 o2 x2 s2=> ?_
 rw[<-hpp]at o2⊢
 refine lK o2 rfl (by simp) λw3 o3 x3 s3=> ?_
 simp only[aLy]at o3
 have x13:aN w1 w3 bJ:=x2.trans x3 λy hy h=>by omega
 have x03:=x1.seq x13
 have h3:=hv.ext x03 (aU _)
 have z3:=x03.size
 have os3:Ah w3 S 1 (.slice ra rw_.length rc) rw_.length (rw_.map dR):=(os1.ext x2 (λ_ _ h=>h)).ext x3 (λb hb hh=>hb.2 hh)
 have st3:St w3:=⟨ra,rc,rw_,o3,os3,hr1,hrl,x03⟩
 have lt3:p<w3.heap.size:=o3.lt
 simp(disch:=omega)only[q1,iO,aF]
 refine(aAo h3 (by omega)).mono ?_
 rintro r w4 ⟨rfl,x4⟩
 have x04:=x03.seq x4
 have st4:∀{W},aN w3 W bJ->St W:=λ{W} x=>⟨ra,rc,rw_,o3.ext x (λh=>h),os3.ext x (λ_ _ h=>h),hr1,hrl,x03.seq x⟩
 have h4:=hv.ext x04 (aU _)
 have z4:=x4.size
 have hosl:∀{W W':aOm} {x:aOn} {bs:List UInt8},aN w W bJ->p<W.heap.size->pC W' W.heap.size 1 x bs.length (bs.map dR)->Ah W' S 1 x bs.length (bs.map dR):=λ{W W' x bs} xx hlt ho=>by
  refine⟨ho.1, ?_⟩
  rcases ho.2 with h|⟨b,c',rest,h1,h2,h3⟩
  .exact .inl h
  .exact .inr ⟨b,c',rest,h1,⟨by have:=xx.size;omega,by omega⟩,h3⟩
 cases hal:BC l with
 |true=>
  have h0:0<l.length:=by
   cases l with
   |nil=>cases hal
   |cons c r=>simp
  obtain⟨kb,koff,hka,hcell⟩:∃kb koff,va=some ⟨kb,koff,none⟩/\w4.cell? ⟨kb,koff,none⟩=some (dR l[0]):=by
   obtain⟨a',n',c',he,hn',hc',hh⟩:=h4
   simp only[Value.slice.injEq]at he
   obtain⟨rfl,rfl,rfl⟩:=he
   obtain⟨kb,koff,rfl,h2⟩:=hh (by omega)
   refine⟨kb,koff,rfl, ?_⟩
   have:=h2 0 (by omega)
   rw[aL3]at this
   rw[this,aLR,aLt h0]
   rfl
  subst hka
  have z0:(0:Int).toNat=0:=rfl
  simp(disch:=omega)only[lF,z0,aL3,aF,yL,hcell,cQ,bD]
  refine(aB7 (n:=l.length) hl).mono ?_
  rintro r w5 ⟨x,rfl,o5,x5⟩
  have hp2:=P0 1 l.length
  have os5:=hosl x04 (by omega) o5
  obtain⟨a5,c5,rfl⟩:=o5.len
  simp(disch:=omega)only[x20,x21,q2,G6,aF]
  refine bet w5 a5 c5 _ _ (st4 (x4.seq x5)) os5 (by rw[aLs];simp) (by rw[aLs];simp;omega) λr W hW=> ?_
  have hf:=fin W hW
  obtain⟨a,c,bs,o,-⟩:=hW
  have c0:W.cell? ⟨p,0,none⟩=some (.slice a bs.length c):=o.cell (off:=0)
  have hf:aA pg (aH 22 (.pointer (some ⟨p,0,none⟩))) W λt w=>RR (.tuple #[t,.int .i64 0]) w:=by
   unfold qC at hf
   first|exact hf|skip
  simp only[aA,iO,c0,cQ,aF]at hf
  simp(disch:=omega)only[c0,cQ,aF]
  exact hf
 |false=>
  simp(disch:=omega)only[aR]
  refine apW (by omega) (by omega) λw5 o5 x5 s5=> ?_
  obtain⟨q,hq⟩:∃q,q=w4.heap.size:=⟨_,rfl⟩
  have t256:(256:Int).toNat=256:=rfl
  rw[<-hq,t256]at o5
  rw[<-hq,t256]
  unfold C2 C1 Lt xE
  simp(disch:=omega)only[aA,dY,aF]
  have x45:=x4.seq x5
  have hqp:q≠p:=by omega
  refine aX.rule (λm (t:aOn) W=>∃(i:Nat) (ns:List Nat),m=l.length-i/\i<=l.length/\t= .int .i64 (i:Nat)/\aZ W q (Ub ns)/\ns.length=256/\(∀n∈ns,n<=i)/\aN w5 W (λy=>y=q)) l.length
   ⟨0,List.replicate 256 0,rfl,by omega,rfl,by simpa using o5,by simp,λn hn=>by rw[aMY hn];omega,aN.refl _ _⟩ ?_
  rintro m t w6 ⟨i,ns,rfl,hi,rfl,o6,hnl,hns,x6⟩
  have x36:aN w3 w6 bJ:=x45.trans x6 λy hy h=>by omega
  have x06:=x03.seq x36
  unfold C0
  by_cases hlt:i<l.length
  .have d1:decide ((i:Int)<(l.length:Int))=true:=decide_eq_true (by omega)
   have hin:(i:Int).toNat=i:=aLx _
   have e1:(i:Int)+1=((i+1:Nat):Int):=by omega
   obtain⟨kb,koff,hka,hcell⟩:∃kb koff,va=some ⟨kb,koff,none⟩/\w6.cell? ⟨kb,koff+i,none⟩=some (.int .u8 (l[i].toNat:Nat)):=by
    obtain⟨a',n',c',he,hn',hc',hh⟩:=hv.ext x06 (aU _)
    simp only[Value.slice.injEq]at he
    obtain⟨rfl,rfl,rfl⟩:=he
    obtain⟨kb,koff,rfl,h2⟩:=hh (by omega)
    refine⟨kb,koff,rfl, ?_⟩
    rw[h2 i (by omega),aLR,aLt hlt]
    rfl
   subst hka
   have hc256:l[i].toNat<256:=aM7 _
   obtain⟨cc_,hcc⟩:∃c,c=l[i].toNat:=⟨_,rfl⟩
   rw[<-hcc]at hcell hc256
   have hcn:(cc_:Int).toNat=cc_:=aLx _
   have d2:((cc_:Nat):Int)<((256:Nat):Int):=by omega
   have hng:(Ub ns)[cc_]?=some (.int .u32 (ns.getD cc_ 0:Nat)):=Qf (by omega)
   have hc6:w6.cell? ⟨q,0+cc_,none⟩=some (.int .u32 (ns.getD cc_ 0:Nat)):=by
    rw[aLI,o6.cell];exact hng
   have hgd:ns.getD cc_ 0<=i:=by
    rw[aLz,aLt (by omega)]
    exact hns _ (aLT _)
   rw[aLI]at hc6
   obtain⟨G,hG⟩:∃G,G=ns.getD cc_ 0:=⟨_,rfl⟩
   rw[<-hG]at hc6 hgd
   have e2:(G:Int)+1=((G+1:Nat):Int):=by omega
   simp(disch:=omega)only[aA,fM,d1,lF,hin,gN,cX,aF,yL,hcell,cQ,dX,hcn,aLI,iP,hc6,e2,LR,bD]
   refine Fm o6 rfl (by simp[hnl];omega) λw7 o7 x7 s7=> ?_
   simp(disch:=omega)only[e1]
   have o7:aZ w7 q (Ub (ns.set cc_ (G+1))):=by
    have e:Ub (ns.set cc_ (G+1))=(Ub ns).set cc_ (.int .u32 ((G+1:Nat):Int)):=by
     unfold Ub
     rw[aM5]
    rw[e];exact o7
   refine⟨l.length-(i+1),by omega,i+1,_,rfl,by omega,rfl,o7,by simp[hnl],λn hn=> ?_,x6.seq x7⟩
   rcases List.mem_or_eq_of_mem_set hn with h|h
   .have:=hns n h;omega
   .omega
  .have d1:decide ((i:Int)<(l.length:Int))=false:=decide_eq_false (by omega)
   unfold CZ Ls
   simp(disch:=omega)only[aA,fM,d1,gN,cX,aF,aR]
   have hsl:Sl w6 (.slice (some ⟨q,0,none⟩) 256 256) (Ub ns):=⟨_,_,_,rfl,by simp[hnl],aLA _,λ_=>⟨q,0,rfl,λj hj=>by rw[aLI,o6.cell]⟩⟩
   refine(aJQ hsl (λn hn=>by have:=hns n hn;omega) (by omega)).mono ?_
   rintro r w7 ⟨ho,x7⟩
   have st7:=st4 (x36.seq x7)
   have x07:=x06.seq x7
   have z7:=x7.size
   have z6:=x36.size
   rcases ho with⟨-,rfl⟩|⟨-,last,wv,wl,-,hlast,hwl,-,-,-,rfl,ow⟩
   .have n1:((1:Int)==0)=false:=rfl
    simp(disch:=omega)only[x20,x21,aF,mD,n1,aR]
    exact fin w7 st7
   .have n1:((0:Int)==0)=true:=rfl
    have hbw:Bs w7 wv (Sn wl):=ow.sl
    obtain⟨wa,wc_,rfl⟩:=ow.len
    simp(disch:=omega)only[x20,x21,aF,mD,n1,bD]
    refine(aCh (hv.ext x07 (aU _)) hl hbw (by simp[Sn];omega)).mono ?_
    rintro r w8 ⟨hps,x8⟩
    have st8:=st4 ((x36.seq x7).seq x8)
    rcases hps with⟨e,he,rfl⟩|⟨pv,bytes,rfl,op,hb1,hb2⟩
    .simp (disch:=omega)only[x20,x21,q2,G6,aF]
     refine(aBr he).mono ?_
     rintro r w9 ⟨rfl,hw⟩
     rw[hw];clear hw w9
     exact fin w8 st8
    .have os8:=hosl x07 (by omega) op
     obtain⟨a8,c8,rfl⟩:=op.len
     simp(disch:=omega)only[x20,x21,q2,G6,aF]
     refine bet w8 a8 c8 bytes _ st8 os8 hb1 (by omega) λr W hW=> ?_
     exact fin W hW
end Go.Proofs.YtoecppploooloaaGreatDoor
namespace Go.Proofs.YtoecppploooloaaGreatDoor
open Go Go.En
set_option maxRecDepth 4000
structure Fnd(w:aOm)(p mb ab:Nat)(bv:aOn)(B:List UInt8)(to tries:Nat)(es:List (Rk 4×aOn))(A:List Int):Prop where
 own:aZ w p [bv,.int .i64 to,.map (some mb),.slice (some ⟨ab,0,none⟩) to to,.int .i64 tries]
 bs:Bs w bv B
 map:Mp w mb Yp es
 ah:aZ w ab (A.map (Value.int .i64))
 len:A.length=to
 le:to<=B.length
 big:B.length<=1099511627776
theorem Fnd.ext {w w':aOm}{p mb ab:Nat}{bv:aOn}{B:List UInt8}{to tries:Nat}{es:List (Rk 4×aOn)}{A:List Int}{M:Nat->Prop}(h:Fnd w p mb ab bv B to tries es A)(hx:aN w w' M)
 (h1:¬M p) (h2:¬M mb) (h3:¬M ab) (h4:¬JN bv M):Fnd w' p mb ab bv B to tries es A:=
 ⟨h.own.ext hx h1,h.bs.ext hx h4,h.map.ext hx h2,h.ah.ext hx h3,h.len,h.le,h.big⟩
theorem Fnd.same {w w':aOm}{p mb ab:Nat}{bv:aOn}{B:List UInt8}{to tries:Nat}{es:List (Rk 4×aOn)}{A:List Int}(h:Fnd w p mb ab bv B to tries es A)(hx:aN w w' bJ):Fnd w' p mb ab bv B to tries es A:=
 h.ext hx (λh=>h) (λh=>h) (λh=>h) (aU _)
theorem Fnd.dr {w:aOm}{p mb ab:Nat}{bv:aOn}{B:List UInt8}{to tries:Nat}{es:List (Rk 4×aOn)}{A:List Int}(h:Fnd w p mb ab bv B to tries es A):Fnd (dr w) p mb ab bv B to tries es A:=
 h.same (aN.dr _ _)
structure Lng(B:List UInt8)(to old at_ n:Nat):Prop where
 le:at_+n<=to∨n=0
 most:n<=131074
 same:∀j,j<n->B[old+j]?=B[at_+j]?
 full:n=131074∨to<=at_+n∨B[old+n]?≠B[at_+n]?
theorem aIg{w:aOm}{p mb ab:Nat}{bv:aOn}{B:List UInt8}{to tries:Nat}{es:List (Rk 4×aOn)}{A:List Int}(hf:Fnd w p mb ab bv B to tries es A)(old at_:Nat)(ho:old<at_)(ha:at_<=to+1):
 aK pg rL #[.pointer (some ⟨p,0,none⟩),.int .i64 old,.int .i64 at_] w (λr w'=>∃n:Nat,r= .int .i64 n/\Lng B to old at_ n/\aN w w' bJ):=by
 have hle:=hf.le
 have hbig:=hf.big
 refine PQ ?_
 simp(disch:=omega)only[yO,qG,yP,GL,GM,LL,SV]
 refine aX.rule (λm t w'=>∃n:Nat,m=131074-n/\t= .int .i64 n/\(at_+n<=to∨n=0)/\n<=131074/\(∀j,j<n->B[old+j]?=B[at_+j]?)/\aN w w' bJ) 131074 ⟨0,rfl,rfl,.inr rfl,by omega,λj h=>by omega,aN.refl _ _⟩ ?_
 rintro m t w1 ⟨n,rfl,rfl,h1,h2,h3,hx⟩
 have hf:=(hf.same hx).dr
 have c1:=hf.own.cell (off:=1)
 have c0:=hf.own.cell (off:=0)
 simp only[aLu,aLw]at c0 c1
 by_cases hlt:at_+n<to
 .have d1:decide ((at_:Int)+(n:Int)<(to:Int))=true:=by simp;omega
  by_cases hm:n<131074
  .have d2:decide ((n:Int)<131074)=true:=by simp;omega
   obtain⟨b,off,c,rfl,hc,hb⟩:=hf.bs.open (by omega)
   have e1:((old:Int)+(n:Int)).toNat=old+n:=by omega
   have e2:((at_:Int)+(n:Int)).toNat=at_+n:=by omega
   have g1:=hb (old+n) (by omega)
   have g2:=hb (at_+n) (by omega)
   by_cases hq:B[old+n]'(by omega)=B[at_+n]'(by omega)
   .have d3:((((B[old+n]'(by omega)).toNat:Int))==(((B[at_+n]'(by omega)).toNat:Nat):Int))=true:=by rw[hq];simp
    simp(disch:=omega)only[iV,SV,d1,d2,c0,c1,e1,e2,g1,g2,dR,d3]
    refine⟨131074-(n+1),by omega,n+1,rfl,rfl,.inl (by omega),by omega,λj hj=> ?_,hx.seq (aN.dr _ _)⟩
    by_cases hjn:j=n
    .subst hjn
     rw[aLt (by omega),aLt (by omega),hq]
    .exact h3 j (by omega)
   .have d3:((((B[old+n]'(by omega)).toNat:Int))==(((B[at_+n]'(by omega)).toNat:Nat):Int))=false:=by
     rw[aAs];simpa using hq
    simp(disch:=omega)only[iV,SV,d1,d2,c0,c1,e1,e2,g1,g2,dR,d3]
    refine⟨n,rfl,⟨h1,h2,h3,.inr (.inr ?_)⟩,hx.seq (aN.dr _ _)⟩
    rw[aLt (by omega),aLt (by omega)]
    exactλh=>hq (aLW h)
  .have d2:decide ((n:Int)<131074)=false:=by simp;omega
   simp(disch:=omega)only[iV,SV,d1,d2,c0,c1]
   exact⟨n,rfl,⟨h1,h2,h3,.inl (by omega)⟩,hx.seq (aN.dr _ _)⟩
 .have d1:decide ((at_:Int)+(n:Int)<(to:Int))=false:=by simp;omega
  simp(disch:=omega)only[iV,SV,d1,c0,c1]
  exact⟨n,rfl,⟨h1,h2,h3,.inr (.inl (by omega))⟩,hx.seq (aN.dr _ _)⟩
theorem Lng.le_of {B:List UInt8}{to old at_ m n:Nat}(h:Lng B to old at_ m)(k:Lng B to old at_ n):m<=n:=by
 rcases aLL n m with hlt|hge
 .exfalso
  have h1:=h.le
  have h2:=h.most
  rcases k.full with f|f|f
  .omega
  .omega
  .exact f (h.same n hlt)
 .exact hge
def mC(B:List UInt8)(at_:Nat):Rk 4:=if h:at_+4<=B.length then⟨(B.drop at_).take 4,by simp;omega⟩else⟨[0,0,0,0],rfl⟩
theorem aAR{w:aOm}{p mb ab:Nat}{bv:aOn}{B:List UInt8}{to tries:Nat}{es:List (Rk 4×aOn)}{A:List Int}(hf:Fnd w p mb ab bv B to tries es A)(at_:Nat)(ha:at_<=B.length):
 aK pg kU #[.pointer (some ⟨p,0,none⟩),.int .i64 at_] w (λr w'=>r= .tuple #[Yp (mC B at_),.bool (decide (at_+4<=B.length))]/\aN w w' bJ):=by
 have hbig:=hf.big
 refine Oh ?_
 simp(disch:=omega)only[Ez,J0,SV]
 refine Pb λw1 o1 x1 s1=> ?_
 have hf:=hf.same x1
 have c0:=hf.own.cell (off:=0)
 simp only[aLu]at c0
 obtain⟨a,c,hv,hc⟩:=hf.bs.len
 simp only[aLv]at hv hc
 subst hv
 by_cases h4:at_+4<=B.length
 .have d:decide ((B.length:Int)<(at_:Int)+4)=false:=by simp;omega
  obtain⟨b,off,c',e,hc,hb⟩:=hf.bs.open (by omega)
  cases e
  have e1:((at_:Int)+4).toNat=at_+4:=by omega
  have e2:at_+4-at_=4:=by omega
  have sh:=Kn (b:=b) (o:=off) (m:=c) (l:=at_) (by omega)
  have l1:=alI (w:=w1) (b:=b) (off:=off+at_) (l:=((B.drop at_).take 4).map dR) (by simp;omega) (λj hj=>by
   have hj:j<4:=by simp at hj;omega
   rw[aMM,hb (at_+j) (by omega),aLR,aLX hj,aMA,aLt (by omega)]<;>rfl)
  simp(disch:=omega)only[SV,c0,d,e1,e2,sh,l1]
  refine Gj o1 (by simp;omega) (BF _) (by simp) λw2 o2 x2 s2=> ?_
  refine Wi o2 (by simp[WE]) ⟨?_,x1.new x2 (aLA _)⟩
  rw[decide_eq_true h4]
  unfold Yp mC
  rw[dif_pos h4]
  have:∀l:List aOn,l.length=4->((aT [.int .u8 0,.int .u8 0,.int .u8 0,.int .u8 0] 0 l).drop 0).take 4=l:=by
   intro l hl
   match l,hl with
   |[a,b,c,d],_=>rfl
  simp only[this _ (show(((B.drop at_).take 4).map dR).length=4 by simp;omega)]
 .have d:decide ((B.length:Int)<(at_:Int)+4)=true:=by simp;omega
  simp(disch:=omega)only[SV,c0,d]
  refine Gj o1 rfl (by simp[one]) (by simp) λw2 o2 x2 s2=> ?_
  refine Wi o2 (by simp[WE]) ⟨?_,x1.new x2 (aLA _)⟩
  rw[decide_eq_false h4]
  unfold Yp mC
  rw[dif_neg h4]
  rfl
structure Kept(n:Nat)(es:List (Rk 4×aOn))(A:List Int):Prop where
 es:∀q∈es,∃x:Nat,q.2= .int .i64 x/\x<n
 ah:∀i (h:i<A.length),-1<=A[i]/\A[i]<=i
theorem Kept.mono {n m:Nat}{es:List (Rk 4×aOn)}{A:List Int}(h:Kept n es A)(hm:n<=m):Kept m es A:=
 ⟨λq hq=>let⟨x,e,hx⟩:=h.es q hq;⟨x,e,by omega⟩,h.ah⟩
theorem Kept.assoc {n:Nat}{es:List (Rk 4×aOn)}{A:List Int}(h:Kept n es A){k:Rk 4}{v:aOn}(he:En.assoc k es=some v):∃x:Nat,v= .int .i64 x/\x<n:=h.es _ (aBo he)
theorem Kept.set {n i:Nat}{es:List (Rk 4×aOn)}{A:List Int}(h:Kept n es A){x:Int}(h0: -1<=x)(h1:x<=i):Kept n es (A.set i x):=
 ⟨h.es,λj hj=>by
   rw[aND]
   split
   .rename_i e;subst e;exact⟨h0,h1⟩
   .exact h.ah j _⟩
def noted(B:List UInt8)(at_:Nat)(es:List (Rk 4×aOn)):List (Rk 4×aOn):=if at_+4<=B.length then upd (mC B at_) (.int .i64 at_) es else es
theorem Kept.noted {at_:Nat}{B:List UInt8}{es:List (Rk 4×aOn)}{A:List Int}(h:Kept (at_+1) es A):Kept (at_+1) (noted B at_ es) A:=by
 refine⟨λq hq=> ?_,h.ah⟩
 unfold Go.Proofs.YtoecppploooloaaGreatDoor.noted at hq
 split at hq
 .rcases aA9 hq with rfl|hq
  .exact ⟨at_,rfl,by omega⟩
  .exact h.es q hq
 .exact h.es q hq
theorem anD{w w':aOm}{p mb ab:Nat}{bv:aOn}{B:List UInt8}{to tries at_:Nat}{es:List (Rk 4×aOn)}{A:List Int}(hf:Fnd w' p mb ab bv B to tries es A)(hk:Kept (at_+1) es A)
 (hd:p≠mb/\p≠ab/\mb≠ab) (hb:¬JN bv λb=>b=mb∨b=ab) {kb:Nat} (hkb:aZ w' kb ((mC B at_).1.map dR)) (hx:aN w w' λb=>b=mb∨b=ab)
 {R:aOm->Prop} (hR:∀w' A',Fnd w' p mb ab bv B to tries (noted B at_ es) A'->Kept (at_+1) (noted B at_ es) A'->aN w w' (λb=>b=mb∨b=ab)->R w'):
 iW R (.pointer (some ⟨p,0,none⟩)) (.int .i64 at_) (.pointer (some ⟨kb,0,none⟩)) (.bool (decide (at_+4<=B.length))) w':=by
 have hkept:=hk.noted (B:=B)
 have hn:noted B at_ es=if at_+4<=B.length then upd (mC B at_) (.int .i64 at_) es else es:=rfl
 by_cases h4:at_+4<=B.length
 .rw [decide_eq_true h4]
  rw[if_pos h4]at hn
  rw[hn]at hR hkept
  have hf:=hf.dr
  have hkb:=bV hkb
  have c2:=hf.own.cell (off:=2)
  simp only[aLu,aLw]at c2
  have hlen:=(mC B at_).2
  have l1:=MC (off:=0) hkb (by simp[hlen])
  have l2:(((mC B at_).1.map dR).drop 0).take 4=(mC B at_).1.map dR:=by rw[aLE,aLO (by simp[hlen])]
  rw[l2]at l1
  simp(disch:=omega)only[iW,qH,qI,xJ,SV,c2,l1]
  refine TC hf.map (mC B at_) _ λw2 m2 x2 s2=> ?_
  refine hR w2 A ⟨hf.own.ext x2 hd.1,hf.bs.ext x2 (λh=>hb (vE h λ_=> .inl)),m2,hf.ah.ext x2 (λe=>hd.2.2 e.symm),hf.len,hf.le,hf.big⟩ hkept ?_
  exact(hx.seq (aN.dr _ _)).seq (x2.mono λb _ h=> .inl h)
 .rw [decide_eq_false h4]
  rw[if_neg h4]at hn
  rw[hn]at hR hkept
  simp(disch:=omega)only[iW,qH,qI,xJ,SV]
  exact hR _ A hf hkept hx
theorem aIp{w:aOm}{p mb ab:Nat}{bv:aOn}{B:List UInt8}{to tries at_:Nat}{es:List (Rk 4×aOn)}{A:List Int}(hf:Fnd w p mb ab bv B to tries es A)(hk:Kept (at_+1) es A)
 (hd:p≠mb/\p≠ab/\mb≠ab) (hb:¬JN bv λb=>b=mb∨b=ab) (ha:at_<to):
 aK pg fD #[.pointer (some ⟨p,0,none⟩),.int .i64 at_] w (λ_ w'=>∃A',Fnd w' p mb ab bv B to tries (noted B at_ es) A'/\Kept (at_+1) (noted B at_ es) A'/\aN w w' (λb=>b=mb∨b=ab)):=by
 have hle:=hf.le
 have hbig:=hf.big
 refine PR ?_
 unfold xJ qI qH
 refine(aAR hf at_ (by omega)).mono ?_
 rintro r w1 ⟨rfl,x1⟩
 have hf:=hf.same x1
 have hlen:=(mC B at_).2
 simp(disch:=omega)only[SV]
 refine Pb λw2 o2 x2 s2=> ?_
 have hp1:=hf.own.lt
 have hm1:=hf.map.lt
 have ha1:=hf.ah.lt
 refine Gj o2 (by simp[hlen]) (BF _) (by simp) λw3 o3 x3 s3=> ?_
 have e3:aT [.int .u8 0,.int .u8 0,.int .u8 0,.int .u8 0] 0 ((mC B at_).1.map dR)=(mC B at_).1.map dR:=by
  generalize(mC B at_).1.map dR=l,(show((mC B at_).1.map dR).length=4 by simp[hlen])=hl
  match l,hl with
  |[a,b,c,d],_=>rfl
 simp only[aMX]at o3
 rw[e3]at o3
 have x13:aN w1 w3 bJ:=(aN.refl _ _).seq (x2.new x3 (aLA _))
 have hf3:=(hf.same x13).dr
 have hkb:=bV o3
 have c2:=hf3.own.cell (off:=2)
 have c3:=hf3.own.cell (off:=3)
 simp only[aLu,aLw]at c2 c3
 have l1:=MC (off:=0) hkb (by simp[hlen])
 have l2:(((mC B at_).1.map dR).drop 0).take 4=(mC B at_).1.map dR:=by rw[aLE,aLO (by simp[hlen])]
 rw[l2]at l1
 have l3:=GJ hf3.map (mC B at_)
 unfold Yp at l3
 have hx0:aN w (dr w3) (λb=>b=mb∨b=ab):=((x1.seq x13).seq (aN.dr _ _)).mono λ_ _ h=>h.elim
 have hnew:∀x:Int,-1<=x->x<=at_->aA pg (aM 3 (.pointer (some ⟨ab,at_,none⟩)) (.int .i64 x)) (dr w3) λ_ w'=>
     iW (λw'=>∃A',Fnd w' p mb ab bv B to tries (noted B at_ es) A'/\Kept (at_+1) (noted B at_ es) A'/\aN w w' (λb=>b=mb∨b=ab)) (.pointer (some ⟨p,0,none⟩)) (.int .i64 at_) (.pointer (some ⟨w1.heap.size,0,none⟩)) (.bool (decide (at_+4<=B.length))) w':=by
  intro x h0 h1
  refine rF hf3.ah rfl (by simp[hf3.len];omega) λw4 o4 x4 s4=> ?_
  rw[<-aM5]at o4
  have hab:¬w1.heap.size=ab:=by omega
  refine anD (w:=w) ⟨hf3.own.ext x4 hd.2.1,hf3.bs.ext x4 (λh=>hb (vE h λ_=> .inr)),hf3.map.ext x4 hd.2.2,o4,by simp[hf3.len],hf3.le,hf3.big⟩ (hk.set h0 h1) hd hb (hkb.ext x4 hab) (hx0.seq (x4.mono λb _ h=> .inr h)) λw' A' a b c=>⟨A',a,b,c⟩
 by_cases h4:at_+4<=B.length
 .rw [decide_eq_true h4]at hnew⊢
  cases ha:En.assoc (mC B at_) es with
  |none=>
   rw[ha]at l3
   simp only[Option.getD_none,Option.isSome_none]at l3
   simp(disch:=omega)only[SV,c2,c3,l1,l3]
   exact hnew _ (by omega) (by omega)
  |some v=>
   obtain⟨x,rfl,hx⟩:=hk.assoc ha
   rw[ha]at l3
   simp only[aNw,Option.isSome_some]at l3
   by_cases hxa:x<at_
   .have d:decide ((x:Int)<(at_:Int))=true:=by simp;omega
    simp(disch:=omega)only[SV,c2,c3,l1,l3,d]
    exact hnew _ (by omega) (by omega)
   .have d:decide ((x:Int)<(at_:Int))=false:=by simp;omega
    simp(disch:=omega)only[SV,c2,c3,l1,l3,d]
    have:=anD (w:=w) hf3 hk hd hb hkb hx0 (R:=λw'=>∃A',Fnd w' p mb ab bv B to tries (noted B at_ es) A'/\Kept (at_+1) (noted B at_ es) A'/\aN w w' (λb=>b=mb∨b=ab)) λw' A' a b c=>⟨A',a,b,c⟩
    rwa [decide_eq_true h4]at this
 .rw [decide_eq_false h4]at hnew⊢
  simp(disch:=omega)only[SV,c2,c3,l1,l3]
  exact hnew _ (by omega) (by omega)
structure Bst(B:List UInt8)(to at_ n off:Nat):Prop where
 one:(n=0/\off=0)∨(0<n/\1<=off/\off<=at_/\Lng B to (at_-off) at_ n)
theorem aBq{w0 w:aOm}{p mb ab:Nat}{bv:aOn}{B:List UInt8}{to tries at_:Nat}{es:List (Rk 4×aOn)}{A:List Int}(hf:Fnd w0 p mb ab bv B to tries es A)(hk:Kept at_ es A)(ha:at_<=to)(ht:tries<=1048576)(old0:Nat)(ho:old0<at_)
 (hx:aN w0 w bJ) {k:aOn->aOn->aOm->Prop}
 (hR:∀(n off:Nat) w',Bst B to at_ n off->(1<=tries->∀m,Lng B to old0 at_ m->m<=n)->aN w0 w' bJ->k (.int .i64 n) (.int .i64 off) w'):
 kF k (.pointer (some ⟨p,0,none⟩)) (.int .i64 at_) (.int .i64 old0) (.int .i64 0) (.int .i64 0) (.int .i64 tries) (.int .i64 0) w:=by
 have hle:=hf.le
 have hbig:=hf.big
 have hl:=hf.len
 unfold kF
 refine aX.rule (λm t w'=>∃old n off i:Nat,m=tries-i/\t=(.int .i64 old,.int .i64 n,.int .i64 off,.int .i64 i)/\i<=tries/\old<at_/\Bst B to at_ n off/\(i=0->old=old0)/\(0<i->∀m,Lng B to old0 at_ m->m<=n)/\n<=131074/\aN w0 w' bJ) tries
  ⟨old0,0,0,0,rfl,rfl,by omega,ho,⟨.inl ⟨rfl,rfl⟩⟩,λ_=>rfl,λh=>by omega,by omega,hx⟩ ?_
 rintro m t w1 ⟨old,n,off,i,rfl,rfl,hi,hold,hb,h0,h1,hn,hx⟩
 by_cases hlt:i<tries
 .have d1:decide ((i:Int)<(tries:Int))=true:=by simp;omega
  simp(disch:=omega)only[iR,dZ,lH,iS,iT,lI,iU,SV,d1]
  refine(aIg (hf.same hx) old at_ hold (by omega)).mono ?_
  rintro r w2 ⟨n2,rfl,hl2,x2⟩
  have hx:=hx.seq x2
  have hf2:=hf.same hx
  have c3:=hf2.own.cell (off:=3)
  simp only[aLu,aLw]at c3
  have hA:=hk.ah old (by omega)
  have cA:=hf2.ah.cell (off:=old)
  rw[aLR,aLt (by omega)]at cA
  simp only[aL6]at cA
  have step:∀(n3 off3:Nat),Bst B to at_ n3 off3->(∀m,Lng B to old at_ m->m<=n3)->n<=n3->n3<=131074->dZ (λ_ _ kP dL fI _ t36 w=>∃m',m'<tries-i/\∃old n off i:Nat,m'=tries-i/\(kP,dL,fI,IntKind.i64|>λk=>(match t36 with| .int _ x=>Value.int k (k.wrap (x+1))|v=>v))=((.int .i64 old:aOn),(.int .i64 n:aOn),(.int .i64 off:aOn),(.int .i64 i:aOn))/\i<=tries/\old<at_/\Bst B to at_ n off/\(i=0->old=old0)/\(0<i->∀m,Lng B to old0 at_ m->m<=n)/\n<=131074/\aN w0 w bJ) k (.pointer (some ⟨p,0,none⟩)) (.int .i64 at_) (.int .i64 old) (.int .i64 n3) (.int .i64 off3) (.int .i64 tries) (.int .i64 i) w2:=by
   intro n3 off3 hb3 hm3 hn3 h3m
   have hbest:∀m,Lng B to old0 at_ m->m<=n3:=λm hm=>by
    rcases aMC i with h|h
    .rw [<-h0 h]at hm;exact hm3 m hm
    .exact aMu (h1 h m hm) hn3
   by_cases hneg:A[old]<0
   .have d2:decide (A[old]<0)=true:=by simpa using hneg
    simp(disch:=omega)only[iR,dZ,lH,iS,iT,lI,iU,SV,c3,cA,d2]
    exact hR _ _ _ hb3 (λ_=>hbest) hx
   .have d2:decide (A[old]<0)=false:=by simpa using hneg
    simp(disch:=omega)only[iR,dZ,lH,iS,iT,lI,iU,SV,c3,cA,d2]
    have e:A[old]=((A[old].toNat:Nat):Int):=by omega
    refine⟨tries-(i+1),by omega,A[old].toNat,n3,off3,i+1,rfl, ?_,by omega,by omega,hb3,λh=>by omega,λ_=>hbest,h3m,hx⟩
    rw[<-e]
    rfl
  by_cases hg:n<n2
  .have d2:decide ((n:Int)<(n2:Int))=true:=by simp;omega
   have:=step n2 (at_-old) ⟨.inr ⟨by omega,by omega,by omega,by rw[show at_-(at_-old)=old from by omega];exact hl2⟩⟩ (λm hm=>hm.le_of hl2) (by omega) hl2.most
   have e1:((at_:Int)-(old:Int))=((at_-old:Nat):Int):=by omega
   unfold dZ at this
   simp(disch:=omega)only[SV,d2,e1,c3,cA]
   simp(disch:=omega)only[SV,c3,cA]at this
   exact this
  .have d2:decide ((n:Int)<(n2:Int))=false:=by simp;omega
   have:=step n off hb (λm hm=>aMu (hm.le_of hl2) (by omega)) (aLA _) hn
   unfold dZ at this
   simp(disch:=omega)only[SV,d2,c3,cA]
   simp(disch:=omega)only[SV,c3,cA]at this
   exact this
 .have d1:decide ((i:Int)<(tries:Int))=false:=by simp;omega
  simp(disch:=omega)only[iR,dZ,lH,iS,iT,lI,iU,SV,d1]
  exact hR _ _ _ hb (λht=>h1 (by omega)) hx
theorem aDv{w:aOm}{p mb ab:Nat}{bv:aOn}{B:List UInt8}{to tries at_:Nat}{es:List (Rk 4×aOn)}{A:List Int}(hf:Fnd w p mb ab bv B to tries es A)(hk:Kept at_ es A)(ha:at_<=to)(ht:tries<=1048576):
 aK pg lZ #[.pointer (some ⟨p,0,none⟩),.int .i64 at_] w (λr w'=>∃n off:Nat,r= .tuple #[.int .i64 n,.int .i64 off]/\Bst B to at_ n off/\
  (at_+4<=B.length->1<=tries->∀old:Nat,assoc (mC B at_) es=some (.int .i64 old)->∀m,Lng B to old at_ m->m<=n)/\aN w w' bJ):=by
 have hle:=hf.le
 have hbig:=hf.big
 refine PO ?_
 unfold LK Ey Ex wH Ew
 refine(aAR hf at_ (by omega)).mono ?_
 rintro r w1 ⟨rfl,x1⟩
 have hf1:=hf.same x1
 have hlen:=(mC B at_).2
 simp(disch:=omega)only[SV]
 refine Pb λw2 o2 x2 s2=> ?_
 refine Gj o2 (by simp[hlen]) (BF _) (by simp) λw3 o3 x3 s3=> ?_
 have e3:aT [.int .u8 0,.int .u8 0,.int .u8 0,.int .u8 0] 0 ((mC B at_).1.map dR)=(mC B at_).1.map dR:=by
  generalize(mC B at_).1.map dR=l,(show((mC B at_).1.map dR).length=4 by simp[hlen])=hl
  match l,hl with
  |[a,b,c,d],_=>rfl
 simp only[aMX]at o3
 rw[e3]at o3
 have x3:aN w w3 bJ:=x1.seq (x2.new x3 (aLA _))
 by_cases h4:at_+4<=B.length
 .rw [decide_eq_true h4]
  have hf3:=(hf.same x3).dr
  have hkb:=bV o3
  have c2:=hf3.own.cell (off:=2)
  have c4:=hf3.own.cell (off:=4)
  simp only[aLu,aLw]at c2 c4
  have l1:=MC (off:=0) hkb (by simp[hlen])
  have l2:(((mC B at_).1.map dR).drop 0).take 4=(mC B at_).1.map dR:=by rw[aLE,aLO (by simp[hlen])]
  rw[l2]at l1
  have l3:=GJ hf3.map (mC B at_)
  unfold Yp at l3
  cases has:En.assoc (mC B at_) es with
  |none=>
   rw[has]at l3
   simp only[Option.getD_none,Option.isSome_none]at l3
   simp(disch:=omega)only[SV,c2,l1,l3]
   exact⟨0,0,rfl,⟨.inl ⟨rfl,rfl⟩⟩,(by intro _ _ old h;cases h),x3.seq (aN.dr _ _)⟩
  |some v=>
   obtain⟨x,rfl,hxa⟩:=hk.assoc has
   rw[has]at l3
   simp only[aNw,Option.isSome_some]at l3
   simp(disch:=omega)only[SV,c2,l1,l3]
   unfold wG wF Ev
   simp(disch:=omega)only[SV,c4]
   refine aBq hf hk ha ht x hxa (x3.seq (aN.dr _ _)) λn off w' hb hm hx=> ?_
   exact⟨n,off,rfl,hb,λ_ ht old h m hl=>(by cases h;exact hm ht m hl),hx⟩
 .rw [decide_eq_false h4]
  simp(disch:=omega)only[SV]
  exact⟨0,0,rfl,⟨.inl ⟨rfl,rfl⟩⟩,λh=>absurd h h4,x3⟩
abbrev MSq:=Nat×Nat×Nat
def ajY(B:List UInt8)(to a:Nat)(s:MSq):Prop:=a+s.1+s.2.1<=to/\3<=s.2.1/\s.2.1<=131074/\1<=s.2.2/\s.2.2<=a+s.1/\∀k,k<s.2.1->B[a+s.1+k]?=B[a+s.1+k-s.2.2]?
def plan(B:List UInt8)(to:Nat):Nat->List MSq->Nat->Prop
 |a,[],b=>a=b
 |a,s::r,b=>ajY B to a s/\plan B to (a+s.1+s.2.1) r b
def flat:List MSq->List aOn
 |[]=>[]
 |s::r=> .int .u32 s.1:: .int .u32 s.2.1:: .int .u32 s.2.2::flat r
theorem LC:∀L:List MSq,(flat L).length=L.length*3
 |[]=>rfl
 |s::r=>by simp[flat,LC r];omega
theorem amQ(s:MSq):∀L:List MSq,flat (L++[s])=flat L++[.int .u32 s.1,.int .u32 s.2.1,.int .u32 s.2.2]
 |[]=>rfl
 |x::r=>by simp[flat,amQ s r]
theorem anL{B:List UInt8}{to:Nat}{s:MSq}:∀{L:List MSq} {a b:Nat},plan B to a L b->ajY B to b s->plan B to a (L++[s]) (b+s.1+s.2.1)
 |[],a,b,h,hs=>by obtain rfl:a=b:=h;exact⟨hs,rfl⟩
 |x::r,a,b,h,hs=>⟨h.1,anL h.2 hs⟩
theorem agN{B:List UInt8}{to:Nat}:∀{L:List MSq} {a b:Nat},plan B to a L b->a<=to->a+3*L.length<=b/\b<=to
 |[],a,b,h,hs=>by obtain rfl:a=b:=h;simp;omega
 |x::r,a,b,h,hs=>by
  have h1:=h.1
  unfold ajY at h1
  have:=agN h.2 h1.1
  simp only[aLS]
  omega
structure Dst(w0:aOm)(p mb ab base:Nat)(bv:aOn):Prop where
 ne:p≠mb/\p≠ab/\mb≠ab
 lo:w0.heap.size<=p/\w0.heap.size<=mb/\w0.heap.size<=ab
 hi:p<base/\mb<base/\ab<base
 bo:¬JN bv (λb=>w0.heap.size<=b)
structure Fst(w0 w:aOm)(p mb ab base:Nat)(bv:aOn)(B:List UInt8)(to tries:Nat)(es:List (Rk 4×aOn))(A:List Int)(out:aOn)(L:List MSq)(a0 begun:Nat):Prop where
 f:Fnd w p mb ab bv B to tries es A
 o:pC w base 3 out L.length (flat L)
 pl:plan B to a0 L begun
 x:aN w0 w bJ
 hs:base<=w.heap.size
section
variable{w0 w:aOm}{p mb ab base:Nat}{bv:aOn}{B:List UInt8}{to tries:Nat}{es:List (Rk 4×aOn)}{A:List Int}{out:aOn}{L:List MSq}{a0 begun:Nat}
theorem Fst.same {w':aOm}(h:Fst w0 w p mb ab base bv B to tries es A out L a0 begun)(hx:aN w w' bJ):Fst w0 w' p mb ab base bv B to tries es A out L a0 begun:=
 ⟨h.f.same hx,h.o.ext hx (λ_ _ h=>h),h.pl,h.x.seq hx,aMu h.hs hx.size⟩
theorem agL(D:Dst w0 p mb ab base bv)(h:Fst w0 w p mb ab base bv B to tries es A out L a0 begun){j:Nat}(hk:Kept (j+1) es A)(hj:j<to):
 aK pg fD #[.pointer (some ⟨p,0,none⟩),.int .i64 j] w (λ_ w'=>∃A',Fst w0 w' p mb ab base bv B to tries (noted B j es) A' out L a0 begun/\Kept (j+1) (noted B j es) A'):=by
 have d1:=D.lo
 have d2:=D.hi
 refine(aIp h.f hk D.ne (λhh=>D.bo (vE hh λb hb=>by rcases hb with rfl|rfl<;>omega)) hj).mono ?_
 rintro r w' ⟨A',f,k,x⟩
 refine⟨A',⟨f,h.o.ext x (λb hb hh=>by omega),h.pl,h.x.trans x (λb hb hh=>by omega),aMu h.hs x.size⟩,k⟩
theorem aD4 (D:Dst w0 p mb ab base bv){at_ e q:Nat}(h:Fst w0 w p mb ab base bv B to tries es A out L a0 begun)(hk:Kept q es A)(hq:q<=at_+1)(hlt:at_<e)(he:e<=to)(hb:B.length<=4294967295)
 {t2 lv:aOn} {k:aOn->aOn->aOn->aOn->aOn->aOm->Prop}
 (hR:∀w' es' A',Fst w0 w' p mb ab base bv B to tries es' A' out L a0 begun->Kept e es' A'->k t2 lv (.pointer (some ⟨p,0,none⟩)) out (.int .i64 e) w'):
 vP k t2 lv (.pointer (some ⟨p,0,none⟩)) out (.int .i64 at_) (.int .i64 e) w:=by
 have hle:=h.f.le
 unfold vP
 refine aX.rule (λm t w'=>∃(j q:Nat) (es':List (Rk 4×aOn)) (A':List Int),m=e-j/\t= .int .i64 j/\at_<=j/\j<=e/\Fst w0 w' p mb ab base bv B to tries es' A' out L a0 begun/\Kept q es' A'/\q<=j+1/\(at_<j->q<=j)) (e-at_)
  ⟨at_,q,es,A,rfl,rfl,aLA _,by omega,h,hk,hq,λh=>by omega⟩ ?_
 rintro m t w1 ⟨j,q,es1,A1,rfl,rfl,h1,h2,h3,h4,h5,h6⟩
 by_cases hj:j<e
 .have d1:decide ((j:Int)<(e:Int))=true:=by simp;omega
  simp(disch:=omega)only[Gb,SV,d1]
  refine(agL D h3 (h4.mono h5) (by omega)).mono ?_
  rintro r w2 ⟨A2,f2,k2⟩
  exact⟨e-(j+1),by omega,j+1,j+1,_,A2,rfl,rfl,by omega,by omega,f2,k2,by omega,λ_=>aLA _⟩
 .have d1:decide ((j:Int)<(e:Int))=false:=by simp;omega
  have:j=e:=by omega
  subst this
  simp(disch:=omega)only[Gb,SV,d1]
  exact hR _ _ _ h3 (h4.mono (h6 hlt))
theorem aGn(D:Dst w0 p mb ab base bv){at_ n off q:Nat}(h:Fst w0 w p mb ab base bv B to tries es A out L a0 begun)(h0:a0<=to)(hk:Kept q es A)(hq:q<=at_+1)(hbe:begun<=at_)(hbst:Bst B to at_ n off)(hn:4<=n)(hb:B.length<=4294967295)
 {t2 lv:aOn} {k:aOn->aOn->aOn->aOn->aOn->aOn->aOm->Prop}
 (hR:∀w' es' A' out' s,Fst w0 w' p mb ab base bv B to tries es' A' out' (L++[s]) a0 (at_+n)->at_+n<=to->Kept (at_+n) es' A'->k t2 lv (.pointer (some ⟨p,0,none⟩)) out' (.int .i64 ((at_+n:Nat):Int)) (.int .i64 ((at_+n:Nat):Int)) w'):
 yM k t2 lv (.pointer (some ⟨p,0,none⟩)) out (.int .i64 begun) (.int .i64 at_) (.int .i64 n) (.int .i64 off) w:=by
 have hle:=h.f.le
 rcases hbst.one with⟨rfl,rfl⟩|⟨hn0,ho1,ho2,hl⟩
 .omega
 have hend:at_+n<=to:=by rcases hl.le with h|h<;>omega
 have hm:=hl.most
 have hpl:=agN h.pl h0
 unfold yM Wm
 have e1:(at_:Int)-(begun:Int)=((at_-begun:Nat):Int):=by omega
 simp(disch:=omega)only[SV,e1]
 refine WY (cells:= #[.int .u32 ((at_-begun:Nat):Int),.int .u32 n,.int .u32 off]) (by decide) (by decide) (by kernel_rfl) λw2 o2 x2 s2=> ?_
 refine BE (h.o.ext x2 (λ_ _ h=>h)) (o2.cl (off:=0) (l:=[.int .u32 ((at_-begun:Nat):Int),.int .u32 n,.int .u32 off]) rfl (λi hi=>by rw[aLI])) (by simp[one]) (aMu h.hs x2.size) (by omega) λv3 w3 o3 x3=> ?_
 unfold MG MF Wl vP
 have e2:(at_:Int)+(n:Int)=((at_+n:Nat):Int):=by omega
 simp(disch:=omega)only[SV,e2]
 have hi:=D.hi
 have hlo:=D.lo
 have bo:¬JN bv (λb=>base<=b):=λhh=>D.bo (vE hh λb hb=>by omega)
 have f3:Fnd w3 p mb ab bv B to tries es A:=(h.f.same x2).ext x3 (by omega) (by omega) (by omega) bo
 have hs:plan B to a0 (L++[(at_-begun,n,off)]) (at_+n):=by
  have:=anL (s:=(at_-begun,n,off)) h.pl ⟨by simp only;omega,by simp only;omega,hm,ho1,by simp only;omega,λk hk=>by
   simp only at hk⊢
   rw[show begun+(at_-begun)+k=at_+k from by omega,show at_+k-off=at_-off+k from by omega]
   exact(hl.same k hk).symm⟩
  simp only at this
  rwa [show begun+(at_-begun)+n=at_+n from by omega]at this
 have F3:Fst w0 w3 p mb ab base bv B to tries es A v3 (L++[(at_-begun,n,off)]) a0 (at_+n):=
  ⟨f3,by rw[amQ,aLs];exact o3,hs,(h.x.seq x2).trans x3 (λb hb hh=>by omega),aMu (aMu h.hs x2.size) x3.size⟩
 refine aD4 D F3 hk hq (by omega) hend hb λw' es' A' f k=> ?_
 unfold ME
 exact hR _ _ _ _ _ f hend k
end
def aDc(B:List UInt8)(a0 to:Nat):Prop:=(∃c,∀i,i<B.length->B[i]?=some c)/\a0=0/\to=B.length/\8<=to
def Ex8 (B:List UInt8)(a0 to at_:Nat)(es:List (Rk 4×aOn))(L:List MSq):Prop:=
 aDc B a0 to->(at_=0/\es=[])∨(at_=1/\assoc (mC B 0) es=some (.int .i64 (0:Nat)))∨L≠[]
theorem aDp{B:List UInt8}{a0 to:Nat}(h:aDc B a0 to):mC B 1=mC B 0:=by
 obtain⟨⟨c,hc⟩,_,h1,h2⟩:=h
 unfold mC
 rw[dif_pos (by omega),dif_pos (by omega)]
 apply Subtype.ext
 simp only
 apply aMP
 intro i
 by_cases hi:i<4
 .rw [aLX hi,aLX hi,aMA,aMA,hc _ (by omega),hc _ (by omega)]
 .rw [aLH (by simp;omega),aLH (by simp;omega)]
theorem aDq{B:List UInt8}{a0 to:Nat}(h:aDc B a0 to):Lng B to 0 1 (min (to-1) 131074):=by
 obtain⟨⟨c,hc⟩,_,h1,h2⟩:=h
 refine⟨.inl (by omega),by omega,λj hj=>by rw[hc _ (by omega),hc _ (by omega)], ?_⟩
 by_cases hh:to-1<=131074
 .exact .inr (.inl (by omega))
 .exact .inl (by omega)
theorem aIk{w0 w:aOm}{p mb ab base:Nat}{bv:aOn}{B:List UInt8}{to lvl:Nat}{es:List (Rk 4×aOn)}{A:List Int}{a0:Nat}(hlv:lvl<=9)(h0:a0<=to)(hb:B.length<=4294967295)
 (D:Dst w0 p mb ab base bv) (h:Fst w0 w p mb ab base bv B to (2^lvl) es A (.slice none 0 0) [] a0 a0) (hk:Kept a0 es A) (hE:Ex8 B a0 to a0 es [])
 {k:aOn->aOn->aOn->aOm->Prop}
 (hR:∀w' out L b,pC w' base 3 out L.length (flat L)->plan B to a0 L b->b<=to->aN w0 w' bJ->(aDc B a0 to->L≠[])->k (.int .i64 to) out (.int .i64 b) w'):
 sY k (.int .i64 to) (.int .i64 lvl) (.pointer (some ⟨p,0,none⟩)) (.slice none 0 0) (.int .i64 a0) (.int .i64 a0) w:=by
 have htr1:1<=2^lvl:=aN4
 have htr2:2^lvl<=1048576:=aMu (aLG (by omega) hlv) (by decide)
 have hle:=h.f.le
 unfold sY
 refine aX.rule (λm t w'=>∃(out:aOn) (L:List MSq) (begun at_:Nat) (es:List (Rk 4×aOn)) (A:List Int),m=to-at_/\t=(out,.int .i64 begun,.int .i64 at_)/\begun<=at_/\at_<=to/\Fst w0 w' p mb ab base bv B to (2^lvl) es A out L a0 begun/\Kept at_ es A/\Ex8 B a0 to at_ es L) (to-a0)
  ⟨_,[],a0,a0,es,A,rfl,rfl,aLA _,h0,h,hk,hE⟩ ?_
 clear h hk hE
 rintro m t w1 ⟨out,L,begun,at_,es,A,rfl,rfl,hbe,hat,h,hk,hE⟩
 have hpl:=agN h.pl h0
 by_cases hlt:at_<to
 .have d1:decide ((at_:Int)<(to:Int))=true:=by simp;omega
  unfold yN JV JU Ts Tr
  simp(disch:=omega)only[SV,d1]
  refine(aDv h.f hk hat htr2).mono ?_
  rintro r w2 ⟨n,off,rfl,hbst,hlong,x2⟩
  have h2:=h.same x2
  have fin:∀{w3:aOm} {es3:List (Rk 4×aOn)} {A3:List Int} {at3 n3 off3:Nat},Fst w0 w3 p mb ab base bv B to (2^lvl) es3 A3 out L a0 begun->Kept at3 es3 A3∨Kept (at3+1) es3 A3->begun<=at3->at_<=at3->Bst B to at3 n3 off3->4<=n3→
      yM (λ_ _ _ dK cY eH w=>∃m,m<to-at_/\∃(out:aOn) (L:List MSq) (begun at_:Nat) (es:List (Rk 4×aOn)) (A:List Int),m=to-at_/\(dK,cY,eH)=(out,.int .i64 begun,.int .i64 at_)/\begun<=at_/\at_<=to/\Fst w0 w p mb ab base bv B to (2^lvl) es A out L a0 begun/\Kept at_ es A/\Ex8 B a0 to at_ es L)
       (.int .i64 to) (.int .i64 lvl) (.pointer (some ⟨p,0,none⟩)) out (.int .i64 begun) (.int .i64 at3) (.int .i64 n3) (.int .i64 off3) w3:=by
   intro w3 es3 A3 at3 n3 off3 F K hb3 ha3 hbst3 hn3
   have K:Kept (at3+1) es3 A3:=by
    rcases K with K|K
    .exact K.mono (by omega)
    .exact K
   refine aGn D F h0 K (aLA _) hb3 hbst3 hn3 hb λw' es' A' out' s F' hto K'=> ?_
   exact⟨to-(at3+n3),by omega,out',L++[s],at3+n3,at3+n3,es',A',rfl,rfl,aLA _,hto,F',K',λ_=> .inr (.inr (by simp))⟩
  by_cases hn:n<4
  .have d2:decide ((n:Int)<4)=true:=by simp;omega
   simp(disch:=omega)only[SV,d2]
   refine(agL D h2 (hk.mono (by omega)) hlt).mono ?_
   rintro r w3 ⟨A3,h3,k3⟩
   refine⟨to-(at_+1),by omega,out,L,begun,at_+1,_,A3,rfl,rfl,by omega,by omega,h3,k3,λh8=> ?_⟩
   rcases hE h8 with⟨e1,e2⟩|⟨e1,e2⟩|e
   .subst e1 e2
    refine .inr (.inl ⟨rfl, ?_⟩)
    obtain⟨_,_,h81,h82⟩:=h8
    unfold noted
    rw[if_pos (by omega),aBp,if_pos rfl]
   .exfalso
    subst e1
    have hl:=aDq h8
    have hky:=aDp h8
    obtain⟨_,_,h81,h82⟩:=h8
    have:=hlong (by omega) htr1 0 (by rw[hky];exact e2) _ hl
    omega
   .exact .inr (.inr e)
  .have d2:decide ((n:Int)<4)=false:=by simp;omega
   by_cases hl4:4<lvl
   .have d3:decide ((4:Int)<(lvl:Int))=true:=by simp;omega
    by_cases ha1:at_+1<to
    .have d4:decide ((at_:Int)+1<(to:Int))=true:=by simp;omega
     simp(disch:=omega)only[SV,d2,d3,d4]
     refine(agL D h2 (hk.mono (by omega)) hlt).mono ?_
     rintro r w3 ⟨A3,h3,k3⟩
     have e1:(at_:Int)+1=((at_+1:Nat):Int):=by omega
     rw[e1]
     refine(aDv h3.f k3 (by omega) htr2).mono ?_
     rintro r w4 ⟨n4,off4,rfl,hbst4,_,x4⟩
     have h4:=h3.same x4
     have hm4:n4<=131074/\n<=131074:=by
      refine⟨?_, ?_⟩
      .rcases hbst4.one with⟨rfl,_⟩|⟨_,_,_,hl⟩
       .omega
       .exact hl.most
      .rcases hbst.one with⟨rfl,_⟩|⟨_,_,_,hl⟩
       .omega
       .exact hl.most
     by_cases hg:n+1<n4
     .have d5:decide ((n:Int)+1<(n4:Int))=true:=by simp;omega
      simp(disch:=omega)only[SV,d5]
      exact fin h4 (.inl k3) (by omega) (by omega) hbst4 (by omega)
     .have d5:decide ((n:Int)+1<(n4:Int))=false:=by simp;omega
      simp(disch:=omega)only[SV,d5]
      exact fin h4 (.inr k3) (by omega) (by omega) hbst (by omega)
    .have d4:decide ((at_:Int)+1<(to:Int))=false:=by simp;omega
     simp(disch:=omega)only[SV,d2,d3,d4]
     exact fin h2 (.inl hk) hbe (aLA _) hbst (by omega)
   .have d3:decide ((4:Int)<(lvl:Int))=false:=by simp;omega
    simp(disch:=omega)only[SV,d2,d3]
    exact fin h2 (.inl hk) hbe (aLA _) hbst (by omega)
 .have d1:decide ((at_:Int)<(to:Int))=false:=by simp;omega
  unfold yN JV
  simp(disch:=omega)only[SV,d1]
  refine hR _ _ _ _ h.o h.pl hpl.2 h.x λh8=> ?_
  rcases hE h8 with⟨e1,e2⟩|⟨e1,e2⟩|e
  .obtain ⟨_,_,h81,h82⟩:=h8;omega
  .obtain ⟨_,_,h81,h82⟩:=h8;omega
  .exact e
structure Found(w0 w:aOm)(B:List UInt8)(a0 to lvl:Nat)(r:aOn):Prop where
 ex:∃(v:aOn) (L:List MSq) (b:Nat),r= .tuple #[v,.int .i64 ((to-b:Nat):Int),.int .i64 0]/\pC w w0.heap.size 3 v L.length (flat L)/\plan B to a0 L b/\b<=to/\(lvl=0->L=[])/\(1<=lvl->aDc B a0 to->L≠[])
 x:aN w0 w bJ
theorem aGR(lvl:Nat)(h:lvl<=9):IntKind.i64.wrap (1*2^(min lvl IntKind.i64.bits))=((2^lvl:Nat):Int):=by
 have:∀k:Fin 10,IntKind.i64.wrap (1*2^(min k.val IntKind.i64.bits))=((2^k.val:Nat):Int):=by decide
 exact this ⟨lvl,by omega⟩
theorem amP{w0 w:aOm}{p mb ab:Nat}{bv:aOn}{B:List UInt8}{to lvl a0:Nat}(hl1:1<=lvl)(hlv:lvl<=9)(h0:a0<=to)(hto:to<=B.length)(hb:B.length<=4294967295)(hbv:Bs w0 bv B)
 (hx:aN w0 w bJ) (o:aZ w p [bv,.int .i64 to,.map (some mb),.slice (some ⟨ab,0,none⟩) to to,.int .i64 ((2^lvl:Nat):Int)]) (m:Mp w mb Yp ([]:List (Rk 4×aOn))) (oa:aZ w ab (List.replicate to (.int .i64 0)))
 (hne:p≠mb/\p≠ab/\mb≠ab) (hlo:w0.heap.size<=p/\w0.heap.size<=mb/\w0.heap.size<=ab):
 Dm (λr w'=>Found w0 w' B a0 to lvl r) (.int .i64 a0) (.int .i64 to) (.int .i64 lvl) (.pointer (some ⟨p,0,none⟩)) w:=by
 have D:Dst w0 p mb ab w.heap.size bv:=⟨hne,hlo,⟨o.lt,m.lt,oa.lt⟩,hbv.old⟩
 have F:Fst w0 w p mb ab w.heap.size bv B to (2^lvl) [] (List.replicate to 0) (.slice none 0 0) [] a0 a0:=
  ⟨⟨o,hbv.ext hx (aU _),m,by simpa using oa,by simp,hto,by omega⟩,pC.nil _ _ _,rfl,hx,aLA _⟩
 have K:Kept 0 ([]:List (Rk 4×aOn)) (List.replicate to (0:Int)):=⟨λq hq=>absurd hq (by simp),λi hi=>by simp⟩
 unfold Dm JZ Tv Dl
 refine aX.rule (λm t w'=>∃(j:Nat) (es:List (Rk 4×aOn)) (A:List Int),m=a0-j/\t= .int .i64 j/\j<=a0/\Fst w0 w' p mb ab w.heap.size bv B to (2^lvl) es A (.slice none 0 0) [] a0 a0/\Kept j es A/\(j=0->es=[])) a0
  ⟨0,[],_,rfl,rfl,by omega,F,K,λ_=>rfl⟩ ?_
 rintro m t w1 ⟨j,es,A,rfl,rfl,hj,h,hk,he⟩
 by_cases hlt:j<a0
 .have d1:decide ((j:Int)<(a0:Int))=true:=by simp;omega
  simp(disch:=omega)only[Dk,SV,d1]
  refine(agL D h (hk.mono (by omega)) (by omega)).mono ?_
  rintro r w2 ⟨A2,f2,k2⟩
  exact⟨a0-(j+1),by omega,j+1,_,A2,rfl,rfl,by omega,f2,k2,λh=>by omega⟩
 .have d1:decide ((j:Int)<(a0:Int))=false:=by simp;omega
  have:j=a0:=by omega
  subst this
  simp(disch:=omega)only[Dk,SV,d1]
  unfold JY Tu JX JW Tt sY
  refine aIk hlv h0 hb D h hk (λh8=> .inl ⟨h8.2.1,he h8.2.1⟩) λw' out L b ho hpl hbt hx' h8=> ?_
  unfold MD
  have e:(to:Int)-(b:Int)=((to-b:Nat):Int):=by omega
  simp(disch:=omega)only[SV,e]
  exact⟨⟨out,L,b,rfl,pC.lower ho hx.size,hpl,hbt,λh=>by omega,λ_=>h8⟩,hx'⟩
theorem aH3 {w:aOm}{bv:aOn}{B:List UInt8}{to lvl a0:Nat}(hlv:lvl<=9)(h0:a0<=to)(hto:to<=B.length)(hb:B.length<=4294967295)(hbv:Bs w bv B):
 aK pg Cz #[bv,.int .i64 a0,.int .i64 to,.int .i64 lvl] w (λr w'=>Found w w' B a0 to lvl r):=by
 refine afK ?_
 obtain⟨a,c,hv,hc⟩:=hbv.len
 simp only[aLv]at hv hc
 unfold aiU Tx Tw
 have d1:decide ((a0:Int)<0)=false:=by simp
 have d2:decide ((to:Int)<(a0:Int))=false:=by simp;omega
 have d3:decide ((B.length:Int)<(to:Int))=false:=by simp;omega
 have d4:decide ((lvl:Int)<0)=false:=by simp
 have d5:decide ((9:Int)<(lvl:Int))=false:=by simp;omega
 subst hv
 have ln:=dY (ty:=3) a B.length c w
 by_cases hl:lvl=0
 .subst hl
  have d6:(((0:Nat):Int)==0)=true:=by simp
  have e:(to:Int)-(a0:Int)=((to-a0:Nat):Int):=by omega
  simp(disch:=omega)only[SV,ln,d1,d2,d3,d4,d5,d6,e]
  exact⟨⟨_,[],a0,rfl,pC.nil _ _ _,rfl,h0,λ_=>rfl,λh=>by omega⟩,aN.refl _ _⟩
 .have d6:((lvl:Int)==0)=false:=by simpa using hl
  have e1:=aGR lvl hlv
  have hbd:=hbv.dr
  simp(disch:=omega)only[SV,ln,d1,d2,d3,d4,d5,d6]
  refine Nb ?_ ?_
  .refine GN λw1 m1 x1 s1=> ?_
   refine Om (by omega) (by omega) λw2 o2 x2 s2=> ?_
   simp(disch:=omega)only[SV,e1]
   refine fC λw3 o3 x3 s3=> ?_
   refine amP (w0:=w) (by omega) hlv h0 hto hb hbv ((((aN.dr w bJ).seq x1).seq x2).seq x3) o3 ((m1.ext x2 λh=>h).ext x3 λh=>h) (o2.ext x3 λh=>h) ?_ ?_
   .have:(dr w).heap.size=w.heap.size:=rfl
    refine⟨?_, ?_, ?_⟩<;>omega
   .have:(dr w).heap.size=w.heap.size:=rfl
    refine⟨?_, ?_, ?_⟩<;>omega
  .refine Om (by omega) (by omega) λw1 o1 x1 s1=> ?_
   refine GN λw2 m2 x2 s2=> ?_
   simp(disch:=omega)only[SV,e1]
   refine fC λw3 o3 x3 s3=> ?_
   refine amP (w0:=w) (by omega) hlv h0 hto hb hbv ((((aN.dr w bJ).seq x1).seq x2).seq x3) o3 (m2.ext x3 λh=>h) ((o1.ext x2 λh=>h).ext x3 λh=>h) ?_ ?_
   .have:(dr w).heap.size=w.heap.size:=rfl
    refine⟨?_, ?_, ?_⟩<;>omega
   .have:(dr w).heap.size=w.heap.size:=rfl
    refine⟨?_, ?_, ?_⟩<;>omega
end Go.Proofs.YtoecppploooloaaGreatDoor
namespace Go.En
open Go
section
variable{P:Program}{w:aOm}{t e:TypeId}
theorem avS{S:Nat->Prop}{sz n m:Nat}{i:TypeInfo}{z:aOn}{ty t2:TypeId}{k:IntKind}(hu:P.underlying t=some (.slice e))(hu2:P.underlying t2=some (.int k))(hi:P.info? e=some i)(hsz:i.size=sz)(hz:i.zero=some z)(hzs:z.cells.size=sz)
 {v:aOn} {l:List aOn} (h:Ah w S sz v n l) (hsz0:0<sz) (hone:∀y∈z.cells.toList,one y=true) (hb:∀b,w.heap.size<=b->S b)
 (hn:n+m<=9223372036854775807) (hbytes:(n+m)*i.bytes<=140737488355328) (hmb:m*i.bytes<=140737488355328)
 {K:aOn->aOm->Prop} (hk:∀v' w',Ah w' S sz v' (n+m) (l++(Builtin.zeroCells z.cells m).toList)->aN w w' S->K v' w'):aA P (dD .append #[t,t2] ty [v,.int k m]) w K:=by
 generalize hnews:(Builtin.zeroCells z.cells m).toList=news at*
 have hnl:news.length=m*sz:=by rw[<-hnews,aNu,tE,hzs]
 have hone':∀y∈news,one y=true:=by
  intro y hy
  rw[<-hnews]at hy
  simp only[Builtin.zeroCells,Array.toList_map,aL5]at hy
  obtain⟨j,_,rfl⟩:=hy
  refine hone _ ?_
  have:j%z.cells.size<z.cells.size:=aNM _ (by omega)
  rw[getElem!_pos z.cells _ this]
  exact Array.getElem_mem_toList this
 have hmw:IntKind.i64.wrap ((m:Nat):Int)=(m:Int):=cX (by omega) (by omega)
 have hm0:¬((m:Int)<0):=by omega
 have hmx:¬((m:Int)*(i.bytes:Nat)>2^48):=by
  have:(m:Int)*(i.bytes:Nat)=((m*i.bytes:Nat):Int):=by simp
  rw[this];omega
 have has:∀w,(asInt (.int k m)).run P w= .ok (m:Int) w:=λw=>rfl
 have hz':∀w,(zeroValue e).run P w= .ok z w:=λw=>by simp[zeroValue,typeInfo,hi,hz]
 have hnw:∀w,(if m*sz=0 then pure #[]else do pure (Builtin.zeroCells (<-zeroValue e).cells m):Sem (Array aOn)).run P w= .ok news.toArray w:=λw=>by
  by_cases h0:m*sz=0
  .rw [if_pos h0,Sem.run_pure]
   have:news=[]:=aMc.1 (by omega)
   rw[this]
  .rw [if_neg h0,Sem.run_bind,hz',Result.andThen_ok,Sem.run_pure,<-hnews,Array.toArray_toList]
 have hmax:IntKind.i64.max=9223372036854775807:=by decide
 have hnot:¬(((n+m:Nat):Int)>IntKind.i64.max):=by rw[hmax];omega
 have hlen:=h.1
 rcases h.2 with⟨rfl,rfl⟩|⟨b,c,rest,rfl,h2,h3,h4,h5⟩
 .have hl0:l=[]:=aMc.1 (by omega)
  subst hl0
  by_cases hm:m=0
  .subst hm
   have hn0:news=[]:=aMc.1 (by omega)
   subst hn0
   have:(dD .append #[t,t2] ty [.slice none 0 0,.int k (0:Nat)]).run P w= .ok (.value (.slice none 0 0)) w:=by
    unfold dD builtin
    simp only[Builtin.append_,aMN,aLu,aLw]
    simp only[underlying,typeInfo,Sem.run_bind,run_program,Result.andThen_ok,hu,hu2,hi,Sem.run_pure,cG hi,hsz,has,hmw,hm0,hmx,if_true,if_false,aLx,aMy,aLF,aLA,aL3,hnw]
   unfold aA
   rw[this]
   exact hk _ _ ⟨by simp,.inl ⟨rfl,by omega⟩⟩ (aN.refl _ _)
  .have hfit:=growslice_fits (need:=0+m) (old:=0) (bytes:=i.bytes) (by omega) (by omega)
   have hfit':¬(Builtin.nextslicecap (0+m) 0*i.bytes>2^48):=by omega
   have hle:¬(0+m<=0):=by omega
   have hq:(Question.appendCap (0+m) 0 e).forced=false:=rfl
   obtain⟨r,hr⟩:∃r,(Question.appendCap (0+m) 0 e).cut (w.tape w.drawn (.appendCap (0+m) 0 e))=m+r:=
    ⟨(w.tape w.drawn (.appendCap (0+m) 0 e))%(2^63-(0+m)),by simp only[Question.cut];omega⟩
   have:(dD .append #[t,t2] ty [.slice none 0 0,.int k m]).run P w= .ok (.value (.slice (some ⟨w.heap.size,0,none⟩) (0+m) (m+r))) ((dr w).alloc (.cells (news++(Builtin.zeroCells z.cells (m+r-(0+m))).toList).toArray e)):=by
    unfold dD builtin
    simp only[Builtin.append_,aMN,aLu,aLw]
    simp only[underlying,typeInfo,Sem.run_bind,run_program,Result.andThen_ok,hu,hu2,hi,Sem.run_pure,cG hi,hsz,has,hmw,hm0,hmx,if_true,if_false,aLx,aMy,aLF,hle,hnot,false_and,hfit',run_choose,hq,hr,run_askRoom]
    change((Sem.run P _ (dr w)).andThen _).andThen _=_
    simp only[Sem.run_bind,hnw,run_firstCells_none,Result.andThen_ok,hz',Sem.run_pure,newRow,run_newObj]
    have e1:(#[]++news.toArray++Builtin.zeroCells z.cells (m+r-(0+m)):Array aOn)=(news++(Builtin.zeroCells z.cells (m+r-(0+m))).toList).toArray:=by
     apply Array.ext';simp
    rw[e1]
    rfl
   unfold aA
   rw[this]
   refine hk _ _ ⟨by simp only[aL9];rw[hnl,aLI],.inr ⟨w.heap.size,m+r,(Builtin.zeroCells z.cells (m+r-(0+m))).toList,by rw[aLI],hb _ (aLA _),aZ.alloc (dr w) _ _, ?_,by omega⟩⟩ ((aN.dr w _).seq (aN.alloc _ _ _))
   simp only[aL9,aLs,aNu,tE,hzs,hnl]
   rw[show m+r-(0+m)=r from by omega,aMl]
 .by_cases hc:n+m<=c
  .have hroom:news.length<=rest.length:=by
    rw[aLs,hlen]at h4
    have:(n+m)*sz<=c*sz:=aL1 _ hc
    rw[aMl]at this;omega
   obtain⟨w',s1,s2,s3,s4,_⟩:=DD (P:=P) (M:=S) h2 news w (n*sz) 0 (l++rest) h3 (by rw[aLs,hlen];omega) hone'
   have:(dD .append #[t,t2] ty [.slice (some ⟨b,0,none⟩) n c,.int k m]).run P w= .ok (.value (.slice (some ⟨b,0,none⟩) (n+m) c)) w':=by
    unfold dD builtin
    simp only[Builtin.append_,aMN,aLu,aLw]
    simp only[underlying,typeInfo,Sem.run_bind,run_program,Result.andThen_ok,hu,hu2,hi,Sem.run_pure,cG hi,hsz,has,hmw,hm0,hmx,if_true,if_false,aLx,aMy,aLF,hc,hnw,CG,aLI,s1]
   unfold aA
   rw[this]
   rw[aL3,<-hlen,MU _ _ _ hroom]at s2
   refine hk _ _ ⟨by rw[aLs,hlen,hnl,aMl],.inr ⟨b,c,rest.drop news.length,rfl,h2,s2, ?_,hc⟩⟩ s3
   rw[<-h4];simp;omega
  .have hfit:=growslice_fits (need:=n+m) (old:=c) (bytes:=i.bytes) (by omega) hbytes
   have hfit':¬(Builtin.nextslicecap (n+m) c*i.bytes>2^48):=by omega
   have hq:(Question.appendCap (n+m) c e).forced=false:=rfl
   obtain⟨r,hr⟩:∃r,(Question.appendCap (n+m) c e).cut (w.tape w.drawn (.appendCap (n+m) c e))=n+m+r:=
    ⟨(w.tape w.drawn (.appendCap (n+m) c e))%(2^63-(n+m)),by simp only[Question.cut]⟩
   have hold:Cl (dr w) sz (.slice (some ⟨b,0,none⟩) n c) n l:=⟨_,_,rfl,hlen,λ_=>⟨b,0,rfl,λi hi=>by
    show w.cell? _=_
    rw[h3.cell,aLI,aLU hi]⟩⟩
   have:(dD .append #[t,t2] ty [.slice (some ⟨b,0,none⟩) n c,.int k m]).run P w= .ok (.value (.slice (some ⟨w.heap.size,0,none⟩) (n+m) (n+m+r))) ((dr w).alloc (.cells (l++news++(Builtin.zeroCells z.cells (n+m+r-(n+m))).toList).toArray e)):=by
    have hfo:=A0 (P:=P) hold
    unfold dD builtin
    simp only[Builtin.append_,aMN,aLu,aLw]
    simp only[underlying,typeInfo,Sem.run_bind,run_program,Result.andThen_ok,hu,hu2,hi,Sem.run_pure,cG hi,hsz,has,hmw,hm0,hmx,if_true,if_false,aLx,aMy,aLF,hc,hnot,false_and,hfit',run_choose,hq,hr,run_askRoom]
    change((Sem.run P _ (dr w)).andThen _).andThen _=_
    simp only[Sem.run_bind,hnw,hfo,Result.andThen_ok,hz',Sem.run_pure,newRow,run_newObj]
    have e1:(l.toArray++news.toArray++Builtin.zeroCells z.cells (n+m+r-(n+m)):Array aOn)=(l++news++(Builtin.zeroCells z.cells (n+m+r-(n+m))).toList).toArray:=by
     apply Array.ext';simp
    rw[e1]
    rfl
   unfold aA
   rw[this]
   refine hk _ _ ⟨by rw[aLs,hlen,hnl,aMl],.inr ⟨w.heap.size,n+m+r,_,rfl,hb _ (aLA _),aZ.alloc (dr w) _ _, ?_,by omega⟩⟩ ((aN.dr w _).seq (aN.alloc _ _ _))
   simp only[aLs,aNu,tE,hzs,hnl,hlen]
   rw[show n+m+r-(n+m)=r from by omega,aMl,aMl]
end
end Go.En
namespace Go.En
open Go
theorem aIx{P:Program}{w:aOm}{t e ty:TypeId}(hu:P.underlying t=some (.slice e))(x:Option Addr)(n c:Nat):(dD .cap #[t] ty [.slice x n c]).run P w= .ok (.value (.int .i64 c)) w:=by
 simp[dD,builtin,Builtin.cap_,underlying,hu,goInt]
end Go.En
namespace Go.Proofs.YtoecppploooloaaGreatDoor
open Go Go.En Go.Pu
set_option maxRecDepth 4000
set_option linter.unusedSimpArgs false
set_option linter.unusedVariables false
theorem aD8 {y:aOn}(hy:y∈(Value.int .u8 0).cells.toList):one y=true:=by
 have:y= .int .u8 0:=by simpa[Value.cells]using hy
 subst this;rfl
theorem aH5 {n:Nat}{w:aOm}(h1:1<=n)(hn:n<=100000000):
 aK pg tL #[.slice none 0 0,.int .i64 (n:Nat)] w (λr w'=>(∃b c,r= .slice (some ⟨b,0,none⟩) 0 c)/\pC w' w.heap.size 1 r 0 []/\aN w w' bJ):=by
 refine R0 ?_
 unfold OQ Ib Ia AD H9 AB
 have d1:decide (((n:Nat):Int)<0)=false:=decide_eq_false (by omega)
 have hcap:=λ(x:Option Addr) (n c:Nat) w=>aIx (P:=pg) (w:=w) (ty:=3) Tryz.underlying22 x n c
 have e1:((0:Nat):Int)=0:=rfl
 have e2:((n:Nat):Int)-(0-0)=((n:Nat):Int):=by omega
 have d2:decide ((0:Int)<((n:Nat):Int))=true:=decide_eq_true (by omega)
 have z0:(0:Int).toNat=0:=rfl
 have s0:cW none 0 0 1=none:=rfl
 have e3:((0:Int)-0)=0:=rfl
 have e4:((n:Nat):Int)-0=((n:Nat):Int):=by omega
 simp(disch:=omega)only[aA,fM,d1,hcap,e1,dY,aF,eD,s0,z0,aM0,A8,e3,cX,e4,tA,d2,bD,aR]
 refine avS (m:=n) (n:=0) (l:=[]) (S:=λy=>w.heap.size<=y) (i:=Tryz.t5) Tryz.underlying22 Tryz.underlying3 Hq rfl rfl rfl ⟨rfl,.inl ⟨rfl,rfl⟩⟩ (by decide) (λy hy=>aD8 hy) (λb hb=>hb) (by omega) (by rw[show Tryz.t5.bytes=1 from rfl];omega) (by rw[show Tryz.t5.bytes=1 from rfl];omega) λv1 w1 o1 x1=> ?_
 rcases o1.2 with⟨-,h0⟩|⟨b,c,rest,rfl,hb,ho,hc,hnc⟩
 .omega
 have hcn:¬c=0:=by omega
 have s1:cW (some ⟨b,0,none⟩) c 0 1=some ⟨b,0,none⟩:=by unfold cW;rw[if_neg hcn,aL6]<;>rfl
 simp(disch:=omega)only[aLI,eD,s1,z0,aM0,aF]
 refine⟨⟨b,c,rfl⟩,⟨rfl,.inr ⟨b,c,_,rfl,hb,ho,hc,by omega⟩⟩,x1.mono λy hy h=>by omega⟩
theorem aDF{b:Nat}{xv yv:aOn}{l m:List UInt8}{w:aOm}(o:aZ w b [xv,yv])(hx:Bs w xv l)(hy:Bs w yv m)(h1:1<=l.length)(hl:l.length<=10000000)(hm:m.length<=10000000):
 aK pg pS #[.slice (some ⟨b,0,none⟩) 2 2] w (λr w'=>pC w' w.heap.size 1 r (l++m).length ((l++m).map dR)/\aN w w' bJ):=by
 refine OP ?_
 obtain⟨RR,hRR⟩:∃RR:aOn->aOm->Prop,RR=λr w'=>pC w' w.heap.size 1 r (l++m).length ((l++m).map dR)/\aN w w' bJ:=⟨_,rfl⟩
 rw[<-hRR]
 have hbx:=hx
 have hby:=hy
 obtain⟨xa,xc,rfl,-⟩:=hx.len
 obtain⟨ya,yc,rfl,-⟩:=hy.len
 rw[aLv]at hbx hby o
 rw[aLv]at o
 have z0:(0:Int).toNat=0:=rfl
 have z1:(1:Int).toNat=1:=rfl
 have n2:((2:Nat):Int)=2:=rfl
 have c0:∀{W},aN w W bJ->W.cell? ⟨b,0,none⟩=some (.slice xa l.length xc):=λx=>(o.ext x (λh=>h)).cell (off:=0)
 have c1:∀{W},aN w W bJ->W.cell? ⟨b,1,none⟩=some (.slice ya m.length yc):=λx=>(o.ext x (λh=>h)).cell (off:=1)
 have c00:=c0 (aN.refl w bJ)
 have c10:=c1 (aN.refl w bJ)
 have d0:decide ((0:Int)<2)=true:=rfl
 have d1:decide ((1:Int)<2)=true:=rfl
 have d2:decide ((2:Int)<2)=false:=rfl
 have e01:(0:Int)+1=1:=rfl
 have e12:(1:Int)+1=2:=rfl
 unfold Kr Dx Dw uG uF Dv mS
 simp(disch:=omega)only[aA,nU,n2,aF]
 refine aX.rule (λk (t:aOn×aOn) W=>W=w/\((k=2/\t=(.int .i64 0,.int .i64 0))∨(k=1/\t=(.int .i64 (l.length:Nat),.int .i64 1))∨(k=0/\t=(.int .i64 ((l.length+m.length:Nat):Int),.int .i64 2)))) 2 ⟨rfl,.inl ⟨rfl,rfl⟩⟩ ?_
 rintro k t W ⟨rfl,⟨rfl,rfl⟩|⟨rfl,rfl⟩|⟨rfl,rfl⟩⟩
 .unfold jM mR mQ
  have e1:(0:Int)+(l.length:Int)=(l.length:Int):=by omega
  have d3:decide ((l.length:Int)<0)=false:=decide_eq_false (by omega)
  simp(disch:=omega)only[aA,fM,d0,lE,z0,aL3,gN,e01,cX,aF,iO,c00,cQ,dY,e1,d3,and_true,true_and,aR,bD]
  first
   |exact⟨1,by omega,rfl,.inr (.inl ⟨rfl,rfl⟩)⟩
   |exact⟨1,by omega,.inr (.inl ⟨rfl,rfl⟩)⟩
   |exact⟨1,by omega,.inr (.inl rfl)⟩
 .unfold jM mR mQ
  have e1:(l.length:Int)+(m.length:Int)=((l.length+m.length:Nat):Int):=by omega
  have d3:decide (((l.length+m.length:Nat):Int)<0)=false:=decide_eq_false (by omega)
  simp(disch:=omega)only[aA,fM,d1,lE,z1,aLI,gN,e12,cX,aF,iO,c10,cQ,dY,e1,d3,and_true,true_and,aR,bD]
  first
   |exact⟨0,by omega,rfl,.inr (.inr ⟨rfl,rfl⟩)⟩
   |exact⟨0,by omega,.inr (.inr ⟨rfl,rfl⟩)⟩
   |exact⟨0,by omega,.inr (.inr rfl)⟩
 .unfold jM mR wM ED
  simp(disch:=omega)only[aA,fM,d2,aF,aR]
  refine(aH5 (n:=l.length+m.length) (by omega) (by omega)).mono ?_
  rintro r w1 ⟨-,o1,x1⟩
  have s1:=x1.size
  unfold wL wK EC oY
  simp(disch:=omega)only[aA,nU,n2,aF]
  obtain⟨w0,hw0⟩:∃w0,w0=W.heap.size:=⟨_,rfl⟩
  rw[<-hw0]at o1
  refine aX.rule (λk (t:aOn×aOn) W'=>aN W W' bJ/\((k=2/\∃v,t=(v,.int .i64 0)/\pC W' w0 1 v 0 [])∨(k=1/\∃v,t=(v,.int .i64 1)/\pC W' w0 1 v l.length (l.map dR))∨(k=0/\∃v,t=(v,.int .i64 2)/\pC W' w0 1 v (l++m).length ((l++m).map dR)))) 2 ⟨x1,.inl ⟨rfl,_,rfl,o1⟩⟩ ?_
  rintro k t W' ⟨x,⟨rfl,v,rfl,ov⟩|⟨rfl,v,rfl,ov⟩|⟨rfl,v,rfl,ov⟩⟩
  .unfold kI
   have cc:=c0 x
   have hcl:=(hbx.ext x (aU _)).cl
   rw[aLv]at hcl
   have zz:=x.size
   simp(disch:=omega)only[aA,fM,d0,lE,z0,aL3,gN,cX,aF,iO,cc,cQ,bD]
   refine dH ov hcl (BF _) (by omega) (by omega) λv2 w2 o2 x2=> ?_
   simp(disch:=omega)only[e01]
   rw[aLI,aL9]at o2
   exact⟨1,by omega,x.trans x2 λy hy h=>by omega,.inr (.inl ⟨rfl,_,rfl,o2⟩)⟩
  .unfold kI
   have cc:=c1 x
   have hcl:=(hby.ext x (aU _)).cl
   rw[aLv]at hcl
   have zz:=x.size
   simp(disch:=omega)only[aA,fM,d1,lE,z1,aLI,gN,cX,aF,iO,cc,cQ,bD]
   refine dH ov hcl (BF _) (by omega) (by omega) λv2 w2 o2 x2=> ?_
   simp(disch:=omega)only[e12]
   rw[<-aL2,<-aLs]at o2
   exact⟨0,by omega,x.trans x2 λy hy h=>by omega,.inr (.inr ⟨rfl,_,rfl,o2⟩)⟩
  .unfold kI wJ
   simp(disch:=omega)only[aA,fM,d2,gN,cX,aF,aR]
   rw[hRR,<-hw0]
   exact⟨ov,x⟩
abbrev A9 (a b c:Nat):aOn:= .agg #[.int .u32 (a:Nat),.int .u32 (b:Nat),.int .u32 (c:Nat)]
def PkO(w:aOm)(base:Nat)(r:aOn):Prop:=
 (∃(e:Int) (a b c:Nat),e≠0/\r= .tuple #[.slice none 0 0,A9 a b c,.int .i64 e])∨
 (∃(x:aOn) (bytes:List UInt8) (a b c:Nat),r= .tuple #[x,A9 a b c,.int .i64 0]/\pC w base 1 x bytes.length (bytes.map dR)/\2<=bytes.length)
end Go.Proofs.YtoecppploooloaaGreatDoor
namespace Go.Proofs.YtoecppploooloaaGreatDoor
open Go Go.En Go.Pu
set_option maxRecDepth 4000
abbrev vF(a b c:Nat):List aOn:=[.int .u32 (a:Nat),.int .u32 (b:Nat),.int .u32 (c:Nat)]
theorem aAJ{a b c o k:Nat}{w:aOm}(hk:k<=2):
 aK pg iI #[A9 a b c,.int .u32 (o:Nat),.int .i64 (k:Nat)] w (λr w'=>(∃x y:Nat,r=A9 o x y)/\aN w w' bJ):=by
 refine NV ?_
 obtain⟨RR,hRR⟩:∃RR:aOn->aOm->Prop,RR=λr w'=>(∃x y:Nat,r=A9 o x y)/\aN w w' bJ:=⟨_,rfl⟩
 rw[<-hRR]
 unfold Jp El
 refine fC λw1 o1 x1 s1=> ?_
 have o1:aZ w1 w.heap.size (vF a b c):=o1
 obtain⟨p,hp⟩:∃p,p=w.heap.size:=⟨_,rfl⟩
 rw[<-hp]at o1⊢
 refine dU λw2 o2 x2 s2=> ?_
 obtain⟨q,hq⟩:∃q,q=w1.heap.size:=⟨_,rfl⟩
 rw[<-hq]at o2⊢
 have o12:=o1.ext x2 (λh=>h)
 have l2:(aH 45 (.pointer (some ⟨p,0,none⟩))).run pg w2= .ok (.value (A9 a b c)) w2:=dJ (off:=0) o12 (by simp)
 simp(disch:=omega)only[SV,l2]
 refine dU λw3 o3 x3 s3=> ?_
 obtain⟨u,hu⟩:∃u,u=w2.heap.size:=⟨_,rfl⟩
 rw[<-hu]at o3⊢
 refine cB o3 rfl (by simp[one]) (by simp) λw4 o4 x4 s4=> ?_
 have o4:aZ w4 u (vF a b c):=o4
 have x24:aN w2 w4 bJ:=x3.trans x4 λy hy h=>by omega
 have o14:=o12.ext x24 (λh=>h)
 have oq4:=o2.ext x24 (λh=>h)
 have e1:((k:Nat):Int)+1=((k+1:Nat):Int):=by omega
 have t1:(1:Int).toNat=1:=rfl
 have sh1:iD ⟨u,0,none⟩ 3 1 1=⟨u,0+1,none⟩:=oC (by omega)
 have sh0:iD ⟨p,0,none⟩ 3 0 1=⟨p,0+0,none⟩:=oC (by omega)
 have k1:k+1-1=k:=rfl
 simp(disch:=omega)only[SV,e1,t1,sh1,sh0,k1]
 have src:Sl (dr w4) (.slice (some ⟨p,0,none⟩) (k-0) (3-0)) ((vF a b c).take k):=by
  refine⟨_,_,_,rfl,by simp;omega,by omega,λ_=>⟨_,_,rfl,λi hi=> ?_⟩⟩
  rw[aLI,(bV o14).cell,aLX (by omega)]
 have one3:∀x∈(vF a b c).take k,one x=true:=λx hx=>by
  have:=aMx hx
  simp at this
  rcases this with rfl|rfl|rfl<;>rfl
 refine aoS (off:=1) (bV o4) (by simp;omega) src one3 λw5 o5 x5 s5=> ?_
 obtain⟨x,y,hxy⟩:∃x y:Nat,aT (vF a b c) 1 (((vF a b c).take k).take (min ((vF a b c).take k).length k))=vF a x y:=by
  rcases(show k=0∨k=1∨k=2 by omega)with rfl|rfl|rfl
  .exact ⟨b,c,rfl⟩
  .exact ⟨a,c,rfl⟩
  .exact ⟨a,b,rfl⟩
 rw[hxy]at o5
 have t0:(0:Int).toNat=0:=rfl
 try simp(disch:=omega)only[SV,t0]
 refine Fm o5 rfl (by simp) λw6 o6 x6 s6=> ?_
 have o6:aZ w6 u (vF o x y):=o6
 have l6:(aH 45 (.pointer (some ⟨u,0,none⟩))).run pg w6= .ok (.value (A9 o x y)) w6:=dJ (off:=0) o6 (by simp)
 simp(disch:=omega)only[SV,l6]
 have x46:aN w4 w6 (λz=>z=u):=((aN.dr w4 _).seq x5).seq x6
 refine cB (oq4.ext x46 (by omega)) rfl (by simp[one]) (by simp) λw7 o7 x7 s7=> ?_
 refine iQ o7 (by simp[aT]) ?_
 rw[hRR]
 refine⟨⟨x,y,rfl⟩, ?_⟩
 have z4:=x24.size
 exact(((x1.seq x2).seq x24).trans x46 λz hz h=>by omega).trans x7 λz hz h=>by omega
theorem wrap32 (z:Int):∃n:Nat,IntKind.u32.wrap z=(n:Int)/\n<4294967296:=by
 refine⟨(IntKind.u32.wrap z).toNat, ?_, ?_⟩<;>rw[show IntKind.u32.wrap z=z%4294967296 from rfl]<;>omega
theorem aEu{RR:aOn->aOm->Prop}{a b c p u k n:Nat}{w w3:aOm}(hRR:RR=λr w'=>(∃(o x y z:Nat) (e:Int),r= .tuple #[.int .u32 (o:Nat),A9 x y z,.int .i64 e])/\aN w w' bJ)(hk:k<=3)(hu:w.heap.size<=u)(oP:aZ w3 p (vF a b c))(o3:aZ w3 u (vF 0 0 0))(x03:aN w w3 bJ):
 qD RR (.pointer (some ⟨p,0,none⟩)) (.pointer (some ⟨u,0,none⟩)) (.int .i64 2) (.int .i64 (k:Nat)) (.int .u32 (n:Nat)) w3:=by
 unfold qD
 cases hn:(((n:Nat):Int)==0)with
 |true=>
  simp(disch:=omega)only[SV,hn]
  refine cB o3 rfl (by simp[one]) (by simp) λw4 o4 x4 s4=> ?_
  refine iQ o4 (by simp[aT]) ?_
  rw[hRR]
  exact⟨⟨0,0,0,0,16,rfl⟩,x03.trans x4 λz hz h=>by omega⟩
 |false=>
  have l3:(aH 45 (.pointer (some ⟨p,0,none⟩))).run pg w3= .ok (.value (A9 a b c)) w3:=dJ (off:=0) oP (by simp)
  have mn:(if(2:Int)<((k:Nat):Int)then(2:Int)else((k:Nat):Int))=((min k 2:Nat):Int):=by split<;>omega
  simp(disch:=omega)only[SV,hn,l3,mn]
  refine(aAJ (k:=min k 2) (by omega)).mono ?_
  rintro r w4 ⟨⟨x,y,rfl⟩,x4⟩
  refine cB (o3.ext x4 (λh=>h)) rfl (by simp[one]) (by simp) λw5 o5 x5 s5=> ?_
  refine iQ o5 (by simp[aT]) ?_
  rw[hRR]
  exact⟨⟨n,n,x,y,0,rfl⟩,(x03.seq x4).trans x5 λz hz h=>by omega⟩
theorem aEw{a b c lit m off:Nat}{w:aOm}(h1:1<=off)(h3:off<=3):
 aK pg zD #[A9 a b c,.agg #[.int .u32 (lit:Nat),.int .u32 (m:Nat),.int .u32 (off:Nat)]] w (λr w'=>(∃(o x y z:Nat) (e:Int),r= .tuple #[.int .u32 (o:Nat),A9 x y z,.int .i64 e])/\aN w w' bJ):=by
 refine Vb ?_
 obtain⟨RR,hRR⟩:∃RR:aOn->aOm->Prop,RR=λr w'=>(∃(o x y z:Nat) (e:Int),r= .tuple #[.int .u32 (o:Nat),A9 x y z,.int .i64 e])/\aN w w' bJ:=⟨_,rfl⟩
 rw[<-hRR]
 unfold SP Lx Lw
 refine fC λw1 o1 x1 s1=> ?_
 have o1:aZ w1 w.heap.size (vF a b c):=o1
 obtain⟨p,hp⟩:∃p,p=w.heap.size:=⟨_,rfl⟩
 rw[<-hp]at o1⊢
 refine fC λw2 o2 x2 s2=> ?_
 have o2:aZ w2 w1.heap.size (vF lit m off):=o2
 obtain⟨q,hq⟩:∃q,q=w1.heap.size:=⟨_,rfl⟩
 rw[<-hq]at o2⊢
 refine dU λw3 o3 x3 s3=> ?_
 obtain⟨u,hu⟩:∃u,u=w2.heap.size:=⟨_,rfl⟩
 rw[<-hu]at o3⊢
 have o3:aZ w3 u (vF 0 0 0):=o3
 have x03:aN w w3 bJ:=(x1.seq x2).seq x3
 have oP:=(o1.ext x2 (λh=>h)).ext x3 (λh=>h)
 have oS:=o2.ext x3 (λh=>h)
 have c2:=oS.cell (off:=2)
 have c0:=oS.cell (off:=0)
 simp only[aLu,aLw]at c2 c0
 have tail:∀k:Nat,k<=3->xF RR (.pointer (some ⟨p,0,none⟩)) (.pointer (some ⟨u,0,none⟩)) (.int .i64 2) (.int .i64 (k:Nat)) w3:=by
  intro k hk
  have fin:∀n:Nat,qD RR (.pointer (some ⟨p,0,none⟩)) (.pointer (some ⟨u,0,none⟩)) (.int .i64 2) (.int .i64 (k:Nat)) (.int .u32 (n:Nat)) w3:=λn=>aEu hRR (by omega) (by omega) oP o3 x03
  unfold xF Lv
  have t0:(0:Int).toNat=0:=rfl
  have ca:=oP.cell (off:=0)
  simp only[aLu]at ca
  obtain⟨n,hn,-⟩:=wrap32 (((a:Nat):Int)-1)
  by_cases h2:k<=2
  .have d1:decide (((k:Nat):Int)<=2)=true:=decide_eq_true (by omega)
   obtain⟨v,hv⟩:∃v:Nat,w3.cell? ⟨p,k,none⟩=some (.int .u32 (v:Nat)):=by
    rcases(show k=0∨k=1∨k=2 by omega)with rfl|rfl|rfl
    .exact ⟨a,by rw[oP.cell]<;>rfl⟩
    .exact ⟨b,by rw[oP.cell]<;>rfl⟩
    .exact ⟨c,by rw[oP.cell]<;>rfl⟩
   simp(disch:=omega)only[SV,t0,ca,hn,d1,hv]
   exact fin v
  .have d1:decide (((k:Nat):Int)<=2)=false:=decide_eq_false (by omega)
   simp(disch:=omega)only[SV,t0,ca,hn,d1]
   exact fin n
 have d0:(((off:Nat):Int)==0)=false:=beq_eq_false_iff_ne.2 (by omega)
 have d1:decide ((3:Int)<((off:Nat):Int))=false:=decide_eq_false (by omega)
 have e1:((off:Nat):Int)-1=((off-1:Nat):Int):=by omega
 have e2:((off-1:Nat):Int)+1=((off:Nat):Int):=by omega
 cases hl:(((lit:Nat):Int)==0)with
 |true=>
  simp(disch:=omega)only[SV,c2,c0,d0,d1,e1,e2,hl]
  exact tail off h3
 |false=>
  simp(disch:=omega)only[SV,c2,c0,d0,d1,e1,e2,hl]
  exact tail (off-1) (by omega)
theorem aIO{a b c lit off:Nat}{w:aOm}:
 aK pg Ct #[A9 a b c,.int .u32 (lit:Nat),.int .u32 (off:Nat)] w (λr w'=>(∃(o x y z:Nat),r= .tuple #[.int .u32 (o:Nat),A9 x y z]/\o<4294967296)/\aN w w' bJ):=by
 refine Yx ?_
 obtain⟨RR,hRR⟩:∃RR:aOn->aOm->Prop,RR=λr w'=>(∃(o x y z:Nat),r= .tuple #[.int .u32 (o:Nat),A9 x y z]/\o<4294967296)/\aN w w' bJ:=⟨_,rfl⟩
 rw[<-hRR]
 unfold Yw QI QH
 refine fC λw1 o1 x1 s1=> ?_
 have o1:aZ w1 w.heap.size (vF a b c):=o1
 obtain⟨p,hp⟩:∃p,p=w.heap.size:=⟨_,rfl⟩
 rw[<-hp]at o1⊢
 refine dU λw2 o2 x2 s2=> ?_
 obtain⟨q,hq⟩:∃q,q=w1.heap.size:=⟨_,rfl⟩
 rw[<-hq]at o2⊢
 have o2:aZ w2 q (vF 0 0 0):=o2
 simp(disch:=omega)only[SV]
 refine G9 λw3 o3 x3 s3=> ?_
 obtain⟨u,hu⟩:∃u,u=w2.heap.size:=⟨_,rfl⟩
 rw[<-hu]at o3⊢
 refine Fo o3 rfl (by simp[one]) (by simp) λw4 o4 x4 s4=> ?_
 have o4:aZ w4 u (vF lit 0 0):=o4
 have x24:aN w2 w4 bJ:=x3.trans x4 λy hy h=>by omega
 have x04:aN w w4 bJ:=(x1.seq x2).seq x24
 have oP4:=(o1.ext x2 (λh=>h)).ext x24 (λh=>h)
 have oQ4:=o2.ext x24 (λh=>h)
 unfold Hm Hl QG
 simp(disch:=omega)only[SV]
 refine Fm o4 rfl (by simp) λw5 o5 x5 s5=> ?_
 have o5:aZ w5 u (vF lit 0 1):=o5
 have hup:p≠u:=by omega
 have huq:q≠u:=by omega
 have x05:aN w w5 bJ:=x04.trans x5 λy hy h=>by omega
 unfold Bn
 refine aX.rule (λm (t:Unit) W=>∃j:Nat,m=4-j/\1<=j/\j<=4/\aZ W u (vF lit 0 j)/\aZ W p (vF a b c)/\aZ W q (vF 0 0 0)/\aN w W bJ) 3 ⟨1,rfl,by omega,by omega,o5,oP4.ext x5 hup,oQ4.ext x5 huq,x05⟩ ?_
 rintro m t W ⟨j,rfl,h1,h4,oU,oP,oQ,xW⟩
 have zW:=xW.size
 unfold Hk
 have c2:=oU.cell (off:=2)
 simp only[aLu,aLw]at c2
 have lR:(aH 45 (.pointer (some ⟨p,0,none⟩))).run pg W= .ok (.value (A9 a b c)) W:=dJ (off:=0) oP (by simp)
 by_cases h3:j<=3
 .have d1:decide (((j:Nat):Int)<=3)=true:=decide_eq_true (by omega)
  have lS:(aH 84 (.pointer (some ⟨u,0,none⟩))).run pg W= .ok (.value (A9 lit 0 j)) W:=EW (off:=0) oU (by simp)
  simp(disch:=omega)only[SV,c2,d1,lR,lS]
  refine(aEw h1 h3).mono ?_
  rintro r w6 ⟨⟨o,x,y,z,e,rfl⟩,x6⟩
  simp(disch:=omega)only[SV]
  refine dU λw7 o7 x7 s7=> ?_
  obtain⟨v,hv⟩:∃v,v=w6.heap.size:=⟨_,rfl⟩
  rw[<-hv]at o7⊢
  refine cB o7 rfl (by simp[one]) (by simp) λw8 o8 x8 s8=> ?_
  have o8:aZ w8 v (vF x y z):=o8
  have x68:aN w6 w8 bJ:=x7.trans x8 λy hy h=>by omega
  have x8':=x6.seq x68
  have oU8:=oU.ext x8' (λh=>h)
  have c8:=oU8.cell (off:=2)
  simp only[aLu,aLw]at c8
  have c8d:(dr w8).cell? ⟨u,2,none⟩=_:=c8
  have ej:((j:Nat):Int)+1=((j+1:Nat):Int):=by omega
  have x0:=x04.size
  have fin:∀w9,aZ w9 u ((vF lit 0 j).set 2 (.int .u32 ((j+1:Nat):Int)))->aN w8 w9 (λy=>y=u)->∃m',m'<4-j/\∃j':Nat,m'=4-j'/\1<=j'/\j'<=4/\aZ w9 u (vF lit 0 j')/\aZ w9 p (vF a b c)/\aZ w9 q (vF 0 0 0)/\aN w w9 bJ:=λw9 o9 x9=>
   ⟨4-(j+1),by omega,j+1,rfl,by omega,by omega,o9,(oP.ext x8' (λh=>h)).ext x9 hup,(oQ.ext x8' (λh=>h)).ext x9 huq,(xW.seq x8').trans x9 λy hy h=>by omega⟩
  cases he:(e==0)with
  |true=>
   cases ho:(((o:Nat):Int)==((off:Nat):Int))with
   |true=>
    have l8:(aH 45 (.pointer (some ⟨v,0,none⟩))).run pg (dr w8)= .ok (.value (A9 x y z)) (dr w8):=dJ (off:=0) (bV o8) (by simp)
    simp(disch:=omega)only[SV,he,ho,c8d,l8]
    refine cB (bV (oQ.ext x8' (λh=>h))) rfl (by simp[one]) (by simp) λw9 o9 x9 s9=> ?_
    refine iQ o9 (by simp[aT]) ?_
    rw[hRR]
    exact⟨⟨j,x,y,z,rfl,by omega⟩,(xW.seq (x8'.seq (aN.dr _ bJ))).trans x9 λy hy h=>by omega⟩
   |false=>
    simp(disch:=omega)only[SV,he,ho,c8,ej]
    refine Fm oU8 rfl (by simp) λw9 o9 x9 s9=> ?_
    exact fin w9 o9 x9
  |false=>
   simp(disch:=omega)only[SV,he,c8,ej]
   refine Fm oU8 rfl (by simp) λw9 o9 x9 s9=> ?_
   exact fin w9 o9 x9
 .have d1:decide (((j:Nat):Int)<=3)=false:=decide_eq_false (by omega)
  simp(disch:=omega)only[SV,c2,d1]
  unfold Hj
  obtain⟨n,hn,hn'⟩:=wrap32 (((off:Nat):Int)+3)
  simp(disch:=omega)only[SV,hn,lR]
  refine(aAJ (k:=2) (by omega)).mono ?_
  rintro r w6 ⟨⟨x,y,rfl⟩,x6⟩
  refine cB (oQ.ext x6 (λh=>h)) rfl (by simp[one]) (by simp) λw7 o7 x7 s7=> ?_
  refine iQ o7 (by simp[aT]) ?_
  rw[hRR]
  exact⟨⟨n,_,x,y,rfl,hn'⟩,(xW.seq x6).trans x7 λy hy h=>by have:=x04.size;omega⟩
def m3 (L:List Int):List T3:=L.map λx=>(x,0,0)
theorem aIh(L:List Int)(i:Nat)(h:i<L.length)(x:Int):(m3 L).set i (x,((m3 L)[i]'(by simpa[m3]using h)).2)=m3 (L.set i x):=by
 unfold m3;rw[aM5];simp
theorem auB{k:IntKind}{L:List Int}{i:Nat}(h:i<L.length)(x:Int):(fe k (m3 L)).set (i*3) (.int k x)=fe k (m3 (L.set i x)):=by
 rw[(aoZ k (m3 L) i (by simpa[m3]using h) x).1,aIh L i h x]
theorem ayV(n high s:Nat)(r:List Nat)(a:Nat)(arr:List Int):place n high (s::r) a arr=place n high r (acR n high n (adv n a)) (arr.set a s):=rfl
theorem aCt{ps:List Int}{i:Nat}(h:i<ps.length):rH (ps.drop i) i=List.replicate ps[i].toNat i++rH (ps.drop (i+1)) (i+1):=by
 rw[aL8 h,rH]
theorem aIJ{w0 w:aOm}{N high j:Nat}(hN:0<N)(hN2:N<=32768)(hh:0<high)(hhN:high<=N)(hx:aN w0 w bJ)
 {ov sv a b c d e:aOn} {k:aOn->aOn->aOn->aOn->aOn->aOn->aOn->aOn->aOn->aOn->aOm->Prop}
 (hk:∃j',acR N high N (adv N (pos N j))=pos N j'/\k (.int .i64 N) ov (.int .i64 high) (.int .i64 (pos N j':Nat)) sv a b c d e w):
 vN k (.int .i64 N) ov (.int .i64 high) (.int .i64 (pos N j:Nat)) sv a b c d e w:=by
 obtain⟨dd,h1,h2,h3⟩:=anQ hN hh (j+1)
 obtain⟨j',hj',hk⟩:=hk
 rw[UC,h3]at hj'
 rw[<-hj']at hk
 unfold vN
 refine aX.rule (λm t w'=>∃q:Nat,m=dd-q/\t= .int .i64 (pos N (j+q):Nat)/\q<=dd/\w'=w) dd ⟨0,rfl,rfl,by omega,rfl⟩ ?_
 rintro m t w' ⟨q,rfl,rfl,hq,rfl⟩
 have hp:=ayY hN (j+q)
 have e1:((N:Int)).fdiv (2^(min 1 IntKind.i64.bits))=((N/2:Nat):Int):=by
  have:(2:Int)^(min 1 IntKind.i64.bits)=((2:Nat):Int):=by decide
  rw[this,SQ]
 have e3:((N:Int)).fdiv (2^(min 3 IntKind.i64.bits))=((N/8:Nat):Int):=by
  have:(2:Int)^(min 3 IntKind.i64.bits)=((8:Nat):Int):=by decide
  rw[this,SQ]
 have t1:(1:Int).toNat=1:=rfl
 have t3:(3:Int).toNat=3:=rfl
 have e4:(((pos N (j+q):Nat):Int)+((N/2:Nat):Int)+((N/8:Nat):Int)+3).tmod (N:Int)=((pos N (j+q+1):Nat):Int):=by
  rw[aNn (by omega),<-UC]
  unfold adv
  simp
 unfold MA
 by_cases hd:q=dd
 .subst hd
  have d1:decide (((pos N (j+q+1):Nat):Int)<(high:Int))=true:=by
   simp only[decide_eq_true_eq]
   rw[show j+1+q=j+q+1 from by omega]at h2
   omega
  simp(disch:=omega)only[SV,e1,e3,t1,t3,e4,d1]
  rw[show j+1+q=j+q+1 from by omega]at hk
  exact hk
 .have d1:decide (((pos N (j+q+1):Nat):Int)<(high:Int))=false:=by
   have:=h1 q (by omega)
   rw[show j+1+q=j+q+1 from by omega]at this
   simp only[decide_eq_false_iff_not]
   omega
  simp(disch:=omega)only[SV,e1,e3,t1,t3,e4,d1]
  exact⟨dd-(q+1),by omega,q+1,rfl,rfl,by omega⟩
theorem avN{log:Nat}{sv:aOn}{ps:List Int}{w:aOm}(hm:WS log ps)(hs:Sl w sv (ps.map (Value.int .i64))):
 aK pg Cv #[.agg #[.int .i64 log,sv]] w (λr w'=>∃b,r= .slice (some ⟨b,0,none⟩) (2^log) (2^log)/\w.heap.size<=b/\aZ w' b (fe .u8 (m3 (dF 0 log ps)))/\aN w w' bJ):=by
 refine afD ?_
 have h5:=hm.log5
 have h15:=hm.log15
 have hlen:=hm.len256
 obtain⟨arr0,ht,hal,hsum,hfin⟩:=avP hm 0
 rw[hfin]
 have hN1:2^5<=2^log:=aLG (by omega) h5
 have hN2:2^log<=2^15:=aLG (by omega) h15
 have hsh:IntKind.i64.wrap (1*2^(min log IntKind.i64.bits))=((2^log:Nat):Int):=by
  have:∀k:Fin 16,IntKind.i64.wrap (1*2^(min k.val IntKind.i64.bits))=((2^k.val:Nat):Int):=by decide
  exact this ⟨log,by omega⟩
 clear hfin
 generalize hN:2^log=N at*
 generalize hhigh:(rH ps 0).length=high at*
 unfold aiA Ta S9
 refine fC λw1 o1 x1 s1=> ?_
 have hs1:=hs.ext x1 (aU _)
 have c0:=o1.cell (off:=0)
 have c1:=o1.cell (off:=1)
 simp only[Value.cells,aLu,aLw]at c0 c1
 obtain⟨a,c,rfl,hc⟩:=hs.lenI
 simp(disch:=omega)only[SV,c0,c1,hsh]
 refine abS (by omega) (by omega) λw2 o2 x2 s2=> ?_
 rw[aLx,aAF]at o2
 rw[aLx]
 have o2:aZ w2 w1.heap.size (fe .u8 (m3 (List.replicate N 0))):=by unfold m3;rw[aNf];exact o2
 have x02:aN w w2 bJ:=x1.seq x2
 have ob2:=o1.ext x2 (λh=>h)
 have c1:=ob2.cell (off:=1)
 simp only[Value.cells,aLu,aLw]at c1
 unfold JI JH S8 De
 simp(disch:=omega)only[SV,c1]
 have hw1:w.heap.size<=w1.heap.size:=x1.size
 refine aX.rule (λm t w'=>∃(i hg:Nat) (arr:List Int),m=ps.length-i/\t=(.int .i64 hg,.int .i64 i)/\i<=ps.length/\(sZ (ps.drop i) i).length<=hg/\hg<=N/\arr.length=N/\akE (ps.drop i) i hg arr=(high,arr0)/\aZ w' w1.heap.size (fe .u8 (m3 arr))/\aN w w' bJ/\aZ w' w.heap.size (Value.cells (.agg #[.int .i64 log,.slice a ps.length c])).toList) ps.length
  ⟨0,N,_,rfl,rfl,by omega,by rw[aLE];omega,by omega,by simp,by rw[aLE];exact ht,o2,x02,ob2⟩ ?_
 rintro m t w3 ⟨i,hg,arr,rfl,rfl,hi,hng,hgN,harr,htop,o3,x3,ob3⟩
 by_cases hlt:i<ps.length
 .have d1:decide ((i:Int)<(ps.length:Int))=true:=by simp;omega
  obtain⟨b',off',c',e,_,hcell⟩:=(hs.ext x3 (aU _)).openI (by omega)
  cases e
  have g1:=hcell i hlt
  have hd:ps.drop i=ps[i]::ps.drop (i+1):=aL8 hlt
  rw[hd,sZ]at hng
  rw[hd,akE]at htop
  unfold Dd JG JF
  by_cases hp:ps[i]= -1
  .have d2:(ps[i]== -1)=true:=by simpa using hp
   rw[if_pos hp]at hng htop
   simp only[aLS]at hng
   have e1:(hg:Int)-1=((hg-1:Nat):Int):=by omega
   simp(disch:=omega)only[SV,d1,g1,d2,e1]
   refine ZH o3 rfl (by rw[ES];simp[m3];omega) λw4 o4 x4 s4=> ?_
   rw[auB (by omega)]at o4
   exact⟨ps.length-(i+1),by omega,i+1,hg-1,_,rfl,rfl,by omega,by omega,by omega,by simp[harr],htop,o4,x3.new x4 hw1,ob3.ext x4 (by omega)⟩
  .have d2:(ps[i]== -1)=false:=by simpa using hp
   rw[if_neg hp]at hng htop
   simp(disch:=omega)only[SV,d1,g1,d2]
   exact⟨ps.length-(i+1),by omega,i+1,hg,arr,rfl,rfl,by omega,by omega,by omega,harr,htop,o3,x3,ob3⟩
 .have d1:decide ((i:Int)<(ps.length:Int))=false:=by simp;omega
  rw[aMI (by omega),akE]at htop
  obtain⟨rfl,rfl⟩:hg=high/\arr=arr0:=by simpa using htop
  have c1:=ob3.cell (off:=1)
  simp only[Value.cells,aLu,aLw]at c1
  unfold Dd JG JE S6 JD JC S5 Dc
  simp(disch:=omega)only[SV,d1,c1]
  clear d1 hlt hi hng htop
  have hbig:aZ w3 w1.heap.size (fe .u8 (m3 arr)):=o3
  refine aX.rule (λm t w'=>∃(s j:Nat) (ar:List Int),m=ps.length-s/\t=(.int .i64 (pos N j:Nat),.int .i64 s)/\s<=ps.length/\ar.length=N/\place N hg (rH (ps.drop s) s) (pos N j) ar=place N hg (rH ps 0) 0 arr/\(rH (ps.drop s) s).length<=hg/\aZ w' w1.heap.size (fe .u8 (m3 ar))/\aN w w' bJ) ps.length
   ⟨0,0,arr,rfl,by rw[ajJ]<;>rfl,by omega,harr,by rw[ajJ,aLE],by rw[aLE,hhigh];exact aLA _,o3,x3⟩ ?_
  rintro m t w4 ⟨s,j,ar,rfl,rfl,hs4,har,hpl,hrl,o4,x4⟩
  by_cases hlt:s<ps.length
  .have d1:decide ((s:Int)<(ps.length:Int))=true:=by simp;omega
   obtain⟨b',off',c',e,_,hcell⟩:=(hs.ext x4 (aU _)).openI (by omega)
   cases e
   have g1:=hcell s hlt
   obtain⟨q,hq⟩:∃q,q=ps[s].toNat:=⟨_,rfl⟩
   have emax:(if(0:Int)>ps[s]then(0:Int)else ps[s])=(q:Int):=by rw[hq];split<;>omega
   rw[aCt hlt,<-hq]at hpl hrl
   have hqN:q<=N:=by simp at hrl;omega
   unfold Db JB JA Jz S3 Jy S1
   simp(disch:=omega)only[SV,d1,g1,emax]
   unfold Da
   refine aX.rule (λm t w'=>∃(k j:Nat) (ar:List Int),m=q-k/\t=(.int .i64 (pos N j:Nat),.int .i64 k)/\k<=q/\ar.length=N/\place N hg (List.replicate (q-k) s++rH (ps.drop (s+1)) (s+1)) (pos N j) ar=place N hg (rH ps 0) 0 arr/\aZ w' w1.heap.size (fe .u8 (m3 ar))/\aN w w' bJ) q
    ⟨0,j,ar,rfl,rfl,by omega,har,hpl,o4,x4⟩ ?_
   rintro m t w5 ⟨k,j5,ar5,rfl,rfl,hk,har5,hpl5,o5,x5⟩
   by_cases hkq:k<q
   .have d2:decide ((k:Int)<(q:Int))=true:=by simp;omega
    have hp:=ayY (n:=N) (by omega) j5
    have hhg:0<hg:=by simp at hrl;omega
    unfold C9 Jx Jw MB V9
    simp(disch:=omega)only[SV,d2]
    refine ZH o5 rfl (by rw[ES];simp[m3];omega) λw6 o6 x6 s6=> ?_
    rw[auB (by omega)]at o6
    unfold vN
    rw[show q-k=(q-(k+1))+1 from by omega,aMw,aMo,ayV]at hpl5
    obtain⟨d,_,hd2,hd3⟩:=anQ (n:=N) (high:=hg) (by omega) hhg (j5+1)
    have hsk:acR N hg N (adv N (pos N j5))=pos N (j5+1+d):=by rw[UC];exact hd3
    refine aIJ (w0:=w) (by omega) hN2 hhg hgN (x5.new x6 hw1) ⟨j5+1+d,hsk, ?_⟩
    rw[hsk]at hpl5
    unfold Mz
    simp(disch:=omega)only[SV]
    exact⟨q-(k+1),by omega,k+1,j5+1+d,_,rfl,rfl,by omega,by simp[har5],hpl5,o6,x5.new x6 hw1⟩
   .have d2:decide ((k:Int)<(q:Int))=false:=by simp;omega
    rw[show q-k=0 from by omega,List.replicate_zero,aL9]at hpl5
    unfold C9 Jx My
    simp(disch:=omega)only[SV,d2]
    exact⟨ps.length-(s+1),by omega,s+1,j5,ar5,rfl,rfl,by omega,har5,hpl5,by simp at hrl;omega,o5,x5⟩
  .have d1:decide ((s:Int)<(ps.length:Int))=false:=by simp;omega
   rw[aMI (by omega),rH,place]at hpl
   unfold Db JB Mx
   simp(disch:=omega)only[SV,d1]
   exact⟨_,rfl,hw1,by rw[<-hpl];exact o4,x4⟩
def Es(log:Nat)(ps S:List Int)(i:Nat):List T3:=(List.range (2^log)).map λj=>if j<i then Jo log ps S j else(S.getD j 0,0,0)
def nxt(ps S:List Int)(i:Nat):List Int:=(List.range ps.length).map λs=>bW (ps.getD s 0)+((S.take i).count (s:Int):Nat)
theorem aFL{log:Nat}{ps S:List Int}(h:S.length=2^log):Es log ps S 0=m3 S:=by
 unfold Es m3
 apply aMU
 .simp [h]
 .intro i h1 h2
  simp only[aLv,aNQ]at h1
  simp only[aMp,aMR,Nat.not_lt_zero,if_false,aLz]
  rw[aLt (by omega)]<;>rfl
theorem aHE(log:Nat)(ps:List Int):Es log ps (dF 0 log ps) (2^log)=mJ log ps:=by
 unfold Es mJ
 refine aME λj hj=> ?_
 rw[if_pos (aMs.1 hj)]
theorem Uz(log:Nat)(ps S:List Int)(i:Nat):(Es log ps S i).length=2^log:=by simp[Es]
theorem aG9 {log:Nat}{ps S:List Int}{i:Nat}(h:i<2^log):(Es log ps S i)[i]'(by rw[Uz];exact h)=(S.getD i 0,0,0):=by
 unfold Es;simp
theorem aHF{log:Nat}{ps S:List Int}{i:Nat}(_:i<2^log):(Es log ps S i).set i (Jo log ps S i)=Es log ps S (i+1):=by
 unfold Es
 apply aMU
 .simp
 .intro j h1 h2
  rw[aND]
  simp only[aMp,aMR]
  by_cases hij:i=j
  .subst hij;simp
  .rw [if_neg hij]
   by_cases hj:j<i
   .rw [if_pos hj,if_pos (by omega)]
   .rw [if_neg hj,if_neg (by omega)]
theorem Xt(ps S:List Int)(i:Nat):(nxt ps S i).length=ps.length:=by simp[nxt]
theorem aEq(ps S:List Int):nxt ps S 0=ps.map bW:=by
 unfold nxt
 apply aMU
 .simp
 .intro i h1 h2
  simp only[aLv,aNQ]at h1
  simp only[aMp,aMR,aLK,List.count_nil,aLz]
  rw[aLt h1];simp
theorem aqA{ps S:List Int}{i s:Nat}(h:s<ps.length):(nxt ps S i)[s]'(by rw[Xt];exact h)=bW ps[s]+((S.take i).count (s:Int):Nat):=by
 unfold nxt
 simp only[aMp,aMR,aLz]
 rw[aLt h]<;>rfl
theorem aGv{ps S:List Int}{i s:Nat}(h:i<S.length)(hs:s<ps.length)(e:S[i]=(s:Int)):(nxt ps S i).set s (bW ps[s]+((S.take i).count (s:Int):Nat)+1)=nxt ps S (i+1):=by
 apply aMU
 .simp [nxt]
 .intro j h1 h2
  have hj:j<ps.length:=by simpa[nxt]using h2
  rw[aND,aqA hj,aqA hj,aMG,aLt h,aMO]
  simp only[Option.toList,e,aNy]
  by_cases hij:s=j
  .subst hij;simp;omega
  .have:((s:Int)==(j:Int))=false:=by simp;omega
   rw[if_neg hij,this];simp
theorem aGS{k b:Nat}(hb:b<=64)(h:k*2^b<=9223372036854775807):IntKind.i64.wrap ((k:Int)*2^(min b IntKind.i64.bits))=((k*2^b:Nat):Int):=by
 have e:min b IntKind.i64.bits=b:=by simp only[IntKind.bits];omega
 rw[e]
 have:(k:Int)*2^b=((k*2^b:Nat):Int):=by simp
 rw[this]
 exact cX (by omega) (by omega)
section
variable{log:Nat}{ps S:List Int}{w0 w1:aOm}{p1 p2 p4 b nb N:Nat}{sv:aOn}
theorem axF(hm:WS log ps)(L:Lay log ps S)(hN:2^log=N){i:Nat}(hlt:i<N){w3:aOm}
 (on3:aZ w3 nb ((nxt ps S i).map (Value.int .i64))) (ob3:aZ w3 b (fe .u8 (Es log ps S i)))
 (o13:aZ w3 p1 [.int .i64 log,sv]) (o43:aZ w3 p4 [.int .i64 log,.slice (some ⟨b,0,none⟩) N N])
 (hne:p1≠b/\p4≠b/\nb≠b/\p1≠nb/\p4≠nb) {t2:aOn} {kn:aOn->aOn->aOn->aOn->aOn->aOn->aOm->Prop}
 (hk:∀w',aZ w' nb ((nxt ps S (i+1)).map (Value.int .i64))->aZ w' b (fe .u8 (Es log ps S (i+1)))->aN w3 w' (λy=>y=nb∨y=b)→
  kn (.pointer (some ⟨p1,0,none⟩)) t2 (.pointer (some ⟨p4,0,none⟩)) (.slice (some ⟨nb,0,none⟩) ps.length ps.length) (.int .i64 N) (.int .i64 ((i+1:Nat):Int)) w'):
 IC kn (.pointer (some ⟨p1,0,none⟩)) t2 (.pointer (some ⟨p4,0,none⟩)) (.slice (some ⟨nb,0,none⟩) ps.length ps.length) (.int .i64 N) (.int .i64 i) w3:=by
 have h5:=hm.log5
 have h15:=hm.log15
 have hlen:=hm.len256
 have hN2:2^log<=2^15:=aLG (by omega) h15
 have hSl:S.length=2^log:=L.len
 have c40:=o43.cell (off:=0)
 have c41:=o43.cell (off:=1)
 have c10:=o13.cell (off:=0)
 simp only[aLu,aLw]at c40 c41 c10
 have hltN:i<2^log:=by omega
 obtain⟨s,hsl,hsS,hp1,hp2,hk',hcnt⟩:=abK hm L hltN
 obtain⟨k,hkk⟩:∃k,k=kAt ps S i:=⟨_,rfl⟩
 rw[<-hkk]at hk'
 have hk2:k<2^(log+1):=by rw[aMe];omega
 obtain⟨eb1,eb2,eb3,eb4⟩:=aoY (log:=log) (k:=k) (by omega) hk2
 have hel:i<(Es log ps S i).length:=by rw[Uz];exact hltN
 obtain⟨f0,f1,f2⟩:=ahT .u8 (Es log ps S i) i hel
 rw[aG9 hltN]at f0
 simp only at f0
 rw[hsS]at f0
 have g0:=ob3.cell (off:=i*3)
 rw[f0]at g0
 have hnx:((nxt ps S i).map (Value.int .i64))[s]?=some (.int .i64 k):=by
  rw[aLR,aLt (by rw[Xt];exact hsl),aqA hsl,hk']
  simp;omega
 have gn:=on3.cell (off:=s)
 rw[hnx]at gn
 have hkb:k<131072:=by
  have:2^(log+1)<=2^16:=aLG (by omega) (by omega)
  omega
 have hpn:=mX (hm.low _ (aLT hsl))
 have hSi:S[i]'(by omega)=(s:Int):=by rw[<-hsS,aLz,aLt (by omega)]<;>rfl
 have hns:=aGv (ps:=ps) (S:=S) (i:=i) (s:=s) (by omega) hsl hSi
 have hkv:bW ps[s]+((S.take i).count (s:Int):Nat)+1=(k:Int)+1:=by rw[hk'];omega
 rw[hkv]at hns
 have hent:Jo log ps S i=QF log (s:Int) k:=by unfold Jo;rw[hsS,<-hkk]
 have hes:=aHF (log:=log) (ps:=ps) (S:=S) (i:=i) hltN
 rw[hent]at hes
 have hE0:(Es log ps S i)[i]'hel=((s:Int),0,0):=by rw[aG9 hltN,hsS]
 clear hkk hcnt
 unfold IC PG YB
 simp(disch:=omega)only[SV,c41,g0,gn]
 refine rF on3 rfl (by simp[Xt];omega) λw4 on4 x4 s4=> ?_
 rw[<-aM5,hns]at on4
 unfold PF YA
 have o14:=bV (o13.ext x4 (by omega))
 have o44:=o43.ext x4 (by omega)
 have ob4:=ob3.ext x4 (by omega)
 have c10:=o14.cell (off:=0)
 simp only[aLu]at c10
 simp(disch:=omega)only[SV,c10]
 refine(aEi k (by omega) _).mono ?_
 rintro r w5 ⟨rfl,rfl⟩
 obtain⟨nbits,hnbits⟩:∃x,x=log+1-bl k:=⟨_,rfl⟩
 have e2:(log:Int)-(bl k:Int)+1=(nbits:Int):=by omega
 have e3:IntKind.i64.wrap ((log:Int)-(bl k:Int))=(log:Int)-(bl k:Int):=cX (by omega) (by omega)
 simp(disch:=omega)only[SV,c10,e3,e2]
 have ob4:=bV ob4
 refine rF ob4 rfl (by rw[ES,Uz];omega) λw5 ob5 x5 s5=> ?_
 rw[(aoZ .u8 (Es log ps S i) i hel _).2.1,hE0]at ob5
 unfold PE
 have o45:=bV ((bV o44).ext x5 (by omega))
 have ob5:=bV ob5
 have on5:=bV ((bV on4).ext x5 (by omega))
 have c41:=o45.cell (off:=1)
 simp only[aLu,aLw]at c41
 have hel5:i<((Es log ps S i).set i ((s:Int),(nbits:Int),0)).length:=by simpa using hel
 obtain⟨-,f1,-⟩:=ahT .u8 _ i hel5
 simp only[aOf]at f1
 have g1:=ob5.cell (off:=i*3+1)
 rw[f1]at g1
 have hnb2:k*2^nbits<=2^16:=by
  rw[hnbits]
  have:2^(log+1)<=2^16:=aLG (by omega) (by omega)
  have:=aL1 (2^(log+1-bl k)) (show k<=k+1 by omega)
  omega
 have e4:=aGS (k:=k) (b:=nbits) (by omega) (by omega)
 have e5:(((k*2^nbits:Nat):Int)-(N:Int))=(QF log (s:Int) k).2.2:=by
  unfold QF
  simp only
  rw[<-hnbits,<-hN]
  simp
 have e6:IntKind.i64.wrap (((k*2^nbits:Nat):Int)-(N:Int))=((k*2^nbits:Nat):Int)-(N:Int):=cX (by omega) (by omega)
 rw[e5]at e6
 have e7:(QF log (s:Int) k)=((s:Int),(nbits:Int),(QF log (s:Int) k).2.2):=by unfold QF;rw[hnbits]
 generalize hq:k*2^nbits=q at*
 generalize hbase:(QF log (s:Int) k).2.2=base at*
 simp(disch:=omega)only[SV,c41,g1,e4,e5,e6]
 refine rF ob5 rfl (by rw[ES];simp[Uz];omega) λw6 ob6 x6 s6=> ?_
 rw[(aoZ .u8 _ i hel5 _).2.2]at ob6
 simp only[aOf,List.set_set]at ob6
 rw[<-e7,hes]at ob6
 have xx:aN w3 w6 (λy=>y=nb∨y=b):=
  ((((x4.mono λ_ _ h=> .inl h:aN w3 w4 (λy=>y=nb∨y=b)).seq (aN.dr _ _)).seq (x5.mono λ_ _ h=> .inr h)).seq (aN.dr _ _)).seq (x6.mono λ_ _ h=> .inr h)
 unfold PD
 simp(disch:=omega)only[SV]
 exact hk _ (on5.ext x6 (by omega)) ob6 xx
theorem aBx(hm:WS log ps)(L:Lay log ps S)(hN:2^log=N){w3:aOm}
 (on3:aZ w3 nb ((nxt ps S 0).map (Value.int .i64))) (ob3:aZ w3 b (fe .u8 (m3 S)))
 (o13:aZ w3 p1 [.int .i64 log,sv]) (o23:aZ w3 p2 [.int .i64 0,.slice none 0 0]) (o43:aZ w3 p4 [.int .i64 log,.slice (some ⟨b,0,none⟩) N N])
 (hne:p1≠b/\p4≠b/\nb≠b/\p1≠nb/\p4≠nb/\p2≠b/\p2≠nb) (hlo:w0.heap.size<=p2/\w0.heap.size<=b/\w0.heap.size<=nb) (hx:aN w0 w3 bJ) {R:aOn->aOm->Prop}
 (hR:∀w',aZ w' b (fe .u8 (Es log ps S N))->aN w0 w' bJ->R (.tuple #[.agg #[.int .i64 log,.slice (some ⟨b,0,none⟩) N N],.int .i64 0]) w'):
 F5 R (.pointer (some ⟨p1,0,none⟩)) (.pointer (some ⟨p2,0,none⟩)) (.pointer (some ⟨p4,0,none⟩)) (.slice (some ⟨nb,0,none⟩) ps.length ps.length) w3:=by
 have hN2:2^log<=2^15:=aLG (by omega) hm.log15
 have c41:=o43.cell (off:=1)
 simp only[aLu,aLw]at c41
 unfold F5 Mu V4 F4
 simp(disch:=omega)only[SV,c41]
 have ob0:aZ w3 b (fe .u8 (Es log ps S 0)):=by rw[aFL L.len];exact ob3
 refine aX.rule (λm t w'=>∃i:Nat,m=N-i/\t= .int .i64 i/\i<=N/\aZ w' nb ((nxt ps S i).map (Value.int .i64))/\aZ w' b (fe .u8 (Es log ps S i))/\aN w3 w' (λy=>y=nb∨y=b)) N
  ⟨0,rfl,rfl,by omega,on3,ob0,aN.refl _ _⟩ ?_
 rintro m t w4 ⟨i,rfl,rfl,hi,on4,ob4,x4⟩
 unfold Mt V3
 have o44:=o43.ext x4 (by omega)
 have o24:=o23.ext x4 (by omega)
 by_cases hlt:i<N
 .have d1:decide ((i:Int)<(N:Int))=true:=by simp only[decide_eq_true_eq];omega
  simp(disch:=omega)only[SV,d1]
  refine axF hm L hN hlt on4 ob4 (o13.ext x4 (by omega)) o44 ⟨hne.1,hne.2.1,hne.2.2.1,hne.2.2.2.1,hne.2.2.2.2.1⟩ λw5 on5 ob5 x5=> ?_
  exact⟨N-(i+1),by omega,i+1,rfl,rfl,by omega,on5,ob5,x4.trans x5 (λ_ _ h=>h)⟩
 .have d1:decide ((i:Int)<(N:Int))=false:=by simp only[decide_eq_false_iff_not];omega
  have:i=N:=by omega
  subst this
  have l4:=vO (off:=0) o44 (by simp)
  simp only[aLE,aLC,aLK]at l4
  simp(disch:=omega)only[SV,d1]
  unfold PC
  simp(disch:=omega)only[SV,l4]
  refine fX o24 rfl (by simp[one]) (by simp) λw5 o25 x5 s5=> ?_
  refine Ga o25 (by simp[aT]) ?_
  simp only[aT,aLy,aLB,aLE,aLC,aLK]
  exact hR _ (ob4.ext x5 (by omega)) ((hx.trans x4 (λy hy hh=>by omega)).new x5 hlo.1)
theorem axE(hm:WS log ps)(L:Lay log ps S)(hN:2^log=N){w:aOm}(hs:Sl w0 sv (ps.map (Value.int .i64)))
 (o1:aZ w p1 [.int .i64 log,sv]) (o2:aZ w p2 [.int .i64 0,.slice none 0 0]) (o4:aZ w p4 [.int .i64 log,.slice (some ⟨b,0,none⟩) N N]) (ob:aZ w b (fe .u8 (m3 S)))
 (hlo:w0.heap.size<=p2/\w0.heap.size<=b) (hne:p1≠b/\p2≠b/\p4≠b) (hx:aN w0 w bJ) {R:aOn->aOm->Prop}
 (hR:∀w',aZ w' b (fe .u8 (Es log ps S N))->aN w0 w' bJ->R (.tuple #[.agg #[.int .i64 log,.slice (some ⟨b,0,none⟩) N N],.int .i64 0]) w'):
 A6 R (.pointer (some ⟨p1,0,none⟩)) (.pointer (some ⟨p2,0,none⟩)) (.pointer (some ⟨p4,0,none⟩)) w:=by
 have hlen:=hm.len256
 have hN2:2^log<=2^15:=aLG (by omega) hm.log15
 obtain⟨a,c,rfl,hc⟩:=hs.lenI
 have c1:=o1.cell (off:=1)
 simp only[aLu,aLw]at c1
 unfold A6 V6
 simp(disch:=omega)only[SV,c1]
 refine Om (by omega) (by omega) λw1 on x1 s1=> ?_
 rw[aLx]at on⊢
 have l1:=o1.lt
 have l2:=o2.lt
 have l4:=o4.lt
 have lb:=ob.lt
 have o1:=o1.ext x1 (λh=>h)
 have o2:=o2.ext x1 (λh=>h)
 have o4:=o4.ext x1 (λh=>h)
 have ob:=ob.ext x1 (λh=>h)
 have x01:=hx.seq x1
 have c1:=o1.cell (off:=1)
 simp only[aLu,aLw]at c1
 have hwn:w0.heap.size<=w.heap.size:=hx.size
 generalize w.heap.size=nb at*
 unfold Mw Mv V5 F7
 simp(disch:=omega)only[SV,c1]
 refine aX.rule (λm t w'=>∃i:Nat,m=ps.length-i/\t= .int .i64 i/\i<=ps.length/\aZ w' nb (((ps.take i).map bW++List.replicate (ps.length-i) 0).map (Value.int .i64))/\aN w0 w' bJ/\aN w1 w' (λy=>y=nb)) ps.length
  ⟨0,rfl,rfl,by omega,by simpa using on,x01,aN.refl _ _⟩ ?_
 rintro m t w2 ⟨i,rfl,rfl,hi,on2,x2,y2⟩
 by_cases hlt:i<ps.length
 .have d1:decide ((i:Int)<(ps.length:Int))=true:=by simp;omega
  obtain⟨b',off',c',e,_,hcell⟩:=(hs.ext x2 (aU _)).openI (by omega)
  cases e
  have g1:=hcell i hlt
  have hp:=hm.low _ (aLT hlt)
  have hple:=Xu hm hlt
  have hpv:bW ps[i]=ps[i]∨ps[i]= -1:=by unfold bW;split<;>omega
  have hpn:=mX hp
  have emax:(if(0-ps[i])>ps[i]then(0-ps[i])else ps[i])=bW ps[i]:=by unfold bW;split<;>split<;>omega
  unfold F6
  simp(disch:=omega)only[SV,d1,g1,WA,emax]
  refine rF on2 rfl (by simp;omega) λw3 on3 x3 s3=> ?_
  refine⟨ps.length-(i+1),by omega,i+1,rfl,rfl,by omega, ?_,x2.new x3 hwn,y2.trans x3 (λ_ _ h=>h)⟩
  rw[<-aM5]at on3
  have e:((ps.take i).map bW++List.replicate (ps.length-i) 0).set i (bW ps[i])=(ps.take (i+1)).map bW++List.replicate (ps.length-(i+1)) 0:=by
   rw[show ps.length-i=(ps.length-(i+1))+1 from by omega,aMw,aMt _ _ (by rw[aLv,aLD];omega)]
   have:i-((ps.take i).map bW).length=0:=by rw[aLv,aLD];omega
   rw[this,aLy,aMG,aLt hlt,aL2,aLJ]
   rfl
  rw[e]at on3
  exact on3
 .have d1:decide ((i:Int)<(ps.length:Int))=false:=by simp;omega
  have:i=ps.length:=by omega
  subst this
  have on2:aZ w2 nb ((nxt ps S 0).map (Value.int .i64)):=by rw[aEq];simpa using on2
  unfold F6
  simp(disch:=omega)only[SV,d1]
  exact aBx hm L hN on2 (ob.ext y2 (by omega)) (o1.ext y2 (by omega)) (o2.ext y2 (by omega)) (o4.ext y2 (by omega)) (by omega) (by omega) x2 hR
def Tbl(w:aOm)(base b log:Nat)(L:List T3)(v:aOn):Prop:=v= .agg #[.int .i64 log,.slice (some ⟨b,0,none⟩) L.length L.length]/\base<=b/\aZ w b (fe .u8 L)
theorem aFV{log most:Nat}{ps:List Int}(h:WS log ps)(hl:log<=most):aFU log ps most=0:=by
 unfold aFU;rw[h.b];simp;omega
theorem aAt{w:aOm}(hm:WS log ps)(hs:Sl w sv (ps.map (Value.int .i64))):
 aK pg B6 #[.agg #[.int .i64 log,sv]] w (λr w'=>∃b v,r= .tuple #[v,.int .i64 0]/\Tbl w' w.heap.size b log (mJ log ps) v/\aN w w' bJ):=by
 refine ahX ?_
 have hlen:=hm.len256
 unfold amS V8 V7
 refine fC λw1 o1 x1 s1=> ?_
 refine pU λw2 o2 x2 s2=> ?_
 have o1:=o1.ext x2 (λh=>h)
 have l1:=fL (off:=0) o1 (by simp[Value.cells])
 simp only[Value.cells,aLE,aLC,aLK]at l1
 simp(disch:=omega)only[SV,l1]
 refine(aFT (most:=15) ((hs.ext x1 (aU _)).ext x2 (aU _)) (by omega)).mono ?_
 rintro r w3 ⟨rfl,x3⟩
 have hce:=aFV (most:=15) hm hm.log15
 rw[show(((15:Nat):Int))=15 from rfl]at hce
 rw[hce]
 have e0:((0:Int) !=0)=false:=rfl
 have x03:aN w w3 bJ:=(x1.seq x2).seq x3
 have o1:=bV (o1.ext x3 (λh=>h))
 have o2:=bV (o2.ext x3 (λh=>h))
 have c0:=o1.cell (off:=0)
 simp only[Value.cells,aLu]at c0
 have l1:=fL (off:=0) o1 (by simp[Value.cells])
 simp only[Value.cells,aLE,aLC,aLK]at l1
 have hz2:=o2.lt
 have fin:∀{b p4:Nat} {w':aOm},aZ w' w.heap.size [.int .i64 log,sv]->aZ w' w1.heap.size [.int .i64 0,.slice none 0 0]->aZ w' p4 [.int .i64 log,.slice (some ⟨b,0,none⟩) (2^log) (2^log)]->aZ w' b (fe .u8 (m3 (dF 0 log ps)))->w2.heap.size<=b->p4≠b->aN w w' bJ→
     A6 (λr w'=>∃b v,r= .tuple #[v,.int .i64 0]/\Tbl w' w.heap.size b log (mJ log ps) v/\aN w w' bJ) (.pointer (some ⟨w.heap.size,0,none⟩)) (.pointer (some ⟨w1.heap.size,0,none⟩)) (.pointer (some ⟨p4,0,none⟩)) w':=by
  intro b p4 w' h1 h2 h3 h4 h5 h6 h7
  refine axE hm (zA hm 0) rfl hs h1 h2 h3 h4 (by omega) (by omega) h7 λw'' ho hx=> ?_
  rw[aHE]at ho
  exact⟨b,_,rfl,⟨by rw[gT],by omega,ho⟩,hx⟩
 simp(disch:=omega)only[SV,e0]
 have hdr:(dr w3).heap.size=w3.heap.size:=rfl
 have h23:=x3.size
 refine Nb ?_ ?_
 .simp (disch:=omega)only[SV,c0,l1]
  refine(avN hm ((hs.ext x03 (aU _)).dr)).mono ?_
  rintro r w4 ⟨b,rfl,hb,ob,x4⟩
  have o1:=o1.ext x4 (λh=>h)
  have c0:=o1.cell (off:=0)
  simp only[Value.cells,aLu]at c0
  simp(disch:=omega)only[SV,c0,l1]
  refine pU λw5 o5 x5 s5=> ?_
  have o1:=o1.ext x5 (λh=>h)
  have c0:=o1.cell (off:=0)
  simp only[Value.cells,aLu]at c0
  simp(disch:=omega)only[SV,c0]
  have hlb:=ob.lt
  refine fX o5 rfl (by simp[one]) (by simp) λw6 o6 x6 s6=> ?_
  have h45:=x4.size
  refine fin (o1.ext x6 (by omega)) (((o2.ext x4 (λh=>h)).ext x5 (λh=>h)).ext x6 (by omega)) o6 ((ob.ext x5 (λh=>h)).ext x6 (by omega)) (by omega) (by omega) ?_
  exact(((x03.seq (aN.dr _ _)).seq x4).seq x5).new x6 (by omega)
 .simp (disch:=omega)only[SV,c0,l1]
  refine pU λw4 o4 x4 s4=> ?_
  have o1:=o1.ext x4 (λh=>h)
  have c0:=o1.cell (off:=0)
  simp only[Value.cells,aLu]at c0
  have l1:=fL (off:=0) o1 (by simp[Value.cells])
  simp only[Value.cells,aLE,aLC,aLK]at l1
  simp(disch:=omega)only[SV,c0,l1]
  refine(avN hm ((((hs.ext x03 (aU _)).dr).ext x4 (aU _)))).mono ?_
  rintro r w5 ⟨b,rfl,hb,ob,x5⟩
  have o1:=o1.ext x5 (λh=>h)
  have c0:=o1.cell (off:=0)
  simp only[Value.cells,aLu]at c0
  simp(disch:=omega)only[SV,c0]
  refine fX (o4.ext x5 (λh=>h)) rfl (by simp[one]) (by simp) λw6 o6 x6 s6=> ?_
  refine fin (o1.ext x6 (by omega)) (((o2.ext x4 (λh=>h)).ext x5 (λh=>h)).ext x6 (by omega)) o6 (ob.ext x6 (by omega)) (by omega) (by omega) ?_
  exact(((x03.seq (aN.dr _ _)).seq x4).seq x5).new x6 (by omega)
end
theorem Tbl.ext {w w':aOm}{base b log:Nat}{L:List T3}{v:aOn}{M:Nat->Prop}(h:Tbl w base b log L v)(hx:aN w w' M)(hM:¬M b):Tbl w' base b log L v:=⟨h.1,h.2.1,h.2.2.ext hx hM⟩
theorem aAG{k:IntKind}{L:List T3}{i:Nat}(h:i<L.length):((fe k L).drop (i*3)).take 3=[.int k L[i].1,.int .i64 L[i].2.1,.int .i64 L[i].2.2]:=by
 obtain⟨h0,h1,h2⟩:=ahT k L i h
 apply aMP
 intro j
 match j with
 |0=>rw[aLX (by omega),aMA];exact h0
 |1=>rw[aLX (by omega),aMA];exact h1
 |2=>rw[aLX (by omega),aMA];exact h2
 |j+3=>rw[aLH (by rw[aLD];omega),aLH (by simp)]
theorem WZ(log:Nat)(ps:List Int){i:Nat}(h:i<2^log):((mJ log ps)[i]'(by rw[gT];exact h)).1=(dF 0 log ps).getD i 0:=by
 unfold mJ Jo QF;simp
theorem ahE{log:Nat}{ps:List Int}(hm:WS log ps){s:Nat}(hs:s<ps.length)(hp:ps[s]≠0):∃i,∃h:i<(mJ log ps).length,((mJ log ps)[i]'h).1=(s:Int):=by
 have L:=zA hm 0
 have hc:=L.cnt s hs
 have hl:=hm.low _ (aLT hs)
 have hpos:0<(dF 0 log ps).count (s:Int):=by rw[hc];unfold bW;split<;>omega
 obtain⟨i,hi,e⟩:=aLY (List.count_pos_iff.1 hpos)
 have hi2:i<2^log:=by rw[<-L.len];exact hi
 refine⟨i,by rw[gT];exact hi2, ?_⟩
 rw[WZ log ps hi2,aLz,aLt hi,e]<;>rfl
theorem aGe{k:IntKind}{L:List T3}{i:Nat}{e:T3}(h:L[i]?=some e):(fe k L)[i*3]?=some (.int k e.1)/\(fe k L)[i*3+1]?=some (.int .i64 e.2.1)/\(fe k L)[i*3+2]?=some (.int .i64 e.2.2):=by
 have hi:i<L.length:=by
  rcases aLL i L.length with h'|h'
  .exact h'
  .rw [aLH h']at h;cases h
 rw[aLt hi]at h
 have:=ahT k L i hi
 rw[aLW h]at this
 exact this
def Low(L:List T3):Prop:=∀e∈L,∃n:Nat,e.2.1=(n:Int)/\n<=20/\0<=e.2.2/\e.2.2<=100000
theorem axD{log:Nat}{ps:List Int}(hm:WS log ps):Low (mJ log ps):=by
 intro e he
 obtain⟨i,hi',rfl⟩:=aLY he
 have hi:=hi'
 rw[gT]at hi
 have hat:=aaJ (ps:=ps) hi
 rw[aLt hi']at hat
 rw[aLW hat]
 have L:=zA hm 0
 obtain⟨s,hs,hg,hp1,hp2,hk,hc⟩:=abK hm L hi
 have hk2:kAt ps (dF 0 log ps) i<2^(log+1):=by rw[aMe];omega
 obtain⟨e1,e2,e3,e4⟩:=aoY (log:=log) (k:=kAt ps (dF 0 log ps) i) (by omega) hk2
 have h15:=hm.log15
 have hb:2^(log+1)<=2^16:=aLG (by omega) (by omega)
 have hpow:((2^log:Nat):Int)=(2:Int)^log:=by simp
 unfold Jo QF
 rw[<-hpow]
 rw[aN5]at e2
 have hA:=aMu (aMu (Nat.le_add_right _ _) e2) hb
 generalize hX:kAt ps (dF 0 log ps) i*2^(log+1-bl (kAt ps (dF 0 log ps) i))=X at*
 refine⟨_,rfl,by omega, ?_, ?_⟩
 .show (0:Int)<=(X:Int)-((2^log:Nat):Int)
  omega
 .show (X:Int)-((2^log:Nat):Int)<=100000
  omega
theorem aEx(s:Int)(w:aOm):aK pg IN #[.int .u8 s] w (λr w'=>∃b,Tbl w' w.heap.size b 0 [(s,0,0)] r/\aN w w' bJ):=by
 refine apF ?_
 unfold aAK ahZ
 refine pU λw1 o1 x1 s1=> ?_
 simp(disch:=omega)only[SV]
 refine aeQ (cells:= #[.int .u8 s,.int .i64 0,.int .i64 0]) (by decide) (by decide) (by kernel_rfl) λw2 o2 x2 s2=> ?_
 simp(disch:=omega)only[SV]
 have l1:=o1.lt
 refine fX (o1.ext x2 (λh=>h)) rfl (by simp[one]) (by simp) λw3 o3 x3 s3=> ?_
 refine Ga o3 (by simp[aT]) ?_
 simp only[aT,aLy,aLB,aLE,aLC,aLK]
 exact⟨w1.heap.size,⟨rfl,by omega,o2.ext x3 (by omega)⟩,(x1.seq x2).new x3 (aLA _)⟩
abbrev akT(w:aOm)(g:Nat)(zs:List Int):Prop:=∀i (h:i<zs.length),w.cell? ⟨g,i,none⟩=some (.int .i64 zs[i])
theorem akT.ext {w w':aOm}{g:Nat}{zs:List Int}{M:Nat->Prop}(h:akT w g zs)(x:aN w w' M)(hM:¬M g):akT w' g zs:=λi hi=>by
 have hc:=h i hi
 have hg:g<w.heap.size:=by
  rcases aLL g w.heap.size with h|h
  .exact h
  .unfold World.cell? at hc
   rw[aMH h]at hc
   cases hc
 rw[<-hc]
 unfold World.cell?
 rw[x.keep g hg hM]
theorem akT.ld {w:aOm}{g:Nat}{zs:List Int}(h:akT w g zs):∀j,j<(zs.map (Value.int .i64)).length->w.cell? ⟨g,0+j,none⟩=(zs.map (Value.int .i64))[j]?:=λj hj=>by
 rw[aLv]at hj
 rw[aLI,h j hj,aLR,aLt hj]<;>rfl
theorem Tb(zs:List Int)(i:Nat)(h:i<zs.length):zs.getD i 0=zs[i]:=by
 rw[aLz,aLt h]<;>rfl
theorem azO(xs cs:List aOn)(h:cs.length=xs.length):aT cs 0 xs=xs:=by
 have:=MU xs [] cs (by omega)
 rw[aL9,aMI (by omega),aMf,aL9]at this
 exact this
theorem agZ{w:aOm}{b n:Nat}{zs:List Int}(o:aZ w b (zs.map (Value.int .i64)))(h:zs.length=n):Sl w (.slice (some ⟨b,0,none⟩) n n) (zs.map (Value.int .i64)):=by
 refine⟨_,_,_,rfl,by rw[aLv,h],aLA _,λ_=>⟨_,_,rfl,λi hi=> ?_⟩⟩
 rw[o.cell,aLI]
theorem Km(zs:List Int)(n:Nat)(hz:zs.length=n)(cs:List aOn)(h:cs.length=n):aT cs 0 (zs.map (Value.int .i64))=zs.map (Value.int .i64):=azO _ cs (by rw[h,aLv,hz])
theorem Tj(zs:List Int):∀x∈(zs.map (Value.int .i64)).toArray.toList,one x=true:=λx hx=>by
 rw[aMX]at hx
 obtain⟨z,_,rfl⟩:=aL5.1 hx
 rfl
def zCL:List Int:=[1,1,1,1,2,2,3,3,4,6,7,8,9,10,11,12,13,14,15,16]
def zCM:List Int:=[1,1,1,1,2,2,3,3,4,4,5,7,8,9,10,11,12,13,14,15,16]
def zTL:List Int:=[4,3,2,2,2,2,2,2,2,2,2,2,2,1,1,1,2,2,2,2,2,2,2,2,2,3,2,1,1,1,1,1,-1,-1,-1,-1]
def zTO:List Int:=[1,1,1,1,1,1,2,2,2,1,1,1,1,1,1,1,1,1,1,1,1,1,1,1,-1,-1,-1,-1,-1]
def zTM:List Int:=[1,4,3,2,2,2,2,2,2,1,1,1,1,1,1,1,1,1,1,1,1,1,1,1,1,1,1,1,1,1,1,1,1,1,1,1,1,1,1,1,1,1,1,1,1,1,-1,-1,-1,-1,-1,-1,-1]
structure xZ(w:aOm):Prop where
 cl:akT w 3 zCL
 cm:akT w 4 zCM
 tl:akT w 0 zTL
 to:akT w 1 zTO
 tm:akT w 2 zTM
theorem xZ.ext {w w':aOm}(h:xZ w)(x:aN w w' bJ):xZ w':=
 ⟨h.cl.ext x (λh=>h),h.cm.ext x (λh=>h),h.tl.ext x (λh=>h),h.to.ext x (λh=>h),h.tm.ext x (λh=>h)⟩
def avG(a:Int):Int:=if a=0 then 16 else if a=2 then 32 else 0
def aIF(a:Int):Int:=if a=2 then 3 else 0
def alL(a:Int):List Int:=if a=0 then zCL else if a=2 then zCM else[]
def xH(a:Int):Int:=if a=0 then 35 else if a=1 then 31 else if a=2 then 52 else-1
theorem aEQ{a:Int}{w:aOm}(hg:xZ w):
 aK pg B5 #[.int .i64 a] w (λr w'=>∃v,r= .tuple #[.int .i64 (avG a),.int .u32 (aIF a),v]/\Sl w' v ((alL a).map (Value.int .i64))/\aN w w' bJ):=by
 refine ahM ?_
 unfold amK Ym avG aIF alL
 by_cases h0:a=0
 .subst h0
  have n1:((0:Int)==0)=true:=rfl
  have l1:=apQ (b:=3) (off:=0) (l:=zCL.map (Value.int .i64)) rfl hg.cl.ld
  simp(disch:=omega)only[aA,mD,n1,if_true,true_and,aF,l1,bD]
  refine arY λw2 o2 x2 s2=> ?_
  refine aqS o2 rfl (Tj _) (by simp) λw3 o3 x3 s3=> ?_
  have o3:aZ w3 w.heap.size (zCL.map (Value.int .i64)):=by
   rw[aMX,Km zCL 20 rfl]at o3
   .exact o3
   .rfl
  have x13:aN w w3 bJ:=x2.new x3 (by omega)
  have hsh:iD ⟨w.heap.size,0,none⟩ 20 0 1=⟨w.heap.size,0,none⟩:=oC (by decide)
  simp(disch:=omega)only[Hx,hsh,aF,true_and]
  exact⟨_,rfl,agZ (bV o3) rfl,x13.seq (aN.dr _ _)⟩
 .rw [if_neg h0,if_neg h0]
  have n1:(a==0)=false:=beq_eq_false_iff_ne.2 h0
  by_cases h2:a=2
  .subst h2
   have n2:((2:Int)==2)=true:=rfl
   have l1:=apR (b:=4) (off:=0) (l:=zCM.map (Value.int .i64)) rfl hg.cm.ld
   simp(disch:=omega)only[aA,mD,n1,if_true,true_and,n2,aF,bD,l1,aR]
   refine arZ λw2 o2 x2 s2=> ?_
   refine aqT o2 rfl (Tj _) (by simp) λw3 o3 x3 s3=> ?_
   have o3:aZ w3 w.heap.size (zCM.map (Value.int .i64)):=by
    rw[aMX,Km zCM 21 rfl]at o3
    .exact o3
    .rfl
   have x13:aN w w3 bJ:=x2.new x3 (by omega)
   have hsh:iD ⟨w.heap.size,0,none⟩ 21 0 1=⟨w.heap.size,0,none⟩:=oC (by decide)
   simp(disch:=omega)only[Hy,hsh,aF,true_and]
   exact⟨_,rfl,agZ (bV o3) rfl,x13.seq (aN.dr _ _)⟩
  .rw [if_neg h2,if_neg h2,if_neg h2]
   have n2:(a==2)=false:=beq_eq_false_iff_ne.2 h2
   simp(disch:=omega)only[aA,mD,n1,true_and,n2,aF,aR]
   exact⟨_,rfl,Sl.nil _,aN.refl _ _⟩
theorem ayE{a:Int}{w:aOm}(hg:xZ w):
 aK pg zB #[.int .i64 a] w (λr w'=>r= .int .i64 (xH a)/\aN w w' bJ):=by
 refine aeV ?_
 unfold ahJ VL
 by_cases h1:a=1
 .subst h1
  have n1:((1:Int)==1)=true:=rfl
  simp(disch:=omega)only[aA,mD,n1,aF,bD]
  exact⟨rfl,aN.refl _ _⟩
 have n1:(a==1)=false:=beq_eq_false_iff_ne.2 h1
 simp(disch:=omega)only[aA,mD,n1,aF,aR]
 refine(aEQ hg).mono ?_
 rintro r w1 ⟨v,rfl,hs,x1⟩
 obtain⟨av,cv,rfl,_⟩:=hs.lenI
 have e:avG a+((alL a).length:Int)-1=xH a/\ -10<=avG a/\avG a<=100/\(alL a).length<=100:=by
  unfold avG alL xH
  by_cases h0:a=0
  .subst h0;exact⟨rfl,by decide,by decide,by decide⟩
  .by_cases h2:a=2
   .subst h2;exact⟨rfl,by decide,by decide,by decide⟩
   .simp [h0,h1,h2]
 obtain⟨e1,e2,e3,e4⟩:=e
 generalize avG a=p at*
 generalize(alL a).length=q at*
 simp(disch:=omega)only[x30,x31,x32,aF,sW,gN,cX,A8,e1,true_and]
 exact x1
end Go.Proofs.YtoecppploooloaaGreatDoor
namespace Go.Pu
open Go Go.En
def Ak(k:Nat):Nat:=if k=0 then 16 else 32
def AV(k:Nat):Nat:=if k=2 then 3 else 0
theorem W0 {k:Nat}(h:k=0∨k=2):Ak k<kA k/\kA k<=53:=by rcases h with rfl|rfl<;>decide
theorem aoJ{k:Nat}(h:k=0∨k=2){c:Nat}(hc:c<Ak k):(wA k).getD c 0=AV k+c/\(lT k).getD c 0=0:=by
 have h0:∀c,c<32->c<Ak 0->(wA 0).getD c 0=AV 0+c/\(lT 0).getD c 0=0:=by decide+kernel
 have h2:∀c,c<32->c<Ak 2->(wA 2).getD c 0=AV 2+c/\(lT 2).getD c 0=0:=by decide+kernel
 have h32:Ak k<=32:=by rcases h with rfl|rfl<;>decide
 rcases h with rfl|rfl
 .exact h0 c (by omega) hc
 .exact h2 c (by omega) hc
theorem aJy{k:Nat}(h:k=0∨k=2):(wA k).getD (Ak k) 0=AV k+Ak k:=by rcases h with rfl|rfl<;>decide
theorem aFS{c:Nat}(hc:c<32):(wA 1).getD c 0=2^c/\(lT 1).getD c 0=c:=by
 have h0:∀c,c<32->(wA 1).getD c 0=2^c/\(lT 1).getD c 0=c:=by decide+kernel
 exact h0 c hc
def eS(k:Nat):Nat->Nat
 |0=>(wA k).getD (Ak k) 0
 |i+1=>eS k i+2^((lT k).getD (Ak k+i) 0)
theorem amM{k:Nat}(h:k<3):∀i,Ak k+i<kA k->eS k i=(wA k).getD (Ak k+i) 0
 |0,_=>rfl
 |i+1,hi=>by
  rw[eS,amM h i (by omega),<-aMM,amG h _ (by omega)]
theorem aJx{k:Nat}(h:k=0∨k=2){c:Nat}(hc:c<kA k):(wA k).getD c 0+2^(lT k).getD c 0<=131075:=by
 have h0:∀c,c<53->c<kA 0->(wA 0).getD c 0+2^(lT 0).getD c 0<=131075:=by decide+kernel
 have h2:∀c,c<53->c<kA 2->(wA 2).getD c 0+2^(lT 2).getD c 0<=131075:=by decide+kernel
 have:=(W0 h).2
 rcases h with rfl|rfl
 .exact h0 c (by omega) hc
 .exact h2 c (by omega) hc
theorem aJB{k:Nat}(h:k=0∨k=2):∀{i:Nat},Ak k+i<=kA k->eS k i<=131075
 |0,_=>by rcases h with rfl|rfl<;>decide
 |i+1,hi=>by
  rw[eS,amM (by omega) i (by omega)]
  exact aJx h (by omega)
theorem aHh{k:Nat}(h:k=0∨k=2){c:Nat}(hc:c<kA k):(lT k).getD c 0<=16:=by
 have h0:∀c,c<53->c<kA 0->(lT 0).getD c 0<=16:=by decide+kernel
 have h2:∀c,c<53->c<kA 2->(lT 2).getD c 0<=16:=by decide+kernel
 have:=(W0 h).2
 rcases h with rfl|rfl
 .exact h0 c (by omega) hc
 .exact h2 c (by omega) hc
theorem ayI{k v:Nat}(h:k=0∨k=2)(hv:v<AV k)(c:Nat):¬xX k v c:=by
 intro hc
 have h0:(wA k).getD 0 0=AV k:=(aoJ h (c:=0) (by unfold Ak;split<;>omega)).1
 rcases aMC c with rfl|h1
 .have:=hc.2.1;omega
 .have:=Nr (show k<3 by omega) h1 hc.1
  have:=aLZ ((lT k).getD 0 0)
  have:=hc.2.1;omega
theorem auI(c:Nat):¬xX 1 0 c:=by
 intro hc
 have h1:c<32:=hc.1
 have:=(aFS h1).1
 have:=aLZ c
 have:=hc.2.1
 omega
theorem auH{k v:Nat}(h:k=0∨k=2)(hv:eS k (kA k-Ak k)<=v)(c:Nat):¬xX k v c:=by
 intro hc
 have hp:=(W0 h).1
 have h1:=hc.1
 obtain⟨m,hm⟩:∃m,kA k-Ak k=m+1:=⟨kA k-Ak k-1,by omega⟩
 rw[hm,eS,amM (by omega) m (by omega),show Ak k+m=kA k-1 by omega]at hv
 rcases aLL c (kA k-1)with h2|h2
 .have:=Nr (show k<3 by omega) h2 (by omega)
  have:=aLZ ((lT k).getD (kA k-1) 0)
  have:=hc.2.2;omega
 .have:c=kA k-1:=by omega
  subst this
  have:=hc.2.2;omega
theorem aDE{v:Nat}(h0:0<v)(hv:v<4294967296):xX 1 v (bl v-1):=by
 have h1:=Pn (k:=v) (by omega)
 have h2:=Ya (k:=v) (by omega)
 have h3:=adH v
 have h4:bl v<=32:=vC (n:=32) hv
 have h5:=aFS (c:=bl v-1) (by omega)
 refine⟨show bl v-1<32 by omega,by rw[h5.1];exact h2, ?_⟩
 rw[h5.1,h5.2,<-Nat.two_mul,aMb,<-aMe,show(bl v-1).succ=bl v by omega]
 exact h3
theorem axJ{k v:Nat}(h:k=0∨k=2)(hl:AV k<=v)(hv:v-AV k<Ak k):xX k v (v-AV k):=by
 have hp:=aoJ h hv
 have:=(W0 h).1
 exact⟨by omega,by omega,by rw[hp.1,hp.2];omega⟩
theorem aBz{k v i:Nat}(h:k=0∨k=2)(hi:Ak k+i<kA k)(hl:eS k i<=v)(hv:v<eS k i+2^((lT k).getD (Ak k+i) 0)):xX k v (Ak k+i):=by
 rw[amM (by omega) i hi]at hl hv
 exact⟨hi,hl,hv⟩
end Go.Pu

/- Parts of the proof of EncodeBound: merged and given short names by a program of ours. -/
import Derived.Laws.Strings
import Derived.Deep.Matrix
import Derived.Test.YtoecppploooloaaGreatDoorZbD
set_option linter.unusedVariables false
set_option linter.unusedSimpArgs false
open Bool renaming false_eq_true → aLF
open Int renaming toNat_natCast → aLx, fdiv_eq_ediv_of_nonneg → aMh, tdiv_eq_ediv_of_nonneg → aNm
open List renaming getElem?_append_right → aL0, map_append → aL2, mem_map → aL5, map_cons → aL7, drop_eq_getElem_cons → aL8, nil_append → aL9, set_cons_succ → aLB, take_succ_cons → aLC, length_take → aLD, drop_zero → aLE, getElem?_eq_none → aLH, append_assoc → aLJ, take_zero → aLK, mem_cons_of_mem → aLN, take_of_length_le → aLO, length_drop → aLP, getElem?_map → aLR, length_cons → aLS, getElem_mem → aLT, getElem?_append_left → aLU, getElem?_take_of_lt → aLX, getElem_of_mem → aLY, length_append → aLs, getElem?_eq_getElem → aLt, getElem?_cons_zero → aLu, length_map → aLv, getElem?_cons_succ → aLw, set_cons_zero → aLy, getD_eq_getElem?_getD → aLz, length_set → aM1, getElem?_replicate → aM4, map_set → aM5, count_cons → aM9, getElem?_drop → aMA, mem_singleton → aMB, map_congr_left → aME, take_add_one → aMG, drop_of_length_le → aMI, drop_drop → aMK, sum_cons → aML, count_append → aMO, ext_getElem? → aMP, getElem_range → aMR, ext_getElem → aMU, toList_toArray → aMX, eq_of_mem_replicate → aMY, mem_cons_self → aMa, length_eq_zero_iff → aMc, mem_cons → aMd, append_nil → aMf, length_singleton → aMg, mem_of_getElem? → aMm, cons_append → aMo, getElem_map → aMp, mem_append → aMq, length_replicate → aMr, mem_range → aMs, set_append_right → aMt, replicate_succ → aMw, mem_of_mem_take → aMx, take_append_drop → aMz, map_nil → aN3, getElem?_set → aN8, drop_left → aNB, getElem_set → aND, drop_succ_cons → aNE, countP_append → aNH, sum_append → aNJ, take_left' → aNK, length_range → aNQ, length_pos_iff → aNX, exists_mem_of_ne_nil → aNZ, getElem?_eq_some_iff → aNa, getLast?_eq_getElem? → aNb, countP_le_length → aNd, countP_cons → aNe, map_replicate → aNf, map_take → aNg, mem_of_mem_drop → aNh, drop_eq_nil_of_le → aNj, take_length → aNv, map_drop → aNx, count_singleton → aNy, takeWhile_sublist → aOa, length_nil → aOg, range_succ → aOh
open Nat renaming mul_le_mul_right → aL1, add_zero → aL3, le_refl → aLA, pow_le_pow_right → aLG, zero_add → aLI, lt_or_ge → aLL, mod_eq_of_lt → aLV, two_pow_pos → aLZ, sub_zero → aM0, add_sub_cancel → aM3, eq_zero_or_pos → aMC, add_assoc → aMM, zero_le → aMQ, div_div_eq_div_mul → aMV, div_lt_iff_lt_mul → aMZ, mul_comm → aMb, pow_succ → aMe, min_eq_left → aMk, le_trans → aMu, succ_mul → aN5, or_lt_two_pow → aN9, mod_lt → aNM, and_two_pow_sub_one_eq_mod → aNc, sub_self → aNl, testBit_eq_decide_div_mod_eq → aNo, lt_of_lt_of_le → aNr, lt_trichotomy → aNt
open Option renaming map_some → aL6
open Option.some renaming inj → aLW, injEq → aNR
open Prod.mk renaming inj → aNA, injEq → aOc
namespace Go.Proofs.YtoecppploooloaaGreatDoor
open Go Go.En Go.Pu
set_option maxRecDepth 4000
theorem aGl(x:Nat)(hx:x<4294967296)(w:aOm):aK pg pQ #[.int .u32 x] w (λr w'=>r= .int .i64 (bl x:Nat)/\w'=w):=by
 refine Ty ?_
 unfold Q1 J3 J2
 have last:∀(y n:Nat),y<256->n<=64->n+bl y=bl x->tY (λr w'=>r= .int .i64 (bl x:Nat)/\w'=w) (.int .u32 y) (.int .i64 n) w:=by
  intro y n hy hn e
  have hg:=atY y hy
  have hs:=UF
  have hb:bl y<=8:=vC (n:=8) (by omega)
  unfold tY
  change aA pg _ w λt21 w=>aA pg (IJ 9 (.string atX) t21) w _
  simp(disch:=omega)only[aA,fW,Qg,aF,sT,aLx,hg,fK,cX,gN,and_true]
  rw[<-e]<;>rfl
 have ajX:∀(y n:Nat),y<65536->n<=32->n+bl y=bl x->tZ (λr w'=>r= .int .i64 (bl x:Nat)/\w'=w) (.int .u32 y) (.int .i64 n) w:=by
  intro y n hy hn e
  unfold tZ J1
  by_cases h:256<=y
  .have d:decide ((256:Int)<=(y:Int))=true:=by simp;omega
   have sh:((y:Int)).fdiv (2^(min 8 IntKind.u32.bits))=((y/2^8:Nat):Int):=by
    rw[show min 8 IntKind.u32.bits=8 from rfl,<-SQ];simp
   have hq:y/2^8<256:=by omega
   have:=Sk (x:=y) (j:=8) (by omega)
   have e2:(n:Int)+8=((n+8:Nat):Int):=by omega
   simp(disch:=omega)only[aA,Af,d,nZ,gN,e2,cX,aF,bD]
   rw[show(8:Int).toNat=8 from rfl,sh]
   exact last _ _ hq (by omega) (by rw[<-e,this];omega)
  .have d:decide ((256:Int)<=(y:Int))=false:=by simp;omega
   simp(disch:=omega)only[aA,Af,d,nZ,gN,cX,aF,aR]
   exact last _ _ (by omega) (by omega) e
 by_cases h:65536<=x
 .have d:decide ((65536:Int)<=(x:Int))=true:=by simp;omega
  have sh:((x:Int)).fdiv (2^(min 16 IntKind.u32.bits))=((x/2^16:Nat):Int):=by
   rw[show min 16 IntKind.u32.bits=16 from rfl,<-SQ];simp
  have hq:x/2^16<65536:=by omega
  have:=Sk (x:=x) (j:=16) (by omega)
  simp(disch:=omega)only[aA,Af,d,nZ,aF,bD]
  rw[show(16:Int).toNat=16 from rfl,sh]
  exact ajX _ 16 hq (by omega) (by rw[this];omega)
 .have d:decide ((65536:Int)<=(x:Int))=false:=by simp;omega
  simp(disch:=omega)only[aA,Af,d,nZ,aF,aR]
  exact ajX _ 0 (by omega) (by omega) (by omega)
theorem anO{k:Nat}(h:k=0∨k=2):avG (k:Int)=Ak k/\aIF (k:Int)=AV k/\(alL (k:Int)).length=kA k-Ak k:=by
 rcases h with rfl|rfl<;>exact⟨rfl,rfl,rfl⟩
theorem avH{k:Nat}(h:k=0∨k=2){i:Nat}(hi:Ak k+i<kA k):(alL (k:Int))[i]?=some (((lT k).getD (Ak k+i) 0:Nat):Int):=by
 have h0:∀i,i<53->Ak 0+i<kA 0->(alL ((0:Nat):Int))[i]?=some (((lT 0).getD (Ak 0+i) 0:Nat):Int):=by decide+kernel
 have h2:∀i,i<53->Ak 2+i<kA 2->(alL ((2:Nat):Int))[i]?=some (((lT 2).getD (Ak 2+i) 0:Nat):Int):=by decide+kernel
 have:=(W0 h).2
 rcases h with rfl|rfl
 .exact h0 i (by omega) hi
 .exact h2 i (by omega) hi
theorem atS{k:Nat}(h:k<3):xH (k:Int)=((kA k:Nat):Int)-1:=by
 rcases(show k=0∨k=1∨k=2 by omega)with rfl|rfl|rfl<;>rfl
theorem agP{n:Nat}(hn:n<=31):IntKind.u32.wrap (1*2^(min n IntKind.u32.bits))=((2^n:Nat):Int):=by
 have hb:min n IntKind.u32.bits=n:=aMk (by have:IntKind.u32.bits=32:=rfl
                                           omega)
 have hp:2^n<=2^31:=aLG (by omega) hn
 rw[hb,Int.one_mul]
 have e:(2:Int)^n=((2^n:Nat):Int):=by simp
 rw[e]
 generalize 2^n=y at*
 rw[show IntKind.u32.wrap (y:Int)=(y:Int)%4294967296 from rfl]
 omega
theorem aHX{k c:Nat}{w:aOm}(hg:xZ w)(hk:k<3)(hc:c<kA k):
 aK pg It #[.int .i64 k,.int .i64 c] w (λr w'=>r= .tuple #[.int .u32 ((wA k).getD c 0:Nat),.int .i64 ((lT k).getD c 0:Nat),.int .i64 0]/\aN w w' bJ):=by
 refine aeU ?_
 have hl53:kA k<=53:=by rcases(show k=0∨k=1∨k=2 by omega)with rfl|rfl|rfl<;>decide
 unfold ahI VK VJ
 simp(disch:=omega)only[aA,fM,mD,HY,aLx,aF,AX,LR,jX]
 refine(ayE hg).mono ?_
 rintro r w1 ⟨rfl,x1⟩
 rw[atS hk]
 have d1:decide (((kA k:Nat):Int)-1<0)=false:=by simp;omega
 have d2:decide ((c:Int)<0)=false:=by simp
 have d3:decide (((kA k:Nat):Int)-1<(c:Int))=false:=by simp;omega
 by_cases h1:k=1
 .subst h1
  have n1:(((1:Nat):Int)==1)=true:=rfl
  have hc32:c<32:=hc
  have hs:=agP (n:=c) (by omega)
  have ho:=aFS hc32
  rw[ho.1,ho.2]
  simp(disch:=omega)only[fM,d1,d2,Ao,aLF,if_false,n1,hs,true_and,bD,jF,tA,d3,aF,aR]
  first|exact x1|exact⟨rfl,x1⟩
 have n1:((k:Int)==1)=false:=beq_eq_false_iff_ne.2 (by omega)
 have h02:k=0∨k=2:=by omega
 simp(disch:=omega)only[fM,d1,d2,Ao,aLF,if_false,n1,aR,jF,tA,d3,aF]
 refine(aEQ (hg.ext x1)).mono ?_
 rintro r w2 ⟨mv,rfl,hs,x2⟩
 obtain⟨rp,ra,rl⟩:=anO h02
 rw[rp,ra]
 have hpl:=W0 h02
 have hlow:AV k<=3:=by unfold AV;split<;>omega
 have x12:=x1.seq x2
 by_cases hcp:c<Ak k
 .have d4:decide ((c:Int)<((Ak k:Nat):Int))=true:=by simp;omega
  have hp:=aoJ h02 hcp
  have e1:IntKind.u32.wrap (c:Int)=c:=by rw[show IntKind.u32.wrap (c:Int)=(c:Int)%4294967296 from rfl];omega
  have e2:IntKind.u32.wrap (((AV k:Nat):Int)+(c:Int))=((AV k+c:Nat):Int):=by rw[show IntKind.u32.wrap (((AV k:Nat):Int)+(c:Int))=(((AV k:Nat):Int)+(c:Int))%4294967296 from rfl];omega
  rw[hp.1,hp.2]
  simp(disch:=omega)only[x30,x31,x32,aF,gN,e2,fM,d4,AX,LR,bD]
  first|exact x12|exact⟨rfl,x12⟩
 .have d4:decide ((c:Int)<((Ak k:Nat):Int))=false:=by simp;omega
  obtain⟨j,hj⟩:∃j,c=Ak k+j:=⟨c-Ak k,by omega⟩
  have e1:IntKind.u32.wrap ((Ak k:Nat):Int)=((Ak k:Nat):Int):=by rw[show IntKind.u32.wrap ((Ak k:Nat):Int)=((Ak k:Nat):Int)%4294967296 from rfl];omega
  have e2:IntKind.u32.wrap (((AV k:Nat):Int)+((Ak k:Nat):Int))=((eS k 0:Nat):Int):=by
   rw[eS,aJy h02,show IntKind.u32.wrap (((AV k:Nat):Int)+((Ak k:Nat):Int))=(((AV k:Nat):Int)+((Ak k:Nat):Int))%4294967296 from rfl];omega
  have e3:(c:Int)-((Ak k:Nat):Int)=(j:Int):=by omega
  simp(disch:=omega)only[x30,x31,x32,aF,gN,LR,fM,d4,AX,e1,e2,aR]
  unfold Md Mc VI
  obtain⟨av,cv,rfl,hcv⟩:=hs.lenI
  have hs0:=hs
  obtain⟨b,off,c',hv,hcc,hcell⟩:=hs.openI (by omega)
  cases hv
  have hget:∀i,Ak k+i<kA k->w2.cell? ⟨b,off+i,none⟩=some (.int .i64 ((lT k).getD (Ak k+i) 0:Nat)):=by
   intro i hi
   have h1:=hcell i (by omega)
   have h2:=avH h02 hi
   rw[aLt (by omega)]at h2
   rw[h1,aLW h2]
  have hsh:cW (some ⟨b,off,none⟩) cv 0 1=some ⟨b,off,none⟩:=by unfold cW;split<;>simp[Addr.add]
  simp(disch:=omega)only[aA,A8,e3,cX,rl,aF,Qc,hsh,aLx,aM0,sW]
  unfold FW
  refine aX.rule (λm (t:aOn×aOn) w'=>∃i:Nat,m=j-i/\i<=j/\t=(.int .u32 (eS k i:Nat),.int .i64 i)/\w'=w2) j ⟨0,rfl,by omega,rfl,rfl⟩ ?_
  rintro m t w3 ⟨i,rfl,hi,rfl,hw⟩
  rw[hw];clear hw w3
  unfold Mb
  by_cases hlt:i<j
  .have d5:decide ((i:Int)<(j:Int))=true:=by simp;omega
   have g1:=hget i (by omega)
   have ha:=aHh h02 (c:=Ak k+i) (by omega)
   have hsl:=agP (n:=(lT k).getD (Ak k+i) 0) (by omega)
   have hle:=aJB h02 (i:=i+1) (by omega)
   have hes:eS k (i+1)=eS k i+2^((lT k).getD (Ak k+i) 0):=rfl
   have e5:IntKind.u32.wrap (((eS k i:Nat):Int)+((2^((lT k).getD (Ak k+i) 0):Nat):Int))=((eS k (i+1):Nat):Int):=by
    rw[show IntKind.u32.wrap (((eS k i:Nat):Int)+((2^((lT k).getD (Ak k+i) 0):Nat):Int))=(((eS k i:Nat):Int)+((2^((lT k).getD (Ak k+i) 0):Nat):Int))%4294967296 from rfl]
    omega
   generalize(lT k).getD (Ak k+i) 0=nn at*
   simp(disch:=omega)only[aA,fM,d5,gS,aLx,gN,cX,aF,sU,g1,cQ,HY,hsl,e5,and_true,bD]
   exact⟨j-(i+1),by omega,i+1,rfl,by omega,rfl⟩
  .have d5:decide ((i:Int)<(j:Int))=false:=by simp;omega
   obtain rfl:i=j:=by omega
   have g1:=hget i (by omega)
   have g2:(dr w2).cell? ⟨b,off+i,none⟩=some (.int .i64 ((lT k).getD (Ak k+i) 0:Nat)):=g1
   simp(disch:=omega)only[aA,fM,d5,gN,cX,aF,aR]
   unfold Ma
   have hat:=amM hk i (by omega)
   rw[<-hj]at hat g2
   simp(disch:=omega)only[aA,A8,e3,cX,true_and,aF,gS,aLx,sU,g2,cQ]
   exact⟨by rw[hat],x12.seq (aN.dr _ _)⟩
def OfR(k v:Nat)(r:aOn):Prop:=
 (∃c,xX k v c/\r= .tuple #[.int .i64 c,.int .u32 (v-(wA k).getD c 0:Nat),.int .i64 0])∨((∀c,¬xX k v c)/\r= .tuple #[.int .i64 0,.int .u32 0,.int .i64 17])
theorem w32 {x:Int}(h0:0<=x)(h1:x<4294967296):IntKind.u32.wrap x=x:=by
 rw[show IntKind.u32.wrap x=x%4294967296 from rfl];omega
theorem aKK{k v:Nat}{w:aOm}(hg:xZ w)(hk:k<3)(hv:v<4294967296):
 aK pg O7 #[.int .i64 k,.int .u32 v] w (λr w'=>OfR k v r/\aN w w' bJ):=by
 refine alA ?_
 obtain⟨RR,hRR⟩:∃RR:aOn->aOm->Prop,RR=λr w'=>OfR k v r/\aN w w' bJ:=⟨_,rfl⟩
 rw[<-hRR]
 have hl53:kA k<=53:=by rcases(show k=0∨k=1∨k=2 by omega)with rfl|rfl|rfl<;>decide
 have hl1:1<=kA k:=by rcases(show k=0∨k=1∨k=2 by omega)with rfl|rfl|rfl<;>decide
 unfold asR adK adJ
 refine(aEQ hg).mono ?_
 rintro r w1 ⟨mv,rfl,hs,x1⟩
 simp(disch:=omega)only[SV]
 refine(ayE (hg.ext x1)).mono ?_
 rintro r w2 ⟨rfl,x2⟩
 have x12:=x1.seq x2
 have hs:=hs.ext x2 (aU _)
 rw[atS hk]
 have d1:decide (((kA k:Nat):Int)-1<0)=false:=by simp;omega
 by_cases h1:k=1
 .subst h1
  have n1:(((1:Nat):Int)==1)=true:=rfl
  by_cases hv0:v=0
  .subst hv0
   have n2:(((0:Nat):Int)==0)=true:=rfl
   simp(disch:=omega)only[SV,d1,n1,n2]
   rw[hRR]
   exact⟨.inr ⟨auI,rfl⟩,x12⟩
  .have n2:((v:Int)==0)=false:=beq_eq_false_iff_ne.2 (by omega)
   simp(disch:=omega)only[SV,d1,n1,n2]
   refine(aGl v hv w2).mono ?_
   rintro r w3 ⟨rfl,hw⟩
   rw[hw];clear hw w3
   have hc:=aDE (by omega) hv
   have hb1:=Pn (k:=v) hv0
   have hb4:bl v<=32:=vC (n:=32) hv
   have hbl:=Ya (k:=v) hv0
   obtain⟨j,hj⟩:∃j,j=bl v-1:=⟨_,rfl⟩
   rw[<-hj]at hc hbl
   have e1:((bl v:Nat):Int)-1=(j:Int):=by omega
   have hsl:=agP (n:=j) (by omega)
   have ho:=aFS (c:=j) (by omega)
   have e2:IntKind.u32.wrap ((v:Int)-((2^j:Nat):Int))=((v-(wA 1).getD j 0:Nat):Int):=by
    rw[ho.1]
    generalize 2^j=y at*
    rw[w32 (by omega) (by omega)];omega
   simp(disch:=omega)only[SV,e1,hsl,e2,aLx]
   rw[hRR]
   exact⟨.inl ⟨j,hc,rfl⟩,x12.seq (aN.dr _ _)⟩
 have n1:((k:Int)==1)=false:=beq_eq_false_iff_ne.2 (by omega)
 have h02:k=0∨k=2:=by omega
 obtain⟨rp,ra,rl⟩:=anO h02
 rw[rp,ra]
 have hpl:=W0 h02
 have hlow:AV k<=3:=by unfold AV;split<;>omega
 have htop:=aJy h02
 by_cases hvl:v<AV k
 .have d2:decide ((v:Int)<((AV k:Nat):Int))=true:=by simp;omega
  simp(disch:=omega)only[SV,d1,n1,d2]
  rw[hRR]
  exact⟨.inr ⟨ayI h02 hvl,rfl⟩,x12⟩
 have d2:decide ((v:Int)<((AV k:Nat):Int))=false:=by simp;omega
 have e1:IntKind.u32.wrap ((v:Int)-((AV k:Nat):Int))=((v-AV k:Nat):Int):=by rw[w32 (by omega) (by omega)];omega
 have e2:IntKind.u32.wrap ((Ak k:Nat):Int)=((Ak k:Nat):Int):=w32 (by omega) (by omega)
 by_cases hvp:v-AV k<Ak k
 .have d3:decide (((v-AV k:Nat):Int)<((Ak k:Nat):Int))=true:=by simp;omega
  have hc:=axJ h02 (by omega) hvp
  have hp:=aoJ h02 hvp
  simp(disch:=omega)only[SV,d1,n1,d2,e1,e2,d3]
  rw[hRR]
  refine⟨.inl ⟨_,hc, ?_⟩,x12⟩
  rw[hp.1,show v-(AV k+(v-AV k))=0 by omega]
  rfl
 have d3:decide (((v-AV k:Nat):Int)<((Ak k:Nat):Int))=false:=by simp;omega
 have e3:IntKind.u32.wrap (((v-AV k:Nat):Int)-((Ak k:Nat):Int))=((v-eS k 0:Nat):Int):=by
  rw[eS,htop,w32 (by omega) (by omega)];omega
 have hv0:eS k 0<=v:=by rw[eS,htop];omega
 simp(disch:=omega)only[SV,d1,n1,d2,e1,e2,d3,e3]
 unfold SC SB adI
 obtain⟨av,cv,rfl,hcv⟩:=hs.lenI
 obtain⟨b,off,c',hv',hcc,hcell⟩:=hs.openI (by omega)
 cases hv'
 have hget:∀i,Ak k+i<kA k->w2.cell? ⟨b,off+i,none⟩=some (.int .i64 ((lT k).getD (Ak k+i) 0:Nat)):=by
  intro i hi
  have h1:=hcell i (by omega)
  have h2:=avH h02 hi
  rw[aLt (by omega)]at h2
  rw[h1,aLW h2]
 simp(disch:=omega)only[SV,rl]
 unfold Ll
 obtain⟨n,hn⟩:∃n,n=kA k-Ak k:=⟨_,rfl⟩
 rw[<-hn]
 refine aX.rule (λm (t:aOn×aOn) w'=>∃i:Nat,m=n-i/\i<=n/\t=(.int .u32 (v-eS k i:Nat),.int .i64 i)/\eS k i<=v/\w'=w2) n ⟨0,rfl,by omega,rfl,hv0,rfl⟩ ?_
 rintro m t w3 ⟨i,rfl,hi,rfl,hle,hw⟩
 rw[hw];clear hw w3
 unfold Sz
 by_cases hlt:i<n
 .have d5:decide ((i:Int)<(n:Int))=true:=by simp;omega
  have g1:=hget i (by omega)
  have ha:=aHh h02 (c:=Ak k+i) (by omega)
  have hsl:=agP (n:=(lT k).getD (Ak k+i) 0) (by omega)
  have hes:eS k (i+1)=eS k i+2^((lT k).getD (Ak k+i) 0):=rfl
  have hmore:=aBz (v:=v) h02 (i:=i) (by omega) hle
  have hat:=amM hk i (by omega)
  generalize(lT k).getD (Ak k+i) 0=nn at*
  generalize 2^nn=pp at*
  by_cases hin:v<eS k i+pp
  .have d6:decide (((v-eS k i:Nat):Int)<(pp:Int))=true:=by simp;omega
   have e6:((Ak k:Nat):Int)+(i:Int)=((Ak k+i:Nat):Int):=by omega
   simp(disch:=omega)only[SV,d5,g1,hsl,d6,e6,aLx]
   rw[hRR]
   exact⟨.inl ⟨_,hmore hin,by rw[<-hat]⟩,x12⟩
  .have d6:decide (((v-eS k i:Nat):Int)<(pp:Int))=false:=by simp;omega
   have e6:IntKind.u32.wrap (((v-eS k i:Nat):Int)-(pp:Int))=((v-eS k (i+1):Nat):Int):=by
    rw[w32 (by omega) (by omega)];omega
   simp(disch:=omega)only[SV,d5,g1,hsl,d6,e6,aLx]
   exact⟨n-(i+1),by omega,i+1,rfl,by omega,rfl,by omega⟩
 .have d5:decide ((i:Int)<(n:Int))=false:=by simp;omega
  obtain rfl:i=n:=by omega
  simp(disch:=omega)only[SV,d5]
  unfold Sy
  rw[hRR]
  exact⟨.inr ⟨auH h02 (hn▸hle),rfl⟩,x12⟩
def gvL(a:Int):Nat:=if a=1 then 5 else if a=0∨a=2 then 6 else 0
def gvP(a:Int):List Int:=if a=0 then zTL else if a=1 then zTO else if a=2 then zTM else[]
theorem axU{a:Int}(h:a=0∨a=1∨a=2):WS (gvL a) (gvP a):=by
 rcases h with rfl|rfl|rfl
 .exact ⟨by decide,by decide,by decide,by decide,by decide,by decide,by decide+kernel⟩
 .exact ⟨by decide,by decide,by decide,by decide,by decide,by decide,by decide+kernel⟩
 .exact ⟨by decide,by decide,by decide,by decide,by decide,by decide,by decide+kernel⟩
theorem aGh{a:Int}{w:aOm}(hg:xZ w):
 aK pg CD #[.int .i64 a] w (λr w'=>∃v,r= .agg #[.int .i64 (gvL a:Nat),v]/\Sl w' v ((gvP a).map (Value.int .i64))/\aN w w' bJ):=by
 refine ZN ?_
 unfold ZM Rg
 refine kK λw1 o1 x1 s1=> ?_
 have hg1:=hg.ext x1
 have z1:=o1.lt
 by_cases h0:a=0
 .subst h0
  have n1:((0:Int)==0)=true:=rfl
  have l1:=apT (b:=0) (off:=0) (l:=zTL.map (Value.int .i64)) rfl hg1.tl.ld
  simp(disch:=omega)only[aA,mD,n1,lL,aF,l1,bD]
  refine asC λw2 o2 x2 s2=> ?_
  refine aqV o2 rfl (Tj _) (by simp) λw3 o3 x3 s3=> ?_
  have o3:aZ w3 w1.heap.size (zTL.map (Value.int .i64)):=by
   rw[aMX,Km zTL 36 rfl]at o3
   .exact o3
   .rfl
  have hsh:iD ⟨w1.heap.size,0,none⟩ 36 0 1=⟨w1.heap.size,0,none⟩:=oC (by decide)
  have x13:aN w1 w3 bJ:=x2.new x3 (by omega)
  simp(disch:=omega)only[HA,hsh,aF,kX]
  refine eE (o1.ext x13 (λh=>h)) rfl (by simp[one]) (by simp) λw4 o4 x4 s4=> ?_
  refine lO o4 (by simp[aT]) ?_
  simp only[aT,aLy,aLB,aLE,aLC,aLK]
  exact⟨_,rfl,agZ (o3.ext x4 (by omega)) rfl,(x1.seq x13).new x4 (by omega)⟩
 have n1:(a==0)=false:=beq_eq_false_iff_ne.2 h0
 by_cases h1:a=1
 .subst h1
  have n2:((1:Int)==1)=true:=rfl
  have l1:=apS (b:=1) (off:=0) (l:=zTO.map (Value.int .i64)) rfl hg1.to.ld
  simp(disch:=omega)only[aA,mD,n1,n2,lL,aF,bD,l1,aR]
  refine asA λw2 o2 x2 s2=> ?_
  refine aqU o2 rfl (Tj _) (by simp) λw3 o3 x3 s3=> ?_
  have o3:aZ w3 w1.heap.size (zTO.map (Value.int .i64)):=by
   rw[aMX,Km zTO 29 rfl]at o3
   .exact o3
   .rfl
  have hsh:iD ⟨w1.heap.size,0,none⟩ 29 0 1=⟨w1.heap.size,0,none⟩:=oC (by decide)
  have x13:aN w1 w3 bJ:=x2.new x3 (by omega)
  simp(disch:=omega)only[Hz,hsh,aF,kX]
  refine eE (o1.ext x13 (λh=>h)) rfl (by simp[one]) (by simp) λw4 o4 x4 s4=> ?_
  refine lO o4 (by simp[aT]) ?_
  simp only[aT,aLy,aLB,aLE,aLC,aLK]
  exact⟨_,rfl,agZ (o3.ext x4 (by omega)) rfl,(x1.seq x13).new x4 (by omega)⟩
 have n2:(a==1)=false:=beq_eq_false_iff_ne.2 h1
 by_cases h2:a=2
 .subst h2
  have n3:((2:Int)==2)=true:=rfl
  have l1:=apU (b:=2) (off:=0) (l:=zTM.map (Value.int .i64)) rfl hg1.tm.ld
  simp(disch:=omega)only[aA,mD,n1,n2,n3,lL,aF,bD,aR,l1]
  refine asD λw2 o2 x2 s2=> ?_
  refine aqW o2 rfl (Tj _) (by simp) λw3 o3 x3 s3=> ?_
  have o3:aZ w3 w1.heap.size (zTM.map (Value.int .i64)):=by
   rw[aMX,Km zTM 53 rfl]at o3
   .exact o3
   .rfl
  have hsh:iD ⟨w1.heap.size,0,none⟩ 53 0 1=⟨w1.heap.size,0,none⟩:=oC (by decide)
  have x13:aN w1 w3 bJ:=x2.new x3 (by omega)
  simp(disch:=omega)only[HB,hsh,aF,kX]
  refine eE (o1.ext x13 (λh=>h)) rfl (by simp[one]) (by simp) λw4 o4 x4 s4=> ?_
  refine lO o4 (by simp[aT]) ?_
  simp only[aT,aLy,aLB,aLE,aLC,aLK]
  exact⟨_,rfl,agZ (o3.ext x4 (by omega)) rfl,(x1.seq x13).new x4 (by omega)⟩
 have n3:(a==2)=false:=beq_eq_false_iff_ne.2 h2
 simp(disch:=omega)only[aA,mD,n1,n2,n3,lL,aF,aR]
 refine eE o1 rfl (by simp[one]) (by simp) λw4 o4 x4 s4=> ?_
 refine lO o4 (by simp[aT]) ?_
 simp only[aT,aLy,aLB,aLE,aLC,aLK]
 unfold gvL gvP
 rw[if_neg h1,if_neg (by omega),if_neg h0,if_neg h1,if_neg h2]
 exact⟨_,rfl,Sl.nil _,x1.new x4 (by omega)⟩
def Sa(w:aOm)(base:Nat)(o:Except Int (Nat×List T3))(t:aOn)(e:Int):Prop:=match o with
 | .error e'=>t= .agg #[.int .i64 0,.slice none 0 0]/\e=e'
 | .ok (lg,L)=>(∃b,Tbl w base b lg L t)/\e=0
theorem Sa.form {w:aOm}{base:Nat}{o:Except Int (Nat×List T3)}{t:aOn}{e:Int}(h:Sa w base o t e):∃(x:Int) (a:Option Addr) (n c:Nat),t= .agg #[.int .i64 x,.slice a n c]:=by
 unfold Sa at h
 split at h
 .exact ⟨_,_,_,_,h.1⟩
 .obtain ⟨⟨b,h,_⟩,_⟩:=h
  exact⟨_,_,_,_,h⟩
theorem Sa.ext {w w':aOm}{base:Nat}{o:Except Int (Nat×List T3)}{t:aOn}{e:Int}{M:Nat->Prop}(h:Sa w base o t e)(x:aN w w' M)(hM:∀b,base<=b->b<w.heap.size->¬M b):Sa w' base o t e:=by
 unfold Sa at*
 split at h
 .exact h
 .obtain ⟨⟨b,ht⟩,he⟩:=h
  have hb:=ht.2.1
  have hl:=ht.2.2.lt
  exact⟨⟨b,ht.ext x (hM b hb hl)⟩,he⟩
theorem Sa.lower {w:aOm}{base base':Nat}{o:Except Int (Nat×List T3)}{t:aOn}{e:Int}(h:Sa w base o t e)(hb:base'<=base):Sa w base' o t e:=by
 unfold Sa at*
 split at h
 .exact h
 .obtain ⟨⟨b,h1,h2,h3⟩,he⟩:=h
  exact⟨⟨b,h1,by omega,h3⟩,he⟩
def On(a:Int):Int:=if a=0∨a=2 then 9 else if a=1 then 8 else 0
theorem ayF(a:Int)(w:aOm):aK pg vJ #[.int .i64 a] w (λr w'=>r= .int .i64 (On a)/\w'=w):=by
 refine acU ?_
 unfold aeF Rb Ua KB KA T9 Kz T8
 unfold On
 by_cases h0:a=0
 .subst h0
  have n1:((0:Int)==0)=true:=rfl
  unfold tC
  simp(disch:=omega)only[aA,mD,n1,aF,and_true,bD]
  rfl
 have n1:(a==0)=false:=beq_eq_false_iff_ne.2 h0
 by_cases h2:a=2
 .subst h2
  have n2:((2:Int)==2)=true:=rfl
  unfold tC
  simp(disch:=omega)only[aA,mD,n1,aF,n2,bD,and_true,aR]
  rfl
 have n2:(a==2)=false:=beq_eq_false_iff_ne.2 h2
 rw[if_neg (by omega)]
 by_cases h1:a=1
 .subst h1
  have n3:((1:Int)==1)=true:=rfl
  unfold tC
  simp(disch:=omega)only[aA,mD,n1,if_true,n3,true_and,aF,bD,n2,aR,and_true]
 have n3:(a==1)=false:=beq_eq_false_iff_ne.2 h1
 rw[if_neg h1]
 unfold tC Ky
 simp(disch:=omega)only[aA,mD,n1,n3,true_and,aF,aR,n2,and_true]
end Go.Proofs.YtoecppploooloaaGreatDoor
namespace Go.Pu
open Go Go.En
def xK(L:List Bool)(st n:Nat):Nat:=RI ((L.drop st).take n)
theorem auL(L:List Bool)(st n:Nat):xK L st n<2^n:=by
 have h:=apZ ((L.drop st).take n)
 have:((L.drop st).take n).length<=n:=by rw[aLD];omega
 exact aNr h (aLG (by omega) this)
theorem anE(A:List Bool)(x n:Nat)(C:List Bool)(h:x<2^n):xK (A++(cZ x n++C)) A.length n=x:=by
 unfold xK
 rw[aNB,aNK (bM x n),auM h]
def azW(L:List Bool)(st left:Nat):Option (Nat×Nat):=
 let n:=bl (left+1)
 if L.length<st+(n-1)then none
 else
  let low:=xK L st (n-1)
  let free:=2^n-2-left
  if low<free then some (low,st+(n-1))
  else if L.length<st+(n-1)+1 then none
  else if xK L (st+(n-1)) 1=0 then some (low,st+(n-1)+1)
  else some (low+2^(n-1)-free,st+(n-1)+1)
def noR(L:List Bool):Nat->Nat->Option (Nat×Nat)
 |0,_=>none
 |f+1,st=>if L.length<st+2 then none else if xK L st 2<3 then some (xK L st 2,st+2)else match noR L f (st+2)with
  |none=>none
  |some (k,st')=>some (3+k,st')
def rdC(L:List Bool)(sym:Nat):Nat->Nat->Nat->List Int->Except Int (List Int×Nat)
 |0,_,_,_=> .error 10
 |f+1,st,left,ps=>if left=0 then .ok (ps,st)else match azW L st left with
  |none=> .error 10
  |some (v,st1)=>
   if v=1 then match noR L (L.length+1) st1 with
     |none=> .error 10
     |some (k,st2)=>if sym<ps.length+1+k then .error 11 else rdC L sym f st2 left (ps++0::List.replicate k 0)
   else if sym<ps.length+1 then .error 11 else rdC L sym f st1 (left-(bW ((v:Int)-1)).toNat) (ps++[(v:Int)-1])
theorem agQ{L:List Bool}{st left v st1:Nat}(h:azW L st left=some (v,st1))(h0:0<left):st<st1/\st1<=L.length/\v<=left+1:=by
 have hb1:=Pn (k:=left+1) (by omega)
 have hb2:=Ya (k:=left+1) (by omega)
 have hb3:=adH (left+1)
 have hn:2<=bl (left+1):=by
  rcases aLL (bl (left+1)) 2 with h|h
  .have:bl (left+1)=1:=by omega
   rw[this]at hb3;omega
  .exact h
 unfold azW at h
 simp only at h
 generalize bl (left+1)=n at*
 obtain⟨m,rfl⟩:∃m,n=m+1:=⟨n-1,by omega⟩
 rw[aM3]at*
 rw[aMe]at*
 have hl:=auL L st m
 generalize 2^m=q at*
 generalize xK L st m=low at*
 split at h
 .cases h
 .split at h
  .obtain ⟨rfl,rfl⟩:=aNA (aLW h);omega
  .split at h
   .cases h
   .split at h
    .obtain ⟨rfl,rfl⟩:=aNA (aLW h);omega
    .obtain ⟨rfl,rfl⟩:=aNA (aLW h);omega
theorem ayJ{L:List Bool}:∀{f st k st1:Nat},noR L f st=some (k,st1)->st<st1/\st1<=L.length/\2*k<=3*(st1-st)
 |0,st,k,st1,h=>by cases h
 |f+1,st,k,st1,h=>by
  rw[noR]at h
  split at h
  .cases h
  .have hl:=auL L st 2
   split at h
   .obtain ⟨rfl,rfl⟩:=aNA (aLW h);omega
   .cases hn:noR L f (st+2)with
    |none=>rw[hn]at h;cases h
    |some x=>
     obtain⟨k',st'⟩:=x
     rw[hn]at h
     obtain⟨rfl,rfl⟩:=aNA (aLW h)
     have:=ayJ hn
     omega
def ajL(L:List Bool)(most:Int)(sym:Nat):Except Int (Nat×List Int×Nat):=
 if L.length<4 then .error 10
 else
  let log:=xK L 0 4+5
  if most<log∨15<log then .error 12
  else match rdC L sym (L.length+1) 4 (2^log) []with
   | .error e=> .error e
   | .ok (ps,st)=> .ok (log,ps,(st+7)/8)
theorem Qe:∀k:Nat,xV (List.replicate k 0)=0
 |0=>rfl
 |k+1=>by rw[aMw,vQ,Qe k]<;>rfl
theorem acE{L:List Bool}{sym:Nat}{out:List Int}{stE:Nat}{tot:Int}:∀{f st left:Nat} {ps:List Int},rdC L sym f st left ps= .ok (out,stE)->(∀p∈ps,-1<=p)->xV ps+left=tot→
 (left=0->ps.length<=sym/\ps.getLast?≠some 0/\1<=ps.length)->(∀p∈out,-1<=p)/\xV out=tot/\out.length<=sym/\out.getLast?≠some 0/\1<=out.length
 |0,st,left,ps,h,_,_,_=>by cases h
 |f+1,st,left,ps,h,hlo,hs,hz=>by
  rw[rdC]at h
  split at h
  .rename_i h0
   cases h
   obtain⟨z1,z2,z3⟩:=hz h0
   exact⟨hlo,by omega,z1,z2,z3⟩
  .rename_i h0
   cases hv:azW L st left with
   |none=>rw[hv]at h;cases h
   |some x=>
    obtain⟨v,st1⟩:=x
    obtain⟨v1,v2,v3⟩:=agQ hv (by omega)
    rw[hv]at h
    simp only at h
    split at h
    .rename_i hv1
     cases hn:noR L (L.length+1) st1 with
     |none=>rw[hn]at h;cases h
     |some y=>
      obtain⟨k,st2⟩:=y
      rw[hn]at h
      simp only at h
      split at h
      .cases h
      .refine acE h ?_ ?_ (λh=>absurd h h0)
       .intro p hp
        rcases aMq.1 hp with hp|hp
        .exact hlo p hp
        .rcases aMd.1 hp with rfl|hp
         .omega
         .rw [aMY hp];omega
       .rw [LQ,vQ]
        have e:=Qe k
        rw[e]
        have:bW 0=0:=rfl
        omega
    .rename_i hv1
     split at h
     .cases h
     .have hp1: -1<=(v:Int)-1:=by omega
      have hpn:=mX hp1
      have hpl:bW ((v:Int)-1)<=left:=by unfold bW;split<;>omega
      refine acE h ?_ ?_ ?_
      .intro p hp
       rcases aMq.1 hp with hp|hp
       .exact hlo p hp
       .rw [aMB.1 hp];exact hp1
      .rw [LQ,vQ]
       have e:xV []=0:=rfl
       rw[e];omega
      .intro _
       rw[aLs,aMg,List.getLast?_concat]
       refine⟨by omega, ?_,by omega⟩
       intro e
       have:=aLW e
       omega
def Le(left v:Nat):List Bool:=
 let n:=bl (left+1)
 let free:=2^n-2-left
 if v<free then cZ v (n-1)else if v<2^(n-1)then cZ v n else cZ (v+free) n
def noW(k:Nat):List Bool:=if h:k<3 then cZ k 2 else cZ 3 2++noW (k-3)
termination_by k
theorem TD{L A C:List Bool}{x n:Nat}(hL:L=A++(cZ x n++C))(h:x<2^n):xK L A.length n=x:=by rw[hL,anE A x n C h]
theorem ahB(x n:Nat):cZ x (n+1)=cZ (x%2^n) n++cZ (x/2^n%2) 1:=by
 rw[Pm]
 congr 1
 .unfold cZ
  apply aME
  intro k hk
  rw[Nat.testBit_mod_two_pow]
  simp[aMs.1 hk]
 .rw [Pm,I5,aL9]
  congr 1
  rw[aNo,aNo,Nat.pow_zero,Nat.div_one,Nat.mod_mod]
theorem aFe{L A C:List Bool}{left v:Nat}(hL:L=A++(Le left v++C))(h0:0<left)(hv:v<=left+1):azW L A.length left=some (v,A.length+(Le left v).length):=by
 have hb1:=Pn (k:=left+1) (by omega)
 have hb2:=Ya (k:=left+1) (by omega)
 have hb3:=adH (left+1)
 unfold Le at hL⊢
 unfold azW
 simp only at hL⊢
 generalize bl (left+1)=n at*
 obtain⟨m,rfl⟩:∃m,n=m+1:=⟨n-1,by omega⟩
 rw[aM3]at*
 have hp:2^(m+1)=2*2^m:=by rw[aMe,aMb]
 have hp0:=aLZ m
 by_cases h1:v<2^(m+1)-2-left
 .rw [if_pos h1]at hL⊢
  have hlen:L.length=A.length+(m+C.length):=by rw[hL,aLs,aLs,bM]
  rw[if_neg (by omega),TD hL (by omega),if_pos h1,bM]
 .rw [if_neg h1]at hL⊢
  have key:∀y:Nat,y<2^(m+1)->L=A++(cZ y (m+1)++C)->2^(m+1)-2-left<=y%2^m->(if y/2^m=0 then y%2^m else y%2^m+2^m-(2^(m+1)-2-left))=v→
      (if L.length<A.length+m then none else if xK L A.length m<2^(m+1)-2-left then some (xK L A.length m,A.length+m)else if L.length<A.length+m+1 then none
       else if xK L (A.length+m) 1=0 then some (xK L A.length m,A.length+m+1)else some (xK L A.length m+2^m-(2^(m+1)-2-left),A.length+m+1))=some (v,A.length+(cZ y (m+1)).length):=by
   intro y hy hL hlow hval
   have hlen:L.length=A.length+(m+1+C.length):=by rw[hL,aLs,aLs,bM]
   have hq:y/2^m<2:=(aMZ hp0).2 (by omega)
   have e1:xK L A.length m=y%2^m:=TD (C:=cZ (y/2^m%2) 1++C) (by rw[hL,ahB,aLJ]) (aNM _ hp0)
   have e2:xK L (A.length+m) 1=y/2^m:=by
    have:=TD (L:=L) (A:=A++cZ (y%2^m) m) (C:=C) (x:=y/2^m%2) (n:=1) (by rw[hL,ahB,aLJ,aLJ]) (by omega)
    rw[aLs,bM,aLV hq]at this
    exact this
   rw[if_neg (by omega),e1,if_neg (by omega),if_neg (by omega),e2,bM]
   split
   .rename_i h
    rw[if_pos h]at hval
    rw[hval]<;>rfl
   .rename_i h
    rw[if_neg h]at hval
    rw[hval]<;>rfl
  by_cases h2:v<2^m
  .rw [if_pos h2]at hL⊢
   refine key v (by omega) hL ?_ ?_
   .rw [aLV h2];omega
   .rw [Nat.div_eq_of_lt h2,if_pos rfl,aLV h2]
  .rw [if_neg h2]at hL⊢
   have hd:(v+(2^(m+1)-2-left))/2^m=1:=Nat.div_eq_of_lt_le (by omega) (by omega)
   have hm:(v+(2^(m+1)-2-left))%2^m=v+(2^(m+1)-2-left)-2^m:=by
    rw[Nat.mod_eq_sub_mod (by omega),aLV (by omega)]
   refine key _ (by omega) hL ?_ ?_
   .rw [hm];omega
   .rw [hd,if_neg (by omega),hm];omega
theorem aJP{L C:List Bool}:∀{k:Nat} {A:List Bool} {f:Nat},L=A++(noW k++C)->L.length<2*f+A.length->noR L f A.length=some (k,A.length+(noW k).length):=by
 intro k
 induction k using Nat.strongRecOn with
 |ind k ih=>
  intro A f hL hf
  rw[noW]at hL⊢
  split at hL
  .rename_i hk
   have hlen:L.length=A.length+(2+C.length):=by rw[hL,aLs,aLs,bM]
   obtain⟨f,rfl⟩:∃g,f=g+1:=⟨f-1,by omega⟩
   have e:=TD hL (by omega)
   rw[noR,if_neg (by omega),e,if_pos hk,dif_pos hk,bM]
  .rename_i hk
   rw[aLJ]at hL
   have hlen:L.length=A.length+(2+((noW (k-3)).length+C.length)):=by rw[hL,aLs,aLs,aLs,bM]
   obtain⟨f,rfl⟩:∃g,f=g+1:=⟨f-1,by omega⟩
   have e:=TD hL (by omega)
   have:=ih (k-3) (by omega) (A:=A++cZ 3 2) (f:=f) (by rw[hL,aLJ]) (by rw[aLs,bM];omega)
   rw[aLs,bM]at this
   rw[noR,if_neg (by omega),e,if_neg (by omega),this,dif_neg hk,aLs,bM]
   simp only[aNR,aOc]
   omega
def XX:Nat->Nat->List Int->List Bool
 |0,_,_=>[]
 |f+1,left,ps=>match ps with
  |[]=>[]
  |p::ps=>if p=0 then
    let k:=(ps.takeWhile (·==0)).length
    Le left 1++(noW k++XX f left (ps.drop k))
   else Le left (p+1).toNat++XX f (left-(bW p).toNat) ps
theorem WH(ps:List Int):ps=List.replicate (ps.takeWhile (·==0)).length 0++ps.drop (ps.takeWhile (·==0)).length:=by
 induction ps with
 |nil=>rfl
 |cons p ps ih=>
  rw[List.takeWhile_cons]
  by_cases h:p=0
  .subst h
   simp only[beq_self_eq_true,if_true,aLS,aMw,aNE,aMo]
   rw[<-ih]
  .have:(p==0)=false:=by simpa using h
   simp[this]
theorem aKc{L C:List Bool}{sym:Nat}:∀{g:Nat} {ps out:List Int} {left f:Nat} {A:List Bool},ps.length<=g->(∀p∈ps,-1<=p)->xV ps=left->ps.getLast?≠some 0→
 L=A++(XX g left ps++C)->L.length<f+A.length->out.length+ps.length<=sym→
 rdC L sym f A.length left out= .ok (out++ps,A.length+(XX g left ps).length):=by
 intro g
 induction g with
 |zero=>
  intro ps out left f A hl hlo hs hlast hL hf hsym
  have:ps=[]:=aMc.1 (by omega)
  subst this
  obtain rfl:left=0:=by have:xV []=0:=rfl
                        omega
  have:A.length<=L.length:=by rw[hL,aLs];omega
  obtain⟨f,rfl⟩:∃g,f=g+1:=⟨f-1,by omega⟩
  rw[rdC,if_pos rfl,XX];simp
 |succ g ih=>
  intro ps out left f A hl hlo hs hlast hL hf hsym
  have hAL:A.length<=L.length:=by rw[hL,aLs];omega
  obtain⟨f,rfl⟩:∃g,f=g+1:=⟨f-1,by omega⟩
  cases ps with
  |nil=>
   obtain rfl:left=0:=by have:xV []=0:=rfl
                         omega
   rw[rdC,if_pos rfl,XX];simp
  |cons p ps=>
   have hp:=hlo p (aMa ..)
   have hlo':∀p∈ps,-1<=p:=λq hq=>hlo q (aLN _ hq)
   have hn:=G7 hlo'
   rw[vQ]at hs
   have hpn:=mX hp
   rw[aLS]at hl hsym
   have hpos:0<left:=by
    by_cases h0:p=0
    .
     subst h0
     rcases aMC left with h|h
     .exfalso
      subst h
      have hs0:xV ps=0:=by have:bW 0=0:=rfl
                           omega
      have hz:∀q∈ps,q=0:=λq hq=>by
       have h1:=aqF hlo' hq
       have h2:=hlo' q hq
       unfold bW at h1
       split at h1<;>omega
      cases ps with
      |nil=>simp at hlast
      |cons q ps=>
       rw[List.getLast?_cons_cons]at hlast
       refine hlast ?_
       cases hg:(q::ps).getLast? with
       |none=>simp at hg
       |some y=>rw[hz y (List.mem_of_getLast? hg)]
     .exact h
    .unfold bW at hs;split at hs<;>omega
   have hpl:bW p<=left:=by omega
   by_cases h0:p=0
   .subst h0
    have hW:XX (g+1) left (0::ps)=Le left 1++(noW (ps.takeWhile (·==0)).length++XX g left (ps.drop (ps.takeWhile (·==0)).length)):=by rw[XX,if_pos rfl]
    have hk:=WH ps
    have hkl:(ps.takeWhile (·==0)).length<=ps.length:=(aOa _).length_le
    rw[hW]at hL⊢
    generalize(ps.takeWhile (·==0)).length=k at*
    have e1:=aFe (L:=L) (A:=A) (C:=noW k++XX g left (ps.drop k)++C) (left:=left) (v:=1) (by rw[hL];simp[aLJ]) hpos (by omega)
    obtain⟨z1,z2,_⟩:=agQ e1 hpos
    have e2:=aJP (L:=L) (k:=k) (A:=A++Le left 1) (C:=XX g left (ps.drop k)++C) (f:=L.length+1) (by rw[hL];simp[aLJ]) (by omega)
    obtain⟨y1,y2,_⟩:=ayJ e2
    have hlast':(ps.drop k).getLast?≠some 0:=by
     intro h
     apply hlast
     have e:(0::ps:List Int)=(0::ps.take k)++ps.drop k:=by rw[aMo,aMz]
     rw[e,List.getLast?_append,h]<;>rfl
    have hsum':xV (ps.drop k)=left:=by
     have:xV ps=xV (List.replicate k 0)+xV (ps.drop k):=by
      conv=>lhs;rw[hk]
      rw[LQ]
     rw[Qe]at this
     have e0:bW 0=0:=rfl
     omega
    have hlen2:(A++Le left 1++noW k).length=A.length+(Le left 1).length+(noW k).length:=by rw[aLs,aLs]
    rw[aLs]at e2 y1
    have e3:=ih (ps:=ps.drop k) (out:=out++0::List.replicate k 0) (left:=left) (f:=f) (A:=A++Le left 1++noW k) (by rw[aLP];omega) (λq hq=>hlo' q (aNh hq)) hsum' hlast'
     (by rw[hL];simp[aLJ]) (by rw[hlen2];omega) (by rw[aLs,aLS,aMr,aLP];omega)
    rw[hlen2]at e3
    rw[rdC,if_neg (by omega),e1]
    simp only[if_true]
    rw[e2]
    simp only
    rw[if_neg (by omega),e3]
    congr 2
    .rw [aLJ,aMo,<-hk]
    .simp only[aLs];omega
   .have hW:XX (g+1) left (p::ps)=Le left (p+1).toNat++XX g (left-(bW p).toNat) ps:=by rw[XX,if_neg h0]
    have hle:p<=bW p:=by unfold bW;split<;>omega
    rw[hW]at hL⊢
    obtain⟨v,hv⟩:∃v:Nat,(p+1).toNat=v:=⟨_,rfl⟩
    have hvp:(v:Int)-1=p:=by omega
    rw[hv]at hL⊢
    have e1:=aFe (L:=L) (A:=A) (C:=XX g (left-(bW p).toNat) ps++C) (left:=left) (v:=v) (by rw[hL];simp[aLJ]) hpos (by omega)
    obtain⟨z1,z2,_⟩:=agQ e1 hpos
    have hlast':ps.getLast?≠some 0:=by
     intro h
     apply hlast
     cases ps with
     |nil=>simp at h
     |cons q ps=>rw[List.getLast?_cons_cons];exact h
    have hlen2:(A++Le left v).length=A.length+(Le left v).length:=aLs
    have e3:=ih (ps:=ps) (out:=out++[p]) (left:=left-(bW p).toNat) (f:=f) (A:=A++Le left v) (by omega) hlo' (by omega) hlast'
     (by rw[hL];simp[aLJ]) (by rw[hlen2];omega) (by rw[aLs,aMg];omega)
    rw[hlen2]at e3
    rw[rdC,if_neg (by omega),e1]
    simp only
    rw[if_neg (by omega),if_neg (by omega),hvp,e3]
    congr 2
    .rw [aLJ]<;>rfl
    .simp only[aLs];omega
def HM(log:Nat)(ps:List Int):List Bool:=cZ (log-5) 4++XX ps.length (2^log) ps
theorem aF9 {log:Nat}{ps:List Int}{C:List Bool}(hm:WS log ps){most:Int}(hmo:(log:Int)<=most){sym:Nat}(hs:ps.length<=sym):
 ajL (HM log ps++C) most sym= .ok (log,ps,((HM log ps).length+7)/8):=by
 have h5:=hm.log5
 have h15:=hm.log15
 have hlen:4<=(HM log ps++C).length:=by unfold HM;rw[aLs,aLs,bM];omega
 have e0:xK (HM log ps++C) 0 4=log-5:=by
  unfold HM
  have:=anE [] (log-5) 4 (XX ps.length (2^log) ps++C) (by omega)
  rw[aL9,aOg,<-aLJ]at this
  exact this
 have hpow:((2^log:Nat):Int)=(2:Int)^log:=by simp
 have e1:=aKc (L:=HM log ps++C) (C:=C) (sym:=sym) (g:=ps.length) (ps:=ps) (out:=[]) (left:=2^log) (f:=(HM log ps++C).length+1) (A:=cZ (log-5) 4) (aLA _) hm.low
  (by rw[hm.sum,hpow]) hm.last (by unfold HM;rw[aLJ]) (by omega) (by rw[aOg];omega)
 rw[bM,aL9]at e1
 unfold ajL
 simp only
 rw[if_neg (by omega),e0,show log-5+5=log from by omega,if_neg (by omega),e1]
 simp only
 congr 4
 unfold HM
 rw[aLs,bM]
end Go.Pu
namespace Go.Proofs.YtoecppploooloaaGreatDoor
open Go Go.En Go.Pu
set_option maxRecDepth 4000
theorem aCP{left:Nat}(h0:0<left)(h1:left<=32768):∃m,bl (left+1)=m+1/\1<=m/\m<=16/\left+1<2^(m+1)/\2^m<=left+1/\2^(m+1)=2*2^m:=by
 have hb2:=Ya (k:=left+1) (by omega)
 have hb3:=adH (left+1)
 have hb4:=vC (k:=left+1) (n:=17) (by omega)
 have hn:2<=bl (left+1):=by
  rcases aLL (bl (left+1)) 2 with h|h
  .have hb1:=Pn (k:=left+1) (by omega)
   have:bl (left+1)=1:=by omega
   rw[this]at hb3;omega
  .exact h
 obtain⟨m,hm⟩:∃m,bl (left+1)=m+1:=⟨bl (left+1)-1,by omega⟩
 rw[hm]at hb2 hb3 hb4 hn⊢
 exact⟨m,rfl,by omega,by omega,hb3,hb2,by rw[aMe,aMb]⟩
end Go.Proofs.YtoecppploooloaaGreatDoor
namespace Go.Pu
open Go Go.En
theorem aEK{L:List Bool}{most:Int}{sym log used:Nat}{ps:List Int}(h:ajL L most sym= .ok (log,ps,used)):(ps.length<=256->WS log ps)/\(log:Int)<=most/\ps.length<=sym:=by
 unfold ajL at h
 split at h
 .cases h
 .simp only at h
  split at h
  .cases h
  .rename_i h1 h2
   have hpow:((2^(xK L 0 4+5):Nat):Int)=(2:Int)^(xK L 0 4+5):=by simp
   have hp:=aLZ (xK L 0 4+5)
   cases hr:rdC L sym (L.length+1) 4 (2^(xK L 0 4+5)) []with
   |error e=>rw[hr]at h;cases h
   |ok x=>
    obtain⟨p,st⟩:=x
    rw[hr]at h
    cases h
    have e0:xV []=0:=rfl
    obtain⟨q1,q2,q3,q4,q5⟩:=acE (tot:=(2:Int)^(xK L 0 4+5)) hr (by simp) (by rw[e0,hpow];omega) (λh=>by omega)
    exact⟨λhs=>⟨by omega,by omega,q5,hs,q4,q1,q2⟩,by omega,q3⟩
theorem ajK{L:List Bool}{sym:Nat}{out:List Int}{stE:Nat}:∀{f st left:Nat} {ps:List Int},rdC L sym f st left ps= .ok (out,stE)->st<=L.length->stE<=L.length
 |0,st,left,ps,h,_=>by cases h
 |f+1,st,left,ps,h,hst=>by
  rw[rdC]at h
  split at h
  .cases h;exact hst
  .rename_i h0
   cases hv:azW L st left with
   |none=>rw[hv]at h;cases h
   |some x=>
    obtain⟨v,st1⟩:=x
    obtain⟨v1,v2,v3⟩:=agQ hv (by omega)
    rw[hv]at h
    simp only at h
    split at h
    .cases hn:noR L (L.length+1) st1 with
     |none=>rw[hn]at h;cases h
     |some y=>
      obtain⟨k,st2⟩:=y
      rw[hn]at h
      simp only at h
      split at h
      .cases h
      .exact ajK h (ayJ hn).2.1
    .split at h
     .cases h
     .exact ajK h v2
theorem azD{L:List Bool}{most:Int}{sym log used:Nat}{ps:List Int}(h:ajL L most sym= .ok (log,ps,used)):8*used<=L.length+7:=by
 unfold ajL at h
 split at h
 .cases h
 .simp only at h
  split at h
  .cases h
  .cases hr:rdC L sym (L.length+1) 4 (2^(xK L 0 4+5)) []with
   |error e=>rw[hr]at h;cases h
   |ok x=>
    obtain⟨p,st⟩:=x
    rw[hr]at h
    cases h
    have:=ajK hr (by omega)
    omega
end Go.Pu
namespace Go.Proofs.YtoecppploooloaaGreatDoor
open Go Go.En Go.Pu
set_option maxRecDepth 4000
def Nc(w:aOm)(base:Nat)(T:Nat×List T3)(v:aOn):Prop:=(T=(0,[])/\v= .agg #[.int .i64 0,.slice none 0 0])∨∃b,Tbl w base b T.1 T.2 v
theorem Nc.nil (w:aOm)(base:Nat):Nc w base (0,[]) (.agg #[.int .i64 0,.slice none 0 0]):= .inl ⟨rfl,rfl⟩
theorem Nc.form {w:aOm}{base:Nat}{T:Nat×List T3}{v:aOn}(h:Nc w base T v):∃a,v= .agg #[.int .i64 T.1,.slice a T.2.length T.2.length]:=by
 rcases h with⟨rfl,rfl⟩|⟨b,rfl,_⟩
 .exact ⟨_,rfl⟩
 .exact ⟨_,rfl⟩
theorem Nc.ext {w w':aOm}{base:Nat}{T:Nat×List T3}{v:aOn}{M:Nat->Prop}(h:Nc w base T v)(x:aN w w' M)(hM:∀b,base<=b->b<w.heap.size->¬M b):Nc w' base T v:=by
 rcases h with h|⟨b,h⟩
 .exact .inl h
 .have hb:=h.2.1
  have hl:=h.2.2.lt
  exact .inr ⟨b,h.ext x (hM b hb hl)⟩
theorem Nc.lower {w:aOm}{base base':Nat}{T:Nat×List T3}{v:aOn}(h:Nc w base T v)(hb:base'<=base):Nc w base' T v:=by
 rcases h with h|⟨b,h1,h2,h3⟩
 .exact .inl h
 .exact .inr ⟨b,h1,by omega,h3⟩
def akC(a mode:Int)(l:List UInt8)(old:Nat×List T3):Except Int ((Nat×List T3)×Nat):=
 if a<0∨2<a∨mode<0∨3<mode then .error 1
 else if mode=0 then .ok ((gvL a,mJ (gvL a) (gvP a)),0)
 else if mode=1 then match l with
  |[]=> .error 10
  |x::_=>if xH a<(x.toNat:Int)then .error 11 else .ok ((0,[((x.toNat:Nat),0,0)]),1)
 else if mode=3 then if old.2=[]then .error 11 else .ok (old,0)
 else match ajL (kO l) (On a) (xH a+1).toNat with
  | .error e=> .error e
  | .ok (lg,ps,u)=> .ok ((lg,mJ lg ps),u)
theorem Tl{a:Int}(h:0<=a/\a<=2):28<=xH a/\xH a<=60:=by
 unfold xH
 split
 .omega
 .split
  .omega
  .rw [if_pos (by omega)];omega
theorem aEg{a:Int}(h:¬(0<=a/\a<=2)):xH a= -1:=by
 unfold xH
 rw[if_neg (by omega),if_neg (by omega),if_neg (by omega)]
structure X0 (k:Nat)(T:Nat×List T3):Prop where
 lg:T.1<=9
 len:T.2.length=2^T.1
 low:Low T.2
 sym:∀e∈T.2,∃c:Nat,e.1=(c:Int)/\c<kA k
 nxt:∀e∈T.2,e.2.2+((2^e.2.1.toNat:Nat):Int)<=(T.2.length:Int)
theorem aD7 {k c:Nat}(hc:c<kA k):X0 k (0,[((c:Int),0,0)]):=by
 refine⟨aMQ _,rfl, ?_, ?_, ?_⟩
 .intro e he;obtain rfl:=aMB.1 he;exact⟨0,rfl,by omega,Int.le_refl _,show(0:Int)<=100000 by decide⟩
 .intro e he;obtain rfl:=aMB.1 he;exact⟨c,rfl,hc⟩
 .intro e he;obtain rfl:=aMB.1 he;show(0:Int)+((2^(0:Int).toNat:Nat):Int)<=((1:Nat):Int);decide
theorem aiC{k lg:Nat}{ps:List Int}(hm:WS lg ps)(h9:lg<=9)(hl:ps.length<=kA k):X0 k (lg,mJ lg ps):=by
 refine⟨h9,gT _ _,axD hm, ?_, ?_⟩
 .intro e he
  obtain⟨i,hi,rfl⟩:=aLY he
  have h2:i<2^lg:=by rw[gT]at hi;exact hi
  obtain⟨s,hs,e,_⟩:=abK hm (zA hm 0) h2
  exact⟨s,by rw[WZ lg ps h2,e],by omega⟩
 .intro e he
  obtain⟨i,hi',rfl⟩:=aLY he
  have hi:=hi'
  rw[gT]at hi
  have hat:=aaJ (ps:=ps) hi
  rw[aLt hi']at hat
  rw[aLW hat]
  have L:=zA hm 0
  obtain⟨s,hs,hg,hp1,hp2,hk,hc⟩:=abK hm L hi
  have hk2:kAt ps (dF 0 lg ps) i<2^(lg+1):=by rw[aMe];omega
  obtain⟨e1,e2,e3,e4⟩:=aoY (log:=lg) (k:=kAt ps (dF 0 lg ps) i) (by omega) hk2
  have hpow:((2^lg:Nat):Int)=(2:Int)^lg:=by simp
  show(Jo lg ps (dF 0 lg ps) i).2.2+((2^(Jo lg ps (dF 0 lg ps) i).2.1.toNat:Nat):Int)<=((mJ lg ps).length:Int)
  rw[gT]
  unfold Jo QF
  rw[<-hpow]
  show((kAt ps (dF 0 lg ps) i*2^(lg+1-bl (kAt ps (dF 0 lg ps) i)):Nat):Int)-((2^lg:Nat):Int)+((2^(((lg+1-bl (kAt ps (dF 0 lg ps) i):Nat):Int)).toNat:Nat):Int)<=((2^lg:Nat):Int)
  rw[aLx]
  rw[aN5,aMe]at e2
  generalize kAt ps (dF 0 lg ps) i*2^(lg+1-bl (kAt ps (dF 0 lg ps) i))=X at*
  generalize 2^(lg+1-bl (kAt ps (dF 0 lg ps) i))=Y at*
  omega
theorem aH7 {k:Nat}(hk:k<3):(gvP (k:Int)).length<=kA k:=by
 rcases(show k=0∨k=1∨k=2 by omega)with rfl|rfl|rfl<;>decide
theorem aAS{k:Nat}(hk:k<3):xH (k:Int)=((kA k:Nat):Int)-1:=by
 rcases(show k=0∨k=1∨k=2 by omega)with rfl|rfl|rfl<;>rfl
theorem apH{k:Nat}(hk:k<3):X0 k (gvL (k:Int),mJ (gvL (k:Int)) (gvP (k:Int))):=
 aiC (axU (by omega)) (by unfold gvL;split<;>(try split)<;>omega) (aH7 hk)
theorem azT{k mode n:Nat}{l:List UInt8}{T T':Nat×List T3}(hk:k<3)(hT:mode=3->T.2≠[]->X0 k T)(h:akC (k:Int) (mode:Int) l T= .ok (T',n)):X0 k T'/\n<=l.length:=by
 have hc53:kA k<=53:=by rcases(show k=0∨k=1∨k=2 by omega)with rfl|rfl|rfl<;>decide
 have hc0:0<kA k:=by rcases(show k=0∨k=1∨k=2 by omega)with rfl|rfl|rfl<;>decide
 unfold akC at h
 rw[aAS hk]at h
 split at h
 .cases h
 split at h
 .cases h;exact⟨apH hk,aMQ _⟩
 split at h
 .split at h
  .cases h
  .split at h
   .cases h
   .cases h
    rename_i hx
    exact⟨aD7 (by omega),by simp⟩
 split at h
 .split at h
  .cases h
  .cases h
   rename_i hm hne
   exact⟨hT (by omega) hne,aMQ _⟩
 .split at h
  .cases h
  .rename_i lg ps u hr
   cases h
   obtain⟨h1,h2,h3⟩:=aEK hr
   have h4:=azD hr
   rw[X9]at h4
   have h5:On (k:Int)<=9:=by unfold On;split<;>(try split)<;>omega
   exact⟨aiC (h1 (by omega)) (by omega) (by omega),by omega⟩
theorem AtI.mono {v:aOn}{lo hi lo' hi':Nat}(h:AtI v lo hi)(h1:lo'<=lo)(h2:hi<=hi'):AtI v lo' hi':=λM hM=>h M λb hb hh=>hM b (by omega) (by omega)
def RB(w:aOm)(lo hi:Nat)(b:aOn)(L:List Bool)(lack:Nat):Prop:=∃v,b= .agg #[v,.int .i64 lack]/\Bl w v L/\AtI v lo hi
theorem RB.ext {w w':aOm}{lo hi lack:Nat}{b:aOn}{L:List Bool}{M:Nat->Prop}(h:RB w lo hi b L lack)(hx:aN w w' M)(hM:∀b,lo<=b->b<hi->¬M b):RB w' lo hi b L lack:=by
 obtain⟨v,h1,h2,h3⟩:=h
 exact⟨v,h1,h2.ext hx (h3 M hM),h3⟩
theorem aGA{a b:Nat}(ha:a<2^62)(hb:b<2^62):orI .i64 (a:Int) (b:Int)=((a|||b:Nat):Int):=by
 have h:=aN9 ha hb
 unfold orI
 have e:IntKind.i64.bits=64:=rfl
 rw[e,BitVec.ofInt_natCast,BitVec.ofInt_natCast,BitVec.toNat_or,BitVec.toNat_ofNat,BitVec.toNat_ofNat,aLV (by omega),aLV (by omega)]
 exact cX (by omega) (by have:((a|||b:Nat):Int)<((2^62:Nat):Int):=by exact_mod_cast h
                         omega)
abbrev TT:=Nat×List T3
def mk2 (m k:Nat):Nat:=m/2^(6-2*k)%4
def upT(t:Nat->TT)(k:Nat)(x:TT):Nat->TT:=λi=>if i=k then x else t i
def aCM(m:Nat)(o:Nat->TT):Nat->(Nat->TT)->List UInt8->Except Int ((Nat->TT)×List UInt8)
 |0,t,l=> .ok (t,l)
 |j+1,t,l=>match akC ((2-j:Nat):Int) ((mk2 m (2-j):Nat):Int) l (o (2-j))with
  | .error e=> .error e
  | .ok (x,n)=>aCM m o j (upT t (2-j) x) (l.drop n)
def runT(t:Nat->TT)(B:List Bool)(n:Nat)(k:Int):List Sq×Int:=
 sqR (t 0).2 (t 1).2 (t 2).2 B n (rdL B k (t 0).1:Nat) (rdL B (k-(t 0).1) (t 1).1:Nat) (rdL B (k-(t 0).1-(t 1).1) (t 2).1:Nat) (k-(t 0).1-(t 1).1-(t 2).1)
def aDy(t:Nat->TT)(n:Nat)(l:List UInt8):Except Int (List Sq×(Nat->TT)):=match asY l with
 |none=> .error 11
 |some k=>if(runT t (kO l) n k).2<0 then .error 11 else if 0<(runT t (kO l) n k).2 then .error 15 else .ok ((runT t (kO l) n k).1,t)
def aHy(o:Nat->TT)(n:Nat):List UInt8->Except Int (List Sq×(Nat->TT))
 |[]=> .error 10
 |m::l=>if m.toNat%4≠0 then .error 11 else match aCM m.toNat o 3 o l with
  | .error e=> .error e
  | .ok (t,r)=>aDy t n r
def aEL(l:List UInt8)(o:Nat->TT):Except Int (List Sq×(Nat->TT)):=match auO l with
 | .error e=> .error e
 | .ok (n,r)=>if n=0 then(if r=[]then .ok ([],o)else .error 15)else aHy o n r
theorem aA2 {w:aOm}{b:Nat}{cs cs':List aOn}(h:aZ w b cs)(h':aZ w b cs'):cs=cs':=by
 obtain⟨T,lo,hi,h1,_⟩:=h
 obtain⟨T',lo',hi',h2,_⟩:=h'
 rw[h1]at h2
 have h3:=aLW h2
 injection h3 with h4
 simpa using congrArg Array.toList h4
theorem Nc.own {w w':aOm}{base p:Nat}{T:TT}{v:aOn}{cs:List aOn}(h:Nc w base T v)(o:aZ w p cs)(h0:0<cs.length)(hc:∀u,cs[0]?≠some (.int .u8 u))(x:aN w w' (λy=>y=p)):Nc w' base T v:=by
 rcases h with h|⟨b,h1,h2,h3⟩
 .exact .inl h
 .refine .inr ⟨b,h1,h2,h3.ext x ?_⟩
  rintro rfl
  have e:=aA2 h3 o
  subst e
  cases hT:T.2 with
  |nil=>rw[hT]at h0;simp[fe]at h0
  |cons a r=>
   have:=(aGe (k:= .u8) (L:=T.2) (i:=0) (e:=a) (by rw[hT]<;>rfl)).1
   exact hc _ this
def tvL(T:TT)(a:Option Addr):aOn:= .agg #[.int .i64 T.1,.slice a T.2.length T.2.length]
def c6 (o:Nat->TT)(a:Nat->Option Addr):List aOn:=[.int .i64 (o 0).1,.slice (a 0) (o 0).2.length (o 0).2.length,.int .i64 (o 1).1,.slice (a 1) (o 1).2.length (o 1).2.length,.int .i64 (o 2).1,.slice (a 2) (o 2).2.length (o 2).2.length]
def Tb3 (w:aOm)(o:Nat->TT)(a:Nat->Option Addr):Prop:=∀k,k<3->Nc w 0 (o k) (tvL (o k) (a k))
theorem Tb3.ext {w w':aOm}{o:Nat->TT}{a:Nat->Option Addr}(h:Tb3 w o a)(x:aN w w' bJ):Tb3 w' o a:=λk hk=>(h k hk).ext x λ_ _ _ h=>h
theorem Tb3.own {w w':aOm}{o:Nat->TT}{a:Nat->Option Addr}{p:Nat}{cs:List aOn}(h:Tb3 w o a)(ho:aZ w p cs)(h0:0<cs.length)(hc:∀u,cs[0]?≠some (.int .u8 u))(x:aN w w' (λy=>y=p)):Tb3 w' o a:=λk hk=>(h k hk).own ho h0 hc x
def upA(a:Nat->Option Addr)(k:Nat)(x:Option Addr):Nat->Option Addr:=λi=>if i=k then x else a i
theorem aHg(o:Nat->TT)(a:Nat->Option Addr){k:Nat}(h:k<3):((c6 o a).drop (k*2)).take 2=[.int .i64 (o k).1,.slice (a k) (o k).2.length (o k).2.length]:=by
 rcases(show k=0∨k=1∨k=2 by omega)with rfl|rfl|rfl<;>rfl
theorem aHU(o:Nat->TT)(a:Nat->Option Addr){k:Nat}(h:k<3)(T:TT)(x:Option Addr):aT (c6 o a) (k*2) [.int .i64 T.1,.slice x T.2.length T.2.length]=c6 (upT o k T) (upA a k x):=by
 rcases(show k=0∨k=1∨k=2 by omega)with rfl|rfl|rfl<;>rfl
def upS(st:Nat->Nat)(k x:Nat):Nat->Nat:=λi=>if i=k then x else st i
def aCd(r:Nat):Nat:=if r=0 then 0 else if r=1 then 2 else 1
theorem aGB(r:Nat):aCd r<3:=by unfold aCd;split<;>(try split)<;>omega
def v3 (t:Nat->TT)(B:List Bool)(st:Nat->Nat)(left:Int):Sq×Int:=
 let o:=vR 1 (t 1).2 (st 1:Nat) B left
 let m:=vR 2 (t 2).2 (st 2:Nat) B o.2
 let l:=vR 0 (t 0).2 (st 0:Nat) B m.2
 (⟨l.1,m.1,o.1⟩,l.2)
theorem Nc.tbl {w:aOm}{base:Nat}{T:TT}{v:aOn}(h:Nc w base T v)(h0:0<T.2.length):∃b,Tbl w base b T.1 T.2 v:=by
 rcases h with⟨e,_⟩|h
 .rw [e]at h0;simp at h0
 .exact h
def s3L (st:Nat->Nat):List aOn:=[.int .i64 (st 0:Nat),.int .i64 (st 1:Nat),.int .i64 (st 2:Nat)]
theorem aHw(st:Nat->Nat){k:Nat}(h:k<3):(s3L st)[k]?=some (.int .i64 (st k:Nat)):=by
 rcases(show k=0∨k=1∨k=2 by omega)with rfl|rfl|rfl<;>rfl
theorem aES(st:Nat->Nat){k:Nat}(h:k<3)(x:Nat):(s3L st).set k (.int .i64 (x:Nat))=s3L (upS st k x):=by
 rcases(show k=0∨k=1∨k=2 by omega)with rfl|rfl|rfl<;>rfl
theorem Bwd.hd {w:aOm}{lo hi:Nat}{l:List UInt8}{left:Int}(h:Bwd w lo hi l left):∃cs,aZ w hi cs/\∀u,cs[0]?≠some (.int .u8 u):=by
 obtain⟨v,h1,h2,h3⟩:=h
 obtain⟨va,vc,rfl,_⟩:=h2.len
 exact⟨_,h1,λu=>by simp⟩
def sqc(q:Sq):List aOn:=[.int .u32 q.ll,.int .u32 q.ml,.int .u32 q.of]
def sqs(l:List Sq):List aOn:=l.flatMap sqc
theorem Bwd.hd0 {w:aOm}{lo hi:Nat}{l:List UInt8}{left:Int}{cs:List aOn}(h:Bwd w lo hi l left)(o:aZ w hi cs):0<cs.length:=by
 obtain⟨v,h1,_⟩:=h
 rw[aA2 o h1];simp
def kv(q:Sq)(k:Nat):Nat:=if k=0 then q.ll else if k=1 then q.of else q.ml
def kvL(q:Sq):List aOn:=[.int .u32 (kv q 0:Nat),.int .u32 (kv q 1:Nat),.int .u32 (kv q 2:Nat)]
theorem aIe(q:Sq){k:Nat}(h:k<3):(kvL q).toArray[k]?=some (.int .u32 (kv q k:Nat)):=by
 rcases(show k=0∨k=1∨k=2 by omega)with rfl|rfl|rfl<;>rfl
theorem awE(q:Sq)(w:aOm):aK pg nI #[.agg (sqc q).toArray] w (λr w'=>r= .agg (kvL q).toArray/\aN w w' bJ):=by
 refine RZ ?_
 unfold OL H8
 refine fC λw1 o1 x1 s1=> ?_
 have o1:aZ w1 w.heap.size (sqc q):=o1
 refine VE λw2 o2 x2 s2=> ?_
 have o1:=o1.ext x2 (λh=>h)
 have z1:=x1.size
 have c0:=o1.cell (off:=0)
 have c1:=o1.cell (off:=1)
 have c2:=o1.cell (off:=2)
 simp only[sqc,aLu,aLw]at c0 c1 c2
 simp(disch:=omega)only[SV,c0,c1,c2]
 refine T7 o2 rfl (by simp[one]) (by simp) λw3 o3 x3 s3=> ?_
 refine aiP o3 (by simp[aT]) ?_
 simp only[aT,aLy,aLB,aLE,aLC,aLK]
 exact⟨rfl,(x1.seq x2).new x3 (by omega)⟩
theorem aoL{w w':aOm}{sz n:Nat}{v:aOn}{l:List aOn}{M:Nat->Prop}(h:Cl w sz v n l)(x:aN w w' M)(hM:¬JN v M)(hs:0<sz):Cl w' sz v n l:=by
 obtain⟨a,c,rfl,h1,h2⟩:=h
 refine⟨a,c,rfl,h1,λh0=> ?_⟩
 obtain⟨b,off,rfl,h3⟩:=h2 h0
 refine⟨b,off,rfl,λi hi=> ?_⟩
 have h4:=h3 i hi
 rw[aLt hi]at h4⊢
 refine asK h4 x λhb=>hM ?_
 obtain⟨n,rfl⟩:∃m,n=m+1:=⟨n-1,by omega⟩
 exact hb
theorem aGU{l:List Sq}{i:Nat}{q:Sq}(h:l[i]?=some q):((sqs l).drop (i*3)).take 3=sqc q:=by
 induction l generalizing i with
 |nil=>simp at h
 |cons a l ih=>
  have e:sqs (a::l)=sqc a++sqs l:=rfl
  rw[e]
  cases i with
  |zero=>
   simp only[aLu,aNR]at h
   subst h
   simp[sqc]
  |succ i=>
   simp only[aLw]at h
   have hl:(sqc a).length=3:=rfl
   rw[show(i+1)*3=3+i*3 by omega,List.drop_append,hl,show 3+i*3-3=i*3 by omega,aMI (by omega),aL9]
   exact ih h
theorem aA5 {l:List Sq}{v:aOn}{w:aOm}(h:Cl w 3 v l.length (sqs l)){i:Nat}{q:Sq}(hq:l[i]?=some q):∃b off c,v= .slice (some ⟨b,off,none⟩) l.length c/\
 (∀w',(∀x,w'.cell? x=w.cell? x)->(aH 84 (.pointer (some ⟨b,off+i*3,none⟩))).run pg w'= .ok (.value (.agg (sqc q).toArray)) w'):=by
 obtain⟨a,c,rfl,h1,h2⟩:=h
 have hi:i<l.length:=by
  rcases aLL i l.length with h|h
  .exact h
  .rw [aLH h]at hq;cases hq
 obtain⟨b,off,rfl,h3⟩:=h2 (by omega)
 refine⟨b,off,c,rfl,λw' hw=>abO (l:=sqc q) rfl λj hj=> ?_⟩
 have hj3:j<3:=hj
 have h4:=h3 (i*3+j) (by rw[h1];omega)
 rw[hw,aMM,h4,<-aGU hq,aLX hj3,aMA]
structure C3 (w:aOm)(base:Nat)(L:Nat->List Nat)(v:Nat->aOn)(D:Nat->Nat->Prop):Prop where
 row:∀k,k<3->Ah w (D k) 1 (v k) (L k).length ((L k).map λ(n:Nat)=>Value.int .i64 n)
 bd:∀k,k<3->∀b,D k b->base<=b/\b<w.heap.size
 sep:∀j,j<3->∀k,k<3->j≠k->∀b,D j b->¬D k b
theorem C3.ext {w w':aOm}{base:Nat}{L:Nat->List Nat}{v:Nat->aOn}{D:Nat->Nat->Prop}{M:Nat->Prop}(h:C3 w base L v D)(x:aN w w' M)(hM:∀b,base<=b->b<w.heap.size->¬M b):C3 w' base L v D:=
 ⟨λk hk=>(h.row k hk).ext x λb hb=>hM b (h.bd k hk b hb).1 (h.bd k hk b hb).2,λk hk b hb=>⟨(h.bd k hk b hb).1,by have:=(h.bd k hk b hb).2;have:=x.size;omega⟩,h.sep⟩
def upL(L:Nat->List Nat)(k:Nat)(x:List Nat):Nat->List Nat:=λi=>if i=k then x else L i
def upV(v:Nat->aOn)(k:Nat)(x:aOn):Nat->aOn:=λi=>if i=k then x else v i
theorem C3.app {w w':aOm}{base k:Nat}{L:Nat->List Nat}{v:Nat->aOn}{D:Nat->Nat->Prop}{x:aOn}{c:List Nat}(h:C3 w base L v D)(hk:k<3)(hb:base<=w.heap.size)
 (o:Ah w' (λb=>D k b∨w.heap.size<=b) 1 x c.length (c.map λ(n:Nat)=>Value.int .i64 n)) (y:aN w w' (λb=>D k b∨w.heap.size<=b)):C3 w' base (upL L k c) (upV v k x) (λj b=>if j=k then(D k b∨w.heap.size<=b)/\b<w'.heap.size else D j b):=by
 have hz:=y.size
 refine⟨λj hj=> ?_,λj hj b hb'=> ?_,λi hi j hj hij b hbi hbj=> ?_⟩
 .by_cases he:j=k
  .subst he
   have e1:upL L j c j=c:=by unfold upL;rw[if_pos rfl]
   have e2:upV v j x j=x:=by unfold upV;rw[if_pos rfl]
   rw[e1,e2]
   simp only[if_true]
   refine⟨o.1, ?_⟩
   rcases o.2 with h2|⟨b,cc,rest,h1,h2,h3,h4,h5⟩
   .exact .inl h2
   .exact .inr ⟨b,cc,rest,h1,⟨h2,h3.lt⟩,h3,h4,h5⟩
  .have e1:upL L k c j=L j:=by unfold upL;rw[if_neg he]
   have e2:upV v k x j=v j:=by unfold upV;rw[if_neg he]
   rw[e1,e2]
   simp only[if_neg he]
   refine(h.row j hj).ext y λb hb hb2=> ?_
   rcases hb2 with hb2|hb2
   .exact h.sep j hj k hk he b hb hb2
   .have:=(h.bd j hj b hb).2;omega
 .by_cases he:j=k
  .simp only[if_pos he]at hb'
   rcases hb'.1 with h1|h1
   .exact ⟨(h.bd k hk b h1).1,hb'.2⟩
   .exact ⟨by omega,hb'.2⟩
  .simp only[if_neg he]at hb'
   have:=h.bd j hj b hb'
   exact⟨this.1,by omega⟩
 .by_cases he:i=k
  .have hj':j≠k:=λh=>hij (by rw[he,h])
   simp only[if_pos he,if_neg hj']at hbi hbj
   rcases hbi.1 with h1|h1
   .exact h.sep j hj k hk hj' b hbj h1
   .have:=(h.bd j hj b hbj).2;omega
  .simp only[if_neg he]at hbi
   by_cases hj':j=k
   .simp only[if_pos hj']at hbj
    rcases hbj.1 with h1|h1
    .exact h.sep i hi k hk he b hbi h1
    .have:=(h.bd i hi b hbi).2;omega
   .simp only[if_neg hj']at hbj
    exact h.sep i hi j hj hij b hbi hbj
def WR(k:Nat)(l:List Sq)(L:List Nat):Prop:=L.length=l.length/\∀(i:Nat) (q:Sq) (c:Nat),l[i]?=some q->L[i]?=some c->xX k (kv q k) c
theorem WR.snoc {k:Nat}{l:List Sq}{L:List Nat}{q:Sq}{c:Nat}(h:WR k l L)(hc:xX k (kv q k) c):WR k (l++[q]) (L++[c]):=by
 refine⟨by rw[aLs,aLs,h.1]<;>rfl,λi p d hp hd=> ?_⟩
 rcases aLL i l.length with hi|hi
 .rw [aLU hi]at hp
  rw[aLU (by rw[h.1];exact hi)]at hd
  exact h.2 i p d hp hd
 .rw [aL0 hi]at hp
  rw[aL0 (by rw[h.1];exact hi),h.1]at hd
  rcases aMC (i-l.length)with h0|h0
  .rw [h0]at hp hd
   cases hp;cases hd;exact hc
  .rw [aLH (by simp;omega)]at hp;cases hp
def vL(v:Nat->aOn):List aOn:=[v 0,v 1,v 2]
theorem aBa(v:Nat->aOn){k:Nat}(h:k<3):(vL v)[k]?=some (v k):=by
 rcases(show k=0∨k=1∨k=2 by omega)with rfl|rfl|rfl<;>rfl
theorem aIQ(v:Nat->aOn){k:Nat}(h:k<3)(x:aOn):(vL v).set k x=vL (upV v k x):=by
 rcases(show k=0∨k=1∨k=2 by omega)with rfl|rfl|rfl<;>rfl
def aDg(w:aOm)(base:Nat)(l:List Sq)(r:aOn):Prop:=
 (∃v D L,r= .tuple #[.agg (vL v).toArray,.int .i64 0]/\C3 w base L v D/\∀k,k<3->WR k l (L k))∨
 ((∃q∈l,∃k,k<3/\∀c,¬xX k (kv q k) c)/\∃x y z:Option Addr×Nat×Nat,r= .tuple #[.agg #[.slice x.1 x.2.1 x.2.2,.slice y.1 y.2.1 y.2.2,.slice z.1 z.2.1 z.2.2],.int .i64 1])
theorem C3.lower {w:aOm}{base base':Nat}{L:Nat->List Nat}{v:Nat->aOn}{D:Nat->Nat->Prop}(h:C3 w base L v D)(hb:base'<=base):C3 w base' L v D:=
 ⟨h.row,λk hk b hd=>⟨by have:=(h.bd k hk b hd).1;omega,(h.bd k hk b hd).2⟩,h.sep⟩
theorem C3.ones {w:aOm}{base:Nat}{L:Nat->List Nat}{v:Nat->aOn}{D:Nat->Nat->Prop}(h:C3 w base L v D):∀x∈vL v,one x=true:=by
 intro x hx
 have:∀k,k<3->one (v k)=true:=λk hk=>by
  obtain⟨a,c,e⟩:=(h.row k hk).len
  rw[e]<;>rfl
 rcases aMd.1 hx with rfl|hx
 .exact this 0 (by omega)
 rcases aMd.1 hx with rfl|hx
 .exact this 1 (by omega)
 rcases aMd.1 hx with rfl|hx
 .exact this 2 (by omega)
 .cases hx
theorem C3.form {w:aOm}{base:Nat}{L:Nat->List Nat}{v:Nat->aOn}{D:Nat->Nat->Prop}(h:C3 w base L v D):∃x y z:Option Addr×Nat×Nat,v 0= .slice x.1 x.2.1 x.2.2/\v 1= .slice y.1 y.2.1 y.2.2/\v 2= .slice z.1 z.2.1 z.2.2:=by
 obtain⟨a0,c0,e0⟩:=(h.row 0 (by omega)).len
 obtain⟨a1,c1,e1⟩:=(h.row 1 (by omega)).len
 obtain⟨a2,c2,e2⟩:=(h.row 2 (by omega)).len
 exact⟨(a0,_,c0),(a1,_,c1),(a2,_,c2),e0,e1,e2⟩
theorem aHf{p:Nat}{w:aOm}{v0 v1 v2:aOn}{c:List aOn}{e:aOn}(o:aZ w p c)(hc:c.length=3)(h0:one v0=true)(h1:one v1=true)(h2:one v2=true){RR:aOn->aOm->Prop}
 (hR:∀w',aN w w' (λy=>y=p)->RR (.tuple #[.agg #[v0,v1,v2],e]) w'):
 aA pg (aM 131 (.pointer (some ⟨p,0,none⟩)) (.agg #[v0,v1,v2])) w λ_u w=>vV pg 131 (.pointer (some ⟨p,0,none⟩)) w λr0=>RR (.tuple #[r0,e]) w:=by
 match c,hc with
 |[c0,c1,c2],_=>
  refine Kw o rfl (by simp[h0,h1,h2]) (by simp) λw6 o6 x6 s6=> ?_
  refine aiO o6 (by simp[aT]) ?_
  simp only[aT,aLy,aLB,aLE,aLC,aLK]
  exact hR _ x6
theorem aFY{lv:aOn}{l:List Sq}{w:aOm}(hg:xZ w)(h:Cl w 3 lv l.length (sqs l))(hu:∀q∈l,∀k,kv q k<4294967296)(hl:l.length<=1000000):
 aK pg wX #[lv] w (λr w'=>aDg w' w.heap.size l r/\aN w w' bJ):=by
 refine T1 ?_
 obtain⟨RR,hRR⟩:∃RR:aOn->aOm->Prop,RR=λr w'=>aDg w' w.heap.size l r/\aN w w' bJ:=⟨_,rfl⟩
 rw[<-hRR]
 have hf:=h
 obtain⟨la,lc,rfl,_⟩:=hf
 unfold Q9 H6 H5
 refine FV λw1 o1 x1 s1=> ?_
 refine FV λw2 o2 x2 s2=> ?_
 have o1:=o1.ext x2 (λh=>h)
 have x02:=x1.seq x2
 obtain⟨pt,hpt⟩:∃pt,pt=w.heap.size:=⟨_,rfl⟩
 obtain⟨po,hpo⟩:∃po,po=w1.heap.size:=⟨_,rfl⟩
 rw[<-hpt]at o1⊢
 rw[<-hpo]at o2⊢
 have hg2:=hg.ext x02
 unfold As Ar H4
 simp(disch:=omega)only[SV]
 unfold rQ
 refine aX.rule (λm (t:aOn) w'=>∃(i:Nat) (v:Nat->aOn) (D:Nat->Nat->Prop) (L:Nat->List Nat),m=l.length-i/\i<=l.length/\t= .int .i64 i/\aZ w' po (vL v)/\C3 w' w2.heap.size L v D/\(∀k,k<3->WR k (l.take i) (L k))/\(∀q∈l.take i,∀k,k<3->∃c,xX k (kv q k) c)/\aN w2 w' (λy=>y=po)) l.length
  ⟨0,λ_=> .slice none 0 0,λ_ _=>False,λ_=>[],rfl,by omega,rfl,o2,⟨λk _=>⟨rfl,.inl ⟨rfl,rfl⟩⟩,λ_ _ _ h=>h.elim,λ_ _ _ _ _ _ h=>h.elim⟩,λk _=>⟨rfl,λi q c h=>by simp at h⟩,λq hq=>by simp at hq,aN.refl _ _⟩ ?_
 rintro m t w3 ⟨i,v,D,L,rfl,hi,rfl,o3,hC,hK,hA,x3⟩
 unfold Aq H3
 have o13:=o1.ext x3 (by omega)
 have z2:=x02.size
 have z3:=x3.size
 have x03:aN w w3 bJ:=x02.trans x3 λb hb h=>by omega
 by_cases hlt:i<l.length
 rotate_left
 .obtain rfl:i=l.length:=by omega
  have d1:decide ((l.length:Int)<(l.length:Int))=false:=by simp
  have l3:=JQ (off:=0) o3 (by simp[vL])
  simp only[vL,aLE,aLC,aLK]at l3
  obtain⟨y0,y1,y2,e0,e1,e2⟩:=hC.form
  simp(disch:=omega)only[SV,d1,l3]
  unfold BQ
  simp(disch:=omega)only[SV,l3]
  refine aHf o13 rfl (by rw[e0]<;>rfl) (by rw[e1]<;>rfl) (by rw[e2]<;>rfl) λw' x=> ?_
  rw[hRR]
  refine⟨.inl ⟨v,D,L,rfl,(hC.ext x λb h1 h2 h3=>by omega).lower (by omega), ?_⟩,x03.new x (by omega)⟩
  rw[aNv]at hK
  exact hK
 have d1:decide ((i:Int)<(l.length:Int))=true:=by simp;omega
 obtain⟨q,hq⟩:∃q,l[i]?=some q:=⟨_,aLt hlt⟩
 have hqm:=aMm hq
 obtain⟨b,off,c,e,lq⟩:=aA5 (aoL h x03 (aU _) (by omega)) hq
 cases e
 have lq3:=lq w3 (λ_=>rfl)
 simp only[sqc]at lq3
 simp(disch:=omega)only[SV,d1,lq3,aLx]
 unfold BU BT Kl
 simp(disch:=omega)only[SV,d1,lq3,aLx]
 refine G9 λw4 o4 x4 s4=> ?_
 refine Fo o4 rfl (by simp[one]) (by simp) λw5 o5 x5 s5=> ?_
 have o5:aZ w5 w3.heap.size (sqc q):=o5
 have x35:aN w3 w5 bJ:=x4.new x5 (aLA _)
 have l5:=EW (off:=0) o5 (by simp[sqc])
 simp only[sqc,aLE,aLC,aLK]at l5
 simp(disch:=omega)only[SV,l5]
 refine(awE q _).mono ?_
 rintro r w6 ⟨rfl,x6⟩
 have x36:=x35.seq x6
 have z36:=x36.size
 unfold uE
 refine aX.rule (λm (t:aOn) w'=>∃(j:Nat) (v:Nat->aOn) (D:Nat->Nat->Prop) (L:Nat->List Nat),m=j/\j<=3/\t= .int .i64 (3-j:Nat)/\aZ w' po (vL v)/\C3 w' w2.heap.size L v D/\(∀k,k<3->WR k (if k<3-j then l.take (i+1)else l.take i) (L k))/\(∀k,k<3-j->∃c,xX k (kv q k) c)/\aN w2 w' (λy=>y=po)) 3
  ⟨3,v,D,L,rfl,aLA _,rfl,o3.ext x36 (λh=>h),hC.ext x36 (λ_ _ _ h=>h),λk hk=>by rw[if_neg (by omega)];exact hK k hk,λk hk=>by omega,x3.more x36⟩ ?_
 rintro j t w7 ⟨n,v7,D7,L7,rfl,hj,rfl,o7,hC7,hK7,hA7,x7⟩
 have z7:=x7.size
 have x07:aN w w7 bJ:=x02.trans x7 λb hb h=>by omega
 have hgw:=hg.ext x07
 have htk:l.take (i+1)=l.take i++[q]:=by rw[aMG,hq]<;>rfl
 unfold BS
 rcases j with _|j
 .have d2:decide (((3-0:Nat):Int)<3)=false:=rfl
  have e1:(i:Int)+1=((i+1:Nat):Int):=by omega
  simp(disch:=omega)only[SV,d2]
  unfold BR
  simp(disch:=omega)only[SV,e1]
  refine⟨l.length-(i+1),by omega,i+1,v7,D7,L7,rfl,by omega,rfl,o7,hC7,λk hk=> ?_,λp hp k hk=> ?_,x7⟩
  .have:=hK7 k hk
   rw[if_pos (by omega)]at this
   exact this
  .rw [htk]at hp
   rcases aMq.1 hp with hp|hp
   .exact hA p hp k hk
   .obtain rfl:=aMB.1 hp
    exact hA7 k (by omega)
 obtain⟨k,hkk⟩:∃k,k=2-j:=⟨_,rfl⟩
 have hk3:k<3:=by omega
 have ek:((3-(j+1):Nat):Int)=(k:Int):=by omega
 have hk2:3-(j+1)=k:=by omega
 have d2:decide ((k:Int)<3)=true:=by simp;omega
 rw[ek]
 rw[hk2]at hK7 hA7
 have hx:=aIe q hk3
 simp(disch:=omega)only[SV,d2,hx,aLx]
 refine(aKK hgw hk3 (hu q hqm k)).mono ?_
 rintro r w8 ⟨hr,x8⟩
 have x78:=x8
 have z8:=x8.size
 have o8:=o7.ext x8 (λh=>h)
 have hC8:=hC7.ext x8 (λ_ _ _ h=>h)
 have o18:=(o1.ext x7 (by omega)).ext x8 (λh=>h)
 rcases hr with⟨c,hcv,rfl⟩|⟨hno,rfl⟩
 rotate_left
 .have n1:((17:Int) !=0)=true:=rfl
  have l8:=JQ (off:=0) o8 (by simp[vL])
  simp only[vL,aLE,aLC,aLK]at l8
  obtain⟨y0,y1,y2,e0,e1,e2⟩:=hC8.form
  simp(disch:=omega)only[SV,n1,l8]
  refine aHf o18 rfl (by rw[e0]<;>rfl) (by rw[e1]<;>rfl) (by rw[e2]<;>rfl) λw' x=> ?_
  rw[hRR]
  refine⟨.inr ⟨⟨q,hqm,k,hk3,hno⟩,y0,y1,y2,by rw[e0,e1,e2]⟩,(x07.seq x8).new x (by omega)⟩
 have n1:((0:Int) !=0)=false:=rfl
 have c8:=o8.cell (off:=k)
 rw[aBa _ hk3]at c8
 obtain⟨va,vc,ev⟩:=(hC8.row k hk3).len
 simp(disch:=omega)only[SV,n1,c8,aLx]
 refine aBw (cells:= #[.int .i64 (c:Nat)]) (by decide) (by decide) (by kernel_rfl) λw9 o9 x9 s9=> ?_
 have o9:aZ w9 w8.heap.size [.int .i64 (c:Nat)]:=o9
 have hlen:(L7 k).length<=l.length:=by
  have:=(hK7 k hk3).1
  rw[this]
  split
  .rw [aLD];omega
  .rw [aLD];omega
 have hC9:=hC8.ext x9 (λ_ _ _ h=>h)
 have hb9:∀b,w9.heap.size<=b->(D7 k b∨w9.heap.size<=b):=λb hb=> .inr hb
 have os9:Ah w9 (λb=>D7 k b∨w9.heap.size<=b) 1 (v7 k) (L7 k).length ((L7 k).map λ(n:Nat)=>Value.int .i64 n):=by
  have:=hC9.row k hk3
  refine⟨this.1, ?_⟩
  rcases this.2 with h2|⟨b,cc,rest,h1,h2,h3⟩
  .exact .inl h2
  .exact .inr ⟨b,cc,rest,h1,.inl h2,h3⟩
 refine qN (m:=1) (news:=[.int .i64 (c:Nat)]) (i:=Tryz.t3) Tryz.underlying117 Tryz.underlying117 Cr rfl rfl rfl os9 (o9.cl (off:=0) (l:=[.int .i64 (c:Nat)]) (n:=1) rfl (λi hi=>by rw[aLI])) (by simp[one]) hb9 (by omega) (by rw[show Tryz.t3.bytes=8 from rfl];omega) (by decide) λv10 w10 o10 x10=> ?_
 have z9:=x9.size
 have hC10:=hC9.app (c:=L7 k++[c]) hk3 (by omega) (by rw[aLs,aL2];exact o10) x10
 have hpo2:po<w2.heap.size:=by omega
 have o10p:aZ w10 po (vL v7):=(o8.ext x9 (λh=>h)).ext x10 (λh=>by
  rcases h with h|h
  .have:=(hC9.bd k hk3 po h).1;omega
  .omega)
 obtain⟨va',vc',ev'⟩:=o10.len
 refine aCG o10p (by rw[ev']<;>rfl) (by simp[vL];omega) λw11 o11 x11 s11=> ?_
 rw[aIQ _ hk3]at o11
 have e1:(k:Int)+1=((3-j:Nat):Int):=by omega
 simp(disch:=omega)only[SV,e1]
 refine⟨j,by omega,j,_,_,_,rfl,by omega,rfl,o11,hC10.ext x11 (λb hb _ h=>by omega),λi' hi'=> ?_,λi' hi'=> ?_, ?_⟩
 .unfold upL
  by_cases he:i'=k
  .subst he
   rw[if_pos rfl,if_pos (by omega),htk]
   have:=hK7 i' hi'
   rw[if_neg (by omega)]at this
   exact this.snoc hcv
  .rw [if_neg he]
   have:=hK7 i' hi'
   by_cases hlt':i'<k
   .rw [if_pos hlt']at this
    rw[if_pos (by omega)];exact this
   .rw [if_neg hlt']at this
    rw[if_neg (by omega)];exact this
 .by_cases he:i'=k
  .rw [he];exact⟨c,hcv⟩
  .exact hA7 i' (by omega)
 .have x29:aN w2 w9 (λy=>y=po):=(x7.more x8).more x9
  refine(x29.trans x10 λb hb h=> ?_).seq x11
  rcases h with h|h
  .have:=(hC9.bd k hk3 b h).1;omega
  .have:=x29.size;omega
def aDd(L:List T3)(s sy:Int)(r:aOn):Prop:=
 (∃(i:Nat) (e:T3),L[i]?=some e/\inE sy s e=true/\r= .tuple #[.int .i64 (i:Nat),.int .u64 (s-e.2.2),.int .i64 e.2.1,.int .i64 0])∨
 ((∀(i:Nat) (e:T3),L[i]?=some e->inE sy s e=false)/\r= .tuple #[.int .i64 0,.int .u64 0,.int .i64 0,.int .i64 21])
theorem aDu{w:aOm}{base b log:Nat}{L:List T3}{v:aOn}(h:Tbl w base b log L v)(hL:Low L)(hl:L.length<=1000000)(s:Nat)(hs:s<L.length)(sy:Int):
 aK pg Iw #[v,.int .i64 s,.int .u8 sy] w (λr w'=>aDd L s sy r/\aN w w' bJ):=by
 refine aeZ ?_
 obtain⟨rfl,hb,ob⟩:=h
 unfold ahW V2 V1
 refine fC λw1 o1 x1 s1=> ?_
 have c1:=o1.cell (off:=1)
 simp only[Value.cells,aLu,aLw]at c1
 have d1:decide ((s:Int)<0)=false:=by simp
 have d2:decide ((L.length:Int)<=(s:Int))=false:=by simp;omega
 simp(disch:=omega)only[SV,c1,d1,d2]
 unfold Ms Mr V0 F2
 simp(disch:=omega)only[SV,c1]
 refine aX.rule (λm t w'=>∃i:Nat,m=L.length-i/\t= .int .i64 i/\i<=L.length/\(∀(j:Nat) (e:T3),j<i->L[j]?=some e->inE sy s e=false)/\aN w w' bJ) L.length ⟨0,rfl,rfl,by omega,λj e hj=>by omega,x1⟩ ?_
 rintro m t w2 ⟨i,rfl,rfl,hi,hno,x2⟩
 unfold Mq
 by_cases hlt:i<L.length
 .have d3:decide ((i:Int)<(L.length:Int))=true:=by simp;omega
  have l1:=Wg (off:=i*3) (ob.ext x2 (λh=>h)) (by rw[ES];omega)
  rw[aAG hlt]at l1
  obtain⟨n,hn,hn2,hb0,hb1⟩:=hL _ (aLT hlt)
  have hge:L[i]?=some L[i]:=aLt hlt
  have hinE:inE sy s L[i]=decide (L[i].1=sy/\L[i].2.2<=s/\(s:Int)<L[i].2.2+((2^n:Nat):Int)):=by
   unfold inE;rw[hn];simp
  generalize L[i]=e at*
  obtain⟨e1,e2,e3⟩:=e
  simp only at hn hb0 hb1 l1 hinE
  subst hn
  simp(disch:=omega)only[SV,d3,l1]
  refine X2 λw3 o3 x3 s3=> ?_
  refine WG o3 rfl (by simp[one]) (by simp) λw4 o4 x4 s4=> ?_
  simp only[aT,aLy,aLB]at o4
  have k0:=o4.cell (off:=0)
  have k1:=o4.cell (off:=1)
  have k2:=o4.cell (off:=2)
  simp only[aLu,aLw]at k0 k1 k2
  have x5:aN w w4 bJ:=(x2.seq x3).new x4 x2.size
  have hsh:=agA hn2
  have od:=bV o4
  have k1d:=od.cell (off:=1)
  simp only[aLu,aLw]at k1d
  have no:∀{b:Bool},inE sy s (e1,(n:Int),e3)=b->b=false->∀(j:Nat) (e:T3),j<i+1->L[j]?=some e->inE sy s e=false:=λh1 h2 j e hj he=>by
   by_cases hji:j=i
   .subst hji;rw[hge]at he;rw[<-aLW he,h1,h2]
   .exact hno j e (by omega) he
  by_cases he:e1=sy
  .have d4:(e1==sy)=true:=by simpa using he
   by_cases h5:e3<=(s:Int)
   .have d5:decide ((0:Int)<=(s:Int)-e3)=true:=by simp;omega
    by_cases h6:(s:Int)-e3<((2^n:Nat):Int)
    .have d6:decide ((s:Int)-e3<((2^n:Nat):Int))=true:=by simpa using h6
     have hw:IntKind.u64.wrap ((s:Int)-e3)=(s:Int)-e3:=gP (by omega) (by omega)
     simp(disch:=omega)only[SV,k0,k1,k2,d4,d5,hsh,d6,k1d,hw]
     exact⟨.inl ⟨i,_,hge,by rw[hinE,decide_eq_true ⟨he,h5,by omega⟩],rfl⟩,x5.seq (aN.dr _ _)⟩
    .have d6:decide ((s:Int)-e3<((2^n:Nat):Int))=false:=by simpa using h6
     simp(disch:=omega)only[SV,k0,k1,k2,d4,d5,hsh,d6]
     exact⟨L.length-(i+1),by omega,i+1,rfl,rfl,by omega,no hinE (decide_eq_false (by omega)),x5⟩
   .have d5:decide ((0:Int)<=(s:Int)-e3)=false:=by simp;omega
    simp(disch:=omega)only[SV,k0,k1,k2,d4,d5]
    exact⟨L.length-(i+1),by omega,i+1,rfl,rfl,by omega,no hinE (decide_eq_false (by omega)),x5⟩
  .have d4:(e1==sy)=false:=by simpa using he
   simp(disch:=omega)only[SV,k0,k1,k2,d4]
   exact⟨L.length-(i+1),by omega,i+1,rfl,rfl,by omega,no hinE (decide_eq_false (by omega)),x5⟩
 .have d3:decide ((i:Int)<(L.length:Int))=false:=by simp;omega
  unfold Mo
  simp(disch:=omega)only[SV,d3]
  exact⟨.inr ⟨λj e he=>hno j e (by
   rcases aLL j L.length with h|h
   .omega
   .rw [aLH h]at he;cases he) he,rfl⟩,x2⟩
def aFM(L:List T3)(s:Int)(r:aOn):Prop:=
 (∃i,∃h:i<L.length,r= .tuple #[.int .i64 (i:Nat),.int .i64 0]/\L[i].1=s/\∀j (hj:j<i),L[j].1≠s)∨
 (r= .tuple #[.int .i64 0,.int .i64 21]/\∀j (hj:j<L.length),L[j].1≠s)
theorem aDY{w:aOm}{base b log:Nat}{L:List T3}{v:aOn}(h:Tbl w base b log L v)(hl:L.length<=1000000)(s:Int):
 aK pg Lf #[v,.int .u8 s] w (λr w'=>aFM L s r/\aN w w' bJ):=by
 refine ahY ?_
 obtain⟨rfl,hb,ob⟩:=h
 unfold amT YE YD
 refine fC λw1 o1 x1 s1=> ?_
 have c1:=o1.cell (off:=1)
 simp only[Value.cells,aLu,aLw]at c1
 unfold PK PJ YC ID
 simp(disch:=omega)only[SV,c1]
 refine aX.rule (λm t w'=>∃i:Nat,m=L.length-i/\t= .int .i64 i/\i<=L.length/\(∀j (hj:j<i) (hj2:j<L.length),L[j].1≠s)/\aN w w' bJ) L.length ⟨0,rfl,rfl,by omega,λj hj=>by omega,x1⟩ ?_
 rintro m t w2 ⟨i,rfl,rfl,hi,hno,x2⟩
 unfold PI
 by_cases hlt:i<L.length
 .have d1:decide ((i:Int)<(L.length:Int))=true:=by simp;omega
  have l1:=Wg (off:=i*3) (ob.ext x2 (λh=>h)) (by rw[ES];omega)
  rw[aAG hlt]at l1
  simp(disch:=omega)only[SV,d1,l1]
  refine X2 λw3 o3 x3 s3=> ?_
  refine WG o3 rfl (by simp[one]) (by simp) λw4 o4 x4 s4=> ?_
  simp only[aT,aLy,aLB]at o4
  have c0:=o4.cell (off:=0)
  simp only[aLu]at c0
  have x5:aN w w4 bJ:=(x2.seq x3).new x4 x2.size
  by_cases he:L[i].1=s
  .have d2:(L[i].1==s)=true:=by simpa using he
   simp(disch:=omega)only[SV,c0,d2]
   exact⟨.inl ⟨i,hlt,rfl,he,λj hj=>hno j hj (by omega)⟩,x5⟩
  .have d2:(L[i].1==s)=false:=by simpa using he
   simp(disch:=omega)only[SV,c0,d2]
   refine⟨L.length-(i+1),by omega,i+1,rfl,rfl,by omega,λj hj hj2=> ?_,x5⟩
   by_cases hji:j=i
   .subst hji;exact he
   .exact hno j (by omega) hj2
 .have d1:decide ((i:Int)<(L.length:Int))=false:=by simp;omega
  unfold PH
  simp(disch:=omega)only[SV,d1]
  exact⟨.inr ⟨rfl,λj hj=>hno j (by omega) hj⟩,x2⟩
end Go.Proofs.YtoecppploooloaaGreatDoor
namespace Go.Pu
def pB(S:List Int):List Nat:=(List.range 256).map λ(s:Nat)=>S.count (s:Int)
theorem nX(S:List Int):(pB S).length=256:=by simp[pB]
theorem UI{S:List Int}{s:Nat}(h:s<256):(pB S).getD s 0=S.count (s:Int):=by
 rw[cL (by rw[nX];exact h)];simp[pB]
theorem aqB:pB []=List.replicate 256 0:=by
 unfold pB
 apply aMU
 .rw [aLv,aNQ,aMr]
 .intro i h1 h2
  simp only[aMp,aMR,List.count_nil,List.getElem_replicate]
theorem auQ{S:List Int}{c:Nat}(h:c<256):pB (S++[(c:Int)])=(pB S).set c (S.count (c:Int)+1):=by
 apply aMU
 .simp [pB]
 .intro j h1 h2
  have hj:j<256:=by simpa[pB]using h1
  rw[aND]
  simp only[pB,aMp,aMR,aMO,aNy]
  by_cases hij:c=j
  .subst hij;simp
  .have:((c:Int)==(j:Int))=false:=by simp;omega
   rw[if_neg hij,this];simp
theorem W5:∀{l:List Nat} {i x:Nat} (h:i<l.length) (hx:0<x),(l.set i x).countP cR=l.countP cR+if l.getD i 0=0 then 1 else 0
 |n::l,0,x,h,hx=>by
  have e1:cR x=true:=by unfold cR;simp;omega
  rw[aLy,aNe,aNe,e1]
  simp only[List.getD_cons_zero]
  by_cases hn:n=0
  .subst hn;simp[cR]
  .have e2:cR n=true:=by unfold cR;simp;omega
   rw[e2,if_neg hn];simp
 |n::l,i+1,x,h,hx=>by
  have:=W5 (l:=l) (i:=i) (Nat.lt_of_succ_lt_succ h) hx
  rw[aLB,aNe,aNe,this,List.getD_cons_succ]
  omega
def gmx(S:List Int):Int:=S.foldl max 0
theorem aD6 (S:List Int)(c:Int):gmx (S++[c])=max (gmx S) c:=by unfold gmx;rw[List.foldl_append]<;>rfl
theorem aH4 {S:List Int}{n:Int}:∀{a:Int},a<=n->(∀x∈S,x<=n)->a<=S.foldl max a/\S.foldl max a<=n/\∀x∈S,x<=S.foldl max a:=by
 induction S with
 |nil=>intro a h _;exact⟨by simp,by simpa using h,by simp⟩
 |cons y S ih=>
  intro a h hx
  have hy:=hx y (aMa ..)
  obtain⟨h1,h2,h3⟩:=ih (a:=max a y) (by omega) (λx h=>hx x (aLN _ h))
  rw[List.foldl_cons]
  refine⟨by omega,h2,λx hx'=> ?_⟩
  rcases aMd.1 hx' with rfl|hx'
  .omega
  .exact h3 x hx'
theorem aaP{S:List Int}{x:Int}(h:x∈S):0<S.count x:=List.count_pos_iff.2 h
theorem aAX{S:List Int}{n:Nat}(hn:n<256)(h:∀x∈S,0<=x/\x<=n):
 ∃g:Nat,gmx S=g/\g<=n/\((pB S).take (g+1)).length=g+1/\(∀s,s<=g->((pB S).take (g+1)).getD s 0=S.count (s:Int))/\(∀x∈S,x<=g)/\
  ((pB S).take (g+1)).countP cR=(pB S).countP cR:=by
 obtain⟨h1,h2,h3⟩:=aH4 (S:=S) (n:=n) (a:=0) (by omega) (λx hx=>(h x hx).2)
 have h1:0<=gmx S:=h1
 have h2:gmx S<=n:=h2
 have h3:∀x∈S,x<=gmx S:=h3
 obtain⟨g,hg⟩:∃g:Nat,gmx S=g:=⟨(gmx S).toNat,by omega⟩
 rw[hg]at h2 h3
 refine⟨g,hg,by omega,by rw[aLD,nX];omega,λs hs=> ?_,h3, ?_⟩
 .rw [aLz,aLX (by omega),<-aLz,UI (by omega)]
 .have:(pB S).countP cR=((pB S).take (g+1)++(pB S).drop (g+1)).countP cR:=by rw[aMz]
  rw[this,aNH]
  have hz:((pB S).drop (g+1)).countP cR=0:=vT λx hx=> ?_
  .omega
  obtain⟨i,hi,rfl⟩:=aLY hx
  rw[aLP,nX]at hi
  rw[List.getElem_drop]
  simp only[pB,aMp,aMR]
  exact List.count_eq_zero.2 λhm=>by have:=h3 _ hm;omega
theorem aFX{S:List Int}(h:∀x∈S,0<=x/\x<=255)(hne:S≠[]):0<(pB S).countP cR:=by
 obtain⟨x,hx⟩:=aNZ _ hne
 obtain⟨h0,h1⟩:=h x hx
 rw[List.countP_pos_iff]
 obtain⟨c,rfl⟩:∃c:Nat,x=c:=⟨x.toNat,by omega⟩
 refine⟨(pB S).getD c 0, ?_, ?_⟩
 .rw [cL (by rw[nX];omega)];exact aLT _
 .rw [UI (by omega)];unfold cR;simpa using hx
theorem aoM:∀{l:List Nat} {i j:Nat},i<j->0<l.getD i 0->0<l.getD j 0->2<=l.countP cR
 |[],i,j,_,h,_=>by simp at h
 |n::l,0,j+1,_,h1,h2=>by
  rw[List.getD_cons_zero]at h1
  rw[List.getD_cons_succ]at h2
  have e1:cR n=true:=by unfold cR;simp;omega
  have hj:j<l.length:=by
   rcases aLL j l.length with h|h
   .exact h
   .rw [aLz,aLH h]at h2;simp at h2
  have:0<l.countP cR:=by
   rw[List.countP_pos_iff]
   refine⟨l[j],aLT _, ?_⟩
   rw[cL hj]at h2
   unfold cR;simpa using h2
  rw[aNe,if_pos e1];omega
 |n::l,i+1,j+1,h,h1,h2=>by
  rw[List.getD_cons_succ]at h1 h2
  have:=aoM (l:=l) (by omega) h1 h2
  rw[aNe];omega
theorem aGx{S:List Int}(h:∀x∈S,0<=x/\x<=255)(h1:(pB S).countP cR=1):∀x∈S,∀y∈S,x=y:=by
 intro x hx y hy
 obtain⟨a,rfl⟩:∃c:Nat,x=c:=⟨x.toNat,by have:=h x hx;omega⟩
 obtain⟨b,rfl⟩:∃c:Nat,y=c:=⟨y.toNat,by have:=h y hy;omega⟩
 have ha:=h _ hx
 have hb:=h _ hy
 have c1:0<(pB S).getD a 0:=by rw[UI (by omega)];exact aaP hx
 have c2:0<(pB S).getD b 0:=by rw[UI (by omega)];exact aaP hy
 rcases aNt a b with h|h|h
 .have:=aoM h c1 c2;omega
 .rw [h]
 .have:=aoM h c2 c1;omega
theorem aAp{S:List Int}{c:Nat}(hc:c<256)(h:∀x∈S,x=(c:Int))(hne:S≠[]):(pB S).countP cR=1:=by
 have e:pB S=(List.replicate 256 0).set c S.length:=by
  apply aMU
  .rw [nX,aM1,aMr]
  .intro j h1 h2
   have hj:j<256:=by rw[nX]at h1;exact h1
   rw[aND,List.getElem_replicate]
   simp only[pB,aMp,aMR]
   by_cases hij:c=j
   .subst hij
    rw[if_pos rfl,List.count_eq_length]
    intro b hb;exact(h b hb).symm
   .rw [if_neg hij]
    exact List.count_eq_zero.2 λhm=>by have:=h _ hm;omega
 have hl:0<S.length:=aNX.2 hne
 rw[e,W5 (by rw[aMr];exact hc) hl]
 rw[vT (l:=List.replicate 256 0) (λn hn=>aMY hn)]
 rw[aLz,aM4]
 simp[hc]
theorem ayN(S:List Int):∀n,((List.range n).map λ(s:Nat)=>S.count (s:Int)).sum<=S.length:=by
 induction S with
 |nil=>intro n;rw[UN];·simp
       intro x hx;obtain⟨i,_,rfl⟩:=aL5.1 hx;simp
 |cons y S ih=>
  intro n
  have key:∀m,((List.range m).map λ(s:Nat)=>(y::S).count (s:Int)).sum=((List.range m).map λ(s:Nat)=>S.count (s:Int)).sum+(if 0<=y/\y<m then 1 else 0):=by
   intro m
   induction m with
   |zero=>rw[if_neg (by omega)]<;>rfl
   |succ m im=>
    rw[aOh,aL2,aL2,aNJ,aNJ,im]
    simp only[aL7,aN3,aML,List.sum_nil,aM9]
    by_cases hy:y=(m:Int)
    .subst hy
     have a1:¬(0<=(m:Int)/\(m:Int)<(m:Nat)):=by omega
     have a2:0<=(m:Int)/\(m:Int)<((m+1:Nat):Int):=by omega
     have a3:((m:Int)==(m:Int))=true:=beq_self_eq_true _
     rw[if_neg a1,if_pos a2,if_pos a3];omega
    .have e1:¬(y==(m:Int))=true:=by rw[beq_eq_false_iff_ne.2 hy];decide
     rw[if_neg e1]
     by_cases h2:0<=y/\y<(m:Int)
     .have a2:0<=y/\y<((m+1:Nat):Int):=by omega
      rw[if_pos h2,if_pos a2];omega
     .have a2:¬(0<=y/\y<((m+1:Nat):Int)):=by omega
      rw[if_neg h2,if_neg a2];omega
  rw[key n,aLS]
  have:=ih n
  split<;>omega
theorem aqC(S:List Int)(k:Nat)(hk:k<=256):((pB S).take k).sum<=S.length:=by
 have e:(pB S).take k=(List.range k).map λ(s:Nat)=>S.count (s:Int):=by
  unfold pB
  rw[<-aNg,List.take_range]
  congr 2;omega
 rw[e];exact ayN S k
theorem aIr(S:List Int):∀n∈pB S,n<=S.length:=by
 intro n hn
 obtain⟨s,_,rfl⟩:=aL5.1 hn
 exact List.count_le_length
end Go.Pu
namespace Go.Proofs.YtoecppploooloaaGreatDoor
open Go Go.En Go.Pu
set_option maxRecDepth 4000
structure RdS(w:aOm)(p6 pf pc log st:Nat)(bv:aOn)(L:List Bool)(ps:List Int)(v:aOn):Prop where
 o6:aZ w p6 [.int .i64 0,.slice none 0 0]
 of:aZ w pf [bv,.int .i64 st]
 oc:aZ w pc [.int .i64 log,v]
 os:pC w (pc+1) 1 v ps.length (ps.map (Value.int .i64))
 bl:Bl w bv L
 at':AtI bv 0 pf
 h6:p6<pf
 hf:pf<pc
theorem RdS.ext {w w':aOm}{p6 pf pc log st:Nat}{bv:aOn}{L:List Bool}{ps:List Int}{v:aOn}(h:RdS w p6 pf pc log st bv L ps v)(hx:aN w w' bJ):RdS w' p6 pf pc log st bv L ps v:=
 ⟨h.o6.ext hx (λh=>h),h.of.ext hx (λh=>h),h.oc.ext hx (λh=>h),h.os.ext hx (λ_ _ h=>h),h.bl.ext hx (aU _),h.at',h.h6,h.hf⟩
end Go.Proofs.YtoecppploooloaaGreatDoor
namespace Go.Pu
open Go Go.En
theorem aGW{ps:List Int}(hlo:∀p∈ps,-1<=p)(hne:ps≠[])(hlast:ps.getLast?≠some 0):0<xV ps:=by
 have h0:=G7 hlo
 rcases Int.lt_or_eq_of_le h0 with h|h
 .exact h
 .exfalso
  have hz:∀q∈ps,q=0:=λq hq=>by
   have h1:=aqF hlo hq
   have h2:=hlo q hq
   unfold bW at h1
   split at h1<;>omega
  refine hlast ?_
  cases hg:ps.getLast? with
  |none=>simp at hg;exact absurd hg hne
  |some y=>rw[hz y (List.mem_of_getLast? hg)]
theorem awD{left v:Nat}(h:left<=32768):(Le left v).length<=17:=by
 have hb:=vC (k:=left+1) (n:=17) (by omega)
 unfold Le
 simp only
 split
 .rw [bM];omega
 .split<;>rw[bM]<;>omega
theorem aGr:∀k:Nat,(noW k).length<=2*k+2:=by
 intro k
 induction k using Nat.strongRecOn with
 |ind k ih=>
  rw[noW]
  split
  .rw [bM];omega
  .have:=ih (k-3) (by omega)
   rw[aLs,bM];omega
theorem arB:∀(g left:Nat) (ps:List Int),left<=32768->(XX g left ps).length<=20*ps.length
 |0,left,ps,h=>by simp[XX]
 |g+1,left,[],h=>by simp[XX]
 |g+1,left,p::ps,h=>by
  rw[XX]
  have hk:(ps.takeWhile (·==0)).length<=ps.length:=(aOa _).length_le
  split
  .have h1:=awD (v:=1) h
   have h2:=aGr (ps.takeWhile (·==0)).length
   have h3:=arB g left (ps.drop (ps.takeWhile (·==0)).length) h
   rw[aLP]at h3
   simp only[aLs,aLS]
   omega
  .have h1:=awD (v:=(p+1).toNat) h
   have h3:=arB g (left-(bW p).toNat) ps (by omega)
   simp only[aLs,aLS]
   omega
theorem aaU{log:Nat}{ps:List Int}(hm:WS log ps):(HM log ps).length<=6000:=by
 have h15:=hm.log15
 have hp:2^log<=2^15:=aLG (by omega) h15
 have:=arB ps.length (2^log) ps (by omega)
 have:=hm.len256
 unfold HM
 rw[aLs,bM]
 omega
theorem akN:∀{ps:List Int} {j:Nat},j<(ps.takeWhile (·==0)).length->ps[j]?=some 0
 |[],j,h=>by simp at h
 |p::ps,j,h=>by
  rw[List.takeWhile_cons]at h
  by_cases hp:(p==0)=true
  .rw [if_pos hp]at h
   cases j with
   |zero=>simpa using hp
   |succ j=>simpa using akN (ps:=ps) (j:=j) (by simpa using h)
  .rw [if_neg hp]at h;simp at h
theorem aoE:∀{ps:List Int} {y:Int},ps[(ps.takeWhile (·==0)).length]?=some y->y≠0
 |[],y,h=>by simp at h
 |p::ps,y,h=>by
  rw[List.takeWhile_cons]at h
  by_cases hp:(p==0)=true
  .rw [if_pos hp]at h
   exact aoE (ps:=ps) (by simpa using h)
  .rw [if_neg hp]at h
   simp at h hp
   rw[<-h];exact hp
theorem aFB{ps:List Int}(hlast:ps.getLast?≠some 0)(hne:ps≠[]):(ps.takeWhile (·==0)).length<ps.length:=by
 have hk:(ps.takeWhile (·==0)).length<=ps.length:=(aOa _).length_le
 rcases aLL (ps.takeWhile (·==0)).length ps.length with h|h
 .exact h
 .exfalso
  have hl:0<ps.length:=aNX.2 hne
  have:=akN (ps:=ps) (j:=ps.length-1) (by omega)
  apply hlast
  rw[aNb,this]
end Go.Pu
namespace Go.Proofs.YtoecppploooloaaGreatDoor
open Go Go.En Go.Pu
set_option maxRecDepth 4000
theorem aJR{lo p:Nat}{B:List Bool}{w:aOm}(h:Wr w lo p B)(hB:B.length<=10000000):
 aK pg wR #[.pointer (some ⟨p,0,none⟩)] w (λr w'=>∃bytes,Rj B bytes/\pC w' w.heap.size 1 r bytes.length (bytes.map dR)/\aN w w' bJ):=by
 refine Sj ?_
 obtain⟨h0,v,bytes,o,os,hh⟩:=h
 have c0:=(bV o).cell (off:=0)
 have c0':=o.cell (off:=0)
 simp only[aLu,aLw]at c0 c0'
 have hs:Bs w v bytes:=by
  have h1:=os.1
  rcases os.2 with⟨rfl,h2⟩|⟨b,c,rest,rfl,h2,h3,h4,h5⟩
  .exact ⟨_,_,_,rfl,by omega,by omega,λh=>by omega⟩
  .refine ⟨_,_,_,rfl,by omega,h5,λ_=>⟨b,0,rfl,λi hi=> ?_⟩⟩
   rw[h3.cell,aLI,aLU (by omega)]
 have hl:=hh.len
 unfold Qw I8
 simp(disch:=omega)only[SV,c0,c0']
 refine(agI hs (by omega)).mono ?_
 rintro r w1 ⟨o1,x1⟩
 exact⟨bytes,hh,o1,x1⟩
structure WrS(w:aOm)(w0:aOm)(pc lo pw log:Nat)(sv:aOn)(ps:List Int)(B:List Bool):Prop where
 oc:aZ w pc [.int .i64 log,sv]
 sl:Sl w0 sv (ps.map (Value.int .i64))
 hw:Wr w lo pw B
 hc:pc<lo
 hx:aN w0 w bJ
 hlo:w0.heap.size<=lo
theorem WrS.put {w w' w0:aOm}{pc lo pw log:Nat}{sv:aOn}{ps:List Int}{B B':List Bool}(h:WrS w w0 pc lo pw log sv ps B)(hw:Wr w' lo pw B')(hx:aN w w' (λy=>lo<=y)):WrS w' w0 pc lo pw log sv ps B':=
 ⟨h.oc.ext hx (by have:=h.hc;omega),h.sl,hw,h.hc,h.hx.trans hx λb hb hh=>by have:=h.hlo;omega,h.hlo⟩
theorem aCX{w w0:aOm}{pc lo pw log left i:Nat}{sv:aOn}{ps:List Int}{B:List Bool}{p:Int}(h:WrS w w0 pc lo pw log sv ps B)(hB:B.length<=1000000)(h0:0<left)(h1:left<=32768)(hg:ps[i]?=some p)(hp0: -1<=p)(hpl:p<=left)
 {kn:aOn->aOn->aOn->aOn->aOn->aOm->Prop}
 (hK:∀w',WrS w' w0 pc lo pw log sv ps (B++Le left (p+1).toNat)->kn (.pointer (some ⟨pc,0,none⟩)) (.pointer (some ⟨pw,0,none⟩)) (.int .i64 left) (.int .i64 i) (.int .i64 p) w'):
 Fc kn (.pointer (some ⟨pc,0,none⟩)) (.pointer (some ⟨pw,0,none⟩)) (.int .i64 left) (.int .i64 i) w:=by
 unfold Fc
 have hi:i<ps.length:=by
  rcases aLL i ps.length with h'|h'
  .exact h'
  .rw [aLH h']at hg;cases hg
 have hsl:=h.sl.ext h.hx (aU _)
 obtain⟨b',off',c',hv,_,hcell⟩:=hsl.openI (by omega)
 have g1:=hcell i hi
 rw[aLt hi]at hg
 rw[aLW hg]at g1
 have hoc:=h.oc
 subst hv
 have c1:=hoc.cell (off:=1)
 simp only[aLu,aLw]at c1
 obtain⟨m,hm,hm1,hm2,hf1,hf2,hf3⟩:=aCP h0 h1
 have e1:(left:Int)+1=((left+1:Nat):Int):=by omega
 simp(disch:=omega)only[SV,c1,g1,e1]
 refine(aEi (x:=left+1) (by omega) w).mono ?_
 rintro r w1 ⟨rfl,rfl⟩
 rw[hm]
 obtain⟨v,hv⟩:∃v:Nat,p+1=(v:Int):=⟨(p+1).toNat,by omega⟩
 have hvt:(p+1).toNat=v:=by omega
 rw[hvt]at hK
 have hvl:v<=left+1:=by omega
 have hsh1:=agA (n:=m+1) (by omega)
 have hsh0:=agA (n:=m) (by omega)
 have e2:((m+1:Nat):Int)-1=(m:Int):=by omega
 have hp:2^m<=2^16:=aLG (by omega) hm2
 unfold Le at hK
 simp only[hm,aM3]at hK
 rw[hf3]at*
 generalize hq:2^m=q at*
 have e3:((2*q:Nat):Int)-2-(left:Int)=((2*q-2-left:Nat):Int):=by omega
 by_cases hfr:v<2*q-2-left
 .have d1:decide ((v:Int)<((2*q-2-left:Nat):Int))=true:=by simp only[decide_eq_true_eq];omega
  rw[if_pos hfr]at hK
  simp(disch:=omega)only[SV,hsh1,e3,hv,d1,e2]
  refine(Qp (n:=m) (x:=v) h.hw (by omega) (by omega) (by omega)).mono ?_
  rintro r w2 ⟨rfl,hw2,x2⟩
  exact hK w2 (h.put hw2 x2)
 .have d1:decide ((v:Int)<((2*q-2-left:Nat):Int))=false:=by simp only[decide_eq_false_iff_not];omega
  rw[if_neg hfr]at hK
  by_cases h2:v<q
  .have d2:decide ((v:Int)<(q:Int))=true:=by simp only[decide_eq_true_eq];omega
   rw[if_pos h2]at hK
   simp(disch:=omega)only[SV,hsh1,hsh0,e3,hv,d1,d2,e2]
   refine(Qp (n:=m+1) (x:=v) h.hw (by omega) (by omega) (by omega)).mono ?_
   rintro r w2 ⟨rfl,hw2,x2⟩
   exact hK w2 (h.put hw2 x2)
  .have d2:decide ((v:Int)<(q:Int))=false:=by simp only[decide_eq_false_iff_not];omega
   have e4:(v:Int)+((2*q-2-left:Nat):Int)=((v+(2*q-2-left):Nat):Int):=by omega
   rw[if_neg h2]at hK
   simp(disch:=omega)only[SV,hsh1,hsh0,e3,hv,d1,d2,e2,e4]
   refine(Qp (n:=m+1) (x:=v+(2*q-2-left)) h.hw (by omega) (by omega) (by omega)).mono ?_
   rintro r w2 ⟨rfl,hw2,x2⟩
   exact hK w2 (h.put hw2 x2)
theorem aCW{w w0:aOm}{pc lo pw log left i k:Nat}{sv:aOn}{ps:List Int}{B:List Bool}(h:WrS w w0 pc lo pw log sv ps B)(hl:ps.length<=1000000)(hz:∀j,j<k->ps[i+1+j]?=some 0)(hy:∃y,ps[i+1+k]?=some y/\y≠0)
 {k3:aOn->aOn->aOn->aOn->aOn->aOm->Prop}
 (hK:k3 (.pointer (some ⟨pc,0,none⟩)) (.pointer (some ⟨pw,0,none⟩)) (.int .i64 left) (.int .i64 i) (.int .i64 k) w):
 nF k3 (.pointer (some ⟨pc,0,none⟩)) (.pointer (some ⟨pw,0,none⟩)) (.int .i64 left) (.int .i64 i) (.int .i64 0) w:=by
 unfold nF
 have lt:∀{j:Nat} {y:Int},ps[j]?=some y->j<ps.length:=λ{j y} h=>by
  rcases aLL j ps.length with h'|h'
  .exact h'
  .rw [aLH h']at h;cases h
 obtain⟨y,hy,hyn⟩:=hy
 have hyl:=lt hy
 have hsl:=h.sl.ext h.hx (aU _)
 obtain⟨b',off',c',hv,_,hcell⟩:=hsl.openI (by omega)
 have hoc:=h.oc
 subst hv
 have c1:=hoc.cell (off:=1)
 simp only[aLu,aLw]at c1
 refine aX.rule (λm (t:aOn) w'=>∃j:Nat,m=k-j/\t= .int .i64 j/\j<=k/\w'=w) k ⟨0,rfl,rfl,by omega,rfl⟩ ?_
 rintro m t w1 ⟨j,rfl,rfl,hj,rfl⟩
 unfold EZ
 have e1:(i:Int)+1+(j:Int)=((i+1+j:Nat):Int):=by omega
 by_cases hlt:j<k
 .have g0:=hz j hlt
  have hl0:=lt g0
  have g1:=hcell (i+1+j) hl0
  rw[aLt hl0]at g0
  rw[aLW g0]at g1
  have n1:((0:Int)==0)=true:=rfl
  simp(disch:=omega)only[SV,c1,e1,g1,n1]
  exact⟨k-(j+1),by omega,j+1,rfl,rfl,by omega⟩
 .obtain rfl:j=k:=by omega
  have g1:=hcell (i+1+j) hyl
  rw[aLt hyl]at hy
  rw[aLW hy]at g1
  have n1:(y==0)=false:=by simpa using hyn
  simp(disch:=omega)only[SV,c1,e1,g1,n1]
  exact hK
theorem aFt{w w0:aOm}{pc lo pw log left i k:Nat}{sv:aOn}{ps:List Int}{B:List Bool}(h:WrS w w0 pc lo pw log sv ps B)(hB:B.length<=1000000)(hk:k<=1000000)
 {kn:aOn->aOn->aOn->aOn->aOm->Prop}
 (hK:∀w',WrS w' w0 pc lo pw log sv ps (B++noW k)->kn (.pointer (some ⟨pc,0,none⟩)) (.pointer (some ⟨pw,0,none⟩)) (.int .i64 left) (.int .i64 i) w'):
 Bw kn (.pointer (some ⟨pc,0,none⟩)) (.pointer (some ⟨pw,0,none⟩)) (.int .i64 left) (.int .i64 i) (.int .i64 k) w:=by
 unfold Bw Bv
 refine aX.rule (λm (t:aOn) w'=>∃C:List Bool,t= .int .i64 m/\m<=k/\C++noW m=B++noW k/\C.length<=1000000+2*(k-m)/\WrS w' w0 pc lo pw log sv ps C) k ⟨B,rfl,aLA _,rfl,by omega,h⟩ ?_
 rintro m t w1 ⟨C,rfl,hm,hC,hCl,h1⟩
 unfold Hs
 rw[noW]at hC
 by_cases h3:m<3
 .have d1:decide ((3:Int)<=(m:Int))=false:=by simp;omega
  rw[dif_pos h3]at hC
  unfold Hr
  simp(disch:=omega)only[SV,d1]
  refine(Qp (n:=2) (x:=m) h1.hw (by omega) (by omega) (by omega)).mono ?_
  rintro r w2 ⟨rfl,hw2,x2⟩
  rw[hC]at hw2
  exact hK w2 (h1.put hw2 x2)
 .have d1:decide ((3:Int)<=(m:Int))=true:=by simp;omega
  rw[dif_neg h3]at hC
  simp(disch:=omega)only[SV,d1]
  refine(Qp (n:=2) (x:=3) h1.hw (by omega) (by omega) (by omega)).mono ?_
  rintro r w2 ⟨rfl,hw2,x2⟩
  have e1:(m:Int)-3=((m-3:Nat):Int):=by omega
  simp(disch:=omega)only[SV,e1]
  refine⟨m-3,by omega,C++cZ 3 2,rfl,by omega,by rw[aLJ];exact hC, ?_,h1.put hw2 x2⟩
  rw[aLs,bM];omega
theorem aAh{w w0:aOm}{pc lo pw log:Nat}{sv:aOn}{ps:List Int}(hm:WS log ps)(h:WrS w w0 pc lo pw log sv ps (cZ (log-5) 4)){RR:aOn->aOm->Prop}
 (hR:∀w' pw,WrS w' w0 pc lo pw log sv ps (HM log ps)->Bt RR (.pointer (some ⟨pw,0,none⟩)) w'):
 zR RR (.pointer (some ⟨pc,0,none⟩)) (.pointer (some ⟨pw,0,none⟩)) (.int .i64 (2^log:Nat)) w:=by
 have hlen:=hm.len256
 have h15:=hm.log15
 have hp15:2^log<=2^15:=aLG (by omega) h15
 have hD:=aaU hm
 have hpow:((2^log:Nat):Int)=(2:Int)^log:=by simp
 generalize hDe:HM log ps=D at*
 unfold zR Fh Ou zQ
 refine aX.rule (λm (t:aOn×aOn) w'=>∃(i left g:Nat) (B:List Bool),m=ps.length-i/\t=(.int .i64 left,.int .i64 i)/\i<=ps.length/\ps.length-i<=g/\xV (ps.drop i)=left/\left<=32768/\B++XX g left (ps.drop i)=D/\WrS w' w0 pc lo pw log sv ps B) ps.length
  ⟨0,2^log,ps.length,_,rfl,rfl,by omega,by omega,by rw[aLE,hm.sum,hpow],by omega,by rw[aLE];exact hDe,h⟩ ?_
 rintro m t w1 ⟨i,left,g,B,rfl,rfl,hi,hg,hs,hleft,hB,h1⟩
 have hBl:B.length<=6000:=by rw[<-hB,aLs]at hD;omega
 have hoc:=h1.oc
 obtain⟨sa,sc,hsv,_⟩:=h1.sl.lenI
 have hsv':=hsv
 subst hsv'
 have c1:=hoc.cell (off:=1)
 simp only[aLu,aLw]at c1
 unfold Fg Ot
 by_cases hlt:i<ps.length
 .have d1:decide ((i:Int)<(ps.length:Int))=true:=by simp;omega
  have hdrop:ps.drop i=ps[i]::ps.drop (i+1):=aL8 hlt
  have hlo':∀p∈ps.drop i,-1<=p:=λp hp=>hm.low p (aNh hp)
  have hlast:∀j,j<ps.length->(ps.drop j).getLast?≠some 0:=λj hj=>by
   rw[List.getLast?_drop,if_neg (by omega)];exact hm.last
  have hpos:0<xV (ps.drop i):=aGW hlo' (λh=>by have:=List.drop_eq_nil_iff.1 h;omega) (hlast i hlt)
  have hp0:=hm.low _ (aLT hlt)
  have hpi:=aLt hlt
  generalize ps[i]=p at*
  rw[hdrop,vQ]at hs hpos
  have hlo2:∀p∈ps.drop (i+1),-1<=p:=λp hp=>hm.low p (aNh hp)
  have hn:=G7 hlo2
  have hpn:=mX hp0
  have hple:p<=bW p:=by unfold bW;split<;>omega
  obtain⟨g,rfl⟩:∃g',g=g'+1:=⟨g-1,by omega⟩
  unfold Ff Fe Oq
  simp(disch:=omega)only[SV,c1,d1]
  refine aCX (left:=left) (i:=i) h1 (by omega) (by omega) hleft hpi hp0 (by omega) λw2 h2=> ?_
  unfold Fb Oo
  refine(aqG _ _).mono ?_
  rintro r w3 ⟨rfl,rfl⟩
  obtain⟨pq,hpq⟩:∃pq:Nat,bW p=pq:=⟨(bW p).toNat,by omega⟩
  rw[hpq]at hs hpn hple⊢
  have e1:(left:Int)-(pq:Int)=((left-pq:Nat):Int):=by omega
  have e2:(i:Int)+1=((i+1:Nat):Int):=by omega
  by_cases h0:p=0
  .subst h0
   have n1:((0:Int) !=0)=false:=rfl
   obtain rfl:pq=0:=by
    have:bW 0=0:=rfl
    omega
   have hne:ps.drop (i+1)≠[]:=by
    intro he
    rw[he]at hpos
    exact absurd hpos (by decide)
   have hlt2:i+1<ps.length:=by
    rcases aLL (i+1) ps.length with h|h
    .exact h
    .exact absurd (aNj h) hne
   have hz1:=λj=>akN (ps:=ps.drop (i+1)) (j:=j)
   have hz2:=λy=>aoE (ps:=ps.drop (i+1)) (y:=y)
   have hz3:=aFB (hlast (i+1) hlt2) hne
   have hrep:=WH (ps.drop (i+1))
   have hW:XX (g+1) left (0::ps.drop (i+1))=Le left 1++(noW ((ps.drop (i+1)).takeWhile (·==0)).length++XX g left ((ps.drop (i+1)).drop ((ps.drop (i+1)).takeWhile (·==0)).length)):=by rw[XX,if_pos rfl]
   rw[hdrop,hW]at hB
   generalize((ps.drop (i+1)).takeWhile (·==0)).length=k at*
   rw[aLP]at hz3
   simp only[aMA]at hz1 hz2
   have hsum:xV (ps.drop (i+1+k))=left:=by
    have:xV (ps.drop (i+1))=xV (List.replicate k 0)+xV ((ps.drop (i+1)).drop k):=by
     conv=>lhs;rw[hrep]
     rw[LQ]
    rw[Qe,aMK]at this
    have e0:bW 0=0:=rfl
    omega
   have h2':WrS w3 w0 pc lo pw log (.slice sa ps.length sc) ps (B++Le left 1):=h2
   rw[aMK]at hB
   have hl1:(B++Le left 1).length<=6000:=by
    have:=congrArg List.length hB
    simp only[aLs]at this⊢
    omega
   have e3:(left:Int)-((0:Nat):Int)=(left:Int):=by omega
   unfold Fa nF
   simp(disch:=omega)only[SV,n1,e3]
   refine aCW (left:=left) (k:=k) h2' (by omega) hz1 ⟨_,aLt (show i+1+k<ps.length by omega),hz2 _ (aLt (by omega))⟩ ?_
   unfold Ht Q5
   have e4:(i:Int)+(k:Int)=((i+k:Nat):Int):=by omega
   simp(disch:=omega)only[SV,e4]
   refine aFt (left:=left) (i:=i+k) h2' (by omega) (by omega) λw4 h4=> ?_
   unfold Bu
   have e5:((i+k:Nat):Int)+1=((i+1+k:Nat):Int):=by omega
   simp(disch:=omega)only[SV,e5]
   exact⟨ps.length-(i+1+k),by omega,i+1+k,left,g,_,rfl,rfl,by omega,by omega,hsum,hleft,by rw[<-hB];simp[aLJ],h4⟩
  .have n1:(p !=0)=true:=by simpa using h0
   have hW:XX (g+1) left (p::ps.drop (i+1))=Le left (p+1).toNat++XX g (left-pq) (ps.drop (i+1)):=by rw[XX,if_neg h0,hpq,aLx]
   rw[hdrop,hW,<-aLJ]at hB
   unfold Bu
   simp(disch:=omega)only[SV,n1,e1,e2]
   exact⟨ps.length-(i+1),by omega,i+1,left-pq,g,_,rfl,rfl,by omega,by omega,by omega,by omega,hB,h2⟩
 .have d1:decide ((i:Int)<(ps.length:Int))=false:=by simp;omega
  have hnil:ps.drop i=[]:=aNj (by omega)
  have hB:B=D:=by
   rw[hnil]at hB
   cases g with
   |zero=>simpa[XX]using hB
   |succ g=>simpa[XX]using hB
  rw[hB]at h1
  simp(disch:=omega)only[SV,c1,d1]
  exact hR w1 pw h1
theorem auJ{log:Nat}{sv:aOn}{ps:List Int}{w:aOm}(hm:WS log ps)(hs:Sl w sv (ps.map (Value.int .i64))):
 aK pg CB #[.agg #[.int .i64 log,sv]] w (λr w'=>∃bytes v,r= .tuple #[v,.int .i64 0]/\Rj (HM log ps) bytes/\pC w' w.heap.size 1 v bytes.length (bytes.map dR)/\aN w w' bJ):=by
 refine Zg ?_
 have hlen:=hm.len256
 have h15:=hm.log15
 have h5:=hm.log5
 unfold Zf Ow Ov
 refine fC λw1 o1 x1 s1=> ?_
 simp only[Value.cells]at o1
 have l1:=fL o1 (off:=0) (by simp)
 simp only[aLE,aLC,aLK]at l1
 simp(disch:=omega)only[SV,l1]
 refine(aHs (hs.ext x1 (aU _)) (by omega)).mono ?_
 rintro r w2 ⟨rfl,x2⟩
 rw[hm.b]
 have z1:=x1.size
 have z2:=x2.size
 simp(disch:=omega)only[SV]
 refine(auG w2).mono ?_
 rintro r w3 ⟨rfl,hlt,hw3,x3⟩
 have z3:=x3.size
 have o13:=(o1.ext x2 (λh=>h)).ext x3 (λh=>h)
 have c0:=o13.cell (off:=0)
 simp only[aLu,aLw]at c0
 have e1:(log:Int)-5=((log-5:Nat):Int):=by omega
 simp(disch:=omega)only[SV,c0,e1]
 refine(Qp (n:=4) (x:=log-5) hw3 (by omega) (by omega) (by simp)).mono ?_
 rintro r w4 ⟨rfl,hw4,x4⟩
 have o14:=o13.ext x4 (by omega)
 have c04:=o14.cell (off:=0)
 simp only[aLu,aLw]at c04
 have hsh:=agA (n:=log) (by omega)
 simp(disch:=omega)only[SV,c04,hsh]
 have x04:aN w w4 bJ:=((x1.seq x2).seq x3).trans x4 λb hb h=>by omega
 refine aAh (lo:=w2.heap.size) (pw:=w2.heap.size) hm ⟨o14,hs,hw4,by omega,x04,by omega⟩ ?_
 intro w5 pw h5
 have hD:=aaU hm
 unfold Bt
 refine(aJR h5.hw (by omega)).mono ?_
 rintro r w6 ⟨bytes,hh,ho,x6⟩
 refine⟨bytes,r,rfl,hh,⟨ho.1, ?_⟩,h5.hx.seq x6⟩
 have:=h5.hx.size
 rcases ho.2 with h|⟨b,c,rest,q1,q2,q3⟩
 .exact .inl h
 .exact .inr ⟨b,c,rest,q1,by omega,q3⟩
def aqD(log:Int)(ns:List Nat):Bool:=decide (5<=log/\log<=15/\ns.length<=256/\2<=ns.countP cR/\ns.countP cR<=2^log.toNat/\ns.sum<=2147483647)
theorem aEs{ov t4:aOn}{log:Int}{ns:List Nat}{w:aOm}(hs:Sl w ov (ns.map λ(n:Nat)=>Value.int .u32 n))(hn:∀n∈ns,n<=4294967295)(hl:ns.length<=300){RR:aOn->aOm->Prop}
 (hK:∀last,IV ns ns.length last->Gc RR ov (.int .i64 log) t4 (.int .u64 ns.sum) (.int .i64 (ns.countP cR:Nat)) (.int .i64 last) w):
 Gg RR ov (.int .i64 log) t4 (.int .u64 0) (.int .i64 0) (.int .i64 0) w:=by
 unfold Gg ML Wt
 obtain⟨a,c,hv,hc⟩:=hs.len
 rw[aLv]at hv
 subst hv
 simp(disch:=omega)only[SV]
 unfold Gf
 refine aX.rule (λm (t:aOn×aOn×aOn×aOn) w'=>∃i last:Nat,m=ns.length-i/\t=(.int .u64 (ns.take i).sum,.int .i64 ((ns.take i).countP cR:Nat),.int .i64 last,.int .i64 i)/\i<=ns.length/\IV ns i last/\last<=i/\w'=w) ns.length
  ⟨0,0,rfl,by simp,by omega,.inl ⟨rfl,λj h=>by omega⟩,by omega,rfl⟩ ?_
 rintro m t w1 ⟨i,last,rfl,rfl,hi,hla,hli,rfl⟩
 unfold MK Wq
 by_cases hlt:i<ns.length
 .have d1:decide ((i:Int)<(ns.length:Int))=true:=by simp;omega
  obtain⟨b,off,rfl,hcell⟩:=slA hs (by omega)
  have g1:=hcell i hlt
  rw[aLR,aLt hlt,<-cL hlt]at g1
  simp only[aL6]at g1
  have hni:ns.getD i 0<=4294967295:=by rw[cL hlt];exact hn _ (aLT hlt)
  have hsl:=akB (B:=4294967295) (l:=ns.take i) λn hn'=>hn n (aMx hn')
  rw[aLD,aMk (by omega)]at hsl
  have hsl2:i*4294967295<=300*4294967295:=aL1 _ (by omega)
  have hct:(ns.take i).countP cR<=i:=by
   have:=aNd (l:=ns.take i) (p:=cR)
   rw[aLD]at this;omega
  have hsum:(ns.take (i+1)).sum=(ns.take i).sum+ns.getD i 0:=by rw[oD hlt,aNJ];simp
  have hcnt:(ns.take (i+1)).countP cR=(ns.take i).countP cR+(if 0<ns.getD i 0 then 1 else 0):=by
   rw[oD hlt,aNH,List.countP_singleton]
   unfold cR;simp only[decide_eq_true_eq]
  have hstep:=hla.step
  generalize ns.getD i 0=n at*
  have e1:(((ns.take i).sum:Nat):Int)+(n:Int)=(((ns.take i).sum+n:Nat):Int):=by omega
  by_cases h0:0<n
  .have d2:decide ((0:Int)<(n:Int))=true:=by simp;omega
   rw[if_pos h0]at hcnt hstep
   unfold Ge
   simp(disch:=omega)only[SV,d1,g1,d2,e1]
   exact⟨ns.length-(i+1),by omega,i+1,i,rfl,by rw[hsum,hcnt]<;>rfl,by omega,hstep,by omega⟩
  .have d2:decide ((0:Int)<(n:Int))=false:=by simp;omega
   rw[if_neg h0]at hcnt hstep
   unfold Ge
   simp(disch:=omega)only[SV,d1,g1,d2,e1]
   exact⟨ns.length-(i+1),by omega,i+1,last,rfl,by rw[hsum,hcnt]<;>rfl,by omega,hstep,by omega⟩
 .have d1:decide ((i:Int)<(ns.length:Int))=false:=by simp;omega
  obtain rfl:i=ns.length:=by omega
  rw[aLO (aLA _)]
  simp(disch:=omega)only[SV,d1]
  exact hK last hla
def acB(R S last i:Nat)(ns:List Nat):List Nat:=(ns.take i).map (nY R S)++List.replicate (last+1-i) 0
theorem TF{R S last i:Nat}{ns:List Nat}(h:i<=last+1)(hl:last<ns.length):(acB R S last i ns).length=last+1:=by
 unfold acB;rw[aLs,aLv,aLD,aMr];omega
theorem Zo{R S last i j:Nat}{ns:List Nat}(h:i<=last+1)(hl:last<ns.length)(hj:j<=last):(acB R S last i ns)[j]?=some (if j<i then nY R S (ns.getD j 0)else 0):=by
 unfold acB
 by_cases hji:j<i
 .rw [aLU (by rw[aLv,aLD];omega),aLR,aLX hji,aLt (by omega),if_pos hji,cL (by omega)]<;>rfl
 .rw [aL0 (by rw[aLv,aLD];omega),aM4,if_pos (by rw[aLv,aLD];omega),if_neg hji]
theorem auW{R S last i:Nat}{ns:List Nat}(h:i<=last)(hl:last<ns.length):(acB R S last i ns).set i (nY R S (ns.getD i 0))=acB R S last (i+1) ns:=by
 unfold acB
 have hm:((ns.take i).map (nY R S)).length=i:=by rw[aLv,aLD];omega
 rw[aMt _ _ (by omega),hm,aNl,show last+1-i=(last+1-(i+1))+1 from by omega,aMw,aLy,oD (by omega),aL2,aLJ]<;>rfl
theorem aCl{R S last i:Nat}{ns:List Nat}(h:i<=last)(hl:last<ns.length)(h0:ns.getD i 0=0):acB R S last (i+1) ns=acB R S last i ns:=by
 rw[<-auW h hl,h0]
 have hp:nY R S 0=0:=by simp[nY]
 rw[hp]
 apply aMP
 intro j
 rw[aN8]
 split
 .rename_i hj
  subst hj
  rw[if_pos (by rw[TF (by omega) hl];omega),Zo (by omega) hl h,if_neg (by omega)]
 .rfl
abbrev pnC(R S last i:Nat)(ns:List Nat):List aOn:=(acB R S last i ns).map λ(n:Nat)=>Value.int .i64 n
theorem aEt{pc pb log there last:Nat}{ov t4:aOn}{ns:List Nat}{w:aOm}(hs:Sl w ov (ns.map λ(n:Nat)=>Value.int .u32 n))(hn:∀n∈ns,n<=4294967295)(hl:last<ns.length)(hl2:ns.length<=256)(hlog:log<=15)(hth:there<=2^log)(hS0:0<ns.sum)(hS:ns.sum<=2147483647)
 (hlast:0<ns.getD last 0) (oc:aZ w pc [.int .i64 log,.slice (some ⟨pb,0,none⟩) (last+1) (last+1)]) (ob:aZ w pb (pnC (2^log-there) ns.sum last 0 ns)) (hne:pc≠pb) (hat:¬JN ov (λy=>y=pb)) {RR:aOn->aOm->Prop}
 (hK:∀(left gr:Nat) w',left+((ns.take (last+1)).map (qJ (2^log-there) ns.sum)).sum=2^log-there->gr<=last->0<ns.getD gr 0->aZ w' pb (pnC (2^log-there) ns.sum last (last+1) ns)->aN w w' (λy=>y=pb)->IF RR t4 (.pointer (some ⟨pc,0,none⟩)) (.int .i64 left) (.int .i64 gr) w'):
 IH RR ov (.int .i64 log) t4 (.int .u64 ns.sum) (.int .i64 there) (.int .i64 last) (.pointer (some ⟨pc,0,none⟩)) (.int .i64 (2^log-there:Nat)) (.int .i64 last) w:=by
 have hp15:2^log<=2^15:=aLG (by omega) hlog
 obtain⟨a,c,hv,hc⟩:=hs.len
 rw[aLv]at hv hc
 subst hv
 obtain⟨b0,off0,rfl,hcell⟩:=slA hs (by omega)
 have hsub:Sl w (.slice (some ⟨b0,off0,none⟩) (last+1) c) ((ns.map λ(n:Nat)=>Value.int .u32 n).take (last+1)):=aEX hs (by omega)
 have hshl:=agA (n:=log) (by omega)
 generalize hR:2^log-there=R at*
 have hRl:R<=32768:=by omega
 generalize hSe:ns.sum=S at*
 unfold IH PU Ze
 have e1:(last:Int)+1=((last+1:Nat):Int):=by omega
 have e2:cW (some ⟨b0,off0,none⟩) c 0 1=some ⟨b0,off0,none⟩:=by have:=Kn (b:=b0) (o:=off0) (m:=c) (l:=0) (by omega);simpa using this
 simp(disch:=omega)only[SV,e1,e2,aM0]
 unfold IG
 have hmsum:∀i,i<=ns.length->((ns.take i).map (qJ R S)).sum<=R:=λi hi=>by
  refine aeE ?_ hS0
  have:ns.sum=(ns.take i).sum+(ns.drop i).sum:=by rw[<-aNJ,aMz]
  omega
 refine aX.rule (λm (t:aOn×aOn×aOn) w'=>∃left gr i:Nat,m=last+1-i/\t=(.int .i64 left,.int .i64 gr,.int .i64 i)/\i<=last+1/\left+((ns.take i).map (qJ R S)).sum=R/\gr<=last/\0<ns.getD gr 0/\aZ w' pb (pnC R S last i ns)/\aN w w' (λy=>y=pb)) (last+1)
  ⟨R,last,0,rfl,rfl,by omega,by simp,by omega,hlast,ob,aN.refl _ _⟩ ?_
 rintro m t w1 ⟨left,gr,i,rfl,rfl,hi,hleft,hgr,hgr0,ob1,x1⟩
 unfold PT Zd
 by_cases hlt:i<last+1
 .have d1:decide ((i:Int)<((last+1:Nat):Int))=true:=by simp only[decide_eq_true_eq];omega
  have hs1:=hs.ext x1 hat
  obtain⟨b1,off1,he,hcell1⟩:=slA hs1 (by omega)
  cases he
  have g1:=hcell1 i (by omega)
  rw[aLR,aLt (by omega),<-cL (by omega)]at g1
  simp only[aL6]at g1
  have hni:ns.getD i 0<=4294967295:=by rw[cL (by omega)];exact hn _ (aLT (by omega))
  have hmore:((ns.take (i+1)).map (qJ R S)).sum=((ns.take i).map (qJ R S)).sum+qJ R S (ns.getD i 0):=by rw[oD (by omega),aL2,aNJ];simp
  have hml:=hmsum (i+1) (by omega)
  have hset:=auW (R:=R) (S:=S) (i:=i) (by omega) hl
  have hzero:=aCl (R:=R) (S:=S) (i:=i) (by omega) hl
  have hgi:=Zo (R:=R) (S:=S) (i:=i+1) (j:=i) (by omega) hl (by omega)
  have hgg:=Zo (R:=R) (S:=S) (i:=i+1) (j:=gr) (by omega) hl hgr
  have hpl:=TF (R:=R) (S:=S) (i:=i) (by omega) hl
  rw[if_pos (by omega)]at hgi
  unfold PS
  generalize hgrv:(if gr<i+1 then nY R S (ns.getD gr 0)else 0)=pv at*
  generalize hnv:ns.getD i 0=n at*
  by_cases h0:n=0
  .subst h0
   have n1:(((0:Nat):Int)==0)=true:=rfl
   have hm0:qJ R S 0=0:=by simp[qJ]
   rw[hm0]at hmore
   simp(disch:=omega)only[SV,d1,g1,n1]
   exact⟨last+1-(i+1),by omega,left,gr,i+1,rfl,rfl,by omega,by omega,hgr,hgr0,by unfold pnC;rw[hzero rfl];exact ob1,x1⟩
  .have n1:((n:Int)==0)=false:=beq_eq_false_iff_ne.2 (by omega)
   have e3:((2^log:Nat):Int)-(there:Int)=(R:Int):=by omega
   have hnR:n*R<=4294967295*32768:=Nat.mul_le_mul hni hRl
   have e4:(n:Int)*(R:Int)=((n*R:Nat):Int):=by simp
   have e5:((n*R:Nat):Int).tdiv (S:Int)=((qJ R S n:Nat):Int):=by
    rw[aNm (by omega)];unfold qJ;simp
   have n2:((S:Int)==0)=false:=beq_eq_false_iff_ne.2 (by omega)
   have hp:nY R S n=1+qJ R S n:=by unfold nY qJ;rw[if_neg h0]
   have hml2:qJ R S n<=R:=by omega
   rw[hp]at hset hgi
   have c1:=(oc.ext x1 hne).cell (off:=1)
   simp only[aLu,aLw]at c1
   generalize qJ R S n=q at*
   have e6:(1:Int)+(q:Int)=((1+q:Nat):Int):=by omega
   have e7:(left:Int)-(q:Int)=((left-q:Nat):Int):=by omega
   simp(disch:=omega)only[SV,d1,g1,n1,hshl,e3,e4,e5,n2,c1,e6]
   refine rF ob1 rfl (by rw[aLv,hpl];omega) λw2 ob2 x2 s2=> ?_
   have hset2:(pnC R S last i ns).set i (.int .i64 (1+q:Nat))=pnC R S last (i+1) ns:=by unfold pnC;rw[<-hset,aM5]
   rw[hset2]at ob2
   have x12:=x1.seq x2
   have c2:=(oc.ext x12 hne).cell (off:=1)
   have c2d:=(bV (oc.ext x12 hne)).cell (off:=1)
   simp only[aLu,aLw]at c2 c2d
   have f1:=(bV ob2).cell (off:=i)
   have f2:=(bV ob2).cell (off:=gr)
   unfold pnC at f1 f2
   rw[aLR,hgi]at f1
   rw[aLR,hgg]at f2
   simp only[aL6]at f1 f2
   have hpv:pv<=1+R:=by
    rw[<-hgrv]
    split
    .unfold nY
     split
     .omega
     .have h1:qJ R S (ns.getD gr 0)<=R:=by
       refine aMu ?_ (hmsum ns.length (aLA _))
       rw[aLO (aLA _)]
       have:qJ R S (ns.getD gr 0)∈ns.map (qJ R S):=aL5.2 ⟨_,by rw[cL (by omega)];exact aLT _,rfl⟩
       exact aiQ this
      unfold qJ at h1
      omega
    .omega
   have x13:aN w (dr w2) (λy=>y=pb):=x12.seq (aN.dr _ _)
   by_cases hbig:pv<1+q
   .have d2:decide ((pv:Int)<((1+q:Nat):Int))=true:=by simp only[decide_eq_true_eq];omega
    simp(disch:=omega)only[SV,c2,c2d,f1,f2,d2,e7]
    exact⟨last+1-(i+1),by omega,left-q,i,i+1,rfl,rfl,by omega,by omega,by omega,by omega,bV ob2,x13⟩
   .have d2:decide ((pv:Int)<((1+q:Nat):Int))=false:=by simp only[decide_eq_false_iff_not];omega
    simp(disch:=omega)only[SV,c2,c2d,f1,f2,d2,e7]
    exact⟨last+1-(i+1),by omega,left-q,gr,i+1,rfl,rfl,by omega,by omega,hgr,hgr0,bV ob2,x13⟩
 .have d1:decide ((i:Int)<((last+1:Nat):Int))=false:=by simp only[decide_eq_false_iff_not];omega
  obtain rfl:i=last+1:=by omega
  simp(disch:=omega)only[SV,d1]
  exact hK left gr w1 hleft hgr hgr0 ob1 x1
theorem ajB{p4:Nat}{w0 w:aOm}(o4:aZ w p4 [.int .i64 0,.slice none 0 0])(hx:aN w0 w bJ)(hp:w0.heap.size<=p4){RR:aOn->aOm->Prop}
 (hR:∀w',aN w0 w' bJ->RR (.tuple #[.agg #[.int .i64 0,.slice none 0 0],.int .i64 1]) w'):
 aA pg (aM 162 (.pointer (some ⟨p4,0,none⟩)) (.agg #[.int .i64 0,.slice none 0 0])) w λ_u w=>vV pg 162 (.pointer (some ⟨p4,0,none⟩)) w λr0=>RR (.tuple #[r0,.int .i64 1]) w:=by
 refine eE o4 rfl (by simp[one]) (by simp) λw6 o6 x6 s6=> ?_
 refine lO o6 (by simp[aT]) ?_
 simp only[aT,aLy,aLB,aLE,aLC,aLK]
 exact hR _ (hx.new x6 hp)
def aDk(w:aOm)(base:Nat)(log:Int)(ns:List Nat)(r:aOn):Prop:=
 (aqD log ns=false/\r= .tuple #[.agg #[.int .i64 0,.slice none 0 0],.int .i64 1])∨
 (aqD log ns=true/\∃(l last pb:Nat) (ps:List Nat),log=l/\IV ns ns.length last/\WS l (ps.map λ(n:Nat)=>(n:Int))/\ps.length=last+1/\last<ns.length/\(∀i,i<last+1->(0<ps.getD i 0↔0<ns.getD i 0))/\
  r= .tuple #[.agg #[.int .i64 l,.slice (some ⟨pb,0,none⟩) (last+1) (last+1)],.int .i64 0]/\base<=pb/\aZ w pb (ps.map λ(n:Nat)=>Value.int .i64 n))
theorem aiW{ov:aOn}{log:Int}{ns:List Nat}{w:aOm}(hs:Sl w ov (ns.map λ(n:Nat)=>Value.int .u32 n))(hn:∀n∈ns,n<=4294967295)(hl:ns.length<=300):
 aK pg B7 #[ov,.int .i64 log] w (λr w'=>aDk w' w.heap.size log ns r/\aN w w' bJ):=by
 refine aiX ?_
 obtain⟨RR,hRR⟩:∃RR:aOn->aOm->Prop,RR=λr w'=>aDk w' w.heap.size log ns r/\aN w w' bJ:=⟨_,rfl⟩
 rw[<-hRR]
 have bad:aqD log ns=false->∀w',aN w w' bJ->RR (.tuple #[.agg #[.int .i64 0,.slice none 0 0],.int .i64 1]) w':=λh w' hx=>by
  rw[hRR];exact⟨.inl ⟨h,rfl⟩,hx⟩
 unfold anC Wv Wu
 refine kK λw1 o1 x1 s1=> ?_
 have z1:=x1.size
 have hs1:=hs.ext x1 (aU _)
 refine aEs hs1 hn hl λlast hlast=> ?_
 unfold Gc Wp
 obtain⟨a,c,hv,hc⟩:=hs.len
 rw[aLv]at hv hc
 subst hv
 have no:¬(5<=log/\log<=15/\ns.length<=256/\2<=ns.countP cR/\ns.countP cR<=2^log.toNat/\ns.sum<=2147483647)->aqD log ns=false:=λh=>by unfold aqD;exact decide_eq_false h
 have hcl:ns.countP cR<=ns.length:=aNd
 have hsl:=akB (B:=4294967295) hn
 have hsl2:ns.length*4294967295<=300*4294967295:=aL1 _ (by omega)
 by_cases h1:log<5
 .have d1:decide (log<5)=true:=by simpa using h1
  simp(disch:=omega)only[SV,d1]
  exact ajB (RR:=RR) o1 x1 (aLA _) (bad (no (by omega)))
 have d1:decide (log<5)=false:=by simpa using h1
 by_cases h2:15<log
 .have d2:decide (15<log)=true:=by simpa using h2
  simp(disch:=omega)only[SV,d1,d2]
  exact ajB (RR:=RR) o1 x1 (aLA _) (bad (no (by omega)))
 have d2:decide (15<log)=false:=by simpa using h2
 by_cases h3:ns.length<1
 .have d3:decide ((ns.length:Int)<1)=true:=by simp;omega
  simp(disch:=omega)only[SV,d1,d2,d3]
  exact ajB (RR:=RR) o1 x1 (aLA _) (bad (no (by omega)))
 have d3:decide ((ns.length:Int)<1)=false:=by simp;omega
 by_cases h4:256<ns.length
 .have d4:decide ((256:Int)<(ns.length:Int))=true:=by simp;omega
  simp(disch:=omega)only[SV,d1,d2,d3,d4]
  exact ajB (RR:=RR) o1 x1 (aLA _) (bad (no (by omega)))
 have d4:decide ((256:Int)<(ns.length:Int))=false:=by simp;omega
 by_cases h5:ns.countP cR<2
 .have d5:decide (((ns.countP cR:Nat):Int)<2)=true:=by simp only[decide_eq_true_eq];omega
  simp(disch:=omega)only[SV,d1,d2,d3,d4,d5]
  exact ajB (RR:=RR) o1 x1 (aLA _) (bad (no (by omega)))
 have d5:decide (((ns.countP cR:Nat):Int)<2)=false:=by simp only[decide_eq_false_iff_not];omega
 obtain⟨l,rfl⟩:∃l:Nat,log=l:=⟨log.toNat,by omega⟩
 have hshl:=agA (n:=l) (by omega)
 have hp15:2^l<=2^15:=aLG (by omega) (by omega)
 rw[aLx]at no
 by_cases h6:2^l<ns.countP cR
 .have d6:decide (((2^l:Nat):Int)<((ns.countP cR:Nat):Int))=true:=by simp only[decide_eq_true_eq];omega
  simp(disch:=omega)only[SV,d1,d2,d3,d4,d5,hshl,d6]
  exact ajB (RR:=RR) o1 x1 (aLA _) (bad (no (by omega)))
 have d6:decide (((2^l:Nat):Int)<((ns.countP cR:Nat):Int))=false:=by simp only[decide_eq_false_iff_not];omega
 by_cases h7:2147483647<ns.sum
 .have d7:decide ((2147483647:Int)<((ns.sum:Nat):Int))=true:=by simp only[decide_eq_true_eq];omega
  simp(disch:=omega)only[SV,d1,d2,d3,d4,d5,hshl,d6,d7]
  exact ajB (RR:=RR) o1 x1 (aLA _) (bad (no (by omega)))
 have d7:decide ((2147483647:Int)<((ns.sum:Nat):Int))=false:=by simp only[decide_eq_false_iff_not];omega
 have hok:aqD (l:Int) ns=true:=by unfold aqD;rw[aLx];exact decide_eq_true (by omega)
 have hl2:last<ns.length/\0<ns.getD last 0:=by
  rcases hlast with⟨rfl,h⟩|⟨q1,q2,_⟩
  .exfalso
   have:ns.countP cR=0:=vT λn hn=>by
    obtain⟨i,hi,rfl⟩:=aLY hn
    rw[<-cL hi];exact h i hi
   omega
  .exact ⟨q1,q2⟩
 have hS0:0<ns.sum:=by
  have:=aiQ (l:=ns) (n:=ns.getD last 0) (by rw[cL hl2.1];exact aLT _)
  omega
 have e1:(last:Int)+1=((last+1:Nat):Int):=by omega
 simp(disch:=omega)only[SV,d1,d2,d3,d4,d5,hshl,d6,d7,e1]
 refine Om (by omega) (by omega) λw2 o2 x2 s2=> ?_
 rw[aLx]at o2⊢
 simp(disch:=omega)only[SV]
 refine kK λw3 o3 x3 s3=> ?_
 refine eE o3 rfl (by simp[one]) (by simp) λw4 o4 x4 s4=> ?_
 simp only[aT,aLy,aLB]at o4
 have z2:=x2.size
 have z3:=x3.size
 have x14:aN w1 w4 bJ:=(x2.seq x3).new x4 (by omega)
 have e2:((2^l:Nat):Int)-((ns.countP cR:Nat):Int)=((2^l-ns.countP cR:Nat):Int):=by omega
 have l2:=o2.lt
 have hpb:pnC (2^l-ns.countP cR) ns.sum last 0 ns=List.replicate (last+1) (Value.int .i64 0):=by
  unfold pnC acB
  simp[aNf]
 have ob4:aZ w4 w1.heap.size (pnC (2^l-ns.countP cR) ns.sum last 0 ns):=by
  rw[hpb];exact(o2.ext x3 (λh=>h)).ext x4 (by omega)
 simp(disch:=omega)only[SV,hshl,e2]
 refine aEt (pc:=w2.heap.size) (pb:=w1.heap.size) (hs1.ext x14 (aU _)) hn hl2.1 (by omega) (by omega) (by omega) hS0 (by omega) hl2.2 o4 ob4 (by omega) (λh=>hs.old (vE h λb hb=>by omega)) λleft gr w5 hleft hgr hgr0 ob5 x5=> ?_
 unfold IF
 have o45:=o4.ext x5 (by omega)
 have c5:=o45.cell (off:=1)
 simp only[aLu,aLw]at c5
 have hgg:=Zo (R:=2^l-ns.countP cR) (S:=ns.sum) (i:=last+1) (j:=gr) (by omega) hl2.1 hgr
 rw[if_pos (by omega)]at hgg
 have f1:=ob5.cell (off:=gr)
 unfold pnC at f1
 rw[aLR,hgg]at f1
 simp only[aL6]at f1
 obtain⟨hmay,hofl,_,hiff⟩:=aIs (log:=l) (there:=ns.countP cR) (left:=left) (gr:=gr) (by omega) (by omega) (by omega) rfl (by omega) (by omega) hlast hgr hgr0 hleft
 have hpq:acB (2^l-ns.countP cR) ns.sum last (last+1) ns=(ns.take (last+1)).map (nY (2^l-ns.countP cR) ns.sum):=by
  unfold acB;rw[aNl];simp
 have hgd:((ns.take (last+1)).map (nY (2^l-ns.countP cR) ns.sum)).getD gr 0=nY (2^l-ns.countP cR) ns.sum (ns.getD gr 0):=by
  rw[hpq]at hgg
  rw[aLz,hgg]<;>rfl
 have hset:(pnC (2^l-ns.countP cR) ns.sum last (last+1) ns).set gr (.int .i64 (nY (2^l-ns.countP cR) ns.sum (ns.getD gr 0)+left:Nat))=(Bx l (ns.countP cR) ns.sum last gr left ns).map λ(n:Nat)=>Value.int .i64 n:=by
  unfold pnC Bx
  rw[hpq,hgd,aM5]
 have hpl:=TF (R:=2^l-ns.countP cR) (S:=ns.sum) (i:=last+1) (by omega) hl2.1
 have hpb:nY (2^l-ns.countP cR) ns.sum (ns.getD gr 0)+left<=70000:=by
  have hq:=aeE (R:=2^l-ns.countP cR) (S:=ns.sum) (l:=ns) (aLA _) hS0
  have hq2:=aiQ (n:=qJ (2^l-ns.countP cR) ns.sum (ns.getD gr 0)) (l:=ns.map (qJ (2^l-ns.countP cR) ns.sum)) (aL5.2 ⟨_,by rw[cL (by omega)];exact aLT _,rfl⟩)
  have hq3:nY (2^l-ns.countP cR) ns.sum (ns.getD gr 0)<=1+qJ (2^l-ns.countP cR) ns.sum (ns.getD gr 0):=by
   unfold nY qJ
   split
   .exact aMQ _
   .exact aLA _
  omega
 generalize nY (2^l-ns.countP cR) ns.sum (ns.getD gr 0)=pv at*
 have e3:(pv:Int)+(left:Int)=((pv+left:Nat):Int):=by omega
 simp(disch:=omega)only[SV,c5,f1,e3]
 refine rF ob5 rfl (by rw[aLv,hpl];omega) λw6 ob6 x6 s6=> ?_
 rw[hset]at ob6
 have o46:=o45.ext x6 (by omega)
 have lc:=fL (off:=0) o46 (by simp)
 simp only[aLE,aLC,aLK]at lc
 have o16:=((o1.ext x14 (λh=>h)).ext x5 (by omega)).ext x6 (by omega)
 simp(disch:=omega)only[SV,lc]
 refine eE o16 rfl (by simp[one]) (by simp) λw7 o7 x7 s7=> ?_
 refine lO o7 (by simp[aT]) ?_
 simp only[aT,aLy,aLB,aLE,aLC,aLK]
 rw[hRR]
 refine⟨.inr ⟨hok,l,last,w1.heap.size,_,rfl,hlast,hmay,hofl,hl2.1,hiff,rfl,z1,ob6.ext x7 (by omega)⟩, ?_⟩
 have x06:aN w w6 bJ:=((x1.seq x14).trans x5 λb hb h=>by omega).trans x6 λb hb h=>by omega
 exact x06.new x7 (aLA _)
abbrev cN(S:List Int):List aOn:=(pB S).map λ(n:Nat)=>Value.int .u32 n
abbrev aE7:aOn:= .agg #[.int .i64 0,.slice none 0 0]
theorem aHV{S:List Int}{c:Nat}(h:c<256):(cN S)[c]?=some (.int .u32 (S.count (c:Int):Nat)):=by
 rw[aLR,aLt (by rw[nX];exact h),<-cL,UI h]<;>rfl
theorem aHW{S:List Int}{c:Nat}(h:c<256):(cN S).set c (.int .u32 ((S.count (c:Int)+1:Nat)))=cN (S++[(c:Int)]):=by
 show _=(pB (S++[(c:Int)])).map _
 rw[auQ h,aM5]
theorem anZ{p:Nat}{w0 w:aOm}{x:Int}{a:Option Addr}{k c:Nat}{n e f:aOn}(o:aZ w p [.int .i64 0,.slice none 0 0])(hx:aN w0 w bJ)(hp:w0.heap.size<=p){RR:aOn->aOm->Prop}
 (hR:∀w',aN w0 w' bJ->aN w w' (λy=>y=p)->RR (.tuple #[.agg #[.int .i64 x,.slice a k c],n,e,f]) w'):
 aA pg (aM 106 (.pointer (some ⟨p,0,none⟩)) (.agg #[.int .i64 x,.slice a k c])) w λ_u w=>vV pg 106 (.pointer (some ⟨p,0,none⟩)) w λr0=>RR (.tuple #[r0,n,e,f]) w:=by
 refine fX o rfl (by simp[one]) (by simp) λw6 o6 x6 s6=> ?_
 refine Ga o6 (by simp[aT]) ?_
 simp only[aT,aLy,aLB,aLE,aLC,aLK]
 exact hR _ (hx.new x6 hp) x6
theorem aIW{a:Int}{lv:aOn}{l:List Int}{p4 po:Nat}{last:Int}{w0 w:aOm}(hs:Sl w0 lv (l.map (Value.int .i64)))(hx:aN w0 w bJ)(hp4:w0.heap.size<=p4)(hpo:w0.heap.size<=po)(hne:p4≠po)
 (o4:aZ w p4 [.int .i64 0,.slice none 0 0]) (oo:aZ w po (cN [])) (hl0:0<=last) (hl1:last<=60) (hlen:l.length<=131072) {RR:aOn->aOm->Prop} {kn:aOn->aOn->aOn->aOn->aOn->aOn->aOm->Prop}
 (hbad:(∃x∈l,¬(0<=x/\x<=last))->∀w',aN w0 w' bJ->RR (.tuple #[aE7,.int .i64 0,.slice none 0 0,.int .i64 1]) w')
 (hK:(∀x∈l,0<=x/\x<=last)->∀w',aZ w' p4 [.int .i64 0,.slice none 0 0]->aZ w' po (cN l)->aN w0 w' bJ→
  kn (.int .i64 a) lv (.pointer (some ⟨p4,0,none⟩)) (.pointer (some ⟨po,0,none⟩)) (.int .i64 ((pB l).countP cR:Nat)) (.int .i64 (gmx l)) w'):
 zV kn RR (.int .i64 a) lv (.pointer (some ⟨p4,0,none⟩)) (.int .i64 last) (.pointer (some ⟨po,0,none⟩)) (.int .i64 0) (.int .i64 0) w:=by
 unfold zV OV
 obtain⟨la,lc,rfl,_⟩:=hs.lenI
 simp(disch:=omega)only[SV]
 unfold zU
 refine aX.rule (λm (t:aOn×aOn×aOn) w'=>∃i:Nat,m=l.length-i/\t=(.int .i64 ((pB (l.take i)).countP cR:Nat),.int .i64 (gmx (l.take i)),.int .i64 i)/\i<=l.length/\(∀x∈l.take i,0<=x/\x<=last)/\
  aZ w' po (cN (l.take i))/\aN w w' (λy=>y=po)) l.length ⟨0,rfl, ?_,by omega,by simp,by rw[aLK];exact oo,aN.refl _ _⟩ ?_
 .rw [aLK,aqB,vT (λn hn=>aMY hn)]<;>rfl
 rintro m t w1 ⟨i,rfl,rfl,hi,hok,o1,x1⟩
 have x01:aN w0 w1 bJ:=hx.new x1 hpo
 have z1:=x01.size
 have o41:=o4.ext x1 (by omega)
 unfold Fx OU
 by_cases hlt:i<l.length
 .have d1:decide ((i:Int)<(l.length:Int))=true:=by simp;omega
  obtain⟨lb,off,rfl,hcell⟩:=slA (hs.ext x01 (aU _)) (by omega)
  have g1:=hcell i hlt
  rw[aLR,aLt hlt]at g1
  simp only[aL6]at g1
  have hmem:l[i]∈l:=aLT hlt
  have htk:l.take (i+1)=l.take i++[l[i]]:=by rw[aMG,aLt hlt]<;>rfl
  generalize l[i]=x at*
  unfold Fw Fv OT
  by_cases h0:x<0
  .have d2:decide (x<0)=true:=by simpa using h0
   simp(disch:=omega)only[SV,d1,g1,d2]
   exact anZ o41 x01 hp4 λw' x' _=>hbad ⟨x,hmem,by omega⟩ w' x'
  have d2:decide (x<0)=false:=by simpa using h0
  by_cases h1:last<x
  .have d3:decide (last<x)=true:=by simpa using h1
   simp(disch:=omega)only[SV,d1,g1,d2,d3]
   exact anZ o41 x01 hp4 λw' x' _=>hbad ⟨x,hmem,by omega⟩ w' x'
  have d3:decide (last<x)=false:=by simpa using h1
  obtain⟨c,rfl⟩:∃c:Nat,x=c:=⟨x.toNat,by omega⟩
  have f1:=o1.cell (off:=c)
  rw[aHV (by omega)]at f1
  have hcnt:(l.take i).count (c:Int)<=i:=by
   have:=List.count_le_length (a:=(c:Int)) (l:=l.take i)
   rw[aLD]at this;omega
  have hset:=aHW (S:=l.take i) (c:=c) (by omega)
  have hon:(pB (l.take (i+1))).countP cR=(pB (l.take i)).countP cR+if(l.take i).count (c:Int)=0 then 1 else 0:=by
   rw[htk,auQ (by omega),W5 (by rw[nX];omega) (by omega),UI (by omega)]
  have hgm:gmx (l.take (i+1))=max (gmx (l.take i)) (c:Int):=by rw[htk,aD6]
  have hok':∀x∈l.take (i+1),0<=x/\x<=last:=by
   rw[htk];intro x hx'
   rcases aMq.1 hx' with h|h
   .exact hok x h
   .rw [aMB.1 h];omega
  have hcb:(pB (l.take i)).countP cR<=256:=by
   have:=aNd (l:=pB (l.take i)) (p:=cR)
   rw[nX]at this;exact this
  have hgm2:max (gmx (l.take i)) (c:Int)=if(c:Int)>gmx (l.take i)then(c:Int)else gmx (l.take i):=by omega
  rw[hgm2]at hgm
  rw[<-htk]at hset
  generalize(l.take i).count (c:Int)=q at*
  generalize hG:gmx (l.take i)=G at*
  generalize hG2:gmx (l.take (i+1))=G2 at*
  have e1:(q:Int)+1=((q+1:Nat):Int):=by omega
  simp(disch:=omega)only[SV,d1,g1,d2,d3,f1,e1]
  refine Fm o1 rfl (by rw[aLv,nX];omega) λw2 o2 x2 s2=> ?_
  rw[hset]at o2
  have f2:=o2.cell (off:=c)
  have f2':(cN (l.take (i+1)))[c]?=some (.int .u32 ((q+1:Nat))):=by
   rw[<-hset,List.getElem?_set_self (by rw[aLv,nX];omega)]
  rw[f2']at f2
  have x12:aN w w2 (λy=>y=po):=x1.seq x2
  unfold Fu Ft
  by_cases hq:q=0
  .have n1:(((q+1:Nat):Int)==1)=true:=by rw[hq]<;>rfl
   rw[if_pos hq]at hon
   simp(disch:=omega)only[SV,f2,n1]
   refine⟨l.length-(i+1),by omega,i+1,rfl, ?_,by omega,hok',o2,x12⟩
   rw[hon,hG2,hgm]<;>rfl
  .have n1:(((q+1:Nat):Int)==1)=false:=beq_eq_false_iff_ne.2 (by omega)
   rw[if_neg hq]at hon
   simp(disch:=omega)only[SV,f2,n1]
   refine⟨l.length-(i+1),by omega,i+1,rfl, ?_,by omega,hok',o2,x12⟩
   rw[hon,hG2,hgm]<;>rfl
 .have d1:decide ((i:Int)<(l.length:Int))=false:=by simp;omega
  obtain rfl:i=l.length:=by omega
  rw[aLO (aLA _)]at*
  simp(disch:=omega)only[SV,d1]
  exact hK hok w1 o41 o1 x01
structure WT(a:Int)(l:List Int)(mode:Int)(lg:Nat)(L:List T3)(bytes:List UInt8):Prop where
 mode0:0<=mode
 mode2:mode<=2
 read:∀T more,akC a mode (bytes++more) T= .ok ((lg,L),bytes.length)
 has:∀x∈l,∃e∈L,e.1=x
 one:(∀x∈l,∀y∈l,x=y)->mode=1/\L.length=1
 len1:mode=1->bytes.length=1
 tab:(∃ps,WS lg ps/\L=mJ lg ps)∨∃c:Int,0<=c/\c<=60/\lg=0/\L=[(c,0,0)]
 log9:lg<=9
 blen:bytes.length<=1000
theorem WT.len {a:Int}{l:List Int}{mode:Int}{lg:Nat}{L:List T3}{bytes:List UInt8}(h:WT a l mode lg L bytes):L.length<=512:=by
 rcases h.tab with⟨ps,hm,rfl⟩|⟨c,_,_,rfl,rfl⟩
 .rw [gT];exact aLG (by omega) h.log9
 .simp
theorem aH6 {a:Int}(h:0<=a/\a<=2):(∀x∈gvP a,x≠0)/\gvL a<=6/\(gvP a).length<=53:=by
 rcases(show a=0∨a=1∨a=2 by omega)with rfl|rfl|rfl<;>decide
theorem auD{a:Int}(h:0<=a/\a<=2):8<=On a/\On a<=9:=by
 rcases(show a=0∨a=1∨a=2 by omega)with rfl|rfl|rfl<;>decide
theorem aFr{a:Int}{l:List Int}{c:Nat}(ha:0<=a/\a<=2)(hc:(c:Int)<=xH a)(hc2:c<256)(h:∀x∈l,x=(c:Int)):WT a l 1 0 [((c:Nat),0,0)] [UInt8.ofNat c]:=by
 have hcc:((UInt8.ofNat c).toNat:Nat)=c:=by simp;omega
 have:=Tl ha
 refine⟨by omega,by omega,λT more=> ?_,λx hx=>⟨_,aMB.2 rfl,(h x hx).symm⟩,λ_=>⟨rfl,rfl⟩,λ_=>rfl,.inr ⟨_,by omega,by omega,rfl,rfl⟩,by omega,by simp⟩
 unfold akC
 rw[if_neg (by omega),if_neg (by omega),if_pos rfl]
 show(if xH a<((UInt8.ofNat c).toNat:Int)then _ else _)=_
 rw[hcc,if_neg (by omega)]<;>rfl
theorem aAf{a:Int}{l:List Int}(ha:0<=a/\a<=2)(h:∀x∈l,0<=x/\x<((gvP a).length:Nat))(h1:¬(∀x∈l,∀y∈l,x=y)):WT a l 0 (gvL a) (mJ (gvL a) (gvP a)) []:=by
 obtain⟨hnz,hl6,_⟩:=aH6 ha
 have hm:=axU (a:=a) (by omega)
 refine⟨by omega,by omega,λT more=> ?_,λx hx=> ?_,λh=>absurd h h1,λh=>by omega,.inl ⟨_,hm,rfl⟩,by omega,by simp⟩
 .unfold akC
  rw[if_neg (by omega),if_pos rfl]<;>rfl
 .obtain ⟨h0,h2⟩:=h x hx
  obtain⟨c,rfl⟩:∃c:Nat,x=c:=⟨x.toNat,by omega⟩
  obtain⟨i,hi,e⟩:=ahE hm (s:=c) (by omega) (hnz _ (aLT _))
  exact⟨_,aLT hi,e⟩
theorem aCV{a:Int}{l:List Int}{lg:Nat}{ps:List Int}{bytes:List UInt8}(ha:0<=a/\a<=2)(hm:WS lg ps)(hh:Rj (HM lg ps) bytes)(hlg:(lg:Int)=On a)(hps:(ps.length:Int)<=xH a+1)(h:∀x∈l,∃c:Nat,x=c/\∃h:c<ps.length,ps[c]≠0)(h1:¬(∀x∈l,∀y∈l,x=y)):
 WT a l 2 lg (mJ lg ps) bytes:=by
 have hmo:=auD ha
 have hla:=Tl ha
 have hD:=aaU hm
 have hb:=hh.len
 refine⟨by omega,by omega,λT more=> ?_,λx hx=> ?_,λh=>absurd h h1,λh=>by omega,.inl ⟨_,hm,rfl⟩,by omega,by omega⟩
 .unfold akC
  rw[if_neg (by omega),if_neg (by omega),if_neg (by omega),if_neg (by omega),Pl,hh.bits,aLJ,aF9 hm (by omega) (by omega)]
  show Except.ok _=Except.ok _
  rw[hb]
 .obtain ⟨c,rfl,hc,hn⟩:=h x hx
  obtain⟨i,hi,e⟩:=ahE hm (s:=c) hc hn
  exact⟨_,aLT hi,e⟩
def Yl(a:Int)(l:List Int):Prop:=(0<=a/\a<=2)/\l≠[]/\∀x∈l,0<=x/\x<=xH a
theorem aIX{a:Int}{l:List Int}{p4 po:Nat}{g:Nat}{w0 w:aOm}(hx:aN w0 w bJ)(hg:xZ w0)(hp4:w0.heap.size<=p4)(hpo:w0.heap.size<=po)(hne:p4≠po)
 (o4:aZ w p4 [.int .i64 0,.slice none 0 0]) (oo:aZ w po (cN l)) (ha:0<=a/\a<=2) (hlen:l.length<=131072) (hok:∀x∈l,0<=x/\x<=xH a) (hgm:gmx l=g) (hcnt:2<=(pB l).countP cR) {RR:aOn->aOm->Prop}
 (hK:∀w' mode lg L bytes t v,Nc w' w0.heap.size (lg,L) t->pC w' w0.heap.size 1 v bytes.length (bytes.map dR)->WT a l mode lg L bytes->aN w0 w' bJ->RR (.tuple #[t,.int .i64 mode,v,.int .i64 0]) w'):
 vI RR (.int .i64 a) (.pointer (some ⟨p4,0,none⟩)) (.pointer (some ⟨po,0,none⟩)) (.int .i64 g) w:=by
 have hmo:=auD ha
 have hla:=Tl ha
 obtain⟨last,hlast⟩:∃n:Nat,xH a=n:=⟨(xH a).toNat,by omega⟩
 obtain⟨g',hg',hgl,hnl,hget,hle,hct⟩:=aAX (S:=l) (n:=last) (by omega) (λx hx=>by have:=hok x hx;omega)
 obtain rfl:g=g':=by omega
 obtain⟨ns,hns⟩:∃ns,ns=(pB l).take (g+1):=⟨_,rfl⟩
 rw[<-hns]at hnl hget hct
 have hsum:ns.sum<=131072:=by rw[hns];have:=aqC l (g+1) (by omega);omega
 have hmem:∀n∈ns,n<=4294967295:=λn hn=>by
  rw[hns]at hn
  have:=aIr l n (aMx hn);omega
 have hc53:ns.countP cR<=256:=by have:=aNd (l:=ns) (p:=cR);omega
 have hp8:2^8<=2^(On a).toNat:=aLG (by omega) (by omega)
 have hofOk:aqD (On a) ns=true:=by
  unfold aqD
  exact decide_eq_true ⟨by omega,by omega,by omega,by omega,by omega,by omega⟩
 have hno1:¬(∀x∈l,∀y∈l,x=y):=λh=>by
  cases l with
  |nil=>rw[aqB,vT (λn hn=>aMY hn)]at hcnt;omega
  |cons y l=>
   have hy:=hok y (aMa ..)
   have:=aAp (S:=y::l) (c:=y.toNat) (by omega) (λx hx=>by have:=h x hx y (aMa ..);omega) (by simp)
   omega
 have hsh:iD ⟨po,0,none⟩ 256 0 1=⟨po,0,none⟩:=oC (by decide)
 have e1:(g:Int)+1=((g+1:Nat):Int):=by omega
 have hsl:∀w',aZ w' po (cN l)->Sl w' (.slice (some ⟨po,0,none⟩) (g+1) 256) (ns.map λ(n:Nat)=>Value.int .u32 n):=λw' o=>by
  refine⟨_,_,_,rfl,by rw[aLv];exact hnl.symm,by omega,λ_=>⟨_,_,rfl,λi hi=> ?_⟩⟩
  rw[o.cell,aLI,hns,aNg,aLX hi]
 unfold vI
 have fin:∀(w':aOm) (pc pb:Nat) (lg last:Nat) (ps:List Nat),aN w0 w' bJ->w0.heap.size<=pc->pc≠p4->w0.heap.size<=pb->aZ w' p4 [.int .i64 0,.slice none 0 0]->(lg:Int)=On a->IV ns ns.length last->WS lg (ps.map λ(n:Nat)=>(n:Int))->ps.length=last+1->last<ns.length→
     (∀i,i<last+1->(0<ps.getD i 0↔0<ns.getD i 0))->aZ w' pc [.int .i64 lg,.slice (some ⟨pb,0,none⟩) (last+1) (last+1)]->aZ w' pb (ps.map λ(n:Nat)=>Value.int .i64 n)→
     Bz RR (.pointer (some ⟨p4,0,none⟩)) (.pointer (some ⟨pc,0,none⟩)) (.int .i64 0) w':=by
  intro w1 pc pb lg la ps x1 hpc hpc4 hpb o41 hlg hlast' hmay hpl hlan hiff oc ob
  unfold Bz
  have n1:((0:Int) !=0)=false:=rfl
  have l1:=fL (off:=0) oc (by simp)
  simp only[aLE,aLC,aLK]at l1
  have hs1:Sl w1 (.slice (some ⟨pb,0,none⟩) (la+1) (la+1)) ((ps.map λ(n:Nat)=>(n:Int)).map (Value.int .i64)):=by
   rw[List.map_map]
   exact⟨_,_,_,rfl,by rw[aLv,hpl],aLA _,λ_=>⟨_,_,rfl,λi hi=>by rw[ob.cell,aLI]<;>rfl⟩⟩
  simp(disch:=omega)only[SV,n1,l1]
  refine(auJ hmay hs1).mono ?_
  rintro r w2 ⟨bytes,v,rfl,hh,ho,x2⟩
  have z1:=x1.size
  have z2:=x2.size
  obtain⟨va,vc,rfl⟩:=ho.len
  have l1:=fL (off:=0) (oc.ext x2 (λh=>h)) (by simp)
  simp only[aLE,aLC,aLK]at l1
  simp(disch:=omega)only[SV,n1,l1]
  refine(aAt hmay (hs1.ext x2 (aU _))).mono ?_
  rintro r w3 ⟨b,t,rfl,⟨rfl,hb1,ob3⟩,x3⟩
  have z3:=x3.size
  have hbl:=ob3.lt
  simp(disch:=omega)only[SV]
  refine pU λw8 o8 x8 s8=> ?_
  refine fX o8 rfl (by simp[one]) (by simp) λw9 o9 x9 s9=> ?_
  have l2:=vO (off:=0) o9 (by simp[aT])
  simp only[aT,aLy,aLB,aLE,aLC,aLK]at l2
  have x39:aN w3 w9 bJ:=x8.new x9 (aLA _)
  have x29:aN w2 w9 bJ:=x3.seq x39
  simp(disch:=omega)only[SV,l2]
  refine anZ ((o41.ext x2 (λh=>h)).ext x29 (λh=>h)) ((x1.seq x2).seq x29) hp4 λw' x xx=> ?_
  have h4:=o41.lt
  refine hK w' 2 lg (mJ lg (ps.map λ(n:Nat)=>(n:Int))) bytes _ _ (.inr ⟨b,rfl,by omega, ?_⟩) ?_ ?_ x
  .exact ((ob3.ext x8 (λh=>h)).ext x9 (by omega)).ext xx (by omega)
  .have h1:=(ho.ext x29 (λb hb h=>h)).ext xx (λb hb=>by omega)
   refine⟨h1.1, ?_⟩
   rcases h1.2 with h|⟨b,c,rest,q1,q2,q3⟩
   .exact .inl h
   .exact .inr ⟨b,c,rest,q1,by omega,q3⟩
  .refine aCV ha hmay hh hlg (by rw[aLv];omega) (λx hx=> ?_) hno1
   have hx1:=hok x hx
   have hx2:=hle x hx
   obtain⟨c,rfl⟩:∃c:Nat,x=c:=⟨x.toNat,by omega⟩
   have hon:0<ns.getD c 0:=by rw[hget c (by omega)];exact aaP hx
   have hcl:c<la+1:=by
    rcases aLL c (la+1)with h|h
    .exact h
    .exfalso
     rcases hlast' with⟨rfl,h0⟩|⟨_,_,h0⟩
     .have:=h0 c (by omega);omega
     .have:=h0 c (by omega) (by omega);omega
   have hp:=(hiff c hcl).2 hon
   refine⟨c,rfl,by rw[aLv];omega, ?_⟩
   rw[cL (by omega)]at hp
   rw[aMp];omega
 have res:∀{w1:aOm} {b1:Nat} {r:aOn},aDk w1 b1 (On a) ns r->∃(lg last pb:Nat) (ps:List Nat),(lg:Int)=On a/\IV ns ns.length last/\WS lg (ps.map λ(n:Nat)=>(n:Int))/\ps.length=last+1/\last<ns.length/\(∀i,i<last+1->(0<ps.getD i 0↔0<ns.getD i 0))/\
     r= .tuple #[.agg #[.int .i64 lg,.slice (some ⟨pb,0,none⟩) (last+1) (last+1)],.int .i64 0]/\b1<=pb/\aZ w1 pb (ps.map λ(n:Nat)=>Value.int .i64 n):=λh=>by
  rcases h with⟨h,_⟩|⟨_,l,la,pb,ps,h1,h2⟩
  .rw [hofOk]at h;cases h
  .exact ⟨l,la,pb,ps,h1.symm,h2⟩
 have z0:=hx.size
 have l4:=o4.lt
 have lo:=oo.lt
 unfold Rc
 refine Nb (Nb ?_ ?_) ?_
 have hds:(dr w).heap.size=w.heap.size:=rfl
 .simp (disch:=omega)only[SV,e1,hsh,aM0]
  refine(ayF a _).mono ?_
  rintro r w1 ⟨rfl,hw⟩
  rw[hw];clear hw w1
  refine(aiW (hsl _ (bV oo)) hmem (by omega)).mono ?_
  rintro r w1 ⟨hr,x1⟩
  have x1:aN w w1 bJ:=(aN.dr _ _).seq x1
  obtain⟨lg,la,pb,ps,q1,q2,q3,q4,q5,q6,rfl,q7,q8⟩:=res hr
  have z1:=x1.size
  have lp:=q8.lt
  simp(disch:=omega)only[SV]
  refine kK λw2 o2 x2 s2=> ?_
  refine eE o2 rfl (by simp[one]) (by simp) λw3 o3 x3 s3=> ?_
  simp only[aT,aLy,aLB]at o3
  have x13:aN w1 w3 bJ:=x2.new x3 (aLA _)
  exact fin w3 _ pb lg la ps ((hx.seq x1).seq x13) (by omega) (by omega) (by omega) ((o4.ext x1 (λh=>h)).ext x13 (λh=>h)) q1 q2 q3 q4 q5 q6 o3 ((q8.ext x2 (λh=>h)).ext x3 (by omega))
 .simp (disch:=omega)only[SV,e1,hsh,aM0]
  refine(ayF a _).mono ?_
  rintro r w1 ⟨rfl,hw⟩
  rw[hw];clear hw w1
  refine kK λw2 o2 x2 s2=> ?_
  have x2:aN w w2 bJ:=(aN.dr _ _).seq x2
  refine(aiW (hsl _ (oo.ext x2 (λh=>h))) hmem (by omega)).mono ?_
  rintro r w1 ⟨hr,x1⟩
  obtain⟨lg,la,pb,ps,q1,q2,q3,q4,q5,q6,rfl,q7,q8⟩:=res hr
  have z2:=x2.size
  have lp:=q8.lt
  simp(disch:=omega)only[SV]
  refine eE (o2.ext x1 (λh=>h)) rfl (by simp[one]) (by simp) λw3 o3 x3 s3=> ?_
  simp only[aT,aLy,aLB]at o3
  have x13:aN w w3 bJ:=(x2.seq x1).new x3 (aLA _)
  exact fin w3 w.heap.size pb lg la ps (hx.seq x13) (by omega) (by omega) (by omega) (o4.ext x13 (λh=>h)) q1 q2 q3 q4 q5 q6 o3 (q8.ext x3 (by omega))
 .simp (disch:=omega)only[SV,e1,hsh,aM0]
  refine kK λw2 o2 x2 s2=> ?_
  have x2:aN w w2 bJ:=(aN.dr _ _).seq x2
  refine(ayF a _).mono ?_
  rintro r w1 ⟨rfl,hw⟩
  rw[hw];clear hw w1
  refine(aiW (hsl _ (oo.ext x2 (λh=>h))) hmem (by omega)).mono ?_
  rintro r w1 ⟨hr,x1⟩
  obtain⟨lg,la,pb,ps,q1,q2,q3,q4,q5,q6,rfl,q7,q8⟩:=res hr
  have z2:=x2.size
  have lp:=q8.lt
  simp(disch:=omega)only[SV]
  refine eE (o2.ext x1 (λh=>h)) rfl (by simp[one]) (by simp) λw3 o3 x3 s3=> ?_
  simp only[aT,aLy,aLB]at o3
  have x13:aN w w3 bJ:=(x2.seq x1).new x3 (aLA _)
  exact fin w3 w.heap.size pb lg la ps (hx.seq x13) (by omega) (by omega) (by omega) (o4.ext x13 (λh=>h)) q1 q2 q3 q4 q5 q6 o3 (q8.ext x3 (by omega))
theorem aKd{a:Int}{lv:aOn}{l:List Int}{p4:Nat}{w0 w:aOm}(hs:Sl w0 lv (l.map (Value.int .i64)))(hx:aN w0 w bJ)(hp4:w0.heap.size<=p4)
 (o4:aZ w p4 [.int .i64 0,.slice none 0 0]) (ha:0<=a/\a<=2) (hne:l≠[]) (hok:∀x∈l,0<=x/\x<=xH a) (hall:∀x∈l,∀y∈l,x=y) {RR:aOn->aOm->Prop}
 (hK:∀w' mode lg L bytes t v,Nc w' w0.heap.size (lg,L) t->pC w' w0.heap.size 1 v bytes.length (bytes.map dR)->WT a l mode lg L bytes->aN w0 w' bJ->RR (.tuple #[t,.int .i64 mode,v,.int .i64 0]) w'):
 HC RR lv (.pointer (some ⟨p4,0,none⟩)) w:=by
 have hla:=Tl ha
 have hl0:0<l.length:=aNX.2 hne
 obtain⟨la,lc,rfl,_⟩:=hs.lenI
 have hsx:=hs.ext hx (aU _)
 obtain⟨lb,off,rfl,hcell⟩:=slA hsx (by omega)
 have g1:=hcell 0 hl0
 rw[aLR,aLt hl0]at g1
 simp only[aL6,aL3]at g1
 have hmem:l[0]∈l:=aLT hl0
 have hc:=hok _ hmem
 have hall':∀x∈l,x=l[0]:=λx hx=>hall x hx _ hmem
 generalize l[0]=x at*
 obtain⟨c,rfl⟩:∃c:Nat,x=c:=⟨x.toNat,by omega⟩
 have t0:(0:Int).toNat=0:=rfl
 have hpos:(0:Int)<(l.length:Nat):=by omega
 have hW:=aFr (l:=l) ha hc.2 (by omega) hall'
 have hcc:((UInt8.ofNat c).toNat:Nat)=c:=by simp;omega
 have z0:=hx.size
 have l4:=o4.lt
 have g2:(dr w).cell? ⟨lb,off,none⟩=some (.int .i64 (c:Nat)):=g1
 have far:∀{w':aOm} {M:Nat->Prop},aN w w' M->(¬JN (.slice (some ⟨lb,off,none⟩) l.length lc) M)->w'.cell? ⟨lb,off,none⟩=some (.int .i64 (c:Nat)):=λx hM=>by
  have h:=slA (hsx.ext x hM) (by omega)
  obtain⟨b',o',e,h'⟩:=h
  cases e
  have:=h' 0 hl0
  rw[aL3,hcell 0 hl0|>.symm,aL3,g1]at this
  exact this
 have fin:∀(w2:aOm) (b bs:Nat),aN w0 w2 bJ->w0.heap.size<=b->w0.heap.size<=bs->aZ w2 b (fe .u8 [((c:Nat),0,0)])->aZ w2 bs [.int .u8 (c:Nat)]->aZ w2 p4 [.int .i64 0,.slice (some ⟨b,0,none⟩) 1 1]→
     BA RR (.pointer (some ⟨p4,0,none⟩)) (.int .i64 1) (.slice (some ⟨bs,0,none⟩) 1 1) (.int .i64 0) w2:=by
  intro w2 b bs x2 hb hbs ob obs o42
  unfold BA
  refine Ga o42 (by simp) ?_
  simp only[aLE,aLC,aLK]
  refine hK w2 1 0 [((c:Nat),0,0)] [UInt8.ofNat c] _ _ (.inr ⟨b,rfl,hb,ob⟩) ?_ hW x2
  refine⟨rfl,.inr ⟨bs,1,[],rfl,hbs, ?_,rfl,aLA _⟩⟩
  have e:[UInt8.ofNat c].map dR++[]=[.int .u8 (c:Nat)]:=by
   rw[aMf]
   show[Value.int .u8 ((UInt8.ofNat c).toNat:Nat)]=_
   rw[hcc]
  rw[e];exact obs
 have hds:(dr w).heap.size=w.heap.size:=rfl
 unfold HC Rd
 refine Nb (Nb ?_ ?_) ?_
 .simp (disch:=omega)only[SV,t0,aL3,hpos,g1,g2]
  refine(aEx (c:Nat) _).mono ?_
  rintro r w1 ⟨b,⟨rfl,hb1,ob⟩,x1⟩
  have x1:aN w w1 bJ:=(aN.dr _ _).seq x1
  have z1:=x1.size
  have lb1:=ob.lt
  have g3:=far x1 (aU _)
  have g4:(dr w1).cell? ⟨lb,off,none⟩=some (.int .i64 (c:Nat)):=g3
  simp(disch:=omega)only[SV,t0,aL3,hpos,g1,g2,g3,g4]
  refine iM (cells:= #[.int .u8 (c:Nat)]) (by decide) (by decide) (by kernel_rfl) λw2 o2 x2 s2=> ?_
  have hds1:(dr w1).heap.size=w1.heap.size:=rfl
  have z2:=x2.size
  refine fX ((o4.ext x1 (λh=>h)).ext x2 (λh=>h)) rfl (by simp[one]) (by simp) λw3 o3 x3 s3=> ?_
  simp only[aT,aLy,aLB]at o3
  exact fin w3 b w1.heap.size (((hx.seq x1).seq x2).new x3 hp4) (by omega) (by omega) ((ob.ext x2 (λh=>h)).ext x3 (by omega)) (o2.ext x3 (by omega)) o3
 .simp (disch:=omega)only[SV,t0,aL3,hpos,g1,g2]
  refine(aEx (c:Nat) _).mono ?_
  rintro r w1 ⟨b,⟨rfl,hb1,ob⟩,x1⟩
  have x1:aN w w1 bJ:=(aN.dr _ _).seq x1
  have z1:=x1.size
  have lb1:=ob.lt
  have g3:=far x1 (aU _)
  have g4:(dr w1).cell? ⟨lb,off,none⟩=some (.int .i64 (c:Nat)):=g3
  simp(disch:=omega)only[SV,t0,aL3,hpos,g1,g2,g3,g4]
  refine fX (o4.ext x1 (λh=>h)) rfl (by simp[one]) (by simp) λw2 o2 x2 s2=> ?_
  simp only[aT,aLy,aLB]at o2
  have hds1:(dr w1).heap.size=w1.heap.size:=rfl
  have z2:=x2.size
  have x02:=(hx.seq x1).new x2 hp4
  have g5:w2.cell? ⟨lb,off,none⟩=some (.int .i64 (c:Nat)):=far ((x1.mono (N:=λy=>y=p4) λ_ _ h=>h.elim).seq x2) (by
   intro h
   exact hs.old (vE h λy hy=>by omega))
  simp(disch:=omega)only[SV,t0,aL3,hpos,g1,g2,g3,g4,g5]
  refine iM (cells:= #[.int .u8 (c:Nat)]) (by decide) (by decide) (by kernel_rfl) λw3 o3 x3 s3=> ?_
  exact fin w3 b w2.heap.size (x02.seq x3) (by omega) (by omega) ((ob.ext x2 (by omega)).ext x3 (λh=>h)) o3 (o2.ext x3 (λh=>h))
 .simp (disch:=omega)only[SV,t0,aL3,hpos,g1,g2]
  refine iM (cells:= #[.int .u8 (c:Nat)]) (by decide) (by decide) (by kernel_rfl) λw2 o2 x2 s2=> ?_
  have x2:aN w w2 bJ:=(aN.dr _ _).seq x2
  have z2:=x2.size
  have g3:=far x2 (aU _)
  have g4:(dr w2).cell? ⟨lb,off,none⟩=some (.int .i64 (c:Nat)):=g3
  simp(disch:=omega)only[SV,t0,aL3,hpos,g1,g2,g3,g4]
  refine(aEx (c:Nat) _).mono ?_
  rintro r w1 ⟨b,⟨rfl,hb1,ob⟩,x1⟩
  have hds1:(dr w2).heap.size=w2.heap.size:=rfl
  have z1:=x1.size
  have lb1:=ob.lt
  refine fX ((o4.ext x2 (λh=>h)).ext x1 (λh=>h)) rfl (by simp[one]) (by simp) λw3 o3 x3 s3=> ?_
  simp only[aT,aLy,aLB]at o3
  exact fin w3 b w.heap.size (((hx.seq x2).seq x1).new x3 hp4) (by omega) (by omega) (ob.ext x3 (by omega)) ((o2.ext x1 (λh=>h)).ext x3 (by omega)) o3
def WrR(w:aOm)(base:Nat)(a:Int)(l:List Int)(r:aOn):Prop:=
 (¬Yl a l/\r= .tuple #[aE7,.int .i64 0,.slice none 0 0,.int .i64 1])∨
 (Yl a l/\∃(mode:Int) (lg:Nat) (L:List T3) (bytes:List UInt8) (t v:aOn),r= .tuple #[t,.int .i64 mode,v,.int .i64 0]/\Nc w base (lg,L) t/\pC w base 1 v bytes.length (bytes.map dR)/\WT a l mode lg L bytes)
theorem aFa{a:Int}{lv:aOn}{l:List Int}{w:aOm}(hg:xZ w)(hs:Sl w lv (l.map (Value.int .i64)))(hlen:l.length<=131072):
 aK pg kV #[.int .i64 a,lv] w (λr w'=>WrR w' w.heap.size a l r/\aN w w' bJ):=by
 refine ZL ?_
 obtain⟨RR,hRR⟩:∃RR:aOn->aOm->Prop,RR=λr w'=>WrR w' w.heap.size a l r/\aN w w' bJ:=⟨_,rfl⟩
 rw[<-hRR]
 have bad:¬Yl a l->∀w',aN w w' bJ->RR (.tuple #[aE7,.int .i64 0,.slice none 0 0,.int .i64 1]) w':=λh w' x=>by
  rw[hRR];exact⟨.inl ⟨h,rfl⟩,x⟩
 have good:Yl a l->∀w' mode lg L bytes t v,Nc w' w.heap.size (lg,L) t->pC w' w.heap.size 1 v bytes.length (bytes.map dR)->WT a l mode lg L bytes->aN w w' bJ->RR (.tuple #[t,.int .i64 mode,v,.int .i64 0]) w':=λh w' mode lg L bytes t v h1 h2 h3 x=>by
  rw[hRR];exact⟨.inr ⟨h,mode,lg,L,bytes,t,v,rfl,h1,h2,h3⟩,x⟩
 unfold ZK OX OW
 refine pU λw1 o1 x1 s1=> ?_
 refine(ayE (hg.ext x1)).mono ?_
 rintro r w2 ⟨rfl,x2⟩
 have x02:=x1.seq x2
 have o12:=o1.ext x2 (λh=>h)
 have z1:=x1.size
 have z2:=x2.size
 by_cases ha:0<=a/\a<=2
 rotate_left
 .have d1:decide (xH a<0)=true:=by rw[aEg ha]<;>rfl
  simp(disch:=omega)only[SV,d1]
  exact anZ o12 x02 (aLA _) λw' x _=>bad (λh=>ha h.1) w' x
 have hla:=Tl ha
 have d1:decide (xH a<0)=false:=by simp;omega
 have hs0:=hs
 obtain⟨la,lc,rfl,_⟩:=hs.lenI
 by_cases hl0:l=[]
 .have n1:(((l.length:Nat):Int)==0)=true:=by rw[hl0]<;>rfl
  simp(disch:=omega)only[SV,d1,n1]
  exact anZ o12 x02 (aLA _) λw' x _=>bad (λh=>h.2.1 hl0) w' x
 have hlp:0<l.length:=aNX.2 hl0
 have n1:(((l.length:Nat):Int)==0)=false:=beq_eq_false_iff_ne.2 (by omega)
 have d2:decide ((131072:Int)<((l.length:Nat):Int))=false:=by simp;omega
 have hcs:cN []=List.replicate 256 (Value.int .u32 0):=by
  show(pB []).map _=_
  rw[aqB,aNf]<;>rfl
 simp(disch:=omega)only[SV,d1,n1,d2]
 refine aeM λw3 o3 x3 s3=> ?_
 have o3:aZ w3 w2.heap.size (cN []):=by rw[hcs];exact o3
 have z3:=x3.size
 unfold Fy
 refine aIW (w0:=w) hs0 (x02.seq x3) (aLA _) (by omega) (by omega) (o12.ext x3 (λh=>h)) o3 (by omega) (by omega) hlen (λ⟨x,hx,hn⟩=>bad λh=>hn (h.2.2 x hx)) λhok w4 o4 oo x4=> ?_
 have hcok:Yl a l:=⟨ha,hl0,hok⟩
 unfold Fs OS
 have z4:=x4.size
 refine(aGh (hg.ext x4)).mono ?_
 rintro r w5 ⟨gv,rfl,hsg,x5⟩
 have z5:=x5.size
 obtain⟨ga,gc,rfl,_⟩:=hsg.lenI
 refine kK λw6 o6 x6 s6=> ?_
 refine eE o6 rfl (by simp[one]) (by simp) λw7 o7 x7 s7=> ?_
 simp only[aT,aLy,aLB]at o7
 have x57:aN w5 w7 bJ:=x6.new x7 (aLA _)
 have x47:=x5.seq x57
 have x07:=x4.seq x47
 have z7:=x57.size
 have l4:=o4.lt
 have o47:=o4.ext x47 (λh=>h)
 have oo7:=oo.ext x47 (λh=>h)
 unfold Fq Fp Rf HD
 have hb255:∀x∈l,0<=x/\x<=255:=λx hx=>by have:=hok x hx;omega
 have hcp:=aFX hb255 hl0
 by_cases h1:(pB l).countP cR=1
 .have n2:((((pB l).countP cR:Nat):Int)==1)=true:=by rw[h1]<;>rfl
  simp(disch:=omega)only[SV,n2]
  exact aKd hs0 x07 (aLA _) o47 ha hl0 hok (aGx hb255 h1) (good hcok)
 have n2:((((pB l).countP cR:Nat):Int)==1)=false:=beq_eq_false_iff_ne.2 (by omega)
 obtain⟨last,hlast⟩:∃n:Nat,xH a=n:=⟨(xH a).toNat,by omega⟩
 obtain⟨g,hg',hgl,hnl,hget,hle,hct⟩:=aAX (S:=l) (n:=last) (by omega) (λx hx=>by have:=hok x hx;omega)
 have told:vI RR (.int .i64 a) (.pointer (some ⟨w.heap.size,0,none⟩)) (.pointer (some ⟨w2.heap.size,0,none⟩)) (.int .i64 g) w7:=
  aIX x07 hg (aLA _) (by omega) (by omega) o47 oo7 ha hlen hok hg' (by omega) (good hcok)
 rw[hg']
 unfold Re
 by_cases h64:l.length<64
 .have d3:decide (((l.length:Nat):Int)<64)=true:=by simp;omega
  have c1:=o7.cell (off:=1)
  simp only[aLu,aLw]at c1
  by_cases hgv:g<(gvP a).length
  .have d4:decide (((g:Nat):Int)<(((gvP a).length:Nat):Int))=true:=by simp;omega
   have l1:=fL (off:=0) o7 (by simp)
   simp only[aLE,aLC,aLK]at l1
   have hm:=axU (a:=a) (by omega)
   simp(disch:=omega)only[SV,n2,d3,c1,d4,l1]
   refine(aAt hm (hsg.ext x57 (aU _))).mono ?_
   rintro r w8 ⟨b,t,rfl,⟨rfl,hb1,ob⟩,x8⟩
   have z8:=x8.size
   have hbl:=ob.lt
   simp(disch:=omega)only[SV]
   refine pU λw9 o9 x9 s9=> ?_
   refine fX o9 rfl (by simp[one]) (by simp) λwa oa xa sa=> ?_
   have l2:=vO (off:=0) oa (by simp[aT])
   simp only[aT,aLy,aLB,aLE,aLC,aLK]at l2
   have x8a:aN w8 wa bJ:=x9.new xa (aLA _)
   have x7a:=x8.seq x8a
   simp(disch:=omega)only[SV,l2]
   refine anZ (o47.ext x7a (λh=>h)) (x07.seq x7a) (aLA _) λw' x xx=> ?_
   refine good hcok w' 0 (gvL a) (mJ (gvL a) (gvP a)) [] _ _ (.inr ⟨b,rfl,by omega, ?_⟩) (pC.nil _ _ _) ?_ x
   .exact ((ob.ext x9 (λh=>h)).ext xa (by omega)).ext xx (by omega)
   .refine aAf ha (λx hx=> ?_) λh=> ?_
    .have h1:=hok x hx
     have h2:=hle x hx
     omega
    .obtain ⟨y,hy⟩:=aNZ _ hl0
     have hyb:=hb255 y hy
     exact h1 (aAp (S:=l) (c:=y.toNat) (by omega) (λx hx=>by have:=h x hx y hy;omega) hl0)
  .have d4:decide (((g:Nat):Int)<(((gvP a).length:Nat):Int))=false:=by simp;omega
   simp(disch:=omega)only[SV,n2,d3,c1,d4]
   exact told
 .have d3:decide (((l.length:Nat):Int)<64)=false:=by simp;omega
  simp(disch:=omega)only[SV,n2,d3]
  exact told
def agR(L:List T3):Prop:=∀sy:Int,(∃e∈L,e.1=sy)->∀s:Nat,s<L.length->∃(i:Nat) (e:T3),L[i]?=some e/\inE sy s e=true
theorem aCq(c:Int):agR [(c,0,0)]:=by
 rintro sy ⟨e,he,rfl⟩ s hs
 obtain rfl:=aMB.1 he
 have:s=0:=by simp at hs;omega
 subst this
 exact⟨0,_,rfl,by unfold inE;simp⟩
theorem avA{log:Nat}{ps:List Int}(hm:WS log ps):agR (mJ log ps):=by
 rintro sy ⟨e,he,rfl⟩ s hs
 rw[gT]at hs
 obtain⟨i,hi,rfl⟩:=aLY he
 have h2:i<2^log:=by rw[gT]at hi;exact hi
 obtain⟨sy,hsy,e,hp,_⟩:=abK hm (zA hm 0) h2
 have hn:ps[sy]≠0:=λh=>by rw[h]at hp;revert hp;decide
 rw[WZ log ps h2,e]
 obtain⟨i',hi',h1,_⟩:=aGy hm hsy hn hs
 exact⟨i',_,aaJ hi',h1⟩
theorem aAg{a:Int}{l:List Int}{mode:Int}{lg:Nat}{L:List T3}{bytes:List UInt8}(h:WT a l mode lg L bytes):agR L:=by
 rcases h.tab with⟨ps,hm,rfl⟩|⟨c,_,_,_,rfl⟩
 .exact avA hm
 .exact aCq c
theorem acZ{k:Nat}{l:List Int}{mode:Int}{lg:Nat}{L:List T3}{bytes:List UInt8}(hk:k<3)(h:WT (k:Int) l mode lg L bytes):X0 k (lg,L):=by
 have h1:=h.read (0,[]) []
 have h0:=h.mode0
 have h2:=h.mode2
 obtain⟨m,rfl⟩:∃m:Nat,mode=m:=⟨mode.toNat,by omega⟩
 exact(azT hk (λh3=>by omega) h1).1
def arX(last:Bool)(L:List T3)(c s t:Nat)(u:List Bool):Prop:=(∃e,L[s]?=some e/\e.1=(c:Int))/\(if last then u=[]else StB L s t u)
def auS(r:Nat):Nat:=if r=0 then 1 else if r=1 then 2 else 0
def aCm(k:Nat):Nat:=if k=1 then 0 else if k=2 then 1 else 2
def ayS(us:Nat->List Bool)(r:Nat):List Bool:=if r=0 then[]else if r=1 then us 1 else if r=2 then us 1++us 2 else us 1++us 2++us 0
def upU(us:Nat->List Bool)(k:Nat)(x:List Bool):Nat->List Bool:=λi=>if i=k then x else us i
theorem UJ(us:Nat->List Bool){r:Nat}(h:r<3)(x:List Bool):ayS (upU us (auS r) x) (r+1)=ayS us r++x:=by
 rcases(show r=0∨r=1∨r=2 by omega)with rfl|rfl|rfl<;>simp[ayS,upU,auS]
theorem aGC(r:Nat):auS r<3:=by unfold auS;split<;>(try split)<;>omega
theorem Zp{r k:Nat}(hr:r<3)(hk:k<3):(aCm k<r+1)↔(aCm k<r∨k=auS r):=by
 rcases(show r=0∨r=1∨r=2 by omega)with rfl|rfl|rfl<;>rcases(show k=0∨k=1∨k=2 by omega)with rfl|rfl|rfl<;>decide
theorem aCn{r:Nat}(hr:r<3):aCm (auS r)=r:=by
 rcases(show r=0∨r=1∨r=2 by omega)with rfl|rfl|rfl<;>rfl
theorem aEP{w:aOm}{base:Nat}{L:Nat->List Nat}{v:Nat->aOn}{D:Nat->Nat->Prop}(h:C3 w base L v D){k i c:Nat}(hk:k<3)(hc:(L k)[i]?=some c):
 ∃b off cc,v k= .slice (some ⟨b,off,none⟩) (L k).length cc/\w.cell? ⟨b,off+i,none⟩=some (.int .i64 c):=by
 have hi:i<(L k).length:=by
  rcases aLL i (L k).length with h|h
  .exact h
  .rw [aLH h]at hc;cases hc
 have o:=h.row k hk
 rcases o.2 with⟨_,hz⟩|⟨b,c',rest,h1,h2,h3,h4,h5⟩
 .omega
 .refine ⟨b,0,c',h1, ?_⟩
  rw[h3.cell,aLI,aLU (by rw[aLv];exact hi),aLR,hc]
  rfl
theorem avV{k2:K6}{RR:K1}{la:Option Addr}{n lc pe pt p ps i:Nat}{t:Nat->TT}{a:Nat->Option Addr}{L:Nat->List Nat}{v:Nat->aOn}{D:Nat->Nat->Prop}{st cc:Nat->Nat}{B:List Bool}{wc w:aOm}
 (hTc:Tb3 wc t a) (hCc:C3 wc 0 L v D) (xc:aN wc w bJ) (hge:wc.heap.size<=pe/\pe<pt/\pt<p/\p<ps) (oE:aZ w pe (vL v)) (oT:aZ w pt (c6 t a)) (oS:aZ w ps (s3L st)) (hW:Ws w (λb=>ps<b) p B)
 (hi:i<n) (hn:n<=1000000) (hcc:∀k,k<3->(L k)[i]?=some (cc k)/\cc k<kA k) (hG:∀k,k<3->X0 k (t k)/\agR (t k).2/\∃e∈(t k).2,e.1=(cc k:Int)) (hst:i+1<n->∀k,k<3->st k<(t k).2.length) (hB:B.length<=90000000)
 (hk:∀(w':aOm) (st':Nat->Nat) (us:Nat->List Bool),aZ w' ps (s3L st')->(∀k,k<3->arX (decide (i+1=n)) (t k).2 (cc k) (st' k) (st k) (us k))->Ws w' (λb=>ps<b) p (B++(us 1++us 2++us 0))->aN w w' (λy=>y=p∨y=ps∨ps<y)->k2 (.slice la n lc) (.pointer (some ⟨pe,0,none⟩)) (.pointer (some ⟨pt,0,none⟩)) (.pointer (some ⟨p,0,none⟩)) (.pointer (some ⟨ps,0,none⟩)) (.int .i64 i) w'):
 iZ k2 RR (.slice la n lc) (.pointer (some ⟨pe,0,none⟩)) (.pointer (some ⟨pt,0,none⟩)) (.pointer (some ⟨p,0,none⟩)) (.pointer (some ⟨ps,0,none⟩)) (.int .i64 i) (.agg #[.int .i64 1,.int .i64 2,.int .i64 0]) (.int .i64 0) w:=by
 have hps:=oS.lt
 unfold iZ
 refine aX.rule (λm (x:aOn) w'=>∃(j:Nat) (st':Nat->Nat) (us:Nat->List Bool),m=j/\j<=3/\x= .int .i64 (3-j:Nat)/\aZ w' ps (s3L st')/\(∀k,k<3->aCm k<3-j->arX (decide (i+1=n)) (t k).2 (cc k) (st' k) (st k) (us k))/\(∀k,k<3->¬aCm k<3-j->st' k=st k)/\
  Ws w' (λb=>ps<b) p (B++ayS us (3-j))/\(ayS us (3-j)).length<=20*(3-j)/\aN w w' (λy=>y=p∨y=ps∨ps<y)) 3
  ⟨3,st,λ_=>[],rfl,aLA _,rfl,oS,λk _ h=>by omega,λ_ _ _=>rfl,by simpa[ayS]using hW,by simp[ayS],aN.refl _ _⟩ ?_
 rintro j x w1 ⟨m,st',us,rfl,hj,rfl,oS1,hD,hU,hW1,hlen,x1⟩
 unfold yT GU
 rcases j with _|j
 .have d1:decide (((3-0:Nat):Int)<3)=false:=rfl
  simp(disch:=omega)only[SV,d1]
  exact hk _ st' us oS1 (λk hk=>hD k hk (by unfold aCm;split<;>(try split)<;>omega)) hW1 x1
 obtain⟨r,hr⟩:∃r,r=2-j:=⟨_,rfl⟩
 have hr3:r<3:=by omega
 have ek:((3-(j+1):Nat):Int)=(r:Int):=by omega
 have ek2:3-(j+1)=r:=by omega
 have ek3:3-j=r+1:=by omega
 have d1:decide ((r:Int)<3)=true:=by simp;omega
 have hx:(#[Value.int .i64 1,.int .i64 2,.int .i64 0]:Array aOn)[r]?=some (.int .i64 (auS r:Nat)):=by
  rcases(show r=0∨r=1∨r=2 by omega)with rfl|rfl|rfl<;>rfl
 have hk3:=aGC r
 have hpo:=aCn hr3
 obtain⟨k,hkk⟩:∃k,k=auS r:=⟨_,rfl⟩
 rw[ek]
 rw[ek2]at hD hU hW1 hlen
 rw[<-hkk]at hx hk3 hpo
 obtain⟨hck,hcl⟩:=hcc k hk3
 obtain⟨hGk,hRk,hEk⟩:=hG k hk3
 have xc1:aN wc w1 bJ:=xc.trans x1 λb hb h=>by have:=xc.size;omega
 have hT1:=hTc.ext xc1
 have hC1:=hCc.ext xc1 (λ_ _ _ h=>h)
 have oE1:=oE.ext x1 (by omega)
 have oT1:=oT.ext x1 (by omega)
 obtain⟨b,off,c',ev,hcell⟩:=aEP hC1 hk3 hck
 have cE:=oE1.cell (off:=k)
 rw[aBa _ hk3,ev]at cE
 have hc53:kA k<=53:=by rcases(show k=0∨k=1∨k=2 by omega)with rfl|rfl|rfl<;>decide
 have hiL:i<(L k).length:=by
  rcases aLL i (L k).length with h|h
  .exact h
  .rw [aLH h]at hck;cases hck
 have ew:IntKind.u8.wrap ((cc k:Nat):Int)=((cc k:Nat):Int):=Qg (by omega) (by omega)
 have l1:=vO (off:=k*2) oT1 (by simp[c6];omega)
 rw[aHg _ _ hk3]at l1
 have hlt512:(t k).2.length<=512:=by rw[hGk.len];exact aLG (by omega) hGk.lg
 have hlpos:0<(t k).2.length:=by rw[hGk.len];exact aLZ _
 obtain⟨tb,htb⟩:=(hT1 k hk3).tbl hlpos
 have n0:((0:Int) !=0)=false:=rfl
 by_cases hlast:i+1=n
 .have n1:((i:Int)==(n:Int)-1)=true:=by simp;omega
  simp(disch:=omega)only[SV,d1,hx,cE,hcell,ew,n1,l1,aLx]
  refine(aDY htb (by omega) (cc k:Nat)).mono ?_
  rintro rr w2 ⟨hF,x2⟩
  rcases hF with⟨s',hs',rfl,hsy,_⟩|⟨_,hno⟩
  rotate_left
  .obtain ⟨e,he,hes⟩:=hEk
   obtain⟨y,hy,rfl⟩:=aLY he
   exact absurd hes (hno y hy)
  have oS2:=oS1.ext x2 (λh=>h)
  simp(disch:=omega)only[SV,n0,aLx]
  refine rF oS2 rfl (by simp[s3L];omega) λw3 o3 x3 s3=> ?_
  rw[aES _ hk3]at o3
  have e1:(r:Int)+1=((3-j:Nat):Int):=by omega
  unfold qL
  simp(disch:=omega)only[SV,e1]
  refine⟨j,by omega,j,upS st' k s',upU us k [],rfl,by omega,rfl,o3,λq hq hqp=> ?_,λq hq hqp=> ?_, ?_, ?_, ?_⟩
  .rw [ek3,Zp hr3 hq,<-hkk]at hqp
   unfold upS upU
   by_cases hqk:q=k
   .subst hqk
    rw[if_pos rfl,if_pos rfl]
    refine⟨⟨_,aLt hs',hsy⟩, ?_⟩
    rw[decide_eq_true hlast]<;>rfl
   .rw [if_neg hqk,if_neg hqk]
    exact hD q hq (by rcases hqp with h|h
                      .exact h
                      .exact absurd h hqk)
  .rw [ek3,Zp hr3 hq,<-hkk]at hqp
   unfold upS
   rw[if_neg (λh=>hqp (.inr h))]
   exact hU q hq (λh=>hqp (.inl h))
  .rw [ek3,hkk,UJ us hr3,aMf]
   exact(hW1.ext x2 (λh=>h) (λ_ _ h=>h)).ext x3 (by omega) (λb hb h=>by omega)
  .rw [ek3,hkk,UJ us hr3,aMf];omega
  .exact (x1.more x2).seq (x3.mono λ_ _ h=> .inr (.inl h))
 .have n1:((i:Int)==(n:Int)-1)=false:=by simp;omega
  have hstk:=hst (by omega) k hk3
  have hUk:=hU k hk3 (by rw[hpo];omega)
  have l1d:=vO (off:=k*2) (bV oT1) (by simp[c6];omega)
  rw[aHg _ _ hk3]at l1d
  have c1d:=(bV oS1).cell (off:=k)
  rw[aHw _ hk3,hUk]at c1d
  simp(disch:=omega)only[SV,d1,hx,cE,hcell,ew,n1,l1d,c1d,aLx]
  obtain⟨tb,htb⟩:=(hT1.ext (aN.dr w1 bJ) k hk3).tbl hlpos
  refine(aDu htb hGk.low (by omega) (st k) hstk (cc k:Nat)).mono ?_
  rintro rr w2 ⟨hF,x2⟩
  have x12:aN w1 w2 bJ:=(aN.dr _ _).seq x2
  rcases hF with⟨s',e,hs',hin,rfl⟩|⟨hno,_⟩
  rotate_left
  .obtain ⟨y,e,hy,hin⟩:=hRk (cc k:Nat) hEk (st k) hstk
   rw[hno y e hy]at hin;cases hin
  obtain⟨nb,hnb1,hnb2,hnb3,hnb4⟩:=hGk.low _ (aMm hs')
  obtain⟨e0,e1',e2⟩:=e
  simp only at hnb1 hnb3 hnb4
  subst hnb1
  unfold inE at hin
  simp only[decide_eq_true_eq,aLx]at hin
  obtain⟨g0,g1,g2⟩:=hin
  obtain⟨xx,hxx⟩:∃xx:Nat,(st k:Int)-e2=xx:=⟨((st k:Int)-e2).toNat,by omega⟩
  have hp2:(2:Int)^nb=((2^nb:Nat):Int):=by simp
  rw[hp2]at g2
  have hxl:xx<2^nb:=by omega
  have hp20:2^nb<=2^20:=aLG (by omega) hnb2
  have hs's:s'<(t k).2.length:=by
   rcases aLL s' (t k).2.length with h|h
   .exact h
   .rw [aLH h]at hs';cases hs'
  simp(disch:=omega)only[SV,n0,hxx]
  have hW2:=hW1.ext x12 (λh=>h) (λ_ _ h=>h)
  refine(ZX (x:=xx) (n:=nb) hW2 (λb hb=>by have:=x12.size;have:=x1.size;omega) (by omega) (by omega) (by rw[aLs];omega)).mono ?_
  rintro rr w3 ⟨rfl,hW3,x3⟩
  have oS3:=(oS1.ext x12 (λh=>h)).ext x3 (by omega)
  refine rF oS3 rfl (by simp[s3L];omega) λw4 o4 x4 s4=> ?_
  rw[aES _ hk3]at o4
  have e1:(r:Int)+1=((3-j:Nat):Int):=by omega
  unfold qL
  simp(disch:=omega)only[SV,e1]
  refine⟨j,by omega,j,upS st' k s',upU us k (cZ xx nb),rfl,by omega,rfl,o4,λq hq hqp=> ?_,λq hq hqp=> ?_, ?_, ?_, ?_⟩
  .rw [ek3,Zp hr3 hq,<-hkk]at hqp
   unfold upS upU
   by_cases hqk:q=k
   .subst hqk
    rw[if_pos rfl,if_pos rfl]
    refine⟨⟨_,hs',g0⟩, ?_⟩
    rw[decide_eq_false hlast]
    exact⟨_,nb,xx,hs',rfl,hxl,by simp only;omega,rfl⟩
   .rw [if_neg hqk,if_neg hqk]
    exact hD q hq (by rcases hqp with h|h
                      .exact h
                      .exact absurd h hqk)
  .rw [ek3,Zp hr3 hq,<-hkk]at hqp
   unfold upS
   rw[if_neg (λh=>hqp (.inr h))]
   exact hU q hq (λh=>hqp (.inl h))
  .rw [ek3,hkk,UJ us hr3,<-aLJ]
   exact hW3.ext x4 (by omega) (λb hb h=>by omega)
  .rw [ek3,hkk,UJ us hr3,aLs,bM];omega
  .exact ((x1.more x12).seq (x3.mono λ_ _ h=>by rcases h with h|h;exact .inl h;exact .inr (.inr h))).seq (x4.mono λ_ _ h=> .inr (.inl h))
def vb(q:Sq)(cc:Nat->Nat)(k:Nat):List Bool:=cZ (kv q k-(wA k).getD (cc k) 0) ((lT k).getD (cc k) 0)
def ayR(us:Nat->List Bool)(r:Nat):List Bool:=if r=0 then[]else if r=1 then us 0 else if r=2 then us 0++us 2 else us 0++us 2++us 1
theorem aCe(us:Nat->List Bool){r:Nat}(h:r<3):ayR us (r+1)=ayR us r++us (aCd r):=by
 rcases(show r=0∨r=1∨r=2 by omega)with rfl|rfl|rfl<;>simp[ayR,aCd]
theorem aCK{k4:K6}{lv:aOn}{pe pt p ps pv i:Nat}{L:Nat->List Nat}{v:Nat->aOn}{D:Nat->Nat->Prop}{cc:Nat->Nat}{q:Sq}{B:List Bool}{wc w:aOm}
 (hg:xZ wc) (hCc:C3 wc 0 L v D) (xc:aN wc w bJ) (hge:wc.heap.size<=pe/\pe<pt/\pt<p/\p<ps/\ps<pv) (oE:aZ w pe (vL v)) (oV:aZ w pv (kvL q)) (hW:Ws w (λb=>ps<b/\b≠pv) p B)
 (hcc:∀k,k<3->(L k)[i]?=some (cc k)/\xX k (kv q k) (cc k)) (hB:B.length<=90000000)
 (hk:∀(w':aOm),Ws w' (λb=>ps<b/\b≠pv) p (B++(vb q cc 0++vb q cc 2++vb q cc 1))->aN w w' (λy=>y=p∨(ps<y/\y≠pv))->k4 lv (.pointer (some ⟨pe,0,none⟩)) (.pointer (some ⟨pt,0,none⟩)) (.pointer (some ⟨p,0,none⟩)) (.pointer (some ⟨ps,0,none⟩)) (.int .i64 i) w'):
 iY k4 lv (.pointer (some ⟨pe,0,none⟩)) (.pointer (some ⟨pt,0,none⟩)) (.pointer (some ⟨p,0,none⟩)) (.pointer (some ⟨ps,0,none⟩)) (.int .i64 i) (.pointer (some ⟨pv,0,none⟩)) (.agg #[.int .i64 0,.int .i64 2,.int .i64 1]) (.int .i64 0) w:=by
 have hpv:=oV.lt
 unfold iY
 refine aX.rule (λm (x:aOn) w'=>∃(j:Nat),m=j/\j<=3/\x= .int .i64 (3-j:Nat)/\Ws w' (λb=>ps<b/\b≠pv) p (B++ayR (vb q cc) (3-j))/\(ayR (vb q cc) (3-j)).length<=31*(3-j)/\aN w w' (λy=>y=p∨(ps<y/\y≠pv))) 3
  ⟨3,rfl,aLA _,rfl,by simpa[ayR]using hW,by simp[ayR],aN.refl _ _⟩ ?_
 rintro j x w1 ⟨m,rfl,hj,rfl,hW1,hlen,x1⟩
 unfold Az
 rcases j with _|j
 .have d1:decide (((3-0:Nat):Int)<3)=false:=rfl
  simp(disch:=omega)only[SV,d1]
  exact hk _ hW1 x1
 obtain⟨r,hr⟩:∃r,r=2-j:=⟨_,rfl⟩
 have hr3:r<3:=by omega
 have ek:((3-(j+1):Nat):Int)=(r:Int):=by omega
 have ek2:3-(j+1)=r:=by omega
 have ek3:3-j=r+1:=by omega
 have d1:decide ((r:Int)<3)=true:=by simp;omega
 have hx:(#[Value.int .i64 0,.int .i64 2,.int .i64 1]:Array aOn)[r]?=some (.int .i64 (aCd r:Nat)):=by
  rcases(show r=0∨r=1∨r=2 by omega)with rfl|rfl|rfl<;>rfl
 have hk3:=aGB r
 obtain⟨k,hkk⟩:∃k,k=aCd r:=⟨_,rfl⟩
 rw[ek]
 rw[ek2]at hW1 hlen
 have hOS:=aCe (vb q cc) hr3
 rw[<-hkk]at hx hk3 hOS
 obtain⟨hck,hcv⟩:=hcc k hk3
 have xc1:aN wc w1 bJ:=xc.trans x1 λb hb h=>by have:=xc.size;omega
 have hC1:=hCc.ext xc1 (λ_ _ _ h=>h)
 have oE1:=oE.ext x1 (by omega)
 have oV1:=oV.ext x1 (by omega)
 obtain⟨b,off,c',ev,hcell⟩:=aEP hC1 hk3 hck
 have cE:=oE1.cell (off:=k)
 rw[aBa _ hk3,ev]at cE
 have hiL:i<(L k).length:=by
  rcases aLL i (L k).length with h|h
  .exact h
  .rw [aLH h]at hck;cases hck
 simp(disch:=omega)only[SV,d1,hx,cE,hcell,aLx]
 refine(aHX (hg.ext xc1) hk3 hcv.1).mono ?_
 rintro rr w2 ⟨rfl,x2⟩
 have cV:=(oV1.ext x2 (λh=>h)).cell (off:=k)
 have hkv:(kvL q)[k]?=some (.int .u32 (kv q k:Nat)):=by
  rcases(show k=0∨k=1∨k=2 by omega)with rfl|rfl|rfl<;>rfl
 rw[hkv]at cV
 have hcl:=hcv.lt hk3
 have hc1:=hcv.2.1
 have ha:=aAu hk3 (cc k)
 have hvb:vb q cc k=cZ (kv q k-(wA k).getD (cc k) 0) ((lT k).getD (cc k) 0):=rfl
 have e1:(r:Int)+1=((3-j:Nat):Int):=by omega
 generalize(wA k).getD (cc k) 0=bg at*
 generalize(lT k).getD (cc k) 0=ad at*
 obtain⟨y,hy⟩:∃y,y=kv q k-bg:=⟨_,rfl⟩
 rw[<-hy]at hvb
 have es:IntKind.u32.wrap (((kv q k:Nat):Int)-(bg:Int))=(y:Int):=by rw[w32 (by omega) (by omega)];omega
 have ey:IntKind.u64.wrap (y:Int)=(y:Int):=gP (by omega) (by omega)
 simp(disch:=omega)only[SV,cV,es,ey,aLx]
 refine(ZX (x:=y) (n:=ad) (hW1.ext x2 (λh=>h) (λ_ _ h=>h)) (λb hb=>by have:=x2.size;have:=x1.size;omega) (by omega) (by omega) (by rw[aLs];omega)).mono ?_
 rintro rr w3 ⟨rfl,hW3,x3⟩
 simp(disch:=omega)only[SV,e1]
 rw[aLJ,<-hvb,<-hOS,<-ek3]at hW3
 refine⟨j,by omega,j,rfl,by omega,rfl,hW3, ?_,(x1.more x2).seq x3⟩
 rw[ek3,hOS,aLs,hvb,bM];omega
theorem aE0 {k6:K1}{pt p ps:Nat}{t:Nat->TT}{a:Nat->Option Addr}{st:Nat->Nat}{B:List Bool}{w:aOm}(hge:pt<p/\p<ps)(oT:aZ w pt (c6 t a))(oS:aZ w ps (s3L st))(hW:Ws w (λb=>ps<b) p B)(hlg:∀k,k<3->(t k).1<=9)(hst:∀k,k<3->st k<1000)(hB:B.length<=90000000)
 (hk:∀(w':aOm),Ws w' (λb=>ps<b) p (B++cZ (st 2) (t 2).1++cZ (st 1) (t 1).1++cZ (st 0) (t 0).1)->aN w w' (λy=>y=p∨ps<y)->k6 (.pointer (some ⟨p,0,none⟩)) w'):
 jO k6 (.pointer (some ⟨pt,0,none⟩)) (.pointer (some ⟨p,0,none⟩)) (.pointer (some ⟨ps,0,none⟩)) (.agg #[.int .i64 2,.int .i64 1,.int .i64 0]) (.int .i64 0) w:=by
 have hps:=oS.lt
 have hsum:∃f:Nat->List Bool,f 0=B/\f 1=B++cZ (st 2) (t 2).1/\f 2=B++cZ (st 2) (t 2).1++cZ (st 1) (t 1).1/\f 3=B++cZ (st 2) (t 2).1++cZ (st 1) (t 1).1++cZ (st 0) (t 0).1:=by
  exact⟨λr=>if r=0 then B else if r=1 then B++cZ (st 2) (t 2).1 else if r=2 then B++cZ (st 2) (t 2).1++cZ (st 1) (t 1).1 else B++cZ (st 2) (t 2).1++cZ (st 1) (t 1).1++cZ (st 0) (t 0).1,rfl,rfl,rfl,rfl⟩
 obtain⟨f,f0,f1,f2,f3⟩:=hsum
 have hf:∀r,r<3->f (r+1)=f r++cZ (st (2-r)) (t (2-r)).1:=λr hr=>by
  rcases(show r=0∨r=1∨r=2 by omega)with rfl|rfl|rfl
  .rw [f1,f0]
  .rw [f2,f1]
  .rw [f3,f2]
 rw[<-f3]at hk
 unfold jO
 refine aX.rule (λm (x:aOn) w'=>∃(j:Nat),m=j/\j<=3/\x= .int .i64 (3-j:Nat)/\Ws w' (λb=>ps<b) p (f (3-j))/\(f (3-j)).length<=B.length+9*(3-j)/\aN w w' (λy=>y=p∨ps<y)) 3
  ⟨3,rfl,aLA _,rfl,by rw[show 3-3=0 from rfl,f0];exact hW,by rw[show 3-3=0 from rfl,f0];omega,aN.refl _ _⟩ ?_
 rintro j x w1 ⟨m,rfl,hj,rfl,hW1,hlen,x1⟩
 unfold Av
 rcases j with _|j
 .have d1:decide (((3-0:Nat):Int)<3)=false:=rfl
  simp(disch:=omega)only[SV,d1]
  exact hk _ hW1 x1
 obtain⟨r,hr⟩:∃r,r=2-j:=⟨_,rfl⟩
 have hr3:r<3:=by omega
 have ek:((3-(j+1):Nat):Int)=(r:Int):=by omega
 have ek2:3-(j+1)=r:=by omega
 have ek3:3-j=r+1:=by omega
 have d1:decide ((r:Int)<3)=true:=by simp;omega
 have hx:(#[Value.int .i64 2,.int .i64 1,.int .i64 0]:Array aOn)[r]?=some (.int .i64 (2-r:Nat)):=by
  rcases(show r=0∨r=1∨r=2 by omega)with rfl|rfl|rfl<;>rfl
 have hfr:=hf r hr3
 obtain⟨k,hkk⟩:∃k,k=2-r:=⟨_,rfl⟩
 have hk3:k<3:=by omega
 rw[ek]
 rw[ek2]at hW1 hlen
 rw[<-hkk]at hx hfr
 have hlgk:=hlg k hk3
 have hstk:=hst k hk3
 have oT1:=bV (oT.ext x1 (by omega))
 have oS1:=bV (oS.ext x1 (by omega))
 have cS:=oS1.cell (off:=k)
 rw[aHw _ hk3]at cS
 have cT:=oT1.cell (off:=k*2)
 have hcT:(c6 t a)[k*2]?=some (.int .i64 (t k).1):=by
  rcases(show k=0∨k=1∨k=2 by omega)with rfl|rfl|rfl<;>rfl
 rw[hcT]at cT
 have ey:IntKind.u64.wrap ((st k:Nat):Int)=((st k:Nat):Int):=gP (by omega) (by omega)
 have e1:(r:Int)+1=((3-j:Nat):Int):=by omega
 simp(disch:=omega)only[SV,d1,hx,cS,cT,ey,aLx]
 refine(ZX (x:=st k) (n:=(t k).1) (hW1.ext (aN.dr w1 bJ) (λh=>h) (λ_ _ h=>h)) (λb hb=>by have h1:(dr w1).heap.size=w1.heap.size:=rfl
                                                                                         have:=x1.size;omega) (by omega) (by omega) (by omega)).mono ?_
 rintro rr w3 ⟨rfl,hW3,x3⟩
 simp(disch:=omega)only[SV,e1]
 rw[<-hfr,<-ek3]at hW3
 refine⟨j,by omega,j,rfl,by omega,rfl,hW3, ?_,x1.seq ((aN.dr _ _).seq x3)⟩
 rw[ek3,hfr,aLs,bM];omega
def aqX(t:Nat->TT)(st:Nat->Nat)(X:List Bool):List Bool:=X++cZ (st 2) (t 2).1++cZ (st 1) (t 1).1++cZ (st 0) (t 0).1
def aJq(w:aOm)(base:Nat)(l:List Sq)(t:Nat->TT)(r:aOn):Prop:=
 ∃bv bytes X st,r= .tuple #[bv,.int .i64 0]/\Bs w bv bytes/\AtI bv base w.heap.size/\Rj (aqX t st X++[true]) bytes/\Enc (t 0).2 (t 1).2 (t 2).2 l (st 0) (st 1) (st 2) X/\(∀k,k<3->st k<(t k).2.length)/\X.length<=200*l.length
theorem azX{q:Sq}{k s t:Nat}{L:List T3}{cc:Nat->Nat}{u:List Bool}{last:Bool}(hc:xX k (kv q k) (cc k))(h:arX last L (cc k) s t u):ValB k L s (kv q k) (vb q cc k):=by
 obtain⟨⟨e,he,hes⟩,_⟩:=h
 exact⟨cc k,e,hc,he,hes,rfl⟩
theorem aFf(q:Sq)(cc:Nat->Nat){k:Nat}(hk:k<3):(vb q cc k).length<=31:=by
 unfold vb;rw[bM];exact aAu hk _
theorem IU{last:Bool}{L:List T3}{c s t:Nat}{u:List Bool}(hL:Low L)(h:arX last L c s t u):u.length<=20:=by
 obtain⟨_,h2⟩:=h
 split at h2
 .rw [h2];simp
 .obtain ⟨e,n,x,he,hn,_,_,rfl⟩:=h2
  obtain⟨m,h3,h4,_⟩:=hL _ (aMm he)
  rw[bM];omega
theorem aEY{last:Bool}{L:List T3}{c s t:Nat}{u:List Bool}(h:arX last L c s t u):s<L.length:=by
 obtain⟨⟨e,he,_⟩,_⟩:=h
 rcases aLL s L.length with h|h
 .exact h
 .rw [aLH h]at he;cases he
theorem aE2 {lv:aOn}{l:List Sq}{L:Nat->List Nat}{v:Nat->aOn}{D:Nat->Nat->Prop}{t:Nat->TT}{a:Nat->Option Addr}{w:aOm}(hg:xZ w)(h:Cl w 3 lv l.length (sqs l))(h0:0<l.length)(hl:l.length<=10000)(hC:C3 w 0 L v D)(hK:∀k,k<3->WR k l (L k))(hT:Tb3 w t a)
 (hG:∀k,k<3->X0 k (t k)/\agR (t k).2/\∀c∈L k,∃e∈(t k).2,e.1=(c:Int)):
 aK pg tJ #[lv,.agg (vL v).toArray,.agg (c6 t a).toArray] w (λr w'=>aJq w' w.heap.size l t r/\aN w w' bJ):=by
 refine RY ?_
 obtain⟨RR,hRR⟩:∃RR:aOn->aOm->Prop,RR=λr w'=>aJq w' w.heap.size l t r/\aN w w' bJ:=⟨_,rfl⟩
 rw[<-hRR]
 have hf:=h
 obtain⟨la,lc,rfl,_⟩:=hf
 unfold OE GZ GY
 refine fC λw1 o1 x1 s1=> ?_
 refine fC λw2 o2 x2 s2=> ?_
 obtain⟨y0,y1,y2,f0,f1,f2⟩:=hC.form
 have o1:aZ w1 w.heap.size (vL v):=by
  have e:(Value.agg (vL v).toArray).cells.toList=vL v:=by unfold vL;rw[f0,f1,f2]<;>rfl
  rw[e]at o1
  exact o1
 have o2:aZ w2 w1.heap.size (c6 t a):=o2
 refine(Za w2).mono ?_
 rintro r w3 ⟨rfl,hlt3,hW3,x3⟩
 refine awQ λw4 o4 x4 s4=> ?_
 have o4:aZ w4 w3.heap.size (s3L (λ_=>0)):=o4
 have x04:aN w w4 bJ:=((x1.seq x2).seq x3).seq x4
 obtain⟨pe,hpe⟩:∃pe,pe=w.heap.size:=⟨_,rfl⟩
 obtain⟨pt,hpt⟩:∃pt,pt=w1.heap.size:=⟨_,rfl⟩
 obtain⟨p,hp⟩:∃p,p=w2.heap.size:=⟨_,rfl⟩
 obtain⟨ps,hps⟩:∃ps,ps=w3.heap.size:=⟨_,rfl⟩
 have oE:aZ w4 pe (vL v):=by rw[hpe];exact((o1.ext x2 (λh=>h)).ext x3 (λh=>h)).ext x4 (λh=>h)
 have oT:aZ w4 pt (c6 t a):=by rw[hpt];exact(o2.ext x3 (λh=>h)).ext x4 (λh=>h)
 have hW4:Ws w4 (λb=>ps<b) p []:=by
  have h1:=hW3.ext x4 (λh=>h) (λ_ h=>h.elim)
  rw[hp]
  exact h1.turn (by omega) (λb h=>h.elim)
 rw[<-hpe,<-hpt,<-hp,<-hps]
 rw[<-hps]at o4
 have hge:w.heap.size<=pe/\pe<pt/\pt<p/\p<ps:=⟨by omega,by omega,by omega,by omega⟩
 have hlg:∀k,k<3->(t k).1<=9:=λk hk=>(hG k hk).1.lg
 unfold yZ yY GX
 simp(disch:=omega)only[SV]
 unfold qM
 refine aX.rule (λk (x:aOn) w'=>∃(m:Nat) (st:Nat->Nat) (B:List Bool),k=m/\m<=l.length/\x= .int .i64 ((m:Int)-1)/\aZ w' ps (s3L st)/\Ws w' (λb=>ps<b) p B/\(m<l.length->Enc (t 0).2 (t 1).2 (t 2).2 (l.drop m) (st 0) (st 1) (st 2) B/\∀k,k<3->st k<(t k).2.length)/\(m=l.length->B=[])/\B.length<=200*(l.length-m)/\aN w4 w' (λy=>y=p∨y=ps∨ps<y)) l.length
  ⟨l.length,λ_=>0,[],rfl,aLA _,rfl,o4,hW4,λh=>by omega,λ_=>rfl,by simp,aN.refl _ _⟩ ?_
 rintro k x w5 ⟨m,st,B,rfl,hm,rfl,o5,hW5,hEn,hE0,hBl,x5⟩
 unfold yX GW
 have z04:=x04.size
 have x05:aN w w5 bJ:=x04.trans x5 λb hb h=>by omega
 have oE5:=oE.ext x5 (by omega)
 have oT5:=oT.ext x5 (by omega)
 rcases k with _|i
 .obtain ⟨hEn,hst⟩:=hEn h0
  rw[aLE]at hEn
  have d1:decide ((0:Int)<=((0:Nat):Int)-1)=false:=rfl
  simp(disch:=omega)only[SV,d1]
  unfold Ax Aw H7
  simp(disch:=omega)only[SV]
  unfold jO
  have hst':∀k,k<3->st k<1000:=λk hk=>by
   have h1:=hst k hk
   have h2:(t k).2.length<=512:=by rw[(hG k hk).1.len];exact aLG (by omega) (hlg k hk)
   omega
  refine aE0 ⟨hge.2.2.1,hge.2.2.2⟩ oT5 o5 hW5 hlg hst' (by omega) λw6 hW6 x6=> ?_
  unfold Au
  have hlen:(B++cZ (st 2) (t 2).1++cZ (st 1) (t 1).1++cZ (st 0) (t 0).1).length<=10000000:=by
   simp only[aLs,bM]
   have:=hlg 0 (by omega);have:=hlg 1 (by omega);have:=hlg 2 (by omega)
   omega
  refine(asM hW6.wr hlen).mono ?_
  rintro r w7 ⟨bytes,hb7,hh,hat,x7⟩
  rw[hRR]
  have x06:aN w w6 bJ:=x05.trans x6 λb hb h=>by omega
  have z6:=x06.size
  refine⟨⟨r,bytes,B,st,rfl,hb7,λM hM=>hat M λb h1 h2=>hM b (by omega) h2,hh,hEn,hst,by omega⟩,x06.seq x7⟩
 .have d1:decide ((0:Int)<=((i+1:Nat):Int)-1)=true:=by simp
  have e1:((i+1:Nat):Int)-1=(i:Int):=by omega
  have d2:decide ((0:Int)<=(i:Int))=true:=by simp
  rw[e1]
  simp(disch:=omega)only[SV,d2]
  unfold yW yV yU GV
  simp(disch:=omega)only[SV]
  unfold iZ
  obtain⟨q,hq⟩:∃q,l[i]?=some q:=⟨_,aLt hm⟩
  have hcx:∃cc:Nat->Nat,∀k,k<3->(L k)[i]?=some (cc k):=by
   have hj:∀k,k<3->∃c,(L k)[i]?=some c:=λk hk=>⟨_,aLt (by rw[(hK k hk).1];exact hm)⟩
   obtain⟨c0,h0⟩:=hj 0 (by omega)
   obtain⟨c1,h1⟩:=hj 1 (by omega)
   obtain⟨c2,h2⟩:=hj 2 (by omega)
   refine⟨λk=>if k=0 then c0 else if k=1 then c1 else c2,λk hk=> ?_⟩
   rcases(show k=0∨k=1∨k=2 by omega)with rfl|rfl|rfl
   .exact h0
   .exact h1
   .exact h2
  obtain⟨cc,hcc⟩:=hcx
  have hcv:∀k,k<3->xX k (kv q k) (cc k):=λk hk=>(hK k hk).2 i q _ hq (hcc k hk)
  refine avV (n:=l.length) (cc:=cc) hT hC x05 hge oE5 oT5 o5 hW5 hm (by omega) (λk hk=>⟨hcc k hk,(hcv k hk).1⟩) (λk hk=>⟨(hG k hk).1,(hG k hk).2.1,(hG k hk).2.2 _ (aMm (hcc k hk))⟩) (λh=>(hEn h).2) (by omega) λw6 st' us o6 hS hW6 x6=> ?_
  have z5:=x5.size
  have x06:aN w w6 bJ:=x05.trans x6 λb hb h=>by omega
  unfold yS GS
  obtain⟨b,off,c',e,lq⟩:=aA5 (aoL h x06 (aU _) (by omega)) hq
  cases e
  have lq6:=lq w6 (λ_=>rfl)
  simp only[sqc]at lq6
  simp(disch:=omega)only[SV,lq6,aLx]
  refine(awE q _).mono ?_
  rintro r w7 ⟨rfl,x7⟩
  refine VE λw8 o8 x8 s8=> ?_
  refine T7 o8 rfl (by simp[one,kvL]) (by simp) λw9 o9 x9 s9=> ?_
  obtain⟨pv,hpv⟩:∃pv,pv=w7.heap.size:=⟨_,rfl⟩
  rw[<-hpv]at o9⊢
  have o9:aZ w9 pv (kvL q):=o9
  have x69:aN w6 w9 bJ:=x7.seq (x8.new x9 (aLA _))
  have z7:=x7.size
  have hps6:=o6.lt
  have x09:=x06.seq x69
  have hW9:Ws w9 (λb=>ps<b/\b≠pv) p (B++(us 1++us 2++us 0)):=by
   have h1:=hW6.turn (T:=λb=>ps<b/\b<w6.heap.size) (by omega) (λb hb hl=>⟨hb,hl⟩)
   have h2:=h1.ext x69 (λh=>h) (λ_ _ h=>h)
   exact h2.turn (by omega) (λb hb _=>⟨hb.1,by omega⟩)
  unfold iY
  have oE9:=(oE5.ext x6 (by omega)).ext x69 (λh=>h)
  refine aCK (q:=q) (cc:=cc) (i:=i) hg hC x09 ⟨hge.1,hge.2.1,hge.2.2.1,hge.2.2.2,by omega⟩ oE9 o9 hW9 (λk hk=>⟨hcc k hk,hcv k hk⟩) ?_ λw10 hW10 x10=> ?_
  .have u0:=IU (hG 0 (by omega)).1.low (hS 0 (by omega))
   have u1:=IU (hG 1 (by omega)).1.low (hS 1 (by omega))
   have u2:=IU (hG 2 (by omega)).1.low (hS 2 (by omega))
   simp only[aLs];omega
  unfold Ay
  simp(disch:=omega)only[SV]
  have u0:=IU (hG 0 (by omega)).1.low (hS 0 (by omega))
  have u1:=IU (hG 1 (by omega)).1.low (hS 1 (by omega))
  have u2:=IU (hG 2 (by omega)).1.low (hS 2 (by omega))
  have v0:=aFf q cc (k:=0) (by omega)
  have v1:=aFf q cc (k:=1) (by omega)
  have v2:=aFf q cc (k:=2) (by omega)
  have hdr:l.drop i=q::l.drop (i+1):=by
   rw[aL8 hm]
   congr 1
   rw[aLt hm]at hq
   exact aLW hq
  have xz6:=x69.size
  have x6z:aN w4 w10 (λy=>y=p∨y=ps∨ps<y):=((x5.seq x6).more x69).seq (x10.mono λ_ _ h=>by
   rcases h with h|h
   .exact .inl h
   .exact .inr (.inr h.1))
  have o10:aZ w10 ps (s3L st'):=(o6.ext x69 (λh=>h)).ext x10 (by omega)
  refine⟨i,by omega,i,st',_,rfl,by omega,rfl,o10,hW10.turn (by omega) (λb hb _=>hb.1),λ_=>⟨?_,λk hk=>aEY (hS k hk)⟩,λh=>by omega, ?_,x6z⟩
  .have a0:=azX (hcv 0 (by omega)) (hS 0 (by omega))
   have a1:=azX (hcv 1 (by omega)) (hS 1 (by omega))
   have a2:=azX (hcv 2 (by omega)) (hS 2 (by omega))
   rw[hdr]
   by_cases hlast:i+1=l.length
   .have hB0:=hE0 hlast
    have hd0:l.drop (i+1)=[]:=aMI (by omega)
    have hus:∀k,k<3->us k=[]:=λk hk=>by
     have:=(hS k hk).2
     rw[decide_eq_true hlast]at this
     exact this
    rw[hB0,hd0,hus 0 (by omega),hus 1 (by omega),hus 2 (by omega)]
    simp only[aL9,aMf]
    exact Enc.one a0 a1 a2
   .obtain ⟨hEn1,_⟩:=hEn (by omega)
    have hst:∀k,k<3->StB (t k).2 (st' k) (st k) (us k):=λk hk=>by
     have:=(hS k hk).2
     rw[decide_eq_false hlast]at this
     exact this
    cases hdd:l.drop (i+1)with
    |nil=>
     have:=congrArg List.length hdd
     rw[aLP]at this
     simp at this;omega
    |cons p' r'=>
     rw[hdd]at hEn1
     have:=Enc.cons hEn1 (hst 1 (by omega)) (hst 2 (by omega)) (hst 0 (by omega)) a0 a1 a2
     simp only[aLJ]at this⊢
     exact this
  .simp only[aLs];omega
theorem aER{t:Nat->TT}{st:Nat->Nat}{X T:List Bool}{l:List Sq}(hE:Enc (t 0).2 (t 1).2 (t 2).2 l (st 0) (st 1) (st 2) X)(hst:∀k,k<3->st k<2^(t k).1)(hT:T.take (aqX t st X).length=aqX t st X):runT t T l.length ((aqX t st X).length:Nat)=(l,0):=by
 unfold aqX at hT⊢
 obtain⟨a1,a2,a3⟩:=acF (B:=[]) hT rfl (hst 0 (by omega))
 obtain⟨b1,b2,b3⟩:=acF (B:=[]) a3 rfl (hst 1 (by omega))
 obtain⟨c1,c2,c3⟩:=acF (B:=[]) b3 rfl (hst 2 (by omega))
 have:=aDU hE c3
 unfold runT
 rw[a1,a2,b1,b2,c1,c2]
 exact this
theorem aBu{t:Nat->TT}{st:Nat->Nat}{X:List Bool}{l:List Sq}{bytes:List UInt8}(hE:Enc (t 0).2 (t 1).2 (t 2).2 l (st 0) (st 1) (st 2) X)(hst:∀k,k<3->st k<2^(t k).1)(hh:Rj (aqX t st X++[true]) bytes):aDy t l.length bytes= .ok (l,t):=by
 obtain⟨h1,h2⟩:=atL hh
 have h3:=aER hE hst h2
 unfold aDy
 rw[h1]
 simp only
 rw[h3]
 rfl
def TB(m:Nat->Nat):Nat:=m 0*64+m 1*16+m 2*4
theorem apX{m:Nat->Nat}(hm:∀k,k<3->m k<=3){k:Nat}(hk:k<3):mk2 (TB m) k=m k:=by
 have h0:=hm 0 (by omega);have h1:=hm 1 (by omega);have h2:=hm 2 (by omega)
 unfold mk2 TB
 rcases(show k=0∨k=1∨k=2 by omega)with rfl|rfl|rfl
 .show (m 0*64+m 1*16+m 2*4)/64%4=m 0;omega
 .show (m 0*64+m 1*16+m 2*4)/16%4=m 1;omega
 .show (m 0*64+m 1*16+m 2*4)/4%4=m 2;omega
theorem aCN{m:Nat->Nat}{c:Nat->List Int}{t:Nat->TT}{bs:Nat->List UInt8}(h:∀k:Nat,k<3->WT (k:Int) (c k) (m k:Nat) (t k).1 (t k).2 (bs k))(o:Nat->TT)(s:List UInt8):
 aCM (TB m) o 3 o (bs 0++(bs 1++(bs 2++s)))= .ok (upT (upT (upT o 0 (t 0)) 1 (t 1)) 2 (t 2),s):=by
 have hm:∀k,k<3->m k<=3:=λk hk=>by have:=(h k hk).mode2;omega
 have e0:=apX hm (k:=0) (by omega)
 have e1:=apX hm (k:=1) (by omega)
 have e2:=apX hm (k:=2) (by omega)
 have r0:=(h 0 (by omega)).read (o 0) (bs 1++(bs 2++s))
 have r1:=(h 1 (by omega)).read (o 1) (bs 2++s)
 have r2:=(h 2 (by omega)).read (o 2) s
 rw[aCM]
 simp only[show 2-2=0 from rfl,e0]
 rw[r0]
 simp only[aNB]
 rw[aCM]
 simp only[show 2-1=1 from rfl,e1]
 rw[r1]
 simp only[aNB]
 rw[aCM]
 simp only[show 2-0=2 from rfl,e2]
 rw[r2]
 simp only[aNB]
 rfl
def aCz(n:Nat)(m:Nat->Nat)(bs:Nat->List UInt8)(s:List UInt8):List UInt8:=afO n++(UInt8.ofNat (TB m)::(bs 0++(bs 1++(bs 2++s))))
theorem aEU{l:List Sq}{m:Nat->Nat}{c:Nat->List Int}{t:Nat->TT}{bs:Nat->List UInt8}{st:Nat->Nat}{X:List Bool}{s:List UInt8}(h0:0<l.length)(hl:l.length<=98047)(h:∀k:Nat,k<3->WT (k:Int) (c k) (m k:Nat) (t k).1 (t k).2 (bs k))
 (hE:Enc (t 0).2 (t 1).2 (t 2).2 l (st 0) (st 1) (st 2) X) (hst:∀k,k<3->st k<(t k).2.length) (hh:Rj (aqX t st X++[true]) s) (o:Nat->TT):
 ∃t',aEL (aCz l.length m bs s) o= .ok (l,t')/\∀k,k<3->t' k=t k:=by
 have hg:∀k,k<3->X0 k (t k):=λk hk=>acZ hk (h k hk)
 have hst':∀k,k<3->st k<2^(t k).1:=λk hk=>by rw[<-(hg k hk).len];exact hst k hk
 have hm:∀k,k<3->m k<=2:=λk hk=>by have:=(h k hk).mode2;omega
 have m0:=hm 0 (by omega);have m1:=hm 1 (by omega);have m2:=hm 2 (by omega)
 have hmod:TB m<256:=by unfold TB;omega
 refine⟨upT (upT (upT o 0 (t 0)) 1 (t 1)) 2 (t 2), ?_,λk hk=> ?_⟩
 .unfold aEL aCz
  rw[aCa hl]
  simp only
  rw[if_neg (by omega)]
  unfold aHy
  simp only
  rw[PW hmod,if_neg (by unfold TB;omega),aCN h]
  simp only
  have e0:upT (upT (upT o 0 (t 0)) 1 (t 1)) 2 (t 2) 0=t 0:=rfl
  have e1:upT (upT (upT o 0 (t 0)) 1 (t 1)) 2 (t 2) 1=t 1:=rfl
  have e2:upT (upT (upT o 0 (t 0)) 1 (t 1)) 2 (t 2) 2=t 2:=rfl
  refine aBu (st:=st) (X:=X) (by rw[e0,e1,e2];exact hE) (λk hk=> ?_) (by unfold aqX at hh⊢;rw[e0,e1,e2];exact hh)
  rcases(show k=0∨k=1∨k=2 by omega)with rfl|rfl|rfl
  .rw [e0];exact hst' 0 hk
  .rw [e1];exact hst' 1 hk
  .rw [e2];exact hst' 2 hk
 .rcases (show k=0∨k=1∨k=2 by omega)with rfl|rfl|rfl<;>rfl
def aCj(m:Nat->Nat)(k:Nat):Nat:=if k=0 then 0 else if k=1 then m 0*64 else if k=2 then m 0*64+m 1*16 else m 0*64+m 1*16+m 2*4
theorem aCk{m:Nat->Nat}{k x:Nat}(hk:k<3)(hm:∀i,i<k->m i<=2)(hx:x<=2):aCj m k|||(x*2^(6-2*k))=aCj (upS m k x) (k+1)/\aCj m k<256:=by
 have h1:∀x,x<3->0|||(x*64)=x*64:=by decide
 have h2:∀a,a<3->∀x,x<3->(a*64)|||(x*16)=a*64+x*16:=by decide
 have h3:∀a,a<3->∀b,b<3->∀x,x<3->(a*64+b*16)|||(x*4)=a*64+b*16+x*4:=by decide
 rcases(show k=0∨k=1∨k=2 by omega)with rfl|rfl|rfl
 .exact ⟨h1 x (by omega),by unfold aCj;simp⟩
 .have a:=hm 0 (by omega)
  exact⟨h2 (m 0) (by omega) x (by omega),by show m 0*64<256;omega⟩
 .have a:=hm 0 (by omega)
  have b:=hm 1 (by omega)
  exact⟨h3 (m 0) (by omega) (m 1) (by omega) x (by omega),by show m 0*64+m 1*16<256;omega⟩
def alB(bs:Nat->List UInt8)(k:Nat):List UInt8:=if k=0 then[]else if k=1 then bs 0 else if k=2 then bs 0++bs 1 else bs 0++bs 1++bs 2
def upB(bs:Nat->List UInt8)(k:Nat)(x:List UInt8):Nat->List UInt8:=λi=>if i=k then x else bs i
theorem aBA{bs:Nat->List UInt8}{k:Nat}(hk:k<3)(x:List UInt8):alB (upB bs k x) (k+1)=alB bs k++x:=by
 rcases(show k=0∨k=1∨k=2 by omega)with rfl|rfl|rfl<;>simp[alB,upB]
def TbE(w:aOm)(E:Nat->Prop)(o:Nat->TT)(a:Nat->Option Addr):Prop:=∀k,k<3->(o k=(0,[])/\a k=none)∨∃b,E b/\Tbl w 0 b (o k).1 (o k).2 (tvL (o k) (a k))
theorem TbE.tb {w:aOm}{E:Nat->Prop}{o:Nat->TT}{a:Nat->Option Addr}(h:TbE w E o a):Tb3 w o a:=λk hk=>by
 rcases h k hk with⟨h1,h2⟩|⟨b,_,h⟩
 .left;rw[h1,h2];exact⟨rfl,rfl⟩
 .exact .inr ⟨b,h⟩
theorem TbE.ext {w w':aOm}{E M:Nat->Prop}{o:Nat->TT}{a:Nat->Option Addr}(h:TbE w E o a)(x:aN w w' M)(hM:∀b,E b->¬M b):TbE w' E o a:=λk hk=>by
 rcases h k hk with h|⟨b,hb,h1,h2,h3⟩
 .exact .inl h
 .exact .inr ⟨b,hb,h1,h2,h3.ext x (hM b hb)⟩
theorem C3.extD {w w':aOm}{base:Nat}{L:Nat->List Nat}{v:Nat->aOn}{D:Nat->Nat->Prop}{M:Nat->Prop}(h:C3 w base L v D)(x:aN w w' M)(hM:∀k,k<3->∀b,D k b->¬M b):C3 w' base L v D:=
 ⟨λk hk=>(h.row k hk).ext x λb hb=>hM k hk b hb,λk hk b hb=>⟨(h.bd k hk b hb).1,by have:=(h.bd k hk b hb).2;have:=x.size;omega⟩,h.sep⟩
def iL(L:List Nat):List Int:=L.map λ(n:Nat)=>(n:Int)
theorem aFs{k1:K6}{RR:K1}{lv wv:aOn}{pe pt:Nat}{L:Nat->List Nat}{v:Nat->aOn}{D:Nat->Nat->Prop}{w:aOm}(hg:xZ w)(oE:aZ w pe (vL v))(hC:C3 w 0 L v D)(oT:aZ w pt (c6 (λ_=>(0,[])) (λ_=>none)))(hpe:pe≠pt)(hD:∀k,k<3->∀b,D k b->b≠pt)(x0:∀w',aN w w' (λy=>y=pt)->xZ w')
 (hL:∀k,k<3->L k≠[]/\(L k).length<=10000/\∀c∈L k,c<kA k)
 (hk:∀(w':aOm) (t:Nat->TT) (a:Nat->Option Addr) (m:Nat->Nat) (bs:Nat->List UInt8) (tv:aOn),(∀k:Nat,k<3->WT (k:Int) (iL (L k)) (m k:Nat) (t k).1 (t k).2 (bs k))->aZ w' pt (c6 t a)->Tb3 w' t a->Bs w' tv (bs 0++bs 1++bs 2)->AtI tv w.heap.size w'.heap.size->aN w w' (λy=>y=pt)->k1 lv wv (.pointer (some ⟨pe,0,none⟩)) (.pointer (some ⟨pt,0,none⟩)) (.int .i64 (TB m)) tv w'):
 kL k1 RR lv wv (.pointer (some ⟨pe,0,none⟩)) (.pointer (some ⟨pt,0,none⟩)) (.int .i64 0) (.slice none 0 0) (.int .i64 0) w:=by
 have hpt:=oT.lt
 unfold kL
 refine aX.rule (λn (x:aOn×aOn×aOn) w'=>∃(j:Nat) (t:Nat->TT) (a:Nat->Option Addr) (m:Nat->Nat) (bs:Nat->List UInt8) (tv:aOn) (E Dt:Nat->Prop),n=j/\j<=3/\x=(.int .i64 (aCj m (3-j):Nat),tv,.int .i64 (3-j:Nat))/\
  (∀k:Nat,k<3-j->WT (k:Int) (iL (L k)) (m k:Nat) (t k).1 (t k).2 (bs k))/\(∀k,k<3->¬k<3-j->t k=(0,[])/\a k=none)/\aZ w' pt (c6 t a)/\TbE w' E t a/\Ah w' Dt 1 tv (alB bs (3-j)).length ((alB bs (3-j)).map dR)/\(alB bs (3-j)).length<=1000*(3-j)/\
  (∀b,E b->w.heap.size<=b/\b<w'.heap.size)/\(∀b,Dt b->w.heap.size<=b/\b<w'.heap.size)/\(∀b,Dt b->¬E b)/\aN w w' (λy=>y=pt)) 3
  ⟨3,λ_=>(0,[]),λ_=>none,λ_=>0,λ_=>[],_,λ_=>False,λ_=>False,rfl,aLA _,rfl,λk h=>by omega,λ_ _ _=>⟨rfl,rfl⟩,oT,λ_ _=> .inl ⟨rfl,rfl⟩,⟨rfl,.inl ⟨rfl,rfl⟩⟩,aLA _,λ_ h=>h.elim,λ_ h=>h.elim,λ_ h=>h.elim,aN.refl _ _⟩ ?_
 rintro j x w1 ⟨n,t,a,m,bs,tv,E,Dt,rfl,hj,rfl,hW,hU,o1,hE,hos,hlen,hEb,hDb,hsep,x1⟩
 have z1:=x1.size
 unfold BN
 rcases j with _|j
 .have d1:decide (((3-0:Nat):Int)<3)=false:=rfl
  simp(disch:=omega)only[SV,d1]
  refine hk _ t a m bs tv (λk hk=>hW k hk) o1 hE.tb (acA hos) (λM hM=> ?_) x1
  rcases hos.2 with⟨rfl,_⟩|⟨b,c,rest,rfl,h2,h3,_⟩
  .exact λh=>h
  .exact At.at b 0 _ c M (hM b (hDb b h2).1 h3.lt)
 obtain⟨k,hkk⟩:∃k,k=2-j:=⟨_,rfl⟩
 have hk3:k<3:=by omega
 have ek:((3-(j+1):Nat):Int)=(k:Int):=by omega
 have ek2:3-(j+1)=k:=by omega
 have ek3:3-j=k+1:=by omega
 have d1:decide ((k:Int)<3)=true:=by simp;omega
 rw[ek]
 rw[ek2]at hW hU hos hlen⊢
 obtain⟨hL1,hL2,hL3⟩:=hL k hk3
 have oE1:=oE.ext x1 hpe
 have hC1:=hC.extD x1 (λk hk b hb=>hD k hk b hb)
 have cE:=oE1.cell (off:=k)
 rw[aBa _ hk3]at cE
 simp(disch:=omega)only[SV,d1,cE,aLx]
 have hsl:Sl w1 (v k) ((iL (L k)).map (Value.int .i64)):=by
  have:=acA (hC1.row k hk3)
  unfold iL
  rw[List.map_map]
  exact this
 refine(aFa (x0 w1 x1) hsl (by unfold iL;rw[aLv];omega)).mono ?_
 rintro r w2 ⟨hr,x2⟩
 rcases hr with⟨hno,_⟩|⟨_,mode,lg,T,bytes,tt,bv,rfl,hV,hob,hWr⟩
 .exfalso
  refine hno ⟨by omega,by unfold iL;intro h;exact hL1 (List.map_eq_nil_iff.1 h),λx hx=> ?_⟩
  unfold iL at hx
  obtain⟨c,hc,rfl⟩:=aL5.1 hx
  have:=hL3 c hc
  rw[aAS hk3]
  omega
 have h0:=hWr.mode0
 have h2:=hWr.mode2
 obtain⟨md,rfl⟩:∃md:Nat,mode=md:=⟨mode.toNat,by omega⟩
 have hbl:=hWr.blen
 obtain⟨ta,rfl⟩:=hV.form
 have z2:=x2.size
 have n0:((0:Int) !=0)=false:=rfl
 simp(disch:=omega)only[SV]
 refine pU λw3 o3 x3 s3=> ?_
 refine fX o3 rfl (by simp[one]) (by simp) λw4 o4 x4 s4=> ?_
 have o4:aZ w4 w2.heap.size [.int .i64 lg,.slice ta T.length T.length]:=o4
 have x24:aN w2 w4 bJ:=x3.new x4 (aLA _)
 have z4:=x24.size
 have x14:=x2.seq x24
 have l4:=vO (off:=0) o4 (by simp)
 simp only[aLE,aLC,aLK]at l4
 simp(disch:=omega)only[SV,n0,l4,aLx]
 refine fX (o1.ext x14 (λh=>h)) rfl (by simp[one]) (by simp[c6];omega) λw5 o5 x5 s5=> ?_
 have o5:aZ w5 pt (c6 (upT t k (lg,T)) (upA a k ta)):=by rw[<-aHU _ _ hk3];exact o5
 have e2:(2:Int)*(k:Int)=((2*k:Nat):Int):=by omega
 have e6:(6:Int)-((2*k:Nat):Int)=((6-2*k:Nat):Int):=by omega
 have hm2:∀i,i<k->m i<=2:=λi hi=>by have:=(hW i hi).mode2;omega
 obtain⟨hst,hp8⟩:=aCk (m:=m) hk3 hm2 (x:=md) (by omega)
 have hb64:IntKind.i64.bits=64:=rfl
 have hpw:(md:Int)*2^min (6-2*k) IntKind.i64.bits=((md*2^(6-2*k):Nat):Int):=by
  rw[hb64,aMk (by omega)];simp
 have hpl:2^(6-2*k)<=2^6:=aLG (by omega) (by omega)
 have hml:md*2^(6-2*k)<=2*2^6:=Nat.mul_le_mul (by omega) hpl
 have eor:=aGA (a:=aCj m k) (b:=md*2^(6-2*k)) (by omega) (by omega)
 rw[hst]at eor
 have ew:IntKind.i64.wrap ((md*2^(6-2*k):Nat):Int)=((md*2^(6-2*k):Nat):Int):=cX (by omega) (by omega)
 simp(disch:=omega)only[SV,e2,e6,hpw,ew,eor,aLx]
 have x15:aN w1 w5 (λy=>y=pt):=(x14.mono λ_ _ h=>h.elim).seq x5
 have z5:=x15.size
 have hDpt:∀b,Dt b->b≠pt:=λb hb=>by have:=(hDb b hb).1;omega
 have hos5:Ah w5 (λb=>Dt b∨w5.heap.size<=b) 1 tv (alB bs k).length ((alB bs k).map dR):=by
  have:=(hos.ext x15 (λb hb=>hDpt b hb))
  refine⟨this.1, ?_⟩
  rcases this.2 with h|⟨b,c,rest,e,hb,r⟩
  .exact .inl h
  .exact .inr ⟨b,c,rest,e,.inl hb,r⟩
 have hob5:=(hob.ext x24 (λ_ _ h=>h)).ext x5 (λb hb h=>by omega)
 refine qN (m:=bytes.length) (news:=bytes.map dR) (i:=Tryz.t5) Tryz.underlying22 Tryz.underlying22 Hq rfl rfl rfl hos5 hob5.cl (BF _) (λb hb=> .inr hb) (by omega) (by rw[show Tryz.t5.bytes=1 from rfl];omega) (by decide) λv6 w6 o6 x6=> ?_
 have z6:=x6.size
 have e1:(k:Int)+1=((3-j:Nat):Int):=by omega
 have hcs:=aBA (bs:=bs) hk3 bytes
 have hW6:Ah w6 (λb=>(Dt b∨w5.heap.size<=b)/\b<w6.heap.size) 1 v6 (alB (upB bs k bytes) (k+1)).length ((alB (upB bs k bytes) (k+1)).map dR):=by
  rw[hcs,aLs,aL2]
  refine⟨o6.1, ?_⟩
  rcases o6.2 with h|⟨b,c,rest,e,hb,ho,r⟩
  .exact .inl h
  .exact .inr ⟨b,c,rest,e,⟨hb,ho.lt⟩,ho,r⟩
 have hS6:∀b,(Dt b∨w5.heap.size<=b)->b<w5.heap.size->Dt b:=λb hb hl=>by
  rcases hb with h|h
  .exact h
  .omega
 simp(disch:=omega)only[SV,e1]
 refine⟨j,by omega,j,upT t k (lg,T),upA a k ta,upS m k md,upB bs k bytes,v6,λb=>E b∨(w1.heap.size<=b/\b<w2.heap.size),λb=>(Dt b∨w5.heap.size<=b)/\b<w6.heap.size,rfl,by omega,by rw[ek3],λi hi=> ?_,λi hi hni=> ?_, ?_, ?_,by rw[ek3];exact hW6, ?_, ?_, ?_, ?_, ?_⟩
 .rw [ek3]at hi
  unfold upT upS upB
  by_cases he:i=k
  .subst he;simp only[if_pos rfl];exact hWr
  .simp only[if_neg he];exact hW i (by omega)
 .rw [ek3]at hni
  unfold upT upA
  rw[if_neg (by omega),if_neg (by omega)]
  exact hU i hi (by omega)
 .refine o5.ext x6 λh=> ?_
  rcases h with h|h
  .exact hDpt pt h rfl
  .omega
 .intro i hi
  by_cases he:i=k
  .subst he
   rcases hV with⟨e,e'⟩|⟨b,hb1,hb2,hb3⟩
   .have:=hWr.has
    rw[aOc]at e
    obtain⟨c,hc⟩:=aNZ _ hL1
    obtain⟨x,hx,_⟩:=hWr.has (c:Int) (aL5.2 ⟨c,hc,rfl⟩)
    rw[e.2]at hx;cases hx
   .have hbl2:=hb3.lt
    have e1:upT t i (lg,T) i=(lg,T):=by unfold upT;rw[if_pos rfl]
    have e2:upA a i ta i=ta:=by unfold upA;rw[if_pos rfl]
    rw[e1,e2]
    refine .inr ⟨b,.inr ⟨hb2,hbl2⟩,hb1,aMQ _, ?_⟩
    refine((hb3.ext x24 (λh=>h)).ext x5 (by omega)).ext x6 λh=> ?_
    rcases h with h|h
    .have:=(hDb b h).2;omega
    .omega
  .have e1:upT t k (lg,T) i=t i:=by unfold upT;rw[if_neg he]
   have e2:upA a k ta i=a i:=by unfold upA;rw[if_neg he]
   rw[e1,e2]
   rcases hE i hi with h|⟨b,hb,h1,h2,h3⟩
   .exact .inl h
   .have hbE:=hEb b hb
    refine .inr ⟨b,.inl hb,h1,h2,(h3.ext x15 (by omega)).ext x6 λh=> ?_⟩
    rcases h with h|h
    .exact hsep b h hb
    .omega
 .rw [ek3,hcs,aLs];omega
 .intro b hb
  rcases hb with hb|hb
  .have:=hEb b hb;omega
  .omega
 .intro b hb
  rcases hb.1 with h|h
  .have:=(hDb b h).1;omega
  .omega
 .intro b hb hb2
  rcases hb.1 with h|h
  .rcases hb2 with h2|h2
   .exact hsep b h h2
   .have:=(hDb b h).2;omega
  .rcases hb2 with h2|h2
   .have:=hEb b h2;omega
   .omega
 .refine (x1.seq x15).trans x6 λb hb h=> ?_
  rcases h with h|h
  .have:=(hDb b h).1;omega
  .omega
def aDf(l:List Sq):Prop:=∀q∈l,∀k,k<3->∃c,xX k (kv q k) c
def aDn(w:aOm)(base:Nat)(l:List Sq)(r:aOn):Prop:=
 (¬aDf l/\r= .tuple #[.slice none 0 0,.int .i64 1])∨
 (aDf l/\∃(bv:aOn) (bytes:List UInt8),r= .tuple #[bv,.int .i64 0]/\pC w base 1 bv bytes.length (bytes.map dR)/\bytes.length<=500000/\0<bytes.length/\(l=[]->bytes=[0])/\
  ∀o,∃t',aEL bytes o= .ok (l,t')/\(l≠[]->∀k,k<3->(∀p∈l,∀q∈l,p=q)->(t' k).2.length=1))
theorem aKP{n:Nat}(h:n<65536):((n:Int).fdiv (2^min (8:Int).toNat IntKind.i64.bits))=((n/256:Nat):Int):=by
 have h8:min (8:Int).toNat IntKind.i64.bits=8:=rfl
 rw[h8,aMh _ (by decide)]
 rfl
theorem awU{x:Nat}(h:x<2^62):Cq .i64 (x:Int) 255=((x%256:Nat):Int):=by
 unfold Cq
 have e:IntKind.i64.bits=64:=rfl
 have h1:(BitVec.ofInt 64 (x:Int)&&&BitVec.ofInt 64 255).toNat=x%256:=by
  rw[BitVec.toNat_and,BitVec.ofInt_natCast,show(255:Int)=((255:Nat):Int)from rfl,BitVec.ofInt_natCast,BitVec.toNat_ofNat,BitVec.toNat_ofNat,aLV (by omega),aLV (by omega)]
  exact aNc x 8
 rw[e,h1]
 exact cX (by omega) (by omega)
theorem azN{lv:aOn}{l:List Sq}{w:aOm}(hg:xZ w)(h:Cl w 3 lv l.length (sqs l))(hu:∀q∈l,∀k,kv q k<4294967296)(hl:l.length<=10000):
 aK pg wW #[lv] w (λr w'=>aDn w' w.heap.size l r/\aN w w' bJ):=by
 refine T0 ?_
 obtain⟨RR,hRR⟩:∃RR:aOn->aOm->Prop,RR=λr w'=>aDn w' w.heap.size l r/\aN w w' bJ:=⟨_,rfl⟩
 rw[<-hRR]
 have hf:=h
 obtain⟨la,lc,rfl,_⟩:=hf
 unfold Q8 H2 H0
 refine(EL w).mono ?_
 rintro r w1 ⟨rfl,hz1,hw1,x1⟩
 obtain⟨p,hp⟩:∃p,p=w.heap.size:=⟨_,rfl⟩
 rw[<-hp]at hw1⊢
 have d1:decide (98047<(l.length:Int))=false:=by simp;omega
 by_cases h0:l.length=0
 .have n1:((l.length:Int)==0)=true:=by rw[h0]<;>rfl
  have hnil:=aMc.1 h0
  simp(disch:=omega)only[aA,nT,aF,tA,d1,mD,n1,fM,qX,gP,nZ,Cg,gN,A8,cX,bD,aR]
  refine iM (cells:= #[.int .u8 0]) (by decide) (by decide) (by kernel_rfl) λw2 o2 x2 s2=> ?_
  rw[hRR]
  refine⟨.inr ⟨?_,_,[0],rfl,⟨rfl,.inr ⟨_,1,[],rfl,by omega,o2,rfl,aLA _⟩⟩,by simp,by simp,λ_=>rfl,λo=>⟨o, ?_,λh=>absurd hnil h⟩⟩,x1.seq x2⟩
  .rw [hnil];intro q hq;cases hq
  .rw [hnil]<;>rfl
 have n1:((l.length:Int)==0)=false:=by simp;intro h;subst h;exact h0 rfl
 have hN:∀b,w1.heap.size<=b->p<b:=λb hb=>by omega
 have main:∀w2,Cw w2 p (λb=>p<b) (afO l.length)->aN w w2 bJ->uD RR (.slice la l.length lc) (.pointer (some ⟨p,0,none⟩)) w2:=by
  intro w2 hw2 x02
  have z02:=x02.size
  have hg2:=hg.ext x02
  have h2:=aoL h x02 (aU _) (by omega)
  have hw2':=hw2.turn (T:=λb=>p<b/\b<w2.heap.size) (λb hb hs=>⟨hb,hs⟩) (by omega)
  unfold uD Kk
  refine(aFY hg2 h2 hu (by omega)).mono ?_
  rintro r w3 ⟨hr,x3⟩
  have x03:=x02.seq x3
  rcases hr with⟨v,D,L,rfl,hC,hK⟩|⟨⟨q,hq,k,hk,hno⟩,y0,y1,y2,rfl⟩
  rotate_left
  .have n2:((1:Int) !=0)=true:=rfl
   simp(disch:=omega)only[aA,x20,x21,aF,Dr]
   refine FV λw4 o4 x4 s4=> ?_
   refine Kw o4 rfl (by simp[one]) (by simp) λw5 o5 x5 s5=> ?_
   simp(disch:=omega)only[n2,bD]
   rw[hRR]
   refine⟨.inl ⟨λhc=> ?_,rfl⟩,(x03.seq x4).new x5 (by have:=x03.size;omega)⟩
   obtain⟨c,hc⟩:=hc q hq k hk
   exact hno c hc
  have n2:((0:Int) !=0)=false:=rfl
  have z3:=x3.size
  have hones:=hC.ones
  simp(disch:=omega)only[aA,x20,x21,aF,Dr]
  refine FV λw4 o4 x4 s4=> ?_
  refine Kw o4 rfl (by simpa[vL]using hones) (by simp[vL]) λw5 o5 x5 s5=> ?_
  have o5:aZ w5 w3.heap.size (vL v):=by simpa[vL,aT]using o5
  simp(disch:=omega)only[n2,aR]
  refine UR λw6 o6 x6 s6=> ?_
  have o6:aZ w6 w5.heap.size (c6 (λ_=>(0,[])) (λ_=>none)):=o6
  obtain⟨pe,hpe⟩:∃pe,pe=w3.heap.size:=⟨_,rfl⟩
  obtain⟨pt,hpt⟩:∃pt,pt=w5.heap.size:=⟨_,rfl⟩
  rw[<-hpe]at o5⊢
  rw[<-hpt]at o6⊢
  have x36:aN w3 w6 bJ:=(x4.new x5 (aLA _)).seq x6
  have x26:=x3.seq x36
  have x06:=x02.seq x26
  have hC6:=(hC.ext x36 (λ_ _ _ h=>h)).lower (aMQ _)
  have hDl:∀k,k<3->∀b,D k b->b<w3.heap.size:=λk hk b hb=>(hC.bd k hk b hb).2
  unfold BP BO Kj kL
  have hcoded:aDf l:=λq hq k hk=>by
   obtain⟨i,hi,rfl⟩:=aLY hq
   have hlt:i<(L k).length:=by rw[(hK k hk).1];exact hi
   exact⟨_,(hK k hk).2 i _ _ (aLt hi) (aLt hlt)⟩
  have hLp:∀k,k<3->L k≠[]/\(L k).length<=10000/\∀c∈L k,c<kA k:=λk hk=>by
   refine⟨λh=> ?_,by rw[(hK k hk).1];exact hl,λc hc=> ?_⟩
   .have:=(hK k hk).1
    rw[h]at this
    simp at this;omega
   .obtain ⟨i,hi,rfl⟩:=aLY hc
    have hlt:i<l.length:=by rw[<-(hK k hk).1];exact hi
    exact((hK k hk).2 i _ _ (aLt hlt) (aLt hi)).1
  have o56:aZ w6 pe (vL v):=o5.ext x6 (λh=>h)
  refine aFs (hg.ext x06) o56 hC6 o6 (by omega) (λk hk b hb=>by have:=hDl k hk b hb;omega) (λw' x=>hg.ext (x06.trans x λb hb h=>by omega)) hLp λw7 t a m bs tv hWr o7 hT7 hb7 hat7 x7=> ?_
  have z6:=x36.size
  have x27:aN w2 w7 bJ:=x26.trans x7 λb hb h=>by omega
  have x07:=x02.seq x27
  have o57:=o56.ext x7 (by omega)
  have hC7:=hC6.extD x7 (λk hk b hb=>by have:=hDl k hk b hb;omega)
  obtain⟨y0,y1,y2,f0,f1,f2⟩:=hC.form
  have l5:=JQ (off:=0) o57 (by simp[vL])
  simp only[vL,aLE,aLC,aLK]at l5
  have l7:=Tn (off:=0) o7 (by simp[c6])
  simp only[c6,aLE,aLC,aLK]at l7
  unfold BM
  simp(disch:=omega)only[aA,l5,qX,aF,l7]
  refine(aE2 (hg.ext x07) (aoL h x07 (aU _) (by omega)) (by omega) hl hC7 hK hT7 (λk hk=>⟨acZ hk (hWr k hk),aAg (hWr k hk),λc hc=>(hWr k hk).has (c:Int) (aL5.2 ⟨c,hc,rfl⟩)⟩)).mono ?_
  rintro r w8 ⟨⟨bv,s,X,st,rfl,hb8,hat8,hh,hEn,hst,hX⟩,x8⟩
  have x28:=x27.seq x8
  have hm2:∀k,k<3->m k<=2:=λk hk=>by have:=(hWr k hk).mode2;omega
  have m0:=hm2 0 (by omega);have m1:=hm2 1 (by omega);have m2:=hm2 2 (by omega)
  have hmod:TB m<256:=by unfold TB;omega
  have ew:IntKind.u64.wrap ((TB m:Nat):Int)=((TB m:Nat):Int):=gP (by omega) (by omega)
  have b0:=(hWr 0 (by omega)).blen
  have b1:=(hWr 1 (by omega)).blen
  have b2:=(hWr 2 (by omega)).blen
  have hnw:(afO l.length).length<=3:=by unfold afO;split<;>(try split)<;>simp[dM]
  have z7:=x7.size
  have z8:=x8.size
  have hlg:∀k,k<3->(t k).1<=9:=λk hk=>(acZ hk (hWr k hk)).lg
  have hsl:s.length<=300000:=by
   have h1:=hh.len
   have g0:=hlg 0 (by omega);have g1:=hlg 1 (by omega);have g2:=hlg 2 (by omega)
   rw[h1]
   unfold aqX
   simp only[aLs,bM,aMg]
   omega
  have hw8:=hw2'.ext x28 (λh=>h) (λ_ _ h=>h)
  have hw8':=hw8.turn (T:=λb=>(p<b/\b<w2.heap.size)∨w8.heap.size<=b) (λb hb _=> .inl hb) (by omega)
  simp(disch:=omega)only[x20,x21,ew,aF,Dr,n2,aR]
  refine(lB (x:=TB m) (n:=1) hw8' (λb hb=> .inr hb) (by omega) (by omega) (by omega)).mono ?_
  rintro r w9 ⟨rfl,hw9,x9⟩
  have hb79:Bs w9 tv (bs 0++bs 1++bs 2):=(hb7.ext x8 (aU _)).ext x9 (hat7 _ λb h1 h2 h=>by omega)
  have hb89:Bs w9 bv s:=hb8.ext x9 (hat8 _ λb h1 h2 h=>by omega)
  have hw9':=hw9.turn (T:=λb=>((p<b/\b<w2.heap.size)∨w8.heap.size<=b)) (λb hb _=>hb) (by omega)
  have z9:=x9.size
  refine(Px hw9' (λb hb=> .inr (by omega)) hb79 (by simp only[aLs,bS];omega)).mono ?_
  rintro r w10 ⟨rfl,hw10,x10⟩
  have hb810:Bs w10 bv s:=hb89.ext x10 (hat8 _ λb h1 h2 h=>by omega)
  have z10:=x10.size
  refine(Px hw10 (λb hb=> .inr (by omega)) hb810 (by simp only[aLs,bS];omega)).mono ?_
  rintro r w11 ⟨rfl,hw11,x11⟩
  have z11:=x11.size
  refine(NA hw11 (by simp only[aLs,bS];omega)).mono ?_
  rintro r w12 ⟨ho,x12⟩
  have hput:dM (TB m) 1=[UInt8.ofNat (TB m)]:=by
   show[UInt8.ofNat (TB m%256)]=_
   rw[aLV hmod]
  have hbytes:afO l.length++dM (TB m) 1++(bs 0++bs 1++bs 2)++s=aCz l.length m bs s:=by
   unfold aCz
   rw[hput]
   simp only[aLJ,aMo,aL9]
  rw[hbytes]at ho
  have hsec:(aCz l.length m bs s).length=(afO l.length).length+(1+((bs 0).length+((bs 1).length+((bs 2).length+s.length)))):=by
   unfold aCz
   simp only[aLs,aLS];omega
  rw[hRR]
  refine⟨.inr ⟨hcoded,r,_,rfl,ho.lower (by omega),by omega,by omega,λhn=>absurd (by rw[hn]<;>rfl) h0,λo=> ?_⟩, ?_⟩
  .obtain ⟨t',ht,htt⟩:=aEU (by omega) (by omega) hWr hEn hst hh o
   refine⟨t',ht,λ_ k hk hall=> ?_⟩
   rw[htt k hk]
   refine((hWr k hk).one λx hx y hy=> ?_).2
   unfold iL at hx hy
   obtain⟨c,hc,rfl⟩:=aL5.1 hx
   obtain⟨d,hd,rfl⟩:=aL5.1 hy
   obtain⟨i,hi,rfl⟩:=aLY hc
   obtain⟨j,hj,rfl⟩:=aLY hd
   have hil:i<l.length:=by rw[<-(hK k hk).1];exact hi
   have hjl:j<l.length:=by rw[<-(hK k hk).1];exact hj
   have q1:=(hK k hk).2 i _ _ (aLt hil) (aLt hi)
   have q2:=(hK k hk).2 j _ _ (aLt hjl) (aLt hj)
   rw[hall _ (aLT hil) _ (aLT hjl)]at q1
   rw[q1.one hk q2]
  .have x211:aN w w11 bJ:=by
    refine aN.trans (x02.seq x28) (((x9.mono λ_ _ h=>h).seq x10).seq x11:aN w8 w11 (λy=>y=p∨((p<y/\y<w2.heap.size)∨w8.heap.size<=y))) λb hb h=> ?_
    omega
   exact x211.seq x12
 by_cases h128:l.length<128
 .have d2:decide ((l.length:Int)<128)=true:=by simp;omega
  have ew:IntKind.u64.wrap (l.length:Int)=(l.length:Int):=gP (by omega) (by omega)
  simp(disch:=omega)only[aA,nT,aF,tA,d1,mD,n1,fM,d2,qX,ew,nZ,Cg,gN,A8,cX,bD,aR]
  refine(lB (x:=l.length) (n:=1) hw1 hN (by omega) (by omega) (by simp)).mono ?_
  rintro r w2 ⟨rfl,hw2,x2⟩
  refine main w2 ?_ (x1.trans x2 λb hb h=>by omega)
  have e:[]++dM l.length 1=afO l.length:=by
   unfold afO
   rw[if_pos h128]
   show[UInt8.ofNat (l.length%256)]=_
   rw[aLV (by omega)]
  rw[e]at hw2
  exact hw2
 .have d2:decide ((l.length:Int)<128)=false:=by simp;omega
  have d3:decide ((l.length:Int)<32512)=true:=by simp;omega
  have e1:=aKP (n:=l.length) (by omega)
  have e2:((l.length/256:Nat):Int)+128=((l.length/256+128:Nat):Int):=by omega
  have ew:IntKind.u64.wrap ((l.length/256+128:Nat):Int)=((l.length/256+128:Nat):Int):=gP (by omega) (by omega)
  have e3:=awU (x:=l.length) (by omega)
  have ew3:IntKind.u64.wrap ((l.length%256:Nat):Int)=((l.length%256:Nat):Int):=gP (by omega) (by omega)
  have ew1:IntKind.i64.wrap ((l.length/256+128:Nat):Int)=((l.length/256+128:Nat):Int):=cX (by omega) (by omega)
  simp(disch:=omega)only[aA,nT,aF,tA,d1,mD,n1,fM,d2,qX,gP,d3,nZ,e1,Cg,gN,e2,ew1,ew,A8,cX,bD,aR]
  refine(lB (x:=l.length/256+128) (n:=1) hw1 hN (by omega) (by omega) (by simp)).mono ?_
  rintro r w2 ⟨rfl,hw2,x2⟩
  simp(disch:=omega)only[e3]
  have z2:=x2.size
  refine(lB (x:=l.length%256) (n:=1) hw2 (λb hb=>by omega) (by omega) (by omega) (by simp[dM])).mono ?_
  rintro r w3 ⟨rfl,hw3,x3⟩
  refine main w3 ?_ ((x1.trans x2 λb hb h=>by omega).trans x3 λb hb h=>by omega)
  have e:[]++dM (l.length/256+128) 1++dM (l.length%256) 1=afO l.length:=by
   unfold afO
   rw[if_neg h128,if_pos (by omega)]
   show[UInt8.ofNat ((l.length/256+128)%256)]++[UInt8.ofNat (l.length%256%256)]=_
   rw[aLV (show l.length/256+128<256 by omega),aLV (show l.length%256<256 by omega)]
   rfl
  rw[e]at hw3
  exact hw3
abbrev toQ(s:Nat×Nat×Nat):Go.Pu.Sq:=⟨s.1,s.2.1,s.2.2⟩
theorem atC:∀L:List (Nat×Nat×Nat),flat L=sqs (L.map toQ)
 |[]=>rfl
 |s::r=>by
  show _::_::_::flat r=sqc (toQ s)++sqs (r.map toQ)
  rw[atC r]
  rfl
theorem aAI:∀(L:List (Nat×Nat×Nat)) (i:Nat) (s:Nat×Nat×Nat) (rest:List aOn),L[i]?=some s->((flat L++rest).drop (i*3)).take 3=[.int .u32 (s.1:Nat),.int .u32 (s.2.1:Nat),.int .u32 (s.2.2:Nat)]
 |x::r,0,s,rest,h=>by
  have:x=s:=by simpa using h
  subst this
  rfl
 |x::r,i+1,s,rest,h=>by
  rw[show(i+1)*3=i*3+1+1+1 from by omega]
  simp only[flat,aMo,aNE]
  exact aAI r i s rest (by simpa using h)
theorem atB:∀(L:List (Nat×Nat×Nat)) (i:Nat) (s:Nat×Nat×Nat) (rest:List aOn) (o:Nat),L[i]?=some s->(flat L++rest).set (i*3+2) (.int .u32 (o:Nat))=flat (L.set i (s.1,s.2.1,o))++rest
 |x::r,0,s,rest,o,h=>by
  have:x=s:=by simpa using h
  subst this
  rfl
 |x::r,i+1,s,rest,o,h=>by
  rw[show(i+1)*3+2=i*3+2+1+1+1 from by omega]
  simp only[flat,aMo,aLB]
  rw[atB r i s rest o (by simpa using h)]
abbrev Tok(s:Nat×Nat×Nat):Prop:=s.1<4294967296/\s.2.1<4294967296/\s.2.2<4294967296
theorem auV{B:List UInt8}{to:Nat}(hto:to<=1000000):∀{L:List (Nat×Nat×Nat)} {a b:Nat},plan B to a L b->∀s∈L,Tok s
 |[],a,b,h,s,hs=>by cases hs
 |x::r,a,b,h,s,hs=>by
  have h1:=h.1
  unfold ajY at h1
  rcases aMd.1 hs with rfl|h2
  .refine ⟨?_, ?_, ?_⟩<;>omega
  .exact auV hto h.2 s h2
structure PkS(w0:aOm)(p q b B0:Nat)(l:List UInt8)(rest:List aOn)(L:List (Nat×Nat×Nat))(bt i at':Nat)(plv:aOn)(W:aOm):Prop where
 o:∃L':List (Nat×Nat×Nat),(L=[]∨aZ W b (flat L'++rest))/\L'.length=L.length/\L'.drop i=L.drop i/\(∀s∈L',Tok s)
 p:∃x y z:Nat,aZ W p (vF x y z)
 q:aZ W q (vF 0 0 0)
 pl:∃m:List UInt8,pC W B0 1 plv m.length (m.map dR)/\m.length<=at'
 plan:plan l l.length at' (L.drop i) bt
 le:at'<=l.length
 x:aN w0 W bJ
theorem aEE{X:aOn×aOn×aOn->aOm->Prop}{k0:K7}{w0 W:aOm}{p q b B0:Nat}{l:List UInt8}{rest:List aOn}{L:List (Nat×Nat×Nat)}{bt i at':Nat}{plv:aOn}{va fa:Option Addr}{vc fc:Nat}
 (h:PkS w0 p q b B0 l rest L bt i at' plv W) (hv:Bs w0 (.slice va l.length vc) l) (hl:l.length<=30000) (hLl:L.length<=100000) (hi:i<L.length) (hf:fa=some ⟨b,0,none⟩)
 (h0:w0.heap.size<=p/\w0.heap.size<=q/\w0.heap.size<=b/\w0.heap.size<=B0) (hp:p<B0/\q<B0/\b<B0/\p≠q/\p≠b/\q≠b) (hB:B0<=W.heap.size)
 (hX:∀at2 plv2 W2,PkS w0 p q b B0 l rest L bt (i+1) at2 plv2 W2->W.heap.size<=W2.heap.size->X (plv2,.int .i64 (at2:Nat),.int .i64 ((i+1:Nat):Int)) W2):
 sQ (λ_ _ _ _ _ plain at0 _ _ t w=>X (plain,at0,t) w) k0 (.slice va l.length vc) (.int .i64 (l.length:Nat)) (.pointer (some ⟨p,0,none⟩)) (.pointer (some ⟨q,0,none⟩)) (.slice fa L.length fc) plv (.int .i64 (at':Nat)) (.slice fa L.length fc) (.int .i64 (L.length:Nat)) (.int .i64 (i:Nat)) W:=by
 subst hf
 obtain⟨⟨L',hL',hlen,hdr,htok⟩,⟨x,y,z,oP⟩,oQ,⟨m,hm,hml⟩,hpl,hle,xW⟩:=h
 have hne:L≠[]:=λe=>by rw[e]at hi;cases hi
 have oB:aZ W b (flat L'++rest):=hL'.resolve_left hne
 obtain⟨s,hs⟩:∃s,L'[i]?=some s:=⟨_,aLt (by omega)⟩
 have hsm:s∈L':=aMm hs
 obtain⟨ht1,ht2,ht3⟩:=htok s hsm
 have hLs:L.drop i=s::L.drop (i+1):=by
  have e:L[i]?=some s:=by
   have:=congrArg (λl=>l[0]?) hdr
   simpa[aMA,hs]using this.symm
  obtain⟨h1,h2⟩:=aNa.1 e
  rw[aL8 h1,h2]
 rw[hLs]at hpl
 obtain⟨hst,hpl2⟩:=hpl
 have hst':=hst
 unfold ajY at hst'
 obtain⟨g1,-,-,-,-,-⟩:=hst'
 have zW:=xW.size
 unfold sQ
 have d1:decide (((i:Nat):Int)<((L.length:Nat):Int))=true:=decide_eq_true (by omega)
 have lS:(aH 84 (.pointer (some ⟨b,i*3,none⟩))).run pg W= .ok (.value (A9 s.1 s.2.1 s.2.2)) W:=by
  have:=EW (off:=i*3) oB (by rw[aLs,LC];omega)
  rw[aAI L' i s rest hs]at this
  exact this
 simp(disch:=omega)only[SV,d1,lS]
 refine G9 λw1 o1 x1 s1=> ?_
 obtain⟨v,hvv⟩:∃v,v=W.heap.size:=⟨_,rfl⟩
 rw[<-hvv]at o1⊢
 refine Fo o1 rfl (by simp[one]) (by simp) λw2 o2 x2 s2=> ?_
 have o2:aZ w2 v (vF s.1 s.2.1 s.2.2):=o2
 have xW2:aN W w2 bJ:=x1.trans x2 λy hy h=>by omega
 have c0:=o2.cell (off:=0)
 have c1:=o2.cell (off:=1)
 have c2:=o2.cell (off:=2)
 simp only[aLu,aLw]at c0 c1 c2
 have e1:((at':Nat):Int)+((s.1:Nat):Int)=((at'+s.1:Nat):Int):=by omega
 have e2:((s.1:Nat):Int)+((s.2.1:Nat):Int)=((s.1+s.2.1:Nat):Int):=by omega
 have e3:((at':Nat):Int)+((s.1+s.2.1:Nat):Int)=((at'+(s.1+s.2.1):Nat):Int):=by omega
 have e4:((i:Nat):Int)+1=((i+1:Nat):Int):=by omega
 have hv2:Bs w2 (.slice va l.length vc) l:=(hv.ext xW (aU _)).ext xW2 (aU _)
 have hvc:l.length<=vc:=by
  obtain⟨a',c',he,hc'⟩:=hv.len
  simp only[Value.slice.injEq]at he
  rw[aLv]at hc'
  omega
 simp(disch:=omega)only[SV,c0,e1]
 have hmid:Bs w2 (.slice (cW va vc at' 1) (at'+s.1-at') (vc-at')) ((l.drop at').take (at'+s.1-at')):=by
  have:=Sl.mid hv2 (i:=at') (j:=at'+s.1) (by omega) (by omega)
  rw[<-aNx,<-aNg]at this
  exact this
 have hmidl:((l.drop at').take (at'+s.1-at')).length=s.1:=by rw[aLD,aLP];omega
 have hm2:=(hm.ne (p:=v) (by omega)).ext xW2 (λ_ _ h=>h)
 refine apB hm2 hmid (λy hy=>⟨by omega,by have:=o2.lt;omega⟩) (by omega) λplv3 w3 o3 x3=> ?_
 have zz2:=xW2.size
 have zz3:=x3.size
 have o23:=o2.ext x3 (λh=>h.2 rfl)
 have c03:=o23.cell (off:=0)
 have c13:=o23.cell (off:=1)
 have c23:=o23.cell (off:=2)
 simp only[aLu,aLw]at c03 c13 c23
 have lR:(aH 45 (.pointer (some ⟨p,0,none⟩))).run pg w3= .ok (.value (A9 x y z)) w3:=dJ (off:=0) ((oP.ext xW2 (λh=>h)).ext x3 (λh=>by omega)) (by simp)
 simp(disch:=omega)only[SV,c03,c13,c23,e2,e3,lR]
 refine aIO.mono ?_
 rintro r w4 ⟨⟨o,x',y',z',rfl,ho⟩,x4⟩
 have x34:aN w2 w4 (λy=>B0<=y/\y≠v):=x3.seq (x4.mono λ_ _ h=>h.elim)
 have oB4:aZ w4 b (flat L'++rest):=(oB.ext xW2 (λh=>h)).ext x34 (λh=>by omega)
 have oP4:=(oP.ext xW2 (λh=>h)).ext x34 (λh=>by omega)
 have oQ4:=(oQ.ext xW2 (λh=>h)).ext x34 (λh=>by omega)
 simp(disch:=omega)only[SV]
 refine Fm oB4 rfl (by rw[aLs,LC];omega) λw5 o5 x5 s5=> ?_
 rw[atB L' i s rest o hs]at o5
 refine cB (oP4.ext x5 hp.2.2.2.2.1) rfl (by simp[one]) (by simp) λw6 o6 x6 s6=> ?_
 have o6:aZ w6 p (vF x' y' z'):=o6
 simp(disch:=omega)only[SV,e4]
 refine hX (at'+(s.1+s.2.1)) plv3 w6 ⟨⟨L'.set i (s.1,s.2.1,o),.inr (o5.ext x6 (Ne.symm hp.2.2.2.2.1)),by rw[aM1];exact hlen, ?_, ?_⟩,⟨x',y',z',o6⟩,(oQ4.ext x5 hp.2.2.2.2.2).ext x6 (Ne.symm hp.2.2.2.1),⟨_,((o3.osl.ext x4 (λ_ _ h=>h)).ext x5 (λy hy h=>by omega)).ext x6 (λy hy h=>by omega), ?_⟩, ?_,by omega, ?_⟩ ?_
 .rw [List.drop_set_of_lt (by omega)]
  have:=congrArg (List.drop 1) hdr
  rwa [aMK,aMK]at this
 .intro t ht
  rcases List.mem_or_eq_of_mem_set ht with h|h
  .exact htok t h
  .subst h;exact⟨ht1,ht2,ho⟩
 .rw [aLs,hmidl];omega
 .rw [<-aMM];exact hpl2
 .exact (((xW.seq xW2).trans x34 λy hy h=>by omega).trans x5 λy hy h=>by omega).trans x6 λy hy h=>by omega
 .have:=x4.size
  omega
theorem aGF{RR:aOn->aOm->Prop}{w W:aOm}{p q bb B0 at' fc vc bg:Nat}{va fa:Option Addr}{l:List UInt8}{rest:List aOn}{L:List (Nat×Nat×Nat)}{plv:aOn}(hRR:RR=λr w'=>PkO w' w.heap.size r/\aN w w' bJ)(hg:xZ w)(hv:Bs w (.slice va l.length vc) l)(hvc:l.length<=vc)(hl:l.length<=30000)(hLl:L.length<=10000)
 (hS:PkS w p q bb B0 l rest L bg L.length at' plv W) (hfb:L=[]∨(fa=some ⟨bb,0,none⟩/\bb<B0)) (h0:w.heap.size<=p/\w.heap.size<=q/\w.heap.size<=B0) (hp:p<B0/\q<B0) (hB:B0<=W.heap.size):
 zM RR (.slice va l.length vc) (.int .i64 (l.length:Nat)) (.pointer (some ⟨p,0,none⟩)) (.pointer (some ⟨q,0,none⟩)) (.slice fa L.length fc) plv (.int .i64 (at':Nat)) W:=by
 have n0:((0:Int) !=0)=false:=rfl
 have n1:((1:Int) !=0)=true:=rfl
 obtain⟨⟨L',hL',hlen,-,htok⟩,⟨x,y,z,oP⟩,oQ,⟨m,hm,hml⟩,-,hle,xW⟩:=hS
 unfold zM
 have hvW:Bs W (.slice va l.length vc) l:=hv.ext xW (aU _)
 simp(disch:=omega)only[SV]
 have hmid:Bs W (.slice (cW va vc at' 1) (l.length-at') (vc-at')) ((l.drop at').take (l.length-at')):=by
  have:=Sl.mid hvW (i:=at') (j:=l.length) (by omega) (by omega)
  rw[<-aNx,<-aNg]at this
  exact this
 have hmidl:((l.drop at').take (l.length-at')).length=l.length-at':=by rw[aLD,aLP];omega
 have hm2:Ah W (λy=>B0<=y/\y≠W.heap.size) 1 plv m.length (m.map dR):=hm.ne (aLA _)
 have hcl:=hmid.cl
 rw[aLv]at hcl
 refine dH hm hcl (BF _) (by omega) (by omega) λplv4 w4 o4 x4=> ?_
 rw[<-aLs,<-aL2]at o4
 have hlt4:=oP.lt
 have oP4:=oP.ext x4 (λh=>by omega)
 have oQ4:=oQ.ext x4 (λh=>by omega)
 have x04:aN w w4 bJ:=xW.trans x4 λy hy h=>by omega
 have oL4:L=[]∨aZ w4 bb (flat L'++rest):=by
  rcases hfb with h|⟨-,h1⟩
  .exact .inl h
  .rcases hL' with h|h
   .exact .inl h
   .exact .inr (h.ext x4 (λh=>by omega))
 refine(aCA (l:=m++(l.drop at').take (l.length-at')) o4.sl (by rw[aLs,hmidl];omega)).mono ?_
 rintro r w5 ⟨⟨xv,bytes,rfl,o5,hb1,hb2⟩,x5⟩
 have z4:=x4.size
 have z5:=x5.size
 have x05:=x04.seq x5
 have ld:∀{W'},aN w5 W' bJ->(aH 45 (.pointer (some ⟨p,0,none⟩))).run pg W'= .ok (.value (A9 x y z)) W':=λxx=>dJ (off:=0) ((oP4.ext x5 (λh=>h)).ext xx (λh=>h)) (by simp)
 have told:∀(W':aOm) (K:aOn->aOm->Prop),aN w5 W' bJ->(∀W'',aN w W'' bJ->aN W' W'' (λy=>y=q)->K (A9 x y z) W'')→
     aA pg (aM 45 (.pointer (some ⟨q,0,none⟩)) (A9 x y z)) W' λ_u w=>vV pg 45 (.pointer (some ⟨q,0,none⟩)) w λr1=>K r1 w:=by
  intro W' K xx hK
  refine cB ((oQ4.ext x5 (λh=>h)).ext xx (λh=>h)) rfl (by simp[one]) (by simp) λw6 o6 x6 s6=> ?_
  refine iQ o6 (by simp[aT]) ?_
  exact hK w6 ((x05.seq xx).trans x6 λy hy h=>by omega) x6
 simp(disch:=omega)only[SV,n0]
 have hcl5:Cl w5 3 (.slice fa L.length fc) (L'.map toQ).length (sqs (L'.map toQ)):=by
  rw[<-atC,aLv,hlen]
  refine⟨fa,fc,rfl,by rw[LC,hlen],λh0=> ?_⟩
  have hne:L≠[]:=λe=>by rw[e]at h0;cases h0
  obtain⟨h1,-⟩:=hfb.resolve_left hne
  have h2:=(oL4.resolve_left hne).ext x5 (λh=>h)
  refine⟨bb,0,h1,λi hi=> ?_⟩
  rw[aLI,h2.cell,aLU hi]
 refine(azN (hg.ext x05) hcl5 (λt ht k=> ?_) (by rw[aLv];omega)).mono ?_
 .obtain ⟨s,hs,rfl⟩:=aL5.1 ht
  obtain⟨h1,h2,h3⟩:=htok s hs
  unfold kv
  split
  .exact h1
  .split
   .exact h3
   .exact h2
 rintro r w6 ⟨hwr,x6⟩
 have z6:=x6.size
 rcases hwr with⟨-,rfl⟩|⟨-,yv,ys,rfl,o6,hyl,hy0,-,-⟩
 .have l6:=ld (x6.seq (aN.dr w6 bJ))
  simp(disch:=omega)only[SV,n1,l6]
  refine told (dr w6) (λr1 w=>RR (.tuple #[.slice none 0 0,r1,.int .i64 1]) w) (x6.seq (aN.dr _ bJ)) λW' xw xq=> ?_
  rw[hRR]
  exact⟨.inl ⟨1,x,y,z,by decide,rfl⟩,xw⟩
 .have hx6:Bs w6 xv bytes:=(o5.sl).ext x6 (aU _)
  have hy6:Bs w6 yv ys:=o6.sl
  have hx6':=hx6
  have hy6':=hy6
  obtain⟨xa,xc,rfl,-⟩:=hx6.len
  obtain⟨ya,yc,rfl,-⟩:=hy6.len
  rw[aLv]at hx6' hy6'
  rw[aLv,aLv]
  simp(disch:=omega)only[SV,n0]
  refine Sm (cells:= #[.slice xa bytes.length xc,.slice ya ys.length yc]) (by decide) (by decide) (by kernel_rfl) λw7 o7 x7 s7=> ?_
  have x5d:aN w5 (dr w6) bJ:=x6.seq (aN.dr _ bJ)
  have x57:=x5d.seq x7
  have hx7:Bs w7 (.slice xa bytes.length xc) bytes:=(hx6'.ext (aN.dr _ bJ) (aU _)).ext x7 (aU _)
  have hy7:Bs w7 (.slice ya ys.length yc) ys:=(hy6'.ext (aN.dr _ bJ) (aU _)).ext x7 (aU _)
  refine(aDF (l:=bytes) (m:=ys) o7 hx7 hy7 hb1 (by rw[aLs,hmidl]at hb2;omega) (by omega)).mono ?_
  rintro r w8 ⟨o8,x8⟩
  have x58:=x57.seq x8
  have l6:=ld x5d
  have l7:=ld x57
  have l8:=ld x58
  simp(disch:=omega)only[SV,l6,l7,l8]
  refine told w8 (λr1 w=>RR (.tuple #[r,r1,.int .i64 0]) w) x58 λW' xw xq=> ?_
  rw[hRR]
  refine⟨.inr ⟨r,bytes++ys,x,y,z,rfl, ?_,by rw[aLs];omega⟩,xw⟩
  exact(o8.ext xq (λy hy h=>by have:=x7.size;have:(dr w6).heap.size=w6.heap.size:=rfl;omega)).lower (by have:=x7.size;have:=x05.size;have:(dr w6).heap.size=w6.heap.size:=rfl;omega)
theorem aEB{v:aOn}{l:List UInt8}{lvl a b c:Nat}{w:aOm}(hg:xZ w)(h:Bs w v l)(hl:l.length<=30000)(hlv:lvl<=9):
 aK pg Bh #[v,.int .i64 0,.int .i64 (l.length:Nat),.int .i64 (lvl:Nat),A9 a b c] w (λr w'=>PkO w' w.heap.size r/\aN w w' bJ):=by
 refine Xf ?_
 obtain⟨RR,hRR⟩:∃RR:aOn->aOm->Prop,RR=λr w'=>PkO w' w.heap.size r/\aN w w' bJ:=⟨_,rfl⟩
 rw[<-hRR]
 have hv:=h
 obtain⟨va,vc,rfl,hvc0⟩:=h.len
 rw[aLv]at hv⊢
 unfold VS NS NR
 refine fC λw1 o1 x1 s1=> ?_
 have o1:aZ w1 w.heap.size (vF a b c):=o1
 obtain⟨p,hp⟩:∃p,p=w.heap.size:=⟨_,rfl⟩
 rw[<-hp]at o1⊢
 refine dU λw2 o2 x2 s2=> ?_
 obtain⟨q,hq⟩:∃q,q=w1.heap.size:=⟨_,rfl⟩
 rw[<-hq]at o2⊢
 have o2:aZ w2 q (vF 0 0 0):=o2
 have x02:=x1.seq x2
 have hv2:=hv.ext x02 (aU _)
 refine(aH3 (a0:=0) (to:=l.length) (lvl:=lvl) (B:=l) hlv (by omega) (aLA _) (by omega) hv2).mono ?_
 rintro r w3 ⟨⟨fv,L,bg,rfl,oL,hpl,hbl,-,-⟩,x3⟩
 have hL3:=(agN hpl (by omega)).1
 have n0:((0:Int) !=0)=false:=rfl
 have n1:((1:Int) !=0)=true:=rfl
 have z3:=x3.size
 have x03:=x02.seq x3
 obtain⟨fa,fc,bb,rest,rfl,hfb⟩:∃fa fc bb rest,fv= .slice fa L.length fc/\(L=[]∨(fa=some ⟨bb,0,none⟩/\w2.heap.size<=bb/\aZ w3 bb (flat L++rest))):=by
  rcases oL.2 with⟨e,h0⟩|⟨bb,c',rest,e,h2,h3,h4,h5⟩
  .have:L=[]:=aMc.1 h0
   exact⟨none,0,0,[],by rw[e,h0],.inl this⟩
  .exact ⟨_,c',bb,rest,e,.inr ⟨rfl,h2,h3⟩⟩
 have hpq:p≠q:=by omega
 obtain⟨b',hb'⟩:∃b',b'=(if L=[]then w3.heap.size else bb):=⟨_,rfl⟩
 obtain⟨B0,hB0⟩:∃B0,B0=w3.heap.size:=⟨_,rfl⟩
 have hS0:PkS w p q bb B0 l rest L bg 0 0 (.slice none 0 0) w3:=by
  refine⟨⟨L, ?_,rfl,rfl,auV (by omega) hpl⟩,⟨a,b,c,(o1.ext x2 (λh=>h)).ext x3 (λh=>h)⟩,o2.ext x3 (λh=>h),⟨[],pC.nil _ _ _,aMQ _⟩,hpl,aMQ _,x03⟩
  rcases hfb with h|⟨-,-,h⟩
  .exact .inl h
  .exact .inr h
 unfold EP EO NQ
 simp(disch:=omega)only[SV,n0]
 have z02:=x02.size
 have e00:((0:Nat):Int)=0:=rfl
 unfold zN
 obtain⟨Inv,hInv⟩:∃Inv:Nat->aOn×aOn×aOn->aOm->Prop,Inv=λm t W=>∃(i at':Nat) (plv:aOn),m=L.length-i/\i<=L.length/\t=(plv,.int .i64 (at':Nat),.int .i64 (i:Nat))/\PkS w p q bb B0 l rest L bg i at' plv W/\w3.heap.size<=W.heap.size:=⟨_,rfl⟩
 refine aX.rule Inv L.length (by rw[hInv];exact⟨0,0,_,rfl,aMQ _,rfl,hS0,aLA _⟩) ?_
 intro m t W hm
 rw[hInv]at hm
 obtain⟨i,at',plv,rfl,hi,rfl,hS,zW⟩:=hm
 by_cases hlt:i<L.length
 .have hne:L≠[]:=λe=>by rw[e]at hlt;cases hlt
  obtain⟨h1,h2,h3⟩:=hfb.resolve_left hne
  have h4:=h3.lt
  refine aEE (X:=λt W=>∃m',m'<L.length-i/\Inv m' t W) hS hv hl (by omega) hlt h1 ⟨by omega,by omega,by omega,by omega⟩ ⟨by omega,by omega,by omega,hpq,by omega,by omega⟩ (by omega) λat2 plv2 W2 hS2 z2=> ?_
  exact⟨L.length-(i+1),by omega,by rw[hInv];exact⟨i+1,at2,plv2,rfl,by omega,rfl,hS2,by omega⟩⟩
 .obtain rfl:i=L.length:=by omega
  unfold sQ
  have d0:decide (((L.length:Nat):Int)<((L.length:Nat):Int))=false:=decide_eq_false (by omega)
  simp(disch:=omega)only[SV,d0]
  refine aGF hRR hg hv (by rw[aLv]at hvc0;exact hvc0) hl (by omega) hS ?_ ⟨by omega,by omega,by omega⟩ ⟨by omega,by omega⟩ (by omega)
  rcases hfb with h|⟨h1,h2,h3⟩
  .exact .inl h
  .have:=h3.lt;exact .inr ⟨h1,by omega⟩
def aoH(l:List UInt8):List UInt8:=if BC l then aIM l.length (l.headD 0) true else aIH l
def aHB(w:aOm)(base:Nat)(l:List UInt8)(r:aOn):Prop:=∃(v:aOn) (a b c:Nat) (out:List UInt8),r= .tuple #[v,A9 a b c,.int .i64 0]/\pC w base 1 v out.length (out.map dR)/\(BC l=true∨l.length<=2->out=aoH l)/\out.length<=l.length+3
theorem aaH{RR:aOn->aOm->Prop}{w W:aOm}{l bl:List UInt8}{k sz p q x a b c bc:Nat}{ba:Option Addr}(hRR:RR=λr w'=>aHB w' w.heap.size l r/\aN w w' bJ)(hk:k<=2)(hsz:sz<2097152)
 (oX:aZ W x [.bool true,.int .i64 (k:Nat),.int .i64 (sz:Nat)]) (oP:aZ W p (vF a b c)) (oQ:aZ W q (vF 0 0 0)) (hpq:p≠q) (h0:w.heap.size<=q) (xW:aN w W bJ) (hbl:Bs W (.slice ba bl.length bc) bl) (hlen:bl.length<=70000) (hout:BC l=true∨l.length<=2->b3 (8*sz+2*k+1)++bl=aoH l) (hle:bl.length<=l.length):
 vD RR (.pointer (some ⟨p,0,none⟩)) (.pointer (some ⟨q,0,none⟩)) (.pointer (some ⟨x,0,none⟩)) (.slice ba bl.length bc) W:=by
 unfold vD
 have n0:((0:Int) !=0)=false:=rfl
 have ldx:(aH 65 (.pointer (some ⟨x,0,none⟩))).run pg W= .ok (.value (.agg #[.bool true,.int .i64 (k:Nat),.int .i64 (sz:Nat)])) W:=afI (off:=0) oX (by simp)
 simp(disch:=omega)only[SV,ldx]
 refine(arC hk hsz).mono ?_
 rintro r w5 ⟨hv5,rfl,o5,x5⟩
 have he1:(8*sz+2*k+if true=true then 1 else 0)=8*sz+2*k+1:=by simp
 rw[he1]at o5
 have ltp:=oP.lt
 have ltq:=oQ.lt
 have z5:=x5.size
 have x5d:aN W (dr w5) bJ:=x5.seq (aN.dr _ _)
 have l5d:(aH 45 (.pointer (some ⟨p,0,none⟩))).run pg (dr w5)= .ok (.value (A9 a b c)) (dr w5):=dJ (off:=0) (oP.ext x5d (λh=>h)) (by simp)
 simp(disch:=omega)only[SV,n0,l5d]
 have hb5:=hbl.ext x5d (aU _)
 have hcl:=hb5.cl
 rw[aLv]at hcl
 refine dH (o5.ext (aN.dr _ bJ) (λ_ _ h=>h)) hcl (BF _) (by show W.heap.size<=(dr w5).heap.size;exact z5) (by omega) λv6 w6 o6 x6=> ?_
 have o6:pC w6 W.heap.size 1 v6 (b3 (8*sz+2*k+1)++bl).length ((b3 (8*sz+2*k+1)++bl).map dR):=by
  rw[aLs,aL2];exact o6
 have zW:=xW.size
 have xW6:aN W w6 bJ:=x5d.trans x6 λy hy h=>by omega
 have l6:(aH 45 (.pointer (some ⟨p,0,none⟩))).run pg w6= .ok (.value (A9 a b c)) w6:=dJ (off:=0) (oP.ext xW6 (λh=>h)) (by simp)
 simp(disch:=omega)only[SV,l6,l5d]
 refine cB (oQ.ext xW6 (λh=>h)) rfl (by simp[one]) (by simp) λw7 o7 x7 s7=> ?_
 refine iQ o7 (by simp[aT]) ?_
 rw[hRR]
 refine⟨⟨v6,a,b,c,_,rfl,(o6.ext x7 λy hy h=>by omega).lower (by omega),hout, ?_⟩,(xW.seq xW6).trans x7 λy hy h=>by omega⟩
 rw[aLs]
 have:(b3 (8*sz+2*k+1)).length=3:=rfl
 omega
theorem aDz{v:aOn}{l:List UInt8}{lvl a b c:Nat}{w:aOm}(hg:xZ w)(h:Bs w v l)(hl:l.length<=30000)(hlv:lvl<=9):
 aK pg Cs #[v,.int .i64 0,.int .i64 (l.length:Nat),.int .i64 (lvl:Nat),A9 a b c] w (λr w'=>aHB w' w.heap.size l r/\aN w w' bJ):=by
 refine Yv ?_
 obtain⟨RR,hRR⟩:∃RR:aOn->aOm->Prop,RR=λr w'=>aHB w' w.heap.size l r/\aN w w' bJ:=⟨_,rfl⟩
 rw[<-hRR]
 have hv:=h
 obtain⟨va,vc,rfl,hvc⟩:=h.len
 rw[aLv]at hv hvc⊢
 unfold Yu QD QC
 refine fC λw1 o1 x1 s1=> ?_
 have o1:aZ w1 w.heap.size (vF a b c):=o1
 obtain⟨p,hp⟩:∃p,p=w.heap.size:=⟨_,rfl⟩
 rw[<-hp]at o1⊢
 refine dU λw2 o2 x2 s2=> ?_
 obtain⟨q,hq⟩:∃q,q=w1.heap.size:=⟨_,rfl⟩
 rw[<-hq]at o2⊢
 have o2:aZ w2 q (vF 0 0 0):=o2
 have hn:((l.length:Nat):Int).toNat=l.length:=aLx _
 have z0:(0:Int).toNat=0:=rfl
 have k1:(((l.length:Nat):Int)==((l.length:Nat):Int))=true:=beq_self_eq_true _
 have hs0:l.length-0=l.length:=rfl
 simp(disch:=omega)only[SV,hn,z0,k1,hs0]
 obtain⟨na,hna⟩:∃na,na=cW va vc 0 1:=⟨_,rfl⟩
 rw[<-hna]
 refine CH λw3 o3 x3 s3=> ?_
 obtain⟨x,hx⟩:∃x,x=w2.heap.size:=⟨_,rfl⟩
 rw[<-hx]at o3⊢
 refine vH o3 rfl (by simp[one]) (by simp) λw4 o4 x4 s4=> ?_
 have o4:aZ w4 x [.bool true,.int .i64 0,.int .i64 (l.length:Nat)]:=o4
 have x24:aN w2 w4 bJ:=x3.trans x4 λy hy h=>by omega
 have x04:aN w w4 bJ:=(x1.seq x2).seq x24
 have hpq:p≠q:=by omega
 have hxp:x≠p:=by omega
 have hxq:x≠q:=by omega
 have oP4:=(o1.ext x2 (λh=>h)).ext x24 (λh=>h)
 have oQ4:=o2.ext x24 (λh=>h)
 have lt4:x<w4.heap.size:=o4.lt
 have hold:¬JN (.slice na l.length (vc-0)) (λy=>w2.heap.size<=y):=by
  have:=Sl.take' (hv.ext (x1.seq x2) (aU _)) (k:=l.length) (aLA _)
  rw[<-hna]at this
  exact this.old
 have hsl:Bs w4 (.slice na l.length (vc-0)) l:=by
  have:=Sl.take' (hv.ext x04 (aU _)) (k:=l.length) (aLA _)
  rw[aLO (by rw[aLv];omega),<-hna]at this
  exact this
 obtain⟨nc,hnc⟩:∃nc,nc=vc-0:=⟨_,rfl⟩
 rw[<-hnc]at hsl hold⊢
 refine(aAo hsl (by omega)).mono ?_
 rintro r w5 ⟨rfl,x5⟩
 have o5:=o4.ext x5 (λh=>h)
 have oP5:=oP4.ext x5 (λh=>h)
 have oQ5:=oQ4.ext x5 (λh=>h)
 have x05:=x04.seq x5
 cases hal:BC l with
 |true=>
  have h1:1<=l.length:=by
   cases l with
   |nil=>cases hal
   |cons c r=>simp
  have hblk:aoH l=aIM l.length (l.headD 0) true:=by unfold aoH;rw[if_pos hal]
  have z1:(1:Int).toNat=1:=rfl
  have d1:(1:Int)<=(nc:Int):=by
   obtain⟨a',c',he,hc'⟩:=hsl.len
   simp only[Value.slice.injEq]at he
   rw[aLv]at hc'
   omega
  have hn10:1-0=1:=rfl
  simp(disch:=omega)only[SV,z1,hn10]
  obtain⟨ma,hma⟩:∃ma,ma=cW na nc 0 1:=⟨_,rfl⟩
  rw[<-hma]
  have s5d:=λ(W:aOm)=>eD (k:= .i64) (hi:=(1:Int)) na l.length nc W (by omega) (by omega)
  rw[<-hma]at s5d
  refine rF (off:=1) (o5.ext (aN.dr _ bJ) (λh=>h)) rfl (by simp) λw6 o6 x6 s6=> ?_
  simp only[aLy,aLB]at o6
  have x56:aN w5 w6 (λy=>y=x):=(aN.dr _ _).seq x6
  have x46:aN w4 w6 (λy=>y=x):=(x5.mono λ_ _ h=>h.elim).seq x56
  have hb6:Bs w6 (.slice ma 1 (nc-0)) [l.headD 0]:=by
   have:=Sl.take' (hsl.ext x46 λhi=> ?_) (k:=1) (by omega)
   .rw [<-hma]at this
    have e:(l.map dR).take 1=([l.headD 0]:List UInt8).map dR:=by
     cases l with
     |nil=>cases h1
     |cons c r=>rfl
    rw[e]at this
    exact this
   .exact hold (vE hi λy hy=>by omega)
  have t6:=aaH (bl:=[l.headD 0]) (k:=1) (sz:=l.length) hRR (by omega) (by omega) o6 (oP5.ext x56 (λh=>hxp h.symm)) (oQ5.ext x56 (λh=>hxq h.symm)) hpq (by omega) (x05.trans x56 λy hy h=>by omega) hb6 (by simp) (λ_=>by rw[hblk];unfold aIM smX;simp) (by simp;omega)
  first
   |exact t6
   |(simp(disch:=omega)only[SV,s5d,z1,hn10]
     exact t6)
   |(simp(disch:=omega)only[SV,s5d,z1,hn10])
 |false=>
  have l5:(aH 45 (.pointer (some ⟨p,0,none⟩))).run pg w5= .ok (.value (A9 a b c)) w5:=dJ (off:=0) oP5 (by simp)
  try simp(disch:=omega)only[SV,l5]
  refine(aEB (l:=l) (lvl:=lvl) (hg.ext x05) (hv.ext x05 (aU _)) hl hlv).mono ?_
  rintro r w6 ⟨ho,x6⟩
  have hb6:=(hsl.ext x5 (aU _)).ext x6 (aU _)
  have o6:=o5.ext x6 (λh=>h)
  have oP6:=oP5.ext x6 (λh=>h)
  have oQ6:=oQ5.ext x6 (λh=>h)
  have x06:=x05.seq x6
  have z6:=x06.size
  have raw:∀W,aN w6 W bJ->vD RR (.pointer (some ⟨p,0,none⟩)) (.pointer (some ⟨q,0,none⟩)) (.pointer (some ⟨x,0,none⟩)) (.slice na l.length nc) W:=λW xx=>
   aaH (k:=0) (sz:=l.length) hRR (by omega) (by omega) (o6.ext xx (λh=>h)) (oP6.ext xx (λh=>h)) (oQ6.ext xx (λh=>h)) hpq (by omega) (x06.seq xx) (hb6.ext xx (aU _)) (by omega) (λ_=>by unfold aoH;rw[if_neg (by rw[hal];decide)]<;>rfl) (aLA _)
  rcases ho with⟨e,a',b',c',he,rfl⟩|⟨xv,bytes,a',b',c',rfl,ox,hb2⟩
  .have e0:(e==0)=false:=beq_eq_false_iff_ne.2 he
   simp(disch:=omega)only[SV]
   refine dU λw7 o7 x7 s7=> ?_
   refine cB o7 rfl (by simp[one]) (by simp) λw8 o8 x8 s8=> ?_
   simp(disch:=omega)only[SV,e0]
   exact raw w8 (x7.trans x8 λy hy h=>by omega)
  .have e0:((0:Int)==0)=true:=rfl
   obtain⟨xa,xc,rfl⟩:=ox.len
   have hbx:Bs w6 (.slice xa bytes.length xc) bytes:=ox.sl
   by_cases hlt:bytes.length<l.length
   .have d1:decide ((bytes.length:Int)<(l.length:Int))=true:=decide_eq_true (by omega)
    simp(disch:=omega)only[SV]
    refine dU λw7 o7 x7 s7=> ?_
    obtain⟨u,hu⟩:∃u,u=w6.heap.size:=⟨_,rfl⟩
    rw[<-hu]at o7⊢
    refine cB o7 rfl (by simp[one]) (by simp) λw8 o8 x8 s8=> ?_
    have o8:aZ w8 u (vF a' b' c'):=o8
    have x68:aN w6 w8 bJ:=x7.trans x8 λy hy h=>by omega
    have lx:=o6.lt
    have lp:=oP6.lt
    have lq:=oQ6.lt
    have lu:∀{W} {M:Nat->Prop},aN w8 W M->¬M u->(aH 45 (.pointer (some ⟨u,0,none⟩))).run pg W= .ok (.value (A9 a' b' c')) W:=λxx hm=>dJ (off:=0) (o8.ext xx hm) (by simp)
    have l8:=lu (aN.dr w8 bJ) (λh=>h)
    simp(disch:=omega)only[SV,e0,d1,l8]
    refine rF (off:=1) (bV (o6.ext x68 (λh=>h))) rfl (by simp) λw9 o9 x9 s9=> ?_
    simp only[aLy,aLB]at o9
    have x89:aN w8 w9 (λy=>y=x):=(aN.dr _ _).seq x9
    have l9:=lu x89 (by omega)
    simp(disch:=omega)only[SV,l9]
    refine rF (off:=2) o9 rfl (by simp) λw10 o10 x10 s10=> ?_
    simp only[aLy,aLB]at o10
    have x8a:aN w8 w10 (λy=>y=x):=x89.seq x10
    have l10:=lu x8a (by omega)
    simp(disch:=omega)only[SV,l10]
    have oPa:=(oP6.ext x68 (λh=>h)).ext x8a (λh=>hxp h.symm)
    refine cB oPa rfl (by simp[one]) (by simp) λw11 o11 x11 s11=> ?_
    have o11:aZ w11 p (vF a' b' c'):=o11
    have lx5:=o5.lt
    have lp5:=oP5.lt
    have hba:Bs w11 (.slice xa bytes.length xc) bytes:=(((ox.ext x68 (λ_ _ h=>h)).ext x8a (λy hy h=>by omega)).ext x11 (λy hy h=>by omega)).sl
    have xf:aN w w11 bJ:=((x06.seq x68).trans x8a λy hy h=>by omega).trans x11 λy hy h=>by omega
    exact aaH (k:=2) (sz:=bytes.length) hRR (by omega) (by omega) (o10.ext x11 (λh=>hxp h)) o11 (((oQ6.ext x68 (λh=>h)).ext x8a (λh=>hxq h.symm)).ext x11 (λh=>hpq h.symm)) hpq (by omega) xf hba (by omega) (λhh=>by
     rcases hh with h|h
     .rw [hal]at h;cases h
     .omega) (by omega)
   .have d1:decide ((bytes.length:Int)<(l.length:Int))=false:=decide_eq_false (by omega)
    simp(disch:=omega)only[SV]
    refine dU λw7 o7 x7 s7=> ?_
    refine cB o7 rfl (by simp[one]) (by simp) λw8 o8 x8 s8=> ?_
    simp(disch:=omega)only[SV,e0,d1]
    exact raw w8 (x7.trans x8 λy hy h=>by omega)
theorem apC{v:aOn}{lvl:Int}{s:Bool}{w:aOm}(h:lvl<0∨9<lvl):aK pg lP #[v,.int .i64 lvl,.bool s] w (λr w'=>r= .tuple #[.slice none 0 0,.int .i64 1]/\w'=w):=by
 refine Jk ?_
 unfold Mm CY CX
 by_cases h0:lvl<0
 .have d1:decide (lvl<0)=true:=decide_eq_true h0
  simp(disch:=omega)only[aA,fM,d1,true_and,aF,Dj,jX,if_true,bD,gF]
 .have d1:decide (lvl<0)=false:=decide_eq_false h0
  have d2:decide ((9:Int)<lvl)=true:=decide_eq_true (by omega)
  simp(disch:=omega)only[aA,fM,d1,true_and,aF,Ao,jX,aLF,if_false,jF,tA,d2,bD]
theorem aDT{R:aOn->aOm->Prop}{S:Nat->Prop}{base:Nat}{v0 vo:aOn}{b out:List UInt8}{s:Bool}{w:aOm}(h0:Bs w v0 b)(hb:b.length<=1000000)(ho:Ah w S 1 vo out.length (out.map dR))(hout:out.length<=1000000)(hS:∀b,w.heap.size<=b->S b)
 (hk:∀w' vr,Ah w' S 1 vr (out++enT b s).length ((out++enT b s).map dR)->aN w w' S->R (.tuple #[vr,.int .i64 0]) w'):
 zJ R v0 (.bool s) vo w:=by
 unfold zJ NO
 cases s with
 |false=>
  unfold enT at hk
  simp only[aLF,if_false,aMf]at hk
  simp(disch:=omega)only[aA,aR]
  unfold zI
  exact hk w vo ho (aN.refl _ _)
 |true=>
  unfold enT at hk
  simp only[if_true]at hk
  simp(disch:=omega)only[aA,bD]
  refine(aFA b (by omega) v0 w h0).mono ?_
  rintro r w1 ⟨rfl,x1⟩
  rw[aHc]
  obtain⟨X,hX⟩:∃X,X=XN b:=⟨_,rfl⟩
  have hXl:=aHb b
  rw[<-hX]at hXl hk⊢
  have q1:(X:Int).fdiv (2^min (Int.toNat 8) IntKind.u64.bits)=((X/256:Nat):Int):=by
   have:(2:Int)^min (Int.toNat 8) IntKind.u64.bits=256:=by decide
   rw[this,aMh _ (by omega)];omega
  have q2:(X:Int).fdiv (2^min (Int.toNat 16) IntKind.u64.bits)=((X/65536:Nat):Int):=by
   have:(2:Int)^min (Int.toNat 16) IntKind.u64.bits=65536:=by decide
   rw[this,aMh _ (by omega)];omega
  have q3:(X:Int).fdiv (2^min (Int.toNat 24) IntKind.u64.bits)=((X/16777216:Nat):Int):=by
   have:(2:Int)^min (Int.toNat 24) IntKind.u64.bits=16777216:=by decide
   rw[this,aMh _ (by omega)];omega
  simp(disch:=omega)only[fB,wu8,nZ,q1,q2,q3,aF]
  refine iM (cells:= #[.int .u8 ((X:Int)%256),.int .u8 (((X/256:Nat):Int)%256),.int .u8 (((X/65536:Nat):Int)%256),.int .u8 (((X/16777216:Nat):Int)%256)]) (by decide) (by decide) (by kernel_rfl) λw2 o2 x2 s2=> ?_
  have hc:(#[.int .u8 ((X:Int)%256),.int .u8 (((X/256:Nat):Int)%256),.int .u8 (((X/65536:Nat):Int)%256),.int .u8 (((X/16777216:Nat):Int)%256)]:Array aOn).toList=(dM X 4).map dR:=by
   simp only[dM,aL7,aN3,dR]
   rw[ofN (by omega),ofN (by omega),ofN (by omega),ofN (by omega),aMV,aMV]
   rfl
  rw[hc]at o2
  have hb2:=aIu o2
  rw[bS]at hb2
  have z1:=x1.size
  have z2:=x2.size
  refine apB ((ho.ext x1 λ_ _ h=>h).ext x2 λ_ _ h=>h) hb2 (λy hy=>hS y (by omega)) (by rw[bS];omega) λv3 w3 o3 x3=> ?_
  unfold zI
  exact hk w3 v3 o3 ((((x1.seq x2).mono λ_ _ h=>h.elim).seq x3))
theorem atD{v:aOn}{l:List UInt8}{lvl:Nat}{s:Bool}{w:aOm}(hg:xZ w)(h:Bs w v l)(hl:l.length<=30000)(hlv:lvl<=9):
 aK pg lP #[v,.int .i64 (lvl:Nat),.bool s] w (λr w'=>(∃x out,r= .tuple #[x,.int .i64 0]/\pC w' w.heap.size 1 x (enF l out s).length ((enF l out s).map dR)/\(BC l=true∨l.length<=2->out=aoH l)/\out.length<=l.length+3)/\aN w w' bJ):=by
 refine Jk ?_
 obtain⟨RR,hRR⟩:∃RR:aOn->aOm->Prop,RR=λr w'=>(∃x out,r= .tuple #[x,.int .i64 0]/\pC w' w.heap.size 1 x (enF l out s).length ((enF l out s).map dR)/\(BC l=true∨l.length<=2->out=aoH l)/\out.length<=l.length+3)/\aN w w' bJ:=⟨_,rfl⟩
 rw[<-hRR]
 have hv:=h
 obtain⟨va,vc,rfl,hvc⟩:=h.len
 rw[aLv]at hv hvc⊢
 have d1:decide ((lvl:Int)<0)=false:=decide_eq_false (by omega)
 have d2:decide ((9:Int)<(lvl:Int))=false:=decide_eq_false (by omega)
 have d3:decide ((4194304:Int)<(l.length:Int))=false:=decide_eq_false (by omega)
 have e1:IntKind.u64.wrap ((l.length:Nat):Int)=((l.length:Nat):Int):=gP (by omega) (by omega)
 unfold Mm CY CX
 simp(disch:=omega)only[SV,d1,d2,d3,e1]
 refine(apD (n:=l.length) (by omega)).mono ?_
 rintro r w1 ⟨o1,x1⟩
 refine aAH.mono ?_
 rintro r1 w2 ⟨rfl,x2⟩
 refine dU λw3 o3 x3 s3=> ?_
 obtain⟨p,hp⟩:∃p,p=w2.heap.size:=⟨_,rfl⟩
 rw[<-hp]at o3⊢
 refine cB o3 rfl (by simp[one]) (by simp) λw4 o4 x4 s4=> ?_
 have o4:aZ w4 p [.int .u32 (1:Nat),.int .u32 (4:Nat),.int .u32 (8:Nat)]:=o4
 have z1:=x1.size
 have z2:=x2.size
 have x24:aN w2 w4 bJ:=x3.trans x4 λy hy h=>by omega
 have x04:aN w w4 bJ:=(x1.seq x2).seq x24
 have z4:=x04.size
 let S:Nat->Prop:=λy=>w.heap.size<=y/\y≠p
 have S4:Ah w4 S 1 r (Dp l.length s).length ((Dp l.length s).map dR):=(((pC.ne o1 (by omega)).ext x2 (λ_ _ h=>h)).ext x24 (λ_ _ h=>h))
 have hpl:=ajH l.length s
 have lt4:p<w4.heap.size:=o4.lt
 unfold EN EM NP zL
 refine aX.rule (λm (t:aOn×aOn) W=>(m=1/\t=(r,.int .i64 0)/\W=w4)∨(m=0/\∃vo out,t=(vo,.int .i64 65536)/\Ah W S 1 vo (Dp l.length s++out).length ((Dp l.length s++out).map dR)/\aN w W bJ/\p<W.heap.size/\(BC l=true∨l.length<=2->out=aoH l)/\out.length<=l.length+3)) 1 (.inl ⟨rfl,rfl,rfl⟩) ?_
 rintro m t W (⟨rfl,rfl,rfl⟩|⟨rfl,vo,out,rfl,oW,xW,ltW,hou1,hou2⟩)
 .unfold zK
  have k1:((0:Int)==0)=true:=rfl
  have k3:(0:Int)+65536=65536:=rfl
  have k4:(if((l.length:Nat):Int)<(65536:Int)then((l.length:Nat):Int)else(65536:Int))=((l.length:Nat):Int):=by split<;>omega
  have ld:(aH 45 (.pointer (some ⟨p,0,none⟩))).run pg W= .ok (.value (A9 1 4 8)) W:=dJ (off:=0) o4 (by simp)
  simp(disch:=omega)only[SV,k1,k3,k4,ld]
  have hv4:=hv.ext x04 (aU _)
  have hb:=aDz (lvl:=lvl) (a:=1) (b:=4) (c:=8) (hg.ext x04) hv4 hl hlv
  refine hb.mono ?_
  rintro r5 w5 ⟨⟨bv,a',b',c',out,rfl,o5,hou1,hou2⟩,x5⟩
  have n0:((0:Int) !=0)=false:=rfl
  simp(disch:=omega)only[SV]
  refine dU λw6 o6 x6 s6=> ?_
  obtain⟨q,hq⟩:∃q,q=w5.heap.size:=⟨_,rfl⟩
  rw[<-hq]at o6⊢
  refine cB o6 rfl (by simp[one]) (by simp) λw7 o7 x7 s7=> ?_
  have o7:aZ w7 q [.int .u32 (a':Nat),.int .u32 (b':Nat),.int .u32 (c':Nat)]:=o7
  have z5:=x5.size
  have x57:aN w5 w7 bJ:=x6.trans x7 λy hy h=>by omega
  have x47:=x5.seq x57
  have xd:aN w5 (dr w7) bJ:=x57.seq (aN.dr _ bJ)
  have ldq:∀{W'},aN w7 W' (λy=>S y/\y≠q)->(aH 45 (.pointer (some ⟨q,0,none⟩))).run pg W'= .ok (.value (A9 a' b' c')) W':=λxx=>dJ (off:=0) (o7.ext xx λhh=>hh.2 rfl) (by simp)
  have l7:=ldq (aN.dr w7 _)
  simp(disch:=omega)only[SV,n0,l7]
  have hpq:p≠q:=by omega
  have hb5:Bs w5 bv out:=o5.sl
  have hb7:Bs (dr w7) bv out:=hb5.ext xd (aU _)
  let S2:Nat->Prop:=λy=>S y/\y≠q
  have S7:Ah (dr w7) S2 1 r (Dp l.length s).length ((Dp l.length s).map dR):=by
   have hS:=S4
   have:=hS.2
   refine⟨hS.1, ?_⟩
   have S7':=((S4.ext x47 (λ_ _ h=>h)).ext (aN.dr _ bJ) (λ_ _ h=>h)).2
   rcases this with⟨h,h0⟩|⟨b1,c1,rest,h1,h2,h3,h4⟩
   .exact .inl ⟨h,h0⟩
   .have hlt:=h3.lt
    exact .inr ⟨b1,c1,rest,h1,⟨h2,by omega⟩,(h3.ext x47 (λh=>h)).ext (aN.dr _ bJ) (λh=>h),h4⟩
  have zd:(dr w7).heap.size=w7.heap.size:=rfl
  have lt7:q<w7.heap.size:=o7.lt
  refine apB S7 hb7 (λy hy=>⟨⟨by omega,by omega⟩,by omega⟩) (aMu (Nat.add_le_add hpl hou2) (aMu (Nat.add_le_add_left (Nat.add_le_add_right hl 3) 7) (by decide))) λv8 w8 o8 x8=> ?_
  have l8:=ldq ((aN.dr w7 _).seq x8)
  have zz8:=x8.size
  simp(disch:=omega)only[SV,l7,l8]
  have oP8:aZ w8 p [.int .u32 (1:Nat),.int .u32 (4:Nat),.int .u32 (8:Nat)]:=((o4.ext x47 (λh=>h)).ext (aN.dr _ bJ) (λh=>h)).ext x8 (λhh=>hh.1.2 rfl)
  refine cB oP8 rfl (by simp[one]) (by simp) λw9 o9 x9 s9=> ?_
  refine⟨0,by omega,.inr ⟨rfl,v8,out,rfl, ?_, ?_,by have:=x47.size;omega,hou1,hou2⟩⟩
  .have:=o8.ext x9 (λy hy hh=>by rw[hh]at hy;exact hy.1.2 rfl)
   refine⟨this.1, ?_⟩
   rcases this.2 with h|⟨b1,c1,rest,h1,h2,h3⟩
   .exact .inl h
   .exact .inr ⟨b1,c1,rest,h1,h2.1,h3⟩
  .exact (((x04.seq x47).seq (aN.dr _ bJ)).trans x8 λy hy h=>by have:=h.1.1;omega).trans x9 λy hy h=>by omega
 .unfold zK
  have k1:((65536:Int)==0)=false:=rfl
  have d4:decide ((65536:Int)<((l.length:Nat):Int))=false:=decide_eq_false (by omega)
  simp(disch:=omega)only[SV,k1,d4]
  refine aDT (S:=S) (b:=l) (out:=Dp l.length s++out) (base:=0) (hv.ext xW (aU _)) (by omega) oW (by rw[aLs];omega) (λy hy=>⟨by have:=xW.size;omega,by omega⟩) λw' vr ov xv=> ?_
  rw[aLJ]at ov
  have ov:Ah w' S 1 vr (enF l out s).length ((enF l out s).map dR):=ov
  rw[hRR]
  refine⟨⟨vr,out,rfl,⟨ov.1, ?_⟩,hou1,hou2⟩,xW.trans xv λy hy h=>by have:=h.1;omega⟩
  rcases ov.2 with h|⟨b1,c1,rest,h1,h2,h3⟩
  .exact .inl h
  .exact .inr ⟨b1,c1,rest,h1,h2.1,h3⟩
theorem aE1 (l:List UInt8):((⟨l.toArray⟩:ByteArray).toList==(⟨l.toArray⟩:ByteArray).toList)=true:=beq_self_eq_true _
theorem aHj:enF [7,8] (aoH [7,8]) false=[40,181,47,253,32,2,17,0,0,7,8]:=by decide+kernel
def bnd(n:Int):Int:=if n<0 then 0 else((n.toNat+18+6*((n.toNat+131071)/131072):Nat):Int)
theorem aoI(N:Nat):bnd (N:Nat)=((N+18+6*((N+131071)/131072):Nat):Int):=by
 unfold bnd;rw[if_neg (by omega),aLx]
theorem ahC{n:Int}{w:aOm}(hn:n<=16777216):aK pg rY #[.int .i64 n] w (λr w'=>r= .int .i64 (bnd n)/\w'=w):=by
 refine Yr ?_
 unfold Yq Qz
 by_cases h0:n<0
 .have d1:decide (n<0)=true:=decide_eq_true h0
  unfold bnd
  rw[if_pos h0]
  simp(disch:=omega)only[SV,d1]
 .obtain ⟨N,rfl⟩:∃N:Nat,n=(N:Int):=⟨n.toNat,by omega⟩
  rw[aoI]
  have d1:decide (((N:Nat):Int)<0)=false:=decide_eq_false h0
  have a1:((N:Nat):Int)+18=((N+18:Nat):Int):=by omega
  have a2:((N:Nat):Int)+131072=((N+131072:Nat):Int):=by omega
  have a3:((N+131072:Nat):Int)-1=((N+131071:Nat):Int):=by omega
  obtain⟨Q,hQ⟩:∃Q,Q=(N+131071)/131072:=⟨_,rfl⟩
  have q1:((N+131071:Nat):Int).tdiv 131072=((Q:Nat):Int):=by rw[hQ]<;>rfl
  have hQ2:Q<=200:=by omega
  rw[<-hQ]
  have m1:(6:Int)*((Q:Nat):Int)=((6*Q:Nat):Int):=by omega
  have m2:((N+18:Nat):Int)+((6*Q:Nat):Int)=((N+18+6*Q:Nat):Int):=by omega
  have n5:((131072:Int)==0)=false:=rfl
  clear hQ
  simp(disch:=omega)only[SV,d1,a1,a2,a3,q1,m1,m2,n5]
theorem azE{n:Int}{w:aOm}(hn:n<=16777216):aK pg FU #[.int .i64 n] w (λr w'=>r= .int .i64 (bnd n)/\w'=w):=by
 refine acG ?_
 unfold aeB TL TK
 by_cases h0:n<0
 .have d1:decide (n<0)=true:=decide_eq_true h0
  unfold bnd
  rw[if_pos h0]
  simp(disch:=omega)only[SV,d1]
 .obtain ⟨N,rfl⟩:∃N:Nat,n=(N:Int):=⟨n.toNat,by omega⟩
  rw[aoI]
  have d1:decide (((N:Nat):Int)<0)=false:=decide_eq_false h0
  simp(disch:=omega)only[SV,d1]
  unfold Kh Kg TJ Du
  refine aX.rule (λm (t:aOn×aOn) w'=>∃k:Nat,m=200-k/\k<=(N+131071)/131072/\t=(.int .i64 (k:Nat),.int .i64 ((131072*k:Nat):Int))/\w'=w) 200 ⟨0,rfl,aMQ _,rfl,rfl⟩ ?_
  rintro m t w' ⟨k,rfl,hk,rfl,rfl⟩
  unfold Kf
  by_cases hlt:131072*k<N
  .have d2:decide (((131072*k:Nat):Int)<((N:Nat):Int))=true:=decide_eq_true (by omega)
   have a1:((k:Nat):Int)+1=((k+1:Nat):Int):=by omega
   have a2:((131072*k:Nat):Int)+131072=((131072*(k+1):Nat):Int):=by omega
   simp(disch:=omega)only[SV,d2,a1,a2]
   first
    |exact⟨200-(k+1),by omega,k+1,rfl,by omega,rfl⟩
    |exact⟨200-(k+1),by omega,k+1,rfl,by omega,rfl,rfl⟩
  .have d2:decide (((131072*k:Nat):Int)<((N:Nat):Int))=false:=decide_eq_false (by omega)
   have hk2:k=(N+131071)/131072:=by omega
   rw[<-hk2]
   have hk3:k<=200:=by omega
   have a1:((N:Nat):Int)+18=((N+18:Nat):Int):=by omega
   have m1:(6:Int)*((k:Nat):Int)=((6*k:Nat):Int):=by omega
   have m2:((N+18:Nat):Int)+((6*k:Nat):Int)=((N+18+6*k:Nat):Int):=by omega
   unfold Kd
   clear hk2
   simp(disch:=omega)only[SV,d2,a1,m1,m2]
theorem awY{w:aOm}(hg:xZ w):aK pg FT #[] w (λr w'=>r= .bool true/\aN w w' bJ):=by
 refine abM ?_
 unfold adU Tm
 refine iM (cells:= #[.int .u8 7,.int .u8 8]) (by decide) (by decide) (by kernel_rfl) λw1 o1 x1 s1=> ?_
 have b1:Bs w1 (.slice (some ⟨w.heap.size,0,none⟩) 2 2) [7,8]:=o1.bs (off:=0) (c:=2) (l:=[7,8]) (by decide) (λi hi=>by
  match i,hi with
  |0,_=>rfl
  |1,_=>rfl)
 refine(atD (lvl:=0) (s:=false) (hg.ext x1) b1 (by decide) (by omega)).mono ?_
 rintro r w2 ⟨⟨x,out,rfl,o2,ho,-⟩,x2⟩
 rw[ho (.inr (by decide)),aHj]at o2
 have b2:Bs w2 x [40,181,47,253,32,2,17,0,0,7,8]:=o2.sl
 simp(disch:=omega)only[SV]
 have hdec:dec [40,181,47,253,32,2,17,0,0,7,8] 22 100=some (.ok ([7,8],1,0)):=by
  have:=aF4 (b:=[7,8]) (log:=22) (most:=100) (s:=false) (by decide) (by decide) (by decide)
  rw[<-aHj]
  exact this
 refine(aDN (log:=22) (most:=100) b2 (by decide) (by omega) (by omega) hdec).mono ?_
 rintro r w3 ⟨y,rfl,b3,x3⟩
 simp(disch:=omega)only[SV]
 refine(apC (.inr (by decide))).mono ?_
 rintro r w4 ⟨rfl,h4⟩
 rw[h4];clear h4 w4
 have b2':=b2.ext x3 (aU _)
 have b2s:=b2'
 obtain⟨xa,xc,rfl,hxc⟩:=b2'.len
 have hl11:(List.map dR [40,181,47,253,32,2,17,0,0,7,8]).length=11:=rfl
 rw[hl11]at b2s hxc⊢
 have hsl:Bs w3 (.slice (cW xa xc 0 1) (6-0) (xc-0)) [40,181,47,253,32,2]:=by
  have:=Sl.take' b2s (k:=6) (by omega)
  exact this
 have z6:(6:Int).toNat=6:=rfl
 have hs1:=Jf hsl
 have hs2:=Jf b3
 have e1:=aE1 [40,181,47,253,32,2]
 have e2:=aE1 [7,8]
 have d1:decide ((6:Int)<((11:Nat):Int))=true:=rfl
 have n0:((0:Int)==0)=true:=rfl
 have n1:((1:Int)==1)=true:=rfl
 have n29:((29:Int)==29)=true:=rfl
 simp(disch:=omega)only[SV,n0,n1,d1,z6,hs1,hs2,e1,e2,aIC,decide_true,decide_false]
 refine(ahC (n:=5) (by decide)).mono ?_
 rintro r w4 ⟨rfl,h4⟩
 rw[h4];clear h4 w4
 have hb5:bnd 5=29:=by decide
 rw[hb5]
 simp(disch:=omega)only[SV,n29,decide_true,decide_false]
 exact(x1.seq x2).seq x3
theorem alC{bv:aOn}{l:List UInt8}{lv:Nat}{n:Int}{w:aOm}(hg:xZ w)(h:Bs w bv l)(hl:l.length<=9223372036854775807)(hlv:lv<256):
 aK pg Ag #[bv,.int .u8 (lv:Nat),.int .i64 n] w (λr w'=>r= .bool true/\aN w w' bJ):=by
 refine PM ?_
 obtain⟨RR,hRR⟩:∃RR:aOn->aOm->Prop,RR=λr w'=>r= .bool true/\aN w w' bJ:=⟨_,rfl⟩
 rw[<-hRR]
 have hv:=h
 obtain⟨va,vc,rfl,hvc⟩:=h.len
 rw[aLv]at hv⊢
 unfold LF GG
 refine(awY hg).mono ?_
 rintro r w1 ⟨rfl,x1⟩
 by_cases hL:3000<l.length
 .have d1:decide ((3000:Int)<((l.length:Nat):Int))=true:=decide_eq_true (by omega)
  simp(disch:=omega)only[SV,d1]
  rw[hRR]
  exact⟨rfl,x1⟩
 .have d1:decide ((3000:Int)<((l.length:Nat):Int))=false:=decide_eq_false (by omega)
  by_cases hN:16777216<n
  .have d2:decide ((16777216:Int)<n)=true:=decide_eq_true hN
   simp(disch:=omega)only[SV,d1,d2]
   rw[hRR]
   exact⟨rfl,x1⟩
  .have d2:decide ((16777216:Int)<n)=false:=decide_eq_false hN
   have e1:((lv:Nat):Int).tmod 10=((lv%10:Nat):Int):=rfl
   have e2:IntKind.u8.wrap ((lv%10:Nat):Int)=((lv%10:Nat):Int):=Qg (by omega) (by omega)
   have e3:IntKind.i64.wrap ((lv%10:Nat):Int)=((lv%10:Nat):Int):=cX (by omega) (by omega)
   have n10:((10:Int)==0)=false:=rfl
   simp(disch:=omega)only[SV,d1,d2,e1,e2,e3,n10]
   refine(atD (lvl:=lv%10) (s:=true) (hg.ext x1) (hv.ext x1 (aU _)) (by omega) (by omega)).mono ?_
   rintro r w2 ⟨⟨x,out,rfl,o2,-,ho⟩,x2⟩
   obtain⟨xa,xc,rfl⟩:=o2.len
   have n0:((0:Int)==0)=true:=rfl
   simp(disch:=omega)only[SV,n0]
   refine(ahC (by omega)).mono ?_
   rintro r w3 ⟨rfl,h3⟩
   rw[h3];clear h3 w3
   have hle:decide ((((enF l out true).length:Nat):Int)<=bnd ((l.length:Nat):Int))=true:=by
    refine decide_eq_true ?_
    rw[aoI]
    have:=aGc (b:=l) (blk:=out) (s:=true)
    omega
   simp(disch:=omega)only[SV,n0,hle]
   refine(ahC (by omega)).mono ?_
   rintro r w3 ⟨rfl,h3⟩
   rw[h3];clear h3 w3
   try simp(disch:=omega)only[SV]
   refine(azE (by omega)).mono ?_
   rintro r w3 ⟨rfl,h3⟩
   rw[h3];clear h3 w3
   have nn:(bnd n==bnd n)=true:=beq_self_eq_true _
   simp(disch:=omega)only[SV,nn]
   rw[hRR]
   exact⟨rfl,x1.seq x2⟩
end Go.Proofs.YtoecppploooloaaGreatDoor
